/- wire.Get: what it answers, for every string. -/
import Derived.Deep.RegionHeld3
import Derived.Deep.CutBlock
import Derived.Test.YtjklgdpffmaamaaProg
import Derived.Below
import Derived.Deep.Draws
import Derived.Deep.AppendLies
import Derived.Maps.AppendAt
import Derived.OwnWalk
import Derived.Laws.BytesArg
import Derived.Laws.MakeOwn
import Derived.Laws.OwnMore
import Derived.Deep.OwnRows
import Derived.Tactics
import Derived.Lib.ConvBytes
import Derived.Laws.Slices
import Derived.WalkKit
import Derived.KernelRfl
import Derived.RowKit3
import Derived.Deep.LoopGhost
import Derived.Deep.QuietTactic
import Derived.BigQuiet
import Derived.WideLaws
import Derived.Deep.DeepCutAuto
import Derived.Laws.Rows
import Derived.Lib.AppendStr
import Derived.ArgAppend
import Derived.Laws.IdiomCopy
import Derived.OrdersHeld
import Derived.Laws.BitsLemmas
import Derived.RowKit
import Derived.Test.YtjklgdpffmaamaaSf1
import Derived.Test.YtjklgdpffmaamaaSf2
import Derived.Test.YtjklgdpffmaamaaSf3
import Derived.Test.YtjklgdpffmaamaaSf4
namespace Go.Proofs.Ytjklgdpffmaamaa.Wm
open Go.RowKit Go.PlainAid Go.Maps Go.Proofs.Ytjklgdpffmaamaa.Base Go.Proofs.Ytjklgdpffmaamaa.Oct Go.Proofs.Ytjklgdpffmaamaa.Nm
open Go.Proofs.YtjklgdpffmaamaaW.PrintWords (blk_cell blk_below blk_put blk_frozen blk_ne blk_new blk_lt blk_grown LeO own_nil own_ne own_other own_setCell)
set_option linter.unusedVariables false
structure Got where
  h : Hd.Head
  qs : List Qn
  an : List Rr
  ns : List Rr
  ar : List Rr
  e : Int
def got0 (e : Int) : Got := ⟨Hd.head0, [], [], [], [], e⟩
/-- What is read. -/
def getV (k : Nat) (s : ByteArray) : Option Got :=
  if 4096 < s.size then some (got0 701) else if s.size < 12 then some (got0 700) else
    (listQ k s (be2 s 4).toNat ⟨12, false⟩).bind fun q => (listR k s (be2 s 6).toNat q.2).bind fun a => (listR k s (be2 s 8).toNat a.2).bind fun b => (listR k s (be2 s 10).toNat b.2).bind fun c =>
      if c.2.bad || c.2.at_ != (s.size : Int) then some (got0 700) else some ⟨Hd.getH s, q.1, a.1, b.1, c.1, 0⟩
abbrev hcells (h : Hd.Head) : List Value := [.int .i64 h.id, .bool h.qr, .int .i64 h.op, .bool h.aa, .bool h.tc, .bool h.rd, .bool h.ra, .int .i64 h.z, .int .i64 h.rc]
abbrev mz : Array Value := #[.int .i64 0, .bool false, .int .i64 0, .bool false, .bool false, .bool false, .bool false, .int .i64 0, .int .i64 0, .slice none 0 0, .slice none 0 0, .slice none 0 0, .slice none 0 0]
/-- What the answer is, and where its rows lie. -/
def GetPost (s : ByteArray) (w : World) (r : Got) (e : Ending) (w' : World) : Prop :=
  ∃ vq va vn vr, e = .returned (.tuple #[.agg #[.int .i64 r.h.id, .bool r.h.qr, .int .i64 r.h.op, .bool r.h.aa, .bool r.h.tc, .bool r.h.rd, .bool r.h.ra, .int .i64 r.h.z, .int .i64 r.h.rc, vq, va, vn, vr], .int .i64 r.e]) ∧
    w'.ownsRow w.heap.size 40 3 vq r.qs.length (cellsQ r.qs) ∧ w'.ownsRow w.heap.size 53 5 va r.an.length (cellsR r.an) ∧ w'.ownsRow w.heap.size 53 5 vn r.ns.length (cellsR r.ns) ∧ w'.ownsRow w.heap.size 53 5 vr r.ar.length (cellsR r.ar) ∧
    (∀ k, va.ownBlock = some k → some k ≠ vn.ownBlock ∧ some k ≠ vr.ownBlock) ∧ (∀ k, vn.ownBlock = some k → some k ≠ va.ownBlock ∧ some k ≠ vr.ownBlock) ∧ (∀ k, vr.ownBlock = some k → some k ≠ va.ownBlock ∧ some k ≠ vn.ownBlock) ∧ Below w.heap.size w w'
theorem post0 (s : ByteArray) (w w' : World) (e : Int) (hb : Below w.heap.size w w') : GetPost s w (got0 e) (.returned (.tuple #[.agg mz, .int .i64 e])) w' :=
  ⟨_, _, _, _, rfl, own_nil _ _ _ _, own_nil _ _ _ _, own_nil _ _ _ _, own_nil _ _ _ _, fun k h => by simp [Value.ownBlock] at h, fun k h => by simp [Value.ownBlock] at h, fun k h => by simp [Value.ownBlock] at h, hb⟩
/-- Values written one behind the other into a block. -/
def putAll (w : World) (g : Nat) : Nat → List Value → World
  | _, [] => w
  | i, v :: vs => putAll (w.setCell ⟨g, i, none⟩ v) g (i + 1) vs
def setAll (cs : Array Value) : Nat → List Value → Array Value
  | _, [] => cs
  | i, v :: vs => setAll (cs.setIfInBounds i v) (i + 1) vs
theorem putAll_ne {w : World} {g k : Nat} (i : Nat) (vs : List Value) (h : k ≠ g) : (putAll w g i vs).heap[k]? = w.heap[k]? := by
  induction vs generalizing w i with
  | nil => rfl
  | cons v vs ih => exact (ih (i + 1)).trans (Below.heap_setCell w _ v k h)
theorem putAll_blk {w : World} {g : Nat} {t : TypeId} {cs : Array Value} (i : Nat) (vs : List Value) (cs' : Array Value) (h : w.heap[g]? = some (.cells cs t (0, 0))) (e : setAll cs i vs = cs' := by rfl) : (putAll w g i vs).heap[g]? = some (.cells cs' t (0, 0)) := by
  subst e
  induction vs generalizing w i cs with
  | nil => exact h
  | cons v vs ih => exact ih (i + 1) (blk_put h i v rfl)
theorem putAll_own {w : World} {g b : Nat} {e : TypeId} {size n : Nat} {v : Value} {xs : List Value} (i : Nat) (vs : List Value) (h : w.ownsRow b e size v n xs) (hne : some g ≠ v.ownBlock) : (putAll w g i vs).ownsRow b e size v n xs := by
  induction vs generalizing w i with
  | nil => exact h
  | cons u vs ih => exact ih (i + 1) (own_setCell (p := ⟨g, i, none⟩) h hne u)
theorem putAll_grown {w0 w : World} {g : Nat} {row : Option Nat} (i : Nat) (vs : List Value) (h : w0.grownBy w row) (hg : w0.heap.size ≤ g) : w0.grownBy (putAll w g i vs) row := by
  induction vs generalizing w i with
  | nil => exact h
  | cons u vs ih => exact ih (i + 1) (grown_far (p := ⟨g, i, none⟩) h hg u)
theorem own_lower {w : World} {b b' : Nat} {e : TypeId} {size n : Nat} {v : Value} {xs : List Value} (h : w.ownsRow b e size v n xs) (hb : b' ≤ b) : w.ownsRow b' e size v n xs := by
  refine ⟨h.1, ?_⟩
  rcases h.2 with h2 | ⟨k, cap, cur, rfl, hg, r⟩
  · exact .inl h2
  · exact .inr ⟨k, cap, cur, rfl, Nat.le_trans hb hg, r⟩
theorem own_lt {w : World} {b : Nat} {e : TypeId} {size n : Nat} {v : Value} {xs : List Value} (h : w.ownsRow b e size v n xs) (k : Nat) (hk : v.ownBlock = some k) : k < w.heap.size := by
  obtain ⟨cs, hb⟩ := Go.Proofs.YtjklgdpffmaamaaW.PrintWords.own_typed h k hk
  exact blk_lt hb
set_option maxHeartbeats 8000000 in
set_option maxRecDepth 100000 in
theorem getc (s : ByteArray) (w : World) (hs : s.size ≤ 9223372036854775000) {k : Nat} {r : Got} (hq : getV k s = some r) : Calls Try.prog 35 #[.string s] w (GetPost s w r) := by
  have HQ := Lib.hid hq
  clear hq
  by_cases h4 : 4096 < s.size
  · have hr : r = got0 701 := by have := HQ.out; unfold getV at this; rw [if_pos h4] at this; exact (Option.some.inj this).symm
    subst hr
    have q : decide ((4096 : Int) < (s.size : Int)) = true := by simp; omega
    have pz := blk_new w (.cells mz 27)
    go_enter Try.func35, Try.ntmps35
    go_wp2
    have e0 := (blk_cell pz 0).trans rfl
    have e1 := (blk_cell pz 1).trans rfl
    have e2 := (blk_cell pz 2).trans rfl
    have e3 := (blk_cell pz 3).trans rfl
    have e4 := (blk_cell pz 4).trans rfl
    have e5 := (blk_cell pz 5).trans rfl
    have e6 := (blk_cell pz 6).trans rfl
    have e7 := (blk_cell pz 7).trans rfl
    have e8 := (blk_cell pz 8).trans rfl
    have e9 := (blk_cell pz 9).trans rfl
    have e10 := (blk_cell pz 10).trans rfl
    have e11 := (blk_cell pz 11).trans rfl
    have e12 := (blk_cell pz 12).trans rfl
    exact bodyPost_ret (v := .tuple #[.agg mz, .int .i64 701]) (by simp [results, Try.results35, go_sem, e0, e1, e2, e3, e4, e5, e6, e7, e8, e9, e10, e11, e12]) rfl (post0 s w _ 701 ((Below.refl _ _).alloc (Nat.le_refl _) _))
  · have q : decide ((4096 : Int) < (s.size : Int)) = false := by simp; omega
    have Bp : Below w.heap.size w (w.alloc (.cells mz 27)) := (Below.refl _ _).alloc (Nat.le_refl _) _
    have pz := blk_new w (.cells mz 27)
    have sp : (w.alloc (.cells mz 27)).heap.size = w.heap.size + 1 := by simp
    have kg := Hd.got s (w.alloc (.cells mz 27)) hs
    by_cases h12 : s.size < 12
    · have hr : r = got0 700 := by have := HQ.out; unfold getV at this; rw [if_neg h4, if_pos h12] at this; exact (Option.some.inj this).symm
      subst hr
      have hE : Hd.gotE s = 600 := Hd.gotE_no (by omega)
      rw [hE] at kg
      clear HQ
      go_enter Try.func35, Try.ntmps35
      go_wp2_with fail
      refine kg.mono ?_
      rintro e w1 ⟨rfl, B1⟩
      have p1 := blk_below pz B1
      have BB := Bp.trans (B1.mono (by omega))
      clear kg pz Bp B1
      have pp : ((w1.alloc (.cells #[.int .i64 (Hd.gotH s).id, .bool (Hd.gotH s).qr, .int .i64 (Hd.gotH s).op, .bool (Hd.gotH s).aa, .bool (Hd.gotH s).tc, .bool (Hd.gotH s).rd, .bool (Hd.gotH s).ra, .int .i64 (Hd.gotH s).z, .int .i64 (Hd.gotH s).rc] 23)).alloc (.cells #[.int .i64 (Hd.gotC s 4), .int .i64 (Hd.gotC s 6), .int .i64 (Hd.gotC s 8), .int .i64 (Hd.gotC s 10)] 80)).heap[w.heap.size]? = some (.cells mz 27 (0, 0)) := Go.Proofs.YtjklgdpffmaamaaW.PrintWords.blk_alloc (Go.Proofs.YtjklgdpffmaamaaW.PrintWords.blk_alloc p1 _) _
      have x0 : ((w1.alloc (.cells #[.int .i64 (Hd.gotH s).id, .bool (Hd.gotH s).qr, .int .i64 (Hd.gotH s).op, .bool (Hd.gotH s).aa, .bool (Hd.gotH s).tc, .bool (Hd.gotH s).rd, .bool (Hd.gotH s).ra, .int .i64 (Hd.gotH s).z, .int .i64 (Hd.gotH s).rc] 23)).alloc (.cells #[.int .i64 (Hd.gotC s 4), .int .i64 (Hd.gotC s 6), .int .i64 (Hd.gotC s 8), .int .i64 (Hd.gotC s 10)] 80)).cell? ⟨w.heap.size, 0, none⟩ = some (.int .i64 0) := (blk_cell pp 0).trans rfl
      have x1 : ((w1.alloc (.cells #[.int .i64 (Hd.gotH s).id, .bool (Hd.gotH s).qr, .int .i64 (Hd.gotH s).op, .bool (Hd.gotH s).aa, .bool (Hd.gotH s).tc, .bool (Hd.gotH s).rd, .bool (Hd.gotH s).ra, .int .i64 (Hd.gotH s).z, .int .i64 (Hd.gotH s).rc] 23)).alloc (.cells #[.int .i64 (Hd.gotC s 4), .int .i64 (Hd.gotC s 6), .int .i64 (Hd.gotC s 8), .int .i64 (Hd.gotC s 10)] 80)).cell? ⟨w.heap.size, 1, none⟩ = some (.bool false) := (blk_cell pp 1).trans rfl
      have x2 : ((w1.alloc (.cells #[.int .i64 (Hd.gotH s).id, .bool (Hd.gotH s).qr, .int .i64 (Hd.gotH s).op, .bool (Hd.gotH s).aa, .bool (Hd.gotH s).tc, .bool (Hd.gotH s).rd, .bool (Hd.gotH s).ra, .int .i64 (Hd.gotH s).z, .int .i64 (Hd.gotH s).rc] 23)).alloc (.cells #[.int .i64 (Hd.gotC s 4), .int .i64 (Hd.gotC s 6), .int .i64 (Hd.gotC s 8), .int .i64 (Hd.gotC s 10)] 80)).cell? ⟨w.heap.size, 2, none⟩ = some (.int .i64 0) := (blk_cell pp 2).trans rfl
      have x3 : ((w1.alloc (.cells #[.int .i64 (Hd.gotH s).id, .bool (Hd.gotH s).qr, .int .i64 (Hd.gotH s).op, .bool (Hd.gotH s).aa, .bool (Hd.gotH s).tc, .bool (Hd.gotH s).rd, .bool (Hd.gotH s).ra, .int .i64 (Hd.gotH s).z, .int .i64 (Hd.gotH s).rc] 23)).alloc (.cells #[.int .i64 (Hd.gotC s 4), .int .i64 (Hd.gotC s 6), .int .i64 (Hd.gotC s 8), .int .i64 (Hd.gotC s 10)] 80)).cell? ⟨w.heap.size, 3, none⟩ = some (.bool false) := (blk_cell pp 3).trans rfl
      have x4 : ((w1.alloc (.cells #[.int .i64 (Hd.gotH s).id, .bool (Hd.gotH s).qr, .int .i64 (Hd.gotH s).op, .bool (Hd.gotH s).aa, .bool (Hd.gotH s).tc, .bool (Hd.gotH s).rd, .bool (Hd.gotH s).ra, .int .i64 (Hd.gotH s).z, .int .i64 (Hd.gotH s).rc] 23)).alloc (.cells #[.int .i64 (Hd.gotC s 4), .int .i64 (Hd.gotC s 6), .int .i64 (Hd.gotC s 8), .int .i64 (Hd.gotC s 10)] 80)).cell? ⟨w.heap.size, 4, none⟩ = some (.bool false) := (blk_cell pp 4).trans rfl
      have x5 : ((w1.alloc (.cells #[.int .i64 (Hd.gotH s).id, .bool (Hd.gotH s).qr, .int .i64 (Hd.gotH s).op, .bool (Hd.gotH s).aa, .bool (Hd.gotH s).tc, .bool (Hd.gotH s).rd, .bool (Hd.gotH s).ra, .int .i64 (Hd.gotH s).z, .int .i64 (Hd.gotH s).rc] 23)).alloc (.cells #[.int .i64 (Hd.gotC s 4), .int .i64 (Hd.gotC s 6), .int .i64 (Hd.gotC s 8), .int .i64 (Hd.gotC s 10)] 80)).cell? ⟨w.heap.size, 5, none⟩ = some (.bool false) := (blk_cell pp 5).trans rfl
      have x6 : ((w1.alloc (.cells #[.int .i64 (Hd.gotH s).id, .bool (Hd.gotH s).qr, .int .i64 (Hd.gotH s).op, .bool (Hd.gotH s).aa, .bool (Hd.gotH s).tc, .bool (Hd.gotH s).rd, .bool (Hd.gotH s).ra, .int .i64 (Hd.gotH s).z, .int .i64 (Hd.gotH s).rc] 23)).alloc (.cells #[.int .i64 (Hd.gotC s 4), .int .i64 (Hd.gotC s 6), .int .i64 (Hd.gotC s 8), .int .i64 (Hd.gotC s 10)] 80)).cell? ⟨w.heap.size, 6, none⟩ = some (.bool false) := (blk_cell pp 6).trans rfl
      have x7 : ((w1.alloc (.cells #[.int .i64 (Hd.gotH s).id, .bool (Hd.gotH s).qr, .int .i64 (Hd.gotH s).op, .bool (Hd.gotH s).aa, .bool (Hd.gotH s).tc, .bool (Hd.gotH s).rd, .bool (Hd.gotH s).ra, .int .i64 (Hd.gotH s).z, .int .i64 (Hd.gotH s).rc] 23)).alloc (.cells #[.int .i64 (Hd.gotC s 4), .int .i64 (Hd.gotC s 6), .int .i64 (Hd.gotC s 8), .int .i64 (Hd.gotC s 10)] 80)).cell? ⟨w.heap.size, 7, none⟩ = some (.int .i64 0) := (blk_cell pp 7).trans rfl
      have x8 : ((w1.alloc (.cells #[.int .i64 (Hd.gotH s).id, .bool (Hd.gotH s).qr, .int .i64 (Hd.gotH s).op, .bool (Hd.gotH s).aa, .bool (Hd.gotH s).tc, .bool (Hd.gotH s).rd, .bool (Hd.gotH s).ra, .int .i64 (Hd.gotH s).z, .int .i64 (Hd.gotH s).rc] 23)).alloc (.cells #[.int .i64 (Hd.gotC s 4), .int .i64 (Hd.gotC s 6), .int .i64 (Hd.gotC s 8), .int .i64 (Hd.gotC s 10)] 80)).cell? ⟨w.heap.size, 8, none⟩ = some (.int .i64 0) := (blk_cell pp 8).trans rfl
      have x9 : ((w1.alloc (.cells #[.int .i64 (Hd.gotH s).id, .bool (Hd.gotH s).qr, .int .i64 (Hd.gotH s).op, .bool (Hd.gotH s).aa, .bool (Hd.gotH s).tc, .bool (Hd.gotH s).rd, .bool (Hd.gotH s).ra, .int .i64 (Hd.gotH s).z, .int .i64 (Hd.gotH s).rc] 23)).alloc (.cells #[.int .i64 (Hd.gotC s 4), .int .i64 (Hd.gotC s 6), .int .i64 (Hd.gotC s 8), .int .i64 (Hd.gotC s 10)] 80)).cell? ⟨w.heap.size, 9, none⟩ = some (.slice none 0 0) := (blk_cell pp 9).trans rfl
      have x10 : ((w1.alloc (.cells #[.int .i64 (Hd.gotH s).id, .bool (Hd.gotH s).qr, .int .i64 (Hd.gotH s).op, .bool (Hd.gotH s).aa, .bool (Hd.gotH s).tc, .bool (Hd.gotH s).rd, .bool (Hd.gotH s).ra, .int .i64 (Hd.gotH s).z, .int .i64 (Hd.gotH s).rc] 23)).alloc (.cells #[.int .i64 (Hd.gotC s 4), .int .i64 (Hd.gotC s 6), .int .i64 (Hd.gotC s 8), .int .i64 (Hd.gotC s 10)] 80)).cell? ⟨w.heap.size, 10, none⟩ = some (.slice none 0 0) := (blk_cell pp 10).trans rfl
      have x11 : ((w1.alloc (.cells #[.int .i64 (Hd.gotH s).id, .bool (Hd.gotH s).qr, .int .i64 (Hd.gotH s).op, .bool (Hd.gotH s).aa, .bool (Hd.gotH s).tc, .bool (Hd.gotH s).rd, .bool (Hd.gotH s).ra, .int .i64 (Hd.gotH s).z, .int .i64 (Hd.gotH s).rc] 23)).alloc (.cells #[.int .i64 (Hd.gotC s 4), .int .i64 (Hd.gotC s 6), .int .i64 (Hd.gotC s 8), .int .i64 (Hd.gotC s 10)] 80)).cell? ⟨w.heap.size, 11, none⟩ = some (.slice none 0 0) := (blk_cell pp 11).trans rfl
      have x12 : ((w1.alloc (.cells #[.int .i64 (Hd.gotH s).id, .bool (Hd.gotH s).qr, .int .i64 (Hd.gotH s).op, .bool (Hd.gotH s).aa, .bool (Hd.gotH s).tc, .bool (Hd.gotH s).rd, .bool (Hd.gotH s).ra, .int .i64 (Hd.gotH s).z, .int .i64 (Hd.gotH s).rc] 23)).alloc (.cells #[.int .i64 (Hd.gotC s 4), .int .i64 (Hd.gotC s 6), .int .i64 (Hd.gotC s 8), .int .i64 (Hd.gotC s 10)] 80)).cell? ⟨w.heap.size, 12, none⟩ = some (.slice none 0 0) := (blk_cell pp 12).trans rfl
      have y0 := blk_frozen pp 0
      have y1 := blk_frozen pp 1
      have y2 := blk_frozen pp 2
      have y3 := blk_frozen pp 3
      have y4 := blk_frozen pp 4
      have y5 := blk_frozen pp 5
      have y6 := blk_frozen pp 6
      have y7 := blk_frozen pp 7
      have y8 := blk_frozen pp 8
      have y9 := blk_frozen pp 9
      have y10 := blk_frozen pp 10
      have y11 := blk_frozen pp 11
      have y12 := blk_frozen pp 12
      have pF := putAll_blk 0 [.int .i64 0, .bool false, .int .i64 0, .bool false, .bool false, .bool false, .bool false, .int .i64 0, .int .i64 0, .slice none 0 0, .slice none 0 0, .slice none 0 0, .slice none 0 0] mz pp (by simp [setAll])
      have GF := putAll_grown (row := none) 0 [.int .i64 0, .bool false, .int .i64 0, .bool false, .bool false, .bool false, .bool false, .int .i64 0, .int .i64 0, .slice none 0 0, .slice none 0 0, .slice none 0 0, .slice none 0 0] (grown_below (BB.trans (((Below.refl w1.heap.size w1).alloc (Nat.le_refl _) (.cells #[.int .i64 (Hd.gotH s).id, .bool (Hd.gotH s).qr, .int .i64 (Hd.gotH s).op, .bool (Hd.gotH s).aa, .bool (Hd.gotH s).tc, .bool (Hd.gotH s).rd, .bool (Hd.gotH s).ra, .int .i64 (Hd.gotH s).z, .int .i64 (Hd.gotH s).rc] 23)).alloc (by simp) (.cells #[.int .i64 (Hd.gotC s 4), .int .i64 (Hd.gotC s 6), .int .i64 (Hd.gotC s 8), .int .i64 (Hd.gotC s 10)] 80) |>.mono BB.size)) none) (Nat.le_refl _)
      simp only [putAll] at pF GF
      have e0 := (blk_cell pF 0).trans rfl
      have e1 := (blk_cell pF 1).trans rfl
      have e2 := (blk_cell pF 2).trans rfl
      have e3 := (blk_cell pF 3).trans rfl
      have e4 := (blk_cell pF 4).trans rfl
      have e5 := (blk_cell pF 5).trans rfl
      have e6 := (blk_cell pF 6).trans rfl
      have e7 := (blk_cell pF 7).trans rfl
      have e8 := (blk_cell pF 8).trans rfl
      have e9 := (blk_cell pF 9).trans rfl
      have e10 := (blk_cell pF 10).trans rfl
      have e11 := (blk_cell pF 11).trans rfl
      have e12 := (blk_cell pF 12).trans rfl
      go_wp2
      exact bodyPost_ret (v := .tuple #[.agg mz, .int .i64 700]) (by simp [results, Try.results35, go_sem, e0, e1, e2, e3, e4, e5, e6, e7, e8, e9, e10, e11, e12]) rfl (post0 s w _ 700 ⟨GF.os, GF.tape, GF.output, GF.size, fun k hk => GF.block k hk (by simp)⟩)
    · have hr := HQ.out
      unfold getV at hr
      rw [if_neg h4, if_neg h12] at hr
      have HR := Lib.hid hr
      have hE : Hd.gotE s = 0 := Hd.gotE_yes (by omega)
      have hC := fun k => Hd.gotC_yes (s := s) (by omega) k
      rw [hE, Hd.gotH_yes (by omega), hC, hC, hC, hC] at kg
      clear HQ hr
      go_enter Try.func35, Try.ntmps35
      go_wp2_with fail
      refine kg.mono ?_
      rintro e w1 ⟨rfl, B1⟩
      have p1 := blk_below pz B1
      have BB := Bp.trans (B1.mono (by omega))
      clear kg pz Bp B1
      go_upto_region 7 with (fail)
      obtain ⟨⟨oq, rq⟩, hlq, hr2⟩ := Option.bind_eq_some_iff.1 HR.out
      have HR2 := Lib.hid hr2
      clear hr2 HR
      have hs4 : s.size ≤ 4096 := by omega
      have bd4 := be2_bd s 4
      have B0 : Below w1.heap.size w1 (((w1.alloc (.cells #[.int .i64 (Hd.getH s).id, .bool (Hd.getH s).qr, .int .i64 (Hd.getH s).op, .bool (Hd.getH s).aa, .bool (Hd.getH s).tc, .bool (Hd.getH s).rd, .bool (Hd.getH s).ra, .int .i64 (Hd.getH s).z, .int .i64 (Hd.getH s).rc] 23)).alloc (.cells #[.int .i64 (be2 s 4), .int .i64 (be2 s 6), .int .i64 (be2 s 8), .int .i64 (be2 s 10)] 80)).alloc (.cells #[.string s, .int .i64 12, .bool false] 120)) := (((Below.refl _ _).alloc (Nat.le_refl _) _).alloc (by simp) _).alloc (by simp; omega) _
      have bh : (((w1.alloc (.cells #[.int .i64 (Hd.getH s).id, .bool (Hd.getH s).qr, .int .i64 (Hd.getH s).op, .bool (Hd.getH s).aa, .bool (Hd.getH s).tc, .bool (Hd.getH s).rd, .bool (Hd.getH s).ra, .int .i64 (Hd.getH s).z, .int .i64 (Hd.getH s).rc] 23)).alloc (.cells #[.int .i64 (be2 s 4), .int .i64 (be2 s 6), .int .i64 (be2 s 8), .int .i64 (be2 s 10)] 80)).alloc (.cells #[.string s, .int .i64 12, .bool false] 120)).heap[w1.heap.size]? = some (.cells #[.int .i64 (Hd.getH s).id, .bool (Hd.getH s).qr, .int .i64 (Hd.getH s).op, .bool (Hd.getH s).aa, .bool (Hd.getH s).tc, .bool (Hd.getH s).rd, .bool (Hd.getH s).ra, .int .i64 (Hd.getH s).z, .int .i64 (Hd.getH s).rc] 23 (0, 0)) := Go.Proofs.YtjklgdpffmaamaaW.PrintWords.blk_alloc (Go.Proofs.YtjklgdpffmaamaaW.PrintWords.blk_alloc (blk_new w1 _) _) _
      have bc : (((w1.alloc (.cells #[.int .i64 (Hd.getH s).id, .bool (Hd.getH s).qr, .int .i64 (Hd.getH s).op, .bool (Hd.getH s).aa, .bool (Hd.getH s).tc, .bool (Hd.getH s).rd, .bool (Hd.getH s).ra, .int .i64 (Hd.getH s).z, .int .i64 (Hd.getH s).rc] 23)).alloc (.cells #[.int .i64 (be2 s 4), .int .i64 (be2 s 6), .int .i64 (be2 s 8), .int .i64 (be2 s 10)] 80)).alloc (.cells #[.string s, .int .i64 12, .bool false] 120)).heap[w1.heap.size + 1]? = some (.cells #[.int .i64 (be2 s 4), .int .i64 (be2 s 6), .int .i64 (be2 s 8), .int .i64 (be2 s 10)] 80 (0, 0)) := by
        refine Go.Proofs.YtjklgdpffmaamaaW.PrintWords.blk_alloc ?_ _
        have := blk_new (w1.alloc (.cells #[.int .i64 (Hd.getH s).id, .bool (Hd.getH s).qr, .int .i64 (Hd.getH s).op, .bool (Hd.getH s).aa, .bool (Hd.getH s).tc, .bool (Hd.getH s).rd, .bool (Hd.getH s).ra, .int .i64 (Hd.getH s).z, .int .i64 (Hd.getH s).rc] 23)) (.cells #[.int .i64 (be2 s 4), .int .i64 (be2 s 6), .int .i64 (be2 s 8), .int .i64 (be2 s 10)] 80)
        simpa using this
      have bg : (((w1.alloc (.cells #[.int .i64 (Hd.getH s).id, .bool (Hd.getH s).qr, .int .i64 (Hd.getH s).op, .bool (Hd.getH s).aa, .bool (Hd.getH s).tc, .bool (Hd.getH s).rd, .bool (Hd.getH s).ra, .int .i64 (Hd.getH s).z, .int .i64 (Hd.getH s).rc] 23)).alloc (.cells #[.int .i64 (be2 s 4), .int .i64 (be2 s 6), .int .i64 (be2 s 8), .int .i64 (be2 s 10)] 80)).alloc (.cells #[.string s, .int .i64 12, .bool false] 120)).heap[w1.heap.size + 1 + 1]? = some (.cells #[.string s, .int .i64 12, .bool false] 120 (0, 0)) := by
        have := blk_new ((w1.alloc (.cells #[.int .i64 (Hd.getH s).id, .bool (Hd.getH s).qr, .int .i64 (Hd.getH s).op, .bool (Hd.getH s).aa, .bool (Hd.getH s).tc, .bool (Hd.getH s).rd, .bool (Hd.getH s).ra, .int .i64 (Hd.getH s).z, .int .i64 (Hd.getH s).rc] 23)).alloc (.cells #[.int .i64 (be2 s 4), .int .i64 (be2 s 6), .int .i64 (be2 s 8), .int .i64 (be2 s 10)] 80)) (.cells #[.string s, .int .i64 12, .bool false] 120)
        simpa using this
      have p0 := blk_below p1 B0
      have BB0 := BB.trans (B0.mono BB.size)
      have hgw : w.heap.size ≤ w1.heap.size + 1 + 1 := by have := BB.size; omega
      have hcg : w1.heap.size + 1 ≠ w1.heap.size + 1 + 1 := by omega
      have hhg : w1.heap.size ≠ w1.heap.size + 1 + 1 := by omega
      have hpg : w.heap.size ≠ w1.heap.size + 1 + 1 := by have := BB.size; omega
      clear p1 BB B0 sp
      generalize (((w1.alloc (.cells #[.int .i64 (Hd.getH s).id, .bool (Hd.getH s).qr, .int .i64 (Hd.getH s).op, .bool (Hd.getH s).aa, .bool (Hd.getH s).tc, .bool (Hd.getH s).rd, .bool (Hd.getH s).ra, .int .i64 (Hd.getH s).z, .int .i64 (Hd.getH s).rc] 23)).alloc (.cells #[.int .i64 (be2 s 4), .int .i64 (be2 s 6), .int .i64 (be2 s 8), .int .i64 (be2 s 10)] 80)).alloc (.cells #[.string s, .int .i64 12, .bool false] 120)) = W0 at *
      generalize w1.heap.size + 1 + 1 = g at *
      generalize w1.heap.size + 1 = kc at *
      generalize w1.heap.size = kh at *
      have RG : RdAt W0 g s ⟨12, false⟩ := ⟨bg⟩
      have h0 : W0.cell? ⟨kh, 0, none⟩ = some (.int .i64 (Hd.getH s).id) := (blk_cell bh 0).trans rfl
      have h1 : W0.cell? ⟨kh, 1, none⟩ = some (.bool (Hd.getH s).qr) := (blk_cell bh 1).trans rfl
      have h2 : W0.cell? ⟨kh, 2, none⟩ = some (.int .i64 (Hd.getH s).op) := (blk_cell bh 2).trans rfl
      have h3 : W0.cell? ⟨kh, 3, none⟩ = some (.bool (Hd.getH s).aa) := (blk_cell bh 3).trans rfl
      have h4 : W0.cell? ⟨kh, 4, none⟩ = some (.bool (Hd.getH s).tc) := (blk_cell bh 4).trans rfl
      have h5 : W0.cell? ⟨kh, 5, none⟩ = some (.bool (Hd.getH s).rd) := (blk_cell bh 5).trans rfl
      have h6 : W0.cell? ⟨kh, 6, none⟩ = some (.bool (Hd.getH s).ra) := (blk_cell bh 6).trans rfl
      have h7 : W0.cell? ⟨kh, 7, none⟩ = some (.int .i64 (Hd.getH s).z) := (blk_cell bh 7).trans rfl
      have h8 : W0.cell? ⟨kh, 8, none⟩ = some (.int .i64 (Hd.getH s).rc) := (blk_cell bh 8).trans rfl
      have h9 : W0.cell? ⟨kc, 0, none⟩ = some (.int .i64 (be2 s 4)) := (blk_cell bc 0).trans rfl
      have Dh := blk_below bh ((Below.refl W0.heap.size W0).alloc (Nat.le_refl _) (.cells mz 27))
      have Dc := blk_below bc ((Below.refl W0.heap.size W0).alloc (Nat.le_refl _) (.cells mz 27))
      have ha0 : (W0.alloc (.cells mz 27)).cell? ⟨kh, 0, none⟩ = some (.int .i64 (Hd.getH s).id) := (blk_cell Dh 0).trans rfl
      have ha1 : (W0.alloc (.cells mz 27)).cell? ⟨kh, 1, none⟩ = some (.bool (Hd.getH s).qr) := (blk_cell Dh 1).trans rfl
      have ha2 : (W0.alloc (.cells mz 27)).cell? ⟨kh, 2, none⟩ = some (.int .i64 (Hd.getH s).op) := (blk_cell Dh 2).trans rfl
      have ha3 : (W0.alloc (.cells mz 27)).cell? ⟨kh, 3, none⟩ = some (.bool (Hd.getH s).aa) := (blk_cell Dh 3).trans rfl
      have ha4 : (W0.alloc (.cells mz 27)).cell? ⟨kh, 4, none⟩ = some (.bool (Hd.getH s).tc) := (blk_cell Dh 4).trans rfl
      have ha5 : (W0.alloc (.cells mz 27)).cell? ⟨kh, 5, none⟩ = some (.bool (Hd.getH s).rd) := (blk_cell Dh 5).trans rfl
      have ha6 : (W0.alloc (.cells mz 27)).cell? ⟨kh, 6, none⟩ = some (.bool (Hd.getH s).ra) := (blk_cell Dh 6).trans rfl
      have ha7 : (W0.alloc (.cells mz 27)).cell? ⟨kh, 7, none⟩ = some (.int .i64 (Hd.getH s).z) := (blk_cell Dh 7).trans rfl
      have ha8 : (W0.alloc (.cells mz 27)).cell? ⟨kh, 8, none⟩ = some (.int .i64 (Hd.getH s).rc) := (blk_cell Dh 8).trans rfl
      have ha9 : (W0.alloc (.cells mz 27)).cell? ⟨kc, 0, none⟩ = some (.int .i64 (be2 s 4)) := (blk_cell Dc 0).trans rfl
      have nw0 := World.new_ne W0 ⟨kh, 0, none⟩ h0
      have nw1 := World.new_ne W0 ⟨kh, 1, none⟩ h1
      have nw2 := World.new_ne W0 ⟨kh, 2, none⟩ h2
      have nw3 := World.new_ne W0 ⟨kh, 3, none⟩ h3
      have nw4 := World.new_ne W0 ⟨kh, 4, none⟩ h4
      have nw5 := World.new_ne W0 ⟨kh, 5, none⟩ h5
      have nw6 := World.new_ne W0 ⟨kh, 6, none⟩ h6
      have nw7 := World.new_ne W0 ⟨kh, 7, none⟩ h7
      have nw8 := World.new_ne W0 ⟨kh, 8, none⟩ h8
      have nw9 := World.new_ne W0 ⟨kc, 0, none⟩ h9
      have Dd : Below W0.heap.size W0 W0.drew := (Below.refl _ _).drew
      have De : Below W0.heap.size W0 (W0.alloc (.cells mz 27)).drew := ((Below.refl _ _).alloc (Nat.le_refl _) _).drew
      have hn4 : (((be2 s 4).toNat : Nat) : Int) = be2 s 4 := by omega
      have kqd := listQc (RG.below Dd) hs4 (be2 s 4).toNat (by omega) hlq
      have kqe := listQc (RG.below De) hs4 (be2 s 4).toNat (by omega) hlq
      rw [hn4] at kqd kqe
      have bhd := blk_below bh Dd
      have bcd := blk_below bc Dd
      have bhe := blk_below bh De
      have bce := blk_below bc De
      have p0d := blk_below p0 Dd
      have p0e := blk_below p0 De
      have kke : (W0.alloc (.cells mz 27)).drew.heap[W0.heap.size]? = some (.cells mz 27 (0, 0)) := blk_new W0 _
      have hgW : g ≠ W0.heap.size := Nat.ne_of_lt (blk_lt bg)
      have FQ : ∀ (W w3 : World), W.heap[kh]? = some (.cells #[.int .i64 (Hd.getH s).id, .bool (Hd.getH s).qr, .int .i64 (Hd.getH s).op, .bool (Hd.getH s).aa, .bool (Hd.getH s).tc, .bool (Hd.getH s).rd, .bool (Hd.getH s).ra, .int .i64 (Hd.getH s).z, .int .i64 (Hd.getH s).rc] 23 (0, 0)) → W.heap[kc]? = some (.cells #[.int .i64 (be2 s 4), .int .i64 (be2 s 6), .int .i64 (be2 s 8), .int .i64 (be2 s 10)] 80 (0, 0)) → W.grownBy w3 (some g) → w3.cell? ⟨kh, 0, none⟩ = some (.int .i64 (Hd.getH s).id) ∧ w3.cell? ⟨kh, 1, none⟩ = some (.bool (Hd.getH s).qr) ∧ w3.cell? ⟨kh, 2, none⟩ = some (.int .i64 (Hd.getH s).op) ∧ w3.cell? ⟨kh, 3, none⟩ = some (.bool (Hd.getH s).aa) ∧ w3.cell? ⟨kh, 4, none⟩ = some (.bool (Hd.getH s).tc) ∧ w3.cell? ⟨kh, 5, none⟩ = some (.bool (Hd.getH s).rd) ∧ w3.cell? ⟨kh, 6, none⟩ = some (.bool (Hd.getH s).ra) ∧ w3.cell? ⟨kh, 7, none⟩ = some (.int .i64 (Hd.getH s).z) ∧ w3.cell? ⟨kh, 8, none⟩ = some (.int .i64 (Hd.getH s).rc) ∧ w3.cell? ⟨kc, 0, none⟩ = some (.int .i64 (be2 s 4)) := fun W w3 a b G => by
        have a' := blk_grown a G (by intro q; injection q with q; exact hhg q)
        have b' := blk_grown b G (by intro q; injection q with q; exact hcg q)
        exact ⟨(blk_cell a' 0).trans rfl, (blk_cell a' 1).trans rfl, (blk_cell a' 2).trans rfl, (blk_cell a' 3).trans rfl, (blk_cell a' 4).trans rfl, (blk_cell a' 5).trans rfl, (blk_cell a' 6).trans rfl, (blk_cell a' 7).trans rfl, (blk_cell a' 8).trans rfl, (blk_cell b' 0).trans rfl⟩
      have FK : ∀ (W w3 : World), W.heap[W0.heap.size]? = some (.cells mz 27 (0, 0)) → W.grownBy w3 (some g) → w3.heap[W0.heap.size]? = some (.cells mz 27 (0, 0)) ∧ w3.cell? ⟨W0.heap.size, 0, none⟩ = some (.int .i64 0) ∧ w3.cell? ⟨W0.heap.size, 1, none⟩ = some (.bool false) ∧ w3.cell? ⟨W0.heap.size, 2, none⟩ = some (.int .i64 0) ∧ w3.cell? ⟨W0.heap.size, 3, none⟩ = some (.bool false) ∧ w3.cell? ⟨W0.heap.size, 4, none⟩ = some (.bool false) ∧ w3.cell? ⟨W0.heap.size, 5, none⟩ = some (.bool false) ∧ w3.cell? ⟨W0.heap.size, 6, none⟩ = some (.bool false) ∧ w3.cell? ⟨W0.heap.size, 7, none⟩ = some (.int .i64 0) ∧ w3.cell? ⟨W0.heap.size, 8, none⟩ = some (.int .i64 0) ∧ w3.cell? ⟨W0.heap.size, 9, none⟩ = some (.slice none 0 0) ∧ w3.cell? ⟨W0.heap.size, 10, none⟩ = some (.slice none 0 0) ∧ w3.cell? ⟨W0.heap.size, 11, none⟩ = some (.slice none 0 0) ∧ w3.cell? ⟨W0.heap.size, 12, none⟩ = some (.slice none 0 0) ∧ w3.frozen? ⟨W0.heap.size, 0, none⟩ = false ∧ w3.frozen? ⟨W0.heap.size, 1, none⟩ = false ∧ w3.frozen? ⟨W0.heap.size, 2, none⟩ = false ∧ w3.frozen? ⟨W0.heap.size, 3, none⟩ = false ∧ w3.frozen? ⟨W0.heap.size, 4, none⟩ = false ∧ w3.frozen? ⟨W0.heap.size, 5, none⟩ = false ∧ w3.frozen? ⟨W0.heap.size, 6, none⟩ = false ∧ w3.frozen? ⟨W0.heap.size, 7, none⟩ = false ∧ w3.frozen? ⟨W0.heap.size, 8, none⟩ = false ∧ w3.frozen? ⟨W0.heap.size, 9, none⟩ = false ∧ w3.frozen? ⟨W0.heap.size, 10, none⟩ = false ∧ w3.frozen? ⟨W0.heap.size, 11, none⟩ = false ∧ w3.frozen? ⟨W0.heap.size, 12, none⟩ = false := fun W w3 a G => by
        have a' := blk_grown a G (by intro q; injection q with q; exact hgW q.symm)
        exact ⟨a', (blk_cell a' 0).trans rfl, (blk_cell a' 1).trans rfl, (blk_cell a' 2).trans rfl, (blk_cell a' 3).trans rfl, (blk_cell a' 4).trans rfl, (blk_cell a' 5).trans rfl, (blk_cell a' 6).trans rfl, (blk_cell a' 7).trans rfl, (blk_cell a' 8).trans rfl, (blk_cell a' 9).trans rfl, (blk_cell a' 10).trans rfl, (blk_cell a' 11).trans rfl, (blk_cell a' 12).trans rfl, blk_frozen a' 0, blk_frozen a' 1, blk_frozen a' 2, blk_frozen a' 3, blk_frozen a' 4, blk_frozen a' 5, blk_frozen a' 6, blk_frozen a' 7, blk_frozen a' 8, blk_frozen a' 9, blk_frozen a' 10, blk_frozen a' 11, blk_frozen a' 12⟩
      have F1 : ∀ (w3 : World) (vq : Value) (b : Nat), W0.heap.size ≤ b → w3.ownsRow b 40 3 vq oq.length (cellsQ oq) → RdAt w3 g s rq → w3.heap[w.heap.size]? = some (.cells mz 27 (0, 0)) → w3.heap[kc]? = some (.cells #[.int .i64 (be2 s 4), .int .i64 (be2 s 6), .int .i64 (be2 s 8), .int .i64 (be2 s 10)] 80 (0, 0)) → W0.grownBy w3 (some g) → ∃ W, W = w3.alloc (.cells #[.int .i64 (Hd.getH s).id, .bool (Hd.getH s).qr, .int .i64 (Hd.getH s).op, .bool (Hd.getH s).aa, .bool (Hd.getH s).tc, .bool (Hd.getH s).rd, .bool (Hd.getH s).ra, .int .i64 (Hd.getH s).z, .int .i64 (Hd.getH s).rc, vq, .slice none 0 0, .slice none 0 0, .slice none 0 0] 27) ∧ W.heap[w3.heap.size]? = some (.cells #[.int .i64 (Hd.getH s).id, .bool (Hd.getH s).qr, .int .i64 (Hd.getH s).op, .bool (Hd.getH s).aa, .bool (Hd.getH s).tc, .bool (Hd.getH s).rd, .bool (Hd.getH s).ra, .int .i64 (Hd.getH s).z, .int .i64 (Hd.getH s).rc, vq, .slice none 0 0, .slice none 0 0, .slice none 0 0] 27 (0, 0)) ∧ W0.heap.size ≤ w3.heap.size ∧ W.ownsRow W0.heap.size 40 3 vq oq.length (cellsQ oq) ∧ RdAt W g s rq ∧ W.heap[w.heap.size]? = some (.cells mz 27 (0, 0)) ∧ W.heap[kc]? = some (.cells #[.int .i64 (be2 s 4), .int .i64 (be2 s 6), .int .i64 (be2 s 8), .int .i64 (be2 s 10)] 80 (0, 0)) ∧ W0.grownBy W (some g) := by
        intro w3 vq b hle ho H p c G
        have Bz : Below w3.heap.size w3 (w3.alloc (.cells #[.int .i64 (Hd.getH s).id, .bool (Hd.getH s).qr, .int .i64 (Hd.getH s).op, .bool (Hd.getH s).aa, .bool (Hd.getH s).tc, .bool (Hd.getH s).rd, .bool (Hd.getH s).ra, .int .i64 (Hd.getH s).z, .int .i64 (Hd.getH s).rc, vq, .slice none 0 0, .slice none 0 0, .slice none 0 0] 27)) := (Below.refl _ _).alloc (Nat.le_refl _) _
        exact ⟨_, rfl, blk_new w3 _, G.size, Sl.own_below (own_lower ho hle) Bz, H.below Bz, blk_below p Bz, blk_below c Bz, grown_alloc' G _⟩
      have F2 : ∀ (w3 : World) (vq : Value) (b : Nat), W0.heap.size ≤ b → w3.ownsRow b 40 3 vq oq.length (cellsQ oq) → RdAt w3 g s rq → w3.heap[W0.heap.size]? = some (.cells mz 27 (0, 0)) → w3.heap[w.heap.size]? = some (.cells mz 27 (0, 0)) → w3.heap[kc]? = some (.cells #[.int .i64 (be2 s 4), .int .i64 (be2 s 6), .int .i64 (be2 s 8), .int .i64 (be2 s 10)] 80 (0, 0)) → W0.grownBy w3 (some g) → (putAll w3 W0.heap.size 0 [.int .i64 (Hd.getH s).id, .bool (Hd.getH s).qr, .int .i64 (Hd.getH s).op, .bool (Hd.getH s).aa, .bool (Hd.getH s).tc, .bool (Hd.getH s).rd, .bool (Hd.getH s).ra, .int .i64 (Hd.getH s).z, .int .i64 (Hd.getH s).rc, vq, .slice none 0 0, .slice none 0 0, .slice none 0 0]).heap[W0.heap.size]? = some (.cells #[.int .i64 (Hd.getH s).id, .bool (Hd.getH s).qr, .int .i64 (Hd.getH s).op, .bool (Hd.getH s).aa, .bool (Hd.getH s).tc, .bool (Hd.getH s).rd, .bool (Hd.getH s).ra, .int .i64 (Hd.getH s).z, .int .i64 (Hd.getH s).rc, vq, .slice none 0 0, .slice none 0 0, .slice none 0 0] 27 (0, 0)) ∧ (putAll w3 W0.heap.size 0 [.int .i64 (Hd.getH s).id, .bool (Hd.getH s).qr, .int .i64 (Hd.getH s).op, .bool (Hd.getH s).aa, .bool (Hd.getH s).tc, .bool (Hd.getH s).rd, .bool (Hd.getH s).ra, .int .i64 (Hd.getH s).z, .int .i64 (Hd.getH s).rc, vq, .slice none 0 0, .slice none 0 0, .slice none 0 0]).ownsRow W0.heap.size 40 3 vq oq.length (cellsQ oq) ∧ RdAt (putAll w3 W0.heap.size 0 [.int .i64 (Hd.getH s).id, .bool (Hd.getH s).qr, .int .i64 (Hd.getH s).op, .bool (Hd.getH s).aa, .bool (Hd.getH s).tc, .bool (Hd.getH s).rd, .bool (Hd.getH s).ra, .int .i64 (Hd.getH s).z, .int .i64 (Hd.getH s).rc, vq, .slice none 0 0, .slice none 0 0, .slice none 0 0]) g s rq ∧ (putAll w3 W0.heap.size 0 [.int .i64 (Hd.getH s).id, .bool (Hd.getH s).qr, .int .i64 (Hd.getH s).op, .bool (Hd.getH s).aa, .bool (Hd.getH s).tc, .bool (Hd.getH s).rd, .bool (Hd.getH s).ra, .int .i64 (Hd.getH s).z, .int .i64 (Hd.getH s).rc, vq, .slice none 0 0, .slice none 0 0, .slice none 0 0]).heap[w.heap.size]? = some (.cells mz 27 (0, 0)) ∧ (putAll w3 W0.heap.size 0 [.int .i64 (Hd.getH s).id, .bool (Hd.getH s).qr, .int .i64 (Hd.getH s).op, .bool (Hd.getH s).aa, .bool (Hd.getH s).tc, .bool (Hd.getH s).rd, .bool (Hd.getH s).ra, .int .i64 (Hd.getH s).z, .int .i64 (Hd.getH s).rc, vq, .slice none 0 0, .slice none 0 0, .slice none 0 0]).heap[kc]? = some (.cells #[.int .i64 (be2 s 4), .int .i64 (be2 s 6), .int .i64 (be2 s 8), .int .i64 (be2 s 10)] 80 (0, 0)) ∧ W0.grownBy (putAll w3 W0.heap.size 0 [.int .i64 (Hd.getH s).id, .bool (Hd.getH s).qr, .int .i64 (Hd.getH s).op, .bool (Hd.getH s).aa, .bool (Hd.getH s).tc, .bool (Hd.getH s).rd, .bool (Hd.getH s).ra, .int .i64 (Hd.getH s).z, .int .i64 (Hd.getH s).rc, vq, .slice none 0 0, .slice none 0 0, .slice none 0 0]) (some g) := by
        intro w3 vq b hle ho H k p c G
        have hne := own_ne ho k (by decide)
        have hpW : w.heap.size ≠ W0.heap.size := Nat.ne_of_lt (blk_lt p0)
        have hcW : kc ≠ W0.heap.size := Nat.ne_of_lt (blk_lt bc)
        exact ⟨putAll_blk 0 _ _ k (by simp [setAll]), putAll_own 0 _ (own_lower ho hle) hne, ⟨(putAll_ne 0 _ hgW).trans H.blk⟩, (putAll_ne 0 _ hpW).trans p, (putAll_ne 0 _ hcW).trans c, putAll_grown 0 _ G (Nat.le_refl _)⟩
      have P3 : ∀ (W w3 : World), W.heap[w.heap.size]? = some (.cells mz 27 (0, 0)) → W.grownBy w3 (some g) → w3.heap[w.heap.size]? = some (.cells mz 27 (0, 0)) := fun W w3 h G => blk_grown h G (by intro q; injection q with q; exact hpg q)
      have C3 : ∀ (W w3 : World), W.heap[kc]? = some (.cells #[.int .i64 (be2 s 4), .int .i64 (be2 s 6), .int .i64 (be2 s 8), .int .i64 (be2 s 10)] 80 (0, 0)) → W.grownBy w3 (some g) → w3.heap[kc]? = some (.cells #[.int .i64 (be2 s 4), .int .i64 (be2 s 6), .int .i64 (be2 s 8), .int .i64 (be2 s 10)] 80 (0, 0)) := fun W w3 h G => blk_grown h G (by intro q; injection q with q; exact hcg q)
      have GWd := grown_below Dd (some g)
      have GWe := grown_below De (some g)
      have HF1 := Lib.hid F1
      have HF2 := Lib.hid F2
      have HP3 := Lib.hid P3
      have HC3 := Lib.hid C3
      clear F1 F2 P3 C3
      go_cut [8] (fun v8 wc => ∃ km vq, v8 = .pointer (some ⟨km, 0, none⟩) ∧ wc.heap[km]? = some (.cells #[.int .i64 (Hd.getH s).id, .bool (Hd.getH s).qr, .int .i64 (Hd.getH s).op, .bool (Hd.getH s).aa, .bool (Hd.getH s).tc, .bool (Hd.getH s).rd, .bool (Hd.getH s).ra, .int .i64 (Hd.getH s).z, .int .i64 (Hd.getH s).rc, vq, .slice none 0 0, .slice none 0 0, .slice none 0 0] 27 (0, 0)) ∧ W0.heap.size ≤ km ∧ wc.ownsRow W0.heap.size 40 3 vq oq.length (cellsQ oq) ∧ RdAt wc g s rq ∧ wc.heap[w.heap.size]? = some (.cells mz 27 (0, 0)) ∧ wc.heap[kc]? = some (.cells #[.int .i64 (be2 s 4), .int .i64 (be2 s 6), .int .i64 (be2 s 8), .int .i64 (be2 s 10)] 80 (0, 0)) ∧ W0.grownBy wc (some g))
      case first =>
        go_region_held3 (fun w' => w'.cell? ⟨kh, 0, none⟩ = some (.int .i64 (Hd.getH s).id) ∧ w'.cell? ⟨kh, 1, none⟩ = some (.bool (Hd.getH s).qr) ∧ w'.cell? ⟨kh, 2, none⟩ = some (.int .i64 (Hd.getH s).op) ∧ w'.cell? ⟨kh, 3, none⟩ = some (.bool (Hd.getH s).aa) ∧ w'.cell? ⟨kh, 4, none⟩ = some (.bool (Hd.getH s).tc) ∧ w'.cell? ⟨kh, 5, none⟩ = some (.bool (Hd.getH s).rd) ∧ w'.cell? ⟨kh, 6, none⟩ = some (.bool (Hd.getH s).ra) ∧ w'.cell? ⟨kh, 7, none⟩ = some (.int .i64 (Hd.getH s).z) ∧ w'.cell? ⟨kh, 8, none⟩ = some (.int .i64 (Hd.getH s).rc) ∧ w'.cell? ⟨kc, 0, none⟩ = some (.int .i64 (be2 s 4)))
          (first | with_reducible exact ⟨h0, h1, h2, h3, h4, h5, h6, h7, h8, h9⟩ | with_reducible exact ⟨ha0, ha1, ha2, ha3, ha4, ha5, ha6, ha7, ha8, ha9⟩ | with_reducible exact ⟨i0, i1, i2, i3, i4, i5, i6, i7, i8, i9⟩ | (go_keep; done))
          (first
            | (go_at_call 65; with_reducible refine kqd.mono ?_; rintro e w3 ⟨vq, rfl, hown, H3, G3⟩; obtain ⟨A3, c3, rfl⟩ := Sl.own_slice hown; obtain ⟨i0, i1, i2, i3, i4, i5, i6, i7, i8, i9⟩ := FQ _ _ bhd bcd G3; have nv0 := World.new_ne w3 ⟨kh, 0, none⟩ i0; have nv1 := World.new_ne w3 ⟨kh, 1, none⟩ i1; have nv2 := World.new_ne w3 ⟨kh, 2, none⟩ i2; have nv3 := World.new_ne w3 ⟨kh, 3, none⟩ i3; have nv4 := World.new_ne w3 ⟨kh, 4, none⟩ i4; have nv5 := World.new_ne w3 ⟨kh, 5, none⟩ i5; have nv6 := World.new_ne w3 ⟨kh, 6, none⟩ i6; have nv7 := World.new_ne w3 ⟨kh, 7, none⟩ i7; have nv8 := World.new_ne w3 ⟨kh, 8, none⟩ i8; have nv9 := World.new_ne w3 ⟨kc, 0, none⟩ i9)
            | (go_at_call 65; with_reducible refine kqe.mono ?_; rintro e w3 ⟨vq, rfl, hown, H3, G3⟩; obtain ⟨A3, c3, rfl⟩ := Sl.own_slice hown; obtain ⟨i0, i1, i2, i3, i4, i5, i6, i7, i8, i9⟩ := FQ _ _ bhe bce G3; have nv0 := World.new_ne w3 ⟨kh, 0, none⟩ i0; have nv1 := World.new_ne w3 ⟨kh, 1, none⟩ i1; have nv2 := World.new_ne w3 ⟨kh, 2, none⟩ i2; have nv3 := World.new_ne w3 ⟨kh, 3, none⟩ i3; have nv4 := World.new_ne w3 ⟨kh, 4, none⟩ i4; have nv5 := World.new_ne w3 ⟨kh, 5, none⟩ i5; have nv6 := World.new_ne w3 ⟨kh, 6, none⟩ i6; have nv7 := World.new_ne w3 ⟨kh, 7, none⟩ i7; have nv8 := World.new_ne w3 ⟨kh, 8, none⟩ i8; have nv9 := World.new_ne w3 ⟨kc, 0, none⟩ i9; obtain ⟨k3, m0, m1, m2, m3, m4, m5, m6, m7, m8, m9, m10, m11, m12, n0, n1, n2, n3, n4, n5, n6, n7, n8, n9, n10, n11, n12⟩ := FK _ _ kke G3))
        all_goals
          go_wp2_with fail
          go_meet
          case rel =>
            first
            | (have hk3 := k3
               have hp3 := HP3.out (W0.alloc (.cells mz 27)).drew w3 p0e G3
               have hc3 := HC3.out (W0.alloc (.cells mz 27)).drew w3 bce G3
               have hg3 := GWe.trans G3
               have key := HF2.out w3 _ _ (by simp) hown H3 hk3 hp3 hc3 hg3
               simp only [putAll] at key
               obtain ⟨a, b, c, d, e, f⟩ := key
               exact ⟨W0.heap.size, _, rfl, a, Nat.le_refl _, b, c, d, e, f⟩)
            | (have hp3 := HP3.out W0.drew w3 p0d G3
               have hc3 := HC3.out W0.drew w3 bcd G3
               have hg3 := GWd.trans G3
               obtain ⟨W, hW, a, b', b, c, d, e, f⟩ := HF1.out w3 _ _ (Nat.le_refl _) hown H3 hp3 hc3 hg3
               rw [← hW]
               exact ⟨w3.heap.size, _, rfl, a, b', b, c, d, e, f⟩)
      case rest =>
      obtain ⟨km, vq, rfl, bm, hkm, ho, H3, p3, c3, G3⟩ := hcut
      clear HF1 HF2 HP3 HC3 FQ FK kqd kqe h0 h1 h2 h3 h4 h5 h6 h7 h8 h9 ha0 ha1 ha2 ha3 ha4 ha5 ha6 ha7 ha8 ha9 nw0 nw1 nw2 nw3 nw4 nw5 nw6 nw7 nw8 nw9 RG Dh Dc Dd De bhd bcd bhe bce p0d p0e kke GWd GWe
      have hmg : g ≠ km := by have := blk_lt bg; omega
      have hcm : kc ≠ km := by have := blk_lt bc; omega
      have hpm : w.heap.size ≠ km := by have := blk_lt p0; omega
      have ip0 : ∀ W, (Instr.index 125 (.agg #[.pointer (some ⟨km, 10, none⟩), .pointer (some ⟨km, 11, none⟩), .pointer (some ⟨km, 12, none⟩)]) (.int .i64 0)).run Try.prog W = .ok (.pointer (some ⟨km, 10, none⟩)) W := fun _ => by kernel_rfl
      have ip1 : ∀ W, (Instr.index 125 (.agg #[.pointer (some ⟨km, 10, none⟩), .pointer (some ⟨km, 11, none⟩), .pointer (some ⟨km, 12, none⟩)]) (.int .i64 1)).run Try.prog W = .ok (.pointer (some ⟨km, 11, none⟩)) W := fun _ => by kernel_rfl
      have ip2 : ∀ W, (Instr.index 125 (.agg #[.pointer (some ⟨km, 10, none⟩), .pointer (some ⟨km, 11, none⟩), .pointer (some ⟨km, 12, none⟩)]) (.int .i64 2)).run Try.prog W = .ok (.pointer (some ⟨km, 12, none⟩)) W := fun _ => by kernel_rfl
      obtain ⟨⟨oa, ra⟩, hla, hr3⟩ := Option.bind_eq_some_iff.1 HR2.out
      obtain ⟨⟨on, rn⟩, hln, hr4⟩ := Option.bind_eq_some_iff.1 hr3
      obtain ⟨⟨orr, rr⟩, hlr, hr5⟩ := Option.bind_eq_some_iff.1 hr4
      have HR5 := Lib.hid hr5
      clear hr3 hr4 hr5 HR2
      obtain ⟨Aq, cq, rfl⟩ := Sl.own_slice ho
      go_upto_region 9 with (fail)
      refine wp_loop_rounds 4 ?_
      have bd0 := be2_bd s 6
      have hk0 : (((be2 s 6).toNat : Nat) : Int) = be2 s 6 := by omega
      have kr0 := listRc H3 hs4 (be2 s 6).toNat (by omega) hla
      rw [hk0] at kr0
      have cx0 : wc.cell? ⟨kc, 1, none⟩ = some (.int .i64 (be2 s 6)) := (blk_cell c3 1).trans rfl
      rw [rounds_succ]
      go_wp2_with fail
      refine kr0.mono ?_
      rintro e5 wl0 ⟨vl0, rfl, hol0, HL0, GL0⟩
      obtain ⟨A0, c0x, rfl⟩ := Sl.own_slice hol0
      have bl0 := blk_grown bm GL0 (by intro q; injection q with q; exact hmg q.symm)
      have cl0 := blk_grown c3 GL0 (by intro q; injection q with q; exact hcg q)
      have pl0 := blk_grown p3 GL0 (by intro q; injection q with q; exact hpg q)
      replace ho := own_other ho GL0 (.inr (Ne.symm (own_ne ho H3.blk (by decide))))
      have lt0 := Lib.hid (own_lt hol0)
      have xm0 : wl0.cell? ⟨km, 10, none⟩ = some (.slice none 0 0) := (blk_cell bl0 10).trans rfl
      have fm0 := blk_frozen bl0 10
      have bn0 := blk_put bl0 10 (.slice A0 oa.length c0x) rfl
      have cn0 := blk_set_ne (p := ⟨km, 10, none⟩) cl0 hcm (.slice A0 oa.length c0x)
      have pn0 := blk_set_ne (p := ⟨km, 10, none⟩) pl0 hpm (.slice A0 oa.length c0x)
      have HN0 : RdAt (wl0.setCell ⟨km, 10, none⟩ (.slice A0 oa.length c0x)) g s ra := ⟨blk_set_ne (p := ⟨km, 10, none⟩) HL0.blk hmg (.slice A0 oa.length c0x)⟩
      have GN0 := grown_far (p := ⟨km, 10, none⟩) (G3.trans GL0) hkm (.slice A0 oa.length c0x)
      replace ho := own_setCell (p := ⟨km, 10, none⟩) ho (own_ne ho bl0 (by decide)) (.slice A0 oa.length c0x)
      replace hol0 := own_setCell (p := ⟨km, 10, none⟩) hol0 (own_ne hol0 bl0 (by decide)) (.slice A0 oa.length c0x)
      go_wp2_with fail
      skip
      have bd1 := be2_bd s 8
      have hk1 : (((be2 s 8).toNat : Nat) : Int) = be2 s 8 := by omega
      have kr1 := listRc HN0 hs4 (be2 s 8).toNat (by omega) hln
      rw [hk1] at kr1
      have cx1 : (wl0.setCell ⟨km, 10, none⟩ (.slice A0 oa.length c0x)).cell? ⟨kc, 2, none⟩ = some (.int .i64 (be2 s 8)) := (blk_cell cn0 2).trans rfl
      rw [rounds_succ]
      go_wp2_with fail
      refine kr1.mono ?_
      rintro e5 wl1 ⟨vl1, rfl, hol1, HL1, GL1⟩
      obtain ⟨A1, c1x, rfl⟩ := Sl.own_slice hol1
      have bl1 := blk_grown bn0 GL1 (by intro q; injection q with q; exact hmg q.symm)
      have cl1 := blk_grown cn0 GL1 (by intro q; injection q with q; exact hcg q)
      have pl1 := blk_grown pn0 GL1 (by intro q; injection q with q; exact hpg q)
      replace ho := own_other ho GL1 (.inr (Ne.symm (own_ne ho HN0.blk (by decide))))
      replace hol0 := own_other hol0 GL1 (.inr (Ne.symm (own_ne hol0 HN0.blk (by decide))))
      have lt1 := Lib.hid (own_lt hol1)
      have bs1 := Lib.hid (Sl.own_base hol1)
      have xm1 : wl1.cell? ⟨km, 11, none⟩ = some (.slice none 0 0) := (blk_cell bl1 11).trans rfl
      have fm1 := blk_frozen bl1 11
      have bn1 := blk_put bl1 11 (.slice A1 on.length c1x) rfl
      have cn1 := blk_set_ne (p := ⟨km, 11, none⟩) cl1 hcm (.slice A1 on.length c1x)
      have pn1 := blk_set_ne (p := ⟨km, 11, none⟩) pl1 hpm (.slice A1 on.length c1x)
      have HN1 : RdAt (wl1.setCell ⟨km, 11, none⟩ (.slice A1 on.length c1x)) g s rn := ⟨blk_set_ne (p := ⟨km, 11, none⟩) HL1.blk hmg (.slice A1 on.length c1x)⟩
      have GN1 := grown_far (p := ⟨km, 11, none⟩) (GN0.trans GL1) hkm (.slice A1 on.length c1x)
      replace ho := own_setCell (p := ⟨km, 11, none⟩) ho (own_ne ho bl1 (by decide)) (.slice A1 on.length c1x)
      replace hol0 := own_setCell (p := ⟨km, 11, none⟩) hol0 (own_ne hol0 bl1 (by decide)) (.slice A1 on.length c1x)
      replace hol1 := own_setCell (p := ⟨km, 11, none⟩) hol1 (own_ne hol1 bl1 (by decide)) (.slice A1 on.length c1x)
      go_wp2_with fail
      skip
      have bd2 := be2_bd s 10
      have hk2 : (((be2 s 10).toNat : Nat) : Int) = be2 s 10 := by omega
      have kr2 := listRc HN1 hs4 (be2 s 10).toNat (by omega) hlr
      rw [hk2] at kr2
      have cx2 : (wl1.setCell ⟨km, 11, none⟩ (.slice A1 on.length c1x)).cell? ⟨kc, 3, none⟩ = some (.int .i64 (be2 s 10)) := (blk_cell cn1 3).trans rfl
      rw [rounds_succ]
      go_wp2_with fail
      refine kr2.mono ?_
      rintro e5 wl2 ⟨vl2, rfl, hol2, HL2, GL2⟩
      obtain ⟨A2, c2x, rfl⟩ := Sl.own_slice hol2
      have bl2 := blk_grown bn1 GL2 (by intro q; injection q with q; exact hmg q.symm)
      have cl2 := blk_grown cn1 GL2 (by intro q; injection q with q; exact hcg q)
      have pl2 := blk_grown pn1 GL2 (by intro q; injection q with q; exact hpg q)
      replace ho := own_other ho GL2 (.inr (Ne.symm (own_ne ho HN1.blk (by decide))))
      replace hol0 := own_other hol0 GL2 (.inr (Ne.symm (own_ne hol0 HN1.blk (by decide))))
      replace hol1 := own_other hol1 GL2 (.inr (Ne.symm (own_ne hol1 HN1.blk (by decide))))
      have bs2 := Lib.hid (Sl.own_base hol2)
      have xm2 : wl2.cell? ⟨km, 12, none⟩ = some (.slice none 0 0) := (blk_cell bl2 12).trans rfl
      have fm2 := blk_frozen bl2 12
      have bn2 := blk_put bl2 12 (.slice A2 orr.length c2x) rfl
      have cn2 := blk_set_ne (p := ⟨km, 12, none⟩) cl2 hcm (.slice A2 orr.length c2x)
      have pn2 := blk_set_ne (p := ⟨km, 12, none⟩) pl2 hpm (.slice A2 orr.length c2x)
      have HN2 : RdAt (wl2.setCell ⟨km, 12, none⟩ (.slice A2 orr.length c2x)) g s rr := ⟨blk_set_ne (p := ⟨km, 12, none⟩) HL2.blk hmg (.slice A2 orr.length c2x)⟩
      have GN2 := grown_far (p := ⟨km, 12, none⟩) (GN1.trans GL2) hkm (.slice A2 orr.length c2x)
      replace ho := own_setCell (p := ⟨km, 12, none⟩) ho (own_ne ho bl2 (by decide)) (.slice A2 orr.length c2x)
      replace hol0 := own_setCell (p := ⟨km, 12, none⟩) hol0 (own_ne hol0 bl2 (by decide)) (.slice A2 orr.length c2x)
      replace hol1 := own_setCell (p := ⟨km, 12, none⟩) hol1 (own_ne hol1 bl2 (by decide)) (.slice A2 orr.length c2x)
      replace hol2 := own_setCell (p := ⟨km, 12, none⟩) hol2 (own_ne hol2 bl2 (by decide)) (.slice A2 orr.length c2x)
      go_wp2_with fail
      skip
      rw [rounds_succ]
      go_upto_region 13 with (fail)
      have BF : Below w.heap.size w (wl2.setCell ⟨km, 12, none⟩ (.slice A2 orr.length c2x)) := BB0.grown GN2 BB0.size (fun k e => by injection e with e; omega)
      generalize hWF : (wl2.setCell ⟨km, 12, none⟩ (.slice A2 orr.length c2x)) = WF at *
      clear hWF
      obtain ⟨at9, bad9⟩ := rr
      have u1 : WF.cell? ⟨g, 1, none⟩ = some (.int .i64 at9) := (blk_cell HN2.blk 1).trans rfl
      have u2 : WF.cell? ⟨g, 2, none⟩ = some (.bool bad9) := (blk_cell HN2.blk 2).trans rfl
      have hr5 := HR5.out
      dsimp only at hr5
      clear HR5
      have hr6 : (bad9 = true ∧ got0 700 = r) ∨ (bad9 = false ∧ (at9 != (s.size : Int)) = true ∧ got0 700 = r) ∨ (bad9 = false ∧ (at9 != (s.size : Int)) = false ∧ (⟨Hd.getH s, oq, oa, on, orr, 0⟩ : Got) = r) := by
        cases bad9 with
        | true => exact .inl ⟨rfl, Option.some.inj (by simpa using hr5)⟩
        | false =>
          by_cases e : at9 = (s.size : Int)
          · exact .inr (.inr ⟨rfl, by simpa using e, Option.some.inj (by simpa [e] using hr5)⟩)
          · exact .inr (.inl ⟨rfl, by simpa using e, Option.some.inj (by simpa [e] using hr5)⟩)
      have HR6 := Lib.hid hr6
      clear hr5 hr6
      have v0 := cell_regrown u1
      have v1 := cell_regrown u2
      rcases HR6.out with ⟨rfl, rfl⟩ | ⟨rfl, hat, rfl⟩ | ⟨rfl, hat, rfl⟩
      · have B1 : Below WF.heap.size WF WF := Below.refl _ _
        have pp := blk_below pn2 B1
        have bb := blk_below bn2 B1
        have BG := BF.trans (B1.mono BF.size)
        have x0 : WF.cell? ⟨w.heap.size, 0, none⟩ = some (.int .i64 0) := (blk_cell pp 0).trans rfl
        have x1 : WF.cell? ⟨w.heap.size, 1, none⟩ = some (.bool false) := (blk_cell pp 1).trans rfl
        have x2 : WF.cell? ⟨w.heap.size, 2, none⟩ = some (.int .i64 0) := (blk_cell pp 2).trans rfl
        have x3 : WF.cell? ⟨w.heap.size, 3, none⟩ = some (.bool false) := (blk_cell pp 3).trans rfl
        have x4 : WF.cell? ⟨w.heap.size, 4, none⟩ = some (.bool false) := (blk_cell pp 4).trans rfl
        have x5 : WF.cell? ⟨w.heap.size, 5, none⟩ = some (.bool false) := (blk_cell pp 5).trans rfl
        have x6 : WF.cell? ⟨w.heap.size, 6, none⟩ = some (.bool false) := (blk_cell pp 6).trans rfl
        have x7 : WF.cell? ⟨w.heap.size, 7, none⟩ = some (.int .i64 0) := (blk_cell pp 7).trans rfl
        have x8 : WF.cell? ⟨w.heap.size, 8, none⟩ = some (.int .i64 0) := (blk_cell pp 8).trans rfl
        have x9 : WF.cell? ⟨w.heap.size, 9, none⟩ = some (.slice none 0 0) := (blk_cell pp 9).trans rfl
        have x10 : WF.cell? ⟨w.heap.size, 10, none⟩ = some (.slice none 0 0) := (blk_cell pp 10).trans rfl
        have x11 : WF.cell? ⟨w.heap.size, 11, none⟩ = some (.slice none 0 0) := (blk_cell pp 11).trans rfl
        have x12 : WF.cell? ⟨w.heap.size, 12, none⟩ = some (.slice none 0 0) := (blk_cell pp 12).trans rfl
        have y0 := blk_frozen pp 0
        have y1 := blk_frozen pp 1
        have y2 := blk_frozen pp 2
        have y3 := blk_frozen pp 3
        have y4 := blk_frozen pp 4
        have y5 := blk_frozen pp 5
        have y6 := blk_frozen pp 6
        have y7 := blk_frozen pp 7
        have y8 := blk_frozen pp 8
        have y9 := blk_frozen pp 9
        have y10 := blk_frozen pp 10
        have y11 := blk_frozen pp 11
        have y12 := blk_frozen pp 12
        have pF := putAll_blk 0 [.int .i64 0, .bool false, .int .i64 0, .bool false, .bool false, .bool false, .bool false, .int .i64 0, .int .i64 0, .slice none 0 0, .slice none 0 0, .slice none 0 0, .slice none 0 0] #[.int .i64 0, .bool false, .int .i64 0, .bool false, .bool false, .bool false, .bool false, .int .i64 0, .int .i64 0, .slice none 0 0, .slice none 0 0, .slice none 0 0, .slice none 0 0] pp (by simp [setAll])
        have GF := putAll_grown (row := none) 0 [.int .i64 0, .bool false, .int .i64 0, .bool false, .bool false, .bool false, .bool false, .int .i64 0, .int .i64 0, .slice none 0 0, .slice none 0 0, .slice none 0 0, .slice none 0 0] (grown_below BG none) (Nat.le_refl _)
        simp only [putAll] at pF GF
        have e0 := (blk_cell pF 0).trans rfl
        have e1 := (blk_cell pF 1).trans rfl
        have e2 := (blk_cell pF 2).trans rfl
        have e3 := (blk_cell pF 3).trans rfl
        have e4 := (blk_cell pF 4).trans rfl
        have e5 := (blk_cell pF 5).trans rfl
        have e6 := (blk_cell pF 6).trans rfl
        have e7 := (blk_cell pF 7).trans rfl
        have e8 := (blk_cell pF 8).trans rfl
        have e9 := (blk_cell pF 9).trans rfl
        have e10 := (blk_cell pF 10).trans rfl
        have e11 := (blk_cell pF 11).trans rfl
        have e12 := (blk_cell pF 12).trans rfl
        go_wp2
        exact bodyPost_ret (v := .tuple #[.agg #[.int .i64 0, .bool false, .int .i64 0, .bool false, .bool false, .bool false, .bool false, .int .i64 0, .int .i64 0, .slice none 0 0, .slice none 0 0, .slice none 0 0, .slice none 0 0], .int .i64 700]) (by simp [results, Try.results35, go_sem, e0, e1, e2, e3, e4, e5, e6, e7, e8, e9, e10, e11, e12]) rfl (post0 s w _ 700 ⟨GF.os, GF.tape, GF.output, GF.size, fun k hk => GF.block k hk (by simp)⟩)
      · have B1 : Below WF.heap.size WF WF := Below.refl _ _
        have pp := blk_below pn2 B1
        have bb := blk_below bn2 B1
        have BG := BF.trans (B1.mono BF.size)
        have x0 : WF.cell? ⟨w.heap.size, 0, none⟩ = some (.int .i64 0) := (blk_cell pp 0).trans rfl
        have x1 : WF.cell? ⟨w.heap.size, 1, none⟩ = some (.bool false) := (blk_cell pp 1).trans rfl
        have x2 : WF.cell? ⟨w.heap.size, 2, none⟩ = some (.int .i64 0) := (blk_cell pp 2).trans rfl
        have x3 : WF.cell? ⟨w.heap.size, 3, none⟩ = some (.bool false) := (blk_cell pp 3).trans rfl
        have x4 : WF.cell? ⟨w.heap.size, 4, none⟩ = some (.bool false) := (blk_cell pp 4).trans rfl
        have x5 : WF.cell? ⟨w.heap.size, 5, none⟩ = some (.bool false) := (blk_cell pp 5).trans rfl
        have x6 : WF.cell? ⟨w.heap.size, 6, none⟩ = some (.bool false) := (blk_cell pp 6).trans rfl
        have x7 : WF.cell? ⟨w.heap.size, 7, none⟩ = some (.int .i64 0) := (blk_cell pp 7).trans rfl
        have x8 : WF.cell? ⟨w.heap.size, 8, none⟩ = some (.int .i64 0) := (blk_cell pp 8).trans rfl
        have x9 : WF.cell? ⟨w.heap.size, 9, none⟩ = some (.slice none 0 0) := (blk_cell pp 9).trans rfl
        have x10 : WF.cell? ⟨w.heap.size, 10, none⟩ = some (.slice none 0 0) := (blk_cell pp 10).trans rfl
        have x11 : WF.cell? ⟨w.heap.size, 11, none⟩ = some (.slice none 0 0) := (blk_cell pp 11).trans rfl
        have x12 : WF.cell? ⟨w.heap.size, 12, none⟩ = some (.slice none 0 0) := (blk_cell pp 12).trans rfl
        have y0 := blk_frozen pp 0
        have y1 := blk_frozen pp 1
        have y2 := blk_frozen pp 2
        have y3 := blk_frozen pp 3
        have y4 := blk_frozen pp 4
        have y5 := blk_frozen pp 5
        have y6 := blk_frozen pp 6
        have y7 := blk_frozen pp 7
        have y8 := blk_frozen pp 8
        have y9 := blk_frozen pp 9
        have y10 := blk_frozen pp 10
        have y11 := blk_frozen pp 11
        have y12 := blk_frozen pp 12
        have pF := putAll_blk 0 [.int .i64 0, .bool false, .int .i64 0, .bool false, .bool false, .bool false, .bool false, .int .i64 0, .int .i64 0, .slice none 0 0, .slice none 0 0, .slice none 0 0, .slice none 0 0] #[.int .i64 0, .bool false, .int .i64 0, .bool false, .bool false, .bool false, .bool false, .int .i64 0, .int .i64 0, .slice none 0 0, .slice none 0 0, .slice none 0 0, .slice none 0 0] pp (by simp [setAll])
        have GF := putAll_grown (row := none) 0 [.int .i64 0, .bool false, .int .i64 0, .bool false, .bool false, .bool false, .bool false, .int .i64 0, .int .i64 0, .slice none 0 0, .slice none 0 0, .slice none 0 0, .slice none 0 0] (grown_below BG none) (Nat.le_refl _)
        simp only [putAll] at pF GF
        have e0 := (blk_cell pF 0).trans rfl
        have e1 := (blk_cell pF 1).trans rfl
        have e2 := (blk_cell pF 2).trans rfl
        have e3 := (blk_cell pF 3).trans rfl
        have e4 := (blk_cell pF 4).trans rfl
        have e5 := (blk_cell pF 5).trans rfl
        have e6 := (blk_cell pF 6).trans rfl
        have e7 := (blk_cell pF 7).trans rfl
        have e8 := (blk_cell pF 8).trans rfl
        have e9 := (blk_cell pF 9).trans rfl
        have e10 := (blk_cell pF 10).trans rfl
        have e11 := (blk_cell pF 11).trans rfl
        have e12 := (blk_cell pF 12).trans rfl
        go_wp2
        exact bodyPost_ret (v := .tuple #[.agg #[.int .i64 0, .bool false, .int .i64 0, .bool false, .bool false, .bool false, .bool false, .int .i64 0, .int .i64 0, .slice none 0 0, .slice none 0 0, .slice none 0 0, .slice none 0 0], .int .i64 700]) (by simp [results, Try.results35, go_sem, e0, e1, e2, e3, e4, e5, e6, e7, e8, e9, e10, e11, e12]) rfl (post0 s w _ 700 ⟨GF.os, GF.tape, GF.output, GF.size, fun k hk => GF.block k hk (by simp)⟩)
      · have B1 : Below WF.heap.size WF WF := Below.refl _ _
        have pp := blk_below pn2 B1
        have bb := blk_below bn2 B1
        have BG := BF.trans (B1.mono BF.size)
        have x0 : WF.cell? ⟨w.heap.size, 0, none⟩ = some (.int .i64 0) := (blk_cell pp 0).trans rfl
        have x1 : WF.cell? ⟨w.heap.size, 1, none⟩ = some (.bool false) := (blk_cell pp 1).trans rfl
        have x2 : WF.cell? ⟨w.heap.size, 2, none⟩ = some (.int .i64 0) := (blk_cell pp 2).trans rfl
        have x3 : WF.cell? ⟨w.heap.size, 3, none⟩ = some (.bool false) := (blk_cell pp 3).trans rfl
        have x4 : WF.cell? ⟨w.heap.size, 4, none⟩ = some (.bool false) := (blk_cell pp 4).trans rfl
        have x5 : WF.cell? ⟨w.heap.size, 5, none⟩ = some (.bool false) := (blk_cell pp 5).trans rfl
        have x6 : WF.cell? ⟨w.heap.size, 6, none⟩ = some (.bool false) := (blk_cell pp 6).trans rfl
        have x7 : WF.cell? ⟨w.heap.size, 7, none⟩ = some (.int .i64 0) := (blk_cell pp 7).trans rfl
        have x8 : WF.cell? ⟨w.heap.size, 8, none⟩ = some (.int .i64 0) := (blk_cell pp 8).trans rfl
        have x9 : WF.cell? ⟨w.heap.size, 9, none⟩ = some (.slice none 0 0) := (blk_cell pp 9).trans rfl
        have x10 : WF.cell? ⟨w.heap.size, 10, none⟩ = some (.slice none 0 0) := (blk_cell pp 10).trans rfl
        have x11 : WF.cell? ⟨w.heap.size, 11, none⟩ = some (.slice none 0 0) := (blk_cell pp 11).trans rfl
        have x12 : WF.cell? ⟨w.heap.size, 12, none⟩ = some (.slice none 0 0) := (blk_cell pp 12).trans rfl
        have y0 := blk_frozen pp 0
        have y1 := blk_frozen pp 1
        have y2 := blk_frozen pp 2
        have y3 := blk_frozen pp 3
        have y4 := blk_frozen pp 4
        have y5 := blk_frozen pp 5
        have y6 := blk_frozen pp 6
        have y7 := blk_frozen pp 7
        have y8 := blk_frozen pp 8
        have y9 := blk_frozen pp 9
        have y10 := blk_frozen pp 10
        have y11 := blk_frozen pp 11
        have y12 := blk_frozen pp 12
        have z0 : WF.cell? ⟨km, 0, none⟩ = some (.int .i64 (Hd.getH s).id) := (blk_cell bb 0).trans rfl
        have z1 : WF.cell? ⟨km, 1, none⟩ = some (.bool (Hd.getH s).qr) := (blk_cell bb 1).trans rfl
        have z2 : WF.cell? ⟨km, 2, none⟩ = some (.int .i64 (Hd.getH s).op) := (blk_cell bb 2).trans rfl
        have z3 : WF.cell? ⟨km, 3, none⟩ = some (.bool (Hd.getH s).aa) := (blk_cell bb 3).trans rfl
        have z4 : WF.cell? ⟨km, 4, none⟩ = some (.bool (Hd.getH s).tc) := (blk_cell bb 4).trans rfl
        have z5 : WF.cell? ⟨km, 5, none⟩ = some (.bool (Hd.getH s).rd) := (blk_cell bb 5).trans rfl
        have z6 : WF.cell? ⟨km, 6, none⟩ = some (.bool (Hd.getH s).ra) := (blk_cell bb 6).trans rfl
        have z7 : WF.cell? ⟨km, 7, none⟩ = some (.int .i64 (Hd.getH s).z) := (blk_cell bb 7).trans rfl
        have z8 : WF.cell? ⟨km, 8, none⟩ = some (.int .i64 (Hd.getH s).rc) := (blk_cell bb 8).trans rfl
        have z9 : WF.cell? ⟨km, 9, none⟩ = some (.slice Aq oq.length cq) := (blk_cell bb 9).trans rfl
        have z10 : WF.cell? ⟨km, 10, none⟩ = some (.slice A0 oa.length c0x) := (blk_cell bb 10).trans rfl
        have z11 : WF.cell? ⟨km, 11, none⟩ = some (.slice A1 on.length c1x) := (blk_cell bb 11).trans rfl
        have z12 : WF.cell? ⟨km, 12, none⟩ = some (.slice A2 orr.length c2x) := (blk_cell bb 12).trans rfl
        have hle0 := BB0.size
        have hle1 := G3.size
        have hle2 := GL0.size
        have hle3 := GL1.size
        simp [World.setCell] at hle3
        go_wp2
        have pF := putAll_blk 0 [.int .i64 (Hd.getH s).id, .bool (Hd.getH s).qr, .int .i64 (Hd.getH s).op, .bool (Hd.getH s).aa, .bool (Hd.getH s).tc, .bool (Hd.getH s).rd, .bool (Hd.getH s).ra, .int .i64 (Hd.getH s).z, .int .i64 (Hd.getH s).rc, .slice Aq oq.length cq, .slice A0 oa.length c0x, .slice A1 on.length c1x, .slice A2 orr.length c2x] #[.int .i64 (Hd.getH s).id, .bool (Hd.getH s).qr, .int .i64 (Hd.getH s).op, .bool (Hd.getH s).aa, .bool (Hd.getH s).tc, .bool (Hd.getH s).rd, .bool (Hd.getH s).ra, .int .i64 (Hd.getH s).z, .int .i64 (Hd.getH s).rc, .slice Aq oq.length cq, .slice A0 oa.length c0x, .slice A1 on.length c1x, .slice A2 orr.length c2x] pp (by simp [setAll])
        have GF := putAll_grown (row := none) 0 [.int .i64 (Hd.getH s).id, .bool (Hd.getH s).qr, .int .i64 (Hd.getH s).op, .bool (Hd.getH s).aa, .bool (Hd.getH s).tc, .bool (Hd.getH s).rd, .bool (Hd.getH s).ra, .int .i64 (Hd.getH s).z, .int .i64 (Hd.getH s).rc, .slice Aq oq.length cq, .slice A0 oa.length c0x, .slice A1 on.length c1x, .slice A2 orr.length c2x] (grown_below BG none) (Nat.le_refl _)
        have o0 := putAll_own 0 [.int .i64 (Hd.getH s).id, .bool (Hd.getH s).qr, .int .i64 (Hd.getH s).op, .bool (Hd.getH s).aa, .bool (Hd.getH s).tc, .bool (Hd.getH s).rd, .bool (Hd.getH s).ra, .int .i64 (Hd.getH s).z, .int .i64 (Hd.getH s).rc, .slice Aq oq.length cq, .slice A0 oa.length c0x, .slice A1 on.length c1x, .slice A2 orr.length c2x] (Sl.own_below ho B1) (own_ne (Sl.own_below ho B1) pp (by decide))
        have o1 := putAll_own 0 [.int .i64 (Hd.getH s).id, .bool (Hd.getH s).qr, .int .i64 (Hd.getH s).op, .bool (Hd.getH s).aa, .bool (Hd.getH s).tc, .bool (Hd.getH s).rd, .bool (Hd.getH s).ra, .int .i64 (Hd.getH s).z, .int .i64 (Hd.getH s).rc, .slice Aq oq.length cq, .slice A0 oa.length c0x, .slice A1 on.length c1x, .slice A2 orr.length c2x] (Sl.own_below hol0 B1) (own_ne (Sl.own_below hol0 B1) pp (by decide))
        have o2 := putAll_own 0 [.int .i64 (Hd.getH s).id, .bool (Hd.getH s).qr, .int .i64 (Hd.getH s).op, .bool (Hd.getH s).aa, .bool (Hd.getH s).tc, .bool (Hd.getH s).rd, .bool (Hd.getH s).ra, .int .i64 (Hd.getH s).z, .int .i64 (Hd.getH s).rc, .slice Aq oq.length cq, .slice A0 oa.length c0x, .slice A1 on.length c1x, .slice A2 orr.length c2x] (Sl.own_below hol1 B1) (own_ne (Sl.own_below hol1 B1) pp (by decide))
        have o3 := putAll_own 0 [.int .i64 (Hd.getH s).id, .bool (Hd.getH s).qr, .int .i64 (Hd.getH s).op, .bool (Hd.getH s).aa, .bool (Hd.getH s).tc, .bool (Hd.getH s).rd, .bool (Hd.getH s).ra, .int .i64 (Hd.getH s).z, .int .i64 (Hd.getH s).rc, .slice Aq oq.length cq, .slice A0 oa.length c0x, .slice A1 on.length c1x, .slice A2 orr.length c2x] (Sl.own_below hol2 B1) (own_ne (Sl.own_below hol2 B1) pp (by decide))
        simp only [putAll] at pF GF o0 o1 o2 o3
        have e0 := (blk_cell pF 0).trans rfl
        have e1 := (blk_cell pF 1).trans rfl
        have e2 := (blk_cell pF 2).trans rfl
        have e3 := (blk_cell pF 3).trans rfl
        have e4 := (blk_cell pF 4).trans rfl
        have e5 := (blk_cell pF 5).trans rfl
        have e6 := (blk_cell pF 6).trans rfl
        have e7 := (blk_cell pF 7).trans rfl
        have e8 := (blk_cell pF 8).trans rfl
        have e9 := (blk_cell pF 9).trans rfl
        have e10 := (blk_cell pF 10).trans rfl
        have e11 := (blk_cell pF 11).trans rfl
        have e12 := (blk_cell pF 12).trans rfl
        refine bodyPost_ret (v := .tuple #[.agg #[.int .i64 (Hd.getH s).id, .bool (Hd.getH s).qr, .int .i64 (Hd.getH s).op, .bool (Hd.getH s).aa, .bool (Hd.getH s).tc, .bool (Hd.getH s).rd, .bool (Hd.getH s).ra, .int .i64 (Hd.getH s).z, .int .i64 (Hd.getH s).rc, .slice Aq oq.length cq, .slice A0 oa.length c0x, .slice A1 on.length c1x, .slice A2 orr.length c2x], .int .i64 0]) (by simp [results, Try.results35, go_sem, e0, e1, e2, e3, e4, e5, e6, e7, e8, e9, e10, e11, e12]) rfl ?_
        refine ⟨_, _, _, _, rfl, own_lower o0 (by omega), own_lower o1 (by omega), own_lower o2 (by simp; omega), own_lower o3 (by simp; omega), ?k1, ?k2, ?k3, ⟨GF.os, GF.tape, GF.output, GF.size, fun k hk => GF.block k hk (by simp)⟩⟩
        case k1 => exact fun k hk => ⟨fun q => by have a := lt0.out k hk; have b := bs1.out k q.symm; simp [World.setCell] at b; omega, fun q => by have a := lt0.out k hk; have b := bs2.out k q.symm; simp [World.setCell] at b; omega⟩
        case k2 => exact fun k hk => ⟨fun q => by have a := lt0.out k q.symm; have b := bs1.out k hk; simp [World.setCell] at b; omega, fun q => by have a := lt1.out k hk; have b := bs2.out k q.symm; simp [World.setCell] at b; omega⟩
        case k3 => exact fun k hk => ⟨fun q => by have a := lt0.out k q.symm; have b := bs2.out k hk; simp [World.setCell] at b; omega, fun q => by have a := lt1.out k q.symm; have b := bs2.out k hk; simp [World.setCell] at b; omega⟩
end Go.Proofs.Ytjklgdpffmaamaa.Wm

namespace Go.Proofs.Ytjklgdpffmaamaa.Wm
open Go.RowKit Go.PlainAid Go.Maps Go.Proofs.Ytjklgdpffmaamaa.Base Go.Proofs.Ytjklgdpffmaamaa.Oct Go.Proofs.Ytjklgdpffmaamaa.Nm
open Go.Proofs.YtjklgdpffmaamaaW.PrintWords (blk_cell blk_below blk_put blk_frozen blk_ne blk_new blk_lt blk_grown LeO own_nil own_ne own_other own_setCell)
set_option linter.unusedVariables false
/-- So many questions that the document reads from a place on; none: one was none. -/
def rQ (k : Nat) (s : ByteArray) : Nat → Int → List Qn → Option (Option (List Qn × Int))
  | 0, a, acc => some (some (acc, a))
  | n + 1, a, acc => (PRf.wimpleref4_question.f k s a).bind fun x => if x.2.2.2.2 = true then rQ k s n x.2.2.2.1 (acc ++ [⟨x.1, x.2.1, x.2.2.1⟩]) else some none
def rR (k : Nat) (s : ByteArray) : Nat → Int → List Rr → Option (Option (List Rr × Int))
  | 0, a, acc => some (some (acc, a))
  | n + 1, a, acc => (PRf.wimpleref4_record.f k s a).bind fun x => if x.2.2.2.2.2.2 = true then rR k s n x.2.2.2.2.2.1 (acc ++ [⟨x.1, x.2.1, x.2.2.1, x.2.2.2.1, x.2.2.2.2.1⟩]) else some none
/-- What a part's reading leads to. -/
def andThen {α : Type} (x : Option (Option α)) (f : α → Option Got) : Option Got := x.bind fun y => match y with
  | none => some (got0 700)
  | some z => f z
theorem andThen_none {α : Type} {x : Option (Option α)} {f : α → Option Got} {r : Got} (hx : x = some none) (h : andThen x f = some r) : got0 700 = r := by subst hx; exact Option.some.inj h
theorem andThen_some {α : Type} {x : Option (Option α)} {f : α → Option Got} {r : Got} {z : α} (hx : x = some (some z)) (h : andThen x f = some r) : f z = some r := by subst hx; exact h
theorem andThen_is {α : Type} {x : Option (Option α)} {f : α → Option Got} {r : Got} (h : andThen x f = some r) : ∃ y, x = some y := by
  cases x with
  | none => cases h
  | some y => exact ⟨y, rfl⟩
def many4 (x : Int) (f : Option Got) : Option Got := if 64 < x then some (got0 700) else f
/-- What the document reads. -/
def rGetV (k : Nat) (s : ByteArray) : Option Got :=
  if 4096 < s.size then some (got0 701) else if s.size < 12 then some (got0 700) else
    many4 (be2 s 4) (andThen (rQ k s (be2 s 4).toNat 12 []) fun q => many4 (be2 s 6) (andThen (rR k s (be2 s 6).toNat q.2 []) fun a => many4 (be2 s 8) (andThen (rR k s (be2 s 8).toNat a.2 []) fun b => many4 (be2 s 10) (andThen (rR k s (be2 s 10).toNat b.2 []) fun c =>
      if c.2 != (s.size : Int) then some (got0 700) else some ⟨Hd.getH s, q.1, a.1, b.1, c.1, 0⟩))))
set_option maxHeartbeats 8000000 in
set_option maxRecDepth 100000 in
theorem rgetc (s : ByteArray) (w : World) (hs : s.size ≤ 9223372036854775000) {k : Nat} {r : Got} (hq : rGetV k s = some r) : Calls Try.prog 25 #[.string s] w (GetPost s w r) := by
  have HQ := Lib.hid hq
  clear hq
  by_cases h4 : 4096 < s.size
  · have hr : r = got0 701 := by have := HQ.out; unfold rGetV at this; rw [if_pos h4] at this; exact (Option.some.inj this).symm
    subst hr
    have q : decide ((4096 : Int) < (s.size : Int)) = true := by simp; omega
    have pz := blk_new w (.cells mz 27)
    go_enter Try.func25, Try.ntmps25
    go_wp2
    have e0 := (blk_cell pz 0).trans rfl
    have e1 := (blk_cell pz 1).trans rfl
    have e2 := (blk_cell pz 2).trans rfl
    have e3 := (blk_cell pz 3).trans rfl
    have e4 := (blk_cell pz 4).trans rfl
    have e5 := (blk_cell pz 5).trans rfl
    have e6 := (blk_cell pz 6).trans rfl
    have e7 := (blk_cell pz 7).trans rfl
    have e8 := (blk_cell pz 8).trans rfl
    have e9 := (blk_cell pz 9).trans rfl
    have e10 := (blk_cell pz 10).trans rfl
    have e11 := (blk_cell pz 11).trans rfl
    have e12 := (blk_cell pz 12).trans rfl
    exact bodyPost_ret (v := .tuple #[.agg mz, .int .i64 701]) (by simp [results, Try.results25, go_sem, e0, e1, e2, e3, e4, e5, e6, e7, e8, e9, e10, e11, e12]) rfl (post0 s w _ 701 ((Below.refl _ _).alloc (Nat.le_refl _) _))
  · have q : decide ((4096 : Int) < (s.size : Int)) = false := by simp; omega
    have Bp : Below w.heap.size w (w.alloc (.cells mz 27)) := (Below.refl _ _).alloc (Nat.le_refl _) _
    have pz := blk_new w (.cells mz 27)
    have sp : (w.alloc (.cells mz 27)).heap.size = w.heap.size + 1 := by simp
    have kg := Hd.rgot s (w.alloc (.cells mz 27)) hs
    by_cases h12 : s.size < 12
    · have hr : r = got0 700 := by have := HQ.out; unfold rGetV at this; rw [if_neg h4, if_pos h12] at this; exact (Option.some.inj this).symm
      subst hr
      have hE : Hd.gotE s = 600 := Hd.gotE_no (by omega)
      rw [hE] at kg
      clear HQ
      go_enter Try.func25, Try.ntmps25
      go_wp2_with fail
      refine kg.mono ?_
      rintro e w1 ⟨rfl, B1⟩
      have p1 := blk_below pz B1
      have BB := Bp.trans (B1.mono (by omega))
      clear kg pz Bp B1
      have pp : ((w1.alloc (.cells #[.int .i64 (Hd.gotH s).id, .bool (Hd.gotH s).qr, .int .i64 (Hd.gotH s).op, .bool (Hd.gotH s).aa, .bool (Hd.gotH s).tc, .bool (Hd.gotH s).rd, .bool (Hd.gotH s).ra, .int .i64 (Hd.gotH s).z, .int .i64 (Hd.gotH s).rc] 23)).alloc (.cells #[.int .i64 (Hd.gotC s 4), .int .i64 (Hd.gotC s 6), .int .i64 (Hd.gotC s 8), .int .i64 (Hd.gotC s 10)] 80)).heap[w.heap.size]? = some (.cells mz 27 (0, 0)) := Go.Proofs.YtjklgdpffmaamaaW.PrintWords.blk_alloc (Go.Proofs.YtjklgdpffmaamaaW.PrintWords.blk_alloc p1 _) _
      have x0 : ((w1.alloc (.cells #[.int .i64 (Hd.gotH s).id, .bool (Hd.gotH s).qr, .int .i64 (Hd.gotH s).op, .bool (Hd.gotH s).aa, .bool (Hd.gotH s).tc, .bool (Hd.gotH s).rd, .bool (Hd.gotH s).ra, .int .i64 (Hd.gotH s).z, .int .i64 (Hd.gotH s).rc] 23)).alloc (.cells #[.int .i64 (Hd.gotC s 4), .int .i64 (Hd.gotC s 6), .int .i64 (Hd.gotC s 8), .int .i64 (Hd.gotC s 10)] 80)).cell? ⟨w.heap.size, 0, none⟩ = some (.int .i64 0) := (blk_cell pp 0).trans rfl
      have x1 : ((w1.alloc (.cells #[.int .i64 (Hd.gotH s).id, .bool (Hd.gotH s).qr, .int .i64 (Hd.gotH s).op, .bool (Hd.gotH s).aa, .bool (Hd.gotH s).tc, .bool (Hd.gotH s).rd, .bool (Hd.gotH s).ra, .int .i64 (Hd.gotH s).z, .int .i64 (Hd.gotH s).rc] 23)).alloc (.cells #[.int .i64 (Hd.gotC s 4), .int .i64 (Hd.gotC s 6), .int .i64 (Hd.gotC s 8), .int .i64 (Hd.gotC s 10)] 80)).cell? ⟨w.heap.size, 1, none⟩ = some (.bool false) := (blk_cell pp 1).trans rfl
      have x2 : ((w1.alloc (.cells #[.int .i64 (Hd.gotH s).id, .bool (Hd.gotH s).qr, .int .i64 (Hd.gotH s).op, .bool (Hd.gotH s).aa, .bool (Hd.gotH s).tc, .bool (Hd.gotH s).rd, .bool (Hd.gotH s).ra, .int .i64 (Hd.gotH s).z, .int .i64 (Hd.gotH s).rc] 23)).alloc (.cells #[.int .i64 (Hd.gotC s 4), .int .i64 (Hd.gotC s 6), .int .i64 (Hd.gotC s 8), .int .i64 (Hd.gotC s 10)] 80)).cell? ⟨w.heap.size, 2, none⟩ = some (.int .i64 0) := (blk_cell pp 2).trans rfl
      have x3 : ((w1.alloc (.cells #[.int .i64 (Hd.gotH s).id, .bool (Hd.gotH s).qr, .int .i64 (Hd.gotH s).op, .bool (Hd.gotH s).aa, .bool (Hd.gotH s).tc, .bool (Hd.gotH s).rd, .bool (Hd.gotH s).ra, .int .i64 (Hd.gotH s).z, .int .i64 (Hd.gotH s).rc] 23)).alloc (.cells #[.int .i64 (Hd.gotC s 4), .int .i64 (Hd.gotC s 6), .int .i64 (Hd.gotC s 8), .int .i64 (Hd.gotC s 10)] 80)).cell? ⟨w.heap.size, 3, none⟩ = some (.bool false) := (blk_cell pp 3).trans rfl
      have x4 : ((w1.alloc (.cells #[.int .i64 (Hd.gotH s).id, .bool (Hd.gotH s).qr, .int .i64 (Hd.gotH s).op, .bool (Hd.gotH s).aa, .bool (Hd.gotH s).tc, .bool (Hd.gotH s).rd, .bool (Hd.gotH s).ra, .int .i64 (Hd.gotH s).z, .int .i64 (Hd.gotH s).rc] 23)).alloc (.cells #[.int .i64 (Hd.gotC s 4), .int .i64 (Hd.gotC s 6), .int .i64 (Hd.gotC s 8), .int .i64 (Hd.gotC s 10)] 80)).cell? ⟨w.heap.size, 4, none⟩ = some (.bool false) := (blk_cell pp 4).trans rfl
      have x5 : ((w1.alloc (.cells #[.int .i64 (Hd.gotH s).id, .bool (Hd.gotH s).qr, .int .i64 (Hd.gotH s).op, .bool (Hd.gotH s).aa, .bool (Hd.gotH s).tc, .bool (Hd.gotH s).rd, .bool (Hd.gotH s).ra, .int .i64 (Hd.gotH s).z, .int .i64 (Hd.gotH s).rc] 23)).alloc (.cells #[.int .i64 (Hd.gotC s 4), .int .i64 (Hd.gotC s 6), .int .i64 (Hd.gotC s 8), .int .i64 (Hd.gotC s 10)] 80)).cell? ⟨w.heap.size, 5, none⟩ = some (.bool false) := (blk_cell pp 5).trans rfl
      have x6 : ((w1.alloc (.cells #[.int .i64 (Hd.gotH s).id, .bool (Hd.gotH s).qr, .int .i64 (Hd.gotH s).op, .bool (Hd.gotH s).aa, .bool (Hd.gotH s).tc, .bool (Hd.gotH s).rd, .bool (Hd.gotH s).ra, .int .i64 (Hd.gotH s).z, .int .i64 (Hd.gotH s).rc] 23)).alloc (.cells #[.int .i64 (Hd.gotC s 4), .int .i64 (Hd.gotC s 6), .int .i64 (Hd.gotC s 8), .int .i64 (Hd.gotC s 10)] 80)).cell? ⟨w.heap.size, 6, none⟩ = some (.bool false) := (blk_cell pp 6).trans rfl
      have x7 : ((w1.alloc (.cells #[.int .i64 (Hd.gotH s).id, .bool (Hd.gotH s).qr, .int .i64 (Hd.gotH s).op, .bool (Hd.gotH s).aa, .bool (Hd.gotH s).tc, .bool (Hd.gotH s).rd, .bool (Hd.gotH s).ra, .int .i64 (Hd.gotH s).z, .int .i64 (Hd.gotH s).rc] 23)).alloc (.cells #[.int .i64 (Hd.gotC s 4), .int .i64 (Hd.gotC s 6), .int .i64 (Hd.gotC s 8), .int .i64 (Hd.gotC s 10)] 80)).cell? ⟨w.heap.size, 7, none⟩ = some (.int .i64 0) := (blk_cell pp 7).trans rfl
      have x8 : ((w1.alloc (.cells #[.int .i64 (Hd.gotH s).id, .bool (Hd.gotH s).qr, .int .i64 (Hd.gotH s).op, .bool (Hd.gotH s).aa, .bool (Hd.gotH s).tc, .bool (Hd.gotH s).rd, .bool (Hd.gotH s).ra, .int .i64 (Hd.gotH s).z, .int .i64 (Hd.gotH s).rc] 23)).alloc (.cells #[.int .i64 (Hd.gotC s 4), .int .i64 (Hd.gotC s 6), .int .i64 (Hd.gotC s 8), .int .i64 (Hd.gotC s 10)] 80)).cell? ⟨w.heap.size, 8, none⟩ = some (.int .i64 0) := (blk_cell pp 8).trans rfl
      have x9 : ((w1.alloc (.cells #[.int .i64 (Hd.gotH s).id, .bool (Hd.gotH s).qr, .int .i64 (Hd.gotH s).op, .bool (Hd.gotH s).aa, .bool (Hd.gotH s).tc, .bool (Hd.gotH s).rd, .bool (Hd.gotH s).ra, .int .i64 (Hd.gotH s).z, .int .i64 (Hd.gotH s).rc] 23)).alloc (.cells #[.int .i64 (Hd.gotC s 4), .int .i64 (Hd.gotC s 6), .int .i64 (Hd.gotC s 8), .int .i64 (Hd.gotC s 10)] 80)).cell? ⟨w.heap.size, 9, none⟩ = some (.slice none 0 0) := (blk_cell pp 9).trans rfl
      have x10 : ((w1.alloc (.cells #[.int .i64 (Hd.gotH s).id, .bool (Hd.gotH s).qr, .int .i64 (Hd.gotH s).op, .bool (Hd.gotH s).aa, .bool (Hd.gotH s).tc, .bool (Hd.gotH s).rd, .bool (Hd.gotH s).ra, .int .i64 (Hd.gotH s).z, .int .i64 (Hd.gotH s).rc] 23)).alloc (.cells #[.int .i64 (Hd.gotC s 4), .int .i64 (Hd.gotC s 6), .int .i64 (Hd.gotC s 8), .int .i64 (Hd.gotC s 10)] 80)).cell? ⟨w.heap.size, 10, none⟩ = some (.slice none 0 0) := (blk_cell pp 10).trans rfl
      have x11 : ((w1.alloc (.cells #[.int .i64 (Hd.gotH s).id, .bool (Hd.gotH s).qr, .int .i64 (Hd.gotH s).op, .bool (Hd.gotH s).aa, .bool (Hd.gotH s).tc, .bool (Hd.gotH s).rd, .bool (Hd.gotH s).ra, .int .i64 (Hd.gotH s).z, .int .i64 (Hd.gotH s).rc] 23)).alloc (.cells #[.int .i64 (Hd.gotC s 4), .int .i64 (Hd.gotC s 6), .int .i64 (Hd.gotC s 8), .int .i64 (Hd.gotC s 10)] 80)).cell? ⟨w.heap.size, 11, none⟩ = some (.slice none 0 0) := (blk_cell pp 11).trans rfl
      have x12 : ((w1.alloc (.cells #[.int .i64 (Hd.gotH s).id, .bool (Hd.gotH s).qr, .int .i64 (Hd.gotH s).op, .bool (Hd.gotH s).aa, .bool (Hd.gotH s).tc, .bool (Hd.gotH s).rd, .bool (Hd.gotH s).ra, .int .i64 (Hd.gotH s).z, .int .i64 (Hd.gotH s).rc] 23)).alloc (.cells #[.int .i64 (Hd.gotC s 4), .int .i64 (Hd.gotC s 6), .int .i64 (Hd.gotC s 8), .int .i64 (Hd.gotC s 10)] 80)).cell? ⟨w.heap.size, 12, none⟩ = some (.slice none 0 0) := (blk_cell pp 12).trans rfl
      have y0 := blk_frozen pp 0
      have y1 := blk_frozen pp 1
      have y2 := blk_frozen pp 2
      have y3 := blk_frozen pp 3
      have y4 := blk_frozen pp 4
      have y5 := blk_frozen pp 5
      have y6 := blk_frozen pp 6
      have y7 := blk_frozen pp 7
      have y8 := blk_frozen pp 8
      have y9 := blk_frozen pp 9
      have y10 := blk_frozen pp 10
      have y11 := blk_frozen pp 11
      have y12 := blk_frozen pp 12
      have pF := putAll_blk 0 [.int .i64 0, .bool false, .int .i64 0, .bool false, .bool false, .bool false, .bool false, .int .i64 0, .int .i64 0, .slice none 0 0, .slice none 0 0, .slice none 0 0, .slice none 0 0] mz pp (by simp [setAll])
      have GF := putAll_grown (row := none) 0 [.int .i64 0, .bool false, .int .i64 0, .bool false, .bool false, .bool false, .bool false, .int .i64 0, .int .i64 0, .slice none 0 0, .slice none 0 0, .slice none 0 0, .slice none 0 0] (grown_below (BB.trans (((Below.refl w1.heap.size w1).alloc (Nat.le_refl _) (.cells #[.int .i64 (Hd.gotH s).id, .bool (Hd.gotH s).qr, .int .i64 (Hd.gotH s).op, .bool (Hd.gotH s).aa, .bool (Hd.gotH s).tc, .bool (Hd.gotH s).rd, .bool (Hd.gotH s).ra, .int .i64 (Hd.gotH s).z, .int .i64 (Hd.gotH s).rc] 23)).alloc (by simp) (.cells #[.int .i64 (Hd.gotC s 4), .int .i64 (Hd.gotC s 6), .int .i64 (Hd.gotC s 8), .int .i64 (Hd.gotC s 10)] 80) |>.mono BB.size)) none) (Nat.le_refl _)
      simp only [putAll] at pF GF
      have e0 := (blk_cell pF 0).trans rfl
      have e1 := (blk_cell pF 1).trans rfl
      have e2 := (blk_cell pF 2).trans rfl
      have e3 := (blk_cell pF 3).trans rfl
      have e4 := (blk_cell pF 4).trans rfl
      have e5 := (blk_cell pF 5).trans rfl
      have e6 := (blk_cell pF 6).trans rfl
      have e7 := (blk_cell pF 7).trans rfl
      have e8 := (blk_cell pF 8).trans rfl
      have e9 := (blk_cell pF 9).trans rfl
      have e10 := (blk_cell pF 10).trans rfl
      have e11 := (blk_cell pF 11).trans rfl
      have e12 := (blk_cell pF 12).trans rfl
      go_wp2
      exact bodyPost_ret (v := .tuple #[.agg mz, .int .i64 700]) (by simp [results, Try.results25, go_sem, e0, e1, e2, e3, e4, e5, e6, e7, e8, e9, e10, e11, e12]) rfl (post0 s w _ 700 ⟨GF.os, GF.tape, GF.output, GF.size, fun k hk => GF.block k hk (by simp)⟩)
    · have hr := HQ.out
      unfold rGetV at hr
      rw [if_neg h4, if_neg h12] at hr
      have HR := Lib.hid hr
      have hE : Hd.gotE s = 0 := Hd.gotE_yes (by omega)
      have hC := fun k => Hd.gotC_yes (s := s) (by omega) k
      rw [hE, Hd.gotH_yes (by omega), hC, hC, hC, hC] at kg
      clear HQ hr hE hC
      go_enter Try.func25, Try.ntmps25
      go_wp2_with fail
      refine kg.mono ?_
      rintro e w1 ⟨rfl, B1⟩
      have p1 := blk_below pz B1
      have BB := Bp.trans (B1.mono (by omega))
      have hzz : w.heap.size < w1.heap.size := by have := B1.size; omega
      clear kg pz Bp B1 sp
      go_wp2_with fail
      refine wp_loop_rounds 5 ?_
      have B0 : Below w1.heap.size w1 (((w1.alloc (.cells #[.int .i64 (Hd.getH s).id, .bool (Hd.getH s).qr, .int .i64 (Hd.getH s).op, .bool (Hd.getH s).aa, .bool (Hd.getH s).tc, .bool (Hd.getH s).rd, .bool (Hd.getH s).ra, .int .i64 (Hd.getH s).z, .int .i64 (Hd.getH s).rc] 23)).alloc (.cells #[.int .i64 (be2 s 4), .int .i64 (be2 s 6), .int .i64 (be2 s 8), .int .i64 (be2 s 10)] 80)).alloc (.cells #[.int .i64 (Hd.getH s).id, .bool (Hd.getH s).qr, .int .i64 (Hd.getH s).op, .bool (Hd.getH s).aa, .bool (Hd.getH s).tc, .bool (Hd.getH s).rd, .bool (Hd.getH s).ra, .int .i64 (Hd.getH s).z, .int .i64 (Hd.getH s).rc, .slice none 0 0, .slice none 0 0, .slice none 0 0, .slice none 0 0] 27)) := (((Below.refl _ _).alloc (Nat.le_refl _) _).alloc (by simp) _).alloc (by simp; omega) _
      have bc : (((w1.alloc (.cells #[.int .i64 (Hd.getH s).id, .bool (Hd.getH s).qr, .int .i64 (Hd.getH s).op, .bool (Hd.getH s).aa, .bool (Hd.getH s).tc, .bool (Hd.getH s).rd, .bool (Hd.getH s).ra, .int .i64 (Hd.getH s).z, .int .i64 (Hd.getH s).rc] 23)).alloc (.cells #[.int .i64 (be2 s 4), .int .i64 (be2 s 6), .int .i64 (be2 s 8), .int .i64 (be2 s 10)] 80)).alloc (.cells #[.int .i64 (Hd.getH s).id, .bool (Hd.getH s).qr, .int .i64 (Hd.getH s).op, .bool (Hd.getH s).aa, .bool (Hd.getH s).tc, .bool (Hd.getH s).rd, .bool (Hd.getH s).ra, .int .i64 (Hd.getH s).z, .int .i64 (Hd.getH s).rc, .slice none 0 0, .slice none 0 0, .slice none 0 0, .slice none 0 0] 27)).heap[w1.heap.size + 1]? = some (.cells #[.int .i64 (be2 s 4), .int .i64 (be2 s 6), .int .i64 (be2 s 8), .int .i64 (be2 s 10)] 80 (0, 0)) := by
        refine Go.Proofs.YtjklgdpffmaamaaW.PrintWords.blk_alloc ?_ _
        have := blk_new (w1.alloc (.cells #[.int .i64 (Hd.getH s).id, .bool (Hd.getH s).qr, .int .i64 (Hd.getH s).op, .bool (Hd.getH s).aa, .bool (Hd.getH s).tc, .bool (Hd.getH s).rd, .bool (Hd.getH s).ra, .int .i64 (Hd.getH s).z, .int .i64 (Hd.getH s).rc] 23)) (.cells #[.int .i64 (be2 s 4), .int .i64 (be2 s 6), .int .i64 (be2 s 8), .int .i64 (be2 s 10)] 80)
        simpa using this
      have bm : (((w1.alloc (.cells #[.int .i64 (Hd.getH s).id, .bool (Hd.getH s).qr, .int .i64 (Hd.getH s).op, .bool (Hd.getH s).aa, .bool (Hd.getH s).tc, .bool (Hd.getH s).rd, .bool (Hd.getH s).ra, .int .i64 (Hd.getH s).z, .int .i64 (Hd.getH s).rc] 23)).alloc (.cells #[.int .i64 (be2 s 4), .int .i64 (be2 s 6), .int .i64 (be2 s 8), .int .i64 (be2 s 10)] 80)).alloc (.cells #[.int .i64 (Hd.getH s).id, .bool (Hd.getH s).qr, .int .i64 (Hd.getH s).op, .bool (Hd.getH s).aa, .bool (Hd.getH s).tc, .bool (Hd.getH s).rd, .bool (Hd.getH s).ra, .int .i64 (Hd.getH s).z, .int .i64 (Hd.getH s).rc, .slice none 0 0, .slice none 0 0, .slice none 0 0, .slice none 0 0] 27)).heap[w1.heap.size + 1 + 1]? = some (.cells #[.int .i64 (Hd.getH s).id, .bool (Hd.getH s).qr, .int .i64 (Hd.getH s).op, .bool (Hd.getH s).aa, .bool (Hd.getH s).tc, .bool (Hd.getH s).rd, .bool (Hd.getH s).ra, .int .i64 (Hd.getH s).z, .int .i64 (Hd.getH s).rc, .slice none 0 0, .slice none 0 0, .slice none 0 0, .slice none 0 0] 27 (0, 0)) := by
        have := blk_new ((w1.alloc (.cells #[.int .i64 (Hd.getH s).id, .bool (Hd.getH s).qr, .int .i64 (Hd.getH s).op, .bool (Hd.getH s).aa, .bool (Hd.getH s).tc, .bool (Hd.getH s).rd, .bool (Hd.getH s).ra, .int .i64 (Hd.getH s).z, .int .i64 (Hd.getH s).rc] 23)).alloc (.cells #[.int .i64 (be2 s 4), .int .i64 (be2 s 6), .int .i64 (be2 s 8), .int .i64 (be2 s 10)] 80)) (.cells #[.int .i64 (Hd.getH s).id, .bool (Hd.getH s).qr, .int .i64 (Hd.getH s).op, .bool (Hd.getH s).aa, .bool (Hd.getH s).tc, .bool (Hd.getH s).rd, .bool (Hd.getH s).ra, .int .i64 (Hd.getH s).z, .int .i64 (Hd.getH s).rc, .slice none 0 0, .slice none 0 0, .slice none 0 0, .slice none 0 0] 27)
        simpa using this
      have p0 := blk_below p1 B0
      have BB0 := BB.trans (B0.mono BB.size)
      have hcm : w1.heap.size + 1 ≠ w1.heap.size + 1 + 1 := by omega
      have hpm : w.heap.size ≠ w1.heap.size + 1 + 1 := by omega
      have hkm : w.heap.size ≤ w1.heap.size + 1 + 1 := by omega
      clear p1 BB B0 hzz
      generalize (((w1.alloc (.cells #[.int .i64 (Hd.getH s).id, .bool (Hd.getH s).qr, .int .i64 (Hd.getH s).op, .bool (Hd.getH s).aa, .bool (Hd.getH s).tc, .bool (Hd.getH s).rd, .bool (Hd.getH s).ra, .int .i64 (Hd.getH s).z, .int .i64 (Hd.getH s).rc] 23)).alloc (.cells #[.int .i64 (be2 s 4), .int .i64 (be2 s 6), .int .i64 (be2 s 8), .int .i64 (be2 s 10)] 80)).alloc (.cells #[.int .i64 (Hd.getH s).id, .bool (Hd.getH s).qr, .int .i64 (Hd.getH s).op, .bool (Hd.getH s).aa, .bool (Hd.getH s).tc, .bool (Hd.getH s).rd, .bool (Hd.getH s).ra, .int .i64 (Hd.getH s).z, .int .i64 (Hd.getH s).rc, .slice none 0 0, .slice none 0 0, .slice none 0 0, .slice none 0 0] 27)) = W0 at *
      generalize w1.heap.size + 1 + 1 = km at *
      generalize w1.heap.size + 1 = kc at *
      have bd0 := be2_bd s 4
      have cx0 : W0.cell? ⟨kc, 0, none⟩ = some (.int .i64 (be2 s 4)) := (blk_cell bc 0).trans rfl
      rw [rounds_succ]
      have hr0 := HR.out
      by_cases big0 : 64 < be2 s 4
      · have hr : got0 700 = r := by unfold many4 at hr0; rw [if_pos big0] at hr0; exact Option.some.inj hr0
        subst hr
        clear hr0
        have bq : decide ((64 : Int) < be2 s 4) = true := decide_eq_true big0
        have x0 : W0.cell? ⟨w.heap.size, 0, none⟩ = some (.int .i64 0) := (blk_cell p0 0).trans rfl
        have x1 : W0.cell? ⟨w.heap.size, 1, none⟩ = some (.bool false) := (blk_cell p0 1).trans rfl
        have x2 : W0.cell? ⟨w.heap.size, 2, none⟩ = some (.int .i64 0) := (blk_cell p0 2).trans rfl
        have x3 : W0.cell? ⟨w.heap.size, 3, none⟩ = some (.bool false) := (blk_cell p0 3).trans rfl
        have x4 : W0.cell? ⟨w.heap.size, 4, none⟩ = some (.bool false) := (blk_cell p0 4).trans rfl
        have x5 : W0.cell? ⟨w.heap.size, 5, none⟩ = some (.bool false) := (blk_cell p0 5).trans rfl
        have x6 : W0.cell? ⟨w.heap.size, 6, none⟩ = some (.bool false) := (blk_cell p0 6).trans rfl
        have x7 : W0.cell? ⟨w.heap.size, 7, none⟩ = some (.int .i64 0) := (blk_cell p0 7).trans rfl
        have x8 : W0.cell? ⟨w.heap.size, 8, none⟩ = some (.int .i64 0) := (blk_cell p0 8).trans rfl
        have x9 : W0.cell? ⟨w.heap.size, 9, none⟩ = some (.slice none 0 0) := (blk_cell p0 9).trans rfl
        have x10 : W0.cell? ⟨w.heap.size, 10, none⟩ = some (.slice none 0 0) := (blk_cell p0 10).trans rfl
        have x11 : W0.cell? ⟨w.heap.size, 11, none⟩ = some (.slice none 0 0) := (blk_cell p0 11).trans rfl
        have x12 : W0.cell? ⟨w.heap.size, 12, none⟩ = some (.slice none 0 0) := (blk_cell p0 12).trans rfl
        have y0 := blk_frozen p0 0
        have y1 := blk_frozen p0 1
        have y2 := blk_frozen p0 2
        have y3 := blk_frozen p0 3
        have y4 := blk_frozen p0 4
        have y5 := blk_frozen p0 5
        have y6 := blk_frozen p0 6
        have y7 := blk_frozen p0 7
        have y8 := blk_frozen p0 8
        have y9 := blk_frozen p0 9
        have y10 := blk_frozen p0 10
        have y11 := blk_frozen p0 11
        have y12 := blk_frozen p0 12
        have pF := putAll_blk 0 [.int .i64 0, .bool false, .int .i64 0, .bool false, .bool false, .bool false, .bool false, .int .i64 0, .int .i64 0, .slice none 0 0, .slice none 0 0, .slice none 0 0, .slice none 0 0] #[.int .i64 0, .bool false, .int .i64 0, .bool false, .bool false, .bool false, .bool false, .int .i64 0, .int .i64 0, .slice none 0 0, .slice none 0 0, .slice none 0 0, .slice none 0 0] p0 (by simp [setAll])
        have GF := putAll_grown (row := none) 0 [.int .i64 0, .bool false, .int .i64 0, .bool false, .bool false, .bool false, .bool false, .int .i64 0, .int .i64 0, .slice none 0 0, .slice none 0 0, .slice none 0 0, .slice none 0 0] (grown_below BB0 none) (Nat.le_refl _)
        simp only [putAll] at pF GF
        have e0 := (blk_cell pF 0).trans rfl
        have e1 := (blk_cell pF 1).trans rfl
        have e2 := (blk_cell pF 2).trans rfl
        have e3 := (blk_cell pF 3).trans rfl
        have e4 := (blk_cell pF 4).trans rfl
        have e5 := (blk_cell pF 5).trans rfl
        have e6 := (blk_cell pF 6).trans rfl
        have e7 := (blk_cell pF 7).trans rfl
        have e8 := (blk_cell pF 8).trans rfl
        have e9 := (blk_cell pF 9).trans rfl
        have e10 := (blk_cell pF 10).trans rfl
        have e11 := (blk_cell pF 11).trans rfl
        have e12 := (blk_cell pF 12).trans rfl
        go_wp2_with fail
        exact bodyPost_ret (v := .tuple #[.agg #[.int .i64 0, .bool false, .int .i64 0, .bool false, .bool false, .bool false, .bool false, .int .i64 0, .int .i64 0, .slice none 0 0, .slice none 0 0, .slice none 0 0, .slice none 0 0], .int .i64 700]) (by simp [results, Try.results25, go_sem, e0, e1, e2, e3, e4, e5, e6, e7, e8, e9, e10, e11, e12]) rfl (post0 s w _ 700 ⟨GF.os, GF.tape, GF.output, GF.size, fun k hk => GF.block k hk (by simp)⟩)
      have hs0 := hr0
      unfold many4 at hs0
      rw [if_neg big0] at hs0
      obtain ⟨X0, hX0⟩ := andThen_is hs0
      have HS0 := Lib.hid hs0
      have HX0 := Lib.hid hX0
      clear hr0 hs0 hX0 HR
      have bq0 : decide ((64 : Int) < be2 s 4) = false := decide_eq_false big0
      go_wp2_with fail
      obtain ⟨n0, hn0⟩ : ∃ n : Nat, be2 s 4 = (n : Int) := ⟨(be2 s 4).toNat, by omega⟩
      have hl0 : n0 ≤ 64 := by omega
      have HN0 := Lib.hid hn0
      clear hn0
      go_loopg [8, 10] (n0 + 1) (fun kk v8 v10 wr => ∃ (m : Nat) (a : Int) (acc : List Qn) (vx : Value), v8 = .int .i64 a ∧ v10 = .int .i64 (((n0 - m : Nat)) : Int) ∧ kk = m + 1 ∧ m ≤ n0 ∧ acc.length + m = n0 ∧ rQ k s m a acc = some X0 ∧ wr.heap[km]? = some (.cells #[.int .i64 (Hd.getH s).id, .bool (Hd.getH s).qr, .int .i64 (Hd.getH s).op, .bool (Hd.getH s).aa, .bool (Hd.getH s).tc, .bool (Hd.getH s).rd, .bool (Hd.getH s).ra, .int .i64 (Hd.getH s).z, .int .i64 (Hd.getH s).rc, vx, .slice none 0 0, .slice none 0 0, .slice none 0 0] 27 (0, 0)) ∧ wr.ownsRow W0.heap.size 40 3 vx acc.length (cellsQ acc) ∧ W0.grownBy wr (some km))
      case atStart => exact ⟨n0, 12, [], .slice none 0 0, rfl, by simp, rfl, Nat.le_refl _, by simp, by have := HX0.out; rw [HN0.out, Int.toNat_natCast] at this; exact this, bm, own_nil _ _ _ _, ⟨rfl, rfl, rfl, Nat.le_refl _, fun _ _ _ => rfl⟩⟩
      case round =>
        obtain ⟨m, a, acc, vx, rfl, rfl, hkk, hmn, hlen, hq, bmr, hown, hG⟩ := hrel
        have HQ2 := Lib.hid hq
        clear hq
        have hsz := hG.size
        have bcr := blk_grown bc hG (by intro q; injection q with q; exact hcm q)
        have p0r := blk_grown p0 hG (by intro q; injection q with q; exact hpm q)
        have BR : Below w.heap.size w wr := BB0.grown hG BB0.size (fun k e => by injection e with e; omega)
        have cj : wr.cell? ⟨kc, 0, none⟩ = some (.int .i64 (be2 s 4)) := (blk_cell bcr 0).trans rfl
        have hmgt : w.heap.size ≠ km := hpm
        cases m with
        | succ m =>
          have q0 : decide ((((n0 - (m + 1) : Nat)) : Int) < be2 s 4) = true := by rw [HN0.out]; simp; omega
          have hq := HQ2.out
          clear HQ2
          unfold rQ at hq
          obtain ⟨x, hx, hq⟩ := Option.bind_eq_some_iff.1 hq
          obtain ⟨xn, xt, xc, xto, xok⟩ := x
          have kq := PRf.wimpleref4_question.calls k s a xn xt xc xto xok wr hx
          have HQ3 := Lib.hid hq
          clear hq hx
          go_wp2_with fail
          refine kq.mono ?_
          rintro e w2 ⟨rfl, B2⟩
          clear kq
          go_upto_region 18 with (fail)
          have Bx : Below w2.heap.size w2 (w2.alloc (.cells #[.string xn, .int .i64 xt, .int .i64 xc] 40)) := (Below.refl _ _).alloc (Nat.le_refl _) _
          have bq2 := blk_new w2 (.cells #[.string xn, .int .i64 xt, .int .i64 xc] 40)
          have bm2 := blk_below (blk_below bmr B2) Bx
          have p02 := blk_below (blk_below p0r B2) Bx
          have BR2 := (BR.trans (B2.mono BR.size)).trans (Bx.mono (BR.trans (B2.mono BR.size)).size)
          have own2 := Sl.own_below (Sl.own_below hown B2) Bx
          have G2 := grown_alloc' (hG.trans (grown_below B2 (some km))) (.cells #[.string xn, .int .i64 xt, .int .i64 xc] 40)
          have s2 := G2.size
          clear bmr p0r BR hown hG bcr cj B2 Bx hsz
          generalize w2.alloc (.cells #[.string xn, .int .i64 xt, .int .i64 xc] 40) = w3 at *
          generalize w2.heap.size = gq at *
          have cq0 : w3.cell? ⟨gq, 0, none⟩ = some (.string xn) := (blk_cell bq2 0).trans rfl
          have cq1 : w3.cell? ⟨gq, 1, none⟩ = some (.int .i64 xt) := (blk_cell bq2 1).trans rfl
          have cq2 : w3.cell? ⟨gq, 2, none⟩ = some (.int .i64 xc) := (blk_cell bq2 2).trans rfl
          cases xok with
          | false =>
            have hr : got0 700 = r := andThen_none (by rw [HX0.out]; have := HQ3.out; simp at this; rw [← this]) HS0.out
            subst hr
            have x0 : w3.cell? ⟨w.heap.size, 0, none⟩ = some (.int .i64 0) := (blk_cell p02 0).trans rfl
            have x1 : w3.cell? ⟨w.heap.size, 1, none⟩ = some (.bool false) := (blk_cell p02 1).trans rfl
            have x2 : w3.cell? ⟨w.heap.size, 2, none⟩ = some (.int .i64 0) := (blk_cell p02 2).trans rfl
            have x3 : w3.cell? ⟨w.heap.size, 3, none⟩ = some (.bool false) := (blk_cell p02 3).trans rfl
            have x4 : w3.cell? ⟨w.heap.size, 4, none⟩ = some (.bool false) := (blk_cell p02 4).trans rfl
            have x5 : w3.cell? ⟨w.heap.size, 5, none⟩ = some (.bool false) := (blk_cell p02 5).trans rfl
            have x6 : w3.cell? ⟨w.heap.size, 6, none⟩ = some (.bool false) := (blk_cell p02 6).trans rfl
            have x7 : w3.cell? ⟨w.heap.size, 7, none⟩ = some (.int .i64 0) := (blk_cell p02 7).trans rfl
            have x8 : w3.cell? ⟨w.heap.size, 8, none⟩ = some (.int .i64 0) := (blk_cell p02 8).trans rfl
            have x9 : w3.cell? ⟨w.heap.size, 9, none⟩ = some (.slice none 0 0) := (blk_cell p02 9).trans rfl
            have x10 : w3.cell? ⟨w.heap.size, 10, none⟩ = some (.slice none 0 0) := (blk_cell p02 10).trans rfl
            have x11 : w3.cell? ⟨w.heap.size, 11, none⟩ = some (.slice none 0 0) := (blk_cell p02 11).trans rfl
            have x12 : w3.cell? ⟨w.heap.size, 12, none⟩ = some (.slice none 0 0) := (blk_cell p02 12).trans rfl
            have y0 := blk_frozen p02 0
            have y1 := blk_frozen p02 1
            have y2 := blk_frozen p02 2
            have y3 := blk_frozen p02 3
            have y4 := blk_frozen p02 4
            have y5 := blk_frozen p02 5
            have y6 := blk_frozen p02 6
            have y7 := blk_frozen p02 7
            have y8 := blk_frozen p02 8
            have y9 := blk_frozen p02 9
            have y10 := blk_frozen p02 10
            have y11 := blk_frozen p02 11
            have y12 := blk_frozen p02 12
            have pF := putAll_blk 0 [.int .i64 0, .bool false, .int .i64 0, .bool false, .bool false, .bool false, .bool false, .int .i64 0, .int .i64 0, .slice none 0 0, .slice none 0 0, .slice none 0 0, .slice none 0 0] #[.int .i64 0, .bool false, .int .i64 0, .bool false, .bool false, .bool false, .bool false, .int .i64 0, .int .i64 0, .slice none 0 0, .slice none 0 0, .slice none 0 0, .slice none 0 0] p02 (by simp [setAll])
            have GF := putAll_grown (row := none) 0 [.int .i64 0, .bool false, .int .i64 0, .bool false, .bool false, .bool false, .bool false, .int .i64 0, .int .i64 0, .slice none 0 0, .slice none 0 0, .slice none 0 0, .slice none 0 0] (grown_below BR2 none) (Nat.le_refl _)
            simp only [putAll] at pF GF
            have e0 := (blk_cell pF 0).trans rfl
            have e1 := (blk_cell pF 1).trans rfl
            have e2 := (blk_cell pF 2).trans rfl
            have e3 := (blk_cell pF 3).trans rfl
            have e4 := (blk_cell pF 4).trans rfl
            have e5 := (blk_cell pF 5).trans rfl
            have e6 := (blk_cell pF 6).trans rfl
            have e7 := (blk_cell pF 7).trans rfl
            have e8 := (blk_cell pF 8).trans rfl
            have e9 := (blk_cell pF 9).trans rfl
            have e10 := (blk_cell pF 10).trans rfl
            have e11 := (blk_cell pF 11).trans rfl
            have e12 := (blk_cell pF 12).trans rfl
            go_wp2_with fail
            exact bodyPost_ret (v := .tuple #[.agg #[.int .i64 0, .bool false, .int .i64 0, .bool false, .bool false, .bool false, .bool false, .int .i64 0, .int .i64 0, .slice none 0 0, .slice none 0 0, .slice none 0 0, .slice none 0 0], .int .i64 700]) (by simp [results, Try.results25, go_sem, e0, e1, e2, e3, e4, e5, e6, e7, e8, e9, e10, e11, e12]) rfl (post0 s w _ 700 ⟨GF.os, GF.tape, GF.output, GF.size, fun k hk => GF.block k hk (by simp)⟩)
          | true =>
            have hq3 := HQ3.out
            simp only [if_true] at hq3
            have HQ4 := Lib.hid hq3
            clear hq3 HQ3 p02 BR2
            obtain ⟨Ax, cx, rfl⟩ := Sl.own_slice own2
            have cb : w3.cell? ⟨km, 9, none⟩ = some (.slice Ax acc.length cx) := (blk_cell bm2 9).trans rfl
            go_wp2_with (at_builtin; refine app_elem W0.heap.size rfl _ _ 24 40 (.agg #[.string ⟨#[]⟩, .int .i64 0, .int .i64 0]) 3 32 rfl Try.underlying24 info_Q rfl (by decide) own2 #[.string xn, .int .i64 xt, .int .i64 xc] rfl rfl rfl ?h1 s2 ?hn ?hl ?_)
            case h1 => exact ⟨rfl, rfl, rfl⟩
            case hn => omega
            case hl => omega
            intro v4 w4 own4 g4
            have Ba : ∀ (Z : World) (o : Obj), Below Z.heap.size Z (Z.alloc o) := fun Z o => (Below.refl _ _).alloc (Nat.le_refl _) o
            have own3a := Sl.own_below own2 (Ba _ (.cells #[.string xn, .int .i64 xt, .int .i64 xc] 40))
            have bm4 := blk_grown (blk_below bm2 (Ba _ (.cells #[.string xn, .int .i64 xt, .int .i64 xc] 40))) g4 (own_ne own3a (blk_below bm2 (Ba _ (.cells #[.string xn, .int .i64 xt, .int .i64 xc] 40))) (by decide))
            have G4 := grown_own (grown_alloc' G2 (.cells #[.string xn, .int .i64 xt, .int .i64 xc] 40)) g4 (fun b e => Sl.own_base own2 b e)
            obtain ⟨A4, c4, rfl⟩ := Sl.own_slice own4
            have c44 : w4.cell? ⟨km, 9, none⟩ = some (.slice Ax acc.length cx) := (blk_cell bm4 9).trans rfl
            have f44 := blk_frozen bm4 9
            have bm5 := blk_put bm4 9 (.slice A4 (acc.length + 1) c4) rfl
            have own5 := own_setCell (p := ⟨km, 9, none⟩) own4 (own_ne own4 bm4 (by decide)) (.slice A4 (acc.length + 1) c4)
            have G5 := grown_set' G4 9 (.slice A4 (acc.length + 1) c4)
            clear own2 own3a bm2 G2 s2 cb Ba g4 bm4 own4 G4 bq2
            go_wp2_with fail
            go_roundg (m + 1)
            case measure => omega
            case rel =>
              refine ⟨m, xto, acc ++ [(⟨xn, xt, xc⟩ : Qn)], _, rfl, ?_, rfl, by omega, by simp; omega, HQ4.out, bm5, ?_, G5⟩
              · have e1 : ((n0 - (m + 1) : Nat) : Int) + 1 = ((n0 - m : Nat) : Int) := by omega
                first | rw [e1] | (congr 1)
              · rw [List.length_append, cellsQ_app]; simpa [cellsQ] using own5
        | zero =>
          rw [Nat.sub_zero]
          have q0 : decide ((n0 : Int) < be2 s 4) = false := by rw [HN0.out]; simp
          have hq := HQ2.out
          clear HQ2
          unfold rQ at hq
          have hs : _ = some r := andThen_some (by rw [HX0.out]; exact hq.symm) HS0.out
          dsimp only at hs
          have HR0 := Lib.hid hs
          clear hs hq HX0 HS0 hkk hmn
          go_wp2_with fail
          obtain ⟨A0, c0, rfl⟩ := Sl.own_slice hown
          have ow0 := hown
          clear hown
          have lt0 := Lib.hid (own_lt ow0)
          obtain ⟨W1, hW1⟩ : ∃ Z : World, Z = wr := ⟨_, rfl⟩
          subst hW1
          skip
          obtain ⟨acc0, ha0⟩ : ∃ z, z = acc := ⟨_, rfl⟩
          subst ha0
          obtain ⟨at0, hb0⟩ : ∃ z, z = a := ⟨_, rfl⟩
          subst hb0
          obtain ⟨bm0_, bc0_, p00_, BB0_⟩ := And.intro bmr (And.intro bcr (And.intro p0r BR))
          clear bmr bcr p0r BR cj
          have bd1 := be2_bd s 6
          have cx1 : W1.cell? ⟨kc, 1, none⟩ = some (.int .i64 (be2 s 6)) := (blk_cell bc0_ 1).trans rfl
          rw [rounds_succ]
          have hr1 := HR0.out
          by_cases big1 : 64 < be2 s 6
          · have hr : got0 700 = r := by unfold many4 at hr1; rw [if_pos big1] at hr1; exact Option.some.inj hr1
            subst hr
            clear hr1
            have bq : decide ((64 : Int) < be2 s 6) = true := decide_eq_true big1
            have x0 : W1.cell? ⟨w.heap.size, 0, none⟩ = some (.int .i64 0) := (blk_cell p00_ 0).trans rfl
            have x1 : W1.cell? ⟨w.heap.size, 1, none⟩ = some (.bool false) := (blk_cell p00_ 1).trans rfl
            have x2 : W1.cell? ⟨w.heap.size, 2, none⟩ = some (.int .i64 0) := (blk_cell p00_ 2).trans rfl
            have x3 : W1.cell? ⟨w.heap.size, 3, none⟩ = some (.bool false) := (blk_cell p00_ 3).trans rfl
            have x4 : W1.cell? ⟨w.heap.size, 4, none⟩ = some (.bool false) := (blk_cell p00_ 4).trans rfl
            have x5 : W1.cell? ⟨w.heap.size, 5, none⟩ = some (.bool false) := (blk_cell p00_ 5).trans rfl
            have x6 : W1.cell? ⟨w.heap.size, 6, none⟩ = some (.bool false) := (blk_cell p00_ 6).trans rfl
            have x7 : W1.cell? ⟨w.heap.size, 7, none⟩ = some (.int .i64 0) := (blk_cell p00_ 7).trans rfl
            have x8 : W1.cell? ⟨w.heap.size, 8, none⟩ = some (.int .i64 0) := (blk_cell p00_ 8).trans rfl
            have x9 : W1.cell? ⟨w.heap.size, 9, none⟩ = some (.slice none 0 0) := (blk_cell p00_ 9).trans rfl
            have x10 : W1.cell? ⟨w.heap.size, 10, none⟩ = some (.slice none 0 0) := (blk_cell p00_ 10).trans rfl
            have x11 : W1.cell? ⟨w.heap.size, 11, none⟩ = some (.slice none 0 0) := (blk_cell p00_ 11).trans rfl
            have x12 : W1.cell? ⟨w.heap.size, 12, none⟩ = some (.slice none 0 0) := (blk_cell p00_ 12).trans rfl
            have y0 := blk_frozen p00_ 0
            have y1 := blk_frozen p00_ 1
            have y2 := blk_frozen p00_ 2
            have y3 := blk_frozen p00_ 3
            have y4 := blk_frozen p00_ 4
            have y5 := blk_frozen p00_ 5
            have y6 := blk_frozen p00_ 6
            have y7 := blk_frozen p00_ 7
            have y8 := blk_frozen p00_ 8
            have y9 := blk_frozen p00_ 9
            have y10 := blk_frozen p00_ 10
            have y11 := blk_frozen p00_ 11
            have y12 := blk_frozen p00_ 12
            have pF := putAll_blk 0 [.int .i64 0, .bool false, .int .i64 0, .bool false, .bool false, .bool false, .bool false, .int .i64 0, .int .i64 0, .slice none 0 0, .slice none 0 0, .slice none 0 0, .slice none 0 0] #[.int .i64 0, .bool false, .int .i64 0, .bool false, .bool false, .bool false, .bool false, .int .i64 0, .int .i64 0, .slice none 0 0, .slice none 0 0, .slice none 0 0, .slice none 0 0] p00_ (by simp [setAll])
            have GF := putAll_grown (row := none) 0 [.int .i64 0, .bool false, .int .i64 0, .bool false, .bool false, .bool false, .bool false, .int .i64 0, .int .i64 0, .slice none 0 0, .slice none 0 0, .slice none 0 0, .slice none 0 0] (grown_below BB0_ none) (Nat.le_refl _)
            simp only [putAll] at pF GF
            have e0 := (blk_cell pF 0).trans rfl
            have e1 := (blk_cell pF 1).trans rfl
            have e2 := (blk_cell pF 2).trans rfl
            have e3 := (blk_cell pF 3).trans rfl
            have e4 := (blk_cell pF 4).trans rfl
            have e5 := (blk_cell pF 5).trans rfl
            have e6 := (blk_cell pF 6).trans rfl
            have e7 := (blk_cell pF 7).trans rfl
            have e8 := (blk_cell pF 8).trans rfl
            have e9 := (blk_cell pF 9).trans rfl
            have e10 := (blk_cell pF 10).trans rfl
            have e11 := (blk_cell pF 11).trans rfl
            have e12 := (blk_cell pF 12).trans rfl
            go_wp2_with fail
            exact bodyPost_ret (v := .tuple #[.agg #[.int .i64 0, .bool false, .int .i64 0, .bool false, .bool false, .bool false, .bool false, .int .i64 0, .int .i64 0, .slice none 0 0, .slice none 0 0, .slice none 0 0, .slice none 0 0], .int .i64 700]) (by simp [results, Try.results25, go_sem, e0, e1, e2, e3, e4, e5, e6, e7, e8, e9, e10, e11, e12]) rfl (post0 s w _ 700 ⟨GF.os, GF.tape, GF.output, GF.size, fun k hk => GF.block k hk (by simp)⟩)
          have hs1 := hr1
          unfold many4 at hs1
          rw [if_neg big1] at hs1
          obtain ⟨X1, hX1⟩ := andThen_is hs1
          have HS1 := Lib.hid hs1
          have HX1 := Lib.hid hX1
          clear hr1 hs1 hX1 
          have bq1 : decide ((64 : Int) < be2 s 6) = false := decide_eq_false big1
          go_wp2_with fail
          obtain ⟨n1, hn1⟩ : ∃ n : Nat, be2 s 6 = (n : Int) := ⟨(be2 s 6).toNat, by omega⟩
          have hl1 : n1 ≤ 64 := by omega
          have HN1 := Lib.hid hn1
          clear hn1
          go_loopg [8, 10] (n1 + 1) (fun kk v8 v10 wr => ∃ (m : Nat) (a : Int) (acc : List Rr) (vx : Value), v8 = .int .i64 a ∧ v10 = .int .i64 (((n1 - m : Nat)) : Int) ∧ kk = m + 1 ∧ m ≤ n1 ∧ acc.length + m = n1 ∧ rR k s m a acc = some X1 ∧ wr.heap[km]? = some (.cells #[.int .i64 (Hd.getH s).id, .bool (Hd.getH s).qr, .int .i64 (Hd.getH s).op, .bool (Hd.getH s).aa, .bool (Hd.getH s).tc, .bool (Hd.getH s).rd, .bool (Hd.getH s).ra, .int .i64 (Hd.getH s).z, .int .i64 (Hd.getH s).rc, .slice A0 acc0.length c0, vx, .slice none 0 0, .slice none 0 0] 27 (0, 0)) ∧ wr.ownsRow W1.heap.size 53 5 vx acc.length (cellsR acc) ∧ W1.grownBy wr (some km))
          case atStart => exact ⟨n1, at0, [], .slice none 0 0, rfl, by simp, rfl, Nat.le_refl _, by simp, by have := HX1.out; rw [HN1.out, Int.toNat_natCast] at this; exact this, bm0_, own_nil _ _ _ _, ⟨rfl, rfl, rfl, Nat.le_refl _, fun _ _ _ => rfl⟩⟩
          case round =>
            obtain ⟨m, a, acc, vx, rfl, rfl, hkk, hmn, hlen, hq, bmr, hown, hG⟩ := hrel
            have HQ2 := Lib.hid hq
            clear hq
            have hsz := hG.size
            have bcr := blk_grown bc0_ hG (by intro q; injection q with q; exact hcm q)
            have p0r := blk_grown p00_ hG (by intro q; injection q with q; exact hpm q)
            have BR : Below w.heap.size w wr := BB0_.grown hG BB0_.size (fun k e => by injection e with e; omega)
            have cj : wr.cell? ⟨kc, 1, none⟩ = some (.int .i64 (be2 s 6)) := (blk_cell bcr 1).trans rfl
            have hmgt : w.heap.size ≠ km := hpm
            cases m with
            | succ m =>
              have q0 : decide ((((n1 - (m + 1) : Nat)) : Int) < be2 s 6) = true := by rw [HN1.out]; simp; omega
              have hq := HQ2.out
              clear HQ2
              unfold rR at hq
              obtain ⟨x, hx, hq⟩ := Option.bind_eq_some_iff.1 hq
              obtain ⟨xn, xt, xc, xl, xd, xto, xok⟩ := x
              have kq := PRf.wimpleref4_record.calls k s a xn xt xc xl xd xto xok wr hx
              have HQ3 := Lib.hid hq
              clear hq hx
              go_wp2_with fail
              refine kq.mono ?_
              rintro e w2 ⟨rfl, B2⟩
              clear kq
              go_upto_region 23 with (fail)
              have Bx : Below w2.heap.size w2 (w2.alloc (.cells #[.string xn, .int .i64 xt, .int .i64 xc, .int .i64 xl, .string xd] 53)) := (Below.refl _ _).alloc (Nat.le_refl _) _
              have bq2 := blk_new w2 (.cells #[.string xn, .int .i64 xt, .int .i64 xc, .int .i64 xl, .string xd] 53)
              have bm2 := blk_below (blk_below bmr B2) Bx
              have p02 := blk_below (blk_below p0r B2) Bx
              have BR2 := (BR.trans (B2.mono BR.size)).trans (Bx.mono (BR.trans (B2.mono BR.size)).size)
              have own2 := Sl.own_below (Sl.own_below hown B2) Bx
              have G2 := grown_alloc' (hG.trans (grown_below B2 (some km))) (.cells #[.string xn, .int .i64 xt, .int .i64 xc, .int .i64 xl, .string xd] 53)
              have s2 := G2.size
              clear bmr p0r BR hown hG bcr cj B2 Bx hsz
              generalize w2.alloc (.cells #[.string xn, .int .i64 xt, .int .i64 xc, .int .i64 xl, .string xd] 53) = w3 at *
              generalize w2.heap.size = gq at *
              have cq0 : w3.cell? ⟨gq, 0, none⟩ = some (.string xn) := (blk_cell bq2 0).trans rfl
              have cq1 : w3.cell? ⟨gq, 1, none⟩ = some (.int .i64 xt) := (blk_cell bq2 1).trans rfl
              have cq2 : w3.cell? ⟨gq, 2, none⟩ = some (.int .i64 xc) := (blk_cell bq2 2).trans rfl
              have cq3 : w3.cell? ⟨gq, 3, none⟩ = some (.int .i64 xl) := (blk_cell bq2 3).trans rfl
              have cq4 : w3.cell? ⟨gq, 4, none⟩ = some (.string xd) := (blk_cell bq2 4).trans rfl
              cases xok with
              | false =>
                have hr : got0 700 = r := andThen_none (by rw [HX1.out]; have := HQ3.out; simp at this; rw [← this]) HS1.out
                subst hr
                have x0 : w3.cell? ⟨w.heap.size, 0, none⟩ = some (.int .i64 0) := (blk_cell p02 0).trans rfl
                have x1 : w3.cell? ⟨w.heap.size, 1, none⟩ = some (.bool false) := (blk_cell p02 1).trans rfl
                have x2 : w3.cell? ⟨w.heap.size, 2, none⟩ = some (.int .i64 0) := (blk_cell p02 2).trans rfl
                have x3 : w3.cell? ⟨w.heap.size, 3, none⟩ = some (.bool false) := (blk_cell p02 3).trans rfl
                have x4 : w3.cell? ⟨w.heap.size, 4, none⟩ = some (.bool false) := (blk_cell p02 4).trans rfl
                have x5 : w3.cell? ⟨w.heap.size, 5, none⟩ = some (.bool false) := (blk_cell p02 5).trans rfl
                have x6 : w3.cell? ⟨w.heap.size, 6, none⟩ = some (.bool false) := (blk_cell p02 6).trans rfl
                have x7 : w3.cell? ⟨w.heap.size, 7, none⟩ = some (.int .i64 0) := (blk_cell p02 7).trans rfl
                have x8 : w3.cell? ⟨w.heap.size, 8, none⟩ = some (.int .i64 0) := (blk_cell p02 8).trans rfl
                have x9 : w3.cell? ⟨w.heap.size, 9, none⟩ = some (.slice none 0 0) := (blk_cell p02 9).trans rfl
                have x10 : w3.cell? ⟨w.heap.size, 10, none⟩ = some (.slice none 0 0) := (blk_cell p02 10).trans rfl
                have x11 : w3.cell? ⟨w.heap.size, 11, none⟩ = some (.slice none 0 0) := (blk_cell p02 11).trans rfl
                have x12 : w3.cell? ⟨w.heap.size, 12, none⟩ = some (.slice none 0 0) := (blk_cell p02 12).trans rfl
                have y0 := blk_frozen p02 0
                have y1 := blk_frozen p02 1
                have y2 := blk_frozen p02 2
                have y3 := blk_frozen p02 3
                have y4 := blk_frozen p02 4
                have y5 := blk_frozen p02 5
                have y6 := blk_frozen p02 6
                have y7 := blk_frozen p02 7
                have y8 := blk_frozen p02 8
                have y9 := blk_frozen p02 9
                have y10 := blk_frozen p02 10
                have y11 := blk_frozen p02 11
                have y12 := blk_frozen p02 12
                have pF := putAll_blk 0 [.int .i64 0, .bool false, .int .i64 0, .bool false, .bool false, .bool false, .bool false, .int .i64 0, .int .i64 0, .slice none 0 0, .slice none 0 0, .slice none 0 0, .slice none 0 0] #[.int .i64 0, .bool false, .int .i64 0, .bool false, .bool false, .bool false, .bool false, .int .i64 0, .int .i64 0, .slice none 0 0, .slice none 0 0, .slice none 0 0, .slice none 0 0] p02 (by simp [setAll])
                have GF := putAll_grown (row := none) 0 [.int .i64 0, .bool false, .int .i64 0, .bool false, .bool false, .bool false, .bool false, .int .i64 0, .int .i64 0, .slice none 0 0, .slice none 0 0, .slice none 0 0, .slice none 0 0] (grown_below BR2 none) (Nat.le_refl _)
                simp only [putAll] at pF GF
                have e0 := (blk_cell pF 0).trans rfl
                have e1 := (blk_cell pF 1).trans rfl
                have e2 := (blk_cell pF 2).trans rfl
                have e3 := (blk_cell pF 3).trans rfl
                have e4 := (blk_cell pF 4).trans rfl
                have e5 := (blk_cell pF 5).trans rfl
                have e6 := (blk_cell pF 6).trans rfl
                have e7 := (blk_cell pF 7).trans rfl
                have e8 := (blk_cell pF 8).trans rfl
                have e9 := (blk_cell pF 9).trans rfl
                have e10 := (blk_cell pF 10).trans rfl
                have e11 := (blk_cell pF 11).trans rfl
                have e12 := (blk_cell pF 12).trans rfl
                go_wp2_with fail
                exact bodyPost_ret (v := .tuple #[.agg #[.int .i64 0, .bool false, .int .i64 0, .bool false, .bool false, .bool false, .bool false, .int .i64 0, .int .i64 0, .slice none 0 0, .slice none 0 0, .slice none 0 0, .slice none 0 0], .int .i64 700]) (by simp [results, Try.results25, go_sem, e0, e1, e2, e3, e4, e5, e6, e7, e8, e9, e10, e11, e12]) rfl (post0 s w _ 700 ⟨GF.os, GF.tape, GF.output, GF.size, fun k hk => GF.block k hk (by simp)⟩)
              | true =>
                have hq3 := HQ3.out
                simp only [if_true] at hq3
                have HQ4 := Lib.hid hq3
                clear hq3 HQ3 p02 BR2
                obtain ⟨Ax, cx, rfl⟩ := Sl.own_slice own2
                have cb : w3.cell? ⟨km, 10, none⟩ = some (.slice Ax acc.length cx) := (blk_cell bm2 10).trans rfl
                go_wp2_with (at_builtin; refine app_elem W1.heap.size rfl _ _ 25 53 (.agg #[.string ⟨#[]⟩, .int .i64 0, .int .i64 0, .int .i64 0, .string ⟨#[]⟩]) 5 56 rfl Try.underlying25 info_R rfl (by decide) own2 #[.string xn, .int .i64 xt, .int .i64 xc, .int .i64 xl, .string xd] rfl rfl rfl ?h1 s2 ?hn ?hl ?_)
                case h1 => exact ⟨rfl, rfl, rfl, rfl, rfl⟩
                case hn => omega
                case hl => omega
                intro v4 w4 own4 g4
                have Ba : ∀ (Z : World) (o : Obj), Below Z.heap.size Z (Z.alloc o) := fun Z o => (Below.refl _ _).alloc (Nat.le_refl _) o
                have own3a := Sl.own_below own2 (Ba _ (.cells #[.string xn, .int .i64 xt, .int .i64 xc, .int .i64 xl, .string xd] 53))
                have bm4 := blk_grown (blk_below bm2 (Ba _ (.cells #[.string xn, .int .i64 xt, .int .i64 xc, .int .i64 xl, .string xd] 53))) g4 (own_ne own3a (blk_below bm2 (Ba _ (.cells #[.string xn, .int .i64 xt, .int .i64 xc, .int .i64 xl, .string xd] 53))) (by decide))
                have G4 := grown_own (grown_alloc' G2 (.cells #[.string xn, .int .i64 xt, .int .i64 xc, .int .i64 xl, .string xd] 53)) g4 (fun b e => Sl.own_base own2 b e)
                obtain ⟨A4, c4, rfl⟩ := Sl.own_slice own4
                have c44 : w4.cell? ⟨km, 10, none⟩ = some (.slice Ax acc.length cx) := (blk_cell bm4 10).trans rfl
                have f44 := blk_frozen bm4 10
                have bm5 := blk_put bm4 10 (.slice A4 (acc.length + 1) c4) rfl
                have own5 := own_setCell (p := ⟨km, 10, none⟩) own4 (own_ne own4 bm4 (by decide)) (.slice A4 (acc.length + 1) c4)
                have G5 := grown_set' G4 10 (.slice A4 (acc.length + 1) c4)
                clear own2 own3a bm2 G2 s2 cb Ba g4 bm4 own4 G4 bq2
                go_wp2_with fail
                go_roundg (m + 1)
                case measure => omega
                case rel =>
                  refine ⟨m, xto, acc ++ [(⟨xn, xt, xc, xl, xd⟩ : Rr)], _, rfl, ?_, rfl, by omega, by simp; omega, HQ4.out, bm5, ?_, G5⟩
                  · have e1 : ((n1 - (m + 1) : Nat) : Int) + 1 = ((n1 - m : Nat) : Int) := by omega
                    first | rw [e1] | (congr 1)
                  · rw [List.length_append, cellsR_app]; simpa [cellsR] using own5
            | zero =>
              rw [Nat.sub_zero]
              have q0 : decide ((n1 : Int) < be2 s 6) = false := by rw [HN1.out]; simp
              have hq := HQ2.out
              clear HQ2
              unfold rR at hq
              have hs : _ = some r := andThen_some (by rw [HX1.out]; exact hq.symm) HS1.out
              dsimp only at hs
              have HR1 := Lib.hid hs
              clear hs hq HX1 HS1 hkk hmn
              go_wp2_with fail
              obtain ⟨A1, c1, rfl⟩ := Sl.own_slice hown
              have ow1 := hown
              clear hown
              have ow0n := own_other ow0 hG (by right; intro q; exact (own_ne ow0 bm0_ (by decide)) q.symm)
              replace ow0 := ow0n
              clear ow0n
              have lt1 := Lib.hid (own_lt ow1)
              obtain ⟨W2, hW2⟩ : ∃ Z : World, Z = wr := ⟨_, rfl⟩
              subst hW2
              skip
              obtain ⟨acc1, ha1⟩ : ∃ z, z = acc := ⟨_, rfl⟩
              subst ha1
              obtain ⟨at1, hb1⟩ : ∃ z, z = a := ⟨_, rfl⟩
              subst hb1
              obtain ⟨bm1_, bc1_, p01_, BB1_⟩ := And.intro bmr (And.intro bcr (And.intro p0r BR))
              clear bmr bcr p0r BR cj
              have bd2 := be2_bd s 8
              have cx2 : W2.cell? ⟨kc, 2, none⟩ = some (.int .i64 (be2 s 8)) := (blk_cell bc1_ 2).trans rfl
              rw [rounds_succ]
              have hr2 := HR1.out
              by_cases big2 : 64 < be2 s 8
              · have hr : got0 700 = r := by unfold many4 at hr2; rw [if_pos big2] at hr2; exact Option.some.inj hr2
                subst hr
                clear hr2
                have bq : decide ((64 : Int) < be2 s 8) = true := decide_eq_true big2
                have x0 : W2.cell? ⟨w.heap.size, 0, none⟩ = some (.int .i64 0) := (blk_cell p01_ 0).trans rfl
                have x1 : W2.cell? ⟨w.heap.size, 1, none⟩ = some (.bool false) := (blk_cell p01_ 1).trans rfl
                have x2 : W2.cell? ⟨w.heap.size, 2, none⟩ = some (.int .i64 0) := (blk_cell p01_ 2).trans rfl
                have x3 : W2.cell? ⟨w.heap.size, 3, none⟩ = some (.bool false) := (blk_cell p01_ 3).trans rfl
                have x4 : W2.cell? ⟨w.heap.size, 4, none⟩ = some (.bool false) := (blk_cell p01_ 4).trans rfl
                have x5 : W2.cell? ⟨w.heap.size, 5, none⟩ = some (.bool false) := (blk_cell p01_ 5).trans rfl
                have x6 : W2.cell? ⟨w.heap.size, 6, none⟩ = some (.bool false) := (blk_cell p01_ 6).trans rfl
                have x7 : W2.cell? ⟨w.heap.size, 7, none⟩ = some (.int .i64 0) := (blk_cell p01_ 7).trans rfl
                have x8 : W2.cell? ⟨w.heap.size, 8, none⟩ = some (.int .i64 0) := (blk_cell p01_ 8).trans rfl
                have x9 : W2.cell? ⟨w.heap.size, 9, none⟩ = some (.slice none 0 0) := (blk_cell p01_ 9).trans rfl
                have x10 : W2.cell? ⟨w.heap.size, 10, none⟩ = some (.slice none 0 0) := (blk_cell p01_ 10).trans rfl
                have x11 : W2.cell? ⟨w.heap.size, 11, none⟩ = some (.slice none 0 0) := (blk_cell p01_ 11).trans rfl
                have x12 : W2.cell? ⟨w.heap.size, 12, none⟩ = some (.slice none 0 0) := (blk_cell p01_ 12).trans rfl
                have y0 := blk_frozen p01_ 0
                have y1 := blk_frozen p01_ 1
                have y2 := blk_frozen p01_ 2
                have y3 := blk_frozen p01_ 3
                have y4 := blk_frozen p01_ 4
                have y5 := blk_frozen p01_ 5
                have y6 := blk_frozen p01_ 6
                have y7 := blk_frozen p01_ 7
                have y8 := blk_frozen p01_ 8
                have y9 := blk_frozen p01_ 9
                have y10 := blk_frozen p01_ 10
                have y11 := blk_frozen p01_ 11
                have y12 := blk_frozen p01_ 12
                have pF := putAll_blk 0 [.int .i64 0, .bool false, .int .i64 0, .bool false, .bool false, .bool false, .bool false, .int .i64 0, .int .i64 0, .slice none 0 0, .slice none 0 0, .slice none 0 0, .slice none 0 0] #[.int .i64 0, .bool false, .int .i64 0, .bool false, .bool false, .bool false, .bool false, .int .i64 0, .int .i64 0, .slice none 0 0, .slice none 0 0, .slice none 0 0, .slice none 0 0] p01_ (by simp [setAll])
                have GF := putAll_grown (row := none) 0 [.int .i64 0, .bool false, .int .i64 0, .bool false, .bool false, .bool false, .bool false, .int .i64 0, .int .i64 0, .slice none 0 0, .slice none 0 0, .slice none 0 0, .slice none 0 0] (grown_below BB1_ none) (Nat.le_refl _)
                simp only [putAll] at pF GF
                have e0 := (blk_cell pF 0).trans rfl
                have e1 := (blk_cell pF 1).trans rfl
                have e2 := (blk_cell pF 2).trans rfl
                have e3 := (blk_cell pF 3).trans rfl
                have e4 := (blk_cell pF 4).trans rfl
                have e5 := (blk_cell pF 5).trans rfl
                have e6 := (blk_cell pF 6).trans rfl
                have e7 := (blk_cell pF 7).trans rfl
                have e8 := (blk_cell pF 8).trans rfl
                have e9 := (blk_cell pF 9).trans rfl
                have e10 := (blk_cell pF 10).trans rfl
                have e11 := (blk_cell pF 11).trans rfl
                have e12 := (blk_cell pF 12).trans rfl
                go_wp2_with fail
                exact bodyPost_ret (v := .tuple #[.agg #[.int .i64 0, .bool false, .int .i64 0, .bool false, .bool false, .bool false, .bool false, .int .i64 0, .int .i64 0, .slice none 0 0, .slice none 0 0, .slice none 0 0, .slice none 0 0], .int .i64 700]) (by simp [results, Try.results25, go_sem, e0, e1, e2, e3, e4, e5, e6, e7, e8, e9, e10, e11, e12]) rfl (post0 s w _ 700 ⟨GF.os, GF.tape, GF.output, GF.size, fun k hk => GF.block k hk (by simp)⟩)
              have hs2 := hr2
              unfold many4 at hs2
              rw [if_neg big2] at hs2
              obtain ⟨X2, hX2⟩ := andThen_is hs2
              have HS2 := Lib.hid hs2
              have HX2 := Lib.hid hX2
              clear hr2 hs2 hX2 
              have bq2 : decide ((64 : Int) < be2 s 8) = false := decide_eq_false big2
              go_wp2_with fail
              obtain ⟨n2, hn2⟩ : ∃ n : Nat, be2 s 8 = (n : Int) := ⟨(be2 s 8).toNat, by omega⟩
              have hl2 : n2 ≤ 64 := by omega
              have HN2 := Lib.hid hn2
              clear hn2
              go_loopg [8, 10] (n2 + 1) (fun kk v8 v10 wr => ∃ (m : Nat) (a : Int) (acc : List Rr) (vx : Value), v8 = .int .i64 a ∧ v10 = .int .i64 (((n2 - m : Nat)) : Int) ∧ kk = m + 1 ∧ m ≤ n2 ∧ acc.length + m = n2 ∧ rR k s m a acc = some X2 ∧ wr.heap[km]? = some (.cells #[.int .i64 (Hd.getH s).id, .bool (Hd.getH s).qr, .int .i64 (Hd.getH s).op, .bool (Hd.getH s).aa, .bool (Hd.getH s).tc, .bool (Hd.getH s).rd, .bool (Hd.getH s).ra, .int .i64 (Hd.getH s).z, .int .i64 (Hd.getH s).rc, .slice A0 acc0.length c0, .slice A1 acc1.length c1, vx, .slice none 0 0] 27 (0, 0)) ∧ wr.ownsRow W2.heap.size 53 5 vx acc.length (cellsR acc) ∧ W2.grownBy wr (some km))
              case atStart => exact ⟨n2, at1, [], .slice none 0 0, rfl, by simp, rfl, Nat.le_refl _, by simp, by have := HX2.out; rw [HN2.out, Int.toNat_natCast] at this; exact this, bm1_, own_nil _ _ _ _, ⟨rfl, rfl, rfl, Nat.le_refl _, fun _ _ _ => rfl⟩⟩
              case round =>
                obtain ⟨m, a, acc, vx, rfl, rfl, hkk, hmn, hlen, hq, bmr, hown, hG⟩ := hrel
                have HQ2 := Lib.hid hq
                clear hq
                have hsz := hG.size
                have bcr := blk_grown bc1_ hG (by intro q; injection q with q; exact hcm q)
                have p0r := blk_grown p01_ hG (by intro q; injection q with q; exact hpm q)
                have BR : Below w.heap.size w wr := BB1_.grown hG BB1_.size (fun k e => by injection e with e; omega)
                have cj : wr.cell? ⟨kc, 2, none⟩ = some (.int .i64 (be2 s 8)) := (blk_cell bcr 2).trans rfl
                have hmgt : w.heap.size ≠ km := hpm
                cases m with
                | succ m =>
                  have q0 : decide ((((n2 - (m + 1) : Nat)) : Int) < be2 s 8) = true := by rw [HN2.out]; simp; omega
                  have hq := HQ2.out
                  clear HQ2
                  unfold rR at hq
                  obtain ⟨x, hx, hq⟩ := Option.bind_eq_some_iff.1 hq
                  obtain ⟨xn, xt, xc, xl, xd, xto, xok⟩ := x
                  have kq := PRf.wimpleref4_record.calls k s a xn xt xc xl xd xto xok wr hx
                  have HQ3 := Lib.hid hq
                  clear hq hx
                  go_wp2_with fail
                  refine kq.mono ?_
                  rintro e w2 ⟨rfl, B2⟩
                  clear kq
                  go_upto_region 23 with (fail)
                  have Bx : Below w2.heap.size w2 (w2.alloc (.cells #[.string xn, .int .i64 xt, .int .i64 xc, .int .i64 xl, .string xd] 53)) := (Below.refl _ _).alloc (Nat.le_refl _) _
                  have bq2 := blk_new w2 (.cells #[.string xn, .int .i64 xt, .int .i64 xc, .int .i64 xl, .string xd] 53)
                  have bm2 := blk_below (blk_below bmr B2) Bx
                  have p02 := blk_below (blk_below p0r B2) Bx
                  have BR2 := (BR.trans (B2.mono BR.size)).trans (Bx.mono (BR.trans (B2.mono BR.size)).size)
                  have own2 := Sl.own_below (Sl.own_below hown B2) Bx
                  have G2 := grown_alloc' (hG.trans (grown_below B2 (some km))) (.cells #[.string xn, .int .i64 xt, .int .i64 xc, .int .i64 xl, .string xd] 53)
                  have s2 := G2.size
                  clear bmr p0r BR hown hG bcr cj B2 Bx hsz
                  generalize w2.alloc (.cells #[.string xn, .int .i64 xt, .int .i64 xc, .int .i64 xl, .string xd] 53) = w3 at *
                  generalize w2.heap.size = gq at *
                  have cq0 : w3.cell? ⟨gq, 0, none⟩ = some (.string xn) := (blk_cell bq2 0).trans rfl
                  have cq1 : w3.cell? ⟨gq, 1, none⟩ = some (.int .i64 xt) := (blk_cell bq2 1).trans rfl
                  have cq2 : w3.cell? ⟨gq, 2, none⟩ = some (.int .i64 xc) := (blk_cell bq2 2).trans rfl
                  have cq3 : w3.cell? ⟨gq, 3, none⟩ = some (.int .i64 xl) := (blk_cell bq2 3).trans rfl
                  have cq4 : w3.cell? ⟨gq, 4, none⟩ = some (.string xd) := (blk_cell bq2 4).trans rfl
                  cases xok with
                  | false =>
                    have hr : got0 700 = r := andThen_none (by rw [HX2.out]; have := HQ3.out; simp at this; rw [← this]) HS2.out
                    subst hr
                    have x0 : w3.cell? ⟨w.heap.size, 0, none⟩ = some (.int .i64 0) := (blk_cell p02 0).trans rfl
                    have x1 : w3.cell? ⟨w.heap.size, 1, none⟩ = some (.bool false) := (blk_cell p02 1).trans rfl
                    have x2 : w3.cell? ⟨w.heap.size, 2, none⟩ = some (.int .i64 0) := (blk_cell p02 2).trans rfl
                    have x3 : w3.cell? ⟨w.heap.size, 3, none⟩ = some (.bool false) := (blk_cell p02 3).trans rfl
                    have x4 : w3.cell? ⟨w.heap.size, 4, none⟩ = some (.bool false) := (blk_cell p02 4).trans rfl
                    have x5 : w3.cell? ⟨w.heap.size, 5, none⟩ = some (.bool false) := (blk_cell p02 5).trans rfl
                    have x6 : w3.cell? ⟨w.heap.size, 6, none⟩ = some (.bool false) := (blk_cell p02 6).trans rfl
                    have x7 : w3.cell? ⟨w.heap.size, 7, none⟩ = some (.int .i64 0) := (blk_cell p02 7).trans rfl
                    have x8 : w3.cell? ⟨w.heap.size, 8, none⟩ = some (.int .i64 0) := (blk_cell p02 8).trans rfl
                    have x9 : w3.cell? ⟨w.heap.size, 9, none⟩ = some (.slice none 0 0) := (blk_cell p02 9).trans rfl
                    have x10 : w3.cell? ⟨w.heap.size, 10, none⟩ = some (.slice none 0 0) := (blk_cell p02 10).trans rfl
                    have x11 : w3.cell? ⟨w.heap.size, 11, none⟩ = some (.slice none 0 0) := (blk_cell p02 11).trans rfl
                    have x12 : w3.cell? ⟨w.heap.size, 12, none⟩ = some (.slice none 0 0) := (blk_cell p02 12).trans rfl
                    have y0 := blk_frozen p02 0
                    have y1 := blk_frozen p02 1
                    have y2 := blk_frozen p02 2
                    have y3 := blk_frozen p02 3
                    have y4 := blk_frozen p02 4
                    have y5 := blk_frozen p02 5
                    have y6 := blk_frozen p02 6
                    have y7 := blk_frozen p02 7
                    have y8 := blk_frozen p02 8
                    have y9 := blk_frozen p02 9
                    have y10 := blk_frozen p02 10
                    have y11 := blk_frozen p02 11
                    have y12 := blk_frozen p02 12
                    have pF := putAll_blk 0 [.int .i64 0, .bool false, .int .i64 0, .bool false, .bool false, .bool false, .bool false, .int .i64 0, .int .i64 0, .slice none 0 0, .slice none 0 0, .slice none 0 0, .slice none 0 0] #[.int .i64 0, .bool false, .int .i64 0, .bool false, .bool false, .bool false, .bool false, .int .i64 0, .int .i64 0, .slice none 0 0, .slice none 0 0, .slice none 0 0, .slice none 0 0] p02 (by simp [setAll])
                    have GF := putAll_grown (row := none) 0 [.int .i64 0, .bool false, .int .i64 0, .bool false, .bool false, .bool false, .bool false, .int .i64 0, .int .i64 0, .slice none 0 0, .slice none 0 0, .slice none 0 0, .slice none 0 0] (grown_below BR2 none) (Nat.le_refl _)
                    simp only [putAll] at pF GF
                    have e0 := (blk_cell pF 0).trans rfl
                    have e1 := (blk_cell pF 1).trans rfl
                    have e2 := (blk_cell pF 2).trans rfl
                    have e3 := (blk_cell pF 3).trans rfl
                    have e4 := (blk_cell pF 4).trans rfl
                    have e5 := (blk_cell pF 5).trans rfl
                    have e6 := (blk_cell pF 6).trans rfl
                    have e7 := (blk_cell pF 7).trans rfl
                    have e8 := (blk_cell pF 8).trans rfl
                    have e9 := (blk_cell pF 9).trans rfl
                    have e10 := (blk_cell pF 10).trans rfl
                    have e11 := (blk_cell pF 11).trans rfl
                    have e12 := (blk_cell pF 12).trans rfl
                    go_wp2_with fail
                    exact bodyPost_ret (v := .tuple #[.agg #[.int .i64 0, .bool false, .int .i64 0, .bool false, .bool false, .bool false, .bool false, .int .i64 0, .int .i64 0, .slice none 0 0, .slice none 0 0, .slice none 0 0, .slice none 0 0], .int .i64 700]) (by simp [results, Try.results25, go_sem, e0, e1, e2, e3, e4, e5, e6, e7, e8, e9, e10, e11, e12]) rfl (post0 s w _ 700 ⟨GF.os, GF.tape, GF.output, GF.size, fun k hk => GF.block k hk (by simp)⟩)
                  | true =>
                    have hq3 := HQ3.out
                    simp only [if_true] at hq3
                    have HQ4 := Lib.hid hq3
                    clear hq3 HQ3 p02 BR2
                    obtain ⟨Ax, cx, rfl⟩ := Sl.own_slice own2
                    have cb : w3.cell? ⟨km, 11, none⟩ = some (.slice Ax acc.length cx) := (blk_cell bm2 11).trans rfl
                    go_wp2_with (at_builtin; refine app_elem W2.heap.size rfl _ _ 25 53 (.agg #[.string ⟨#[]⟩, .int .i64 0, .int .i64 0, .int .i64 0, .string ⟨#[]⟩]) 5 56 rfl Try.underlying25 info_R rfl (by decide) own2 #[.string xn, .int .i64 xt, .int .i64 xc, .int .i64 xl, .string xd] rfl rfl rfl ?h1 s2 ?hn ?hl ?_)
                    case h1 => exact ⟨rfl, rfl, rfl, rfl, rfl⟩
                    case hn => omega
                    case hl => omega
                    intro v4 w4 own4 g4
                    have Ba : ∀ (Z : World) (o : Obj), Below Z.heap.size Z (Z.alloc o) := fun Z o => (Below.refl _ _).alloc (Nat.le_refl _) o
                    have own3a := Sl.own_below own2 (Ba _ (.cells #[.string xn, .int .i64 xt, .int .i64 xc, .int .i64 xl, .string xd] 53))
                    have bm4 := blk_grown (blk_below bm2 (Ba _ (.cells #[.string xn, .int .i64 xt, .int .i64 xc, .int .i64 xl, .string xd] 53))) g4 (own_ne own3a (blk_below bm2 (Ba _ (.cells #[.string xn, .int .i64 xt, .int .i64 xc, .int .i64 xl, .string xd] 53))) (by decide))
                    have G4 := grown_own (grown_alloc' G2 (.cells #[.string xn, .int .i64 xt, .int .i64 xc, .int .i64 xl, .string xd] 53)) g4 (fun b e => Sl.own_base own2 b e)
                    obtain ⟨A4, c4, rfl⟩ := Sl.own_slice own4
                    have c44 : w4.cell? ⟨km, 11, none⟩ = some (.slice Ax acc.length cx) := (blk_cell bm4 11).trans rfl
                    have f44 := blk_frozen bm4 11
                    have bm5 := blk_put bm4 11 (.slice A4 (acc.length + 1) c4) rfl
                    have own5 := own_setCell (p := ⟨km, 11, none⟩) own4 (own_ne own4 bm4 (by decide)) (.slice A4 (acc.length + 1) c4)
                    have G5 := grown_set' G4 11 (.slice A4 (acc.length + 1) c4)
                    clear own2 own3a bm2 G2 s2 cb Ba g4 bm4 own4 G4 bq2
                    go_wp2_with fail
                    go_roundg (m + 1)
                    case measure => omega
                    case rel =>
                      refine ⟨m, xto, acc ++ [(⟨xn, xt, xc, xl, xd⟩ : Rr)], _, rfl, ?_, rfl, by omega, by simp; omega, HQ4.out, bm5, ?_, G5⟩
                      · have e1 : ((n2 - (m + 1) : Nat) : Int) + 1 = ((n2 - m : Nat) : Int) := by omega
                        first | rw [e1] | (congr 1)
                      · rw [List.length_append, cellsR_app]; simpa [cellsR] using own5
                | zero =>
                  rw [Nat.sub_zero]
                  have q0 : decide ((n2 : Int) < be2 s 8) = false := by rw [HN2.out]; simp
                  have hq := HQ2.out
                  clear HQ2
                  unfold rR at hq
                  have hs : _ = some r := andThen_some (by rw [HX2.out]; exact hq.symm) HS2.out
                  dsimp only at hs
                  have HR2 := Lib.hid hs
                  clear hs hq HX2 HS2 hkk hmn
                  go_wp2_with fail
                  obtain ⟨A2, c2, rfl⟩ := Sl.own_slice hown
                  have ow2 := hown
                  clear hown
                  have ow0n := own_other ow0 hG (by right; intro q; exact (own_ne ow0 bm1_ (by decide)) q.symm)
                  replace ow0 := ow0n
                  clear ow0n
                  have ow1n := own_other ow1 hG (by right; intro q; exact (own_ne ow1 bm1_ (by decide)) q.symm)
                  replace ow1 := ow1n
                  clear ow1n
                  have lt2 := Lib.hid (own_lt ow2)
                  have bs2 := Lib.hid (Sl.own_base ow2)
                  have hsz2 := hsz
                  obtain ⟨W3, hW3⟩ : ∃ Z : World, Z = wr := ⟨_, rfl⟩
                  subst hW3
                  skip
                  obtain ⟨acc2, ha2⟩ : ∃ z, z = acc := ⟨_, rfl⟩
                  subst ha2
                  obtain ⟨at2, hb2⟩ : ∃ z, z = a := ⟨_, rfl⟩
                  subst hb2
                  obtain ⟨bm2_, bc2_, p02_, BB2_⟩ := And.intro bmr (And.intro bcr (And.intro p0r BR))
                  clear bmr bcr p0r BR cj
                  have bd3 := be2_bd s 10
                  have cx3 : W3.cell? ⟨kc, 3, none⟩ = some (.int .i64 (be2 s 10)) := (blk_cell bc2_ 3).trans rfl
                  rw [rounds_succ]
                  have hr3 := HR2.out
                  by_cases big3 : 64 < be2 s 10
                  · have hr : got0 700 = r := by unfold many4 at hr3; rw [if_pos big3] at hr3; exact Option.some.inj hr3
                    subst hr
                    clear hr3
                    have bq : decide ((64 : Int) < be2 s 10) = true := decide_eq_true big3
                    have x0 : W3.cell? ⟨w.heap.size, 0, none⟩ = some (.int .i64 0) := (blk_cell p02_ 0).trans rfl
                    have x1 : W3.cell? ⟨w.heap.size, 1, none⟩ = some (.bool false) := (blk_cell p02_ 1).trans rfl
                    have x2 : W3.cell? ⟨w.heap.size, 2, none⟩ = some (.int .i64 0) := (blk_cell p02_ 2).trans rfl
                    have x3 : W3.cell? ⟨w.heap.size, 3, none⟩ = some (.bool false) := (blk_cell p02_ 3).trans rfl
                    have x4 : W3.cell? ⟨w.heap.size, 4, none⟩ = some (.bool false) := (blk_cell p02_ 4).trans rfl
                    have x5 : W3.cell? ⟨w.heap.size, 5, none⟩ = some (.bool false) := (blk_cell p02_ 5).trans rfl
                    have x6 : W3.cell? ⟨w.heap.size, 6, none⟩ = some (.bool false) := (blk_cell p02_ 6).trans rfl
                    have x7 : W3.cell? ⟨w.heap.size, 7, none⟩ = some (.int .i64 0) := (blk_cell p02_ 7).trans rfl
                    have x8 : W3.cell? ⟨w.heap.size, 8, none⟩ = some (.int .i64 0) := (blk_cell p02_ 8).trans rfl
                    have x9 : W3.cell? ⟨w.heap.size, 9, none⟩ = some (.slice none 0 0) := (blk_cell p02_ 9).trans rfl
                    have x10 : W3.cell? ⟨w.heap.size, 10, none⟩ = some (.slice none 0 0) := (blk_cell p02_ 10).trans rfl
                    have x11 : W3.cell? ⟨w.heap.size, 11, none⟩ = some (.slice none 0 0) := (blk_cell p02_ 11).trans rfl
                    have x12 : W3.cell? ⟨w.heap.size, 12, none⟩ = some (.slice none 0 0) := (blk_cell p02_ 12).trans rfl
                    have y0 := blk_frozen p02_ 0
                    have y1 := blk_frozen p02_ 1
                    have y2 := blk_frozen p02_ 2
                    have y3 := blk_frozen p02_ 3
                    have y4 := blk_frozen p02_ 4
                    have y5 := blk_frozen p02_ 5
                    have y6 := blk_frozen p02_ 6
                    have y7 := blk_frozen p02_ 7
                    have y8 := blk_frozen p02_ 8
                    have y9 := blk_frozen p02_ 9
                    have y10 := blk_frozen p02_ 10
                    have y11 := blk_frozen p02_ 11
                    have y12 := blk_frozen p02_ 12
                    have pF := putAll_blk 0 [.int .i64 0, .bool false, .int .i64 0, .bool false, .bool false, .bool false, .bool false, .int .i64 0, .int .i64 0, .slice none 0 0, .slice none 0 0, .slice none 0 0, .slice none 0 0] #[.int .i64 0, .bool false, .int .i64 0, .bool false, .bool false, .bool false, .bool false, .int .i64 0, .int .i64 0, .slice none 0 0, .slice none 0 0, .slice none 0 0, .slice none 0 0] p02_ (by simp [setAll])
                    have GF := putAll_grown (row := none) 0 [.int .i64 0, .bool false, .int .i64 0, .bool false, .bool false, .bool false, .bool false, .int .i64 0, .int .i64 0, .slice none 0 0, .slice none 0 0, .slice none 0 0, .slice none 0 0] (grown_below BB2_ none) (Nat.le_refl _)
                    simp only [putAll] at pF GF
                    have e0 := (blk_cell pF 0).trans rfl
                    have e1 := (blk_cell pF 1).trans rfl
                    have e2 := (blk_cell pF 2).trans rfl
                    have e3 := (blk_cell pF 3).trans rfl
                    have e4 := (blk_cell pF 4).trans rfl
                    have e5 := (blk_cell pF 5).trans rfl
                    have e6 := (blk_cell pF 6).trans rfl
                    have e7 := (blk_cell pF 7).trans rfl
                    have e8 := (blk_cell pF 8).trans rfl
                    have e9 := (blk_cell pF 9).trans rfl
                    have e10 := (blk_cell pF 10).trans rfl
                    have e11 := (blk_cell pF 11).trans rfl
                    have e12 := (blk_cell pF 12).trans rfl
                    go_wp2_with fail
                    exact bodyPost_ret (v := .tuple #[.agg #[.int .i64 0, .bool false, .int .i64 0, .bool false, .bool false, .bool false, .bool false, .int .i64 0, .int .i64 0, .slice none 0 0, .slice none 0 0, .slice none 0 0, .slice none 0 0], .int .i64 700]) (by simp [results, Try.results25, go_sem, e0, e1, e2, e3, e4, e5, e6, e7, e8, e9, e10, e11, e12]) rfl (post0 s w _ 700 ⟨GF.os, GF.tape, GF.output, GF.size, fun k hk => GF.block k hk (by simp)⟩)
                  have hs3 := hr3
                  unfold many4 at hs3
                  rw [if_neg big3] at hs3
                  obtain ⟨X3, hX3⟩ := andThen_is hs3
                  have HS3 := Lib.hid hs3
                  have HX3 := Lib.hid hX3
                  clear hr3 hs3 hX3 
                  have bq3 : decide ((64 : Int) < be2 s 10) = false := decide_eq_false big3
                  go_wp2_with fail
                  obtain ⟨n3, hn3⟩ : ∃ n : Nat, be2 s 10 = (n : Int) := ⟨(be2 s 10).toNat, by omega⟩
                  have hl3 : n3 ≤ 64 := by omega
                  have HN3 := Lib.hid hn3
                  clear hn3
                  go_loopg [8, 10] (n3 + 1) (fun kk v8 v10 wr => ∃ (m : Nat) (a : Int) (acc : List Rr) (vx : Value), v8 = .int .i64 a ∧ v10 = .int .i64 (((n3 - m : Nat)) : Int) ∧ kk = m + 1 ∧ m ≤ n3 ∧ acc.length + m = n3 ∧ rR k s m a acc = some X3 ∧ wr.heap[km]? = some (.cells #[.int .i64 (Hd.getH s).id, .bool (Hd.getH s).qr, .int .i64 (Hd.getH s).op, .bool (Hd.getH s).aa, .bool (Hd.getH s).tc, .bool (Hd.getH s).rd, .bool (Hd.getH s).ra, .int .i64 (Hd.getH s).z, .int .i64 (Hd.getH s).rc, .slice A0 acc0.length c0, .slice A1 acc1.length c1, .slice A2 acc2.length c2, vx] 27 (0, 0)) ∧ wr.ownsRow W3.heap.size 53 5 vx acc.length (cellsR acc) ∧ W3.grownBy wr (some km))
                  case atStart => exact ⟨n3, at2, [], .slice none 0 0, rfl, by simp, rfl, Nat.le_refl _, by simp, by have := HX3.out; rw [HN3.out, Int.toNat_natCast] at this; exact this, bm2_, own_nil _ _ _ _, ⟨rfl, rfl, rfl, Nat.le_refl _, fun _ _ _ => rfl⟩⟩
                  case round =>
                    obtain ⟨m, a, acc, vx, rfl, rfl, hkk, hmn, hlen, hq, bmr, hown, hG⟩ := hrel
                    have HQ2 := Lib.hid hq
                    clear hq
                    have hsz := hG.size
                    have bcr := blk_grown bc2_ hG (by intro q; injection q with q; exact hcm q)
                    have p0r := blk_grown p02_ hG (by intro q; injection q with q; exact hpm q)
                    have BR : Below w.heap.size w wr := BB2_.grown hG BB2_.size (fun k e => by injection e with e; omega)
                    have cj : wr.cell? ⟨kc, 3, none⟩ = some (.int .i64 (be2 s 10)) := (blk_cell bcr 3).trans rfl
                    have hmgt : w.heap.size ≠ km := hpm
                    cases m with
                    | succ m =>
                      have q0 : decide ((((n3 - (m + 1) : Nat)) : Int) < be2 s 10) = true := by rw [HN3.out]; simp; omega
                      have hq := HQ2.out
                      clear HQ2
                      unfold rR at hq
                      obtain ⟨x, hx, hq⟩ := Option.bind_eq_some_iff.1 hq
                      obtain ⟨xn, xt, xc, xl, xd, xto, xok⟩ := x
                      have kq := PRf.wimpleref4_record.calls k s a xn xt xc xl xd xto xok wr hx
                      have HQ3 := Lib.hid hq
                      clear hq hx
                      go_wp2_with fail
                      refine kq.mono ?_
                      rintro e w2 ⟨rfl, B2⟩
                      clear kq
                      go_upto_region 23 with (fail)
                      have Bx : Below w2.heap.size w2 (w2.alloc (.cells #[.string xn, .int .i64 xt, .int .i64 xc, .int .i64 xl, .string xd] 53)) := (Below.refl _ _).alloc (Nat.le_refl _) _
                      have bq2 := blk_new w2 (.cells #[.string xn, .int .i64 xt, .int .i64 xc, .int .i64 xl, .string xd] 53)
                      have bm2 := blk_below (blk_below bmr B2) Bx
                      have p02 := blk_below (blk_below p0r B2) Bx
                      have BR2 := (BR.trans (B2.mono BR.size)).trans (Bx.mono (BR.trans (B2.mono BR.size)).size)
                      have own2 := Sl.own_below (Sl.own_below hown B2) Bx
                      have G2 := grown_alloc' (hG.trans (grown_below B2 (some km))) (.cells #[.string xn, .int .i64 xt, .int .i64 xc, .int .i64 xl, .string xd] 53)
                      have s2 := G2.size
                      clear bmr p0r BR hown hG bcr cj B2 Bx hsz
                      generalize w2.alloc (.cells #[.string xn, .int .i64 xt, .int .i64 xc, .int .i64 xl, .string xd] 53) = w3 at *
                      generalize w2.heap.size = gq at *
                      have cq0 : w3.cell? ⟨gq, 0, none⟩ = some (.string xn) := (blk_cell bq2 0).trans rfl
                      have cq1 : w3.cell? ⟨gq, 1, none⟩ = some (.int .i64 xt) := (blk_cell bq2 1).trans rfl
                      have cq2 : w3.cell? ⟨gq, 2, none⟩ = some (.int .i64 xc) := (blk_cell bq2 2).trans rfl
                      have cq3 : w3.cell? ⟨gq, 3, none⟩ = some (.int .i64 xl) := (blk_cell bq2 3).trans rfl
                      have cq4 : w3.cell? ⟨gq, 4, none⟩ = some (.string xd) := (blk_cell bq2 4).trans rfl
                      cases xok with
                      | false =>
                        have hr : got0 700 = r := andThen_none (by rw [HX3.out]; have := HQ3.out; simp at this; rw [← this]) HS3.out
                        subst hr
                        have x0 : w3.cell? ⟨w.heap.size, 0, none⟩ = some (.int .i64 0) := (blk_cell p02 0).trans rfl
                        have x1 : w3.cell? ⟨w.heap.size, 1, none⟩ = some (.bool false) := (blk_cell p02 1).trans rfl
                        have x2 : w3.cell? ⟨w.heap.size, 2, none⟩ = some (.int .i64 0) := (blk_cell p02 2).trans rfl
                        have x3 : w3.cell? ⟨w.heap.size, 3, none⟩ = some (.bool false) := (blk_cell p02 3).trans rfl
                        have x4 : w3.cell? ⟨w.heap.size, 4, none⟩ = some (.bool false) := (blk_cell p02 4).trans rfl
                        have x5 : w3.cell? ⟨w.heap.size, 5, none⟩ = some (.bool false) := (blk_cell p02 5).trans rfl
                        have x6 : w3.cell? ⟨w.heap.size, 6, none⟩ = some (.bool false) := (blk_cell p02 6).trans rfl
                        have x7 : w3.cell? ⟨w.heap.size, 7, none⟩ = some (.int .i64 0) := (blk_cell p02 7).trans rfl
                        have x8 : w3.cell? ⟨w.heap.size, 8, none⟩ = some (.int .i64 0) := (blk_cell p02 8).trans rfl
                        have x9 : w3.cell? ⟨w.heap.size, 9, none⟩ = some (.slice none 0 0) := (blk_cell p02 9).trans rfl
                        have x10 : w3.cell? ⟨w.heap.size, 10, none⟩ = some (.slice none 0 0) := (blk_cell p02 10).trans rfl
                        have x11 : w3.cell? ⟨w.heap.size, 11, none⟩ = some (.slice none 0 0) := (blk_cell p02 11).trans rfl
                        have x12 : w3.cell? ⟨w.heap.size, 12, none⟩ = some (.slice none 0 0) := (blk_cell p02 12).trans rfl
                        have y0 := blk_frozen p02 0
                        have y1 := blk_frozen p02 1
                        have y2 := blk_frozen p02 2
                        have y3 := blk_frozen p02 3
                        have y4 := blk_frozen p02 4
                        have y5 := blk_frozen p02 5
                        have y6 := blk_frozen p02 6
                        have y7 := blk_frozen p02 7
                        have y8 := blk_frozen p02 8
                        have y9 := blk_frozen p02 9
                        have y10 := blk_frozen p02 10
                        have y11 := blk_frozen p02 11
                        have y12 := blk_frozen p02 12
                        have pF := putAll_blk 0 [.int .i64 0, .bool false, .int .i64 0, .bool false, .bool false, .bool false, .bool false, .int .i64 0, .int .i64 0, .slice none 0 0, .slice none 0 0, .slice none 0 0, .slice none 0 0] #[.int .i64 0, .bool false, .int .i64 0, .bool false, .bool false, .bool false, .bool false, .int .i64 0, .int .i64 0, .slice none 0 0, .slice none 0 0, .slice none 0 0, .slice none 0 0] p02 (by simp [setAll])
                        have GF := putAll_grown (row := none) 0 [.int .i64 0, .bool false, .int .i64 0, .bool false, .bool false, .bool false, .bool false, .int .i64 0, .int .i64 0, .slice none 0 0, .slice none 0 0, .slice none 0 0, .slice none 0 0] (grown_below BR2 none) (Nat.le_refl _)
                        simp only [putAll] at pF GF
                        have e0 := (blk_cell pF 0).trans rfl
                        have e1 := (blk_cell pF 1).trans rfl
                        have e2 := (blk_cell pF 2).trans rfl
                        have e3 := (blk_cell pF 3).trans rfl
                        have e4 := (blk_cell pF 4).trans rfl
                        have e5 := (blk_cell pF 5).trans rfl
                        have e6 := (blk_cell pF 6).trans rfl
                        have e7 := (blk_cell pF 7).trans rfl
                        have e8 := (blk_cell pF 8).trans rfl
                        have e9 := (blk_cell pF 9).trans rfl
                        have e10 := (blk_cell pF 10).trans rfl
                        have e11 := (blk_cell pF 11).trans rfl
                        have e12 := (blk_cell pF 12).trans rfl
                        go_wp2_with fail
                        exact bodyPost_ret (v := .tuple #[.agg #[.int .i64 0, .bool false, .int .i64 0, .bool false, .bool false, .bool false, .bool false, .int .i64 0, .int .i64 0, .slice none 0 0, .slice none 0 0, .slice none 0 0, .slice none 0 0], .int .i64 700]) (by simp [results, Try.results25, go_sem, e0, e1, e2, e3, e4, e5, e6, e7, e8, e9, e10, e11, e12]) rfl (post0 s w _ 700 ⟨GF.os, GF.tape, GF.output, GF.size, fun k hk => GF.block k hk (by simp)⟩)
                      | true =>
                        have hq3 := HQ3.out
                        simp only [if_true] at hq3
                        have HQ4 := Lib.hid hq3
                        clear hq3 HQ3 p02 BR2
                        obtain ⟨Ax, cx, rfl⟩ := Sl.own_slice own2
                        have cb : w3.cell? ⟨km, 12, none⟩ = some (.slice Ax acc.length cx) := (blk_cell bm2 12).trans rfl
                        go_wp2_with (at_builtin; refine app_elem W3.heap.size rfl _ _ 25 53 (.agg #[.string ⟨#[]⟩, .int .i64 0, .int .i64 0, .int .i64 0, .string ⟨#[]⟩]) 5 56 rfl Try.underlying25 info_R rfl (by decide) own2 #[.string xn, .int .i64 xt, .int .i64 xc, .int .i64 xl, .string xd] rfl rfl rfl ?h1 s2 ?hn ?hl ?_)
                        case h1 => exact ⟨rfl, rfl, rfl, rfl, rfl⟩
                        case hn => omega
                        case hl => omega
                        intro v4 w4 own4 g4
                        have Ba : ∀ (Z : World) (o : Obj), Below Z.heap.size Z (Z.alloc o) := fun Z o => (Below.refl _ _).alloc (Nat.le_refl _) o
                        have own3a := Sl.own_below own2 (Ba _ (.cells #[.string xn, .int .i64 xt, .int .i64 xc, .int .i64 xl, .string xd] 53))
                        have bm4 := blk_grown (blk_below bm2 (Ba _ (.cells #[.string xn, .int .i64 xt, .int .i64 xc, .int .i64 xl, .string xd] 53))) g4 (own_ne own3a (blk_below bm2 (Ba _ (.cells #[.string xn, .int .i64 xt, .int .i64 xc, .int .i64 xl, .string xd] 53))) (by decide))
                        have G4 := grown_own (grown_alloc' G2 (.cells #[.string xn, .int .i64 xt, .int .i64 xc, .int .i64 xl, .string xd] 53)) g4 (fun b e => Sl.own_base own2 b e)
                        obtain ⟨A4, c4, rfl⟩ := Sl.own_slice own4
                        have c44 : w4.cell? ⟨km, 12, none⟩ = some (.slice Ax acc.length cx) := (blk_cell bm4 12).trans rfl
                        have f44 := blk_frozen bm4 12
                        have bm5 := blk_put bm4 12 (.slice A4 (acc.length + 1) c4) rfl
                        have own5 := own_setCell (p := ⟨km, 12, none⟩) own4 (own_ne own4 bm4 (by decide)) (.slice A4 (acc.length + 1) c4)
                        have G5 := grown_set' G4 12 (.slice A4 (acc.length + 1) c4)
                        clear own2 own3a bm2 G2 s2 cb Ba g4 bm4 own4 G4 bq2
                        go_wp2_with fail
                        go_roundg (m + 1)
                        case measure => omega
                        case rel =>
                          refine ⟨m, xto, acc ++ [(⟨xn, xt, xc, xl, xd⟩ : Rr)], _, rfl, ?_, rfl, by omega, by simp; omega, HQ4.out, bm5, ?_, G5⟩
                          · have e1 : ((n3 - (m + 1) : Nat) : Int) + 1 = ((n3 - m : Nat) : Int) := by omega
                            first | rw [e1] | (congr 1)
                          · rw [List.length_append, cellsR_app]; simpa [cellsR] using own5
                    | zero =>
                      rw [Nat.sub_zero]
                      have q0 : decide ((n3 : Int) < be2 s 10) = false := by rw [HN3.out]; simp
                      have hq := HQ2.out
                      clear HQ2
                      unfold rR at hq
                      have hs : _ = some r := andThen_some (by rw [HX3.out]; exact hq.symm) HS3.out
                      dsimp only at hs
                      have HR3 := Lib.hid hs
                      clear hs hq HX3 HS3 hkk hmn
                      go_wp2_with fail
                      obtain ⟨A3, c3, rfl⟩ := Sl.own_slice hown
                      have ow3 := hown
                      clear hown
                      have ow0n := own_other ow0 hG (by right; intro q; exact (own_ne ow0 bm2_ (by decide)) q.symm)
                      replace ow0 := ow0n
                      clear ow0n
                      have ow1n := own_other ow1 hG (by right; intro q; exact (own_ne ow1 bm2_ (by decide)) q.symm)
                      replace ow1 := ow1n
                      clear ow1n
                      have ow2n := own_other ow2 hG (by right; intro q; exact (own_ne ow2 bm2_ (by decide)) q.symm)
                      replace ow2 := ow2n
                      clear ow2n
                      have lt3 := Lib.hid (own_lt ow3)
                      have bs3 := Lib.hid (Sl.own_base ow3)
                      have hsz3 := hsz
                      obtain ⟨W4, hW4⟩ : ∃ Z : World, Z = wr := ⟨_, rfl⟩
                      subst hW4
                      skip
                      obtain ⟨acc3, ha3⟩ : ∃ z, z = acc := ⟨_, rfl⟩
                      subst ha3
                      obtain ⟨at3, hb3⟩ : ∃ z, z = a := ⟨_, rfl⟩
                      subst hb3
                      obtain ⟨bm3_, bc3_, p03_, BB3_⟩ := And.intro bmr (And.intro bcr (And.intro p0r BR))
                      clear bmr bcr p0r BR cj
                      rw [rounds_succ]
                      go_upto_region 32 with (fail)
                      have hr5 := HR3.out
                      have hr6 : ((at3 != (s.size : Int)) = true ∧ got0 700 = r) ∨ ((at3 != (s.size : Int)) = false ∧ (⟨Hd.getH s, acc0, acc1, acc2, acc3, 0⟩ : Got) = r) := by
                        by_cases e : at3 = (s.size : Int)
                        · exact .inr ⟨by simpa using e, Option.some.inj (by simpa [e] using hr5)⟩
                        · exact .inl ⟨by simpa using e, Option.some.inj (by simpa [e] using hr5)⟩
                      have HR6 := Lib.hid hr6
                      clear hr5 hr6 HR3
                      rcases HR6.out with ⟨hat, rfl⟩ | ⟨hat, rfl⟩
                      · skip
                        have x0 : W4.cell? ⟨w.heap.size, 0, none⟩ = some (.int .i64 0) := (blk_cell p03_ 0).trans rfl
                        have x1 : W4.cell? ⟨w.heap.size, 1, none⟩ = some (.bool false) := (blk_cell p03_ 1).trans rfl
                        have x2 : W4.cell? ⟨w.heap.size, 2, none⟩ = some (.int .i64 0) := (blk_cell p03_ 2).trans rfl
                        have x3 : W4.cell? ⟨w.heap.size, 3, none⟩ = some (.bool false) := (blk_cell p03_ 3).trans rfl
                        have x4 : W4.cell? ⟨w.heap.size, 4, none⟩ = some (.bool false) := (blk_cell p03_ 4).trans rfl
                        have x5 : W4.cell? ⟨w.heap.size, 5, none⟩ = some (.bool false) := (blk_cell p03_ 5).trans rfl
                        have x6 : W4.cell? ⟨w.heap.size, 6, none⟩ = some (.bool false) := (blk_cell p03_ 6).trans rfl
                        have x7 : W4.cell? ⟨w.heap.size, 7, none⟩ = some (.int .i64 0) := (blk_cell p03_ 7).trans rfl
                        have x8 : W4.cell? ⟨w.heap.size, 8, none⟩ = some (.int .i64 0) := (blk_cell p03_ 8).trans rfl
                        have x9 : W4.cell? ⟨w.heap.size, 9, none⟩ = some (.slice none 0 0) := (blk_cell p03_ 9).trans rfl
                        have x10 : W4.cell? ⟨w.heap.size, 10, none⟩ = some (.slice none 0 0) := (blk_cell p03_ 10).trans rfl
                        have x11 : W4.cell? ⟨w.heap.size, 11, none⟩ = some (.slice none 0 0) := (blk_cell p03_ 11).trans rfl
                        have x12 : W4.cell? ⟨w.heap.size, 12, none⟩ = some (.slice none 0 0) := (blk_cell p03_ 12).trans rfl
                        have y0 := blk_frozen p03_ 0
                        have y1 := blk_frozen p03_ 1
                        have y2 := blk_frozen p03_ 2
                        have y3 := blk_frozen p03_ 3
                        have y4 := blk_frozen p03_ 4
                        have y5 := blk_frozen p03_ 5
                        have y6 := blk_frozen p03_ 6
                        have y7 := blk_frozen p03_ 7
                        have y8 := blk_frozen p03_ 8
                        have y9 := blk_frozen p03_ 9
                        have y10 := blk_frozen p03_ 10
                        have y11 := blk_frozen p03_ 11
                        have y12 := blk_frozen p03_ 12
                        have pF := putAll_blk 0 [.int .i64 0, .bool false, .int .i64 0, .bool false, .bool false, .bool false, .bool false, .int .i64 0, .int .i64 0, .slice none 0 0, .slice none 0 0, .slice none 0 0, .slice none 0 0] #[.int .i64 0, .bool false, .int .i64 0, .bool false, .bool false, .bool false, .bool false, .int .i64 0, .int .i64 0, .slice none 0 0, .slice none 0 0, .slice none 0 0, .slice none 0 0] p03_ (by simp [setAll])
                        have GF := putAll_grown (row := none) 0 [.int .i64 0, .bool false, .int .i64 0, .bool false, .bool false, .bool false, .bool false, .int .i64 0, .int .i64 0, .slice none 0 0, .slice none 0 0, .slice none 0 0, .slice none 0 0] (grown_below BB3_ none) (Nat.le_refl _)
                        simp only [putAll] at pF GF
                        have e0 := (blk_cell pF 0).trans rfl
                        have e1 := (blk_cell pF 1).trans rfl
                        have e2 := (blk_cell pF 2).trans rfl
                        have e3 := (blk_cell pF 3).trans rfl
                        have e4 := (blk_cell pF 4).trans rfl
                        have e5 := (blk_cell pF 5).trans rfl
                        have e6 := (blk_cell pF 6).trans rfl
                        have e7 := (blk_cell pF 7).trans rfl
                        have e8 := (blk_cell pF 8).trans rfl
                        have e9 := (blk_cell pF 9).trans rfl
                        have e10 := (blk_cell pF 10).trans rfl
                        have e11 := (blk_cell pF 11).trans rfl
                        have e12 := (blk_cell pF 12).trans rfl
                        go_wp2_with fail
                        exact bodyPost_ret (v := .tuple #[.agg #[.int .i64 0, .bool false, .int .i64 0, .bool false, .bool false, .bool false, .bool false, .int .i64 0, .int .i64 0, .slice none 0 0, .slice none 0 0, .slice none 0 0, .slice none 0 0], .int .i64 700]) (by simp [results, Try.results25, go_sem, e0, e1, e2, e3, e4, e5, e6, e7, e8, e9, e10, e11, e12]) rfl (post0 s w _ 700 ⟨GF.os, GF.tape, GF.output, GF.size, fun k hk => GF.block k hk (by simp)⟩)
                      · skip
                        have x0 : W4.cell? ⟨w.heap.size, 0, none⟩ = some (.int .i64 0) := (blk_cell p03_ 0).trans rfl
                        have x1 : W4.cell? ⟨w.heap.size, 1, none⟩ = some (.bool false) := (blk_cell p03_ 1).trans rfl
                        have x2 : W4.cell? ⟨w.heap.size, 2, none⟩ = some (.int .i64 0) := (blk_cell p03_ 2).trans rfl
                        have x3 : W4.cell? ⟨w.heap.size, 3, none⟩ = some (.bool false) := (blk_cell p03_ 3).trans rfl
                        have x4 : W4.cell? ⟨w.heap.size, 4, none⟩ = some (.bool false) := (blk_cell p03_ 4).trans rfl
                        have x5 : W4.cell? ⟨w.heap.size, 5, none⟩ = some (.bool false) := (blk_cell p03_ 5).trans rfl
                        have x6 : W4.cell? ⟨w.heap.size, 6, none⟩ = some (.bool false) := (blk_cell p03_ 6).trans rfl
                        have x7 : W4.cell? ⟨w.heap.size, 7, none⟩ = some (.int .i64 0) := (blk_cell p03_ 7).trans rfl
                        have x8 : W4.cell? ⟨w.heap.size, 8, none⟩ = some (.int .i64 0) := (blk_cell p03_ 8).trans rfl
                        have x9 : W4.cell? ⟨w.heap.size, 9, none⟩ = some (.slice none 0 0) := (blk_cell p03_ 9).trans rfl
                        have x10 : W4.cell? ⟨w.heap.size, 10, none⟩ = some (.slice none 0 0) := (blk_cell p03_ 10).trans rfl
                        have x11 : W4.cell? ⟨w.heap.size, 11, none⟩ = some (.slice none 0 0) := (blk_cell p03_ 11).trans rfl
                        have x12 : W4.cell? ⟨w.heap.size, 12, none⟩ = some (.slice none 0 0) := (blk_cell p03_ 12).trans rfl
                        have y0 := blk_frozen p03_ 0
                        have y1 := blk_frozen p03_ 1
                        have y2 := blk_frozen p03_ 2
                        have y3 := blk_frozen p03_ 3
                        have y4 := blk_frozen p03_ 4
                        have y5 := blk_frozen p03_ 5
                        have y6 := blk_frozen p03_ 6
                        have y7 := blk_frozen p03_ 7
                        have y8 := blk_frozen p03_ 8
                        have y9 := blk_frozen p03_ 9
                        have y10 := blk_frozen p03_ 10
                        have y11 := blk_frozen p03_ 11
                        have y12 := blk_frozen p03_ 12
                        have z0 : W4.cell? ⟨km, 0, none⟩ = some (.int .i64 (Hd.getH s).id) := (blk_cell bm3_ 0).trans rfl
                        have z1 : W4.cell? ⟨km, 1, none⟩ = some (.bool (Hd.getH s).qr) := (blk_cell bm3_ 1).trans rfl
                        have z2 : W4.cell? ⟨km, 2, none⟩ = some (.int .i64 (Hd.getH s).op) := (blk_cell bm3_ 2).trans rfl
                        have z3 : W4.cell? ⟨km, 3, none⟩ = some (.bool (Hd.getH s).aa) := (blk_cell bm3_ 3).trans rfl
                        have z4 : W4.cell? ⟨km, 4, none⟩ = some (.bool (Hd.getH s).tc) := (blk_cell bm3_ 4).trans rfl
                        have z5 : W4.cell? ⟨km, 5, none⟩ = some (.bool (Hd.getH s).rd) := (blk_cell bm3_ 5).trans rfl
                        have z6 : W4.cell? ⟨km, 6, none⟩ = some (.bool (Hd.getH s).ra) := (blk_cell bm3_ 6).trans rfl
                        have z7 : W4.cell? ⟨km, 7, none⟩ = some (.int .i64 (Hd.getH s).z) := (blk_cell bm3_ 7).trans rfl
                        have z8 : W4.cell? ⟨km, 8, none⟩ = some (.int .i64 (Hd.getH s).rc) := (blk_cell bm3_ 8).trans rfl
                        have z9 : W4.cell? ⟨km, 9, none⟩ = some (.slice A0 acc0.length c0) := (blk_cell bm3_ 9).trans rfl
                        have z10 : W4.cell? ⟨km, 10, none⟩ = some (.slice A1 acc1.length c1) := (blk_cell bm3_ 10).trans rfl
                        have z11 : W4.cell? ⟨km, 11, none⟩ = some (.slice A2 acc2.length c2) := (blk_cell bm3_ 11).trans rfl
                        have z12 : W4.cell? ⟨km, 12, none⟩ = some (.slice A3 acc3.length c3) := (blk_cell bm3_ 12).trans rfl
                        have hle0 := BB0.size
                        have hle1 := BB0_.size
                        have hle2 := BB1_.size
                        have hle3 := BB2_.size
                        go_wp2_with fail
                        have pF := putAll_blk 0 [.int .i64 (Hd.getH s).id, .bool (Hd.getH s).qr, .int .i64 (Hd.getH s).op, .bool (Hd.getH s).aa, .bool (Hd.getH s).tc, .bool (Hd.getH s).rd, .bool (Hd.getH s).ra, .int .i64 (Hd.getH s).z, .int .i64 (Hd.getH s).rc, .slice A0 acc0.length c0, .slice A1 acc1.length c1, .slice A2 acc2.length c2, .slice A3 acc3.length c3] #[.int .i64 (Hd.getH s).id, .bool (Hd.getH s).qr, .int .i64 (Hd.getH s).op, .bool (Hd.getH s).aa, .bool (Hd.getH s).tc, .bool (Hd.getH s).rd, .bool (Hd.getH s).ra, .int .i64 (Hd.getH s).z, .int .i64 (Hd.getH s).rc, .slice A0 acc0.length c0, .slice A1 acc1.length c1, .slice A2 acc2.length c2, .slice A3 acc3.length c3] p03_ (by simp [setAll])
                        have GF := putAll_grown (row := none) 0 [.int .i64 (Hd.getH s).id, .bool (Hd.getH s).qr, .int .i64 (Hd.getH s).op, .bool (Hd.getH s).aa, .bool (Hd.getH s).tc, .bool (Hd.getH s).rd, .bool (Hd.getH s).ra, .int .i64 (Hd.getH s).z, .int .i64 (Hd.getH s).rc, .slice A0 acc0.length c0, .slice A1 acc1.length c1, .slice A2 acc2.length c2, .slice A3 acc3.length c3] (grown_below BB3_ none) (Nat.le_refl _)
                        have o0 := putAll_own 0 [.int .i64 (Hd.getH s).id, .bool (Hd.getH s).qr, .int .i64 (Hd.getH s).op, .bool (Hd.getH s).aa, .bool (Hd.getH s).tc, .bool (Hd.getH s).rd, .bool (Hd.getH s).ra, .int .i64 (Hd.getH s).z, .int .i64 (Hd.getH s).rc, .slice A0 acc0.length c0, .slice A1 acc1.length c1, .slice A2 acc2.length c2, .slice A3 acc3.length c3] ow0 (own_ne ow0 p03_ (by decide))
                        have o1 := putAll_own 0 [.int .i64 (Hd.getH s).id, .bool (Hd.getH s).qr, .int .i64 (Hd.getH s).op, .bool (Hd.getH s).aa, .bool (Hd.getH s).tc, .bool (Hd.getH s).rd, .bool (Hd.getH s).ra, .int .i64 (Hd.getH s).z, .int .i64 (Hd.getH s).rc, .slice A0 acc0.length c0, .slice A1 acc1.length c1, .slice A2 acc2.length c2, .slice A3 acc3.length c3] ow1 (own_ne ow1 p03_ (by decide))
                        have o2 := putAll_own 0 [.int .i64 (Hd.getH s).id, .bool (Hd.getH s).qr, .int .i64 (Hd.getH s).op, .bool (Hd.getH s).aa, .bool (Hd.getH s).tc, .bool (Hd.getH s).rd, .bool (Hd.getH s).ra, .int .i64 (Hd.getH s).z, .int .i64 (Hd.getH s).rc, .slice A0 acc0.length c0, .slice A1 acc1.length c1, .slice A2 acc2.length c2, .slice A3 acc3.length c3] ow2 (own_ne ow2 p03_ (by decide))
                        have o3 := putAll_own 0 [.int .i64 (Hd.getH s).id, .bool (Hd.getH s).qr, .int .i64 (Hd.getH s).op, .bool (Hd.getH s).aa, .bool (Hd.getH s).tc, .bool (Hd.getH s).rd, .bool (Hd.getH s).ra, .int .i64 (Hd.getH s).z, .int .i64 (Hd.getH s).rc, .slice A0 acc0.length c0, .slice A1 acc1.length c1, .slice A2 acc2.length c2, .slice A3 acc3.length c3] ow3 (own_ne ow3 p03_ (by decide))
                        simp only [putAll] at pF GF o0 o1 o2 o3
                        have e0 := (blk_cell pF 0).trans rfl
                        have e1 := (blk_cell pF 1).trans rfl
                        have e2 := (blk_cell pF 2).trans rfl
                        have e3 := (blk_cell pF 3).trans rfl
                        have e4 := (blk_cell pF 4).trans rfl
                        have e5 := (blk_cell pF 5).trans rfl
                        have e6 := (blk_cell pF 6).trans rfl
                        have e7 := (blk_cell pF 7).trans rfl
                        have e8 := (blk_cell pF 8).trans rfl
                        have e9 := (blk_cell pF 9).trans rfl
                        have e10 := (blk_cell pF 10).trans rfl
                        have e11 := (blk_cell pF 11).trans rfl
                        have e12 := (blk_cell pF 12).trans rfl
                        refine bodyPost_ret (v := .tuple #[.agg #[.int .i64 (Hd.getH s).id, .bool (Hd.getH s).qr, .int .i64 (Hd.getH s).op, .bool (Hd.getH s).aa, .bool (Hd.getH s).tc, .bool (Hd.getH s).rd, .bool (Hd.getH s).ra, .int .i64 (Hd.getH s).z, .int .i64 (Hd.getH s).rc, .slice A0 acc0.length c0, .slice A1 acc1.length c1, .slice A2 acc2.length c2, .slice A3 acc3.length c3], .int .i64 0]) (by simp [results, Try.results25, go_sem, e0, e1, e2, e3, e4, e5, e6, e7, e8, e9, e10, e11, e12]) rfl ?_
                        refine ⟨_, _, _, _, rfl, own_lower o0 hle0, own_lower o1 hle1, own_lower o2 hle2, own_lower o3 hle3, ?k1, ?k2, ?k3, ⟨GF.os, GF.tape, GF.output, GF.size, fun k hk => GF.block k hk (by simp)⟩⟩
                        case k1 => exact fun k hk => ⟨fun q => by have a := lt1.out k hk; have b := bs2.out k q.symm; omega, fun q => by have a := lt1.out k hk; have b := bs3.out k q.symm; omega⟩
                        case k2 => exact fun k hk => ⟨fun q => by have a := lt1.out k q.symm; have b := bs2.out k hk; omega, fun q => by have a := lt2.out k hk; have b := bs3.out k q.symm; omega⟩
                        case k3 => exact fun k hk => ⟨fun q => by have a := lt1.out k q.symm; have b := bs3.out k hk; omega, fun q => by have a := lt2.out k q.symm; have b := bs3.out k hk; omega⟩
end Go.Proofs.Ytjklgdpffmaamaa.Wm

namespace Go.Proofs.Ytjklgdpffmaamaa.Wm
open Go.RowKit Go.PlainAid Go.Proofs.Ytjklgdpffmaamaa.Base Go.Proofs.Ytjklgdpffmaamaa.Oct Go.Proofs.Ytjklgdpffmaamaa.Nm Go.Proofs.Ytjklgdpffmaamaa.Wr Go.Proofs.Ytjklgdpffmaamaa.PCm Go.Proofs.Ytjklgdpffmaamaa.CompS Go.Proofs.Ytjklgdpffmaamaa.Pu
open Go.Proofs.YtjklgdpffmaamaaW.PrintWords (Ev bytesOf bytesOf_length LeO)
set_option linter.unusedVariables false
theorem st0_ok {hS : ByteArray} (h : hS.size = 12) : st0 hS = ⟨hS, fun _ => none, false⟩ := by
  unfold st0 rawSt
  rw [if_neg (by show ¬ 4096 < 0 + hS.size; omega)]
  rw [show (⟨#[]⟩ : ByteArray) ++ hS = hS from ByteArray.empty_append]
theorem st0_good {hS : ByteArray} (h : hS.size = 12) : Good (st0 hS) := by
  rw [st0_ok h]
  exact ⟨(fun r t k => by cases k), by show hS.size ≤ 4096; omega, rfl⟩
theorem putOk_parts {m : MsgV} (h : putOk m = true) : hOk m = true ∧ hStr m = m.h.putS m.qs.length m.an.length m.ns.length m.ar.length ∧ (m.qs.length ≤ 64 ∧ m.an.length ≤ 64 ∧ m.ns.length ≤ 64 ∧ m.ar.length ≤ 64) ∧ (∀ q ∈ m.qs, qMay q = true) ∧ (∀ r ∈ m.an, rMay r = true) ∧ (∀ r ∈ m.ns, rMay r = true) ∧ (∀ r ∈ m.ar, rMay r = true) := by
  unfold putOk at h
  simp only [Bool.and_eq_true] at h
  obtain ⟨h0, h1⟩ := h
  have hl := fits_len h1
  unfold fitsB at h1
  simp only [Bool.and_eq_true, List.all_eq_true] at h1
  obtain ⟨⟨⟨⟨_, a⟩, _, b⟩, _, c⟩, _, d⟩ := h1
  refine ⟨h0, ?_, hl, a, b, c, d⟩
  unfold hStr Hd.wroteS
  exact if_pos h0
structure Steps (m : MsgV) where
  g0 : Good (st0 (hStr m))
  gq : Good (m.qs.foldl qStep (st0 (hStr m)))
  ga : Good (m.an.foldl rSt (m.qs.foldl qStep (st0 (hStr m))))
  gn : Good (m.ns.foldl rSt (m.an.foldl rSt (m.qs.foldl qStep (st0 (hStr m)))))
  gr : Good (putEnd m)
theorem steps {m : MsgV} (hok : putOk m = true) (hl : (putEnd m).lg = false) : Steps m := by
  obtain ⟨h0, hs, _⟩ := putOk_parts hok
  have z : (hStr m).size = 12 := by rw [hs, Hd.putS_size]
  have l3 := foldR_lg m.ar _ hl
  have l2 := foldR_lg m.ns _ l3
  have l1 := foldR_lg m.an _ l2
  have G0 := st0_good z
  have G1 := foldQ_good m.qs _ (fun _ => G0) l1
  have G2 := foldR_good m.an _ (fun _ => G1) l2
  have G3 := foldR_good m.ns _ (fun _ => G2) l3
  exact ⟨G0, G1, G2, G3, foldR_good m.ar _ (fun _ => G3) hl⟩
/-- Reading what was written, whatever goes on behind it. -/
theorem get_put {m : MsgV} (hok : putOk m = true) (hl : (putEnd m).lg = false) (U : ByteArray) (hz : ((putEnd m).S ++ U).size ≤ 4096) :
    Ev (fun k => getV k ((putEnd m).S ++ U)) (if U.size = 0 then ⟨m.h, m.qs, m.an, m.ns, m.ar, 0⟩ else got0 700) := by
  obtain ⟨h0, hs, ⟨n1, n2, n3, n4⟩, q1, q2, q3, q4⟩ := putOk_parts hok
  have z : (hStr m).size = 12 := by rw [hs, Hd.putS_size]
  obtain ⟨G0, G1, G2, G3, G4⟩ := steps hok hl
  obtain ⟨V1, e1⟩ := foldQ_more m.qs (st0 (hStr m)) G1.lg
  obtain ⟨V2, e2⟩ := foldR_more m.an _ G2.lg
  obtain ⟨V3, e3⟩ := foldR_more m.ns _ G3.lg
  obtain ⟨V4, e4⟩ := foldR_more m.ar _ G4.lg
  have e4 : (putEnd m).S = (m.ns.foldl rSt (m.an.foldl rSt (m.qs.foldl qStep (st0 (hStr m))))).S ++ V4 := e4
  have s0 : (st0 (hStr m)).S = hStr m := by rw [st0_ok z]
  rw [s0] at e1
  generalize hT : (putEnd m).S ++ U = T at hz ⊢
  have eT : T = m.h.putS m.qs.length m.an.length m.ns.length m.ar.length ++ (V1 ++ (V2 ++ (V3 ++ (V4 ++ U)))) := by
    rw [← hT, e4, e3, e2, e1, hs]; simp only [ByteArray.append_assoc]
  have zT : 12 ≤ T.size := by rw [eT, ByteArray.size_append, Hd.putS_size]; omega
  obtain ⟨b0, b4, b6, b8, b10, _⟩ := Hd.back m.h _ _ _ _ (V1 ++ (V2 ++ (V3 ++ (V4 ++ U)))) h0
  rw [← eT, Hd.gotH_yes zT] at b0
  rw [← eT, Hd.gotC_yes zT] at b4 b6 b8 b10
  have zU : T.size = (putEnd m).S.size + U.size := by rw [← hT, ByteArray.size_append]
  unfold getV
  refine Ev.neg (by omega) (Ev.neg (by omega) ?_)
  rw [b4, b6, b8, b10]
  simp only [Int.toNat_natCast]
  have c1 : ∃ X, T = (m.qs.foldl qStep (st0 (hStr m))).S ++ X := ⟨V2 ++ (V3 ++ (V4 ++ U)), by rw [← hT, e4, e3, e2]; simp only [ByteArray.append_assoc]⟩
  have c2 : ∃ X, T = (m.an.foldl rSt (m.qs.foldl qStep (st0 (hStr m)))).S ++ X := ⟨V3 ++ (V4 ++ U), by rw [← hT, e4, e3]; simp only [ByteArray.append_assoc]⟩
  have c3 : ∃ X, T = (m.ns.foldl rSt (m.an.foldl rSt (m.qs.foldl qStep (st0 (hStr m))))).S ++ X := ⟨V4 ++ U, by rw [← hT, e4]; simp only [ByteArray.append_assoc]⟩
  have r1 := listQ_read (T := T) (by omega) n1 G0 q1 G1.lg c1
  rw [s0, z] at r1
  refine Ev.bind r1 ?_
  refine Ev.bind (listR_read (T := T) (by omega) n2 G1 q2 G2.lg c2) ?_
  refine Ev.bind (listR_read (T := T) (by omega) n3 G2 q3 G3.lg c3) ?_
  refine Ev.bind (listR_read (T := T) (by omega) n4 G3 q4 G4.lg ⟨U, hT.symm⟩) ?_
  dsimp only
  rw [show (List.foldl rSt (List.foldl rSt (List.foldl rSt (List.foldl qStep (st0 (hStr m)) m.qs) m.an) m.ns) m.ar) = putEnd m from rfl]
  by_cases hU : U.size = 0
  · rw [if_pos hU]
    refine Ev.neg (by simp; omega) (Ev.some _ fun _ => ?_)
    rw [b0]
  · rw [if_neg hU]
    exact Ev.pos (by simp; omega) (Ev.some _ fun _ => rfl)
theorem put_S {m : MsgV} (hok : putOk m = true) (hl : (putEnd m).lg = false) : putS m = (putEnd m).S ∧ putE m = 0 ∧ 12 ≤ (putEnd m).S.size ∧ (putEnd m).S.size ≤ 4096 := by
  unfold putS putE
  rw [if_pos hok, if_pos hok, if_neg (by rw [hl]; decide), if_neg (by rw [hl]; decide)]
  obtain ⟨h0, hs, _⟩ := putOk_parts hok
  have z : (hStr m).size = 12 := by rw [hs, Hd.putS_size]
  obtain ⟨G0, G1, G2, G3, G4⟩ := steps hok hl
  obtain ⟨V1, e1⟩ := foldQ_more m.qs (st0 (hStr m)) G1.lg
  obtain ⟨V2, e2⟩ := foldR_more m.an _ G2.lg
  obtain ⟨V3, e3⟩ := foldR_more m.ns _ G3.lg
  obtain ⟨V4, e4⟩ := foldR_more m.ar _ G4.lg
  have e4 : (putEnd m).S = (m.ns.foldl rSt (m.an.foldl rSt (m.qs.foldl qStep (st0 (hStr m))))).S ++ V4 := e4
  have s0 : (st0 (hStr m)).S = hStr m := by rw [st0_ok z]
  refine ⟨rfl, rfl, ?_, G4.size⟩
  rw [e4, e3, e2, e1, s0]
  simp only [ByteArray.size_append]
  omega
theorem put_err {m : MsgV} (h : ¬ (putOk m = true ∧ (putEnd m).lg = false)) : putS m = ⟨#[]⟩ ∧ (putE m = 700 ∧ putOk m = false ∨ putE m = 701 ∧ putOk m = true ∧ (putEnd m).lg = true) := by
  unfold putS putE
  by_cases hok : putOk m = true
  · have hl : (putEnd m).lg = true := by
      cases hl : (putEnd m).lg with
      | true => rfl
      | false => exact absurd ⟨hok, hl⟩ h
    rw [if_pos hok, if_pos hok, if_pos hl, if_pos hl]
    exact ⟨rfl, .inr ⟨rfl, hok, hl⟩⟩
  · rw [if_neg hok, if_neg hok]
    exact ⟨rfl, .inl ⟨rfl, by simpa using hok⟩⟩
end Go.Proofs.Ytjklgdpffmaamaa.Wm

namespace Go.Proofs.Ytjklgdpffmaamaa.Wm
open Go.RowKit Go.PlainAid Go.Proofs.Ytjklgdpffmaamaa.Base
open Go.Proofs.YtjklgdpffmaamaaW.PrintWords (ReadsRow add_field)
set_option linter.unusedVariables false
theorem qcells_of {α : Type} (f : α → Qn) {R : α → List Value → Prop} {w : World} {A : Option Addr} {l : List α} (h : ReadsRow R 3 w A l.length l) (hR : ∀ x cs, R x cs → cs = [.string (f x).name, .int .i64 (f x).type, .int .i64 (f x).cls]) : QCells w A (l.map f) := by
  rcases Nat.eq_zero_or_pos l.length with h0 | h0
  · exact .inl (by rw [List.length_map]; exact h0)
  · obtain ⟨ad, e, hc⟩ := h.2.2 h0
    refine .inr ⟨ad, e, fun j hj => ?_⟩
    rw [List.length_map] at hj
    obtain ⟨c, _, hr, hcell⟩ := hc j _ (List.getElem?_eq_getElem hj)
    obtain rfl := hR _ _ hr
    have eg : (l.map f).getD j zQ = f l[j] := by rw [List.getD_eq_getElem?_getD, List.getElem?_map, List.getElem?_eq_getElem hj]; rfl
    rw [eg]
    exact ⟨hcell 0 _ rfl, by rw [← add_field _ _ 1 (by omega)]; exact hcell 1 _ rfl, by rw [← add_field _ _ 2 (by omega)]; exact hcell 2 _ rfl⟩
theorem rcells_of {α : Type} (f : α → Rr) {R : α → List Value → Prop} {w : World} {A : Option Addr} {l : List α} (h : ReadsRow R 5 w A l.length l) (hR : ∀ x cs, R x cs → cs = [.string (f x).name, .int .i64 (f x).type, .int .i64 (f x).cls, .int .i64 (f x).ttl, .string (f x).data]) : RCells w A (l.map f) := by
  rcases Nat.eq_zero_or_pos l.length with h0 | h0
  · exact .inl (by rw [List.length_map]; exact h0)
  · obtain ⟨ad, e, hc⟩ := h.2.2 h0
    refine .inr ⟨ad, e, fun j hj => ?_⟩
    rw [List.length_map] at hj
    obtain ⟨c, _, hr, hcell⟩ := hc j _ (List.getElem?_eq_getElem hj)
    obtain rfl := hR _ _ hr
    have eg : (l.map f).getD j zR = f l[j] := by rw [List.getD_eq_getElem?_getD, List.getElem?_map, List.getElem?_eq_getElem hj]; rfl
    rw [eg]
    exact ⟨hcell 0 _ rfl, by rw [← add_field _ _ 1 (by omega)]; exact hcell 1 _ rfl, by rw [← add_field _ _ 2 (by omega)]; exact hcell 2 _ rfl, by rw [← add_field _ _ 3 (by omega)]; exact hcell 3 _ rfl, by rw [← add_field _ _ 4 (by omega)]; exact hcell 4 _ rfl⟩
def smallB (rs : List Rr) : Bool := rs.all fun r => decide (r.data.size ≤ 9223372036854775000)
theorem small_of {rs : List Rr} (h : smallB rs = true) : small rs := by
  intro r hr
  have := List.all_eq_true.1 h r hr
  simpa using this
/-- A message without its places. -/
def msgOf (h : Hd.Head) (qs : List Qn) (an ns ar : List Rr) : MsgV := ⟨h, none, 0, qs, none, 0, an, none, 0, ns, none, 0, ar⟩
def wirePutF (h : Hd.Head) (qs : List Qn) (an ns ar : List Rr) : Option (ByteArray × Int) :=
  if smallB an && smallB ns && smallB ar then some (putS (msgOf h qs an ns ar), putE (msgOf h qs an ns ar)) else none
end Go.Proofs.Ytjklgdpffmaamaa.Wm

namespace Go.Proofs.Ytjklgdpffmaamaa.Wm
open Go.RowKit Go.PlainAid Go.Proofs.Ytjklgdpffmaamaa.Base
open Go.Proofs.YtjklgdpffmaamaaW.PrintWords (LeO Kd Reps OwnRow)
set_option linter.unusedVariables false
theorem questV_mono (k : Nat) (s : ByteArray) (r : Rs) : LeO (questV k s r) (questV (k + 1) s r) := by
  unfold questV
  exact LeO.bind (PCm.comp_Name.mono _ _ _) (fun _ => LeO.refl _)
theorem recV_mono (k : Nat) (s : ByteArray) (r : Rs) : LeO (recV k s r) (recV (k + 1) s r) := by
  unfold recV
  exact LeO.bind (questV_mono _ _ _) (fun _ => LeO.bind (PCm.comp_Data.mono _ _ _ _ _) (fun _ => LeO.refl _))
theorem loopQ_mono (k : Nat) (s : ByteArray) : ∀ (n : Nat) (r : Rs) (acc : List Qn), LeO (loopQ k s n r acc) (loopQ (k + 1) s n r acc)
  | 0, _, _ => LeO.refl _
  | n + 1, r, acc => LeO.ite (LeO.refl _) (LeO.bind (questV_mono _ _ _) (fun x => loopQ_mono k s n x.2 _))
theorem loopR_mono (k : Nat) (s : ByteArray) : ∀ (n : Nat) (r : Rs) (acc : List Rr), LeO (loopR k s n r acc) (loopR (k + 1) s n r acc)
  | 0, _, _ => LeO.refl _
  | n + 1, r, acc => LeO.ite (LeO.refl _) (LeO.bind (recV_mono _ _ _) (fun x => loopR_mono k s n x.2 _))
theorem listQ_mono (k : Nat) (s : ByteArray) (n : Nat) (r : Rs) : LeO (listQ k s n r) (listQ (k + 1) s n r) := loopQ_mono _ _ _ _ _
theorem listR_mono (k : Nat) (s : ByteArray) (n : Nat) (r : Rs) : LeO (listR k s n r) (listR (k + 1) s n r) := loopR_mono _ _ _ _ _
theorem getV_mono (k : Nat) (s : ByteArray) : LeO (getV k s) (getV (k + 1) s) := by
  unfold getV
  exact LeO.ite (LeO.refl _) (LeO.ite (LeO.refl _) (LeO.bind (listQ_mono _ _ _ _) (fun _ => LeO.bind (listR_mono _ _ _ _) (fun _ => LeO.bind (listR_mono _ _ _ _) (fun _ => LeO.bind (listR_mono _ _ _ _) (fun _ => LeO.refl _))))))
def getF (k : Nat) (s : ByteArray) : Option Got := if s.size ≤ 9223372036854775000 then getV k s else none
theorem getF_mono (k : Nat) (s : ByteArray) : LeO (getF k s) (getF (k + 1) s) := LeO.ite (getV_mono k s) (LeO.refl _)
theorem reps_cons {α : Type} {R : α → List Value → Prop} {size : Nat} {ps : List α} {cs c : List Value} {p : α} (hp : R p c) (hc : c.length = size) (h : Reps R size ps cs) : Reps R size (p :: ps) (c ++ cs) := by
  refine ⟨by rw [List.length_append, h.1, hc, List.length_cons, Nat.add_mul, Nat.one_mul, Nat.add_comm], fun j q hq => ?_⟩
  cases j with
  | zero =>
    obtain rfl : p = q := by simpa using hq
    rw [Nat.zero_mul, List.drop_zero, ← hc, List.take_left']
    · exact hp
    · rfl
  | succ j =>
    have := h.2 j q (by simpa using hq)
    have e : (c ++ cs).drop ((j + 1) * size) = cs.drop (j * size) := by
      rw [Nat.add_mul, Nat.one_mul, Nat.add_comm, ← List.drop_drop, ← hc, List.drop_left']
      rfl
    rw [e]
    exact this
theorem qkd {α : Type} (d : Kd α) (e : Nat) (g : Qn → α) (hM : ∀ w base ok q, d.M w base ok (g q) (cellQ q).toList) (hsz : d.sz = 3) {w : World} {b : Nat} {ok : Nat → Prop} {v : Value} {qs : List Qn} (h : w.ownsRow b e 3 v qs.length (cellsQ qs)) (hok : ∀ k, v.ownBlock = some k → ok k) : Kd.R d e w b ok v (qs.map g) := by
  refine ⟨hok, cellsQ qs, by rw [hsz, List.length_map]; exact h, ?_⟩
  rw [hsz]
  clear h
  induction qs with
  | nil => exact Reps.none _ _
  | cons q qs ih => exact reps_cons (hM _ _ _ q) rfl ih
theorem rkd {α : Type} (d : Kd α) (e : Nat) (g : Rr → α) (hM : ∀ w base ok q, d.M w base ok (g q) (cellR q).toList) (hsz : d.sz = 5) {w : World} {b : Nat} {ok : Nat → Prop} {v : Value} {qs : List Rr} (h : w.ownsRow b e 5 v qs.length (cellsR qs)) (hok : ∀ k, v.ownBlock = some k → ok k) : Kd.R d e w b ok v (qs.map g) := by
  refine ⟨hok, cellsR qs, by rw [hsz, List.length_map]; exact h, ?_⟩
  rw [hsz]
  clear h
  induction qs with
  | nil => exact Reps.none _ _
  | cons q qs ih => exact reps_cons (hM _ _ _ q) rfl ih
end Go.Proofs.Ytjklgdpffmaamaa.Wm

namespace Go.Proofs.Ytjklgdpffmaamaa.Wm
open Go.RowKit Go.PlainAid Go.Proofs.Ytjklgdpffmaamaa.Base Go.Proofs.Ytjklgdpffmaamaa.Oct Go.Proofs.Ytjklgdpffmaamaa.Nm Go.Proofs.Ytjklgdpffmaamaa.Wr Go.Proofs.Ytjklgdpffmaamaa.PCm Go.Proofs.Ytjklgdpffmaamaa.CompS Go.Proofs.Ytjklgdpffmaamaa.Pu
open Go.Proofs.YtjklgdpffmaamaaW.PrintWords (Ev bytesOf bytesOf_length LeO)
set_option linter.unusedVariables false
/-- What was read: an error, or a message that may be written. -/
def Tells (s : ByteArray) (g : Got) : Prop :=
  (g = got0 (if 4096 < s.size then 701 else 700)) ∨
  (g.e = 0 ∧ s.size ≤ 4096 ∧ putOk (msgOf g.h g.qs g.an g.ns g.ar) = true ∧ ∀ U : ByteArray, 0 < U.size → (s ++ U).size ≤ 4096 → Ev (fun k => getV k (s ++ U)) (got0 700))
theorem getV_cases (s : ByteArray) : ∃ g : Got, Ev (fun k => getV k s) g ∧ Tells s g := by
  by_cases h4 : 4096 < s.size
  · exact ⟨got0 701, Ev.pos h4 (Ev.now _), .inl (by rw [if_pos h4])⟩
  by_cases h12 : s.size < 12
  · exact ⟨got0 700, Ev.neg h4 (Ev.pos h12 (Ev.now _)), .inl (by rw [if_neg h4])⟩
  have hS : s.size ≤ 16000 := by omega
  have bad : Ev (fun k => getV k s) (got0 700) → ∃ g : Got, Ev (fun k => getV k s) g ∧ Tells s g := fun h => ⟨_, h, .inl (by rw [if_neg h4])⟩
  have d4 := be2_bd s 4
  have d6 := be2_bd s 6
  have d8 := be2_bd s 8
  have d10 := be2_bd s 10
  rcases listQ_cases hS (be2 s 4).toNat 12 (by omega) with ⟨o, j, h⟩ | ⟨oq, x1, ho1, hn1, hm1, hl1, h1⟩
  · refine bad (Ev.neg h4 (Ev.neg h12 (Ev.bind h ?_)))
    exact Ev.bind (Ev.some _ fun k => listR_badstart _ _) (Ev.bind (Ev.some _ fun k => listR_badstart _ _) (Ev.bind (Ev.some _ fun k => listR_badstart _ _) (Ev.pos rfl (Ev.now _))))
  have k1 := h1 ⟨#[]⟩ (by rw [app_nil]; exact hS)
  rw [app_nil] at k1
  rcases listR_cases hS (be2 s 6).toNat x1 hl1 with ⟨o, j, h⟩ | ⟨oa, x2, ho2, hn2, hm2, hl2, h2⟩
  · refine bad (Ev.neg h4 (Ev.neg h12 (Ev.bind k1 (Ev.bind h ?_))))
    exact Ev.bind (Ev.some _ fun k => listR_badstart _ _) (Ev.bind (Ev.some _ fun k => listR_badstart _ _) (Ev.pos rfl (Ev.now _)))
  have k2 := h2 ⟨#[]⟩ (by rw [app_nil]; exact hS)
  rw [app_nil] at k2
  rcases listR_cases hS (be2 s 8).toNat x2 hl2 with ⟨o, j, h⟩ | ⟨on, x3, ho3, hn3, hm3, hl3, h3⟩
  · refine bad (Ev.neg h4 (Ev.neg h12 (Ev.bind k1 (Ev.bind k2 (Ev.bind h ?_)))))
    exact Ev.bind (Ev.some _ fun k => listR_badstart _ _) (Ev.pos rfl (Ev.now _))
  have k3 := h3 ⟨#[]⟩ (by rw [app_nil]; exact hS)
  rw [app_nil] at k3
  rcases listR_cases hS (be2 s 10).toNat x3 hl3 with ⟨o, j, h⟩ | ⟨orr, x4, ho4, hn4, hm4, hl4, h4'⟩
  · refine bad (Ev.neg h4 (Ev.neg h12 (Ev.bind k1 (Ev.bind k2 (Ev.bind k3 (Ev.bind h ?_))))))
    exact Ev.pos rfl (Ev.now _)
  have k4 := h4' ⟨#[]⟩ (by rw [app_nil]; exact hS)
  rw [app_nil] at k4
  by_cases hx : x4 = s.size
  · refine ⟨⟨Hd.getH s, oq, oa, on, orr, 0⟩, Ev.neg h4 (Ev.neg h12 (Ev.bind k1 (Ev.bind k2 (Ev.bind k3 (Ev.bind k4 (Ev.neg (by simp; omega) (Ev.now _))))))), .inr ⟨rfl, by omega, ?_, fun U hU hz => ?_⟩⟩
    · unfold putOk hOk
      rw [Bool.and_eq_true]
      constructor
      · have := Hd.getH_may s
        show Hd.mayB (Hd.getH s) (oq.length : Int) (oa.length : Int) (on.length : Int) (orr.length : Int) = true
        rw [show (oq.length : Int) = be2 s 4 by omega, show (oa.length : Int) = be2 s 6 by omega, show (on.length : Int) = be2 s 8 by omega, show (orr.length : Int) = be2 s 10 by omega]
        exact this
      · show fitsB oq oa on orr = true
        unfold fitsB
        simp only [Bool.and_eq_true, List.all_eq_true, decide_eq_true_eq]
        exact ⟨⟨⟨⟨by omega, hm1⟩, by omega, hm2⟩, by omega, hm3⟩, by omega, hm4⟩
    · have zz : (s ++ U).size = s.size + U.size := ByteArray.size_append
      have z' : (s ++ U).size ≤ 16000 := by omega
      refine Ev.neg (by omega) (Ev.neg (by omega) ?_)
      rw [Hd.be2_left _ _ _ (by omega), Hd.be2_left _ _ _ (by omega), Hd.be2_left _ _ _ (by omega), Hd.be2_left _ _ _ (by omega)]
      exact Ev.bind (h1 U z') (Ev.bind (h2 U z') (Ev.bind (h3 U z') (Ev.bind (h4' U z') (Ev.pos (by simp; omega) (Ev.now _)))))
  · exact bad (Ev.neg h4 (Ev.neg h12 (Ev.bind k1 (Ev.bind k2 (Ev.bind k3 (Ev.bind k4 (Ev.pos (by simp; omega) (Ev.now _))))))))
end Go.Proofs.Ytjklgdpffmaamaa.Wm

namespace Go.Proofs.Ytjklgdpffmaamaa.Wm
open Go.RowKit Go.PlainAid Go.Proofs.Ytjklgdpffmaamaa.Base Go.Proofs.Ytjklgdpffmaamaa.Oct Go.Proofs.Ytjklgdpffmaamaa.Nm Go.Proofs.Ytjklgdpffmaamaa.Wr Go.Proofs.Ytjklgdpffmaamaa.CompS Go.Proofs.Ytjklgdpffmaamaa.Pu
open Go.Proofs.Ytjklgdpffmaamaa.PCm (comp_Name.f comp_Name.l0 comp_Data.f comp_names.f comp_names.l0 comp_shape.f)
open Go.Proofs.Ytjklgdpffmaamaa.PRf (wimpleref1_Num.f wimpleref4_Name.f wimpleref4_Data.f wimpleref4_question.f wimpleref4_record.f)
open Go.Proofs.YtjklgdpffmaamaaW.PrintWords (Ev bytesOf bytesOf_length LeO)
set_option linter.unusedVariables false
theorem rn_any {s : ByteArray} (hs : s.size ≤ 1000000) (i : Nat) : ∃ v, Ev (fun k => wimpleref1_Num.f k s (i : Int) 2) v := by
  by_cases h : i + 2 ≤ s.size
  · exact ⟨_, rnum2 hs h⟩
  · exact ⟨_, rn_cut hs (by decide) (by decide) (by omega)⟩
theorem quest_both {S : ByteArray} (hS : S.size ≤ 1000000) (i : Nat) : (∃ (q : Qn) (j : Nat) (x : ByteArray × Int × Int × Int × Bool), Ev (fun k => questV k S ⟨(i : Int), false⟩) (q, ⟨(j : Int), true⟩) ∧ Ev (fun k => wimpleref4_question.f k S (i : Int)) x ∧ x.2.2.2.2 = false) ∨
    ∃ (q : Qn) (nx : Nat), nx ≤ S.size ∧ Ev (fun k => questV k S ⟨(i : Int), false⟩) (q, ⟨(nx : Int), false⟩) ∧ Ev (fun k => wimpleref4_question.f k S (i : Int)) (q.name, q.type, q.cls, (nx : Int), true) := by
  rcases name_both hS i with ⟨k1, k2⟩ | ⟨r, nx, hr, h1, h2, k1, k2⟩
  · refine .inl ⟨zQ, i, ((⟨#[]⟩ : ByteArray), 0, 0, 0, false), ?_, ?_, rfl⟩
    · unfold questV
      exact Ev.bind k1 (Ev.pos (by simp) (Ev.now _))
    · exact Ev.bind k2 (Ev.neg (by show ¬ ((500 : Int) = 0); decide) (Ev.now _))
  · by_cases c4 : nx + 4 ≤ S.size
    · have n1 := rnum2 (s := S) (i := nx) hS (by omega)
      have n2 := rnum2 (s := S) (i := nx + 2) hS (by omega)
      have hq := quest_ev k1 c4
      have hrq : Ev (fun k => wimpleref4_question.f k S (i : Int)) (r, be2 S nx, be2 S (nx + 2), ((nx + 2 + 2 : Nat) : Int), decide (be2 S nx > 0)) := by
        refine Ev.bind k2 (Ev.pos rfl (Ev.bind n1 (Ev.bind n2 (Ev.pos rfl (Ev.pos rfl (Ev.now _))))))
      have b1 := be2_bd S nx
      by_cases ht : be2 S nx = 0
      · rw [show (be2 S nx == 0) = true by simpa using ht] at hq
        exact .inl ⟨_, _, _, hq, hrq, decide_eq_false (by omega)⟩
      · rw [show (be2 S nx == 0) = false by simpa using ht] at hq
        rw [decide_eq_true (by omega)] at hrq
        exact .inr ⟨_, nx + 4, c4, hq, hrq⟩
    · by_cases c2 : nx + 2 ≤ S.size
      · refine .inl ⟨⟨r, be2 S nx, 0⟩, nx + 2, (r, be2 S nx, 0, 0, false), ?_, ?_, rfl⟩
        · unfold questV
          refine Ev.bind k1 (Ev.neg (by simp) (Ev.some _ fun _ => ?_))
          dsimp only
          rw [num16_ok c2]
          dsimp only
          rw [num16_no (i := nx + 2) (by omega)]
          rfl
        · exact Ev.bind k2 (Ev.pos rfl (Ev.bind (rnum2 hS c2) (Ev.bind (rn_cut (i := nx + 2) hS (by decide) (by decide) (by omega)) (Ev.pos rfl (Ev.neg (by show ¬ ((300 : Int) = 0); decide) (Ev.now _))))))
      · obtain ⟨v, hv⟩ := rn_any hS 0
        refine .inl ⟨⟨r, 0, 0⟩, nx, (r, 0, v.1, v.2.1, false), ?_, ?_, rfl⟩
        · unfold questV
          refine Ev.bind k1 (Ev.neg (by simp) (Ev.some _ fun _ => ?_))
          dsimp only
          rw [num16_no c2]
          dsimp only
          rw [num_bad (.inl rfl)]
          rfl
        · exact Ev.bind k2 (Ev.pos rfl (Ev.bind (rn_cut (i := nx) hS (by decide) (by decide) (by omega)) (Ev.bind hv (Ev.neg (by show ¬ ((300 : Int) = 0); decide) (Ev.now _)))))
abbrev nor : ByteArray × Int × Int × Int × ByteArray × Int × Bool := ((⟨#[]⟩ : ByteArray), 0, 0, 0, (⟨#[]⟩ : ByteArray), 0, false)
theorem rec_both {S : ByteArray} (hS : S.size ≤ 16000) (i : Nat) : (∃ (q : Rr) (j : Nat) (x : ByteArray × Int × Int × Int × ByteArray × Int × Bool), Ev (fun k => recV k S ⟨(i : Int), false⟩) (q, ⟨(j : Int), true⟩) ∧ Ev (fun k => wimpleref4_record.f k S (i : Int)) x ∧ x.2.2.2.2.2.2 = false) ∨
    ∃ (q : Rr) (nx : Nat), nx ≤ S.size ∧ Ev (fun k => recV k S ⟨(i : Int), false⟩) (q, ⟨(nx : Int), false⟩) ∧ Ev (fun k => wimpleref4_record.f k S (i : Int)) (q.name, q.type, q.cls, q.ttl, q.data, (nx : Int), true) := by
  have hS' : S.size ≤ 1000000 := by omega
  have any0 : ∀ (j : Nat) (t : Int), ∃ y, Ev (fun k => comp_Data.f k S (j : Int) 0 t) y := fun j t => by
    obtain ⟨d, e, h, _⟩ := data_both hS' j 0 t
    exact ⟨_, h⟩
  rcases quest_both hS' i with ⟨q, j, x, k1, k2, hx⟩ | ⟨q, nx, hl, k1, k2⟩
  · have bad : ∃ (q : Rr) (j : Nat), Ev (fun k => recV k S ⟨(i : Int), false⟩) (q, ⟨(j : Int), true⟩) := by
      have e1 : recN1 S (q, ⟨(j : Int), true⟩) = (0, ⟨(j : Int), true⟩) := num_bad (.inl rfl)
      have e2 : recN2 S (q, ⟨(j : Int), true⟩) = (0, ⟨(j : Int), true⟩) := by
        unfold recN2
        rw [e1]
        exact num_bad (.inl rfl)
      obtain ⟨y, hy⟩ := any0 j q.type
      refine ⟨zR, j, ?_⟩
      unfold recV
      refine Ev.bind k1 ?_
      simp only [e1, e2]
      exact Ev.bind hy (Ev.pos (by simp) (Ev.now _))
    obtain ⟨r, j', kb⟩ := bad
    exact .inl ⟨r, j', nor, kb, Ev.bind k2 (Ev.neg (by rw [hx]; decide) (Ev.now _)), rfl⟩
  · by_cases c8 : nx + 4 ≤ S.size
    · have e1 : recN1 S (q, ⟨(nx : Int), false⟩) = (be4 S nx, ⟨((nx + 4 : Nat) : Int), false⟩) := num32_ok c8
      have n1 := rnum4 (s := S) (i := nx) hS' c8
      by_cases c10 : nx + 4 + 2 ≤ S.size
      · have n2 := rnum2 (s := S) (i := nx + 4) hS' c10
        have b2 := be2_bd S (nx + 4)
        obtain ⟨z, hz⟩ : ∃ z : Nat, be2 S (nx + 4) = (z : Int) := ⟨(be2 S (nx + 4)).toNat, by omega⟩
        have e2 : recN2 S (q, ⟨(nx : Int), false⟩) = ((z : Int), ⟨((nx + 4 + 2 : Nat) : Int), false⟩) := by
          unfold recN2
          rw [e1]
          dsimp only
          rw [num16_ok c10, hz]
        rw [hz] at n2
        obtain ⟨d, e, kd, rd⟩ := data_both hS' (nx + 4 + 2) z q.type
        have hr : Ev (fun k => wimpleref4_record.f k S (i : Int)) (q.name, q.type, q.cls, be4 S nx, d, wrap64 (((nx + 4 + 2 : Nat) : Int) + (z : Int)), (e == 0)) :=
          Ev.bind k2 (Ev.pos rfl (Ev.bind n1 (Ev.bind n2 (Ev.pos rfl (Ev.pos rfl (Ev.bind rd (Ev.now _)))))))
        by_cases he : e = 0
        · subst he
          have hb : nx + 4 + 2 + z ≤ S.size := by
            by_cases h : nx + 4 + 2 + z ≤ S.size
            · exact h
            · have := Ev.uniq kd (data_out hS' (by omega) (by omega) (show (S.size : Int) < ((nx + 4 + 2 : Nat) : Int) + (z : Int) by omega))
              exact absurd (congrArg Prod.snd this) (show ¬ (0 : Int) = 500 by decide)
          rw [Pu.w64 (by omega) (by omega), show ((nx + 4 + 2 : Nat) : Int) + (z : Int) = ((nx + 4 + 2 + z : Nat) : Int) by omega] at hr
          refine .inr ⟨⟨q.name, q.type, q.cls, be4 S nx, d⟩, nx + 4 + 2 + z, hb, ?_, hr⟩
          unfold recV
          refine Ev.bind k1 ?_
          simp only [e1, e2]
          refine Ev.bind kd (Ev.neg (by simp) ?_)
          rw [Pu.w64 (by omega) (by omega), show ((nx + 4 + 2 : Nat) : Int) + (z : Int) = ((nx + 4 + 2 + z : Nat) : Int) by omega]
          exact Ev.now _
        · refine .inl ⟨zR, nx + 4 + 2, _, ?_, hr, by simpa using he⟩
          unfold recV
          refine Ev.bind k1 ?_
          simp only [e1, e2]
          exact Ev.bind kd (Ev.pos (by simpa using he) (Ev.now _))
      · have e2 : recN2 S (q, ⟨(nx : Int), false⟩) = (0, ⟨((nx + 4 : Nat) : Int), true⟩) := by
          unfold recN2
          rw [e1]
          exact num16_no c10 false
        obtain ⟨y, hy⟩ := any0 (nx + 4) q.type
        refine .inl ⟨zR, nx + 4, nor, ?_, ?_, rfl⟩
        · unfold recV
          refine Ev.bind k1 ?_
          simp only [e1, e2]
          exact Ev.bind hy (Ev.pos (by simp) (Ev.now _))
        · exact Ev.bind k2 (Ev.pos rfl (Ev.bind n1 (Ev.bind (rn_cut (i := nx + 4) hS' (by decide) (by decide) (by omega)) (Ev.pos rfl (Ev.neg (by show ¬ ((300 : Int) = 0); decide) (Ev.now _))))))
    · have e1 : recN1 S (q, ⟨(nx : Int), false⟩) = (0, ⟨(nx : Int), true⟩) := num32_no c8 false
      have e2 : recN2 S (q, ⟨(nx : Int), false⟩) = (0, ⟨(nx : Int), true⟩) := by
        unfold recN2
        rw [e1]
        exact num_bad (.inl rfl)
      obtain ⟨y, hy⟩ := any0 nx q.type
      obtain ⟨v, hv⟩ := rn_any hS' 0
      refine .inl ⟨zR, nx, nor, ?_, ?_, rfl⟩
      · unfold recV
        refine Ev.bind k1 ?_
        simp only [e1, e2]
        exact Ev.bind hy (Ev.pos (by simp) (Ev.now _))
      · exact Ev.bind k2 (Ev.pos rfl (Ev.bind (rn_cut (i := nx) hS' (by decide) (by decide) (by omega)) (Ev.bind hv (Ev.neg (by show ¬ ((300 : Int) = 0); decide) (Ev.now _)))))
/-! ### Lists -/
theorem loopQ_both {S : ByteArray} (hS : S.size ≤ 16000) : ∀ (n i : Nat) (acc : List Qn), i ≤ S.size → (∃ (o : List Qn) (j : Nat), Ev (fun k => loopQ k S n ⟨(i : Int), false⟩ acc) (o, ⟨(j : Int), true⟩) ∧ Ev (fun k => rQ k S n (i : Int) acc) none) ∨
    ∃ (o : List Qn) (nx : Nat), nx ≤ S.size ∧ Ev (fun k => loopQ k S n ⟨(i : Int), false⟩ acc) (o, ⟨(nx : Int), false⟩) ∧ Ev (fun k => rQ k S n (i : Int) acc) (some (o, (nx : Int))) := by
  intro n
  induction n with
  | zero => intro i acc hi; exact .inr ⟨acc, i, hi, Ev.now _, Ev.now _⟩
  | succ n ih =>
    intro i acc hi
    rcases quest_both (S := S) (by omega) i with ⟨q, j, x, h, k, hx⟩ | ⟨q, nx, hl, h, k⟩
    · refine .inl ⟨acc ++ [q], j, ?_, Ev.bind k (Ev.neg (by rw [hx]; decide) (Ev.now _))⟩
      show Ev (fun k => if (false : Bool) = true then _ else _) _
      exact Ev.neg (by decide) (Ev.bind h (Ev.some _ fun k => loopQ_bad n _ rfl))
    · rcases ih nx (acc ++ [q]) hl with ⟨o, j, a, b⟩ | ⟨o, nx2, hl2, a, b⟩
      · refine .inl ⟨o, j, ?_, Ev.bind k (Ev.pos rfl b)⟩
        show Ev (fun k => if (false : Bool) = true then _ else _) _
        exact Ev.neg (by decide) (Ev.bind h a)
      · refine .inr ⟨o, nx2, hl2, ?_, Ev.bind k (Ev.pos rfl b)⟩
        show Ev (fun k => if (false : Bool) = true then _ else _) _
        exact Ev.neg (by decide) (Ev.bind h a)
theorem loopR_both {S : ByteArray} (hS : S.size ≤ 16000) : ∀ (n i : Nat) (acc : List Rr), i ≤ S.size → (∃ (o : List Rr) (j : Nat), Ev (fun k => loopR k S n ⟨(i : Int), false⟩ acc) (o, ⟨(j : Int), true⟩) ∧ Ev (fun k => rR k S n (i : Int) acc) none) ∨
    ∃ (o : List Rr) (nx : Nat), nx ≤ S.size ∧ Ev (fun k => loopR k S n ⟨(i : Int), false⟩ acc) (o, ⟨(nx : Int), false⟩) ∧ Ev (fun k => rR k S n (i : Int) acc) (some (o, (nx : Int))) := by
  intro n
  induction n with
  | zero => intro i acc hi; exact .inr ⟨acc, i, hi, Ev.now _, Ev.now _⟩
  | succ n ih =>
    intro i acc hi
    rcases rec_both (S := S) hS i with ⟨q, j, x, h, k, hx⟩ | ⟨q, nx, hl, h, k⟩
    · refine .inl ⟨acc ++ [q], j, ?_, Ev.bind k (Ev.neg (by rw [hx]; decide) (Ev.now _))⟩
      show Ev (fun k => if (false : Bool) = true then _ else _) _
      exact Ev.neg (by decide) (Ev.bind h (Ev.some _ fun k => loopR_bad n _ rfl))
    · rcases ih nx (acc ++ [q]) hl with ⟨o, j, a, b⟩ | ⟨o, nx2, hl2, a, b⟩
      · refine .inl ⟨o, j, ?_, Ev.bind k (Ev.pos rfl b)⟩
        show Ev (fun k => if (false : Bool) = true then _ else _) _
        exact Ev.neg (by decide) (Ev.bind h a)
      · refine .inr ⟨o, nx2, hl2, ?_, Ev.bind k (Ev.pos rfl b)⟩
        show Ev (fun k => if (false : Bool) = true then _ else _) _
        exact Ev.neg (by decide) (Ev.bind h a)
/-- So many questions, records: none, in the document's way: too many, or one was none. -/
theorem listQ_both {S : ByteArray} (hS : S.size ≤ 16000) (x : Int) (hx : 0 ≤ x) (i : Nat) (hi : i ≤ S.size) :
    (∃ (o : List Qn) (j : Nat), Ev (fun k => listQ k S x.toNat ⟨(i : Int), false⟩) (o, ⟨(j : Int), true⟩) ∧ ∀ f : Nat → List Qn × Int → Option Got, Ev (fun k => many4 x (andThen (rQ k S x.toNat (i : Int) []) (f k))) (got0 700)) ∨
    ∃ (o : List Qn) (nx : Nat), nx ≤ S.size ∧ Ev (fun k => listQ k S x.toNat ⟨(i : Int), false⟩) (o, ⟨(nx : Int), false⟩) ∧ ∀ (f : Nat → List Qn × Int → Option Got) (r : Got), Ev (fun k => f k (o, (nx : Int))) r → Ev (fun k => many4 x (andThen (rQ k S x.toNat (i : Int) []) (f k))) r := by
  by_cases hn : 64 < x
  · refine .inl ⟨[], i, ?_, fun f => Ev.pos hn (Ev.now _)⟩
    refine Ev.some _ fun k => ?_
    unfold listQ
    rw [show (false || decide (64 < x.toNat)) = true by simp; omega]
    exact loopQ_bad _ _ rfl
  · have e : ∀ k, listQ k S x.toNat ⟨(i : Int), false⟩ = loopQ k S x.toNat ⟨(i : Int), false⟩ [] := fun k => by
      unfold listQ
      rw [show (false || decide (64 < x.toNat)) = false by simp; omega]
    simp only [e]
    rcases loopQ_both hS x.toNat i [] hi with ⟨o, j, a, b⟩ | ⟨o, nx, hl, a, b⟩
    · refine .inl ⟨o, j, a, fun f => Ev.neg hn ?_⟩
      exact Ev.bind b (Ev.now _)
    · refine .inr ⟨o, nx, hl, a, fun f r hr => Ev.neg hn ?_⟩
      exact Ev.bind b hr
theorem listR_both {S : ByteArray} (hS : S.size ≤ 16000) (x : Int) (hx : 0 ≤ x) (i : Nat) (hi : i ≤ S.size) :
    (∃ (o : List Rr) (j : Nat), Ev (fun k => listR k S x.toNat ⟨(i : Int), false⟩) (o, ⟨(j : Int), true⟩) ∧ ∀ f : Nat → List Rr × Int → Option Got, Ev (fun k => many4 x (andThen (rR k S x.toNat (i : Int) []) (f k))) (got0 700)) ∨
    ∃ (o : List Rr) (nx : Nat), nx ≤ S.size ∧ Ev (fun k => listR k S x.toNat ⟨(i : Int), false⟩) (o, ⟨(nx : Int), false⟩) ∧ ∀ (f : Nat → List Rr × Int → Option Got) (r : Got), Ev (fun k => f k (o, (nx : Int))) r → Ev (fun k => many4 x (andThen (rR k S x.toNat (i : Int) []) (f k))) r := by
  by_cases hn : 64 < x
  · refine .inl ⟨[], i, ?_, fun f => Ev.pos hn (Ev.now _)⟩
    refine Ev.some _ fun k => ?_
    unfold listR
    rw [show (false || decide (64 < x.toNat)) = true by simp; omega]
    exact loopR_bad _ _ rfl
  · have e : ∀ k, listR k S x.toNat ⟨(i : Int), false⟩ = loopR k S x.toNat ⟨(i : Int), false⟩ [] := fun k => by
      unfold listR
      rw [show (false || decide (64 < x.toNat)) = false by simp; omega]
    simp only [e]
    rcases loopR_both hS x.toNat i [] hi with ⟨o, j, a, b⟩ | ⟨o, nx, hl, a, b⟩
    · refine .inl ⟨o, j, a, fun f => Ev.neg hn ?_⟩
      exact Ev.bind b (Ev.now _)
    · refine .inr ⟨o, nx, hl, a, fun f r hr => Ev.neg hn ?_⟩
      exact Ev.bind b hr
/-- Any bytes: the program and the document say the same. -/
theorem get_both (s : ByteArray) : ∃ g : Got, Ev (fun k => getV k s) g ∧ Ev (fun k => rGetV k s) g := by
  by_cases h4 : 4096 < s.size
  · exact ⟨got0 701, Ev.pos h4 (Ev.now _), Ev.pos h4 (Ev.now _)⟩
  by_cases h12 : s.size < 12
  · exact ⟨got0 700, Ev.neg h4 (Ev.pos h12 (Ev.now _)), Ev.neg h4 (Ev.pos h12 (Ev.now _))⟩
  have hS : s.size ≤ 16000 := by omega
  have d4 := (be2_bd s 4).1
  have d6 := (be2_bd s 6).1
  have d8 := (be2_bd s 8).1
  have d10 := (be2_bd s 10).1
  rcases listQ_both hS (be2 s 4) d4 12 (by omega) with ⟨o, j, h, k⟩ | ⟨oq, x1, hl1, h1, k1⟩
  · refine ⟨got0 700, Ev.neg h4 (Ev.neg h12 (Ev.bind h ?_)), Ev.neg h4 (Ev.neg h12 (k _))⟩
    exact Ev.bind (Ev.some _ fun k => listR_badstart _ _) (Ev.bind (Ev.some _ fun k => listR_badstart _ _) (Ev.bind (Ev.some _ fun k => listR_badstart _ _) (Ev.pos rfl (Ev.now _))))
  rcases listR_both hS (be2 s 6) d6 x1 hl1 with ⟨o, j, h, k⟩ | ⟨oa, x2, hl2, h2, k2⟩
  · refine ⟨got0 700, Ev.neg h4 (Ev.neg h12 (Ev.bind h1 (Ev.bind h ?_))), Ev.neg h4 (Ev.neg h12 (k1 _ _ (k _)))⟩
    exact Ev.bind (Ev.some _ fun k => listR_badstart _ _) (Ev.bind (Ev.some _ fun k => listR_badstart _ _) (Ev.pos rfl (Ev.now _)))
  rcases listR_both hS (be2 s 8) d8 x2 hl2 with ⟨o, j, h, k⟩ | ⟨on, x3, hl3, h3, k3⟩
  · refine ⟨got0 700, Ev.neg h4 (Ev.neg h12 (Ev.bind h1 (Ev.bind h2 (Ev.bind h ?_)))), Ev.neg h4 (Ev.neg h12 (k1 _ _ (k2 _ _ (k _))))⟩
    exact Ev.bind (Ev.some _ fun k => listR_badstart _ _) (Ev.pos rfl (Ev.now _))
  rcases listR_both hS (be2 s 10) d10 x3 hl3 with ⟨o, j, h, k⟩ | ⟨orr, x4, hl4, h4', k4⟩
  · refine ⟨got0 700, Ev.neg h4 (Ev.neg h12 (Ev.bind h1 (Ev.bind h2 (Ev.bind h3 (Ev.bind h ?_))))), Ev.neg h4 (Ev.neg h12 (k1 _ _ (k2 _ _ (k3 _ _ (k _)))))⟩
    exact Ev.pos rfl (Ev.now _)
  by_cases hx : x4 = s.size
  · exact ⟨⟨Hd.getH s, oq, oa, on, orr, 0⟩, Ev.neg h4 (Ev.neg h12 (Ev.bind h1 (Ev.bind h2 (Ev.bind h3 (Ev.bind h4' (Ev.neg (by simp; omega) (Ev.now _))))))),
      Ev.neg h4 (Ev.neg h12 (k1 _ _ (k2 _ _ (k3 _ _ (k4 _ _ (Ev.neg (by simp; omega) (Ev.now _)))))))⟩
  · exact ⟨got0 700, Ev.neg h4 (Ev.neg h12 (Ev.bind h1 (Ev.bind h2 (Ev.bind h3 (Ev.bind h4' (Ev.pos (by simp; omega) (Ev.now _))))))),
      Ev.neg h4 (Ev.neg h12 (k1 _ _ (k2 _ _ (k3 _ _ (k4 _ _ (Ev.pos (by simp; omega) (Ev.now _)))))))⟩
/-- What the program reads, the document reads. -/
theorem rget_of {s : ByteArray} {g : Got} (h : Ev (fun k => getV k s) g) : Ev (fun k => rGetV k s) g := by
  obtain ⟨g', a, b⟩ := get_both s
  rw [Ev.uniq h a]
  exact b
end Go.Proofs.Ytjklgdpffmaamaa.Wm

namespace Go.Proofs.Ytjklgdpffmaamaa.PRm
open Go.RowKit Go.Proofs.YtjklgdpffmaamaaW.PrintWords Go.Proofs.YtjklgdpffmaamaaW.PrintLast Go.Proofs.YtjklgdpffmaamaaW.PrintMore
attribute [local go_sem] max2_int min2_int max_two min_two max_three min_three max_four min_four   -- for this text's walks alone
set_option linter.unusedVariables false
set_option linter.unusedSimpArgs false

def errW : Option Int → Value
  | none => .nilIface
  | some c => .iface 0 (.int .i64 c)
theorem errW_none : errW none = .nilIface := rfl
theorem errW_some (c : Int) : errW (some c) = .iface 0 (.int .i64 c) := rfl

-- the values' own types

end Go.Proofs.Ytjklgdpffmaamaa.PRm

namespace Go.Proofs.Ytjklgdpffmaamaa.PRm
open Go.RowKit Go.Proofs.YtjklgdpffmaamaaW.PrintWords Go.Proofs.YtjklgdpffmaamaaW.PrintLast Go.Proofs.YtjklgdpffmaamaaW.PrintMore
attribute [local go_sem] max2_int min2_int max_two min_two max_three min_three max_four min_four   -- for this text's walks alone
set_option linter.unusedVariables false
set_option linter.unusedSimpArgs false

/-! ### wimpleref1_May: function 32 -/
def wimpleref1_May.f (a0 : ByteArray) : Option (Bool) := some (Go.Proofs.Ytjklgdpffmaamaa.Nm.nameB a0)
set_option maxHeartbeats 8000000 in
set_option maxRecDepth 100000 in
theorem wimpleref1_May.calls (a0 : ByteArray) (r : Bool) (w : World) (h : wimpleref1_May.f a0 = some r) :
    Calls Try.prog 32 #[.string a0] w fun e w' => e = .returned (.bool r) ∧ Below w.heap.size w w' := by
  unfold wimpleref1_May.f at h
  simp only [Option.some.injEq] at h
  subst h
  exact Go.Proofs.Ytjklgdpffmaamaa.Nm.rmay a0 w

/-! ### wimpleref4_short: function 52 -/
def wimpleref4_short.f (a0 : Int) : Option (Bool) := if a0 ≥ 0 then (some (decide (a0 ≤ 65535))) else (some false)
set_option maxHeartbeats 8000000 in
set_option maxRecDepth 100000 in
theorem wimpleref4_short.calls (a0 : Int) (r : Bool) (w : World) (h : wimpleref4_short.f a0 = some r) :
    Calls Try.prog 52 #[.int .i64 a0] w fun e w' => e = .returned (.bool r) ∧ Drawn0 w w' := by
  have H : (if a0 ≥ 0 then (some (decide (a0 ≤ 65535))) else (some false)) = some r := h
  clear h
  by_cases c2 : a0 ≥ 0
  · rw [if_pos c2] at H
    have c2b0 : decide (0 ≤ a0) = true := decide_eq_true c2
    clear c2
    obtain rfl := Option.some.inj H
    go_enter Try.func52, Try.ntmps52
    go_wp2
    go_ret
    exact ⟨by first | rfl | (simp; done) | (simp [*]; done), by repeat (first | exact Drawn0.refl _ | apply Drawn0.step)⟩
  · rw [if_neg c2] at H
    have c2b0 : decide (0 ≤ a0) = false := decide_eq_false c2
    clear c2
    obtain rfl := Option.some.inj H
    go_enter Try.func52, Try.ntmps52
    go_wp2
    go_ret
    exact ⟨by first | rfl | (simp; done) | (simp [*]; done), by repeat (first | exact Drawn0.refl _ | apply Drawn0.step)⟩

/-! ### wimpleref4_wide: function 53 -/
def wimpleref4_wide.f (a0 : Int) : Option (Bool) := if a0 ≥ 0 then (some (decide (a0 ≤ 4294967295))) else (some false)
set_option maxHeartbeats 8000000 in
set_option maxRecDepth 100000 in
theorem wimpleref4_wide.calls (a0 : Int) (r : Bool) (w : World) (h : wimpleref4_wide.f a0 = some r) :
    Calls Try.prog 53 #[.int .i64 a0] w fun e w' => e = .returned (.bool r) ∧ Drawn0 w w' := by
  have H : (if a0 ≥ 0 then (some (decide (a0 ≤ 4294967295))) else (some false)) = some r := h
  clear h
  by_cases c2 : a0 ≥ 0
  · rw [if_pos c2] at H
    have c2b0 : decide (0 ≤ a0) = true := decide_eq_true c2
    clear c2
    obtain rfl := Option.some.inj H
    go_enter Try.func53, Try.ntmps53
    go_wp2
    go_ret
    exact ⟨by first | rfl | (simp; done) | (simp [*]; done), by repeat (first | exact Drawn0.refl _ | apply Drawn0.step)⟩
  · rw [if_neg c2] at H
    have c2b0 : decide (0 ≤ a0) = false := decide_eq_false c2
    clear c2
    obtain rfl := Option.some.inj H
    go_enter Try.func53, Try.ntmps53
    go_wp2
    go_ret
    exact ⟨by first | rfl | (simp; done) | (simp [*]; done), by repeat (first | exact Drawn0.refl _ | apply Drawn0.step)⟩

/-! ### wimpleref4_DataMay: function 98 -/
def wimpleref4_DataMay.f (a0 : Int) (a1 : ByteArray) : Option (Bool) := if a1.size ≤ 9223372036854775000 then some (Go.Proofs.Ytjklgdpffmaamaa.Rd.mayD a0 a1) else none
set_option maxHeartbeats 8000000 in
set_option maxRecDepth 100000 in
theorem wimpleref4_DataMay.calls (a0 : Int) (a1 : ByteArray) (r : Bool) (w : World) (h : wimpleref4_DataMay.f a0 a1 = some r) :
    Calls Try.prog 98 #[.int .i64 a0, .string a1] w fun e w' => e = .returned (.bool r) ∧ Below w.heap.size w w' := by
  unfold wimpleref4_DataMay.f at h
  split at h
  · rename_i hs
    simp only [Option.some.injEq] at h
    subst h
    exact Go.Proofs.Ytjklgdpffmaamaa.Rd.rdmay a0 a1 w hs
  · cases h

/-! ### wimpleref4_rrMay: function 69 -/
def wimpleref4_rrMay.f (a0_0 : ByteArray) (a0_1 : Int) (a0_2 : Int) (a0_3 : Int) (a0_4 : ByteArray) : Option (Bool) := (wimpleref1_May.f a0_0).bind fun t110 => (if t110 = true then ((wimpleref4_short.f a0_1).bind fun t111 => (if t111 = true then (if a0_1 > 0 then ((wimpleref4_short.f a0_2).bind fun t112 => (if t112 = true then ((wimpleref4_wide.f a0_3).bind fun t113 => (if t113 = true then ((wimpleref4_DataMay.f a0_1 a0_4).bind fun t114 => (some t114)) else (some false))) else (some false))) else (some false)) else (some false))) else (some false))
set_option maxHeartbeats 8000000 in
set_option maxRecDepth 100000 in
theorem wimpleref4_rrMay.calls (a0_0 : ByteArray) (a0_1 : Int) (a0_2 : Int) (a0_3 : Int) (a0_4 : ByteArray) (r : Bool) (w : World) (h : wimpleref4_rrMay.f a0_0 a0_1 a0_2 a0_3 a0_4 = some r) :
    Calls Try.prog 69 #[.agg #[.string a0_0, .int .i64 a0_1, .int .i64 a0_2, .int .i64 a0_3, .string a0_4]] w fun e w' => e = .returned (.bool r) ∧ Below w.heap.size w w' := by
  have hu53 := Try.underlying53
  have HB := Aside0.mk (Below.refl w.heap.size w)
  have H : ((wimpleref1_May.f a0_0).bind fun t110 => (if t110 = true then ((wimpleref4_short.f a0_1).bind fun t111 => (if t111 = true then (if a0_1 > 0 then ((wimpleref4_short.f a0_2).bind fun t112 => (if t112 = true then ((wimpleref4_wide.f a0_3).bind fun t113 => (if t113 = true then ((wimpleref4_DataMay.f a0_1 a0_4).bind fun t114 => (some t114)) else (some false))) else (some false))) else (some false)) else (some false))) else (some false))) = some r := h
  clear h
  replace H := Option.bind_eq_some_iff.mp H
  obtain ⟨t110, A20, H⟩ := H
  replace H : (if t110 = true then ((wimpleref4_short.f a0_1).bind fun t111 => (if t111 = true then (if a0_1 > 0 then ((wimpleref4_short.f a0_2).bind fun t112 => (if t112 = true then ((wimpleref4_wide.f a0_3).bind fun t113 => (if t113 = true then ((wimpleref4_DataMay.f a0_1 a0_4).bind fun t114 => (some t114)) else (some false))) else (some false))) else (some false)) else (some false))) else (some false)) = some r := H
  have A2 := Aside0.mk A20
  clear A20
  by_cases c3 : t110 = true
  · subst c3
    have H1 : ((wimpleref4_short.f a0_1).bind fun t111 => (if t111 = true then (if a0_1 > 0 then ((wimpleref4_short.f a0_2).bind fun t112 => (if t112 = true then ((wimpleref4_wide.f a0_3).bind fun t113 => (if t113 = true then ((wimpleref4_DataMay.f a0_1 a0_4).bind fun t114 => (some t114)) else (some false))) else (some false))) else (some false)) else (some false))) = some r := by rw [if_pos rfl] at H; exact H
    clear H
    have H := H1
    clear H1
    replace H := Option.bind_eq_some_iff.mp H
    obtain ⟨t111, A40, H⟩ := H
    replace H : (if t111 = true then (if a0_1 > 0 then ((wimpleref4_short.f a0_2).bind fun t112 => (if t112 = true then ((wimpleref4_wide.f a0_3).bind fun t113 => (if t113 = true then ((wimpleref4_DataMay.f a0_1 a0_4).bind fun t114 => (some t114)) else (some false))) else (some false))) else (some false)) else (some false)) = some r := H
    have A4 := Aside0.mk A40
    clear A40
    by_cases c5 : t111 = true
    · subst c5
      have H1 : (if a0_1 > 0 then ((wimpleref4_short.f a0_2).bind fun t112 => (if t112 = true then ((wimpleref4_wide.f a0_3).bind fun t113 => (if t113 = true then ((wimpleref4_DataMay.f a0_1 a0_4).bind fun t114 => (some t114)) else (some false))) else (some false))) else (some false)) = some r := by rw [if_pos rfl] at H; exact H
      clear H
      have H := H1
      clear H1
      by_cases c6 : a0_1 > 0
      · rw [if_pos c6] at H
        have c6b0 : decide (0 < a0_1) = true := decide_eq_true c6
        clear c6
        replace H := Option.bind_eq_some_iff.mp H
        obtain ⟨t112, A70, H⟩ := H
        replace H : (if t112 = true then ((wimpleref4_wide.f a0_3).bind fun t113 => (if t113 = true then ((wimpleref4_DataMay.f a0_1 a0_4).bind fun t114 => (some t114)) else (some false))) else (some false)) = some r := H
        have A7 := Aside0.mk A70
        clear A70
        by_cases c8 : t112 = true
        · subst c8
          have H1 : ((wimpleref4_wide.f a0_3).bind fun t113 => (if t113 = true then ((wimpleref4_DataMay.f a0_1 a0_4).bind fun t114 => (some t114)) else (some false))) = some r := by rw [if_pos rfl] at H; exact H
          clear H
          have H := H1
          clear H1
          replace H := Option.bind_eq_some_iff.mp H
          obtain ⟨t113, A90, H⟩ := H
          replace H : (if t113 = true then ((wimpleref4_DataMay.f a0_1 a0_4).bind fun t114 => (some t114)) else (some false)) = some r := H
          have A9 := Aside0.mk A90
          clear A90
          by_cases c10 : t113 = true
          · subst c10
            have H1 : ((wimpleref4_DataMay.f a0_1 a0_4).bind fun t114 => (some t114)) = some r := by rw [if_pos rfl] at H; exact H
            clear H
            have H := H1
            clear H1
            replace H := Option.bind_eq_some_iff.mp H
            obtain ⟨t114, A110, H⟩ := H
            replace H : (some t114) = some r := H
            have A11 := Aside0.mk A110
            clear A110
            obtain rfl := Option.some.inj H
            go_enter Try.func69, Try.ntmps69
            go_wp2_with (first | ((with_reducible refine gate_dst (N := 1) rfl ?_); refine box_event ?hg (N := 1) ?hd (cs := #[.string a0_0, .int .i64 a0_1, .int .i64 a0_2, .int .i64 a0_3, .string a0_4]) (t := 53) ?hr ?_; (case hd => rfl); (case hg => rfl); (case hr => first | (go_simp; done) | (go_simp; rfl)); intro gb109 hg w12 hbox hb; have n0_ := Aside0.mk (below_step (by repeat (first | (with_reducible first | exact HB.out | apply below_alloc | apply pw_below_drewN | apply below_drew1) | exact HB.out)) hb); have n1_ := Aside0.mk (hbox); have n2_ := Aside0.mk ((by rw [hg]; exact (below_size (by repeat (first | (with_reducible first | exact HB.out | apply below_alloc | apply pw_below_drewN | apply below_drew1) | exact HB.out))) : w.heap.size ≤ gb109)); have n3_ := Aside0.mk ((by rw [hg]; exact (below_size (by repeat (first | (with_reducible first | exact HB.out | apply below_alloc | apply pw_below_drewN | apply below_drew1) | exact HB.out))) : w.heap.size ≤ gb109)); clear HB; have HB := n0_; have BK109 := n1_; have GW109 := n2_; have GE109 := n3_; clear n0_ n1_ n2_ n3_; clear hb hbox hg; have hcz13_0 : w12.cell? ⟨gb109, 0, none⟩ = some (.string a0_0) := (blk_cell BK109.out 0).trans rfl; have hcz13_1 : w12.cell? ⟨gb109, 1, none⟩ = some (.int .i64 a0_1) := (blk_cell BK109.out 1).trans rfl; have hcz13_2 : w12.cell? ⟨gb109, 2, none⟩ = some (.int .i64 a0_2) := (blk_cell BK109.out 2).trans rfl; have hcz13_3 : w12.cell? ⟨gb109, 3, none⟩ = some (.int .i64 a0_3) := (blk_cell BK109.out 3).trans rfl; have hcz13_4 : w12.cell? ⟨gb109, 4, none⟩ = some (.string a0_4) := (blk_cell BK109.out 4).trans rfl; have hfz13_0 := blk_frozen BK109.out 0; have hfz13_1 := blk_frozen BK109.out 1; have hfz13_2 := blk_frozen BK109.out 2; have hfz13_3 := blk_frozen BK109.out 3; have hfz13_4 := blk_frozen BK109.out 4) | ((with_reducible refine gate_dst (N := 5) rfl ?_); (with_reducible refine gate_callee (f := 32) rfl ?_); refine goesL_ (some 5) rfl rfl Try.func32 (by kernel_rfl) rfl #[.string a0_0] rfl (by (try simp only [List.map_toArray, List.map_cons, List.map_nil]); first | done | rfl | (simp only [List.length_drop, List.length_take]; rfl)) ?_; (with_reducible refine (wimpleref1_May.calls a0_0 true _ A2.out).mono ?_); rintro e w14 ⟨rfl, hb⟩; refine ⟨_, rfl, ?_⟩; have n0_ := Aside0.mk (blk_below (g := gb109) (o := .cells #[.string a0_0, .int .i64 a0_1, .int .i64 a0_2, .int .i64 a0_3, .string a0_4] 53 (0, 0)) (by (with_reducible repeat (first | refine blk_drewN ?_ _ | refine blk_drew ?_ | refine blk_alloc ?_ _)); exact BK109.out) hb); have n1_ := Aside0.mk (below_step (by repeat (first | (with_reducible first | exact HB.out | apply below_alloc | apply pw_below_drewN | apply below_drew1 | refine below_set ?_ GE109.out) | exact HB.out)) hb); clear BK109; clear HB; have BK109 := n0_; have HB := n1_; clear n0_ n1_; (try clear hb); (try clear hb2); (try clear hk); (try clear hi); (try clear hcz13_0 hcz13_1 hcz13_2 hcz13_3 hcz13_4 hfz13_0 hfz13_1 hfz13_2 hfz13_3 hfz13_4); have hcz15_0 : w14.cell? ⟨gb109, 0, none⟩ = some (.string a0_0) := (blk_cell BK109.out 0).trans rfl; have hcz15_1 : w14.cell? ⟨gb109, 1, none⟩ = some (.int .i64 a0_1) := (blk_cell BK109.out 1).trans rfl; have hcz15_2 : w14.cell? ⟨gb109, 2, none⟩ = some (.int .i64 a0_2) := (blk_cell BK109.out 2).trans rfl; have hcz15_3 : w14.cell? ⟨gb109, 3, none⟩ = some (.int .i64 a0_3) := (blk_cell BK109.out 3).trans rfl; have hcz15_4 : w14.cell? ⟨gb109, 4, none⟩ = some (.string a0_4) := (blk_cell BK109.out 4).trans rfl; have hfz15_0 := blk_frozen BK109.out 0; have hfz15_1 := blk_frozen BK109.out 1; have hfz15_2 := blk_frozen BK109.out 2; have hfz15_3 := blk_frozen BK109.out 3; have hfz15_4 := blk_frozen BK109.out 4) | (go_at_call 52; (with_reducible refine (wimpleref4_short.calls a0_1 true _ A4.out).mono ?_); rintro e w' ⟨rfl, ⟨nd, rfl⟩⟩) | (go_at_call 52; (with_reducible refine (wimpleref4_short.calls a0_2 true _ A7.out).mono ?_); rintro e w' ⟨rfl, ⟨nd, rfl⟩⟩) | (go_at_call 53; (with_reducible refine (wimpleref4_wide.calls a0_3 true _ A9.out).mono ?_); rintro e w' ⟨rfl, ⟨nd, rfl⟩⟩) | (go_at_call 98; (with_reducible refine (wimpleref4_DataMay.calls a0_1 a0_4 t114 _ A11.out).mono ?_); rintro e w16 ⟨rfl, hb⟩; have n0_ := Aside0.mk (blk_below (g := gb109) (o := .cells #[.string a0_0, .int .i64 a0_1, .int .i64 a0_2, .int .i64 a0_3, .string a0_4] 53 (0, 0)) (by (with_reducible repeat (first | refine blk_drewN ?_ _ | refine blk_drew ?_ | refine blk_alloc ?_ _)); exact BK109.out) hb); have n1_ := Aside0.mk (below_step (by repeat (first | (with_reducible first | exact HB.out | apply below_alloc | apply pw_below_drewN | apply below_drew1 | refine below_set ?_ GE109.out) | exact HB.out)) hb); clear BK109; clear HB; have BK109 := n0_; have HB := n1_; clear n0_ n1_; (try clear hb); (try clear hb2); (try clear hk); (try clear hi)))
            go_ret
            exact ⟨by first | rfl | (simp [errW_none, errW_some] <;> rfl) | (simp [*, errW_none, errW_some] <;> rfl), by repeat (first | (with_reducible first | exact HB.out | apply below_alloc | apply pw_below_drewN | apply below_drew1 | refine below_set ?_ GE109.out) | exact HB.out)⟩
          · replace c10 := Bool.eq_false_iff.mpr c10
            subst c10
            have H1 : (some false) = some r := by rw [if_neg (show ¬ (false = true) by decide)] at H; exact H
            clear H
            have H := H1
            clear H1
            obtain rfl := Option.some.inj H
            go_enter Try.func69, Try.ntmps69
            go_wp2_with (first | ((with_reducible refine gate_dst (N := 1) rfl ?_); refine box_event ?hg (N := 1) ?hd (cs := #[.string a0_0, .int .i64 a0_1, .int .i64 a0_2, .int .i64 a0_3, .string a0_4]) (t := 53) ?hr ?_; (case hd => rfl); (case hg => rfl); (case hr => first | (go_simp; done) | (go_simp; rfl)); intro gb109 hg w17 hbox hb; have n0_ := Aside0.mk (below_step (by repeat (first | (with_reducible first | exact HB.out | apply below_alloc | apply pw_below_drewN | apply below_drew1) | exact HB.out)) hb); have n1_ := Aside0.mk (hbox); have n2_ := Aside0.mk ((by rw [hg]; exact (below_size (by repeat (first | (with_reducible first | exact HB.out | apply below_alloc | apply pw_below_drewN | apply below_drew1) | exact HB.out))) : w.heap.size ≤ gb109)); have n3_ := Aside0.mk ((by rw [hg]; exact (below_size (by repeat (first | (with_reducible first | exact HB.out | apply below_alloc | apply pw_below_drewN | apply below_drew1) | exact HB.out))) : w.heap.size ≤ gb109)); clear HB; have HB := n0_; have BK109 := n1_; have GW109 := n2_; have GE109 := n3_; clear n0_ n1_ n2_ n3_; clear hb hbox hg; (try clear hcz13_0 hcz13_1 hcz13_2 hcz13_3 hcz13_4 hfz13_0 hfz13_1 hfz13_2 hfz13_3 hfz13_4); (try clear hcz15_0 hcz15_1 hcz15_2 hcz15_3 hcz15_4 hfz15_0 hfz15_1 hfz15_2 hfz15_3 hfz15_4); have hcz18_0 : w17.cell? ⟨gb109, 0, none⟩ = some (.string a0_0) := (blk_cell BK109.out 0).trans rfl; have hcz18_1 : w17.cell? ⟨gb109, 1, none⟩ = some (.int .i64 a0_1) := (blk_cell BK109.out 1).trans rfl; have hcz18_2 : w17.cell? ⟨gb109, 2, none⟩ = some (.int .i64 a0_2) := (blk_cell BK109.out 2).trans rfl; have hcz18_3 : w17.cell? ⟨gb109, 3, none⟩ = some (.int .i64 a0_3) := (blk_cell BK109.out 3).trans rfl; have hcz18_4 : w17.cell? ⟨gb109, 4, none⟩ = some (.string a0_4) := (blk_cell BK109.out 4).trans rfl; have hfz18_0 := blk_frozen BK109.out 0; have hfz18_1 := blk_frozen BK109.out 1; have hfz18_2 := blk_frozen BK109.out 2; have hfz18_3 := blk_frozen BK109.out 3; have hfz18_4 := blk_frozen BK109.out 4) | ((with_reducible refine gate_dst (N := 5) rfl ?_); (with_reducible refine gate_callee (f := 32) rfl ?_); refine goesL_ (some 5) rfl rfl Try.func32 (by kernel_rfl) rfl #[.string a0_0] rfl (by (try simp only [List.map_toArray, List.map_cons, List.map_nil]); first | done | rfl | (simp only [List.length_drop, List.length_take]; rfl)) ?_; (with_reducible refine (wimpleref1_May.calls a0_0 true _ A2.out).mono ?_); rintro e w19 ⟨rfl, hb⟩; refine ⟨_, rfl, ?_⟩; have n0_ := Aside0.mk (blk_below (g := gb109) (o := .cells #[.string a0_0, .int .i64 a0_1, .int .i64 a0_2, .int .i64 a0_3, .string a0_4] 53 (0, 0)) (by (with_reducible repeat (first | refine blk_drewN ?_ _ | refine blk_drew ?_ | refine blk_alloc ?_ _)); exact BK109.out) hb); have n1_ := Aside0.mk (below_step (by repeat (first | (with_reducible first | exact HB.out | apply below_alloc | apply pw_below_drewN | apply below_drew1 | refine below_set ?_ GE109.out) | exact HB.out)) hb); clear BK109; clear HB; have BK109 := n0_; have HB := n1_; clear n0_ n1_; (try clear hb); (try clear hb2); (try clear hk); (try clear hi); (try clear hcz13_0 hcz13_1 hcz13_2 hcz13_3 hcz13_4 hfz13_0 hfz13_1 hfz13_2 hfz13_3 hfz13_4); (try clear hcz15_0 hcz15_1 hcz15_2 hcz15_3 hcz15_4 hfz15_0 hfz15_1 hfz15_2 hfz15_3 hfz15_4); (try clear hcz18_0 hcz18_1 hcz18_2 hcz18_3 hcz18_4 hfz18_0 hfz18_1 hfz18_2 hfz18_3 hfz18_4); have hcz20_0 : w19.cell? ⟨gb109, 0, none⟩ = some (.string a0_0) := (blk_cell BK109.out 0).trans rfl; have hcz20_1 : w19.cell? ⟨gb109, 1, none⟩ = some (.int .i64 a0_1) := (blk_cell BK109.out 1).trans rfl; have hcz20_2 : w19.cell? ⟨gb109, 2, none⟩ = some (.int .i64 a0_2) := (blk_cell BK109.out 2).trans rfl; have hcz20_3 : w19.cell? ⟨gb109, 3, none⟩ = some (.int .i64 a0_3) := (blk_cell BK109.out 3).trans rfl; have hcz20_4 : w19.cell? ⟨gb109, 4, none⟩ = some (.string a0_4) := (blk_cell BK109.out 4).trans rfl; have hfz20_0 := blk_frozen BK109.out 0; have hfz20_1 := blk_frozen BK109.out 1; have hfz20_2 := blk_frozen BK109.out 2; have hfz20_3 := blk_frozen BK109.out 3; have hfz20_4 := blk_frozen BK109.out 4) | (go_at_call 52; (with_reducible refine (wimpleref4_short.calls a0_1 true _ A4.out).mono ?_); rintro e w' ⟨rfl, ⟨nd, rfl⟩⟩) | (go_at_call 52; (with_reducible refine (wimpleref4_short.calls a0_2 true _ A7.out).mono ?_); rintro e w' ⟨rfl, ⟨nd, rfl⟩⟩) | (go_at_call 53; (with_reducible refine (wimpleref4_wide.calls a0_3 false _ A9.out).mono ?_); rintro e w' ⟨rfl, ⟨nd, rfl⟩⟩))
            go_ret
            exact ⟨by first | rfl | (simp [errW_none, errW_some] <;> rfl) | (simp [*, errW_none, errW_some] <;> rfl), by repeat (first | (with_reducible first | exact HB.out | apply below_alloc | apply pw_below_drewN | apply below_drew1 | refine below_set ?_ GE109.out) | exact HB.out)⟩
        · replace c8 := Bool.eq_false_iff.mpr c8
          subst c8
          have H1 : (some false) = some r := by rw [if_neg (show ¬ (false = true) by decide)] at H; exact H
          clear H
          have H := H1
          clear H1
          obtain rfl := Option.some.inj H
          go_enter Try.func69, Try.ntmps69
          go_wp2_with (first | ((with_reducible refine gate_dst (N := 1) rfl ?_); refine box_event ?hg (N := 1) ?hd (cs := #[.string a0_0, .int .i64 a0_1, .int .i64 a0_2, .int .i64 a0_3, .string a0_4]) (t := 53) ?hr ?_; (case hd => rfl); (case hg => rfl); (case hr => first | (go_simp; done) | (go_simp; rfl)); intro gb109 hg w21 hbox hb; have n0_ := Aside0.mk (below_step (by repeat (first | (with_reducible first | exact HB.out | apply below_alloc | apply pw_below_drewN | apply below_drew1) | exact HB.out)) hb); have n1_ := Aside0.mk (hbox); have n2_ := Aside0.mk ((by rw [hg]; exact (below_size (by repeat (first | (with_reducible first | exact HB.out | apply below_alloc | apply pw_below_drewN | apply below_drew1) | exact HB.out))) : w.heap.size ≤ gb109)); have n3_ := Aside0.mk ((by rw [hg]; exact (below_size (by repeat (first | (with_reducible first | exact HB.out | apply below_alloc | apply pw_below_drewN | apply below_drew1) | exact HB.out))) : w.heap.size ≤ gb109)); clear HB; have HB := n0_; have BK109 := n1_; have GW109 := n2_; have GE109 := n3_; clear n0_ n1_ n2_ n3_; clear hb hbox hg; (try clear hcz13_0 hcz13_1 hcz13_2 hcz13_3 hcz13_4 hfz13_0 hfz13_1 hfz13_2 hfz13_3 hfz13_4); (try clear hcz15_0 hcz15_1 hcz15_2 hcz15_3 hcz15_4 hfz15_0 hfz15_1 hfz15_2 hfz15_3 hfz15_4); (try clear hcz18_0 hcz18_1 hcz18_2 hcz18_3 hcz18_4 hfz18_0 hfz18_1 hfz18_2 hfz18_3 hfz18_4); (try clear hcz20_0 hcz20_1 hcz20_2 hcz20_3 hcz20_4 hfz20_0 hfz20_1 hfz20_2 hfz20_3 hfz20_4); have hcz22_0 : w21.cell? ⟨gb109, 0, none⟩ = some (.string a0_0) := (blk_cell BK109.out 0).trans rfl; have hcz22_1 : w21.cell? ⟨gb109, 1, none⟩ = some (.int .i64 a0_1) := (blk_cell BK109.out 1).trans rfl; have hcz22_2 : w21.cell? ⟨gb109, 2, none⟩ = some (.int .i64 a0_2) := (blk_cell BK109.out 2).trans rfl; have hcz22_3 : w21.cell? ⟨gb109, 3, none⟩ = some (.int .i64 a0_3) := (blk_cell BK109.out 3).trans rfl; have hcz22_4 : w21.cell? ⟨gb109, 4, none⟩ = some (.string a0_4) := (blk_cell BK109.out 4).trans rfl; have hfz22_0 := blk_frozen BK109.out 0; have hfz22_1 := blk_frozen BK109.out 1; have hfz22_2 := blk_frozen BK109.out 2; have hfz22_3 := blk_frozen BK109.out 3; have hfz22_4 := blk_frozen BK109.out 4) | ((with_reducible refine gate_dst (N := 5) rfl ?_); (with_reducible refine gate_callee (f := 32) rfl ?_); refine goesL_ (some 5) rfl rfl Try.func32 (by kernel_rfl) rfl #[.string a0_0] rfl (by (try simp only [List.map_toArray, List.map_cons, List.map_nil]); first | done | rfl | (simp only [List.length_drop, List.length_take]; rfl)) ?_; (with_reducible refine (wimpleref1_May.calls a0_0 true _ A2.out).mono ?_); rintro e w23 ⟨rfl, hb⟩; refine ⟨_, rfl, ?_⟩; have n0_ := Aside0.mk (blk_below (g := gb109) (o := .cells #[.string a0_0, .int .i64 a0_1, .int .i64 a0_2, .int .i64 a0_3, .string a0_4] 53 (0, 0)) (by (with_reducible repeat (first | refine blk_drewN ?_ _ | refine blk_drew ?_ | refine blk_alloc ?_ _)); exact BK109.out) hb); have n1_ := Aside0.mk (below_step (by repeat (first | (with_reducible first | exact HB.out | apply below_alloc | apply pw_below_drewN | apply below_drew1 | refine below_set ?_ GE109.out) | exact HB.out)) hb); clear BK109; clear HB; have BK109 := n0_; have HB := n1_; clear n0_ n1_; (try clear hb); (try clear hb2); (try clear hk); (try clear hi); (try clear hcz13_0 hcz13_1 hcz13_2 hcz13_3 hcz13_4 hfz13_0 hfz13_1 hfz13_2 hfz13_3 hfz13_4); (try clear hcz15_0 hcz15_1 hcz15_2 hcz15_3 hcz15_4 hfz15_0 hfz15_1 hfz15_2 hfz15_3 hfz15_4); (try clear hcz18_0 hcz18_1 hcz18_2 hcz18_3 hcz18_4 hfz18_0 hfz18_1 hfz18_2 hfz18_3 hfz18_4); (try clear hcz20_0 hcz20_1 hcz20_2 hcz20_3 hcz20_4 hfz20_0 hfz20_1 hfz20_2 hfz20_3 hfz20_4); (try clear hcz22_0 hcz22_1 hcz22_2 hcz22_3 hcz22_4 hfz22_0 hfz22_1 hfz22_2 hfz22_3 hfz22_4); have hcz24_0 : w23.cell? ⟨gb109, 0, none⟩ = some (.string a0_0) := (blk_cell BK109.out 0).trans rfl; have hcz24_1 : w23.cell? ⟨gb109, 1, none⟩ = some (.int .i64 a0_1) := (blk_cell BK109.out 1).trans rfl; have hcz24_2 : w23.cell? ⟨gb109, 2, none⟩ = some (.int .i64 a0_2) := (blk_cell BK109.out 2).trans rfl; have hcz24_3 : w23.cell? ⟨gb109, 3, none⟩ = some (.int .i64 a0_3) := (blk_cell BK109.out 3).trans rfl; have hcz24_4 : w23.cell? ⟨gb109, 4, none⟩ = some (.string a0_4) := (blk_cell BK109.out 4).trans rfl; have hfz24_0 := blk_frozen BK109.out 0; have hfz24_1 := blk_frozen BK109.out 1; have hfz24_2 := blk_frozen BK109.out 2; have hfz24_3 := blk_frozen BK109.out 3; have hfz24_4 := blk_frozen BK109.out 4) | (go_at_call 52; (with_reducible refine (wimpleref4_short.calls a0_1 true _ A4.out).mono ?_); rintro e w' ⟨rfl, ⟨nd, rfl⟩⟩) | (go_at_call 52; (with_reducible refine (wimpleref4_short.calls a0_2 false _ A7.out).mono ?_); rintro e w' ⟨rfl, ⟨nd, rfl⟩⟩))
          go_ret
          exact ⟨by first | rfl | (simp [errW_none, errW_some] <;> rfl) | (simp [*, errW_none, errW_some] <;> rfl), by repeat (first | (with_reducible first | exact HB.out | apply below_alloc | apply pw_below_drewN | apply below_drew1 | refine below_set ?_ GE109.out) | exact HB.out)⟩
      · rw [if_neg c6] at H
        have c6b0 : decide (0 < a0_1) = false := decide_eq_false c6
        clear c6
        obtain rfl := Option.some.inj H
        go_enter Try.func69, Try.ntmps69
        go_wp2_with (first | ((with_reducible refine gate_dst (N := 1) rfl ?_); refine box_event ?hg (N := 1) ?hd (cs := #[.string a0_0, .int .i64 a0_1, .int .i64 a0_2, .int .i64 a0_3, .string a0_4]) (t := 53) ?hr ?_; (case hd => rfl); (case hg => rfl); (case hr => first | (go_simp; done) | (go_simp; rfl)); intro gb109 hg w25 hbox hb; have n0_ := Aside0.mk (below_step (by repeat (first | (with_reducible first | exact HB.out | apply below_alloc | apply pw_below_drewN | apply below_drew1) | exact HB.out)) hb); have n1_ := Aside0.mk (hbox); have n2_ := Aside0.mk ((by rw [hg]; exact (below_size (by repeat (first | (with_reducible first | exact HB.out | apply below_alloc | apply pw_below_drewN | apply below_drew1) | exact HB.out))) : w.heap.size ≤ gb109)); have n3_ := Aside0.mk ((by rw [hg]; exact (below_size (by repeat (first | (with_reducible first | exact HB.out | apply below_alloc | apply pw_below_drewN | apply below_drew1) | exact HB.out))) : w.heap.size ≤ gb109)); clear HB; have HB := n0_; have BK109 := n1_; have GW109 := n2_; have GE109 := n3_; clear n0_ n1_ n2_ n3_; clear hb hbox hg; (try clear hcz13_0 hcz13_1 hcz13_2 hcz13_3 hcz13_4 hfz13_0 hfz13_1 hfz13_2 hfz13_3 hfz13_4); (try clear hcz15_0 hcz15_1 hcz15_2 hcz15_3 hcz15_4 hfz15_0 hfz15_1 hfz15_2 hfz15_3 hfz15_4); (try clear hcz18_0 hcz18_1 hcz18_2 hcz18_3 hcz18_4 hfz18_0 hfz18_1 hfz18_2 hfz18_3 hfz18_4); (try clear hcz20_0 hcz20_1 hcz20_2 hcz20_3 hcz20_4 hfz20_0 hfz20_1 hfz20_2 hfz20_3 hfz20_4); (try clear hcz22_0 hcz22_1 hcz22_2 hcz22_3 hcz22_4 hfz22_0 hfz22_1 hfz22_2 hfz22_3 hfz22_4); (try clear hcz24_0 hcz24_1 hcz24_2 hcz24_3 hcz24_4 hfz24_0 hfz24_1 hfz24_2 hfz24_3 hfz24_4); have hcz26_0 : w25.cell? ⟨gb109, 0, none⟩ = some (.string a0_0) := (blk_cell BK109.out 0).trans rfl; have hcz26_1 : w25.cell? ⟨gb109, 1, none⟩ = some (.int .i64 a0_1) := (blk_cell BK109.out 1).trans rfl; have hcz26_2 : w25.cell? ⟨gb109, 2, none⟩ = some (.int .i64 a0_2) := (blk_cell BK109.out 2).trans rfl; have hcz26_3 : w25.cell? ⟨gb109, 3, none⟩ = some (.int .i64 a0_3) := (blk_cell BK109.out 3).trans rfl; have hcz26_4 : w25.cell? ⟨gb109, 4, none⟩ = some (.string a0_4) := (blk_cell BK109.out 4).trans rfl; have hfz26_0 := blk_frozen BK109.out 0; have hfz26_1 := blk_frozen BK109.out 1; have hfz26_2 := blk_frozen BK109.out 2; have hfz26_3 := blk_frozen BK109.out 3; have hfz26_4 := blk_frozen BK109.out 4) | ((with_reducible refine gate_dst (N := 5) rfl ?_); (with_reducible refine gate_callee (f := 32) rfl ?_); refine goesL_ (some 5) rfl rfl Try.func32 (by kernel_rfl) rfl #[.string a0_0] rfl (by (try simp only [List.map_toArray, List.map_cons, List.map_nil]); first | done | rfl | (simp only [List.length_drop, List.length_take]; rfl)) ?_; (with_reducible refine (wimpleref1_May.calls a0_0 true _ A2.out).mono ?_); rintro e w27 ⟨rfl, hb⟩; refine ⟨_, rfl, ?_⟩; have n0_ := Aside0.mk (blk_below (g := gb109) (o := .cells #[.string a0_0, .int .i64 a0_1, .int .i64 a0_2, .int .i64 a0_3, .string a0_4] 53 (0, 0)) (by (with_reducible repeat (first | refine blk_drewN ?_ _ | refine blk_drew ?_ | refine blk_alloc ?_ _)); exact BK109.out) hb); have n1_ := Aside0.mk (below_step (by repeat (first | (with_reducible first | exact HB.out | apply below_alloc | apply pw_below_drewN | apply below_drew1 | refine below_set ?_ GE109.out) | exact HB.out)) hb); clear BK109; clear HB; have BK109 := n0_; have HB := n1_; clear n0_ n1_; (try clear hb); (try clear hb2); (try clear hk); (try clear hi); (try clear hcz15_0 hcz15_1 hcz15_2 hcz15_3 hcz15_4 hfz15_0 hfz15_1 hfz15_2 hfz15_3 hfz15_4); (try clear hcz18_0 hcz18_1 hcz18_2 hcz18_3 hcz18_4 hfz18_0 hfz18_1 hfz18_2 hfz18_3 hfz18_4); (try clear hcz20_0 hcz20_1 hcz20_2 hcz20_3 hcz20_4 hfz20_0 hfz20_1 hfz20_2 hfz20_3 hfz20_4); (try clear hcz22_0 hcz22_1 hcz22_2 hcz22_3 hcz22_4 hfz22_0 hfz22_1 hfz22_2 hfz22_3 hfz22_4); (try clear hcz24_0 hcz24_1 hcz24_2 hcz24_3 hcz24_4 hfz24_0 hfz24_1 hfz24_2 hfz24_3 hfz24_4); (try clear hcz26_0 hcz26_1 hcz26_2 hcz26_3 hcz26_4 hfz26_0 hfz26_1 hfz26_2 hfz26_3 hfz26_4); have hcz28_0 : w27.cell? ⟨gb109, 0, none⟩ = some (.string a0_0) := (blk_cell BK109.out 0).trans rfl; have hcz28_1 : w27.cell? ⟨gb109, 1, none⟩ = some (.int .i64 a0_1) := (blk_cell BK109.out 1).trans rfl; have hcz28_2 : w27.cell? ⟨gb109, 2, none⟩ = some (.int .i64 a0_2) := (blk_cell BK109.out 2).trans rfl; have hcz28_3 : w27.cell? ⟨gb109, 3, none⟩ = some (.int .i64 a0_3) := (blk_cell BK109.out 3).trans rfl; have hcz28_4 : w27.cell? ⟨gb109, 4, none⟩ = some (.string a0_4) := (blk_cell BK109.out 4).trans rfl; have hfz28_0 := blk_frozen BK109.out 0; have hfz28_1 := blk_frozen BK109.out 1; have hfz28_2 := blk_frozen BK109.out 2; have hfz28_3 := blk_frozen BK109.out 3; have hfz28_4 := blk_frozen BK109.out 4) | (go_at_call 52; (with_reducible refine (wimpleref4_short.calls a0_1 true _ A4.out).mono ?_); rintro e w' ⟨rfl, ⟨nd, rfl⟩⟩))
        go_ret
        exact ⟨by first | rfl | (simp [errW_none, errW_some] <;> rfl) | (simp [*, errW_none, errW_some] <;> rfl), by repeat (first | (with_reducible first | exact HB.out | apply below_alloc | apply pw_below_drewN | apply below_drew1 | refine below_set ?_ GE109.out) | exact HB.out)⟩
    · replace c5 := Bool.eq_false_iff.mpr c5
      subst c5
      have H1 : (some false) = some r := by rw [if_neg (show ¬ (false = true) by decide)] at H; exact H
      clear H
      have H := H1
      clear H1
      obtain rfl := Option.some.inj H
      go_enter Try.func69, Try.ntmps69
      go_wp2_with (first | ((with_reducible refine gate_dst (N := 1) rfl ?_); refine box_event ?hg (N := 1) ?hd (cs := #[.string a0_0, .int .i64 a0_1, .int .i64 a0_2, .int .i64 a0_3, .string a0_4]) (t := 53) ?hr ?_; (case hd => rfl); (case hg => rfl); (case hr => first | (go_simp; done) | (go_simp; rfl)); intro gb109 hg w29 hbox hb; have n0_ := Aside0.mk (below_step (by repeat (first | (with_reducible first | exact HB.out | apply below_alloc | apply pw_below_drewN | apply below_drew1) | exact HB.out)) hb); have n1_ := Aside0.mk (hbox); have n2_ := Aside0.mk ((by rw [hg]; exact (below_size (by repeat (first | (with_reducible first | exact HB.out | apply below_alloc | apply pw_below_drewN | apply below_drew1) | exact HB.out))) : w.heap.size ≤ gb109)); have n3_ := Aside0.mk ((by rw [hg]; exact (below_size (by repeat (first | (with_reducible first | exact HB.out | apply below_alloc | apply pw_below_drewN | apply below_drew1) | exact HB.out))) : w.heap.size ≤ gb109)); clear HB; have HB := n0_; have BK109 := n1_; have GW109 := n2_; have GE109 := n3_; clear n0_ n1_ n2_ n3_; clear hb hbox hg; (try clear hcz18_0 hcz18_1 hcz18_2 hcz18_3 hcz18_4 hfz18_0 hfz18_1 hfz18_2 hfz18_3 hfz18_4); (try clear hcz20_0 hcz20_1 hcz20_2 hcz20_3 hcz20_4 hfz20_0 hfz20_1 hfz20_2 hfz20_3 hfz20_4); (try clear hcz22_0 hcz22_1 hcz22_2 hcz22_3 hcz22_4 hfz22_0 hfz22_1 hfz22_2 hfz22_3 hfz22_4); (try clear hcz24_0 hcz24_1 hcz24_2 hcz24_3 hcz24_4 hfz24_0 hfz24_1 hfz24_2 hfz24_3 hfz24_4); (try clear hcz26_0 hcz26_1 hcz26_2 hcz26_3 hcz26_4 hfz26_0 hfz26_1 hfz26_2 hfz26_3 hfz26_4); (try clear hcz28_0 hcz28_1 hcz28_2 hcz28_3 hcz28_4 hfz28_0 hfz28_1 hfz28_2 hfz28_3 hfz28_4); have hcz30_0 : w29.cell? ⟨gb109, 0, none⟩ = some (.string a0_0) := (blk_cell BK109.out 0).trans rfl; have hcz30_1 : w29.cell? ⟨gb109, 1, none⟩ = some (.int .i64 a0_1) := (blk_cell BK109.out 1).trans rfl; have hcz30_2 : w29.cell? ⟨gb109, 2, none⟩ = some (.int .i64 a0_2) := (blk_cell BK109.out 2).trans rfl; have hcz30_3 : w29.cell? ⟨gb109, 3, none⟩ = some (.int .i64 a0_3) := (blk_cell BK109.out 3).trans rfl; have hcz30_4 : w29.cell? ⟨gb109, 4, none⟩ = some (.string a0_4) := (blk_cell BK109.out 4).trans rfl; have hfz30_0 := blk_frozen BK109.out 0; have hfz30_1 := blk_frozen BK109.out 1; have hfz30_2 := blk_frozen BK109.out 2; have hfz30_3 := blk_frozen BK109.out 3; have hfz30_4 := blk_frozen BK109.out 4) | ((with_reducible refine gate_dst (N := 5) rfl ?_); (with_reducible refine gate_callee (f := 32) rfl ?_); refine goesL_ (some 5) rfl rfl Try.func32 (by kernel_rfl) rfl #[.string a0_0] rfl (by (try simp only [List.map_toArray, List.map_cons, List.map_nil]); first | done | rfl | (simp only [List.length_drop, List.length_take]; rfl)) ?_; (with_reducible refine (wimpleref1_May.calls a0_0 true _ A2.out).mono ?_); rintro e w31 ⟨rfl, hb⟩; refine ⟨_, rfl, ?_⟩; have n0_ := Aside0.mk (blk_below (g := gb109) (o := .cells #[.string a0_0, .int .i64 a0_1, .int .i64 a0_2, .int .i64 a0_3, .string a0_4] 53 (0, 0)) (by (with_reducible repeat (first | refine blk_drewN ?_ _ | refine blk_drew ?_ | refine blk_alloc ?_ _)); exact BK109.out) hb); have n1_ := Aside0.mk (below_step (by repeat (first | (with_reducible first | exact HB.out | apply below_alloc | apply pw_below_drewN | apply below_drew1 | refine below_set ?_ GE109.out) | exact HB.out)) hb); clear BK109; clear HB; have BK109 := n0_; have HB := n1_; clear n0_ n1_; (try clear hb); (try clear hb2); (try clear hk); (try clear hi); (try clear hcz20_0 hcz20_1 hcz20_2 hcz20_3 hcz20_4 hfz20_0 hfz20_1 hfz20_2 hfz20_3 hfz20_4); (try clear hcz22_0 hcz22_1 hcz22_2 hcz22_3 hcz22_4 hfz22_0 hfz22_1 hfz22_2 hfz22_3 hfz22_4); (try clear hcz24_0 hcz24_1 hcz24_2 hcz24_3 hcz24_4 hfz24_0 hfz24_1 hfz24_2 hfz24_3 hfz24_4); (try clear hcz26_0 hcz26_1 hcz26_2 hcz26_3 hcz26_4 hfz26_0 hfz26_1 hfz26_2 hfz26_3 hfz26_4); (try clear hcz28_0 hcz28_1 hcz28_2 hcz28_3 hcz28_4 hfz28_0 hfz28_1 hfz28_2 hfz28_3 hfz28_4); (try clear hcz30_0 hcz30_1 hcz30_2 hcz30_3 hcz30_4 hfz30_0 hfz30_1 hfz30_2 hfz30_3 hfz30_4); have hcz32_0 : w31.cell? ⟨gb109, 0, none⟩ = some (.string a0_0) := (blk_cell BK109.out 0).trans rfl; have hcz32_1 : w31.cell? ⟨gb109, 1, none⟩ = some (.int .i64 a0_1) := (blk_cell BK109.out 1).trans rfl; have hcz32_2 : w31.cell? ⟨gb109, 2, none⟩ = some (.int .i64 a0_2) := (blk_cell BK109.out 2).trans rfl; have hcz32_3 : w31.cell? ⟨gb109, 3, none⟩ = some (.int .i64 a0_3) := (blk_cell BK109.out 3).trans rfl; have hcz32_4 : w31.cell? ⟨gb109, 4, none⟩ = some (.string a0_4) := (blk_cell BK109.out 4).trans rfl; have hfz32_0 := blk_frozen BK109.out 0; have hfz32_1 := blk_frozen BK109.out 1; have hfz32_2 := blk_frozen BK109.out 2; have hfz32_3 := blk_frozen BK109.out 3; have hfz32_4 := blk_frozen BK109.out 4) | (go_at_call 52; (with_reducible refine (wimpleref4_short.calls a0_1 false _ A4.out).mono ?_); rintro e w' ⟨rfl, ⟨nd, rfl⟩⟩))
      go_ret
      exact ⟨by first | rfl | (simp [errW_none, errW_some] <;> rfl) | (simp [*, errW_none, errW_some] <;> rfl), by repeat (first | (with_reducible first | exact HB.out | apply below_alloc | apply pw_below_drewN | apply below_drew1 | refine below_set ?_ GE109.out) | exact HB.out)⟩
  · replace c3 := Bool.eq_false_iff.mpr c3
    subst c3
    have H1 : (some false) = some r := by rw [if_neg (show ¬ (false = true) by decide)] at H; exact H
    clear H
    have H := H1
    clear H1
    obtain rfl := Option.some.inj H
    go_enter Try.func69, Try.ntmps69
    go_wp2_with (first | ((with_reducible refine gate_dst (N := 1) rfl ?_); refine box_event ?hg (N := 1) ?hd (cs := #[.string a0_0, .int .i64 a0_1, .int .i64 a0_2, .int .i64 a0_3, .string a0_4]) (t := 53) ?hr ?_; (case hd => rfl); (case hg => rfl); (case hr => first | (go_simp; done) | (go_simp; rfl)); intro gb109 hg w33 hbox hb; have n0_ := Aside0.mk (below_step (by repeat (first | (with_reducible first | exact HB.out | apply below_alloc | apply pw_below_drewN | apply below_drew1) | exact HB.out)) hb); have n1_ := Aside0.mk (hbox); have n2_ := Aside0.mk ((by rw [hg]; exact (below_size (by repeat (first | (with_reducible first | exact HB.out | apply below_alloc | apply pw_below_drewN | apply below_drew1) | exact HB.out))) : w.heap.size ≤ gb109)); have n3_ := Aside0.mk ((by rw [hg]; exact (below_size (by repeat (first | (with_reducible first | exact HB.out | apply below_alloc | apply pw_below_drewN | apply below_drew1) | exact HB.out))) : w.heap.size ≤ gb109)); clear HB; have HB := n0_; have BK109 := n1_; have GW109 := n2_; have GE109 := n3_; clear n0_ n1_ n2_ n3_; clear hb hbox hg; (try clear hcz22_0 hcz22_1 hcz22_2 hcz22_3 hcz22_4 hfz22_0 hfz22_1 hfz22_2 hfz22_3 hfz22_4); (try clear hcz24_0 hcz24_1 hcz24_2 hcz24_3 hcz24_4 hfz24_0 hfz24_1 hfz24_2 hfz24_3 hfz24_4); (try clear hcz26_0 hcz26_1 hcz26_2 hcz26_3 hcz26_4 hfz26_0 hfz26_1 hfz26_2 hfz26_3 hfz26_4); (try clear hcz28_0 hcz28_1 hcz28_2 hcz28_3 hcz28_4 hfz28_0 hfz28_1 hfz28_2 hfz28_3 hfz28_4); (try clear hcz30_0 hcz30_1 hcz30_2 hcz30_3 hcz30_4 hfz30_0 hfz30_1 hfz30_2 hfz30_3 hfz30_4); (try clear hcz32_0 hcz32_1 hcz32_2 hcz32_3 hcz32_4 hfz32_0 hfz32_1 hfz32_2 hfz32_3 hfz32_4); have hcz34_0 : w33.cell? ⟨gb109, 0, none⟩ = some (.string a0_0) := (blk_cell BK109.out 0).trans rfl; have hcz34_1 : w33.cell? ⟨gb109, 1, none⟩ = some (.int .i64 a0_1) := (blk_cell BK109.out 1).trans rfl; have hcz34_2 : w33.cell? ⟨gb109, 2, none⟩ = some (.int .i64 a0_2) := (blk_cell BK109.out 2).trans rfl; have hcz34_3 : w33.cell? ⟨gb109, 3, none⟩ = some (.int .i64 a0_3) := (blk_cell BK109.out 3).trans rfl; have hcz34_4 : w33.cell? ⟨gb109, 4, none⟩ = some (.string a0_4) := (blk_cell BK109.out 4).trans rfl; have hfz34_0 := blk_frozen BK109.out 0; have hfz34_1 := blk_frozen BK109.out 1; have hfz34_2 := blk_frozen BK109.out 2; have hfz34_3 := blk_frozen BK109.out 3; have hfz34_4 := blk_frozen BK109.out 4) | ((with_reducible refine gate_dst (N := 5) rfl ?_); (with_reducible refine gate_callee (f := 32) rfl ?_); refine goesL_ (some 5) rfl rfl Try.func32 (by kernel_rfl) rfl #[.string a0_0] rfl (by (try simp only [List.map_toArray, List.map_cons, List.map_nil]); first | done | rfl | (simp only [List.length_drop, List.length_take]; rfl)) ?_; (with_reducible refine (wimpleref1_May.calls a0_0 false _ A2.out).mono ?_); rintro e w35 ⟨rfl, hb⟩; refine ⟨_, rfl, ?_⟩; have n0_ := Aside0.mk (blk_below (g := gb109) (o := .cells #[.string a0_0, .int .i64 a0_1, .int .i64 a0_2, .int .i64 a0_3, .string a0_4] 53 (0, 0)) (by (with_reducible repeat (first | refine blk_drewN ?_ _ | refine blk_drew ?_ | refine blk_alloc ?_ _)); exact BK109.out) hb); have n1_ := Aside0.mk (below_step (by repeat (first | (with_reducible first | exact HB.out | apply below_alloc | apply pw_below_drewN | apply below_drew1 | refine below_set ?_ GE109.out) | exact HB.out)) hb); clear BK109; clear HB; have BK109 := n0_; have HB := n1_; clear n0_ n1_; (try clear hb); (try clear hb2); (try clear hk); (try clear hi)))
    go_ret
    exact ⟨by first | rfl | (simp [errW_none, errW_some] <;> rfl) | (simp [*, errW_none, errW_some] <;> rfl), by repeat (first | (with_reducible first | exact HB.out | apply below_alloc | apply pw_below_drewN | apply below_drew1 | refine below_set ?_ GE109.out) | exact HB.out)⟩

-- NOT PRINTED: function 37 (wimpleref4_MsgMay)

end Go.Proofs.Ytjklgdpffmaamaa.PRm
