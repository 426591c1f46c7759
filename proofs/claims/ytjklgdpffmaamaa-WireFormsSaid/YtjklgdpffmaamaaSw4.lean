/- The statement WireForms: each part of a message that may not be makes wire.Put refuse it, for every choice and number. -/
import Derived.Deep.RegionHeld3
import Derived.Deep.CutBlock
import Derived.Test.YtjklgdpffmaamaaProg
import Derived.Below
import Derived.Deep.Draws
import Derived.Deep.AppendLies
import Derived.Maps.AppendAt
import Derived.OwnWalk
import Derived.Laws.BytesArg
import Derived.Laws.MakeOwn
import Derived.Laws.OwnMore
import Derived.Deep.OwnRows
import Derived.Tactics
import Derived.Lib.ConvBytes
import Derived.Laws.Slices
import Derived.WalkKit
import Derived.KernelRfl
import Derived.RowKit3
import Derived.Deep.LoopGhost
import Derived.Deep.QuietTactic
import Derived.BigQuiet
import Derived.WideLaws
import Derived.Deep.DeepCutAuto
import Derived.Laws.Rows
import Derived.Lib.AppendStr
import Derived.ArgAppend
import Derived.Laws.IdiomCopy
import Derived.OrdersHeld
import Derived.Laws.BitsLemmas
import Derived.RowKit
import Derived.Lib.Hide
import Derived.Lib.Builder
import Derived.Deep.RegionLaw
import Derived.Test.YtjklgdpffmaamaaRows
import Derived.ProofKit
import Derived.OpenShut
import Derived.ShutString
import Derived.ChangeOld
import Derived.SizedLaws
import Derived.Carry
import Derived.Test.YtjklgdpffmaamaaSw1
import Derived.Test.YtjklgdpffmaamaaSw2
import Derived.Test.YtjklgdpffmaamaaSw3
namespace Go.Proofs.Ytjklgdpffmaamaa.Wm
open Go.RowKit Go.PlainAid Go.Maps Go.Proofs.Ytjklgdpffmaamaa.Base Go.Proofs.Ytjklgdpffmaamaa.Oct Go.Proofs.Ytjklgdpffmaamaa.Nm
open Go.Proofs.YtjklgdpffmaamaaW.PrintWords (blk_cell blk_below blk_put blk_frozen blk_ne blk_new blk_lt blk_grown LeO own_nil own_ne own_other own_setCell)
set_option linter.unusedVariables false
structure Got where
  h : Hd.Head
  qs : List Qn
  an : List Rr
  ns : List Rr
  ar : List Rr
  e : Int
def got0 (e : Int) : Got := ⟨Hd.head0, [], [], [], [], e⟩
/-- What is read. -/
def getV (k : Nat) (s : ByteArray) : Option Got :=
  if 4096 < s.size then some (got0 701) else if s.size < 12 then some (got0 700) else
    (listQ k s (be2 s 4).toNat ⟨12, false⟩).bind fun q => (listR k s (be2 s 6).toNat q.2).bind fun a => (listR k s (be2 s 8).toNat a.2).bind fun b => (listR k s (be2 s 10).toNat b.2).bind fun c =>
      if c.2.bad || c.2.at_ != (s.size : Int) then some (got0 700) else some ⟨Hd.getH s, q.1, a.1, b.1, c.1, 0⟩
abbrev mz : Array Value := #[.int .i64 0, .bool false, .int .i64 0, .bool false, .bool false, .bool false, .bool false, .int .i64 0, .int .i64 0, .slice none 0 0, .slice none 0 0, .slice none 0 0, .slice none 0 0]
/-- What the answer is, and where its rows lie. -/
def GetPost (s : ByteArray) (w : World) (r : Got) (e : Ending) (w' : World) : Prop :=
  ∃ vq va vn vr, e = .returned (.tuple #[.agg #[.int .i64 r.h.id, .bool r.h.qr, .int .i64 r.h.op, .bool r.h.aa, .bool r.h.tc, .bool r.h.rd, .bool r.h.ra, .int .i64 r.h.z, .int .i64 r.h.rc, vq, va, vn, vr], .int .i64 r.e]) ∧
    w'.ownsRow w.heap.size 40 3 vq r.qs.length (cellsQ r.qs) ∧ w'.ownsRow w.heap.size 53 5 va r.an.length (cellsR r.an) ∧ w'.ownsRow w.heap.size 53 5 vn r.ns.length (cellsR r.ns) ∧ w'.ownsRow w.heap.size 53 5 vr r.ar.length (cellsR r.ar) ∧
    (∀ k, va.ownBlock = some k → some k ≠ vn.ownBlock ∧ some k ≠ vr.ownBlock) ∧ (∀ k, vn.ownBlock = some k → some k ≠ va.ownBlock ∧ some k ≠ vr.ownBlock) ∧ (∀ k, vr.ownBlock = some k → some k ≠ va.ownBlock ∧ some k ≠ vn.ownBlock) ∧ Below w.heap.size w w'
theorem post0 (s : ByteArray) (w w' : World) (e : Int) (hb : Below w.heap.size w w') : GetPost s w (got0 e) (.returned (.tuple #[.agg mz, .int .i64 e])) w' :=
  ⟨_, _, _, _, rfl, own_nil _ _ _ _, own_nil _ _ _ _, own_nil _ _ _ _, own_nil _ _ _ _, fun k h => by simp [Value.ownBlock] at h, fun k h => by simp [Value.ownBlock] at h, fun k h => by simp [Value.ownBlock] at h, hb⟩
/-- Values written one behind the other into a block. -/
def putAll (w : World) (g : Nat) : Nat → List Value → World
  | _, [] => w
  | i, v :: vs => putAll (w.setCell ⟨g, i, none⟩ v) g (i + 1) vs
def setAll (cs : Array Value) : Nat → List Value → Array Value
  | _, [] => cs
  | i, v :: vs => setAll (cs.setIfInBounds i v) (i + 1) vs
theorem putAll_ne {w : World} {g k : Nat} (i : Nat) (vs : List Value) (h : k ≠ g) : (putAll w g i vs).heap[k]? = w.heap[k]? := by
  induction vs generalizing w i with
  | nil => rfl
  | cons v vs ih => exact (ih (i + 1)).trans (Below.heap_setCell w _ v k h)
theorem putAll_blk {w : World} {g : Nat} {t : TypeId} {cs : Array Value} (i : Nat) (vs : List Value) (cs' : Array Value) (h : w.heap[g]? = some (.cells cs t (0, 0))) (e : setAll cs i vs = cs' := by rfl) : (putAll w g i vs).heap[g]? = some (.cells cs' t (0, 0)) := by
  subst e
  induction vs generalizing w i cs with
  | nil => exact h
  | cons v vs ih => exact ih (i + 1) (blk_put h i v rfl)
theorem putAll_own {w : World} {g b : Nat} {e : TypeId} {size n : Nat} {v : Value} {xs : List Value} (i : Nat) (vs : List Value) (h : w.ownsRow b e size v n xs) (hne : some g ≠ v.ownBlock) : (putAll w g i vs).ownsRow b e size v n xs := by
  induction vs generalizing w i with
  | nil => exact h
  | cons u vs ih => exact ih (i + 1) (own_setCell (p := ⟨g, i, none⟩) h hne u)
theorem putAll_grown {w0 w : World} {g : Nat} {row : Option Nat} (i : Nat) (vs : List Value) (h : w0.grownBy w row) (hg : w0.heap.size ≤ g) : w0.grownBy (putAll w g i vs) row := by
  induction vs generalizing w i with
  | nil => exact h
  | cons u vs ih => exact ih (i + 1) (grown_far (p := ⟨g, i, none⟩) h hg u)
theorem own_lower {w : World} {b b' : Nat} {e : TypeId} {size n : Nat} {v : Value} {xs : List Value} (h : w.ownsRow b e size v n xs) (hb : b' ≤ b) : w.ownsRow b' e size v n xs := by
  refine ⟨h.1, ?_⟩
  rcases h.2 with h2 | ⟨k, cap, cur, rfl, hg, r⟩
  · exact .inl h2
  · exact .inr ⟨k, cap, cur, rfl, Nat.le_trans hb hg, r⟩
theorem own_lt {w : World} {b : Nat} {e : TypeId} {size n : Nat} {v : Value} {xs : List Value} (h : w.ownsRow b e size v n xs) (k : Nat) (hk : v.ownBlock = some k) : k < w.heap.size := by
  obtain ⟨cs, hb⟩ := Go.Proofs.YtjklgdpffmaamaaW.PrintWords.own_typed h k hk
  exact blk_lt hb
set_option maxHeartbeats 8000000 in
set_option maxRecDepth 100000 in
theorem getc (s : ByteArray) (w : World) (hs : s.size ≤ 9223372036854775000) {k : Nat} {r : Got} (hq : getV k s = some r) : Calls Try.prog 35 #[.string s] w (GetPost s w r) := by
  have HQ := Lib.hid hq
  clear hq
  by_cases h4 : 4096 < s.size
  · have hr : r = got0 701 := by have := HQ.out; unfold getV at this; rw [if_pos h4] at this; exact (Option.some.inj this).symm
    subst hr
    have q : decide ((4096 : Int) < (s.size : Int)) = true := by simp; omega
    have pz := blk_new w (.cells mz 27)
    go_enter Try.func35, Try.ntmps35
    go_wp2
    have e0 := (blk_cell pz 0).trans rfl
    have e1 := (blk_cell pz 1).trans rfl
    have e2 := (blk_cell pz 2).trans rfl
    have e3 := (blk_cell pz 3).trans rfl
    have e4 := (blk_cell pz 4).trans rfl
    have e5 := (blk_cell pz 5).trans rfl
    have e6 := (blk_cell pz 6).trans rfl
    have e7 := (blk_cell pz 7).trans rfl
    have e8 := (blk_cell pz 8).trans rfl
    have e9 := (blk_cell pz 9).trans rfl
    have e10 := (blk_cell pz 10).trans rfl
    have e11 := (blk_cell pz 11).trans rfl
    have e12 := (blk_cell pz 12).trans rfl
    exact bodyPost_ret (v := .tuple #[.agg mz, .int .i64 701]) (by simp [results, Try.results35, go_sem, e0, e1, e2, e3, e4, e5, e6, e7, e8, e9, e10, e11, e12]) rfl (post0 s w _ 701 ((Below.refl _ _).alloc (Nat.le_refl _) _))
  · have q : decide ((4096 : Int) < (s.size : Int)) = false := by simp; omega
    have Bp : Below w.heap.size w (w.alloc (.cells mz 27)) := (Below.refl _ _).alloc (Nat.le_refl _) _
    have pz := blk_new w (.cells mz 27)
    have sp : (w.alloc (.cells mz 27)).heap.size = w.heap.size + 1 := by simp
    have kg := Hd.got s (w.alloc (.cells mz 27)) hs
    by_cases h12 : s.size < 12
    · have hr : r = got0 700 := by have := HQ.out; unfold getV at this; rw [if_neg h4, if_pos h12] at this; exact (Option.some.inj this).symm
      subst hr
      have hE : Hd.gotE s = 600 := Hd.gotE_no (by omega)
      rw [hE] at kg
      clear HQ
      go_enter Try.func35, Try.ntmps35
      go_wp2_with fail
      refine kg.mono ?_
      rintro e w1 ⟨rfl, B1⟩
      have p1 := blk_below pz B1
      have BB := Bp.trans (B1.mono (by omega))
      clear kg pz Bp B1
      have pp : ((w1.alloc (.cells #[.int .i64 (Hd.gotH s).id, .bool (Hd.gotH s).qr, .int .i64 (Hd.gotH s).op, .bool (Hd.gotH s).aa, .bool (Hd.gotH s).tc, .bool (Hd.gotH s).rd, .bool (Hd.gotH s).ra, .int .i64 (Hd.gotH s).z, .int .i64 (Hd.gotH s).rc] 23)).alloc (.cells #[.int .i64 (Hd.gotC s 4), .int .i64 (Hd.gotC s 6), .int .i64 (Hd.gotC s 8), .int .i64 (Hd.gotC s 10)] 80)).heap[w.heap.size]? = some (.cells mz 27 (0, 0)) := Go.Proofs.YtjklgdpffmaamaaW.PrintWords.blk_alloc (Go.Proofs.YtjklgdpffmaamaaW.PrintWords.blk_alloc p1 _) _
      have x0 : ((w1.alloc (.cells #[.int .i64 (Hd.gotH s).id, .bool (Hd.gotH s).qr, .int .i64 (Hd.gotH s).op, .bool (Hd.gotH s).aa, .bool (Hd.gotH s).tc, .bool (Hd.gotH s).rd, .bool (Hd.gotH s).ra, .int .i64 (Hd.gotH s).z, .int .i64 (Hd.gotH s).rc] 23)).alloc (.cells #[.int .i64 (Hd.gotC s 4), .int .i64 (Hd.gotC s 6), .int .i64 (Hd.gotC s 8), .int .i64 (Hd.gotC s 10)] 80)).cell? ⟨w.heap.size, 0, none⟩ = some (.int .i64 0) := (blk_cell pp 0).trans rfl
      have x1 : ((w1.alloc (.cells #[.int .i64 (Hd.gotH s).id, .bool (Hd.gotH s).qr, .int .i64 (Hd.gotH s).op, .bool (Hd.gotH s).aa, .bool (Hd.gotH s).tc, .bool (Hd.gotH s).rd, .bool (Hd.gotH s).ra, .int .i64 (Hd.gotH s).z, .int .i64 (Hd.gotH s).rc] 23)).alloc (.cells #[.int .i64 (Hd.gotC s 4), .int .i64 (Hd.gotC s 6), .int .i64 (Hd.gotC s 8), .int .i64 (Hd.gotC s 10)] 80)).cell? ⟨w.heap.size, 1, none⟩ = some (.bool false) := (blk_cell pp 1).trans rfl
      have x2 : ((w1.alloc (.cells #[.int .i64 (Hd.gotH s).id, .bool (Hd.gotH s).qr, .int .i64 (Hd.gotH s).op, .bool (Hd.gotH s).aa, .bool (Hd.gotH s).tc, .bool (Hd.gotH s).rd, .bool (Hd.gotH s).ra, .int .i64 (Hd.gotH s).z, .int .i64 (Hd.gotH s).rc] 23)).alloc (.cells #[.int .i64 (Hd.gotC s 4), .int .i64 (Hd.gotC s 6), .int .i64 (Hd.gotC s 8), .int .i64 (Hd.gotC s 10)] 80)).cell? ⟨w.heap.size, 2, none⟩ = some (.int .i64 0) := (blk_cell pp 2).trans rfl
      have x3 : ((w1.alloc (.cells #[.int .i64 (Hd.gotH s).id, .bool (Hd.gotH s).qr, .int .i64 (Hd.gotH s).op, .bool (Hd.gotH s).aa, .bool (Hd.gotH s).tc, .bool (Hd.gotH s).rd, .bool (Hd.gotH s).ra, .int .i64 (Hd.gotH s).z, .int .i64 (Hd.gotH s).rc] 23)).alloc (.cells #[.int .i64 (Hd.gotC s 4), .int .i64 (Hd.gotC s 6), .int .i64 (Hd.gotC s 8), .int .i64 (Hd.gotC s 10)] 80)).cell? ⟨w.heap.size, 3, none⟩ = some (.bool false) := (blk_cell pp 3).trans rfl
      have x4 : ((w1.alloc (.cells #[.int .i64 (Hd.gotH s).id, .bool (Hd.gotH s).qr, .int .i64 (Hd.gotH s).op, .bool (Hd.gotH s).aa, .bool (Hd.gotH s).tc, .bool (Hd.gotH s).rd, .bool (Hd.gotH s).ra, .int .i64 (Hd.gotH s).z, .int .i64 (Hd.gotH s).rc] 23)).alloc (.cells #[.int .i64 (Hd.gotC s 4), .int .i64 (Hd.gotC s 6), .int .i64 (Hd.gotC s 8), .int .i64 (Hd.gotC s 10)] 80)).cell? ⟨w.heap.size, 4, none⟩ = some (.bool false) := (blk_cell pp 4).trans rfl
      have x5 : ((w1.alloc (.cells #[.int .i64 (Hd.gotH s).id, .bool (Hd.gotH s).qr, .int .i64 (Hd.gotH s).op, .bool (Hd.gotH s).aa, .bool (Hd.gotH s).tc, .bool (Hd.gotH s).rd, .bool (Hd.gotH s).ra, .int .i64 (Hd.gotH s).z, .int .i64 (Hd.gotH s).rc] 23)).alloc (.cells #[.int .i64 (Hd.gotC s 4), .int .i64 (Hd.gotC s 6), .int .i64 (Hd.gotC s 8), .int .i64 (Hd.gotC s 10)] 80)).cell? ⟨w.heap.size, 5, none⟩ = some (.bool false) := (blk_cell pp 5).trans rfl
      have x6 : ((w1.alloc (.cells #[.int .i64 (Hd.gotH s).id, .bool (Hd.gotH s).qr, .int .i64 (Hd.gotH s).op, .bool (Hd.gotH s).aa, .bool (Hd.gotH s).tc, .bool (Hd.gotH s).rd, .bool (Hd.gotH s).ra, .int .i64 (Hd.gotH s).z, .int .i64 (Hd.gotH s).rc] 23)).alloc (.cells #[.int .i64 (Hd.gotC s 4), .int .i64 (Hd.gotC s 6), .int .i64 (Hd.gotC s 8), .int .i64 (Hd.gotC s 10)] 80)).cell? ⟨w.heap.size, 6, none⟩ = some (.bool false) := (blk_cell pp 6).trans rfl
      have x7 : ((w1.alloc (.cells #[.int .i64 (Hd.gotH s).id, .bool (Hd.gotH s).qr, .int .i64 (Hd.gotH s).op, .bool (Hd.gotH s).aa, .bool (Hd.gotH s).tc, .bool (Hd.gotH s).rd, .bool (Hd.gotH s).ra, .int .i64 (Hd.gotH s).z, .int .i64 (Hd.gotH s).rc] 23)).alloc (.cells #[.int .i64 (Hd.gotC s 4), .int .i64 (Hd.gotC s 6), .int .i64 (Hd.gotC s 8), .int .i64 (Hd.gotC s 10)] 80)).cell? ⟨w.heap.size, 7, none⟩ = some (.int .i64 0) := (blk_cell pp 7).trans rfl
      have x8 : ((w1.alloc (.cells #[.int .i64 (Hd.gotH s).id, .bool (Hd.gotH s).qr, .int .i64 (Hd.gotH s).op, .bool (Hd.gotH s).aa, .bool (Hd.gotH s).tc, .bool (Hd.gotH s).rd, .bool (Hd.gotH s).ra, .int .i64 (Hd.gotH s).z, .int .i64 (Hd.gotH s).rc] 23)).alloc (.cells #[.int .i64 (Hd.gotC s 4), .int .i64 (Hd.gotC s 6), .int .i64 (Hd.gotC s 8), .int .i64 (Hd.gotC s 10)] 80)).cell? ⟨w.heap.size, 8, none⟩ = some (.int .i64 0) := (blk_cell pp 8).trans rfl
      have x9 : ((w1.alloc (.cells #[.int .i64 (Hd.gotH s).id, .bool (Hd.gotH s).qr, .int .i64 (Hd.gotH s).op, .bool (Hd.gotH s).aa, .bool (Hd.gotH s).tc, .bool (Hd.gotH s).rd, .bool (Hd.gotH s).ra, .int .i64 (Hd.gotH s).z, .int .i64 (Hd.gotH s).rc] 23)).alloc (.cells #[.int .i64 (Hd.gotC s 4), .int .i64 (Hd.gotC s 6), .int .i64 (Hd.gotC s 8), .int .i64 (Hd.gotC s 10)] 80)).cell? ⟨w.heap.size, 9, none⟩ = some (.slice none 0 0) := (blk_cell pp 9).trans rfl
      have x10 : ((w1.alloc (.cells #[.int .i64 (Hd.gotH s).id, .bool (Hd.gotH s).qr, .int .i64 (Hd.gotH s).op, .bool (Hd.gotH s).aa, .bool (Hd.gotH s).tc, .bool (Hd.gotH s).rd, .bool (Hd.gotH s).ra, .int .i64 (Hd.gotH s).z, .int .i64 (Hd.gotH s).rc] 23)).alloc (.cells #[.int .i64 (Hd.gotC s 4), .int .i64 (Hd.gotC s 6), .int .i64 (Hd.gotC s 8), .int .i64 (Hd.gotC s 10)] 80)).cell? ⟨w.heap.size, 10, none⟩ = some (.slice none 0 0) := (blk_cell pp 10).trans rfl
      have x11 : ((w1.alloc (.cells #[.int .i64 (Hd.gotH s).id, .bool (Hd.gotH s).qr, .int .i64 (Hd.gotH s).op, .bool (Hd.gotH s).aa, .bool (Hd.gotH s).tc, .bool (Hd.gotH s).rd, .bool (Hd.gotH s).ra, .int .i64 (Hd.gotH s).z, .int .i64 (Hd.gotH s).rc] 23)).alloc (.cells #[.int .i64 (Hd.gotC s 4), .int .i64 (Hd.gotC s 6), .int .i64 (Hd.gotC s 8), .int .i64 (Hd.gotC s 10)] 80)).cell? ⟨w.heap.size, 11, none⟩ = some (.slice none 0 0) := (blk_cell pp 11).trans rfl
      have x12 : ((w1.alloc (.cells #[.int .i64 (Hd.gotH s).id, .bool (Hd.gotH s).qr, .int .i64 (Hd.gotH s).op, .bool (Hd.gotH s).aa, .bool (Hd.gotH s).tc, .bool (Hd.gotH s).rd, .bool (Hd.gotH s).ra, .int .i64 (Hd.gotH s).z, .int .i64 (Hd.gotH s).rc] 23)).alloc (.cells #[.int .i64 (Hd.gotC s 4), .int .i64 (Hd.gotC s 6), .int .i64 (Hd.gotC s 8), .int .i64 (Hd.gotC s 10)] 80)).cell? ⟨w.heap.size, 12, none⟩ = some (.slice none 0 0) := (blk_cell pp 12).trans rfl
      have y0 := blk_frozen pp 0
      have y1 := blk_frozen pp 1
      have y2 := blk_frozen pp 2
      have y3 := blk_frozen pp 3
      have y4 := blk_frozen pp 4
      have y5 := blk_frozen pp 5
      have y6 := blk_frozen pp 6
      have y7 := blk_frozen pp 7
      have y8 := blk_frozen pp 8
      have y9 := blk_frozen pp 9
      have y10 := blk_frozen pp 10
      have y11 := blk_frozen pp 11
      have y12 := blk_frozen pp 12
      have pF := putAll_blk 0 [.int .i64 0, .bool false, .int .i64 0, .bool false, .bool false, .bool false, .bool false, .int .i64 0, .int .i64 0, .slice none 0 0, .slice none 0 0, .slice none 0 0, .slice none 0 0] mz pp (by simp [setAll])
      have GF := putAll_grown (row := none) 0 [.int .i64 0, .bool false, .int .i64 0, .bool false, .bool false, .bool false, .bool false, .int .i64 0, .int .i64 0, .slice none 0 0, .slice none 0 0, .slice none 0 0, .slice none 0 0] (grown_below (BB.trans (((Below.refl w1.heap.size w1).alloc (Nat.le_refl _) (.cells #[.int .i64 (Hd.gotH s).id, .bool (Hd.gotH s).qr, .int .i64 (Hd.gotH s).op, .bool (Hd.gotH s).aa, .bool (Hd.gotH s).tc, .bool (Hd.gotH s).rd, .bool (Hd.gotH s).ra, .int .i64 (Hd.gotH s).z, .int .i64 (Hd.gotH s).rc] 23)).alloc (by simp) (.cells #[.int .i64 (Hd.gotC s 4), .int .i64 (Hd.gotC s 6), .int .i64 (Hd.gotC s 8), .int .i64 (Hd.gotC s 10)] 80) |>.mono BB.size)) none) (Nat.le_refl _)
      simp only [putAll] at pF GF
      have e0 := (blk_cell pF 0).trans rfl
      have e1 := (blk_cell pF 1).trans rfl
      have e2 := (blk_cell pF 2).trans rfl
      have e3 := (blk_cell pF 3).trans rfl
      have e4 := (blk_cell pF 4).trans rfl
      have e5 := (blk_cell pF 5).trans rfl
      have e6 := (blk_cell pF 6).trans rfl
      have e7 := (blk_cell pF 7).trans rfl
      have e8 := (blk_cell pF 8).trans rfl
      have e9 := (blk_cell pF 9).trans rfl
      have e10 := (blk_cell pF 10).trans rfl
      have e11 := (blk_cell pF 11).trans rfl
      have e12 := (blk_cell pF 12).trans rfl
      go_wp2
      exact bodyPost_ret (v := .tuple #[.agg mz, .int .i64 700]) (by simp [results, Try.results35, go_sem, e0, e1, e2, e3, e4, e5, e6, e7, e8, e9, e10, e11, e12]) rfl (post0 s w _ 700 ⟨GF.os, GF.tape, GF.output, GF.size, fun k hk => GF.block k hk (by simp)⟩)
    · have hr := HQ.out
      unfold getV at hr
      rw [if_neg h4, if_neg h12] at hr
      have HR := Lib.hid hr
      have hE : Hd.gotE s = 0 := Hd.gotE_yes (by omega)
      have hC := fun k => Hd.gotC_yes (s := s) (by omega) k
      rw [hE, Hd.gotH_yes (by omega), hC, hC, hC, hC] at kg
      clear HQ hr
      go_enter Try.func35, Try.ntmps35
      go_wp2_with fail
      refine kg.mono ?_
      rintro e w1 ⟨rfl, B1⟩
      have p1 := blk_below pz B1
      have BB := Bp.trans (B1.mono (by omega))
      clear kg pz Bp B1
      go_upto_region 7 with (fail)
      obtain ⟨⟨oq, rq⟩, hlq, hr2⟩ := Option.bind_eq_some_iff.1 HR.out
      have HR2 := Lib.hid hr2
      clear hr2 HR
      have hs4 : s.size ≤ 4096 := by omega
      have bd4 := be2_bd s 4
      have B0 : Below w1.heap.size w1 (((w1.alloc (.cells #[.int .i64 (Hd.getH s).id, .bool (Hd.getH s).qr, .int .i64 (Hd.getH s).op, .bool (Hd.getH s).aa, .bool (Hd.getH s).tc, .bool (Hd.getH s).rd, .bool (Hd.getH s).ra, .int .i64 (Hd.getH s).z, .int .i64 (Hd.getH s).rc] 23)).alloc (.cells #[.int .i64 (be2 s 4), .int .i64 (be2 s 6), .int .i64 (be2 s 8), .int .i64 (be2 s 10)] 80)).alloc (.cells #[.string s, .int .i64 12, .bool false] 120)) := (((Below.refl _ _).alloc (Nat.le_refl _) _).alloc (by simp) _).alloc (by simp; omega) _
      have bh : (((w1.alloc (.cells #[.int .i64 (Hd.getH s).id, .bool (Hd.getH s).qr, .int .i64 (Hd.getH s).op, .bool (Hd.getH s).aa, .bool (Hd.getH s).tc, .bool (Hd.getH s).rd, .bool (Hd.getH s).ra, .int .i64 (Hd.getH s).z, .int .i64 (Hd.getH s).rc] 23)).alloc (.cells #[.int .i64 (be2 s 4), .int .i64 (be2 s 6), .int .i64 (be2 s 8), .int .i64 (be2 s 10)] 80)).alloc (.cells #[.string s, .int .i64 12, .bool false] 120)).heap[w1.heap.size]? = some (.cells #[.int .i64 (Hd.getH s).id, .bool (Hd.getH s).qr, .int .i64 (Hd.getH s).op, .bool (Hd.getH s).aa, .bool (Hd.getH s).tc, .bool (Hd.getH s).rd, .bool (Hd.getH s).ra, .int .i64 (Hd.getH s).z, .int .i64 (Hd.getH s).rc] 23 (0, 0)) := Go.Proofs.YtjklgdpffmaamaaW.PrintWords.blk_alloc (Go.Proofs.YtjklgdpffmaamaaW.PrintWords.blk_alloc (blk_new w1 _) _) _
      have bc : (((w1.alloc (.cells #[.int .i64 (Hd.getH s).id, .bool (Hd.getH s).qr, .int .i64 (Hd.getH s).op, .bool (Hd.getH s).aa, .bool (Hd.getH s).tc, .bool (Hd.getH s).rd, .bool (Hd.getH s).ra, .int .i64 (Hd.getH s).z, .int .i64 (Hd.getH s).rc] 23)).alloc (.cells #[.int .i64 (be2 s 4), .int .i64 (be2 s 6), .int .i64 (be2 s 8), .int .i64 (be2 s 10)] 80)).alloc (.cells #[.string s, .int .i64 12, .bool false] 120)).heap[w1.heap.size + 1]? = some (.cells #[.int .i64 (be2 s 4), .int .i64 (be2 s 6), .int .i64 (be2 s 8), .int .i64 (be2 s 10)] 80 (0, 0)) := by
        refine Go.Proofs.YtjklgdpffmaamaaW.PrintWords.blk_alloc ?_ _
        have := blk_new (w1.alloc (.cells #[.int .i64 (Hd.getH s).id, .bool (Hd.getH s).qr, .int .i64 (Hd.getH s).op, .bool (Hd.getH s).aa, .bool (Hd.getH s).tc, .bool (Hd.getH s).rd, .bool (Hd.getH s).ra, .int .i64 (Hd.getH s).z, .int .i64 (Hd.getH s).rc] 23)) (.cells #[.int .i64 (be2 s 4), .int .i64 (be2 s 6), .int .i64 (be2 s 8), .int .i64 (be2 s 10)] 80)
        simpa using this
      have bg : (((w1.alloc (.cells #[.int .i64 (Hd.getH s).id, .bool (Hd.getH s).qr, .int .i64 (Hd.getH s).op, .bool (Hd.getH s).aa, .bool (Hd.getH s).tc, .bool (Hd.getH s).rd, .bool (Hd.getH s).ra, .int .i64 (Hd.getH s).z, .int .i64 (Hd.getH s).rc] 23)).alloc (.cells #[.int .i64 (be2 s 4), .int .i64 (be2 s 6), .int .i64 (be2 s 8), .int .i64 (be2 s 10)] 80)).alloc (.cells #[.string s, .int .i64 12, .bool false] 120)).heap[w1.heap.size + 1 + 1]? = some (.cells #[.string s, .int .i64 12, .bool false] 120 (0, 0)) := by
        have := blk_new ((w1.alloc (.cells #[.int .i64 (Hd.getH s).id, .bool (Hd.getH s).qr, .int .i64 (Hd.getH s).op, .bool (Hd.getH s).aa, .bool (Hd.getH s).tc, .bool (Hd.getH s).rd, .bool (Hd.getH s).ra, .int .i64 (Hd.getH s).z, .int .i64 (Hd.getH s).rc] 23)).alloc (.cells #[.int .i64 (be2 s 4), .int .i64 (be2 s 6), .int .i64 (be2 s 8), .int .i64 (be2 s 10)] 80)) (.cells #[.string s, .int .i64 12, .bool false] 120)
        simpa using this
      have p0 := blk_below p1 B0
      have BB0 := BB.trans (B0.mono BB.size)
      have hgw : w.heap.size ≤ w1.heap.size + 1 + 1 := by have := BB.size; omega
      have hcg : w1.heap.size + 1 ≠ w1.heap.size + 1 + 1 := by omega
      have hhg : w1.heap.size ≠ w1.heap.size + 1 + 1 := by omega
      have hpg : w.heap.size ≠ w1.heap.size + 1 + 1 := by have := BB.size; omega
      clear p1 BB B0 sp
      generalize (((w1.alloc (.cells #[.int .i64 (Hd.getH s).id, .bool (Hd.getH s).qr, .int .i64 (Hd.getH s).op, .bool (Hd.getH s).aa, .bool (Hd.getH s).tc, .bool (Hd.getH s).rd, .bool (Hd.getH s).ra, .int .i64 (Hd.getH s).z, .int .i64 (Hd.getH s).rc] 23)).alloc (.cells #[.int .i64 (be2 s 4), .int .i64 (be2 s 6), .int .i64 (be2 s 8), .int .i64 (be2 s 10)] 80)).alloc (.cells #[.string s, .int .i64 12, .bool false] 120)) = W0 at *
      generalize w1.heap.size + 1 + 1 = g at *
      generalize w1.heap.size + 1 = kc at *
      generalize w1.heap.size = kh at *
      have RG : RdAt W0 g s ⟨12, false⟩ := ⟨bg⟩
      have h0 : W0.cell? ⟨kh, 0, none⟩ = some (.int .i64 (Hd.getH s).id) := (blk_cell bh 0).trans rfl
      have h1 : W0.cell? ⟨kh, 1, none⟩ = some (.bool (Hd.getH s).qr) := (blk_cell bh 1).trans rfl
      have h2 : W0.cell? ⟨kh, 2, none⟩ = some (.int .i64 (Hd.getH s).op) := (blk_cell bh 2).trans rfl
      have h3 : W0.cell? ⟨kh, 3, none⟩ = some (.bool (Hd.getH s).aa) := (blk_cell bh 3).trans rfl
      have h4 : W0.cell? ⟨kh, 4, none⟩ = some (.bool (Hd.getH s).tc) := (blk_cell bh 4).trans rfl
      have h5 : W0.cell? ⟨kh, 5, none⟩ = some (.bool (Hd.getH s).rd) := (blk_cell bh 5).trans rfl
      have h6 : W0.cell? ⟨kh, 6, none⟩ = some (.bool (Hd.getH s).ra) := (blk_cell bh 6).trans rfl
      have h7 : W0.cell? ⟨kh, 7, none⟩ = some (.int .i64 (Hd.getH s).z) := (blk_cell bh 7).trans rfl
      have h8 : W0.cell? ⟨kh, 8, none⟩ = some (.int .i64 (Hd.getH s).rc) := (blk_cell bh 8).trans rfl
      have h9 : W0.cell? ⟨kc, 0, none⟩ = some (.int .i64 (be2 s 4)) := (blk_cell bc 0).trans rfl
      have Dh := blk_below bh ((Below.refl W0.heap.size W0).alloc (Nat.le_refl _) (.cells mz 27))
      have Dc := blk_below bc ((Below.refl W0.heap.size W0).alloc (Nat.le_refl _) (.cells mz 27))
      have ha0 : (W0.alloc (.cells mz 27)).cell? ⟨kh, 0, none⟩ = some (.int .i64 (Hd.getH s).id) := (blk_cell Dh 0).trans rfl
      have ha1 : (W0.alloc (.cells mz 27)).cell? ⟨kh, 1, none⟩ = some (.bool (Hd.getH s).qr) := (blk_cell Dh 1).trans rfl
      have ha2 : (W0.alloc (.cells mz 27)).cell? ⟨kh, 2, none⟩ = some (.int .i64 (Hd.getH s).op) := (blk_cell Dh 2).trans rfl
      have ha3 : (W0.alloc (.cells mz 27)).cell? ⟨kh, 3, none⟩ = some (.bool (Hd.getH s).aa) := (blk_cell Dh 3).trans rfl
      have ha4 : (W0.alloc (.cells mz 27)).cell? ⟨kh, 4, none⟩ = some (.bool (Hd.getH s).tc) := (blk_cell Dh 4).trans rfl
      have ha5 : (W0.alloc (.cells mz 27)).cell? ⟨kh, 5, none⟩ = some (.bool (Hd.getH s).rd) := (blk_cell Dh 5).trans rfl
      have ha6 : (W0.alloc (.cells mz 27)).cell? ⟨kh, 6, none⟩ = some (.bool (Hd.getH s).ra) := (blk_cell Dh 6).trans rfl
      have ha7 : (W0.alloc (.cells mz 27)).cell? ⟨kh, 7, none⟩ = some (.int .i64 (Hd.getH s).z) := (blk_cell Dh 7).trans rfl
      have ha8 : (W0.alloc (.cells mz 27)).cell? ⟨kh, 8, none⟩ = some (.int .i64 (Hd.getH s).rc) := (blk_cell Dh 8).trans rfl
      have ha9 : (W0.alloc (.cells mz 27)).cell? ⟨kc, 0, none⟩ = some (.int .i64 (be2 s 4)) := (blk_cell Dc 0).trans rfl
      have nw0 := World.new_ne W0 ⟨kh, 0, none⟩ h0
      have nw1 := World.new_ne W0 ⟨kh, 1, none⟩ h1
      have nw2 := World.new_ne W0 ⟨kh, 2, none⟩ h2
      have nw3 := World.new_ne W0 ⟨kh, 3, none⟩ h3
      have nw4 := World.new_ne W0 ⟨kh, 4, none⟩ h4
      have nw5 := World.new_ne W0 ⟨kh, 5, none⟩ h5
      have nw6 := World.new_ne W0 ⟨kh, 6, none⟩ h6
      have nw7 := World.new_ne W0 ⟨kh, 7, none⟩ h7
      have nw8 := World.new_ne W0 ⟨kh, 8, none⟩ h8
      have nw9 := World.new_ne W0 ⟨kc, 0, none⟩ h9
      have Dd : Below W0.heap.size W0 W0.drew := (Below.refl _ _).drew
      have De : Below W0.heap.size W0 (W0.alloc (.cells mz 27)).drew := ((Below.refl _ _).alloc (Nat.le_refl _) _).drew
      have hn4 : (((be2 s 4).toNat : Nat) : Int) = be2 s 4 := by omega
      have kqd := listQc (RG.below Dd) hs4 (be2 s 4).toNat (by omega) hlq
      have kqe := listQc (RG.below De) hs4 (be2 s 4).toNat (by omega) hlq
      rw [hn4] at kqd kqe
      have bhd := blk_below bh Dd
      have bcd := blk_below bc Dd
      have bhe := blk_below bh De
      have bce := blk_below bc De
      have p0d := blk_below p0 Dd
      have p0e := blk_below p0 De
      have kke : (W0.alloc (.cells mz 27)).drew.heap[W0.heap.size]? = some (.cells mz 27 (0, 0)) := blk_new W0 _
      have hgW : g ≠ W0.heap.size := Nat.ne_of_lt (blk_lt bg)
      have FQ : ∀ (W w3 : World), W.heap[kh]? = some (.cells #[.int .i64 (Hd.getH s).id, .bool (Hd.getH s).qr, .int .i64 (Hd.getH s).op, .bool (Hd.getH s).aa, .bool (Hd.getH s).tc, .bool (Hd.getH s).rd, .bool (Hd.getH s).ra, .int .i64 (Hd.getH s).z, .int .i64 (Hd.getH s).rc] 23 (0, 0)) → W.heap[kc]? = some (.cells #[.int .i64 (be2 s 4), .int .i64 (be2 s 6), .int .i64 (be2 s 8), .int .i64 (be2 s 10)] 80 (0, 0)) → W.grownBy w3 (some g) → w3.cell? ⟨kh, 0, none⟩ = some (.int .i64 (Hd.getH s).id) ∧ w3.cell? ⟨kh, 1, none⟩ = some (.bool (Hd.getH s).qr) ∧ w3.cell? ⟨kh, 2, none⟩ = some (.int .i64 (Hd.getH s).op) ∧ w3.cell? ⟨kh, 3, none⟩ = some (.bool (Hd.getH s).aa) ∧ w3.cell? ⟨kh, 4, none⟩ = some (.bool (Hd.getH s).tc) ∧ w3.cell? ⟨kh, 5, none⟩ = some (.bool (Hd.getH s).rd) ∧ w3.cell? ⟨kh, 6, none⟩ = some (.bool (Hd.getH s).ra) ∧ w3.cell? ⟨kh, 7, none⟩ = some (.int .i64 (Hd.getH s).z) ∧ w3.cell? ⟨kh, 8, none⟩ = some (.int .i64 (Hd.getH s).rc) ∧ w3.cell? ⟨kc, 0, none⟩ = some (.int .i64 (be2 s 4)) := fun W w3 a b G => by
        have a' := blk_grown a G (by intro q; injection q with q; exact hhg q)
        have b' := blk_grown b G (by intro q; injection q with q; exact hcg q)
        exact ⟨(blk_cell a' 0).trans rfl, (blk_cell a' 1).trans rfl, (blk_cell a' 2).trans rfl, (blk_cell a' 3).trans rfl, (blk_cell a' 4).trans rfl, (blk_cell a' 5).trans rfl, (blk_cell a' 6).trans rfl, (blk_cell a' 7).trans rfl, (blk_cell a' 8).trans rfl, (blk_cell b' 0).trans rfl⟩
      have FK : ∀ (W w3 : World), W.heap[W0.heap.size]? = some (.cells mz 27 (0, 0)) → W.grownBy w3 (some g) → w3.heap[W0.heap.size]? = some (.cells mz 27 (0, 0)) ∧ w3.cell? ⟨W0.heap.size, 0, none⟩ = some (.int .i64 0) ∧ w3.cell? ⟨W0.heap.size, 1, none⟩ = some (.bool false) ∧ w3.cell? ⟨W0.heap.size, 2, none⟩ = some (.int .i64 0) ∧ w3.cell? ⟨W0.heap.size, 3, none⟩ = some (.bool false) ∧ w3.cell? ⟨W0.heap.size, 4, none⟩ = some (.bool false) ∧ w3.cell? ⟨W0.heap.size, 5, none⟩ = some (.bool false) ∧ w3.cell? ⟨W0.heap.size, 6, none⟩ = some (.bool false) ∧ w3.cell? ⟨W0.heap.size, 7, none⟩ = some (.int .i64 0) ∧ w3.cell? ⟨W0.heap.size, 8, none⟩ = some (.int .i64 0) ∧ w3.cell? ⟨W0.heap.size, 9, none⟩ = some (.slice none 0 0) ∧ w3.cell? ⟨W0.heap.size, 10, none⟩ = some (.slice none 0 0) ∧ w3.cell? ⟨W0.heap.size, 11, none⟩ = some (.slice none 0 0) ∧ w3.cell? ⟨W0.heap.size, 12, none⟩ = some (.slice none 0 0) ∧ w3.frozen? ⟨W0.heap.size, 0, none⟩ = false ∧ w3.frozen? ⟨W0.heap.size, 1, none⟩ = false ∧ w3.frozen? ⟨W0.heap.size, 2, none⟩ = false ∧ w3.frozen? ⟨W0.heap.size, 3, none⟩ = false ∧ w3.frozen? ⟨W0.heap.size, 4, none⟩ = false ∧ w3.frozen? ⟨W0.heap.size, 5, none⟩ = false ∧ w3.frozen? ⟨W0.heap.size, 6, none⟩ = false ∧ w3.frozen? ⟨W0.heap.size, 7, none⟩ = false ∧ w3.frozen? ⟨W0.heap.size, 8, none⟩ = false ∧ w3.frozen? ⟨W0.heap.size, 9, none⟩ = false ∧ w3.frozen? ⟨W0.heap.size, 10, none⟩ = false ∧ w3.frozen? ⟨W0.heap.size, 11, none⟩ = false ∧ w3.frozen? ⟨W0.heap.size, 12, none⟩ = false := fun W w3 a G => by
        have a' := blk_grown a G (by intro q; injection q with q; exact hgW q.symm)
        exact ⟨a', (blk_cell a' 0).trans rfl, (blk_cell a' 1).trans rfl, (blk_cell a' 2).trans rfl, (blk_cell a' 3).trans rfl, (blk_cell a' 4).trans rfl, (blk_cell a' 5).trans rfl, (blk_cell a' 6).trans rfl, (blk_cell a' 7).trans rfl, (blk_cell a' 8).trans rfl, (blk_cell a' 9).trans rfl, (blk_cell a' 10).trans rfl, (blk_cell a' 11).trans rfl, (blk_cell a' 12).trans rfl, blk_frozen a' 0, blk_frozen a' 1, blk_frozen a' 2, blk_frozen a' 3, blk_frozen a' 4, blk_frozen a' 5, blk_frozen a' 6, blk_frozen a' 7, blk_frozen a' 8, blk_frozen a' 9, blk_frozen a' 10, blk_frozen a' 11, blk_frozen a' 12⟩
      have F1 : ∀ (w3 : World) (vq : Value) (b : Nat), W0.heap.size ≤ b → w3.ownsRow b 40 3 vq oq.length (cellsQ oq) → RdAt w3 g s rq → w3.heap[w.heap.size]? = some (.cells mz 27 (0, 0)) → w3.heap[kc]? = some (.cells #[.int .i64 (be2 s 4), .int .i64 (be2 s 6), .int .i64 (be2 s 8), .int .i64 (be2 s 10)] 80 (0, 0)) → W0.grownBy w3 (some g) → ∃ W, W = w3.alloc (.cells #[.int .i64 (Hd.getH s).id, .bool (Hd.getH s).qr, .int .i64 (Hd.getH s).op, .bool (Hd.getH s).aa, .bool (Hd.getH s).tc, .bool (Hd.getH s).rd, .bool (Hd.getH s).ra, .int .i64 (Hd.getH s).z, .int .i64 (Hd.getH s).rc, vq, .slice none 0 0, .slice none 0 0, .slice none 0 0] 27) ∧ W.heap[w3.heap.size]? = some (.cells #[.int .i64 (Hd.getH s).id, .bool (Hd.getH s).qr, .int .i64 (Hd.getH s).op, .bool (Hd.getH s).aa, .bool (Hd.getH s).tc, .bool (Hd.getH s).rd, .bool (Hd.getH s).ra, .int .i64 (Hd.getH s).z, .int .i64 (Hd.getH s).rc, vq, .slice none 0 0, .slice none 0 0, .slice none 0 0] 27 (0, 0)) ∧ W0.heap.size ≤ w3.heap.size ∧ W.ownsRow W0.heap.size 40 3 vq oq.length (cellsQ oq) ∧ RdAt W g s rq ∧ W.heap[w.heap.size]? = some (.cells mz 27 (0, 0)) ∧ W.heap[kc]? = some (.cells #[.int .i64 (be2 s 4), .int .i64 (be2 s 6), .int .i64 (be2 s 8), .int .i64 (be2 s 10)] 80 (0, 0)) ∧ W0.grownBy W (some g) := by
        intro w3 vq b hle ho H p c G
        have Bz : Below w3.heap.size w3 (w3.alloc (.cells #[.int .i64 (Hd.getH s).id, .bool (Hd.getH s).qr, .int .i64 (Hd.getH s).op, .bool (Hd.getH s).aa, .bool (Hd.getH s).tc, .bool (Hd.getH s).rd, .bool (Hd.getH s).ra, .int .i64 (Hd.getH s).z, .int .i64 (Hd.getH s).rc, vq, .slice none 0 0, .slice none 0 0, .slice none 0 0] 27)) := (Below.refl _ _).alloc (Nat.le_refl _) _
        exact ⟨_, rfl, blk_new w3 _, G.size, Sl.own_below (own_lower ho hle) Bz, H.below Bz, blk_below p Bz, blk_below c Bz, grown_alloc' G _⟩
      have F2 : ∀ (w3 : World) (vq : Value) (b : Nat), W0.heap.size ≤ b → w3.ownsRow b 40 3 vq oq.length (cellsQ oq) → RdAt w3 g s rq → w3.heap[W0.heap.size]? = some (.cells mz 27 (0, 0)) → w3.heap[w.heap.size]? = some (.cells mz 27 (0, 0)) → w3.heap[kc]? = some (.cells #[.int .i64 (be2 s 4), .int .i64 (be2 s 6), .int .i64 (be2 s 8), .int .i64 (be2 s 10)] 80 (0, 0)) → W0.grownBy w3 (some g) → (putAll w3 W0.heap.size 0 [.int .i64 (Hd.getH s).id, .bool (Hd.getH s).qr, .int .i64 (Hd.getH s).op, .bool (Hd.getH s).aa, .bool (Hd.getH s).tc, .bool (Hd.getH s).rd, .bool (Hd.getH s).ra, .int .i64 (Hd.getH s).z, .int .i64 (Hd.getH s).rc, vq, .slice none 0 0, .slice none 0 0, .slice none 0 0]).heap[W0.heap.size]? = some (.cells #[.int .i64 (Hd.getH s).id, .bool (Hd.getH s).qr, .int .i64 (Hd.getH s).op, .bool (Hd.getH s).aa, .bool (Hd.getH s).tc, .bool (Hd.getH s).rd, .bool (Hd.getH s).ra, .int .i64 (Hd.getH s).z, .int .i64 (Hd.getH s).rc, vq, .slice none 0 0, .slice none 0 0, .slice none 0 0] 27 (0, 0)) ∧ (putAll w3 W0.heap.size 0 [.int .i64 (Hd.getH s).id, .bool (Hd.getH s).qr, .int .i64 (Hd.getH s).op, .bool (Hd.getH s).aa, .bool (Hd.getH s).tc, .bool (Hd.getH s).rd, .bool (Hd.getH s).ra, .int .i64 (Hd.getH s).z, .int .i64 (Hd.getH s).rc, vq, .slice none 0 0, .slice none 0 0, .slice none 0 0]).ownsRow W0.heap.size 40 3 vq oq.length (cellsQ oq) ∧ RdAt (putAll w3 W0.heap.size 0 [.int .i64 (Hd.getH s).id, .bool (Hd.getH s).qr, .int .i64 (Hd.getH s).op, .bool (Hd.getH s).aa, .bool (Hd.getH s).tc, .bool (Hd.getH s).rd, .bool (Hd.getH s).ra, .int .i64 (Hd.getH s).z, .int .i64 (Hd.getH s).rc, vq, .slice none 0 0, .slice none 0 0, .slice none 0 0]) g s rq ∧ (putAll w3 W0.heap.size 0 [.int .i64 (Hd.getH s).id, .bool (Hd.getH s).qr, .int .i64 (Hd.getH s).op, .bool (Hd.getH s).aa, .bool (Hd.getH s).tc, .bool (Hd.getH s).rd, .bool (Hd.getH s).ra, .int .i64 (Hd.getH s).z, .int .i64 (Hd.getH s).rc, vq, .slice none 0 0, .slice none 0 0, .slice none 0 0]).heap[w.heap.size]? = some (.cells mz 27 (0, 0)) ∧ (putAll w3 W0.heap.size 0 [.int .i64 (Hd.getH s).id, .bool (Hd.getH s).qr, .int .i64 (Hd.getH s).op, .bool (Hd.getH s).aa, .bool (Hd.getH s).tc, .bool (Hd.getH s).rd, .bool (Hd.getH s).ra, .int .i64 (Hd.getH s).z, .int .i64 (Hd.getH s).rc, vq, .slice none 0 0, .slice none 0 0, .slice none 0 0]).heap[kc]? = some (.cells #[.int .i64 (be2 s 4), .int .i64 (be2 s 6), .int .i64 (be2 s 8), .int .i64 (be2 s 10)] 80 (0, 0)) ∧ W0.grownBy (putAll w3 W0.heap.size 0 [.int .i64 (Hd.getH s).id, .bool (Hd.getH s).qr, .int .i64 (Hd.getH s).op, .bool (Hd.getH s).aa, .bool (Hd.getH s).tc, .bool (Hd.getH s).rd, .bool (Hd.getH s).ra, .int .i64 (Hd.getH s).z, .int .i64 (Hd.getH s).rc, vq, .slice none 0 0, .slice none 0 0, .slice none 0 0]) (some g) := by
        intro w3 vq b hle ho H k p c G
        have hne := own_ne ho k (by decide)
        have hpW : w.heap.size ≠ W0.heap.size := Nat.ne_of_lt (blk_lt p0)
        have hcW : kc ≠ W0.heap.size := Nat.ne_of_lt (blk_lt bc)
        exact ⟨putAll_blk 0 _ _ k (by simp [setAll]), putAll_own 0 _ (own_lower ho hle) hne, ⟨(putAll_ne 0 _ hgW).trans H.blk⟩, (putAll_ne 0 _ hpW).trans p, (putAll_ne 0 _ hcW).trans c, putAll_grown 0 _ G (Nat.le_refl _)⟩
      have P3 : ∀ (W w3 : World), W.heap[w.heap.size]? = some (.cells mz 27 (0, 0)) → W.grownBy w3 (some g) → w3.heap[w.heap.size]? = some (.cells mz 27 (0, 0)) := fun W w3 h G => blk_grown h G (by intro q; injection q with q; exact hpg q)
      have C3 : ∀ (W w3 : World), W.heap[kc]? = some (.cells #[.int .i64 (be2 s 4), .int .i64 (be2 s 6), .int .i64 (be2 s 8), .int .i64 (be2 s 10)] 80 (0, 0)) → W.grownBy w3 (some g) → w3.heap[kc]? = some (.cells #[.int .i64 (be2 s 4), .int .i64 (be2 s 6), .int .i64 (be2 s 8), .int .i64 (be2 s 10)] 80 (0, 0)) := fun W w3 h G => blk_grown h G (by intro q; injection q with q; exact hcg q)
      have GWd := grown_below Dd (some g)
      have GWe := grown_below De (some g)
      have HF1 := Lib.hid F1
      have HF2 := Lib.hid F2
      have HP3 := Lib.hid P3
      have HC3 := Lib.hid C3
      clear F1 F2 P3 C3
      go_cut [8] (fun v8 wc => ∃ km vq, v8 = .pointer (some ⟨km, 0, none⟩) ∧ wc.heap[km]? = some (.cells #[.int .i64 (Hd.getH s).id, .bool (Hd.getH s).qr, .int .i64 (Hd.getH s).op, .bool (Hd.getH s).aa, .bool (Hd.getH s).tc, .bool (Hd.getH s).rd, .bool (Hd.getH s).ra, .int .i64 (Hd.getH s).z, .int .i64 (Hd.getH s).rc, vq, .slice none 0 0, .slice none 0 0, .slice none 0 0] 27 (0, 0)) ∧ W0.heap.size ≤ km ∧ wc.ownsRow W0.heap.size 40 3 vq oq.length (cellsQ oq) ∧ RdAt wc g s rq ∧ wc.heap[w.heap.size]? = some (.cells mz 27 (0, 0)) ∧ wc.heap[kc]? = some (.cells #[.int .i64 (be2 s 4), .int .i64 (be2 s 6), .int .i64 (be2 s 8), .int .i64 (be2 s 10)] 80 (0, 0)) ∧ W0.grownBy wc (some g))
      case first =>
        go_region_held3 (fun w' => w'.cell? ⟨kh, 0, none⟩ = some (.int .i64 (Hd.getH s).id) ∧ w'.cell? ⟨kh, 1, none⟩ = some (.bool (Hd.getH s).qr) ∧ w'.cell? ⟨kh, 2, none⟩ = some (.int .i64 (Hd.getH s).op) ∧ w'.cell? ⟨kh, 3, none⟩ = some (.bool (Hd.getH s).aa) ∧ w'.cell? ⟨kh, 4, none⟩ = some (.bool (Hd.getH s).tc) ∧ w'.cell? ⟨kh, 5, none⟩ = some (.bool (Hd.getH s).rd) ∧ w'.cell? ⟨kh, 6, none⟩ = some (.bool (Hd.getH s).ra) ∧ w'.cell? ⟨kh, 7, none⟩ = some (.int .i64 (Hd.getH s).z) ∧ w'.cell? ⟨kh, 8, none⟩ = some (.int .i64 (Hd.getH s).rc) ∧ w'.cell? ⟨kc, 0, none⟩ = some (.int .i64 (be2 s 4)))
          (first | with_reducible exact ⟨h0, h1, h2, h3, h4, h5, h6, h7, h8, h9⟩ | with_reducible exact ⟨ha0, ha1, ha2, ha3, ha4, ha5, ha6, ha7, ha8, ha9⟩ | with_reducible exact ⟨i0, i1, i2, i3, i4, i5, i6, i7, i8, i9⟩ | (go_keep; done))
          (first
            | (go_at_call 65; with_reducible refine kqd.mono ?_; rintro e w3 ⟨vq, rfl, hown, H3, G3⟩; obtain ⟨A3, c3, rfl⟩ := Sl.own_slice hown; obtain ⟨i0, i1, i2, i3, i4, i5, i6, i7, i8, i9⟩ := FQ _ _ bhd bcd G3; have nv0 := World.new_ne w3 ⟨kh, 0, none⟩ i0; have nv1 := World.new_ne w3 ⟨kh, 1, none⟩ i1; have nv2 := World.new_ne w3 ⟨kh, 2, none⟩ i2; have nv3 := World.new_ne w3 ⟨kh, 3, none⟩ i3; have nv4 := World.new_ne w3 ⟨kh, 4, none⟩ i4; have nv5 := World.new_ne w3 ⟨kh, 5, none⟩ i5; have nv6 := World.new_ne w3 ⟨kh, 6, none⟩ i6; have nv7 := World.new_ne w3 ⟨kh, 7, none⟩ i7; have nv8 := World.new_ne w3 ⟨kh, 8, none⟩ i8; have nv9 := World.new_ne w3 ⟨kc, 0, none⟩ i9)
            | (go_at_call 65; with_reducible refine kqe.mono ?_; rintro e w3 ⟨vq, rfl, hown, H3, G3⟩; obtain ⟨A3, c3, rfl⟩ := Sl.own_slice hown; obtain ⟨i0, i1, i2, i3, i4, i5, i6, i7, i8, i9⟩ := FQ _ _ bhe bce G3; have nv0 := World.new_ne w3 ⟨kh, 0, none⟩ i0; have nv1 := World.new_ne w3 ⟨kh, 1, none⟩ i1; have nv2 := World.new_ne w3 ⟨kh, 2, none⟩ i2; have nv3 := World.new_ne w3 ⟨kh, 3, none⟩ i3; have nv4 := World.new_ne w3 ⟨kh, 4, none⟩ i4; have nv5 := World.new_ne w3 ⟨kh, 5, none⟩ i5; have nv6 := World.new_ne w3 ⟨kh, 6, none⟩ i6; have nv7 := World.new_ne w3 ⟨kh, 7, none⟩ i7; have nv8 := World.new_ne w3 ⟨kh, 8, none⟩ i8; have nv9 := World.new_ne w3 ⟨kc, 0, none⟩ i9; obtain ⟨k3, m0, m1, m2, m3, m4, m5, m6, m7, m8, m9, m10, m11, m12, n0, n1, n2, n3, n4, n5, n6, n7, n8, n9, n10, n11, n12⟩ := FK _ _ kke G3))
        all_goals
          go_wp2_with fail
          go_meet
          case rel =>
            first
            | (have hk3 := k3
               have hp3 := HP3.out (W0.alloc (.cells mz 27)).drew w3 p0e G3
               have hc3 := HC3.out (W0.alloc (.cells mz 27)).drew w3 bce G3
               have hg3 := GWe.trans G3
               have key := HF2.out w3 _ _ (by simp) hown H3 hk3 hp3 hc3 hg3
               simp only [putAll] at key
               obtain ⟨a, b, c, d, e, f⟩ := key
               exact ⟨W0.heap.size, _, rfl, a, Nat.le_refl _, b, c, d, e, f⟩)
            | (have hp3 := HP3.out W0.drew w3 p0d G3
               have hc3 := HC3.out W0.drew w3 bcd G3
               have hg3 := GWd.trans G3
               obtain ⟨W, hW, a, b', b, c, d, e, f⟩ := HF1.out w3 _ _ (Nat.le_refl _) hown H3 hp3 hc3 hg3
               rw [← hW]
               exact ⟨w3.heap.size, _, rfl, a, b', b, c, d, e, f⟩)
      case rest =>
      obtain ⟨km, vq, rfl, bm, hkm, ho, H3, p3, c3, G3⟩ := hcut
      clear HF1 HF2 HP3 HC3 FQ FK kqd kqe h0 h1 h2 h3 h4 h5 h6 h7 h8 h9 ha0 ha1 ha2 ha3 ha4 ha5 ha6 ha7 ha8 ha9 nw0 nw1 nw2 nw3 nw4 nw5 nw6 nw7 nw8 nw9 RG Dh Dc Dd De bhd bcd bhe bce p0d p0e kke GWd GWe
      have hmg : g ≠ km := by have := blk_lt bg; omega
      have hcm : kc ≠ km := by have := blk_lt bc; omega
      have hpm : w.heap.size ≠ km := by have := blk_lt p0; omega
      have ip0 : ∀ W, (Instr.index 125 (.agg #[.pointer (some ⟨km, 10, none⟩), .pointer (some ⟨km, 11, none⟩), .pointer (some ⟨km, 12, none⟩)]) (.int .i64 0)).run Try.prog W = .ok (.pointer (some ⟨km, 10, none⟩)) W := fun _ => by kernel_rfl
      have ip1 : ∀ W, (Instr.index 125 (.agg #[.pointer (some ⟨km, 10, none⟩), .pointer (some ⟨km, 11, none⟩), .pointer (some ⟨km, 12, none⟩)]) (.int .i64 1)).run Try.prog W = .ok (.pointer (some ⟨km, 11, none⟩)) W := fun _ => by kernel_rfl
      have ip2 : ∀ W, (Instr.index 125 (.agg #[.pointer (some ⟨km, 10, none⟩), .pointer (some ⟨km, 11, none⟩), .pointer (some ⟨km, 12, none⟩)]) (.int .i64 2)).run Try.prog W = .ok (.pointer (some ⟨km, 12, none⟩)) W := fun _ => by kernel_rfl
      obtain ⟨⟨oa, ra⟩, hla, hr3⟩ := Option.bind_eq_some_iff.1 HR2.out
      obtain ⟨⟨on, rn⟩, hln, hr4⟩ := Option.bind_eq_some_iff.1 hr3
      obtain ⟨⟨orr, rr⟩, hlr, hr5⟩ := Option.bind_eq_some_iff.1 hr4
      have HR5 := Lib.hid hr5
      clear hr3 hr4 hr5 HR2
      obtain ⟨Aq, cq, rfl⟩ := Sl.own_slice ho
      go_upto_region 9 with (fail)
      refine wp_loop_rounds 4 ?_
      have bd0 := be2_bd s 6
      have hk0 : (((be2 s 6).toNat : Nat) : Int) = be2 s 6 := by omega
      have kr0 := listRc H3 hs4 (be2 s 6).toNat (by omega) hla
      rw [hk0] at kr0
      have cx0 : wc.cell? ⟨kc, 1, none⟩ = some (.int .i64 (be2 s 6)) := (blk_cell c3 1).trans rfl
      rw [rounds_succ]
      go_wp2_with fail
      refine kr0.mono ?_
      rintro e5 wl0 ⟨vl0, rfl, hol0, HL0, GL0⟩
      obtain ⟨A0, c0x, rfl⟩ := Sl.own_slice hol0
      have bl0 := blk_grown bm GL0 (by intro q; injection q with q; exact hmg q.symm)
      have cl0 := blk_grown c3 GL0 (by intro q; injection q with q; exact hcg q)
      have pl0 := blk_grown p3 GL0 (by intro q; injection q with q; exact hpg q)
      replace ho := own_other ho GL0 (.inr (Ne.symm (own_ne ho H3.blk (by decide))))
      have lt0 := Lib.hid (own_lt hol0)
      have xm0 : wl0.cell? ⟨km, 10, none⟩ = some (.slice none 0 0) := (blk_cell bl0 10).trans rfl
      have fm0 := blk_frozen bl0 10
      have bn0 := blk_put bl0 10 (.slice A0 oa.length c0x) rfl
      have cn0 := blk_set_ne (p := ⟨km, 10, none⟩) cl0 hcm (.slice A0 oa.length c0x)
      have pn0 := blk_set_ne (p := ⟨km, 10, none⟩) pl0 hpm (.slice A0 oa.length c0x)
      have HN0 : RdAt (wl0.setCell ⟨km, 10, none⟩ (.slice A0 oa.length c0x)) g s ra := ⟨blk_set_ne (p := ⟨km, 10, none⟩) HL0.blk hmg (.slice A0 oa.length c0x)⟩
      have GN0 := grown_far (p := ⟨km, 10, none⟩) (G3.trans GL0) hkm (.slice A0 oa.length c0x)
      replace ho := own_setCell (p := ⟨km, 10, none⟩) ho (own_ne ho bl0 (by decide)) (.slice A0 oa.length c0x)
      replace hol0 := own_setCell (p := ⟨km, 10, none⟩) hol0 (own_ne hol0 bl0 (by decide)) (.slice A0 oa.length c0x)
      go_wp2_with fail
      skip
      have bd1 := be2_bd s 8
      have hk1 : (((be2 s 8).toNat : Nat) : Int) = be2 s 8 := by omega
      have kr1 := listRc HN0 hs4 (be2 s 8).toNat (by omega) hln
      rw [hk1] at kr1
      have cx1 : (wl0.setCell ⟨km, 10, none⟩ (.slice A0 oa.length c0x)).cell? ⟨kc, 2, none⟩ = some (.int .i64 (be2 s 8)) := (blk_cell cn0 2).trans rfl
      rw [rounds_succ]
      go_wp2_with fail
      refine kr1.mono ?_
      rintro e5 wl1 ⟨vl1, rfl, hol1, HL1, GL1⟩
      obtain ⟨A1, c1x, rfl⟩ := Sl.own_slice hol1
      have bl1 := blk_grown bn0 GL1 (by intro q; injection q with q; exact hmg q.symm)
      have cl1 := blk_grown cn0 GL1 (by intro q; injection q with q; exact hcg q)
      have pl1 := blk_grown pn0 GL1 (by intro q; injection q with q; exact hpg q)
      replace ho := own_other ho GL1 (.inr (Ne.symm (own_ne ho HN0.blk (by decide))))
      replace hol0 := own_other hol0 GL1 (.inr (Ne.symm (own_ne hol0 HN0.blk (by decide))))
      have lt1 := Lib.hid (own_lt hol1)
      have bs1 := Lib.hid (Sl.own_base hol1)
      have xm1 : wl1.cell? ⟨km, 11, none⟩ = some (.slice none 0 0) := (blk_cell bl1 11).trans rfl
      have fm1 := blk_frozen bl1 11
      have bn1 := blk_put bl1 11 (.slice A1 on.length c1x) rfl
      have cn1 := blk_set_ne (p := ⟨km, 11, none⟩) cl1 hcm (.slice A1 on.length c1x)
      have pn1 := blk_set_ne (p := ⟨km, 11, none⟩) pl1 hpm (.slice A1 on.length c1x)
      have HN1 : RdAt (wl1.setCell ⟨km, 11, none⟩ (.slice A1 on.length c1x)) g s rn := ⟨blk_set_ne (p := ⟨km, 11, none⟩) HL1.blk hmg (.slice A1 on.length c1x)⟩
      have GN1 := grown_far (p := ⟨km, 11, none⟩) (GN0.trans GL1) hkm (.slice A1 on.length c1x)
      replace ho := own_setCell (p := ⟨km, 11, none⟩) ho (own_ne ho bl1 (by decide)) (.slice A1 on.length c1x)
      replace hol0 := own_setCell (p := ⟨km, 11, none⟩) hol0 (own_ne hol0 bl1 (by decide)) (.slice A1 on.length c1x)
      replace hol1 := own_setCell (p := ⟨km, 11, none⟩) hol1 (own_ne hol1 bl1 (by decide)) (.slice A1 on.length c1x)
      go_wp2_with fail
      skip
      have bd2 := be2_bd s 10
      have hk2 : (((be2 s 10).toNat : Nat) : Int) = be2 s 10 := by omega
      have kr2 := listRc HN1 hs4 (be2 s 10).toNat (by omega) hlr
      rw [hk2] at kr2
      have cx2 : (wl1.setCell ⟨km, 11, none⟩ (.slice A1 on.length c1x)).cell? ⟨kc, 3, none⟩ = some (.int .i64 (be2 s 10)) := (blk_cell cn1 3).trans rfl
      rw [rounds_succ]
      go_wp2_with fail
      refine kr2.mono ?_
      rintro e5 wl2 ⟨vl2, rfl, hol2, HL2, GL2⟩
      obtain ⟨A2, c2x, rfl⟩ := Sl.own_slice hol2
      have bl2 := blk_grown bn1 GL2 (by intro q; injection q with q; exact hmg q.symm)
      have cl2 := blk_grown cn1 GL2 (by intro q; injection q with q; exact hcg q)
      have pl2 := blk_grown pn1 GL2 (by intro q; injection q with q; exact hpg q)
      replace ho := own_other ho GL2 (.inr (Ne.symm (own_ne ho HN1.blk (by decide))))
      replace hol0 := own_other hol0 GL2 (.inr (Ne.symm (own_ne hol0 HN1.blk (by decide))))
      replace hol1 := own_other hol1 GL2 (.inr (Ne.symm (own_ne hol1 HN1.blk (by decide))))
      have bs2 := Lib.hid (Sl.own_base hol2)
      have xm2 : wl2.cell? ⟨km, 12, none⟩ = some (.slice none 0 0) := (blk_cell bl2 12).trans rfl
      have fm2 := blk_frozen bl2 12
      have bn2 := blk_put bl2 12 (.slice A2 orr.length c2x) rfl
      have cn2 := blk_set_ne (p := ⟨km, 12, none⟩) cl2 hcm (.slice A2 orr.length c2x)
      have pn2 := blk_set_ne (p := ⟨km, 12, none⟩) pl2 hpm (.slice A2 orr.length c2x)
      have HN2 : RdAt (wl2.setCell ⟨km, 12, none⟩ (.slice A2 orr.length c2x)) g s rr := ⟨blk_set_ne (p := ⟨km, 12, none⟩) HL2.blk hmg (.slice A2 orr.length c2x)⟩
      have GN2 := grown_far (p := ⟨km, 12, none⟩) (GN1.trans GL2) hkm (.slice A2 orr.length c2x)
      replace ho := own_setCell (p := ⟨km, 12, none⟩) ho (own_ne ho bl2 (by decide)) (.slice A2 orr.length c2x)
      replace hol0 := own_setCell (p := ⟨km, 12, none⟩) hol0 (own_ne hol0 bl2 (by decide)) (.slice A2 orr.length c2x)
      replace hol1 := own_setCell (p := ⟨km, 12, none⟩) hol1 (own_ne hol1 bl2 (by decide)) (.slice A2 orr.length c2x)
      replace hol2 := own_setCell (p := ⟨km, 12, none⟩) hol2 (own_ne hol2 bl2 (by decide)) (.slice A2 orr.length c2x)
      go_wp2_with fail
      skip
      rw [rounds_succ]
      go_upto_region 13 with (fail)
      have BF : Below w.heap.size w (wl2.setCell ⟨km, 12, none⟩ (.slice A2 orr.length c2x)) := BB0.grown GN2 BB0.size (fun k e => by injection e with e; omega)
      generalize hWF : (wl2.setCell ⟨km, 12, none⟩ (.slice A2 orr.length c2x)) = WF at *
      clear hWF
      obtain ⟨at9, bad9⟩ := rr
      have u1 : WF.cell? ⟨g, 1, none⟩ = some (.int .i64 at9) := (blk_cell HN2.blk 1).trans rfl
      have u2 : WF.cell? ⟨g, 2, none⟩ = some (.bool bad9) := (blk_cell HN2.blk 2).trans rfl
      have hr5 := HR5.out
      dsimp only at hr5
      clear HR5
      have hr6 : (bad9 = true ∧ got0 700 = r) ∨ (bad9 = false ∧ (at9 != (s.size : Int)) = true ∧ got0 700 = r) ∨ (bad9 = false ∧ (at9 != (s.size : Int)) = false ∧ (⟨Hd.getH s, oq, oa, on, orr, 0⟩ : Got) = r) := by
        cases bad9 with
        | true => exact .inl ⟨rfl, Option.some.inj (by simpa using hr5)⟩
        | false =>
          by_cases e : at9 = (s.size : Int)
          · exact .inr (.inr ⟨rfl, by simpa using e, Option.some.inj (by simpa [e] using hr5)⟩)
          · exact .inr (.inl ⟨rfl, by simpa using e, Option.some.inj (by simpa [e] using hr5)⟩)
      have HR6 := Lib.hid hr6
      clear hr5 hr6
      have v0 := cell_regrown u1
      have v1 := cell_regrown u2
      rcases HR6.out with ⟨rfl, rfl⟩ | ⟨rfl, hat, rfl⟩ | ⟨rfl, hat, rfl⟩
      · have B1 : Below WF.heap.size WF WF := Below.refl _ _
        have pp := blk_below pn2 B1
        have bb := blk_below bn2 B1
        have BG := BF.trans (B1.mono BF.size)
        have x0 : WF.cell? ⟨w.heap.size, 0, none⟩ = some (.int .i64 0) := (blk_cell pp 0).trans rfl
        have x1 : WF.cell? ⟨w.heap.size, 1, none⟩ = some (.bool false) := (blk_cell pp 1).trans rfl
        have x2 : WF.cell? ⟨w.heap.size, 2, none⟩ = some (.int .i64 0) := (blk_cell pp 2).trans rfl
        have x3 : WF.cell? ⟨w.heap.size, 3, none⟩ = some (.bool false) := (blk_cell pp 3).trans rfl
        have x4 : WF.cell? ⟨w.heap.size, 4, none⟩ = some (.bool false) := (blk_cell pp 4).trans rfl
        have x5 : WF.cell? ⟨w.heap.size, 5, none⟩ = some (.bool false) := (blk_cell pp 5).trans rfl
        have x6 : WF.cell? ⟨w.heap.size, 6, none⟩ = some (.bool false) := (blk_cell pp 6).trans rfl
        have x7 : WF.cell? ⟨w.heap.size, 7, none⟩ = some (.int .i64 0) := (blk_cell pp 7).trans rfl
        have x8 : WF.cell? ⟨w.heap.size, 8, none⟩ = some (.int .i64 0) := (blk_cell pp 8).trans rfl
        have x9 : WF.cell? ⟨w.heap.size, 9, none⟩ = some (.slice none 0 0) := (blk_cell pp 9).trans rfl
        have x10 : WF.cell? ⟨w.heap.size, 10, none⟩ = some (.slice none 0 0) := (blk_cell pp 10).trans rfl
        have x11 : WF.cell? ⟨w.heap.size, 11, none⟩ = some (.slice none 0 0) := (blk_cell pp 11).trans rfl
        have x12 : WF.cell? ⟨w.heap.size, 12, none⟩ = some (.slice none 0 0) := (blk_cell pp 12).trans rfl
        have y0 := blk_frozen pp 0
        have y1 := blk_frozen pp 1
        have y2 := blk_frozen pp 2
        have y3 := blk_frozen pp 3
        have y4 := blk_frozen pp 4
        have y5 := blk_frozen pp 5
        have y6 := blk_frozen pp 6
        have y7 := blk_frozen pp 7
        have y8 := blk_frozen pp 8
        have y9 := blk_frozen pp 9
        have y10 := blk_frozen pp 10
        have y11 := blk_frozen pp 11
        have y12 := blk_frozen pp 12
        have pF := putAll_blk 0 [.int .i64 0, .bool false, .int .i64 0, .bool false, .bool false, .bool false, .bool false, .int .i64 0, .int .i64 0, .slice none 0 0, .slice none 0 0, .slice none 0 0, .slice none 0 0] #[.int .i64 0, .bool false, .int .i64 0, .bool false, .bool false, .bool false, .bool false, .int .i64 0, .int .i64 0, .slice none 0 0, .slice none 0 0, .slice none 0 0, .slice none 0 0] pp (by simp [setAll])
        have GF := putAll_grown (row := none) 0 [.int .i64 0, .bool false, .int .i64 0, .bool false, .bool false, .bool false, .bool false, .int .i64 0, .int .i64 0, .slice none 0 0, .slice none 0 0, .slice none 0 0, .slice none 0 0] (grown_below BG none) (Nat.le_refl _)
        simp only [putAll] at pF GF
        have e0 := (blk_cell pF 0).trans rfl
        have e1 := (blk_cell pF 1).trans rfl
        have e2 := (blk_cell pF 2).trans rfl
        have e3 := (blk_cell pF 3).trans rfl
        have e4 := (blk_cell pF 4).trans rfl
        have e5 := (blk_cell pF 5).trans rfl
        have e6 := (blk_cell pF 6).trans rfl
        have e7 := (blk_cell pF 7).trans rfl
        have e8 := (blk_cell pF 8).trans rfl
        have e9 := (blk_cell pF 9).trans rfl
        have e10 := (blk_cell pF 10).trans rfl
        have e11 := (blk_cell pF 11).trans rfl
        have e12 := (blk_cell pF 12).trans rfl
        go_wp2
        exact bodyPost_ret (v := .tuple #[.agg #[.int .i64 0, .bool false, .int .i64 0, .bool false, .bool false, .bool false, .bool false, .int .i64 0, .int .i64 0, .slice none 0 0, .slice none 0 0, .slice none 0 0, .slice none 0 0], .int .i64 700]) (by simp [results, Try.results35, go_sem, e0, e1, e2, e3, e4, e5, e6, e7, e8, e9, e10, e11, e12]) rfl (post0 s w _ 700 ⟨GF.os, GF.tape, GF.output, GF.size, fun k hk => GF.block k hk (by simp)⟩)
      · have B1 : Below WF.heap.size WF WF := Below.refl _ _
        have pp := blk_below pn2 B1
        have bb := blk_below bn2 B1
        have BG := BF.trans (B1.mono BF.size)
        have x0 : WF.cell? ⟨w.heap.size, 0, none⟩ = some (.int .i64 0) := (blk_cell pp 0).trans rfl
        have x1 : WF.cell? ⟨w.heap.size, 1, none⟩ = some (.bool false) := (blk_cell pp 1).trans rfl
        have x2 : WF.cell? ⟨w.heap.size, 2, none⟩ = some (.int .i64 0) := (blk_cell pp 2).trans rfl
        have x3 : WF.cell? ⟨w.heap.size, 3, none⟩ = some (.bool false) := (blk_cell pp 3).trans rfl
        have x4 : WF.cell? ⟨w.heap.size, 4, none⟩ = some (.bool false) := (blk_cell pp 4).trans rfl
        have x5 : WF.cell? ⟨w.heap.size, 5, none⟩ = some (.bool false) := (blk_cell pp 5).trans rfl
        have x6 : WF.cell? ⟨w.heap.size, 6, none⟩ = some (.bool false) := (blk_cell pp 6).trans rfl
        have x7 : WF.cell? ⟨w.heap.size, 7, none⟩ = some (.int .i64 0) := (blk_cell pp 7).trans rfl
        have x8 : WF.cell? ⟨w.heap.size, 8, none⟩ = some (.int .i64 0) := (blk_cell pp 8).trans rfl
        have x9 : WF.cell? ⟨w.heap.size, 9, none⟩ = some (.slice none 0 0) := (blk_cell pp 9).trans rfl
        have x10 : WF.cell? ⟨w.heap.size, 10, none⟩ = some (.slice none 0 0) := (blk_cell pp 10).trans rfl
        have x11 : WF.cell? ⟨w.heap.size, 11, none⟩ = some (.slice none 0 0) := (blk_cell pp 11).trans rfl
        have x12 : WF.cell? ⟨w.heap.size, 12, none⟩ = some (.slice none 0 0) := (blk_cell pp 12).trans rfl
        have y0 := blk_frozen pp 0
        have y1 := blk_frozen pp 1
        have y2 := blk_frozen pp 2
        have y3 := blk_frozen pp 3
        have y4 := blk_frozen pp 4
        have y5 := blk_frozen pp 5
        have y6 := blk_frozen pp 6
        have y7 := blk_frozen pp 7
        have y8 := blk_frozen pp 8
        have y9 := blk_frozen pp 9
        have y10 := blk_frozen pp 10
        have y11 := blk_frozen pp 11
        have y12 := blk_frozen pp 12
        have pF := putAll_blk 0 [.int .i64 0, .bool false, .int .i64 0, .bool false, .bool false, .bool false, .bool false, .int .i64 0, .int .i64 0, .slice none 0 0, .slice none 0 0, .slice none 0 0, .slice none 0 0] #[.int .i64 0, .bool false, .int .i64 0, .bool false, .bool false, .bool false, .bool false, .int .i64 0, .int .i64 0, .slice none 0 0, .slice none 0 0, .slice none 0 0, .slice none 0 0] pp (by simp [setAll])
        have GF := putAll_grown (row := none) 0 [.int .i64 0, .bool false, .int .i64 0, .bool false, .bool false, .bool false, .bool false, .int .i64 0, .int .i64 0, .slice none 0 0, .slice none 0 0, .slice none 0 0, .slice none 0 0] (grown_below BG none) (Nat.le_refl _)
        simp only [putAll] at pF GF
        have e0 := (blk_cell pF 0).trans rfl
        have e1 := (blk_cell pF 1).trans rfl
        have e2 := (blk_cell pF 2).trans rfl
        have e3 := (blk_cell pF 3).trans rfl
        have e4 := (blk_cell pF 4).trans rfl
        have e5 := (blk_cell pF 5).trans rfl
        have e6 := (blk_cell pF 6).trans rfl
        have e7 := (blk_cell pF 7).trans rfl
        have e8 := (blk_cell pF 8).trans rfl
        have e9 := (blk_cell pF 9).trans rfl
        have e10 := (blk_cell pF 10).trans rfl
        have e11 := (blk_cell pF 11).trans rfl
        have e12 := (blk_cell pF 12).trans rfl
        go_wp2
        exact bodyPost_ret (v := .tuple #[.agg #[.int .i64 0, .bool false, .int .i64 0, .bool false, .bool false, .bool false, .bool false, .int .i64 0, .int .i64 0, .slice none 0 0, .slice none 0 0, .slice none 0 0, .slice none 0 0], .int .i64 700]) (by simp [results, Try.results35, go_sem, e0, e1, e2, e3, e4, e5, e6, e7, e8, e9, e10, e11, e12]) rfl (post0 s w _ 700 ⟨GF.os, GF.tape, GF.output, GF.size, fun k hk => GF.block k hk (by simp)⟩)
      · have B1 : Below WF.heap.size WF WF := Below.refl _ _
        have pp := blk_below pn2 B1
        have bb := blk_below bn2 B1
        have BG := BF.trans (B1.mono BF.size)
        have x0 : WF.cell? ⟨w.heap.size, 0, none⟩ = some (.int .i64 0) := (blk_cell pp 0).trans rfl
        have x1 : WF.cell? ⟨w.heap.size, 1, none⟩ = some (.bool false) := (blk_cell pp 1).trans rfl
        have x2 : WF.cell? ⟨w.heap.size, 2, none⟩ = some (.int .i64 0) := (blk_cell pp 2).trans rfl
        have x3 : WF.cell? ⟨w.heap.size, 3, none⟩ = some (.bool false) := (blk_cell pp 3).trans rfl
        have x4 : WF.cell? ⟨w.heap.size, 4, none⟩ = some (.bool false) := (blk_cell pp 4).trans rfl
        have x5 : WF.cell? ⟨w.heap.size, 5, none⟩ = some (.bool false) := (blk_cell pp 5).trans rfl
        have x6 : WF.cell? ⟨w.heap.size, 6, none⟩ = some (.bool false) := (blk_cell pp 6).trans rfl
        have x7 : WF.cell? ⟨w.heap.size, 7, none⟩ = some (.int .i64 0) := (blk_cell pp 7).trans rfl
        have x8 : WF.cell? ⟨w.heap.size, 8, none⟩ = some (.int .i64 0) := (blk_cell pp 8).trans rfl
        have x9 : WF.cell? ⟨w.heap.size, 9, none⟩ = some (.slice none 0 0) := (blk_cell pp 9).trans rfl
        have x10 : WF.cell? ⟨w.heap.size, 10, none⟩ = some (.slice none 0 0) := (blk_cell pp 10).trans rfl
        have x11 : WF.cell? ⟨w.heap.size, 11, none⟩ = some (.slice none 0 0) := (blk_cell pp 11).trans rfl
        have x12 : WF.cell? ⟨w.heap.size, 12, none⟩ = some (.slice none 0 0) := (blk_cell pp 12).trans rfl
        have y0 := blk_frozen pp 0
        have y1 := blk_frozen pp 1
        have y2 := blk_frozen pp 2
        have y3 := blk_frozen pp 3
        have y4 := blk_frozen pp 4
        have y5 := blk_frozen pp 5
        have y6 := blk_frozen pp 6
        have y7 := blk_frozen pp 7
        have y8 := blk_frozen pp 8
        have y9 := blk_frozen pp 9
        have y10 := blk_frozen pp 10
        have y11 := blk_frozen pp 11
        have y12 := blk_frozen pp 12
        have z0 : WF.cell? ⟨km, 0, none⟩ = some (.int .i64 (Hd.getH s).id) := (blk_cell bb 0).trans rfl
        have z1 : WF.cell? ⟨km, 1, none⟩ = some (.bool (Hd.getH s).qr) := (blk_cell bb 1).trans rfl
        have z2 : WF.cell? ⟨km, 2, none⟩ = some (.int .i64 (Hd.getH s).op) := (blk_cell bb 2).trans rfl
        have z3 : WF.cell? ⟨km, 3, none⟩ = some (.bool (Hd.getH s).aa) := (blk_cell bb 3).trans rfl
        have z4 : WF.cell? ⟨km, 4, none⟩ = some (.bool (Hd.getH s).tc) := (blk_cell bb 4).trans rfl
        have z5 : WF.cell? ⟨km, 5, none⟩ = some (.bool (Hd.getH s).rd) := (blk_cell bb 5).trans rfl
        have z6 : WF.cell? ⟨km, 6, none⟩ = some (.bool (Hd.getH s).ra) := (blk_cell bb 6).trans rfl
        have z7 : WF.cell? ⟨km, 7, none⟩ = some (.int .i64 (Hd.getH s).z) := (blk_cell bb 7).trans rfl
        have z8 : WF.cell? ⟨km, 8, none⟩ = some (.int .i64 (Hd.getH s).rc) := (blk_cell bb 8).trans rfl
        have z9 : WF.cell? ⟨km, 9, none⟩ = some (.slice Aq oq.length cq) := (blk_cell bb 9).trans rfl
        have z10 : WF.cell? ⟨km, 10, none⟩ = some (.slice A0 oa.length c0x) := (blk_cell bb 10).trans rfl
        have z11 : WF.cell? ⟨km, 11, none⟩ = some (.slice A1 on.length c1x) := (blk_cell bb 11).trans rfl
        have z12 : WF.cell? ⟨km, 12, none⟩ = some (.slice A2 orr.length c2x) := (blk_cell bb 12).trans rfl
        have hle0 := BB0.size
        have hle1 := G3.size
        have hle2 := GL0.size
        have hle3 := GL1.size
        simp [World.setCell] at hle3
        go_wp2
        have pF := putAll_blk 0 [.int .i64 (Hd.getH s).id, .bool (Hd.getH s).qr, .int .i64 (Hd.getH s).op, .bool (Hd.getH s).aa, .bool (Hd.getH s).tc, .bool (Hd.getH s).rd, .bool (Hd.getH s).ra, .int .i64 (Hd.getH s).z, .int .i64 (Hd.getH s).rc, .slice Aq oq.length cq, .slice A0 oa.length c0x, .slice A1 on.length c1x, .slice A2 orr.length c2x] #[.int .i64 (Hd.getH s).id, .bool (Hd.getH s).qr, .int .i64 (Hd.getH s).op, .bool (Hd.getH s).aa, .bool (Hd.getH s).tc, .bool (Hd.getH s).rd, .bool (Hd.getH s).ra, .int .i64 (Hd.getH s).z, .int .i64 (Hd.getH s).rc, .slice Aq oq.length cq, .slice A0 oa.length c0x, .slice A1 on.length c1x, .slice A2 orr.length c2x] pp (by simp [setAll])
        have GF := putAll_grown (row := none) 0 [.int .i64 (Hd.getH s).id, .bool (Hd.getH s).qr, .int .i64 (Hd.getH s).op, .bool (Hd.getH s).aa, .bool (Hd.getH s).tc, .bool (Hd.getH s).rd, .bool (Hd.getH s).ra, .int .i64 (Hd.getH s).z, .int .i64 (Hd.getH s).rc, .slice Aq oq.length cq, .slice A0 oa.length c0x, .slice A1 on.length c1x, .slice A2 orr.length c2x] (grown_below BG none) (Nat.le_refl _)
        have o0 := putAll_own 0 [.int .i64 (Hd.getH s).id, .bool (Hd.getH s).qr, .int .i64 (Hd.getH s).op, .bool (Hd.getH s).aa, .bool (Hd.getH s).tc, .bool (Hd.getH s).rd, .bool (Hd.getH s).ra, .int .i64 (Hd.getH s).z, .int .i64 (Hd.getH s).rc, .slice Aq oq.length cq, .slice A0 oa.length c0x, .slice A1 on.length c1x, .slice A2 orr.length c2x] (Sl.own_below ho B1) (own_ne (Sl.own_below ho B1) pp (by decide))
        have o1 := putAll_own 0 [.int .i64 (Hd.getH s).id, .bool (Hd.getH s).qr, .int .i64 (Hd.getH s).op, .bool (Hd.getH s).aa, .bool (Hd.getH s).tc, .bool (Hd.getH s).rd, .bool (Hd.getH s).ra, .int .i64 (Hd.getH s).z, .int .i64 (Hd.getH s).rc, .slice Aq oq.length cq, .slice A0 oa.length c0x, .slice A1 on.length c1x, .slice A2 orr.length c2x] (Sl.own_below hol0 B1) (own_ne (Sl.own_below hol0 B1) pp (by decide))
        have o2 := putAll_own 0 [.int .i64 (Hd.getH s).id, .bool (Hd.getH s).qr, .int .i64 (Hd.getH s).op, .bool (Hd.getH s).aa, .bool (Hd.getH s).tc, .bool (Hd.getH s).rd, .bool (Hd.getH s).ra, .int .i64 (Hd.getH s).z, .int .i64 (Hd.getH s).rc, .slice Aq oq.length cq, .slice A0 oa.length c0x, .slice A1 on.length c1x, .slice A2 orr.length c2x] (Sl.own_below hol1 B1) (own_ne (Sl.own_below hol1 B1) pp (by decide))
        have o3 := putAll_own 0 [.int .i64 (Hd.getH s).id, .bool (Hd.getH s).qr, .int .i64 (Hd.getH s).op, .bool (Hd.getH s).aa, .bool (Hd.getH s).tc, .bool (Hd.getH s).rd, .bool (Hd.getH s).ra, .int .i64 (Hd.getH s).z, .int .i64 (Hd.getH s).rc, .slice Aq oq.length cq, .slice A0 oa.length c0x, .slice A1 on.length c1x, .slice A2 orr.length c2x] (Sl.own_below hol2 B1) (own_ne (Sl.own_below hol2 B1) pp (by decide))
        simp only [putAll] at pF GF o0 o1 o2 o3
        have e0 := (blk_cell pF 0).trans rfl
        have e1 := (blk_cell pF 1).trans rfl
        have e2 := (blk_cell pF 2).trans rfl
        have e3 := (blk_cell pF 3).trans rfl
        have e4 := (blk_cell pF 4).trans rfl
        have e5 := (blk_cell pF 5).trans rfl
        have e6 := (blk_cell pF 6).trans rfl
        have e7 := (blk_cell pF 7).trans rfl
        have e8 := (blk_cell pF 8).trans rfl
        have e9 := (blk_cell pF 9).trans rfl
        have e10 := (blk_cell pF 10).trans rfl
        have e11 := (blk_cell pF 11).trans rfl
        have e12 := (blk_cell pF 12).trans rfl
        refine bodyPost_ret (v := .tuple #[.agg #[.int .i64 (Hd.getH s).id, .bool (Hd.getH s).qr, .int .i64 (Hd.getH s).op, .bool (Hd.getH s).aa, .bool (Hd.getH s).tc, .bool (Hd.getH s).rd, .bool (Hd.getH s).ra, .int .i64 (Hd.getH s).z, .int .i64 (Hd.getH s).rc, .slice Aq oq.length cq, .slice A0 oa.length c0x, .slice A1 on.length c1x, .slice A2 orr.length c2x], .int .i64 0]) (by simp [results, Try.results35, go_sem, e0, e1, e2, e3, e4, e5, e6, e7, e8, e9, e10, e11, e12]) rfl ?_
        refine ⟨_, _, _, _, rfl, own_lower o0 (by omega), own_lower o1 (by omega), own_lower o2 (by simp; omega), own_lower o3 (by simp; omega), ?k1, ?k2, ?k3, ⟨GF.os, GF.tape, GF.output, GF.size, fun k hk => GF.block k hk (by simp)⟩⟩
        case k1 => exact fun k hk => ⟨fun q => by have a := lt0.out k hk; have b := bs1.out k q.symm; simp [World.setCell] at b; omega, fun q => by have a := lt0.out k hk; have b := bs2.out k q.symm; simp [World.setCell] at b; omega⟩
        case k2 => exact fun k hk => ⟨fun q => by have a := lt0.out k q.symm; have b := bs1.out k hk; simp [World.setCell] at b; omega, fun q => by have a := lt1.out k hk; have b := bs2.out k q.symm; simp [World.setCell] at b; omega⟩
        case k3 => exact fun k hk => ⟨fun q => by have a := lt0.out k q.symm; have b := bs2.out k hk; simp [World.setCell] at b; omega, fun q => by have a := lt1.out k q.symm; have b := bs2.out k hk; simp [World.setCell] at b; omega⟩
end Go.Proofs.Ytjklgdpffmaamaa.Wm

namespace Go.Proofs.Ytjklgdpffmaamaa.Wm
open Go.RowKit Go.PlainAid Go.Proofs.Ytjklgdpffmaamaa.Base Go.Proofs.Ytjklgdpffmaamaa.Oct Go.Proofs.Ytjklgdpffmaamaa.Nm Go.Proofs.Ytjklgdpffmaamaa.Wr Go.Proofs.Ytjklgdpffmaamaa.PCm Go.Proofs.Ytjklgdpffmaamaa.CompS Go.Proofs.Ytjklgdpffmaamaa.Pu
open Go.Proofs.YtjklgdpffmaamaaW.PrintWords (Ev bytesOf bytesOf_length LeO)
set_option linter.unusedVariables false
theorem st0_ok {hS : ByteArray} (h : hS.size = 12) : st0 hS = ⟨hS, fun _ => none, false⟩ := by
  unfold st0 rawSt
  rw [if_neg (by show ¬ 4096 < 0 + hS.size; omega)]
  rw [show (⟨#[]⟩ : ByteArray) ++ hS = hS from ByteArray.empty_append]
theorem st0_good {hS : ByteArray} (h : hS.size = 12) : Good (st0 hS) := by
  rw [st0_ok h]
  exact ⟨(fun r t k => by cases k), by show hS.size ≤ 4096; omega, rfl⟩
theorem putOk_parts {m : MsgV} (h : putOk m = true) : hOk m = true ∧ hStr m = m.h.putS m.qs.length m.an.length m.ns.length m.ar.length ∧ (m.qs.length ≤ 64 ∧ m.an.length ≤ 64 ∧ m.ns.length ≤ 64 ∧ m.ar.length ≤ 64) ∧ (∀ q ∈ m.qs, qMay q = true) ∧ (∀ r ∈ m.an, rMay r = true) ∧ (∀ r ∈ m.ns, rMay r = true) ∧ (∀ r ∈ m.ar, rMay r = true) := by
  unfold putOk at h
  simp only [Bool.and_eq_true] at h
  obtain ⟨h0, h1⟩ := h
  have hl := fits_len h1
  unfold fitsB at h1
  simp only [Bool.and_eq_true, List.all_eq_true] at h1
  obtain ⟨⟨⟨⟨_, a⟩, _, b⟩, _, c⟩, _, d⟩ := h1
  refine ⟨h0, ?_, hl, a, b, c, d⟩
  unfold hStr Hd.wroteS
  exact if_pos h0
structure Steps (m : MsgV) where
  g0 : Good (st0 (hStr m))
  gq : Good (m.qs.foldl qStep (st0 (hStr m)))
  ga : Good (m.an.foldl rSt (m.qs.foldl qStep (st0 (hStr m))))
  gn : Good (m.ns.foldl rSt (m.an.foldl rSt (m.qs.foldl qStep (st0 (hStr m)))))
  gr : Good (putEnd m)
theorem steps {m : MsgV} (hok : putOk m = true) (hl : (putEnd m).lg = false) : Steps m := by
  obtain ⟨h0, hs, _⟩ := putOk_parts hok
  have z : (hStr m).size = 12 := by rw [hs, Hd.putS_size]
  have l3 := foldR_lg m.ar _ hl
  have l2 := foldR_lg m.ns _ l3
  have l1 := foldR_lg m.an _ l2
  have G0 := st0_good z
  have G1 := foldQ_good m.qs _ (fun _ => G0) l1
  have G2 := foldR_good m.an _ (fun _ => G1) l2
  have G3 := foldR_good m.ns _ (fun _ => G2) l3
  exact ⟨G0, G1, G2, G3, foldR_good m.ar _ (fun _ => G3) hl⟩
/-- Reading what was written, whatever goes on behind it. -/
theorem get_put {m : MsgV} (hok : putOk m = true) (hl : (putEnd m).lg = false) (U : ByteArray) (hz : ((putEnd m).S ++ U).size ≤ 4096) :
    Ev (fun k => getV k ((putEnd m).S ++ U)) (if U.size = 0 then ⟨m.h, m.qs, m.an, m.ns, m.ar, 0⟩ else got0 700) := by
  obtain ⟨h0, hs, ⟨n1, n2, n3, n4⟩, q1, q2, q3, q4⟩ := putOk_parts hok
  have z : (hStr m).size = 12 := by rw [hs, Hd.putS_size]
  obtain ⟨G0, G1, G2, G3, G4⟩ := steps hok hl
  obtain ⟨V1, e1⟩ := foldQ_more m.qs (st0 (hStr m)) G1.lg
  obtain ⟨V2, e2⟩ := foldR_more m.an _ G2.lg
  obtain ⟨V3, e3⟩ := foldR_more m.ns _ G3.lg
  obtain ⟨V4, e4⟩ := foldR_more m.ar _ G4.lg
  have e4 : (putEnd m).S = (m.ns.foldl rSt (m.an.foldl rSt (m.qs.foldl qStep (st0 (hStr m))))).S ++ V4 := e4
  have s0 : (st0 (hStr m)).S = hStr m := by rw [st0_ok z]
  rw [s0] at e1
  generalize hT : (putEnd m).S ++ U = T at hz ⊢
  have eT : T = m.h.putS m.qs.length m.an.length m.ns.length m.ar.length ++ (V1 ++ (V2 ++ (V3 ++ (V4 ++ U)))) := by
    rw [← hT, e4, e3, e2, e1, hs]; simp only [ByteArray.append_assoc]
  have zT : 12 ≤ T.size := by rw [eT, ByteArray.size_append, Hd.putS_size]; omega
  obtain ⟨b0, b4, b6, b8, b10, _⟩ := Hd.back m.h _ _ _ _ (V1 ++ (V2 ++ (V3 ++ (V4 ++ U)))) h0
  rw [← eT, Hd.gotH_yes zT] at b0
  rw [← eT, Hd.gotC_yes zT] at b4 b6 b8 b10
  have zU : T.size = (putEnd m).S.size + U.size := by rw [← hT, ByteArray.size_append]
  unfold getV
  refine Ev.neg (by omega) (Ev.neg (by omega) ?_)
  rw [b4, b6, b8, b10]
  simp only [Int.toNat_natCast]
  have c1 : ∃ X, T = (m.qs.foldl qStep (st0 (hStr m))).S ++ X := ⟨V2 ++ (V3 ++ (V4 ++ U)), by rw [← hT, e4, e3, e2]; simp only [ByteArray.append_assoc]⟩
  have c2 : ∃ X, T = (m.an.foldl rSt (m.qs.foldl qStep (st0 (hStr m)))).S ++ X := ⟨V3 ++ (V4 ++ U), by rw [← hT, e4, e3]; simp only [ByteArray.append_assoc]⟩
  have c3 : ∃ X, T = (m.ns.foldl rSt (m.an.foldl rSt (m.qs.foldl qStep (st0 (hStr m))))).S ++ X := ⟨V4 ++ U, by rw [← hT, e4]; simp only [ByteArray.append_assoc]⟩
  have r1 := listQ_read (T := T) (by omega) n1 G0 q1 G1.lg c1
  rw [s0, z] at r1
  refine Ev.bind r1 ?_
  refine Ev.bind (listR_read (T := T) (by omega) n2 G1 q2 G2.lg c2) ?_
  refine Ev.bind (listR_read (T := T) (by omega) n3 G2 q3 G3.lg c3) ?_
  refine Ev.bind (listR_read (T := T) (by omega) n4 G3 q4 G4.lg ⟨U, hT.symm⟩) ?_
  dsimp only
  rw [show (List.foldl rSt (List.foldl rSt (List.foldl rSt (List.foldl qStep (st0 (hStr m)) m.qs) m.an) m.ns) m.ar) = putEnd m from rfl]
  by_cases hU : U.size = 0
  · rw [if_pos hU]
    refine Ev.neg (by simp; omega) (Ev.some _ fun _ => ?_)
    rw [b0]
  · rw [if_neg hU]
    exact Ev.pos (by simp; omega) (Ev.some _ fun _ => rfl)
theorem put_S {m : MsgV} (hok : putOk m = true) (hl : (putEnd m).lg = false) : putS m = (putEnd m).S ∧ putE m = 0 ∧ 12 ≤ (putEnd m).S.size ∧ (putEnd m).S.size ≤ 4096 := by
  unfold putS putE
  rw [if_pos hok, if_pos hok, if_neg (by rw [hl]; decide), if_neg (by rw [hl]; decide)]
  obtain ⟨h0, hs, _⟩ := putOk_parts hok
  have z : (hStr m).size = 12 := by rw [hs, Hd.putS_size]
  obtain ⟨G0, G1, G2, G3, G4⟩ := steps hok hl
  obtain ⟨V1, e1⟩ := foldQ_more m.qs (st0 (hStr m)) G1.lg
  obtain ⟨V2, e2⟩ := foldR_more m.an _ G2.lg
  obtain ⟨V3, e3⟩ := foldR_more m.ns _ G3.lg
  obtain ⟨V4, e4⟩ := foldR_more m.ar _ G4.lg
  have e4 : (putEnd m).S = (m.ns.foldl rSt (m.an.foldl rSt (m.qs.foldl qStep (st0 (hStr m))))).S ++ V4 := e4
  have s0 : (st0 (hStr m)).S = hStr m := by rw [st0_ok z]
  refine ⟨rfl, rfl, ?_, G4.size⟩
  rw [e4, e3, e2, e1, s0]
  simp only [ByteArray.size_append]
  omega
end Go.Proofs.Ytjklgdpffmaamaa.Wm

namespace Go.Proofs.Ytjklgdpffmaamaa.Wm
open Go.RowKit Go.PlainAid Go.Proofs.Ytjklgdpffmaamaa.Base Go.Proofs.Ytjklgdpffmaamaa.Oct Go.Proofs.Ytjklgdpffmaamaa.Nm Go.Proofs.Ytjklgdpffmaamaa.Wr Go.Proofs.Ytjklgdpffmaamaa.PCm Go.Proofs.Ytjklgdpffmaamaa.CompS Go.Proofs.Ytjklgdpffmaamaa.Pu
open Go.Proofs.YtjklgdpffmaamaaW.PrintWords (Ev bytesOf bytesOf_length LeO)
set_option linter.unusedVariables false
/-! ### A name -/
/-! ### Names, data -/
theorem app_nil (s : ByteArray) : s ++ (⟨#[]⟩ : ByteArray) = s := ByteArray.append_empty
/-! ### A question, a record -/
/-! ### Lists -/
end Go.Proofs.Ytjklgdpffmaamaa.Wm

namespace Go.Proofs.Ytjklgdpffmaamaa.Wm
open Go.RowKit Go.PlainAid Go.Proofs.Ytjklgdpffmaamaa.Base
open Go.Proofs.YtjklgdpffmaamaaW.PrintWords (ReadsRow add_field)
set_option linter.unusedVariables false
/-- A message without its places. -/
def msgOf (h : Hd.Head) (qs : List Qn) (an ns ar : List Rr) : MsgV := ⟨h, none, 0, qs, none, 0, an, none, 0, ns, none, 0, ar⟩
end Go.Proofs.Ytjklgdpffmaamaa.Wm

namespace Go.Proofs.Ytjklgdpffmaamaa.Wm
open Go.RowKit Go.PlainAid Go.Proofs.Ytjklgdpffmaamaa.Base
open Go.Proofs.YtjklgdpffmaamaaW.PrintWords (LeO Kd Reps OwnRow)
set_option linter.unusedVariables false
theorem reps_cons {α : Type} {R : α → List Value → Prop} {size : Nat} {ps : List α} {cs c : List Value} {p : α} (hp : R p c) (hc : c.length = size) (h : Reps R size ps cs) : Reps R size (p :: ps) (c ++ cs) := by
  refine ⟨by rw [List.length_append, h.1, hc, List.length_cons, Nat.add_mul, Nat.one_mul, Nat.add_comm], fun j q hq => ?_⟩
  cases j with
  | zero =>
    obtain rfl : p = q := by simpa using hq
    rw [Nat.zero_mul, List.drop_zero, ← hc, List.take_left']
    · exact hp
    · rfl
  | succ j =>
    have := h.2 j q (by simpa using hq)
    have e : (c ++ cs).drop ((j + 1) * size) = cs.drop (j * size) := by
      rw [Nat.add_mul, Nat.one_mul, Nat.add_comm, ← List.drop_drop, ← hc, List.drop_left']
      rfl
    rw [e]
    exact this
theorem qkd {α : Type} (d : Kd α) (e : Nat) (g : Qn → α) (hM : ∀ w base ok q, d.M w base ok (g q) (cellQ q).toList) (hsz : d.sz = 3) {w : World} {b : Nat} {ok : Nat → Prop} {v : Value} {qs : List Qn} (h : w.ownsRow b e 3 v qs.length (cellsQ qs)) (hok : ∀ k, v.ownBlock = some k → ok k) : Kd.R d e w b ok v (qs.map g) := by
  refine ⟨hok, cellsQ qs, by rw [hsz, List.length_map]; exact h, ?_⟩
  rw [hsz]
  clear h
  induction qs with
  | nil => exact Reps.none _ _
  | cons q qs ih => exact reps_cons (hM _ _ _ q) rfl ih
theorem rkd {α : Type} (d : Kd α) (e : Nat) (g : Rr → α) (hM : ∀ w base ok q, d.M w base ok (g q) (cellR q).toList) (hsz : d.sz = 5) {w : World} {b : Nat} {ok : Nat → Prop} {v : Value} {qs : List Rr} (h : w.ownsRow b e 5 v qs.length (cellsR qs)) (hok : ∀ k, v.ownBlock = some k → ok k) : Kd.R d e w b ok v (qs.map g) := by
  refine ⟨hok, cellsR qs, by rw [hsz, List.length_map]; exact h, ?_⟩
  rw [hsz]
  clear h
  induction qs with
  | nil => exact Reps.none _ _
  | cons q qs ih => exact reps_cons (hM _ _ _ q) rfl ih
end Go.Proofs.Ytjklgdpffmaamaa.Wm

namespace Go.Proofs.Ytjklgdpffmaamaa.PSm
open Go.RowKit Go.Proofs.YtjklgdpffmaamaaW.PrintWords Go.Proofs.YtjklgdpffmaamaaW.PrintLast Go.Proofs.YtjklgdpffmaamaaW.PrintMore
attribute [local go_sem] max2_int min2_int max_two min_two max_three min_three max_four min_four   -- for this text's walks alone
set_option linter.unusedVariables false
set_option linter.unusedSimpArgs false

def errW : Option Int → Value
  | none => .nilIface
  | some c => .iface 0 (.int .i64 c)
theorem errW_none : errW none = .nilIface := rfl
theorem errW_some (c : Int) : errW (some c) = .iface 0 (.int .i64 c) := rfl

-- the values' own types
/-! #### struct type 40 -/
structure S40 where
  f0 : ByteArray
  f1 : Int
  f2 : Int
def z40 : S40 := ⟨(⟨#[]⟩ : ByteArray), (0 : Int), (0 : Int)⟩
def k40 : Kd S40 := Kd.iso (Kd.pair Kd.string (Kd.pair (Kd.int .i64) (Kd.int .i64))) (fun x : S40 => (x.f0, x.f1, x.f2))
theorem k40_open {w : World} {x : S40} {cs : List Value} (h : k40.K w x cs) : cs = [.string x.f0, .int .i64 x.f1, .int .i64 x.f2] := by
  obtain ⟨_, _, rfl, rfl, ⟨_, _, rfl, rfl, rfl⟩⟩ := h
  exact rfl
theorem k40_mkM (w : World) (base : Nat) (ok : Nat → Prop) (x : S40)  : k40.M w base ok x [.string x.f0, .int .i64 x.f1, .int .i64 x.f2] := ⟨[.string x.f0], [.int .i64 x.f1, .int .i64 x.f2], rfl, rfl, ⟨[.int .i64 x.f1], [.int .i64 x.f2], rfl, rfl, rfl⟩⟩
def rd_T40 (xs : List S40) (i : Int) : S40 := xs.getD i.toNat z40
theorem at_T40 {w : World} {A : Option Addr} {n : Nat} {xs : List S40} (h : Kd.C k40 w A n xs) (i : Int) (h0 : 0 ≤ i) (h1 : i < n) : ∃ ad , A = some ad ∧ w.cell? (ad.add (i.toNat * 3)) = some (.string (rd_T40 xs i).f0) ∧ w.cell? ⟨(ad.add (i.toNat * 3)).block, (ad.add (i.toNat * 3)).off + 1, none⟩ = some (.int .i64 (rd_T40 xs i).f1) ∧ w.cell? ⟨(ad.add (i.toNat * 3)).block, (ad.add (i.toNat * 3)).off + 2, none⟩ = some (.int .i64 (rd_T40 xs i).f2) := by
  obtain ⟨ad, c, e, _, hK, hc0⟩ := Kd.C_get h z40 i h0 h1
  have hc : ∀ j u, c[j]? = some u → w.cell? (ad.add (i.toNat * 3 + j)) = some u := hc0
  obtain rfl := k40_open hK
  exact ⟨ad, e, hc 0 _ rfl, by rw [← add_field _ _ 1 (by omega)]; exact hc 1 _ rfl, by rw [← add_field _ _ 2 (by omega)]; exact hc 2 _ rfl⟩

/-! #### struct type 53 -/
structure S53 where
  f0 : ByteArray
  f1 : Int
  f2 : Int
  f3 : Int
  f4 : ByteArray
def z53 : S53 := ⟨(⟨#[]⟩ : ByteArray), (0 : Int), (0 : Int), (0 : Int), (⟨#[]⟩ : ByteArray)⟩
def k53 : Kd S53 := Kd.iso (Kd.pair Kd.string (Kd.pair (Kd.int .i64) (Kd.pair (Kd.int .i64) (Kd.pair (Kd.int .i64) Kd.string)))) (fun x : S53 => (x.f0, x.f1, x.f2, x.f3, x.f4))
theorem k53_open {w : World} {x : S53} {cs : List Value} (h : k53.K w x cs) : cs = [.string x.f0, .int .i64 x.f1, .int .i64 x.f2, .int .i64 x.f3, .string x.f4] := by
  obtain ⟨_, _, rfl, rfl, ⟨_, _, rfl, rfl, ⟨_, _, rfl, rfl, ⟨_, _, rfl, rfl, rfl⟩⟩⟩⟩ := h
  exact rfl
theorem k53_mkM (w : World) (base : Nat) (ok : Nat → Prop) (x : S53)  : k53.M w base ok x [.string x.f0, .int .i64 x.f1, .int .i64 x.f2, .int .i64 x.f3, .string x.f4] := ⟨[.string x.f0], [.int .i64 x.f1, .int .i64 x.f2, .int .i64 x.f3, .string x.f4], rfl, rfl, ⟨[.int .i64 x.f1], [.int .i64 x.f2, .int .i64 x.f3, .string x.f4], rfl, rfl, ⟨[.int .i64 x.f2], [.int .i64 x.f3, .string x.f4], rfl, rfl, ⟨[.int .i64 x.f3], [.string x.f4], rfl, rfl, rfl⟩⟩⟩⟩
def rd_T53 (xs : List S53) (i : Int) : S53 := xs.getD i.toNat z53
theorem at_T53 {w : World} {A : Option Addr} {n : Nat} {xs : List S53} (h : Kd.C k53 w A n xs) (i : Int) (h0 : 0 ≤ i) (h1 : i < n) : ∃ ad , A = some ad ∧ w.cell? (ad.add (i.toNat * 5)) = some (.string (rd_T53 xs i).f0) ∧ w.cell? ⟨(ad.add (i.toNat * 5)).block, (ad.add (i.toNat * 5)).off + 1, none⟩ = some (.int .i64 (rd_T53 xs i).f1) ∧ w.cell? ⟨(ad.add (i.toNat * 5)).block, (ad.add (i.toNat * 5)).off + 2, none⟩ = some (.int .i64 (rd_T53 xs i).f2) ∧ w.cell? ⟨(ad.add (i.toNat * 5)).block, (ad.add (i.toNat * 5)).off + 3, none⟩ = some (.int .i64 (rd_T53 xs i).f3) ∧ w.cell? ⟨(ad.add (i.toNat * 5)).block, (ad.add (i.toNat * 5)).off + 4, none⟩ = some (.string (rd_T53 xs i).f4) := by
  obtain ⟨ad, c, e, _, hK, hc0⟩ := Kd.C_get h z53 i h0 h1
  have hc : ∀ j u, c[j]? = some u → w.cell? (ad.add (i.toNat * 5 + j)) = some u := hc0
  obtain rfl := k53_open hK
  exact ⟨ad, e, hc 0 _ rfl, by rw [← add_field _ _ 1 (by omega)]; exact hc 1 _ rfl, by rw [← add_field _ _ 2 (by omega)]; exact hc 2 _ rfl, by rw [← add_field _ _ 3 (by omega)]; exact hc 3 _ rfl, by rw [← add_field _ _ 4 (by omega)]; exact hc 4 _ rfl⟩

end Go.Proofs.Ytjklgdpffmaamaa.PSm

namespace Go.Proofs.Ytjklgdpffmaamaa.PSm
open Go.RowKit Go.Proofs.YtjklgdpffmaamaaW.PrintWords Go.Proofs.YtjklgdpffmaamaaW.PrintLast Go.Proofs.YtjklgdpffmaamaaW.PrintMore
attribute [local go_sem] max2_int min2_int max_two min_two max_three min_three max_four min_four   -- for this text's walks alone
set_option linter.unusedVariables false
set_option linter.unusedSimpArgs false

theorem eqA23 (d : Nat) (w : World) (x0 y0 : Int) (x1 y1 : Bool) (x2 y2 : Int) (x3 y3 : Bool) (x4 y4 : Bool) (x5 y5 : Bool) (x6 y6 : Bool) (x7 y7 : Int) (x8 y8 : Int) :
    (Op.equalIn (d + 2) 23 (.agg #[.int .i64 x0, .bool x1, .int .i64 x2, .bool x3, .bool x4, .bool x5, .bool x6, .int .i64 x7, .int .i64 x8]) (.agg #[.int .i64 y0, .bool y1, .int .i64 y2, .bool y3, .bool y4, .bool y5, .bool y6, .int .i64 y7, .int .i64 y8])).run Try.prog w = .ok (x0 == y0 && (x1 == y1 && (x2 == y2 && (x3 == y3 && (x4 == y4 && (x5 == y5 && (x6 == y6 && (x7 == y7 && (x8 == y8))))))))) w := by
  refine eqA_of Try.underlying23 (by kernel_rfl) ?_
  refine eqf_cons (by rfl) (by go_simp; rfl) (by go_simp; rfl) (by go_simp) ?_
  refine eqf_cons (by rfl) (by go_simp; rfl) (by go_simp; rfl) (by go_simp) ?_
  refine eqf_cons (by rfl) (by go_simp; rfl) (by go_simp; rfl) (by go_simp) ?_
  refine eqf_cons (by rfl) (by go_simp; rfl) (by go_simp; rfl) (by go_simp) ?_
  refine eqf_cons (by rfl) (by go_simp; rfl) (by go_simp; rfl) (by go_simp) ?_
  refine eqf_cons (by rfl) (by go_simp; rfl) (by go_simp; rfl) (by go_simp) ?_
  refine eqf_cons (by rfl) (by go_simp; rfl) (by go_simp; rfl) (by go_simp) ?_
  refine eqf_cons (by rfl) (by go_simp; rfl) (by go_simp; rfl) (by go_simp) ?_
  exact eqf_last (by rfl) (by go_simp; rfl) (by go_simp; rfl) (by go_simp)
end Go.Proofs.Ytjklgdpffmaamaa.PSm

namespace Go.Proofs.Ytjklgdpffmaamaa.PSm
open Go.RowKit Go.Proofs.YtjklgdpffmaamaaW.PrintWords Go.Proofs.YtjklgdpffmaamaaW.PrintLast Go.Proofs.YtjklgdpffmaamaaW.PrintMore
attribute [local go_sem] max2_int min2_int max_two min_two max_three min_three max_four min_four   -- for this text's walks alone
set_option linter.unusedVariables false
set_option linter.unusedSimpArgs false

theorem eqA40 (d : Nat) (w : World) (x0 y0 : ByteArray) (x1 y1 : Int) (x2 y2 : Int) :
    (Op.equalIn (d + 2) 40 (.agg #[.string x0, .int .i64 x1, .int .i64 x2]) (.agg #[.string y0, .int .i64 y1, .int .i64 y2])).run Try.prog w = .ok (x0.toList == y0.toList && (x1 == y1 && (x2 == y2))) w := by
  refine eqA_of Try.underlying40 (by kernel_rfl) ?_
  refine eqf_cons (by rfl) (by go_simp; rfl) (by go_simp; rfl) (by go_simp) ?_
  refine eqf_cons (by rfl) (by go_simp; rfl) (by go_simp; rfl) (by go_simp) ?_
  exact eqf_last (by rfl) (by go_simp; rfl) (by go_simp; rfl) (by go_simp)
end Go.Proofs.Ytjklgdpffmaamaa.PSm

namespace Go.Proofs.Ytjklgdpffmaamaa.PSm
open Go.RowKit Go.Proofs.YtjklgdpffmaamaaW.PrintWords Go.Proofs.YtjklgdpffmaamaaW.PrintLast Go.Proofs.YtjklgdpffmaamaaW.PrintMore
attribute [local go_sem] max2_int min2_int max_two min_two max_three min_three max_four min_four   -- for this text's walks alone
set_option linter.unusedVariables false
set_option linter.unusedSimpArgs false

theorem eqA53 (d : Nat) (w : World) (x0 y0 : ByteArray) (x1 y1 : Int) (x2 y2 : Int) (x3 y3 : Int) (x4 y4 : ByteArray) :
    (Op.equalIn (d + 2) 53 (.agg #[.string x0, .int .i64 x1, .int .i64 x2, .int .i64 x3, .string x4]) (.agg #[.string y0, .int .i64 y1, .int .i64 y2, .int .i64 y3, .string y4])).run Try.prog w = .ok (x0.toList == y0.toList && (x1 == y1 && (x2 == y2 && (x3 == y3 && (x4.toList == y4.toList))))) w := by
  refine eqA_of Try.underlying53 (by kernel_rfl) ?_
  refine eqf_cons (by rfl) (by go_simp; rfl) (by go_simp; rfl) (by go_simp) ?_
  refine eqf_cons (by rfl) (by go_simp; rfl) (by go_simp; rfl) (by go_simp) ?_
  refine eqf_cons (by rfl) (by go_simp; rfl) (by go_simp; rfl) (by go_simp) ?_
  refine eqf_cons (by rfl) (by go_simp; rfl) (by go_simp; rfl) (by go_simp) ?_
  exact eqf_last (by rfl) (by go_simp; rfl) (by go_simp; rfl) (by go_simp)
end Go.Proofs.Ytjklgdpffmaamaa.PSm

namespace Go.Proofs.Ytjklgdpffmaamaa.PSm
open Go.RowKit Go.Proofs.YtjklgdpffmaamaaW.PrintWords Go.Proofs.YtjklgdpffmaamaaW.PrintLast Go.Proofs.YtjklgdpffmaamaaW.PrintMore
attribute [local go_sem] max2_int min2_int max_two min_two max_three min_three max_four min_four   -- for this text's walks alone
set_option linter.unusedVariables false
set_option linter.unusedSimpArgs false

attribute [local go_sem high] eqA23 eqA40 eqA53
/-! ### wimplelaw0_SameQuestions: function 31 -/
def wimplelaw0_SameQuestions.l0 : Nat → List (S40) → List (S40) → Int → Option (Bool)
  | 0, _, _, _ => none
  | k + 1, x0, x1, x5 => if x5 < (x0.length : Int) then (if 0 ≤ x5 then (if x5 < (x1.length : Int) then (if (!((((rd_T40 x0 x5).f0).toList) == (((rd_T40 x1 x5).f0).toList)) || (!(((rd_T40 x0 x5).f1) == ((rd_T40 x1 x5).f1)) || (!(((rd_T40 x0 x5).f2) == ((rd_T40 x1 x5).f2))))) = true then (some false) else (wimplelaw0_SameQuestions.l0 k x0 x1 (wrap64 (x5 + 1)))) else (none)) else (none)) else (some true)
def wimplelaw0_SameQuestions.f (k : Nat) (l0 : List (S40)) (l1 : List (S40)) : Option (Bool) := if (l0.length : Int) = (l1.length : Int) then (wimplelaw0_SameQuestions.l0 k l0 l1 0) else (some false)
theorem wimplelaw0_SameQuestions.mono_l : ∀ k, (∀ y0 y1 y2, LeO (wimplelaw0_SameQuestions.l0 k y0 y1 y2) (wimplelaw0_SameQuestions.l0 (k + 1) y0 y1 y2))
  | 0 => fun _ _ _ r h => by simp [wimplelaw0_SameQuestions.l0] at h
  | k + 1 => by
    have ih0 := wimplelaw0_SameQuestions.mono_l k
    · intro y0 y1 y2
      unfold wimplelaw0_SameQuestions.l0
      repeat' first
      | (with_reducible exact ih0 _ _ _)
      | (with_reducible exact LeO.refl _)
      | (with_reducible exact LeO.none _)
      | (with_reducible refine LeO.ite ?_ ?_)
      | (with_reducible refine LeO.bind ?_ (fun _ => ?_))
      | exact ih0 _ _ _
      | exact LeO.none _
      | refine LeO.ite ?_ ?_
      | refine LeO.bind ?_ (fun _ => ?_)
theorem wimplelaw0_SameQuestions.mono : ∀ a0 a1 k, LeO (wimplelaw0_SameQuestions.f k a0 a1) (wimplelaw0_SameQuestions.f (k + 1) a0 a1) := by
  intro a0 a1 k
  have ih0 := wimplelaw0_SameQuestions.mono_l k
  unfold wimplelaw0_SameQuestions.f
  repeat' first
      | (with_reducible exact ih0 _ _ _)
      | (with_reducible exact LeO.refl _)
      | (with_reducible exact LeO.none _)
      | (with_reducible refine LeO.ite ?_ ?_)
      | (with_reducible refine LeO.bind ?_ (fun _ => ?_))
      | exact ih0 _ _ _
      | exact LeO.none _
      | refine LeO.ite ?_ ?_
      | refine LeO.bind ?_ (fun _ => ?_)
set_option maxHeartbeats 8000000 in
set_option maxRecDepth 100000 in
theorem wimplelaw0_SameQuestions.calls (k : Nat) (A0 : Option Addr) (c0 : Nat) (l0 : List (S40)) (A1 : Option Addr) (c1 : Nat) (l1 : List (S40)) (r : Bool) (w : World) (hr0 : Kd.C k40 w A0 l0.length l0) (hc0 : l0.length ≤ c0) (hr1 : Kd.C k40 w A1 l1.length l1) (hc1 : l1.length ≤ c1) (h : wimplelaw0_SameQuestions.f k l0 l1 = some r) :
    Calls Try.prog 31 #[.slice A0 l0.length c0, .slice A1 l1.length c1] w fun e w' => e = .returned (.bool r) ∧ Drawn0 w w' := by
  have hu40 := Try.underlying40
  have HR0 := Aside0.mk hr0
  have HC0 := Aside0.mk hc0
  clear hr0 hc0
  have HR1 := Aside0.mk hr1
  have HC1 := Aside0.mk hc1
  clear hr1 hc1
  have H : (if (l0.length : Int) = (l1.length : Int) then (wimplelaw0_SameQuestions.l0 k l0 l1 0) else (some false)) = some r := h
  clear h
  by_cases c3 : (l0.length : Int) = (l1.length : Int)
  · rw [if_pos c3] at H
    have c3b0 : ((l0.length : Int) == (l1.length : Int)) = true := beq_iff_eq.mpr c3
    have c3b1 : ((l0.length : Int) != (l1.length : Int)) = false := bne_eq_false_iff_eq.mpr c3
    have c3b2 : (l0.length == l1.length) = true := by first | simpa using c3 | (simp at c3 ⊢; omega)
    clear c3
    have H' := Aside0.mk H
    clear H
    go_enter Try.func31, Try.ntmps31
    go_wp2
    repeat (go_quiet (fail); try go_wp2)
    go_loopg [5] k (fun kq v5 w' => ∃ (x5_1 : Int), v5 = .int .i64 x5_1 ∧ Aside0 (wimplelaw0_SameQuestions.l0 kq l0 l1 x5_1 = some r) ∧ Aside0 (kq ≤ k) ∧ Drawn0 w w')
    case atStart => exact ⟨(0), (by first | rfl | (simp; done) | (simp [*]; done)), H', ⟨Nat.le_refl _⟩, by repeat (first | exact Drawn0.refl _ | apply Drawn0.step)⟩
    case round =>
      clear H'
      try clear c1
      try clear p2
      try clear c3
      try clear c3b0
      try clear c3b1
      try clear c3b2
      obtain ⟨x5_1, rfl, HA, HK1, ⟨m1, rfl⟩⟩ := hrel
      cases gk with
      | zero => exact absurd HA.out (by simp [wimplelaw0_SameQuestions.l0])
      | succ k1 =>
        have H := HA.out
        clear HA
        simp only [wimplelaw0_SameQuestions.l0] at H
        by_cases c4 : x5_1 < (l0.length : Int)
        · rw [if_pos c4] at H
          have c4b0 : decide (x5_1 < (l0.length : Int)) = true := decide_eq_true c4
          clear c4
          by_cases c5 : 0 ≤ x5_1
          · rw [if_pos c5] at H
            have c5b0 : decide (0 ≤ x5_1) = true := decide_eq_true c5
            clear c5
            by_cases c6 : x5_1 < (l1.length : Int)
            · rw [if_pos c6] at H
              have c6b0 : decide (x5_1 < (l1.length : Int)) = true := decide_eq_true c6
              clear c6
              by_cases c7 : (!((((rd_T40 l0 x5_1).f0).toList) == (((rd_T40 l1 x5_1).f0).toList)) || (!(((rd_T40 l0 x5_1).f1) == ((rd_T40 l1 x5_1).f1)) || (!(((rd_T40 l0 x5_1).f2) == ((rd_T40 l1 x5_1).f2))))) = true
              · rw [if_pos c7] at H
                have c7b0 : (!((((rd_T40 l0 x5_1).f0).toList) == (((rd_T40 l1 x5_1).f0).toList)) || (!(((rd_T40 l0 x5_1).f1) == ((rd_T40 l1 x5_1).f1)) || (!(((rd_T40 l0 x5_1).f2) == ((rd_T40 l1 x5_1).f2))))) = true := c7
                clear c7
                obtain rfl := Option.some.inj H
                have p101 : 0 ≤ (x5_1 : Int) := of_decide_eq_true (by first | (with_reducible assumption) | assumption)
                have q101 : x5_1 < (l0.length : Int) := of_decide_eq_true (by first | (with_reducible assumption) | assumption)
                obtain ⟨ad101, e101, hx101_0, hx101_1, hx101_2⟩ := at_T40 HR0.out x5_1 p101 q101
                cases e101
                replace p101 := eq_true p101
                replace q101 := eq_true q101
                have p102 : 0 ≤ (x5_1 : Int) := of_decide_eq_true (by first | (with_reducible assumption) | assumption)
                have q102 : x5_1 < (l1.length : Int) := of_decide_eq_true (by first | (with_reducible assumption) | assumption)
                obtain ⟨ad102, e102, hx102_0, hx102_1, hx102_2⟩ := at_T40 HR1.out x5_1 p102 q102
                cases e102
                replace p102 := eq_true p102
                replace q102 := eq_true q102
                go_wp2
                repeat (go_quiet (fail); try go_wp2)
                go_ret
                exact ⟨by first | rfl | (simp; done) | (simp [*]; done), by repeat (first | exact Drawn0.refl _ | apply Drawn0.step)⟩
              · rw [if_neg c7] at H
                have c7b0 : (!((((rd_T40 l0 x5_1).f0).toList) == (((rd_T40 l1 x5_1).f0).toList)) || (!(((rd_T40 l0 x5_1).f1) == ((rd_T40 l1 x5_1).f1)) || (!(((rd_T40 l0 x5_1).f2) == ((rd_T40 l1 x5_1).f2))))) = false := by simpa using c7
                clear c7
                have H' := Aside0.mk H
                clear H
                have p101 : 0 ≤ (x5_1 : Int) := of_decide_eq_true (by first | (with_reducible assumption) | assumption)
                have q101 : x5_1 < (l0.length : Int) := of_decide_eq_true (by first | (with_reducible assumption) | assumption)
                obtain ⟨ad101, e101, hx101_0, hx101_1, hx101_2⟩ := at_T40 HR0.out x5_1 p101 q101
                cases e101
                replace p101 := eq_true p101
                replace q101 := eq_true q101
                have p102 : 0 ≤ (x5_1 : Int) := of_decide_eq_true (by first | (with_reducible assumption) | assumption)
                have q102 : x5_1 < (l1.length : Int) := of_decide_eq_true (by first | (with_reducible assumption) | assumption)
                obtain ⟨ad102, e102, hx102_0, hx102_1, hx102_2⟩ := at_T40 HR1.out x5_1 p102 q102
                cases e102
                replace p102 := eq_true p102
                replace q102 := eq_true q102
                go_wp2
                repeat (go_quiet (fail); try go_wp2)
                go_roundg k1
                case measure => have := HK1.out; omega
                case rel => exact ⟨(wrap64 (x5_1 + 1)), (by first | rfl | (simp; done) | (simp [*]; done)), H', ⟨by have := HK1.out; omega⟩, by repeat (first | exact Drawn0.refl _ | apply Drawn0.step)⟩
            · rw [if_neg c6] at H
              exact absurd H (by simp)
          · rw [if_neg c5] at H
            exact absurd H (by simp)
        · rw [if_neg c4] at H
          have c4b0 : decide (x5_1 < (l0.length : Int)) = false := decide_eq_false c4
          clear c4
          obtain rfl := Option.some.inj H
          go_wp2
          repeat (go_quiet (fail); try go_wp2)
          go_ret
          exact ⟨by first | rfl | (simp; done) | (simp [*]; done), by repeat (first | exact Drawn0.refl _ | apply Drawn0.step)⟩
  · rw [if_neg c3] at H
    have c3b0 : ((l0.length : Int) == (l1.length : Int)) = false := beq_eq_false_iff_ne.mpr c3
    have c3b1 : ((l0.length : Int) != (l1.length : Int)) = true := bne_iff_ne.mpr c3
    have c3b2 : (l0.length == l1.length) = false := by first | simpa using c3 | (simp at c3 ⊢; omega)
    obtain rfl := Option.some.inj H
    go_enter Try.func31, Try.ntmps31
    go_wp2
    repeat (go_quiet (fail); try go_wp2)
    go_ret
    exact ⟨by first | rfl | (simp; done) | (simp [*]; done), by repeat (first | exact Drawn0.refl _ | apply Drawn0.step)⟩

/-! ### wimplelaw0_SameRrs: function 44 -/
def wimplelaw0_SameRrs.l0 : Nat → List (S53) → List (S53) → Int → Option (Bool)
  | 0, _, _, _ => none
  | k + 1, x0, x1, x5 => if x5 < (x0.length : Int) then (if 0 ≤ x5 then (if x5 < (x1.length : Int) then (if (!((((rd_T53 x0 x5).f0).toList) == (((rd_T53 x1 x5).f0).toList)) || (!(((rd_T53 x0 x5).f1) == ((rd_T53 x1 x5).f1)) || (!(((rd_T53 x0 x5).f2) == ((rd_T53 x1 x5).f2)) || (!(((rd_T53 x0 x5).f3) == ((rd_T53 x1 x5).f3)) || (!((((rd_T53 x0 x5).f4).toList) == (((rd_T53 x1 x5).f4).toList))))))) = true then (some false) else (wimplelaw0_SameRrs.l0 k x0 x1 (wrap64 (x5 + 1)))) else (none)) else (none)) else (some true)
def wimplelaw0_SameRrs.f (k : Nat) (l0 : List (S53)) (l1 : List (S53)) : Option (Bool) := if (l0.length : Int) = (l1.length : Int) then (wimplelaw0_SameRrs.l0 k l0 l1 0) else (some false)
theorem wimplelaw0_SameRrs.mono_l : ∀ k, (∀ y0 y1 y2, LeO (wimplelaw0_SameRrs.l0 k y0 y1 y2) (wimplelaw0_SameRrs.l0 (k + 1) y0 y1 y2))
  | 0 => fun _ _ _ r h => by simp [wimplelaw0_SameRrs.l0] at h
  | k + 1 => by
    have ih0 := wimplelaw0_SameRrs.mono_l k
    · intro y0 y1 y2
      unfold wimplelaw0_SameRrs.l0
      repeat' first
      | (with_reducible exact ih0 _ _ _)
      | (with_reducible exact LeO.refl _)
      | (with_reducible exact LeO.none _)
      | (with_reducible refine LeO.ite ?_ ?_)
      | (with_reducible refine LeO.bind ?_ (fun _ => ?_))
      | exact ih0 _ _ _
      | exact LeO.none _
      | refine LeO.ite ?_ ?_
      | refine LeO.bind ?_ (fun _ => ?_)
theorem wimplelaw0_SameRrs.mono : ∀ a0 a1 k, LeO (wimplelaw0_SameRrs.f k a0 a1) (wimplelaw0_SameRrs.f (k + 1) a0 a1) := by
  intro a0 a1 k
  have ih0 := wimplelaw0_SameRrs.mono_l k
  unfold wimplelaw0_SameRrs.f
  repeat' first
      | (with_reducible exact ih0 _ _ _)
      | (with_reducible exact LeO.refl _)
      | (with_reducible exact LeO.none _)
      | (with_reducible refine LeO.ite ?_ ?_)
      | (with_reducible refine LeO.bind ?_ (fun _ => ?_))
      | exact ih0 _ _ _
      | exact LeO.none _
      | refine LeO.ite ?_ ?_
      | refine LeO.bind ?_ (fun _ => ?_)
set_option maxHeartbeats 8000000 in
set_option maxRecDepth 100000 in
theorem wimplelaw0_SameRrs.calls (k : Nat) (A0 : Option Addr) (c0 : Nat) (l0 : List (S53)) (A1 : Option Addr) (c1 : Nat) (l1 : List (S53)) (r : Bool) (w : World) (hr0 : Kd.C k53 w A0 l0.length l0) (hc0 : l0.length ≤ c0) (hr1 : Kd.C k53 w A1 l1.length l1) (hc1 : l1.length ≤ c1) (h : wimplelaw0_SameRrs.f k l0 l1 = some r) :
    Calls Try.prog 44 #[.slice A0 l0.length c0, .slice A1 l1.length c1] w fun e w' => e = .returned (.bool r) ∧ Drawn0 w w' := by
  have hu53 := Try.underlying53
  have HR0 := Aside0.mk hr0
  have HC0 := Aside0.mk hc0
  clear hr0 hc0
  have HR1 := Aside0.mk hr1
  have HC1 := Aside0.mk hc1
  clear hr1 hc1
  have H : (if (l0.length : Int) = (l1.length : Int) then (wimplelaw0_SameRrs.l0 k l0 l1 0) else (some false)) = some r := h
  clear h
  by_cases c3 : (l0.length : Int) = (l1.length : Int)
  · rw [if_pos c3] at H
    have c3b0 : ((l0.length : Int) == (l1.length : Int)) = true := beq_iff_eq.mpr c3
    have c3b1 : ((l0.length : Int) != (l1.length : Int)) = false := bne_eq_false_iff_eq.mpr c3
    have c3b2 : (l0.length == l1.length) = true := by first | simpa using c3 | (simp at c3 ⊢; omega)
    clear c3
    have H' := Aside0.mk H
    clear H
    go_enter Try.func44, Try.ntmps44
    go_wp2
    repeat (go_quiet (fail); try go_wp2)
    go_loopg [5] k (fun kq v5 w' => ∃ (x5_1 : Int), v5 = .int .i64 x5_1 ∧ Aside0 (wimplelaw0_SameRrs.l0 kq l0 l1 x5_1 = some r) ∧ Aside0 (kq ≤ k) ∧ Drawn0 w w')
    case atStart => exact ⟨(0), (by first | rfl | (simp; done) | (simp [*]; done)), H', ⟨Nat.le_refl _⟩, by repeat (first | exact Drawn0.refl _ | apply Drawn0.step)⟩
    case round =>
      clear H'
      try clear c1
      try clear p2
      try clear c3
      try clear c3b0
      try clear c3b1
      try clear c3b2
      obtain ⟨x5_1, rfl, HA, HK1, ⟨m1, rfl⟩⟩ := hrel
      cases gk with
      | zero => exact absurd HA.out (by simp [wimplelaw0_SameRrs.l0])
      | succ k1 =>
        have H := HA.out
        clear HA
        simp only [wimplelaw0_SameRrs.l0] at H
        by_cases c4 : x5_1 < (l0.length : Int)
        · rw [if_pos c4] at H
          have c4b0 : decide (x5_1 < (l0.length : Int)) = true := decide_eq_true c4
          clear c4
          by_cases c5 : 0 ≤ x5_1
          · rw [if_pos c5] at H
            have c5b0 : decide (0 ≤ x5_1) = true := decide_eq_true c5
            clear c5
            by_cases c6 : x5_1 < (l1.length : Int)
            · rw [if_pos c6] at H
              have c6b0 : decide (x5_1 < (l1.length : Int)) = true := decide_eq_true c6
              clear c6
              by_cases c7 : (!((((rd_T53 l0 x5_1).f0).toList) == (((rd_T53 l1 x5_1).f0).toList)) || (!(((rd_T53 l0 x5_1).f1) == ((rd_T53 l1 x5_1).f1)) || (!(((rd_T53 l0 x5_1).f2) == ((rd_T53 l1 x5_1).f2)) || (!(((rd_T53 l0 x5_1).f3) == ((rd_T53 l1 x5_1).f3)) || (!((((rd_T53 l0 x5_1).f4).toList) == (((rd_T53 l1 x5_1).f4).toList))))))) = true
              · rw [if_pos c7] at H
                have c7b0 : (!((((rd_T53 l0 x5_1).f0).toList) == (((rd_T53 l1 x5_1).f0).toList)) || (!(((rd_T53 l0 x5_1).f1) == ((rd_T53 l1 x5_1).f1)) || (!(((rd_T53 l0 x5_1).f2) == ((rd_T53 l1 x5_1).f2)) || (!(((rd_T53 l0 x5_1).f3) == ((rd_T53 l1 x5_1).f3)) || (!((((rd_T53 l0 x5_1).f4).toList) == (((rd_T53 l1 x5_1).f4).toList))))))) = true := c7
                clear c7
                obtain rfl := Option.some.inj H
                have p103 : 0 ≤ (x5_1 : Int) := of_decide_eq_true (by first | (with_reducible assumption) | assumption)
                have q103 : x5_1 < (l0.length : Int) := of_decide_eq_true (by first | (with_reducible assumption) | assumption)
                obtain ⟨ad103, e103, hx103_0, hx103_1, hx103_2, hx103_3, hx103_4⟩ := at_T53 HR0.out x5_1 p103 q103
                cases e103
                replace p103 := eq_true p103
                replace q103 := eq_true q103
                have p104 : 0 ≤ (x5_1 : Int) := of_decide_eq_true (by first | (with_reducible assumption) | assumption)
                have q104 : x5_1 < (l1.length : Int) := of_decide_eq_true (by first | (with_reducible assumption) | assumption)
                obtain ⟨ad104, e104, hx104_0, hx104_1, hx104_2, hx104_3, hx104_4⟩ := at_T53 HR1.out x5_1 p104 q104
                cases e104
                replace p104 := eq_true p104
                replace q104 := eq_true q104
                go_wp2
                repeat (go_quiet (fail); try go_wp2)
                go_ret
                exact ⟨by first | rfl | (simp; done) | (simp [*]; done), by repeat (first | exact Drawn0.refl _ | apply Drawn0.step)⟩
              · rw [if_neg c7] at H
                have c7b0 : (!((((rd_T53 l0 x5_1).f0).toList) == (((rd_T53 l1 x5_1).f0).toList)) || (!(((rd_T53 l0 x5_1).f1) == ((rd_T53 l1 x5_1).f1)) || (!(((rd_T53 l0 x5_1).f2) == ((rd_T53 l1 x5_1).f2)) || (!(((rd_T53 l0 x5_1).f3) == ((rd_T53 l1 x5_1).f3)) || (!((((rd_T53 l0 x5_1).f4).toList) == (((rd_T53 l1 x5_1).f4).toList))))))) = false := by simpa using c7
                clear c7
                have H' := Aside0.mk H
                clear H
                have p103 : 0 ≤ (x5_1 : Int) := of_decide_eq_true (by first | (with_reducible assumption) | assumption)
                have q103 : x5_1 < (l0.length : Int) := of_decide_eq_true (by first | (with_reducible assumption) | assumption)
                obtain ⟨ad103, e103, hx103_0, hx103_1, hx103_2, hx103_3, hx103_4⟩ := at_T53 HR0.out x5_1 p103 q103
                cases e103
                replace p103 := eq_true p103
                replace q103 := eq_true q103
                have p104 : 0 ≤ (x5_1 : Int) := of_decide_eq_true (by first | (with_reducible assumption) | assumption)
                have q104 : x5_1 < (l1.length : Int) := of_decide_eq_true (by first | (with_reducible assumption) | assumption)
                obtain ⟨ad104, e104, hx104_0, hx104_1, hx104_2, hx104_3, hx104_4⟩ := at_T53 HR1.out x5_1 p104 q104
                cases e104
                replace p104 := eq_true p104
                replace q104 := eq_true q104
                go_wp2
                repeat (go_quiet (fail); try go_wp2)
                go_roundg k1
                case measure => have := HK1.out; omega
                case rel => exact ⟨(wrap64 (x5_1 + 1)), (by first | rfl | (simp; done) | (simp [*]; done)), H', ⟨by have := HK1.out; omega⟩, by repeat (first | exact Drawn0.refl _ | apply Drawn0.step)⟩
            · rw [if_neg c6] at H
              exact absurd H (by simp)
          · rw [if_neg c5] at H
            exact absurd H (by simp)
        · rw [if_neg c4] at H
          have c4b0 : decide (x5_1 < (l0.length : Int)) = false := decide_eq_false c4
          clear c4
          obtain rfl := Option.some.inj H
          go_wp2
          repeat (go_quiet (fail); try go_wp2)
          go_ret
          exact ⟨by first | rfl | (simp; done) | (simp [*]; done), by repeat (first | exact Drawn0.refl _ | apply Drawn0.step)⟩
  · rw [if_neg c3] at H
    have c3b0 : ((l0.length : Int) == (l1.length : Int)) = false := beq_eq_false_iff_ne.mpr c3
    have c3b1 : ((l0.length : Int) != (l1.length : Int)) = true := bne_iff_ne.mpr c3
    have c3b2 : (l0.length == l1.length) = false := by first | simpa using c3 | (simp at c3 ⊢; omega)
    obtain rfl := Option.some.inj H
    go_enter Try.func44, Try.ntmps44
    go_wp2
    repeat (go_quiet (fail); try go_wp2)
    go_ret
    exact ⟨by first | rfl | (simp; done) | (simp [*]; done), by repeat (first | exact Drawn0.refl _ | apply Drawn0.step)⟩

/-! ### wimplelaw0_SameMsg: function 20 -/
def wimplelaw0_SameMsg.f (k : Nat) (a0_0 : Int) (a0_1 : Bool) (a0_2 : Int) (a0_3 : Bool) (a0_4 : Bool) (a0_5 : Bool) (a0_6 : Bool) (a0_7 : Int) (a0_8 : Int) (l0_9 : List (S40)) (l0_10 : List (S53)) (l0_11 : List (S53)) (l0_12 : List (S53)) (a1_0 : Int) (a1_1 : Bool) (a1_2 : Int) (a1_3 : Bool) (a1_4 : Bool) (a1_5 : Bool) (a1_6 : Bool) (a1_7 : Int) (a1_8 : Int) (l1_9 : List (S40)) (l1_10 : List (S53)) (l1_11 : List (S53)) (l1_12 : List (S53)) : Option (Bool) := if (a0_0 == a1_0 && (a0_1 == a1_1 && (a0_2 == a1_2 && (a0_3 == a1_3 && (a0_4 == a1_4 && (a0_5 == a1_5 && (a0_6 == a1_6 && (a0_7 == a1_7 && (a0_8 == a1_8))))))))) = true then ((wimplelaw0_SameQuestions.f k l0_9 l1_9).bind fun t107 => (if t107 = true then ((wimplelaw0_SameRrs.f k l0_10 l1_10).bind fun t108 => (if t108 = true then ((wimplelaw0_SameRrs.f k l0_11 l1_11).bind fun t109 => (if t109 = true then ((wimplelaw0_SameRrs.f k l0_12 l1_12).bind fun t110 => (some t110)) else (none))) else (none))) else (none))) else (none)
theorem wimplelaw0_SameMsg.mono : ∀ a0 a1 a2 a3 a4 a5 a6 a7 a8 a9 a10 a11 a12 a13 a14 a15 a16 a17 a18 a19 a20 a21 a22 a23 a24 a25 k, LeO (wimplelaw0_SameMsg.f k a0 a1 a2 a3 a4 a5 a6 a7 a8 a9 a10 a11 a12 a13 a14 a15 a16 a17 a18 a19 a20 a21 a22 a23 a24 a25) (wimplelaw0_SameMsg.f (k + 1) a0 a1 a2 a3 a4 a5 a6 a7 a8 a9 a10 a11 a12 a13 a14 a15 a16 a17 a18 a19 a20 a21 a22 a23 a24 a25) := by
  intro a0 a1 a2 a3 a4 a5 a6 a7 a8 a9 a10 a11 a12 a13 a14 a15 a16 a17 a18 a19 a20 a21 a22 a23 a24 a25 k
  unfold wimplelaw0_SameMsg.f
  repeat' first
      | (with_reducible exact wimplelaw0_SameQuestions.mono _ _ _)
      | (with_reducible exact wimplelaw0_SameRrs.mono _ _ _)
      | (with_reducible exact LeO.refl _)
      | (with_reducible exact LeO.none _)
      | (with_reducible refine LeO.ite ?_ ?_)
      | (with_reducible refine LeO.bind ?_ (fun _ => ?_))
      | exact wimplelaw0_SameQuestions.mono _ _ _
      | exact wimplelaw0_SameRrs.mono _ _ _
      | exact LeO.none _
      | refine LeO.ite ?_ ?_
      | refine LeO.bind ?_ (fun _ => ?_)
set_option maxHeartbeats 8000000 in
set_option maxRecDepth 100000 in
theorem wimplelaw0_SameMsg.calls (k : Nat) (a0_0 : Int) (a0_1 : Bool) (a0_2 : Int) (a0_3 : Bool) (a0_4 : Bool) (a0_5 : Bool) (a0_6 : Bool) (a0_7 : Int) (a0_8 : Int) (A0_9 : Option Addr) (c0_9 : Nat) (l0_9 : List (S40)) (A0_10 : Option Addr) (c0_10 : Nat) (l0_10 : List (S53)) (A0_11 : Option Addr) (c0_11 : Nat) (l0_11 : List (S53)) (A0_12 : Option Addr) (c0_12 : Nat) (l0_12 : List (S53)) (a1_0 : Int) (a1_1 : Bool) (a1_2 : Int) (a1_3 : Bool) (a1_4 : Bool) (a1_5 : Bool) (a1_6 : Bool) (a1_7 : Int) (a1_8 : Int) (A1_9 : Option Addr) (c1_9 : Nat) (l1_9 : List (S40)) (A1_10 : Option Addr) (c1_10 : Nat) (l1_10 : List (S53)) (A1_11 : Option Addr) (c1_11 : Nat) (l1_11 : List (S53)) (A1_12 : Option Addr) (c1_12 : Nat) (l1_12 : List (S53)) (r : Bool) (w : World) (hr0_9 : Kd.C k40 w A0_9 l0_9.length l0_9) (hc0_9 : l0_9.length ≤ c0_9) (hr0_10 : Kd.C k53 w A0_10 l0_10.length l0_10) (hc0_10 : l0_10.length ≤ c0_10) (hr0_11 : Kd.C k53 w A0_11 l0_11.length l0_11) (hc0_11 : l0_11.length ≤ c0_11) (hr0_12 : Kd.C k53 w A0_12 l0_12.length l0_12) (hc0_12 : l0_12.length ≤ c0_12) (hr1_9 : Kd.C k40 w A1_9 l1_9.length l1_9) (hc1_9 : l1_9.length ≤ c1_9) (hr1_10 : Kd.C k53 w A1_10 l1_10.length l1_10) (hc1_10 : l1_10.length ≤ c1_10) (hr1_11 : Kd.C k53 w A1_11 l1_11.length l1_11) (hc1_11 : l1_11.length ≤ c1_11) (hr1_12 : Kd.C k53 w A1_12 l1_12.length l1_12) (hc1_12 : l1_12.length ≤ c1_12) (h : wimplelaw0_SameMsg.f k a0_0 a0_1 a0_2 a0_3 a0_4 a0_5 a0_6 a0_7 a0_8 l0_9 l0_10 l0_11 l0_12 a1_0 a1_1 a1_2 a1_3 a1_4 a1_5 a1_6 a1_7 a1_8 l1_9 l1_10 l1_11 l1_12 = some r) :
    Calls Try.prog 20 #[.agg #[.int .i64 a0_0, .bool a0_1, .int .i64 a0_2, .bool a0_3, .bool a0_4, .bool a0_5, .bool a0_6, .int .i64 a0_7, .int .i64 a0_8, .slice A0_9 l0_9.length c0_9, .slice A0_10 l0_10.length c0_10, .slice A0_11 l0_11.length c0_11, .slice A0_12 l0_12.length c0_12], .agg #[.int .i64 a1_0, .bool a1_1, .int .i64 a1_2, .bool a1_3, .bool a1_4, .bool a1_5, .bool a1_6, .int .i64 a1_7, .int .i64 a1_8, .slice A1_9 l1_9.length c1_9, .slice A1_10 l1_10.length c1_10, .slice A1_11 l1_11.length c1_11, .slice A1_12 l1_12.length c1_12]] w fun e w' => e = .returned (.bool r) ∧ Below w.heap.size w w' := by
  have hu27 := Try.underlying27
  have hu23 := Try.underlying23
  have HR0_9 := Aside0.mk hr0_9
  have HC0_9 := Aside0.mk hc0_9
  clear hr0_9 hc0_9
  have HR0_10 := Aside0.mk hr0_10
  have HC0_10 := Aside0.mk hc0_10
  clear hr0_10 hc0_10
  have HR0_11 := Aside0.mk hr0_11
  have HC0_11 := Aside0.mk hc0_11
  clear hr0_11 hc0_11
  have HR0_12 := Aside0.mk hr0_12
  have HC0_12 := Aside0.mk hc0_12
  clear hr0_12 hc0_12
  have HR1_9 := Aside0.mk hr1_9
  have HC1_9 := Aside0.mk hc1_9
  clear hr1_9 hc1_9
  have HR1_10 := Aside0.mk hr1_10
  have HC1_10 := Aside0.mk hc1_10
  clear hr1_10 hc1_10
  have HR1_11 := Aside0.mk hr1_11
  have HC1_11 := Aside0.mk hc1_11
  clear hr1_11 hc1_11
  have HR1_12 := Aside0.mk hr1_12
  have HC1_12 := Aside0.mk hc1_12
  clear hr1_12 hc1_12
  have HB := Aside0.mk (Below.refl w.heap.size w)
  have H : (if (a0_0 == a1_0 && (a0_1 == a1_1 && (a0_2 == a1_2 && (a0_3 == a1_3 && (a0_4 == a1_4 && (a0_5 == a1_5 && (a0_6 == a1_6 && (a0_7 == a1_7 && (a0_8 == a1_8))))))))) = true then ((wimplelaw0_SameQuestions.f k l0_9 l1_9).bind fun t107 => (if t107 = true then ((wimplelaw0_SameRrs.f k l0_10 l1_10).bind fun t108 => (if t108 = true then ((wimplelaw0_SameRrs.f k l0_11 l1_11).bind fun t109 => (if t109 = true then ((wimplelaw0_SameRrs.f k l0_12 l1_12).bind fun t110 => (some t110)) else (none))) else (none))) else (none))) else (none)) = some r := h
  clear h
  by_cases c3 : (a0_0 == a1_0 && (a0_1 == a1_1 && (a0_2 == a1_2 && (a0_3 == a1_3 && (a0_4 == a1_4 && (a0_5 == a1_5 && (a0_6 == a1_6 && (a0_7 == a1_7 && (a0_8 == a1_8))))))))) = true
  · rw [if_pos c3] at H
    (try (have c3b9 := c3; simp only [Bool.and_eq_true, beq_iff_eq] at c3b9; replace c3b9 := eq_true c3b9))
    have c3b0 : (a0_0 == a1_0 && (a0_1 == a1_1 && (a0_2 == a1_2 && (a0_3 == a1_3 && (a0_4 == a1_4 && (a0_5 == a1_5 && (a0_6 == a1_6 && (a0_7 == a1_7 && (a0_8 == a1_8))))))))) = true := c3
    (try (have c3b1 : decide (a0_0 = a1_0 && (a0_1 == a1_1 && (a0_2 == a1_2 && (a0_3 == a1_3 && (a0_4 == a1_4 && (a0_5 == a1_5 && (a0_6 == a1_6 && (a0_7 == a1_7 && (a0_8 == a1_8))))))))) = true := by simpa using c3))
    (try (have c3b2 : (a0_0 == a1_0 && (a0_1 == a1_1 && (a0_2 == a1_2 && (a0_3 == a1_3 && (a0_4 == a1_4 && (a0_5 == a1_5 && (a0_6 == a1_6 && (a0_7 == a1_7 && (a0_8 == a1_8))))))))) = true := by simpa using c3))
    clear c3
    replace H := Option.bind_eq_some_iff.mp H
    obtain ⟨t107, A40, H⟩ := H
    replace H : (if t107 = true then ((wimplelaw0_SameRrs.f k l0_10 l1_10).bind fun t108 => (if t108 = true then ((wimplelaw0_SameRrs.f k l0_11 l1_11).bind fun t109 => (if t109 = true then ((wimplelaw0_SameRrs.f k l0_12 l1_12).bind fun t110 => (some t110)) else (none))) else (none))) else (none)) = some r := H
    have A4 := Aside0.mk A40
    clear A40
    by_cases c5 : t107 = true
    · subst c5
      have H1 : ((wimplelaw0_SameRrs.f k l0_10 l1_10).bind fun t108 => (if t108 = true then ((wimplelaw0_SameRrs.f k l0_11 l1_11).bind fun t109 => (if t109 = true then ((wimplelaw0_SameRrs.f k l0_12 l1_12).bind fun t110 => (some t110)) else (none))) else (none))) = some r := by rw [if_pos rfl] at H; exact H
      clear H
      have H := H1
      clear H1
      replace H := Option.bind_eq_some_iff.mp H
      obtain ⟨t108, A60, H⟩ := H
      replace H : (if t108 = true then ((wimplelaw0_SameRrs.f k l0_11 l1_11).bind fun t109 => (if t109 = true then ((wimplelaw0_SameRrs.f k l0_12 l1_12).bind fun t110 => (some t110)) else (none))) else (none)) = some r := H
      have A6 := Aside0.mk A60
      clear A60
      by_cases c7 : t108 = true
      · subst c7
        have H1 : ((wimplelaw0_SameRrs.f k l0_11 l1_11).bind fun t109 => (if t109 = true then ((wimplelaw0_SameRrs.f k l0_12 l1_12).bind fun t110 => (some t110)) else (none))) = some r := by rw [if_pos rfl] at H; exact H
        clear H
        have H := H1
        clear H1
        replace H := Option.bind_eq_some_iff.mp H
        obtain ⟨t109, A80, H⟩ := H
        replace H : (if t109 = true then ((wimplelaw0_SameRrs.f k l0_12 l1_12).bind fun t110 => (some t110)) else (none)) = some r := H
        have A8 := Aside0.mk A80
        clear A80
        by_cases c9 : t109 = true
        · subst c9
          have H1 : ((wimplelaw0_SameRrs.f k l0_12 l1_12).bind fun t110 => (some t110)) = some r := by rw [if_pos rfl] at H; exact H
          clear H
          have H := H1
          clear H1
          replace H := Option.bind_eq_some_iff.mp H
          obtain ⟨t110, A100, H⟩ := H
          replace H : (some t110) = some r := H
          have A10 := Aside0.mk A100
          clear A100
          obtain rfl := Option.some.inj H
          go_enter Try.func20, Try.ntmps20
          go_wp2_with (first | ((with_reducible refine gate_dst (N := 2) rfl ?_); refine box_event ?hg (N := 2) ?hd (cs := #[.int .i64 a0_0, .bool a0_1, .int .i64 a0_2, .bool a0_3, .bool a0_4, .bool a0_5, .bool a0_6, .int .i64 a0_7, .int .i64 a0_8, .slice A0_9 l0_9.length c0_9, .slice A0_10 l0_10.length c0_10, .slice A0_11 l0_11.length c0_11, .slice A0_12 l0_12.length c0_12]) (t := 27) ?hr ?_; (case hd => rfl); (case hg => rfl); (case hr => first | (go_simp; done) | (go_simp; rfl)); intro gb105 hg w11 hbox hb; have n0_ := Aside0.mk (below_step (by repeat (first | (with_reducible first | exact HB.out | apply below_alloc | apply pw_below_drewN | apply below_drew1) | exact HB.out)) hb); have n1_ := Aside0.mk (hbox); have n2_ := Aside0.mk ((by rw [hg]; exact (below_size (by repeat (first | (with_reducible first | exact HB.out | apply below_alloc | apply pw_below_drewN | apply below_drew1) | exact HB.out))) : w.heap.size ≤ gb105)); have n3_ := Aside0.mk ((by rw [hg]; exact (below_size (by repeat (first | (with_reducible first | exact HB.out | apply below_alloc | apply pw_below_drewN | apply below_drew1) | exact HB.out))) : w.heap.size ≤ gb105)); clear HB; have HB := n0_; have BK105 := n1_; have GW105 := n2_; have GE105 := n3_; clear n0_ n1_ n2_ n3_; clear hb hbox hg) | ((with_reducible refine gate_dst (N := 3) rfl ?_); refine box_event ?hg (N := 3) ?hd (cs := #[.int .i64 a1_0, .bool a1_1, .int .i64 a1_2, .bool a1_3, .bool a1_4, .bool a1_5, .bool a1_6, .int .i64 a1_7, .int .i64 a1_8, .slice A1_9 l1_9.length c1_9, .slice A1_10 l1_10.length c1_10, .slice A1_11 l1_11.length c1_11, .slice A1_12 l1_12.length c1_12]) (t := 27) ?hr ?_; (case hd => rfl); (case hg => rfl); (case hr => first | (go_simp; done) | (go_simp; rfl)); intro gb106 hg w12 hbox hb; have n0_ := Aside0.mk (blk_below (g := gb105) (o := .cells #[.int .i64 a0_0, .bool a0_1, .int .i64 a0_2, .bool a0_3, .bool a0_4, .bool a0_5, .bool a0_6, .int .i64 a0_7, .int .i64 a0_8, .slice A0_9 l0_9.length c0_9, .slice A0_10 l0_10.length c0_10, .slice A0_11 l0_11.length c0_11, .slice A0_12 l0_12.length c0_12] 27 (0, 0)) (by (with_reducible repeat (first | refine blk_drewN ?_ _ | refine blk_drew ?_ | refine blk_alloc ?_ _)); exact BK105.out) hb); have n1_ := Aside0.mk (below_step (by repeat (first | (with_reducible first | exact HB.out | apply below_alloc | apply pw_below_drewN | apply below_drew1 | refine below_set ?_ GE105.out) | exact HB.out)) hb); have n2_ := Aside0.mk (hbox); have n3_ := Aside0.mk ((by rw [hg]; exact (below_size (by repeat (first | (with_reducible first | exact HB.out | apply below_alloc | apply pw_below_drewN | apply below_drew1 | refine below_set ?_ GE105.out) | exact HB.out))) : w.heap.size ≤ gb106)); have n4_ := Aside0.mk ((by rw [hg]; exact (below_size (by repeat (first | (with_reducible first | exact HB.out | apply below_alloc | apply pw_below_drewN | apply below_drew1 | refine below_set ?_ GE105.out) | exact HB.out))) : w.heap.size ≤ gb106)); have n5_ := Aside0.mk ((by rw [hg]; exact Nat.ne_of_lt (blk_lt (g := gb105) (o := .cells #[.int .i64 a0_0, .bool a0_1, .int .i64 a0_2, .bool a0_3, .bool a0_4, .bool a0_5, .bool a0_6, .int .i64 a0_7, .int .i64 a0_8, .slice A0_9 l0_9.length c0_9, .slice A0_10 l0_10.length c0_10, .slice A0_11 l0_11.length c0_11, .slice A0_12 l0_12.length c0_12] 27 (0, 0)) (by (with_reducible repeat (first | refine blk_drewN ?_ _ | refine blk_drew ?_ | refine blk_alloc ?_ _)); exact BK105.out)) : gb105 ≠ gb106)); have n6_ := Aside0.mk ((by rw [hg]; exact Nat.ne_of_gt (blk_lt (g := gb105) (o := .cells #[.int .i64 a0_0, .bool a0_1, .int .i64 a0_2, .bool a0_3, .bool a0_4, .bool a0_5, .bool a0_6, .int .i64 a0_7, .int .i64 a0_8, .slice A0_9 l0_9.length c0_9, .slice A0_10 l0_10.length c0_10, .slice A0_11 l0_11.length c0_11, .slice A0_12 l0_12.length c0_12] 27 (0, 0)) (by (with_reducible repeat (first | refine blk_drewN ?_ _ | refine blk_drew ?_ | refine blk_alloc ?_ _)); exact BK105.out)) : gb106 ≠ gb105)); clear BK105; clear HB; have BK105 := n0_; have HB := n1_; have BK106 := n2_; have GW106 := n3_; have GE106 := n4_; have NB105_106 := n5_; have NB106_105 := n6_; clear n0_ n1_ n2_ n3_ n4_ n5_ n6_; clear hb hbox hg; have hnb13 := NB105_106.out; have hnc13 := NB106_105.out; have hcz14_0 : w12.cell? ⟨gb105, 0, none⟩ = some (.int .i64 a0_0) := (blk_cell BK105.out 0).trans rfl; have hcz14_1 : w12.cell? ⟨gb105, 1, none⟩ = some (.bool a0_1) := (blk_cell BK105.out 1).trans rfl; have hcz14_2 : w12.cell? ⟨gb105, 2, none⟩ = some (.int .i64 a0_2) := (blk_cell BK105.out 2).trans rfl; have hcz14_3 : w12.cell? ⟨gb105, 3, none⟩ = some (.bool a0_3) := (blk_cell BK105.out 3).trans rfl; have hcz14_4 : w12.cell? ⟨gb105, 4, none⟩ = some (.bool a0_4) := (blk_cell BK105.out 4).trans rfl; have hcz14_5 : w12.cell? ⟨gb105, 5, none⟩ = some (.bool a0_5) := (blk_cell BK105.out 5).trans rfl; have hcz14_6 : w12.cell? ⟨gb105, 6, none⟩ = some (.bool a0_6) := (blk_cell BK105.out 6).trans rfl; have hcz14_7 : w12.cell? ⟨gb105, 7, none⟩ = some (.int .i64 a0_7) := (blk_cell BK105.out 7).trans rfl; have hcz14_8 : w12.cell? ⟨gb105, 8, none⟩ = some (.int .i64 a0_8) := (blk_cell BK105.out 8).trans rfl; have hcz14_9 : w12.cell? ⟨gb105, 9, none⟩ = some (.slice A0_9 l0_9.length c0_9) := (blk_cell BK105.out 9).trans rfl; have hcz14_10 : w12.cell? ⟨gb105, 10, none⟩ = some (.slice A0_10 l0_10.length c0_10) := (blk_cell BK105.out 10).trans rfl; have hcz14_11 : w12.cell? ⟨gb105, 11, none⟩ = some (.slice A0_11 l0_11.length c0_11) := (blk_cell BK105.out 11).trans rfl; have hcz14_12 : w12.cell? ⟨gb105, 12, none⟩ = some (.slice A0_12 l0_12.length c0_12) := (blk_cell BK105.out 12).trans rfl; have hfz14_0 := blk_frozen BK105.out 0; have hfz14_1 := blk_frozen BK105.out 1; have hfz14_2 := blk_frozen BK105.out 2; have hfz14_3 := blk_frozen BK105.out 3; have hfz14_4 := blk_frozen BK105.out 4; have hfz14_5 := blk_frozen BK105.out 5; have hfz14_6 := blk_frozen BK105.out 6; have hfz14_7 := blk_frozen BK105.out 7; have hfz14_8 := blk_frozen BK105.out 8; have hfz14_9 := blk_frozen BK105.out 9; have hfz14_10 := blk_frozen BK105.out 10; have hfz14_11 := blk_frozen BK105.out 11; have hfz14_12 := blk_frozen BK105.out 12; have hcz15_0 : w12.cell? ⟨gb106, 0, none⟩ = some (.int .i64 a1_0) := (blk_cell BK106.out 0).trans rfl; have hcz15_1 : w12.cell? ⟨gb106, 1, none⟩ = some (.bool a1_1) := (blk_cell BK106.out 1).trans rfl; have hcz15_2 : w12.cell? ⟨gb106, 2, none⟩ = some (.int .i64 a1_2) := (blk_cell BK106.out 2).trans rfl; have hcz15_3 : w12.cell? ⟨gb106, 3, none⟩ = some (.bool a1_3) := (blk_cell BK106.out 3).trans rfl; have hcz15_4 : w12.cell? ⟨gb106, 4, none⟩ = some (.bool a1_4) := (blk_cell BK106.out 4).trans rfl; have hcz15_5 : w12.cell? ⟨gb106, 5, none⟩ = some (.bool a1_5) := (blk_cell BK106.out 5).trans rfl; have hcz15_6 : w12.cell? ⟨gb106, 6, none⟩ = some (.bool a1_6) := (blk_cell BK106.out 6).trans rfl; have hcz15_7 : w12.cell? ⟨gb106, 7, none⟩ = some (.int .i64 a1_7) := (blk_cell BK106.out 7).trans rfl; have hcz15_8 : w12.cell? ⟨gb106, 8, none⟩ = some (.int .i64 a1_8) := (blk_cell BK106.out 8).trans rfl; have hcz15_9 : w12.cell? ⟨gb106, 9, none⟩ = some (.slice A1_9 l1_9.length c1_9) := (blk_cell BK106.out 9).trans rfl; have hcz15_10 : w12.cell? ⟨gb106, 10, none⟩ = some (.slice A1_10 l1_10.length c1_10) := (blk_cell BK106.out 10).trans rfl; have hcz15_11 : w12.cell? ⟨gb106, 11, none⟩ = some (.slice A1_11 l1_11.length c1_11) := (blk_cell BK106.out 11).trans rfl; have hcz15_12 : w12.cell? ⟨gb106, 12, none⟩ = some (.slice A1_12 l1_12.length c1_12) := (blk_cell BK106.out 12).trans rfl; have hfz15_0 := blk_frozen BK106.out 0; have hfz15_1 := blk_frozen BK106.out 1; have hfz15_2 := blk_frozen BK106.out 2; have hfz15_3 := blk_frozen BK106.out 3; have hfz15_4 := blk_frozen BK106.out 4; have hfz15_5 := blk_frozen BK106.out 5; have hfz15_6 := blk_frozen BK106.out 6; have hfz15_7 := blk_frozen BK106.out 7; have hfz15_8 := blk_frozen BK106.out 8; have hfz15_9 := blk_frozen BK106.out 9; have hfz15_10 := blk_frozen BK106.out 10; have hfz15_11 := blk_frozen BK106.out 11; have hfz15_12 := blk_frozen BK106.out 12) | (go_at_call 31; (with_reducible refine (wimplelaw0_SameQuestions.calls k _ _ l0_9 _ _ l1_9 true _ ?side1 ?side2 ?side3 ?side4 A4.out).mono ?_); (case side1 => repeat (first | exact (Kd.C_below HR0_9.out HB.out) | (with_reducible refine Kd.C_alloc ?_ _) | (with_reducible refine Kd.C_drewN ?_ _) | (with_reducible refine Kd.C_drew ?_))); (case side2 => exact HC0_9.out); (case side3 => repeat (first | exact (Kd.C_below HR1_9.out HB.out) | (with_reducible refine Kd.C_alloc ?_ _) | (with_reducible refine Kd.C_drewN ?_ _) | (with_reducible refine Kd.C_drew ?_))); (case side4 => exact HC1_9.out); rintro e w' ⟨rfl, ⟨nd, rfl⟩⟩) | (go_at_call 44; (with_reducible refine (wimplelaw0_SameRrs.calls k _ _ l0_10 _ _ l1_10 true _ ?side1 ?side2 ?side3 ?side4 A6.out).mono ?_); (case side1 => repeat (first | exact (Kd.C_below HR0_10.out (by repeat (first | (with_reducible first | exact HB.out | apply below_alloc | apply pw_below_drewN | apply below_drew1 | refine below_set ?_ GE105.out | refine below_set ?_ GE106.out) | exact HB.out))) | (with_reducible refine Kd.C_alloc ?_ _) | (with_reducible refine Kd.C_drewN ?_ _) | (with_reducible refine Kd.C_drew ?_))); (case side2 => exact HC0_10.out); (case side3 => repeat (first | exact (Kd.C_below HR1_10.out (by repeat (first | (with_reducible first | exact HB.out | apply below_alloc | apply pw_below_drewN | apply below_drew1 | refine below_set ?_ GE105.out | refine below_set ?_ GE106.out) | exact HB.out))) | (with_reducible refine Kd.C_alloc ?_ _) | (with_reducible refine Kd.C_drewN ?_ _) | (with_reducible refine Kd.C_drew ?_))); (case side4 => exact HC1_10.out); rintro e w' ⟨rfl, ⟨nd, rfl⟩⟩) | (go_at_call 44; (with_reducible refine (wimplelaw0_SameRrs.calls k _ _ l0_11 _ _ l1_11 true _ ?side1 ?side2 ?side3 ?side4 A8.out).mono ?_); (case side1 => repeat (first | exact (Kd.C_below HR0_11.out (by repeat (first | (with_reducible first | exact HB.out | apply below_alloc | apply pw_below_drewN | apply below_drew1 | refine below_set ?_ GE105.out | refine below_set ?_ GE106.out) | exact HB.out))) | (with_reducible refine Kd.C_alloc ?_ _) | (with_reducible refine Kd.C_drewN ?_ _) | (with_reducible refine Kd.C_drew ?_))); (case side2 => exact HC0_11.out); (case side3 => repeat (first | exact (Kd.C_below HR1_11.out (by repeat (first | (with_reducible first | exact HB.out | apply below_alloc | apply pw_below_drewN | apply below_drew1 | refine below_set ?_ GE105.out | refine below_set ?_ GE106.out) | exact HB.out))) | (with_reducible refine Kd.C_alloc ?_ _) | (with_reducible refine Kd.C_drewN ?_ _) | (with_reducible refine Kd.C_drew ?_))); (case side4 => exact HC1_11.out); rintro e w' ⟨rfl, ⟨nd, rfl⟩⟩) | (go_at_call 44; (with_reducible refine (wimplelaw0_SameRrs.calls k _ _ l0_12 _ _ l1_12 t110 _ ?side1 ?side2 ?side3 ?side4 A10.out).mono ?_); (case side1 => repeat (first | exact (Kd.C_below HR0_12.out (by repeat (first | (with_reducible first | exact HB.out | apply below_alloc | apply pw_below_drewN | apply below_drew1 | refine below_set ?_ GE105.out | refine below_set ?_ GE106.out) | exact HB.out))) | (with_reducible refine Kd.C_alloc ?_ _) | (with_reducible refine Kd.C_drewN ?_ _) | (with_reducible refine Kd.C_drew ?_))); (case side2 => exact HC0_12.out); (case side3 => repeat (first | exact (Kd.C_below HR1_12.out (by repeat (first | (with_reducible first | exact HB.out | apply below_alloc | apply pw_below_drewN | apply below_drew1 | refine below_set ?_ GE105.out | refine below_set ?_ GE106.out) | exact HB.out))) | (with_reducible refine Kd.C_alloc ?_ _) | (with_reducible refine Kd.C_drewN ?_ _) | (with_reducible refine Kd.C_drew ?_))); (case side4 => exact HC1_12.out); rintro e w' ⟨rfl, ⟨nd, rfl⟩⟩))
          go_ret
          exact ⟨by first | rfl | (simp [errW_none, errW_some] <;> rfl) | (simp [*, errW_none, errW_some] <;> rfl), by repeat (first | (with_reducible first | exact HB.out | apply below_alloc | apply pw_below_drewN | apply below_drew1 | refine below_set ?_ GE105.out | refine below_set ?_ GE106.out) | exact HB.out)⟩
        · replace c9 := Bool.eq_false_iff.mpr c9
          subst c9
          have H1 : (none) = some r := by rw [if_neg (show ¬ (false = true) by decide)] at H; exact H
          clear H
          have H := H1
          clear H1
          exact absurd H (by simp)
      · replace c7 := Bool.eq_false_iff.mpr c7
        subst c7
        have H1 : (none) = some r := by rw [if_neg (show ¬ (false = true) by decide)] at H; exact H
        clear H
        have H := H1
        clear H1
        exact absurd H (by simp)
    · replace c5 := Bool.eq_false_iff.mpr c5
      subst c5
      have H1 : (none) = some r := by rw [if_neg (show ¬ (false = true) by decide)] at H; exact H
      clear H
      have H := H1
      clear H1
      exact absurd H (by simp)
  · rw [if_neg c3] at H
    exact absurd H (by simp)

end Go.Proofs.Ytjklgdpffmaamaa.PSm

namespace Go.Proofs.Ytjklgdpffmaamaa.MsgW
open Go.RowKit Go.PlainAid Go.Maps Go.Proofs.Ytjklgdpffmaamaa.Base Go.Proofs.Ytjklgdpffmaamaa.Oct Go.Proofs.Ytjklgdpffmaamaa.Nm Go.Proofs.Ytjklgdpffmaamaa.Wr Go.Proofs.Ytjklgdpffmaamaa.Wm Go.Proofs.Ytjklgdpffmaamaa.PSm Go.Proofs.Ytjklgdpffmaamaa.Pu
open Go.Proofs.YtjklgdpffmaamaaW.PrintWords (blk_cell blk_below blk_put blk_frozen blk_ne blk_new blk_lt blk_grown LeO Ev Kd Kd.R_reads' own_nil)
set_option linter.unusedVariables false
set_option linter.unusedSimpArgs false
theorem sameQ_at (l : List S40) (hl : l.length ≤ 1000000) : ∀ n i, l.length - i ≤ n → i ≤ l.length → Ev (fun k => wimplelaw0_SameQuestions.l0 k l l (i : Int)) true := by
  intro n
  induction n with
  | zero => intro i h h2; exact Ev.step (fun k => by rw [wimplelaw0_SameQuestions.l0]) (Ev.neg (by omega) (Ev.now _))
  | succ n ih =>
    intro i h h2
    by_cases hi : i < l.length
    · refine Ev.step (fun k => by rw [wimplelaw0_SameQuestions.l0]) (Ev.pos (by omega) (Ev.pos (by omega) (Ev.pos (by omega) (Ev.neg (by simp) ?_))))
      rw [Pu.w64 (by omega) (by omega), show (i : Int) + 1 = ((i + 1 : Nat) : Int) by omega]
      exact ih (i + 1) (by omega) (by omega)
    · exact Ev.step (fun k => by rw [wimplelaw0_SameQuestions.l0]) (Ev.neg (by omega) (Ev.now _))
theorem sameQ (l : List S40) (hl : l.length ≤ 1000000) : Ev (fun k => wimplelaw0_SameQuestions.f k l l) true := Ev.pos rfl (sameQ_at l hl _ 0 (Nat.le_refl _) (by omega))
theorem sameR_at (l : List S53) (hl : l.length ≤ 1000000) : ∀ n i, l.length - i ≤ n → i ≤ l.length → Ev (fun k => wimplelaw0_SameRrs.l0 k l l (i : Int)) true := by
  intro n
  induction n with
  | zero => intro i h h2; exact Ev.step (fun k => by rw [wimplelaw0_SameRrs.l0]) (Ev.neg (by omega) (Ev.now _))
  | succ n ih =>
    intro i h h2
    by_cases hi : i < l.length
    · refine Ev.step (fun k => by rw [wimplelaw0_SameRrs.l0]) (Ev.pos (by omega) (Ev.pos (by omega) (Ev.pos (by omega) (Ev.neg (by simp) ?_))))
      rw [Pu.w64 (by omega) (by omega), show (i : Int) + 1 = ((i + 1 : Nat) : Int) by omega]
      exact ih (i + 1) (by omega) (by omega)
    · exact Ev.step (fun k => by rw [wimplelaw0_SameRrs.l0]) (Ev.neg (by omega) (Ev.now _))
theorem sameR (l : List S53) (hl : l.length ≤ 1000000) : Ev (fun k => wimplelaw0_SameRrs.f k l l) true := Ev.pos rfl (sameR_at l hl _ 0 (Nat.le_refl _) (by omega))
theorem sameM (id : Int) (qr : Bool) (op : Int) (aa tc rd ra : Bool) (z rc : Int) (qs : List S40) (an ns ar : List S53) (h1 : qs.length ≤ 1000000) (h2 : an.length ≤ 1000000) (h3 : ns.length ≤ 1000000) (h4 : ar.length ≤ 1000000) :
    Ev (fun k => wimplelaw0_SameMsg.f k id qr op aa tc rd ra z rc qs an ns ar id qr op aa tc rd ra z rc qs an ns ar) true :=
  Ev.pos (by simp) (Ev.bind (sameQ qs h1) (Ev.pos rfl (Ev.bind (sameR an h2) (Ev.pos rfl (Ev.bind (sameR ns h3) (Ev.pos rfl (Ev.bind (sameR ar h4) (Ev.now _))))))))
def sQ (x : Qn) : S40 := ⟨x.name, x.type, x.cls⟩
def sR (x : Rr) : S53 := ⟨x.name, x.type, x.cls, x.ttl, x.data⟩
/-- The rows of what was read lie in a world. -/
structure Holds (W : World) (g : Got) (vq va vn vr : Value) : Prop where
  q : W.ownsRow 0 40 3 vq g.qs.length (cellsQ g.qs)
  a : W.ownsRow 0 53 5 va g.an.length (cellsR g.an)
  n : W.ownsRow 0 53 5 vn g.ns.length (cellsR g.ns)
  r : W.ownsRow 0 53 5 vr g.ar.length (cellsR g.ar)
theorem Holds.below {W W' : World} {g : Got} {vq va vn vr : Value} (h : Holds W g vq va vn vr) (b : Below W.heap.size W W') : Holds W' g vq va vn vr :=
  ⟨Sl.own_below h.q b, Sl.own_below h.a b, Sl.own_below h.n b, Sl.own_below h.r b⟩
theorem got_holds {s : ByteArray} {w w' : World} {g : Got} {e : Ending} (h : GetPost s w g e w') : ∃ Aq Aqc Aa Aac An Anc Ar Arc, e = .returned (.tuple #[.agg #[.int .i64 g.h.id, .bool g.h.qr, .int .i64 g.h.op, .bool g.h.aa, .bool g.h.tc, .bool g.h.rd, .bool g.h.ra, .int .i64 g.h.z, .int .i64 g.h.rc, .slice Aq g.qs.length Aqc, .slice Aa g.an.length Aac, .slice An g.ns.length Anc, .slice Ar g.ar.length Arc], .int .i64 g.e]) ∧ Holds w' g (.slice Aq g.qs.length Aqc) (.slice Aa g.an.length Aac) (.slice An g.ns.length Anc) (.slice Ar g.ar.length Arc) ∧ Below w.heap.size w w' := by
  obtain ⟨vq, va, vn, vr, rfl, hq, ha, hn, hr, _, _, _, hb⟩ := h
  obtain ⟨Aq, cq, rfl⟩ := Sl.own_slice hq
  obtain ⟨Aa, ca, rfl⟩ := Sl.own_slice ha
  obtain ⟨An, cn, rfl⟩ := Sl.own_slice hn
  obtain ⟨Ar, cr, rfl⟩ := Sl.own_slice hr
  exact ⟨Aq, cq, Aa, ca, An, cn, Ar, cr, rfl, ⟨own_lower hq (Nat.zero_le _), own_lower ha (Nat.zero_le _), own_lower hn (Nat.zero_le _), own_lower hr (Nat.zero_le _)⟩, hb⟩
theorem qC {w : World} {A : Option Addr} {c : Nat} {qs : List Qn} (h : w.ownsRow 0 40 3 (.slice A qs.length c) qs.length (cellsQ qs)) : qs.length ≤ c ∧ Kd.C k40 w A (qs.map sQ).length (qs.map sQ) := by
  obtain ⟨_, h1, h2⟩ := Kd.R_reads' (qkd k40 40 sQ (fun w base ok q => k40_mkM w base ok (sQ q)) rfl h (ok := fun _ => True) (fun _ _ => trivial))
  exact ⟨h1, h2⟩
theorem rC {w : World} {A : Option Addr} {c : Nat} {qs : List Rr} (h : w.ownsRow 0 53 5 (.slice A qs.length c) qs.length (cellsR qs)) : qs.length ≤ c ∧ Kd.C k53 w A (qs.map sR).length (qs.map sR) := by
  obtain ⟨_, h1, h2⟩ := Kd.R_reads' (rkd k53 53 sR (fun w base ok q => k53_mkM w base ok (sR q)) rfl h (ok := fun _ => True) (fun _ _ => trivial))
  exact ⟨h1, h2⟩
theorem same2 {W : World} {g : Got} (hl : g.qs.length ≤ 64 ∧ g.an.length ≤ 64 ∧ g.ns.length ≤ 64 ∧ g.ar.length ≤ 64) {Aq Aa An Ar Bq Ba Bn Br : Option Addr} {Aqc Aac Anc Arc Bqc Bac Bnc Brc : Nat}
    (h : Holds W g (.slice Aq g.qs.length Aqc) (.slice Aa g.an.length Aac) (.slice An g.ns.length Anc) (.slice Ar g.ar.length Arc)) (k : Holds W g (.slice Bq g.qs.length Bqc) (.slice Ba g.an.length Bac) (.slice Bn g.ns.length Bnc) (.slice Br g.ar.length Brc)) :
    Calls Try.prog 20 #[.agg #[.int .i64 g.h.id, .bool g.h.qr, .int .i64 g.h.op, .bool g.h.aa, .bool g.h.tc, .bool g.h.rd, .bool g.h.ra, .int .i64 g.h.z, .int .i64 g.h.rc, .slice Aq g.qs.length Aqc, .slice Aa g.an.length Aac, .slice An g.ns.length Anc, .slice Ar g.ar.length Arc], .agg #[.int .i64 g.h.id, .bool g.h.qr, .int .i64 g.h.op, .bool g.h.aa, .bool g.h.tc, .bool g.h.rd, .bool g.h.ra, .int .i64 g.h.z, .int .i64 g.h.rc, .slice Bq g.qs.length Bqc, .slice Ba g.an.length Bac, .slice Bn g.ns.length Bnc, .slice Br g.ar.length Brc]] W fun e w' => e = .returned (.bool true) ∧ Below W.heap.size W w' := by
  obtain ⟨K, hK⟩ := sameM g.h.id g.h.qr g.h.op g.h.aa g.h.tc g.h.rd g.h.ra g.h.z g.h.rc (g.qs.map sQ) (g.an.map sR) (g.ns.map sR) (g.ar.map sR) (by rw [List.length_map]; omega) (by rw [List.length_map]; omega) (by rw [List.length_map]; omega) (by rw [List.length_map]; omega)
  have := wimplelaw0_SameMsg.calls K g.h.id g.h.qr g.h.op g.h.aa g.h.tc g.h.rd g.h.ra g.h.z g.h.rc Aq Aqc (g.qs.map sQ) Aa Aac (g.an.map sR) An Anc (g.ns.map sR) Ar Arc (g.ar.map sR) g.h.id g.h.qr g.h.op g.h.aa g.h.tc g.h.rd g.h.ra g.h.z g.h.rc Bq Bqc (g.qs.map sQ) Ba Bac (g.an.map sR) Bn Bnc (g.ns.map sR) Br Brc (g.ar.map sR) true W
    (qC h.q).2 (by rw [List.length_map]; exact (qC h.q).1) (rC h.a).2 (by rw [List.length_map]; exact (rC h.a).1) (rC h.n).2 (by rw [List.length_map]; exact (rC h.n).1) (rC h.r).2 (by rw [List.length_map]; exact (rC h.r).1)
    (qC k.q).2 (by rw [List.length_map]; exact (qC k.q).1) (rC k.a).2 (by rw [List.length_map]; exact (rC k.a).1) (rC k.n).2 (by rw [List.length_map]; exact (rC k.n).1) (rC k.r).2 (by rw [List.length_map]; exact (rC k.r).1) (hK K (Nat.le_refl _))
  simpa only [List.length_map] using this
theorem one_own {w : World} {b : Nat} {q : Qn} (h : w.heap[b]? = some (.cells #[.string q.name, .int .i64 q.type, .int .i64 q.cls] 40 (0, 0))) : w.ownsRow 0 40 3 (.slice (some ⟨b, 0, none⟩) 1 1) 1 (cellsQ [q]) :=
  ⟨rfl, .inr ⟨b, 1, _, rfl, Nat.zero_le _, h, Nat.le_refl _, by decide, rfl, rfl⟩⟩
theorem one_ownR {w : World} {b : Nat} {r : Rr} (h : w.heap[b]? = some (.cells #[.string r.name, .int .i64 r.type, .int .i64 r.cls, .int .i64 r.ttl, .string r.data] 53 (0, 0))) : w.ownsRow 0 53 5 (.slice (some ⟨b, 0, none⟩) 1 1) 1 (cellsR [r]) :=
  ⟨rfl, .inr ⟨b, 1, _, rfl, Nat.zero_le _, h, Nat.le_refl _, by decide, rfl, rfl⟩⟩
theorem one_q {w : World} {b : Nat} {q : Qn} (h : w.heap[b]? = some (.cells #[.string q.name, .int .i64 q.type, .int .i64 q.cls] 40 (0, 0))) : QCells w (some ⟨b, 0, none⟩) [q] :=
  .inr ⟨_, rfl, fun j hj => by
    obtain rfl : j = 0 := by simpa using hj
    exact ⟨(blk_cell h 0).trans rfl, (blk_cell h 1).trans rfl, (blk_cell h 2).trans rfl⟩⟩
theorem one_r {w : World} {b : Nat} {r : Rr} (h : w.heap[b]? = some (.cells #[.string r.name, .int .i64 r.type, .int .i64 r.cls, .int .i64 r.ttl, .string r.data] 53 (0, 0))) : RCells w (some ⟨b, 0, none⟩) [r] :=
  .inr ⟨_, rfl, fun j hj => by
    obtain rfl : j = 0 := by simpa using hj
    exact ⟨(blk_cell h 0).trans rfl, (blk_cell h 1).trans rfl, (blk_cell h 2).trans rfl, (blk_cell h 3).trans rfl, (blk_cell h 4).trans rfl⟩⟩
theorem getVc {s : ByteArray} {r : Got} (hs : s.size ≤ 9223372036854775000) (h : Ev (fun k => getV k s) r) (w : World) : Calls Try.prog 35 #[.string s] w (GetPost s w r) := by
  obtain ⟨k, hk⟩ := h
  exact getc s w hs (hk k (Nat.le_refl _))
end Go.Proofs.Ytjklgdpffmaamaa.MsgW

namespace Go.Proofs.Ytjklgdpffmaamaa.Awake7
open Go.RowKit Go.PlainAid Go.Maps Go.Proofs.Ytjklgdpffmaamaa.Base Go.Proofs.Ytjklgdpffmaamaa.Oct Go.Proofs.Ytjklgdpffmaamaa.Nm Go.Proofs.Ytjklgdpffmaamaa.Wm Go.Proofs.Ytjklgdpffmaamaa.MsgW
open Go.Proofs.YtjklgdpffmaamaaW.PrintWords (blk_cell blk_below blk_put blk_frozen blk_ne blk_new blk_lt blk_grown LeO Ev own_nil)
set_option linter.unusedVariables false
set_option linter.unusedSimpArgs false
def q7 : Qn := ⟨⟨#[1, 97, 0]⟩, 1, 1⟩
def r7 : Rr := ⟨⟨#[1, 97, 0]⟩, 1, 1, 5, ⟨#[97, 98, 99, 100]⟩⟩
def m7 : MsgV := msgOf Hd.head0 [q7] [r7] [] []
def G7 : Got := ⟨Hd.head0, [q7], [r7], [], [], 0⟩
def s7 : ByteArray := putS m7
def q8 : Qn := ⟨⟨#[]⟩, 0, 0⟩
def m8 : MsgV := msgOf Hd.head0 [q8] [] [] []
theorem e7 : putE m7 = 0 := by decide +kernel
theorem e8 : putE m8 = 700 := by decide +kernel
theorem z7 : s7.size = 35 := by decide +kernel
theorem ok7 : putOk m7 = true := by decide +kernel
theorem lg7 : (putEnd m7).lg = false := by decide +kernel
theorem get7 : Ev (fun k => getV k s7) G7 := by
  have h := get_put ok7 lg7 ⟨#[]⟩ (by rw [app_nil]; exact (put_S ok7 lg7).2.2.2)
  rw [app_nil, if_pos (show (⟨#[]⟩ : ByteArray).size = 0 from rfl)] at h
  unfold s7
  rw [(put_S ok7 lg7).1]
  exact h
theorem get7a : Ev (fun k => getV k (s7 ++ ⟨#[97]⟩)) (got0 700) := by
  have e : s7 = (putEnd m7).S := (put_S ok7 lg7).1
  have h := get_put ok7 lg7 ⟨#[97]⟩ (by rw [← e, ByteArray.size_append, z7]; decide)
  rw [if_neg (show ¬ (⟨#[97]⟩ : ByteArray).size = 0 by decide)] at h
  rw [e]
  exact h
theorem get7b (s : ByteArray) (h : 4096 < s.size) : Ev (fun k => getV k s) (got0 701) := Pu.Ev.pos h (Ev.now _)
theorem small7 : small [r7] := by intro r hr; rw [List.mem_singleton.1 hr]; decide +kernel
theorem small0 : small [] := by intro r hr; cases hr
/-- The world behind the message's literal. -/
def W3 (w : World) : World := ((w.alloc (.cells #[.string q7.name, .int .i64 q7.type, .int .i64 q7.cls] 40)).alloc (.cells #[.string r7.name, .int .i64 r7.type, .int .i64 r7.cls, .int .i64 r7.ttl, .string r7.data] 53)).alloc (.cells #[.int .i64 0, .bool false, .int .i64 0, .bool false, .bool false, .bool false, .bool false, .int .i64 0, .int .i64 0, .slice (some ⟨w.heap.size, 0, none⟩) 1 1, .slice (some ⟨w.heap.size + 1, 0, none⟩) 1 1, .slice none 0 0, .slice none 0 0] 27)
theorem w3 (w : World) : Below w.heap.size w (W3 w) ∧ (W3 w).heap[w.heap.size]? = some (.cells #[.string q7.name, .int .i64 q7.type, .int .i64 q7.cls] 40 (0, 0)) ∧ (W3 w).heap[w.heap.size + 1]? = some (.cells #[.string r7.name, .int .i64 r7.type, .int .i64 r7.cls, .int .i64 r7.ttl, .string r7.data] 53 (0, 0)) ∧ (W3 w).heap[w.heap.size + 1 + 1]? = some (.cells #[.int .i64 0, .bool false, .int .i64 0, .bool false, .bool false, .bool false, .bool false, .int .i64 0, .int .i64 0, .slice (some ⟨w.heap.size, 0, none⟩) 1 1, .slice (some ⟨w.heap.size + 1, 0, none⟩) 1 1, .slice none 0 0, .slice none 0 0] 27 (0, 0)) := by
  have e1 : (w.alloc (.cells #[.string q7.name, .int .i64 q7.type, .int .i64 q7.cls] 40)).heap.size = w.heap.size + 1 := by simp
  have e2 : ((w.alloc (.cells #[.string q7.name, .int .i64 q7.type, .int .i64 q7.cls] 40)).alloc (.cells #[.string r7.name, .int .i64 r7.type, .int .i64 r7.cls, .int .i64 r7.ttl, .string r7.data] 53)).heap.size = w.heap.size + 1 + 1 := by simp
  refine ⟨(((Below.refl _ _).alloc (Nat.le_refl _) _).alloc (by simp) _).alloc (by simp; omega) _, ?_, ?_, ?_⟩
  · exact Go.Proofs.YtjklgdpffmaamaaW.PrintWords.blk_alloc (Go.Proofs.YtjklgdpffmaamaaW.PrintWords.blk_alloc (blk_new w _) _) _
  · rw [← e1]; exact Go.Proofs.YtjklgdpffmaamaaW.PrintWords.blk_alloc (blk_new (w.alloc (.cells #[.string q7.name, .int .i64 q7.type, .int .i64 q7.cls] 40)) _) _
  · rw [← e2]; exact blk_new ((w.alloc (.cells #[.string q7.name, .int .i64 q7.type, .int .i64 q7.cls] 40)).alloc (.cells #[.string r7.name, .int .i64 r7.type, .int .i64 r7.cls, .int .i64 r7.ttl, .string r7.data] 53)) _
set_option maxHeartbeats 8000000 in
set_option maxRecDepth 100000 in
theorem walk (w : World) : Calls Try.prog 33 #[] w fun e w' => e = .returned (.bool true) ∧ Below w.heap.size w w' := by
  have kz : ∀ W : World, (Instr.makeSlice 56 (.int .i64 4097) (.int .i64 4097)).run Try.prog W = .ok (.slice (some ⟨W.heap.size, 0, none⟩) 4097 4097) (W.alloc (.cells (madeCells #[.int .u8 0] 4097) 5)) := make_zeros 4097 (by decide)
  have kv := conv_zeros 4097
  have n0 := fun w => Hd.numc 0 w
  have n7 := fun w => Hd.numc 700 w
  have n8 := fun w => Hd.numc 701 w
  obtain ⟨Bx, bq, br, bm⟩ := w3 w
  have zz := z7
  go_enter Try.func33, Try.ntmps33
  go_upto_region 2 with (fail)
  change Code.wp _ _ _ _ (W3 w)
  generalize W3 w = w1 at *
  have c0 : w1.cell? ⟨w.heap.size + 1 + 1, 0, none⟩ = some (.int .i64 0) := (blk_cell bm 0).trans rfl
  have c1 : w1.cell? ⟨w.heap.size + 1 + 1, 1, none⟩ = some (.bool false) := (blk_cell bm 1).trans rfl
  have c2 : w1.cell? ⟨w.heap.size + 1 + 1, 2, none⟩ = some (.int .i64 0) := (blk_cell bm 2).trans rfl
  have c3 : w1.cell? ⟨w.heap.size + 1 + 1, 3, none⟩ = some (.bool false) := (blk_cell bm 3).trans rfl
  have c4 : w1.cell? ⟨w.heap.size + 1 + 1, 4, none⟩ = some (.bool false) := (blk_cell bm 4).trans rfl
  have c5 : w1.cell? ⟨w.heap.size + 1 + 1, 5, none⟩ = some (.bool false) := (blk_cell bm 5).trans rfl
  have c6 : w1.cell? ⟨w.heap.size + 1 + 1, 6, none⟩ = some (.bool false) := (blk_cell bm 6).trans rfl
  have c7 : w1.cell? ⟨w.heap.size + 1 + 1, 7, none⟩ = some (.int .i64 0) := (blk_cell bm 7).trans rfl
  have c8 : w1.cell? ⟨w.heap.size + 1 + 1, 8, none⟩ = some (.int .i64 0) := (blk_cell bm 8).trans rfl
  have c9 : w1.cell? ⟨w.heap.size + 1 + 1, 9, none⟩ = some (.slice (some ⟨w.heap.size, 0, none⟩) 1 1) := (blk_cell bm 9).trans rfl
  have c10 : w1.cell? ⟨w.heap.size + 1 + 1, 10, none⟩ = some (.slice (some ⟨w.heap.size + 1, 0, none⟩) 1 1) := (blk_cell bm 10).trans rfl
  have c11 : w1.cell? ⟨w.heap.size + 1 + 1, 11, none⟩ = some (.slice none 0 0) := (blk_cell bm 11).trans rfl
  have c12 : w1.cell? ⟨w.heap.size + 1 + 1, 12, none⟩ = some (.slice none 0 0) := (blk_cell bm 12).trans rfl
  have kp : Calls Try.prog 34 _ w1 fun e w' => e = .returned (.tuple #[.string s7, .int .i64 (putE m7)]) ∧ Below w1.heap.size w1 w' := putc ⟨Hd.head0, some ⟨w.heap.size, 0, none⟩, 1, [q7], some ⟨w.heap.size + 1, 0, none⟩, 1, [r7], none, 0, [], none, 0, []⟩ w1 ⟨one_q bq, one_r br, .inl rfl, .inl rfl, Nat.le_refl _, Nat.le_refl _, Nat.le_refl _, Nat.le_refl _, small7, small0, small0⟩
  rw [e7] at kp
  go_wp2_with fail
  refine kp.mono ?_
  rintro e w2 ⟨rfl, hb⟩
  replace Bx := Bx.trans (hb.mono Bx.size)
  replace bm := blk_below bm hb
  have HM : Holds w2 G7 (.slice (some ⟨w.heap.size, 0, none⟩) 1 1) (.slice (some ⟨w.heap.size + 1, 0, none⟩) 1 1) (.slice none 0 0) (.slice none 0 0) :=
    ⟨one_own (blk_below bq hb), one_ownR (blk_below br hb), own_nil _ _ _ _, own_nil _ _ _ _⟩
  clear hb kp bq br c0 c1 c2 c3 c4 c5 c6 c7 c8 c9 c10 c11 c12
  have k1 := fun w => getVc (s := s7) (by rw [z7]; decide) get7 w
  have k2 := fun w => getVc (s := s7 ++ ⟨#[97]⟩) (by rw [ByteArray.size_append, z7]; decide) get7a w
  have k4 := fun w => getVc (s := zeros 4097) (by rw [zeros_size]; decide) (get7b _ (by rw [zeros_size]; decide)) w
  have nG := fun w => Hd.numc G7.e w
  have nB := fun w => Hd.numc (got0 700).e w
  have nD := fun w => Hd.numc (got0 701).e w
  have qG : (G7.e == 0) = true := rfl
  have qB : ((got0 700).e == 700) = true := rfl
  have qD : ((got0 701).e == 701) = true := rfl
  generalize s7 = t at *
  go_wp2_with fail
  refine (k1 _).mono ?_
  rintro e w3 hh
  obtain ⟨Aq, Aqc, Aa, Aac, An, Anc, Ar, Arc, rfl, HA, hb⟩ := got_holds hh
  replace Bx := Bx.trans (hb.mono Bx.size)
  replace bm := blk_below bm hb
  replace HM := HM.below hb
  have hb2 : Below w3.heap.size w3 (w3.alloc (.cells #[.int .i64 G7.h.id, .bool G7.h.qr, .int .i64 G7.h.op, .bool G7.h.aa, .bool G7.h.tc, .bool G7.h.rd, .bool G7.h.ra, .int .i64 G7.h.z, .int .i64 G7.h.rc, .slice Aq G7.qs.length Aqc, .slice Aa G7.an.length Aac, .slice An G7.ns.length Anc, .slice Ar G7.ar.length Arc] 27)) := (Below.refl _ _).alloc (Nat.le_refl _) _
  have bA := blk_new w3 (.cells #[.int .i64 G7.h.id, .bool G7.h.qr, .int .i64 G7.h.op, .bool G7.h.aa, .bool G7.h.tc, .bool G7.h.rd, .bool G7.h.ra, .int .i64 G7.h.z, .int .i64 G7.h.rc, .slice Aq G7.qs.length Aqc, .slice Aa G7.an.length Aac, .slice An G7.ns.length Anc, .slice Ar G7.ar.length Arc] 27)
  clear hh hb
  go_upto_region 4 with (fail)
  replace Bx := Bx.trans (hb2.mono Bx.size)
  replace bm := blk_below bm hb2
  replace HM := HM.below hb2
  replace HA := HA.below hb2
  clear hb2
  generalize w3.alloc (.cells #[.int .i64 G7.h.id, .bool G7.h.qr, .int .i64 G7.h.op, .bool G7.h.aa, .bool G7.h.tc, .bool G7.h.rd, .bool G7.h.ra, .int .i64 G7.h.z, .int .i64 G7.h.rc, .slice Aq G7.qs.length Aqc, .slice Aa G7.an.length Aac, .slice An G7.ns.length Anc, .slice Ar G7.ar.length Arc] 27) = w4 at *
  obtain ⟨gA, hgA⟩ : ∃ k, k = w3.heap.size := ⟨_, rfl⟩
  rw [← hgA] at bA ⊢
  clear hgA
  have nn : ¬ 9223372036854775807 < t.size + 1 := by omega
  go_wp2_with fail
  refine (k2 _).mono ?_
  rintro e w5 hh
  obtain ⟨Bq, Bqc, Ba, Bac, Bn, Bnc, Br, Brc, rfl, HB, hb⟩ := got_holds hh
  replace Bx := Bx.trans (hb.mono Bx.size)
  replace bm := blk_below bm hb
  replace bA := blk_below bA hb
  replace HM := HM.below hb
  replace HA := HA.below hb
  have hb2 : Below w5.heap.size w5 (w5.alloc (.cells #[.int .i64 (got0 700).h.id, .bool (got0 700).h.qr, .int .i64 (got0 700).h.op, .bool (got0 700).h.aa, .bool (got0 700).h.tc, .bool (got0 700).h.rd, .bool (got0 700).h.ra, .int .i64 (got0 700).h.z, .int .i64 (got0 700).h.rc, .slice Bq (got0 700).qs.length Bqc, .slice Ba (got0 700).an.length Bac, .slice Bn (got0 700).ns.length Bnc, .slice Br (got0 700).ar.length Brc] 27)) := (Below.refl _ _).alloc (Nat.le_refl _) _
  have bB := blk_new w5 (.cells #[.int .i64 (got0 700).h.id, .bool (got0 700).h.qr, .int .i64 (got0 700).h.op, .bool (got0 700).h.aa, .bool (got0 700).h.tc, .bool (got0 700).h.rd, .bool (got0 700).h.ra, .int .i64 (got0 700).h.z, .int .i64 (got0 700).h.rc, .slice Bq (got0 700).qs.length Bqc, .slice Ba (got0 700).an.length Bac, .slice Bn (got0 700).ns.length Bnc, .slice Br (got0 700).ar.length Brc] 27)
  clear hh hb
  go_upto_region 5 with (fail)
  replace Bx := Bx.trans (hb2.mono Bx.size)
  replace bm := blk_below bm hb2
  replace bA := blk_below bA hb2
  replace HM := HM.below hb2
  replace HA := HA.below hb2
  replace HB := HB.below hb2
  clear hb2
  generalize w5.alloc (.cells #[.int .i64 (got0 700).h.id, .bool (got0 700).h.qr, .int .i64 (got0 700).h.op, .bool (got0 700).h.aa, .bool (got0 700).h.tc, .bool (got0 700).h.rd, .bool (got0 700).h.ra, .int .i64 (got0 700).h.z, .int .i64 (got0 700).h.rc, .slice Bq (got0 700).qs.length Bqc, .slice Ba (got0 700).an.length Bac, .slice Bn (got0 700).ns.length Bnc, .slice Br (got0 700).ar.length Brc] 27) = w6 at *
  obtain ⟨gB, hgB⟩ : ∃ k, k = w5.heap.size := ⟨_, rfl⟩
  rw [← hgB] at bB ⊢
  clear hgB
  clear HB bB k1 k2 nn
  go_wp2_with fail
  have hb2 : Below w6.heap.size w6 (w6.alloc (.cells #[.string q8.name, .int .i64 q8.type, .int .i64 q8.cls] 40)) := (Below.refl _ _).alloc (Nat.le_refl _) _
  have bq := blk_new w6 (.cells #[.string q8.name, .int .i64 q8.type, .int .i64 q8.cls] 40)
  have kp : Calls Try.prog 34 _ _ fun e w' => e = .returned (.tuple #[.string (putS m8), .int .i64 (putE m8)]) ∧ Below (w6.alloc (.cells #[.string q8.name, .int .i64 q8.type, .int .i64 q8.cls] 40)).heap.size (w6.alloc (.cells #[.string q8.name, .int .i64 q8.type, .int .i64 q8.cls] 40)) w' := putc ⟨Hd.head0, some ⟨w6.heap.size, 0, none⟩, 1, [q8], none, 0, [], none, 0, [], none, 0, []⟩ (w6.alloc (.cells #[.string q8.name, .int .i64 q8.type, .int .i64 q8.cls] 40)) ⟨one_q bq, .inl rfl, .inl rfl, .inl rfl, Nat.le_refl _, Nat.le_refl _, Nat.le_refl _, Nat.le_refl _, small0, small0, small0⟩
  rw [e8] at kp
  refine kp.mono ?_
  rintro e w7 ⟨rfl, hb⟩
  replace hb := hb2.trans (hb.mono hb2.size)
  replace Bx := Bx.trans (hb.mono Bx.size)
  replace bm := blk_below bm hb
  replace bA := blk_below bA hb
  replace HM := HM.below hb
  replace HA := HA.below hb
  clear hb hb2 kp bq
  go_wp2_with fail
  refine (k4 _).mono ?_
  rintro e w8 hh
  have hbz : Below w7.heap.size w7 (w7.alloc (.cells (madeCells #[.int .u8 0] 4097) 5)) := (Below.refl _ _).alloc (Nat.le_refl _) _
  replace Bx := Bx.trans (hbz.mono Bx.size)
  replace bm := blk_below bm hbz
  replace bA := blk_below bA hbz
  replace HM := HM.below hbz
  replace HA := HA.below hbz
  clear hbz kz kv k4
  obtain ⟨Dq, Dqc, Da, Dac, Dn, Dnc, Dr, Drc, rfl, HD, hb⟩ := got_holds hh
  replace Bx := Bx.trans (hb.mono Bx.size)
  replace bm := blk_below bm hb
  replace bA := blk_below bA hb
  replace HM := HM.below hb
  replace HA := HA.below hb
  have hb2 : Below w8.heap.size w8 (w8.alloc (.cells #[.int .i64 (got0 701).h.id, .bool (got0 701).h.qr, .int .i64 (got0 701).h.op, .bool (got0 701).h.aa, .bool (got0 701).h.tc, .bool (got0 701).h.rd, .bool (got0 701).h.ra, .int .i64 (got0 701).h.z, .int .i64 (got0 701).h.rc, .slice Dq (got0 701).qs.length Dqc, .slice Da (got0 701).an.length Dac, .slice Dn (got0 701).ns.length Dnc, .slice Dr (got0 701).ar.length Drc] 27)) := (Below.refl _ _).alloc (Nat.le_refl _) _
  have bD := blk_new w8 (.cells #[.int .i64 (got0 701).h.id, .bool (got0 701).h.qr, .int .i64 (got0 701).h.op, .bool (got0 701).h.aa, .bool (got0 701).h.tc, .bool (got0 701).h.rd, .bool (got0 701).h.ra, .int .i64 (got0 701).h.z, .int .i64 (got0 701).h.rc, .slice Dq (got0 701).qs.length Dqc, .slice Da (got0 701).an.length Dac, .slice Dn (got0 701).ns.length Dnc, .slice Dr (got0 701).ar.length Drc] 27)
  clear hh hb
  go_upto_region 7 with (fail)
  replace Bx := Bx.trans (hb2.mono Bx.size)
  replace bm := blk_below bm hb2
  replace bA := blk_below bA hb2
  replace HM := HM.below hb2
  replace HA := HA.below hb2
  replace HD := HD.below hb2
  clear hb2
  generalize w8.alloc (.cells #[.int .i64 (got0 701).h.id, .bool (got0 701).h.qr, .int .i64 (got0 701).h.op, .bool (got0 701).h.aa, .bool (got0 701).h.tc, .bool (got0 701).h.rd, .bool (got0 701).h.ra, .int .i64 (got0 701).h.z, .int .i64 (got0 701).h.rc, .slice Dq (got0 701).qs.length Dqc, .slice Da (got0 701).an.length Dac, .slice Dn (got0 701).ns.length Dnc, .slice Dr (got0 701).ar.length Drc] 27) = w9 at *
  obtain ⟨gD, hgD⟩ : ∃ k, k = w8.heap.size := ⟨_, rfl⟩
  rw [← hgD] at bD ⊢
  clear hgD
  clear HD bD
  go_wp2_with fail
  refine (n0 _).mono ?_
  rintro e w10 ⟨rfl, rfl⟩
  have a0 : w9.cell? ⟨gA, 0, none⟩ = some (.int .i64 G7.h.id) := (blk_cell bA 0).trans rfl
  have a1 : w9.cell? ⟨gA, 1, none⟩ = some (.bool G7.h.qr) := (blk_cell bA 1).trans rfl
  have a2 : w9.cell? ⟨gA, 2, none⟩ = some (.int .i64 G7.h.op) := (blk_cell bA 2).trans rfl
  have a3 : w9.cell? ⟨gA, 3, none⟩ = some (.bool G7.h.aa) := (blk_cell bA 3).trans rfl
  have a4 : w9.cell? ⟨gA, 4, none⟩ = some (.bool G7.h.tc) := (blk_cell bA 4).trans rfl
  have a5 : w9.cell? ⟨gA, 5, none⟩ = some (.bool G7.h.rd) := (blk_cell bA 5).trans rfl
  have a6 : w9.cell? ⟨gA, 6, none⟩ = some (.bool G7.h.ra) := (blk_cell bA 6).trans rfl
  have a7 : w9.cell? ⟨gA, 7, none⟩ = some (.int .i64 G7.h.z) := (blk_cell bA 7).trans rfl
  have a8 : w9.cell? ⟨gA, 8, none⟩ = some (.int .i64 G7.h.rc) := (blk_cell bA 8).trans rfl
  have a9 : w9.cell? ⟨gA, 9, none⟩ = some (.slice Aq G7.qs.length Aqc) := (blk_cell bA 9).trans rfl
  have a10 : w9.cell? ⟨gA, 10, none⟩ = some (.slice Aa G7.an.length Aac) := (blk_cell bA 10).trans rfl
  have a11 : w9.cell? ⟨gA, 11, none⟩ = some (.slice An G7.ns.length Anc) := (blk_cell bA 11).trans rfl
  have a12 : w9.cell? ⟨gA, 12, none⟩ = some (.slice Ar G7.ar.length Arc) := (blk_cell bA 12).trans rfl
  have c0 : w9.cell? ⟨w.heap.size + 1 + 1, 0, none⟩ = some (.int .i64 0) := (blk_cell bm 0).trans rfl
  have c1 : w9.cell? ⟨w.heap.size + 1 + 1, 1, none⟩ = some (.bool false) := (blk_cell bm 1).trans rfl
  have c2 : w9.cell? ⟨w.heap.size + 1 + 1, 2, none⟩ = some (.int .i64 0) := (blk_cell bm 2).trans rfl
  have c3 : w9.cell? ⟨w.heap.size + 1 + 1, 3, none⟩ = some (.bool false) := (blk_cell bm 3).trans rfl
  have c4 : w9.cell? ⟨w.heap.size + 1 + 1, 4, none⟩ = some (.bool false) := (blk_cell bm 4).trans rfl
  have c5 : w9.cell? ⟨w.heap.size + 1 + 1, 5, none⟩ = some (.bool false) := (blk_cell bm 5).trans rfl
  have c6 : w9.cell? ⟨w.heap.size + 1 + 1, 6, none⟩ = some (.bool false) := (blk_cell bm 6).trans rfl
  have c7 : w9.cell? ⟨w.heap.size + 1 + 1, 7, none⟩ = some (.int .i64 0) := (blk_cell bm 7).trans rfl
  have c8 : w9.cell? ⟨w.heap.size + 1 + 1, 8, none⟩ = some (.int .i64 0) := (blk_cell bm 8).trans rfl
  have c9 : w9.cell? ⟨w.heap.size + 1 + 1, 9, none⟩ = some (.slice (some ⟨w.heap.size, 0, none⟩) 1 1) := (blk_cell bm 9).trans rfl
  have c10 : w9.cell? ⟨w.heap.size + 1 + 1, 10, none⟩ = some (.slice (some ⟨w.heap.size + 1, 0, none⟩) 1 1) := (blk_cell bm 10).trans rfl
  have c11 : w9.cell? ⟨w.heap.size + 1 + 1, 11, none⟩ = some (.slice none 0 0) := (blk_cell bm 11).trans rfl
  have c12 : w9.cell? ⟨w.heap.size + 1 + 1, 12, none⟩ = some (.slice none 0 0) := (blk_cell bm 12).trans rfl
  have ks : Calls Try.prog 20 #[.agg #[.int .i64 G7.h.id, .bool G7.h.qr, .int .i64 G7.h.op, .bool G7.h.aa, .bool G7.h.tc, .bool G7.h.rd, .bool G7.h.ra, .int .i64 G7.h.z, .int .i64 G7.h.rc, .slice Aq G7.qs.length Aqc, .slice Aa G7.an.length Aac, .slice An G7.ns.length Anc, .slice Ar G7.ar.length Arc], .agg #[.int .i64 0, .bool false, .int .i64 0, .bool false, .bool false, .bool false, .bool false, .int .i64 0, .int .i64 0, .slice (some ⟨w.heap.size, 0, none⟩) 1 1, .slice (some ⟨w.heap.size + 1, 0, none⟩) 1 1, .slice none 0 0, .slice none 0 0]] w9 fun e w' => e = .returned (.bool true) ∧ Below w9.heap.size w9 w' := same2 (g := G7) ⟨by decide, by decide, by decide, by decide⟩ HA HM
  go_wp2_with fail
  refine ks.mono ?_
  rintro e w11 ⟨rfl, hb⟩
  replace Bx := Bx.trans (hb.mono Bx.size)
  clear hb ks HA HM bA bm
  go_wp2_with fail
  refine (nG _).mono ?_
  rintro e w12 ⟨rfl, rfl⟩
  go_wp2_with fail
  refine (nB _).mono ?_
  rintro e w13 ⟨rfl, rfl⟩
  go_wp2_with fail
  refine (n7 _).mono ?_
  rintro e w14 ⟨rfl, rfl⟩
  go_wp2_with fail
  refine (nD _).mono ?_
  rintro e w15 ⟨rfl, rfl⟩
  go_wp2_with fail
  go_ret
  exact ⟨rfl, Bx⟩
end Go.Proofs.Ytjklgdpffmaamaa.Awake7

namespace Go.Proofs.Ytjklgdpffmaamaa.OptH
open Go.RowKit Go.PlainAid Go.Proofs.Ytjklgdpffmaamaa.Base Go.Proofs.Ytjklgdpffmaamaa.Oct
open Go.Proofs.YtjklgdpffmaamaaW.PrintWords (blk_cell blk_below blk_put blk_frozen blk_ne blk_new blk_lt blk_grown bytesOf bytesOf_length nums own_nil)
set_option linter.unusedVariables false
set_option linter.unusedSimpArgs false
theorem asz (w : World) (o : Obj) : (w.alloc o).heap.size = w.heap.size + 1 := by simp
end Go.Proofs.Ytjklgdpffmaamaa.OptH

namespace Go.Proofs.Ytjklgdpffmaamaa.Pad
open Go.RowKit Go.PlainAid Go.Proofs.Ytjklgdpffmaamaa.Base Go.Proofs.Ytjklgdpffmaamaa.Oct Go.Proofs.Ytjklgdpffmaamaa.Wm Go.Proofs.Ytjklgdpffmaamaa.OptH
open Go.Proofs.YtjklgdpffmaamaaW.PrintWords (blk_cell blk_below blk_put blk_frozen blk_ne blk_new blk_lt blk_grown blk_alloc own_nil add_field)
set_option linter.unusedVariables false
set_option linter.unusedSimpArgs false
theorem cellsR_at (rs : List Rr) : ∀ (j i : Nat), i < 5 → (cellsR rs)[j * 5 + i]? = (rs[j]?).bind fun r => (cellR r).toList[i]? := by
  induction rs with
  | nil => intro j i hi; simp [cellsR]
  | cons r rs ih =>
    intro j i hi
    cases j with
    | zero => rw [Nat.zero_mul, Nat.zero_add, cellsR, List.getElem?_append_left (by simpa using hi)]; rfl
    | succ j =>
      rw [cellsR, List.getElem?_append_right (by simp; omega)]
      have e : (j + 1) * 5 + i - (cellR r).toList.length = j * 5 + i := by simp; omega
      rw [e, ih j i hi]
      rfl
theorem own_rcells {w : World} {base : Nat} {A : Option Addr} {n c : Nat} {rs : List Rr} (h : w.ownsRow base 53 5 (.slice A n c) rs.length (cellsR rs)) : RCells w A rs := by
  rcases h.2 with ⟨_, h0⟩ | ⟨g, cap, cur, hv, _⟩
  · exact .inl h0
  · injection hv with hA _ _
    subst hA
    refine .inr ⟨_, rfl, fun j hj => ?_⟩
    have eg : rs.getD j zR = rs[j] := by rw [List.getD_eq_getElem?_getD, List.getElem?_eq_getElem hj]; rfl
    rw [eg]
    have hc : ∀ i u, i < 5 → (cellR rs[j]).toList[i]? = some u → w.cell? ((⟨g, 0, none⟩ : Addr).add (j * 5 + i)) = some u := fun i u hi hu =>
      h.cells (g := g) rfl (j * 5 + i) u (by rw [cellsR_at rs j i hi, List.getElem?_eq_getElem hj]; exact hu)
    exact ⟨hc 0 _ (by omega) rfl, by rw [← add_field _ _ 1 (by omega)]; exact hc 1 _ (by omega) rfl, by rw [← add_field _ _ 2 (by omega)]; exact hc 2 _ (by omega) rfl, by rw [← add_field _ _ 3 (by omega)]; exact hc 3 _ (by omega) rfl, by rw [← add_field _ _ 4 (by omega)]; exact hc 4 _ (by omega) rfl⟩
section
variable {P : Program} {ops : Array Oper} {o : Oper} {a : Act} {Q : Exit → Act → World → Prop} {K : Act → World → Prop}
theorem own_ne {W : World} {base e size n : Nat} {v : Value} {xs : List Value} {b T : Nat} {cs : Array Value} {fr : Nat × Nat} (h : W.ownsRow base e size v n xs) (hb : W.heap[b]? = some (.cells cs T fr)) (hT : T ≠ e) : some b ≠ v.ownBlock := by
  intro hk
  obtain ⟨cs', hb'⟩ := Go.Proofs.YtjklgdpffmaamaaW.PrintWords.own_typed h b hk.symm
  rw [hb] at hb'
  injection hb' with hb'
  injection hb' with _ hT' _
  exact hT hT'
end
theorem own_cap {w : World} {b : Nat} {e : TypeId} {size n c : Nat} {A : Option Addr} {xs : List Value} (h : w.ownsRow b e size (.slice A n c) n xs) : n ≤ c := by
  rcases h.2 with ⟨e1, h0⟩ | ⟨g, cap, cur, hv, _, _, r, _⟩
  · omega
  · injection hv with _ _ hc; omega
end Go.Proofs.Ytjklgdpffmaamaa.Pad

namespace Go.Proofs.Ytjklgdpffmaamaa.WireForms
open Go.RowKit Go.PlainAid Go.Proofs.Ytjklgdpffmaamaa.Base Go.Proofs.Ytjklgdpffmaamaa.Oct Go.Proofs.Ytjklgdpffmaamaa.Nm Go.Proofs.Ytjklgdpffmaamaa.Wm
open Go.Proofs.YtjklgdpffmaamaaW.PrintWords (blk_cell blk_below blk_put blk_frozen blk_ne blk_new blk_lt blk_grown blk_alloc own_nil)
set_option linter.unusedVariables false
set_option linter.unusedSimpArgs false
theorem asz (w : World) (o : Obj) : (w.alloc o).heap.size = w.heap.size + 1 := by simp
def r0 : Rr := ⟨⟨#[1, 97, 0]⟩, 1, 1, 5, ⟨#[97, 98, 99, 100]⟩⟩
def q0 : Qn := ⟨⟨#[0]⟩, 1, 1⟩
theorem one_q {w : World} {b : Nat} {q : Qn} (h : w.heap[b]? = some (.cells #[.string q.name, .int .i64 q.type, .int .i64 q.cls] 40 (0, 0))) : QCells w (some ⟨b, 0, none⟩) [q] :=
  .inr ⟨_, rfl, fun j hj => by
    obtain rfl : j = 0 := by simpa using hj
    exact ⟨(blk_cell h 0).trans rfl, (blk_cell h 1).trans rfl, (blk_cell h 2).trans rfl⟩⟩
theorem one_r {w : World} {b : Nat} {r : Rr} (h : w.heap[b]? = some (.cells #[.string r.name, .int .i64 r.type, .int .i64 r.cls, .int .i64 r.ttl, .string r.data] 53 (0, 0))) : RCells w (some ⟨b, 0, none⟩) [r] :=
  .inr ⟨_, rfl, fun j hj => by
    obtain rfl : j = 0 := by simpa using hj
    exact ⟨(blk_cell h 0).trans rfl, (blk_cell h 1).trans rfl, (blk_cell h 2).trans rfl, (blk_cell h 3).trans rfl, (blk_cell h 4).trans rfl⟩⟩
/-- The world behind the law's literals. -/
def WF (w : World) : World := (((((w.alloc (.cells #[.string ⟨#[1, 97, 0]⟩, .int .i64 1, .int .i64 1, .int .i64 5, .string ⟨#[97, 98, 99, 100]⟩] 53)).alloc (.cells #[.string ⟨#[0]⟩, .int .i64 1, .int .i64 1] 40)).alloc (.cells #[.string ⟨#[1, 97, 0]⟩, .int .i64 1, .int .i64 1, .int .i64 5, .string ⟨#[97, 98, 99, 100]⟩] 53)).alloc (.cells #[.string ⟨#[1, 97, 0]⟩, .int .i64 1, .int .i64 1, .int .i64 5, .string ⟨#[97, 98, 99, 100]⟩] 53)).alloc (.cells #[.string ⟨#[1, 97, 0]⟩, .int .i64 1, .int .i64 1, .int .i64 5, .string ⟨#[97, 98, 99, 100]⟩] 53)).alloc (.cells #[.int .i64 0, .bool false, .int .i64 0, .bool false, .bool false, .bool false, .bool false, .int .i64 0, .int .i64 0, .slice (some ⟨w.heap.size + 1, 0, none⟩) 1 1, .slice (some ⟨w.heap.size + 1 + 1, 0, none⟩) 1 1, .slice (some ⟨w.heap.size + 1 + 1 + 1, 0, none⟩) 1 1, .slice (some ⟨w.heap.size + 1 + 1 + 1 + 1, 0, none⟩) 1 1] 27)
structure Six (W : World) (gp gq ga gn gr gm : Nat) (q : Qn) (a n r : Rr) (h : Hd.Head) : Prop where
  p : W.heap[gp]? = some (.cells #[.string ⟨#[1, 97, 0]⟩, .int .i64 1, .int .i64 1, .int .i64 5, .string ⟨#[97, 98, 99, 100]⟩] 53 (0, 0))
  q : W.heap[gq]? = some (.cells #[.string q.name, .int .i64 q.type, .int .i64 q.cls] 40 (0, 0))
  a : W.heap[ga]? = some (.cells #[.string a.name, .int .i64 a.type, .int .i64 a.cls, .int .i64 a.ttl, .string a.data] 53 (0, 0))
  n : W.heap[gn]? = some (.cells #[.string n.name, .int .i64 n.type, .int .i64 n.cls, .int .i64 n.ttl, .string n.data] 53 (0, 0))
  r : W.heap[gr]? = some (.cells #[.string r.name, .int .i64 r.type, .int .i64 r.cls, .int .i64 r.ttl, .string r.data] 53 (0, 0))
  m : W.heap[gm]? = some (.cells #[.int .i64 h.id, .bool h.qr, .int .i64 h.op, .bool h.aa, .bool h.tc, .bool h.rd, .bool h.ra, .int .i64 h.z, .int .i64 h.rc, .slice (some ⟨gq, 0, none⟩) 1 1, .slice (some ⟨ga, 0, none⟩) 1 1, .slice (some ⟨gn, 0, none⟩) 1 1, .slice (some ⟨gr, 0, none⟩) 1 1] 27 (0, 0))
theorem Six.below {W W' : World} {gp gq ga gn gr gm : Nat} {q : Qn} {a n r : Rr} {h : Hd.Head} (s : Six W gp gq ga gn gr gm q a n r h) (hb : Below W.heap.size W W') : Six W' gp gq ga gn gr gm q a n r h :=
  ⟨blk_below s.p hb, blk_below s.q hb, blk_below s.a hb, blk_below s.n hb, blk_below s.r hb, blk_below s.m hb⟩
def h0 : Hd.Head := ⟨0, false, 0, false, false, false, false, 0, 0⟩
theorem wF (w : World) : Six (WF w) w.heap.size (w.heap.size + 1) (w.heap.size + 1 + 1) (w.heap.size + 1 + 1 + 1) (w.heap.size + 1 + 1 + 1 + 1) (w.heap.size + 1 + 1 + 1 + 1 + 1) q0 r0 r0 r0 h0 ∧ Below w.heap.size w (WF w) := by
  have nb : ∀ (v : World) (o : Obj) (k : Nat), v.heap.size = k → (v.alloc o).heap[k]? = some o := fun v o k e => by rw [← e]; exact heap_alloc_new v o
  have sz : ∀ (v : World) (o : Obj) (k : Nat), v.heap.size = k → (v.alloc o).heap.size = k + 1 := fun v o k e => by rw [asz, e]
  have be : ∀ (v : World) (o : Obj), Below w.heap.size w v → Below w.heap.size w (v.alloc o) := fun v o h => h.alloc h.size o
  unfold WF
  refine ⟨⟨?_, ?_, ?_, ?_, ?_, ?_⟩, be _ _ (be _ _ (be _ _ (be _ _ (be _ _ (be _ _ (Below.refl _ _))))))⟩
  · exact blk_alloc (blk_alloc (blk_alloc (blk_alloc (blk_alloc (nb w _ _ rfl) _) _) _) _) _
  · exact blk_alloc (blk_alloc (blk_alloc (blk_alloc (nb _ _ _ (sz _ _ _ rfl)) _) _) _) _
  · exact blk_alloc (blk_alloc (blk_alloc (nb _ _ _ (sz _ _ _ (sz _ _ _ rfl))) _) _) _
  · exact blk_alloc (blk_alloc (nb _ _ _ (sz _ _ _ (sz _ _ _ (sz _ _ _ rfl)))) _) _
  · exact blk_alloc (nb _ _ _ (sz _ _ _ (sz _ _ _ (sz _ _ _ (sz _ _ _ rfl))))) _
  · exact nb _ _ _ (sz _ _ _ (sz _ _ _ (sz _ _ _ (sz _ _ _ (sz _ _ _ rfl)))))
abbrev mV (gq ga gn gr : Nat) (q : Qn) (a n r : Rr) (h : Hd.Head) : MsgV := ⟨h, some ⟨gq, 0, none⟩, 1, [q], some ⟨ga, 0, none⟩, 1, [a], some ⟨gn, 0, none⟩, 1, [n], some ⟨gr, 0, none⟩, 1, [r]⟩
theorem Six.lies {W : World} {gp gq ga gn gr gm : Nat} {q : Qn} {a n r : Rr} {h : Hd.Head} (s : Six W gp gq ga gn gr gm q a n r h) (ha : a.data.size ≤ 10) (hn : n.data.size ≤ 10) (hr : r.data.size ≤ 10) : (mV gq ga gn gr q a n r h).Lies W :=
  ⟨one_q s.q, one_r s.a, one_r s.n, one_r s.r, Nat.le_refl _, Nat.le_refl _, Nat.le_refl _, Nat.le_refl _,
    (by intro x hx; rw [List.mem_singleton.1 hx]; exact Nat.le_trans ha (by decide)), (by intro x hx; rw [List.mem_singleton.1 hx]; exact Nat.le_trans hn (by decide)), (by intro x hx; rw [List.mem_singleton.1 hx]; exact Nat.le_trans hr (by decide))⟩
theorem e0 : putE (mV 0 0 0 0 q0 r0 r0 r0 h0) = 0 := by decide +kernel
/-- What may not be, is refused. -/
theorem refused {m : MsgV} (h : putOk m = false) : putS m = ⟨#[]⟩ ∧ putE m = 700 := by
  unfold putS putE
  rw [if_neg (by rw [h]; decide), if_neg (by rw [h]; decide)]
  exact ⟨rfl, rfl⟩
theorem Six.set_q {W : World} {gp gq ga gn gr gm : Nat} {q : Qn} {a n r : Rr} {h : Hd.Head} (s : Six W gp gq ga gn gr gm q a n r h) (hg : gp < gq ∧ gq < ga ∧ ga < gn ∧ gn < gr ∧ gr < gm) (k : Nat) (v : Value) (x : Qn) (hc : (#[.string q.name, .int .i64 q.type, .int .i64 q.cls] : Array Value).setIfInBounds k v = #[.string x.name, .int .i64 x.type, .int .i64 x.cls]) : Six (W.setCell ⟨gq, k, none⟩ v) gp gq ga gn gr gm x a n r h :=
  ⟨blk_set_ne (p := ⟨gq, k, none⟩) s.p (by show gp ≠ gq; omega) v, blk_put s.q k v hc, blk_set_ne (p := ⟨gq, k, none⟩) s.a (by show ga ≠ gq; omega) v, blk_set_ne (p := ⟨gq, k, none⟩) s.n (by show gn ≠ gq; omega) v, blk_set_ne (p := ⟨gq, k, none⟩) s.r (by show gr ≠ gq; omega) v, blk_set_ne (p := ⟨gq, k, none⟩) s.m (by show gm ≠ gq; omega) v⟩
theorem Six.set_a {W : World} {gp gq ga gn gr gm : Nat} {q : Qn} {a n r : Rr} {h : Hd.Head} (s : Six W gp gq ga gn gr gm q a n r h) (hg : gp < gq ∧ gq < ga ∧ ga < gn ∧ gn < gr ∧ gr < gm) (k : Nat) (v : Value) (x : Rr) (hc : (#[.string a.name, .int .i64 a.type, .int .i64 a.cls, .int .i64 a.ttl, .string a.data] : Array Value).setIfInBounds k v = #[.string x.name, .int .i64 x.type, .int .i64 x.cls, .int .i64 x.ttl, .string x.data]) : Six (W.setCell ⟨ga, k, none⟩ v) gp gq ga gn gr gm q x n r h :=
  ⟨blk_set_ne (p := ⟨ga, k, none⟩) s.p (by show gp ≠ ga; omega) v, blk_set_ne (p := ⟨ga, k, none⟩) s.q (by show gq ≠ ga; omega) v, blk_put s.a k v hc, blk_set_ne (p := ⟨ga, k, none⟩) s.n (by show gn ≠ ga; omega) v, blk_set_ne (p := ⟨ga, k, none⟩) s.r (by show gr ≠ ga; omega) v, blk_set_ne (p := ⟨ga, k, none⟩) s.m (by show gm ≠ ga; omega) v⟩
theorem Six.set_n {W : World} {gp gq ga gn gr gm : Nat} {q : Qn} {a n r : Rr} {h : Hd.Head} (s : Six W gp gq ga gn gr gm q a n r h) (hg : gp < gq ∧ gq < ga ∧ ga < gn ∧ gn < gr ∧ gr < gm) (k : Nat) (v : Value) (x : Rr) (hc : (#[.string n.name, .int .i64 n.type, .int .i64 n.cls, .int .i64 n.ttl, .string n.data] : Array Value).setIfInBounds k v = #[.string x.name, .int .i64 x.type, .int .i64 x.cls, .int .i64 x.ttl, .string x.data]) : Six (W.setCell ⟨gn, k, none⟩ v) gp gq ga gn gr gm q a x r h :=
  ⟨blk_set_ne (p := ⟨gn, k, none⟩) s.p (by show gp ≠ gn; omega) v, blk_set_ne (p := ⟨gn, k, none⟩) s.q (by show gq ≠ gn; omega) v, blk_set_ne (p := ⟨gn, k, none⟩) s.a (by show ga ≠ gn; omega) v, blk_put s.n k v hc, blk_set_ne (p := ⟨gn, k, none⟩) s.r (by show gr ≠ gn; omega) v, blk_set_ne (p := ⟨gn, k, none⟩) s.m (by show gm ≠ gn; omega) v⟩
theorem Six.set_r {W : World} {gp gq ga gn gr gm : Nat} {q : Qn} {a n r : Rr} {h : Hd.Head} (s : Six W gp gq ga gn gr gm q a n r h) (hg : gp < gq ∧ gq < ga ∧ ga < gn ∧ gn < gr ∧ gr < gm) (k : Nat) (v : Value) (x : Rr) (hc : (#[.string r.name, .int .i64 r.type, .int .i64 r.cls, .int .i64 r.ttl, .string r.data] : Array Value).setIfInBounds k v = #[.string x.name, .int .i64 x.type, .int .i64 x.cls, .int .i64 x.ttl, .string x.data]) : Six (W.setCell ⟨gr, k, none⟩ v) gp gq ga gn gr gm q a n x h :=
  ⟨blk_set_ne (p := ⟨gr, k, none⟩) s.p (by show gp ≠ gr; omega) v, blk_set_ne (p := ⟨gr, k, none⟩) s.q (by show gq ≠ gr; omega) v, blk_set_ne (p := ⟨gr, k, none⟩) s.a (by show ga ≠ gr; omega) v, blk_set_ne (p := ⟨gr, k, none⟩) s.n (by show gn ≠ gr; omega) v, blk_put s.r k v hc, blk_set_ne (p := ⟨gr, k, none⟩) s.m (by show gm ≠ gr; omega) v⟩
theorem bad_q {gq ga gn gr : Nat} {q : Qn} {a n r : Rr} {h : Hd.Head} (b : qMay q = false) : putOk (mV gq ga gn gr q a n r h) = false := by
  unfold putOk fitsB
  simp [b]
theorem bad_a {gq ga gn gr : Nat} {q : Qn} {a n r : Rr} {h : Hd.Head} (b : rMay a = false) : putOk (mV gq ga gn gr q a n r h) = false := by
  unfold putOk fitsB
  simp [b]
theorem bad_n {gq ga gn gr : Nat} {q : Qn} {a n r : Rr} {h : Hd.Head} (b : rMay n = false) : putOk (mV gq ga gn gr q a n r h) = false := by
  unfold putOk fitsB
  simp [b]
theorem bad_r {gq ga gn gr : Nat} {q : Qn} {a n r : Rr} {h : Hd.Head} (b : rMay r = false) : putOk (mV gq ga gn gr q a n r h) = false := by
  unfold putOk fitsB
  simp [b]
theorem add0 (g j : Nat) : (⟨g, 0, none⟩ : Addr).add j = ⟨g, j, none⟩ := by unfold Addr.add; split <;> simp_all
/-- A row of so many questions, whatever they are. -/
def QB (W : World) (g N : Nat) : Prop := ∃ cs : Array Value, W.heap[g]? = some (.cells cs 40 (0, 0)) ∧ cs.size = N * 3 ∧ ∀ j, j < N → ∃ q : Qn, cs[j * 3]? = some (.string q.name) ∧ cs[j * 3 + 1]? = some (.int .i64 q.type) ∧ cs[j * 3 + 2]? = some (.int .i64 q.cls)
theorem QB.cells {W : World} {g N : Nat} (h : QB W g N) : ∃ qs : List Qn, qs.length = N ∧ QCells W (some ⟨g, 0, none⟩) qs := by
  obtain ⟨cs, hb, _, hq⟩ := h
  refine ⟨List.ofFn (fun j : Fin N => Classical.choose (hq j.1 j.2)), by simp, .inr ⟨_, rfl, fun j hj => ?_⟩⟩
  have hj : j < N := by simpa using hj
  obtain ⟨a0, a1, a2⟩ := Classical.choose_spec (hq j hj)
  have e : (List.ofFn (fun j : Fin N => Classical.choose (hq j.1 j.2))).getD j zQ = Classical.choose (hq j hj) := by
    rw [List.getD_eq_getElem?_getD, List.getElem?_ofFn]
    simp [hj]
  rw [e]
  rw [add0 g (j * 3)]
  exact ⟨(blk_cell hb _).trans a0, (blk_cell hb _).trans a1, (blk_cell hb _).trans a2⟩
theorem QB.below {W W' : World} {g N : Nat} (h : QB W g N) (hb : Below W.heap.size W W') : QB W' g N := by
  obtain ⟨cs, hk, r⟩ := h
  exact ⟨cs, blk_below hk hb, r⟩
theorem QB.put {W : World} {g N : Nat} (h : QB W g N) (i : Nat) (hi : i < N) (q : Qn) : QB (((W.setCell ⟨g, i * 3, none⟩ (.string q.name)).setCell ⟨g, i * 3 + 1, none⟩ (.int .i64 q.type)).setCell ⟨g, i * 3 + 2, none⟩ (.int .i64 q.cls)) g N := by
  obtain ⟨cs, hb, hz, hq⟩ := h
  refine ⟨_, blk_put (blk_put (blk_put hb (i * 3) (.string q.name) rfl) (i * 3 + 1) (.int .i64 q.type) rfl) (i * 3 + 2) (.int .i64 q.cls) rfl, by simp [hz], fun j hj => ?_⟩
  by_cases e : j = i
  · subst e
    refine ⟨q, ?_, ?_, ?_⟩
    · rw [Array.getElem?_setIfInBounds_ne (by omega), Array.getElem?_setIfInBounds_ne (by omega), Array.getElem?_setIfInBounds_self_of_lt (by omega)]
    · rw [Array.getElem?_setIfInBounds_ne (by omega), Array.getElem?_setIfInBounds_self_of_lt (by rw [Array.size_setIfInBounds]; omega)]
    · rw [Array.getElem?_setIfInBounds_self_of_lt (by rw [Array.size_setIfInBounds, Array.size_setIfInBounds]; omega)]
  · obtain ⟨p, a0, a1, a2⟩ := hq j hj
    refine ⟨p, ?_, ?_, ?_⟩
    · rw [Array.getElem?_setIfInBounds_ne (by omega), Array.getElem?_setIfInBounds_ne (by omega), Array.getElem?_setIfInBounds_ne (by omega)]; exact a0
    · rw [Array.getElem?_setIfInBounds_ne (by omega), Array.getElem?_setIfInBounds_ne (by omega), Array.getElem?_setIfInBounds_ne (by omega)]; exact a1
    · rw [Array.getElem?_setIfInBounds_ne (by omega), Array.getElem?_setIfInBounds_ne (by omega), Array.getElem?_setIfInBounds_ne (by omega)]; exact a2
theorem made_q (N : Nat) (W : World) (hN : N ≤ 1000) (z : Int) (hz : z = (N : Int)) : (Instr.makeSlice 24 (.int .i64 z) (.int .i64 z)).run Try.prog W = .ok (.slice (some ⟨W.heap.size, 0, none⟩) N N) (W.alloc (.cells (madeCells #[.string ⟨#[]⟩, .int .i64 0, .int .i64 0] (N * 3)) 40)) := by
  subst hz
  obtain ⟨i0, hi, hz0, hz1, hz2⟩ := info_parts info_Q
  have := run_make (P := Try.prog) W 24 40 i0 _ Try.underlying24 hi hz0 .i64 .i64 (N : Int) (N : Int) (by omega) (Int.le_refl _) (by rw [hz2]; omega) (by omega)
  rw [hz1, Int.toNat_natCast] at this
  exact this
theorem made_QB (N : Nat) {W : World} {g : Nat} (h : W.heap[g]? = some (.cells (madeCells #[.string ⟨#[]⟩, .int .i64 0, .int .i64 0] (N * 3)) 40 (0, 0))) : QB W g N := by
  refine ⟨_, h, by simp [madeCells], fun j hj => ⟨zQ, ?_, ?_, ?_⟩⟩
  · simp [madeCells, show j * 3 < N * 3 by omega, zQ, Nat.mul_mod_left]
  · simp [madeCells, show j * 3 + 1 < N * 3 by omega, zQ, show (j * 3 + 1) % 3 = 1 by omega]
  · simp [madeCells, show j * 3 + 2 < N * 3 by omega, zQ, show (j * 3 + 2) % 3 = 2 by omega]
set_option maxHeartbeats 4000000 in
set_option maxRecDepth 100000 in
theorem manyc (r : Rr) (k : Nat) (hk : k ≤ 1000) (w : World) : Calls Try.prog 36 #[.agg #[.string r.name, .int .i64 r.type, .int .i64 r.cls, .int .i64 r.ttl, .string r.data], .int .i64 (k : Int)] w fun e w' => ∃ A c, e = .returned (.slice A k c) ∧ w'.ownsRow w.heap.size 53 5 (.slice A k c) k (cellsR (List.replicate k r)) ∧ Below w.heap.size w w' := by
  have bx := blk_new w (.cells #[.string r.name, .int .i64 r.type, .int .i64 r.cls, .int .i64 r.ttl, .string r.data] 53)
  have Bx : Below w.heap.size w (w.alloc (.cells #[.string r.name, .int .i64 r.type, .int .i64 r.cls, .int .i64 r.ttl, .string r.data] 53)) := (Below.refl _ _).alloc (Nat.le_refl _) _
  have sx := asz w (.cells #[.string r.name, .int .i64 r.type, .int .i64 r.cls, .int .i64 r.ttl, .string r.data] 53)
  go_enter Try.func36, Try.ntmps36
  go_upto_region 2 with (fail)
  generalize w.alloc (.cells #[.string r.name, .int .i64 r.type, .int .i64 r.cls, .int .i64 r.ttl, .string r.data] 53) = w1 at *
  have SX := Lib.hid sx
  clear sx
  go_wp2_with fail
  go_loopg [5, 6] (k + 1) (fun kk v5 v6 wr => ∃ (i : Nat) (A : Option Addr) (c : Nat), v5 = .slice A i c ∧ v6 = .int .i64 (i : Int) ∧ i + kk = k + 1 ∧ i ≤ k ∧ wr.heap[w.heap.size]? = some (.cells #[.string r.name, .int .i64 r.type, .int .i64 r.cls, .int .i64 r.ttl, .string r.data] 53 (0, 0)) ∧ wr.ownsRow w1.heap.size 53 5 (.slice A i c) i (cellsR (List.replicate i r)) ∧ Below w.heap.size w wr ∧ w1.heap.size ≤ wr.heap.size)
  case atStart => exact ⟨0, none, 0, rfl, rfl, by omega, by omega, bx, own_nil _ _ _ _, Bx, Nat.le_refl _⟩
  case round =>
    obtain ⟨i, A, c, rfl, rfl, hkk, hi, bm1, ho, B1, hs3⟩ := hrel
    clear bx Bx
    by_cases h : i < k
    · have q : decide ((i : Int) < (k : Int)) = true := by simp; omega
      have c0 : wr.cell? ⟨w.heap.size, 0, none⟩ = some (.string r.name) := (blk_cell bm1 0).trans rfl
      have c1 : wr.cell? ⟨w.heap.size, 1, none⟩ = some (.int .i64 r.type) := (blk_cell bm1 1).trans rfl
      have c2 : wr.cell? ⟨w.heap.size, 2, none⟩ = some (.int .i64 r.cls) := (blk_cell bm1 2).trans rfl
      have c3 : wr.cell? ⟨w.heap.size, 3, none⟩ = some (.int .i64 r.ttl) := (blk_cell bm1 3).trans rfl
      have c4 : wr.cell? ⟨w.heap.size, 4, none⟩ = some (.string r.data) := (blk_cell bm1 4).trans rfl
      have HK := Lib.hid hkk
      clear hkk
      go_wp2_with (at_builtin; refine app_elem w1.heap.size rfl _ _ 25 53 (.agg #[.string ⟨#[]⟩, .int .i64 0, .int .i64 0, .int .i64 0, .string ⟨#[]⟩]) 5 56 rfl Try.underlying25 info_R rfl (by decide) ho (cellR r) rfl rfl rfl ?h1 hs3 ?hn ?hl ?_)
      case h1 => exact ⟨rfl, rfl, rfl, rfl, rfl⟩
      case hn => omega
      case hl => omega
      intro v3 w4 ho4 hg4
      obtain ⟨A3, c3', rfl⟩ := Sl.own_slice ho4
      have bm4 := blk_grown (blk_alloc bm1 (.cells (cellR r) 53)) hg4 (fun e => by have := Sl.own_base ho _ e.symm; have := SX.out; omega)
      have B4 := (B1.alloc B1.size (.cells (cellR r) 53)).grown hg4 (by rw [asz]; have := B1.size; omega) (fun kk e => by have := Sl.own_base ho kk e; have := SX.out; omega)
      have hs4 : w1.heap.size ≤ w4.heap.size := by have := hg4.size; rw [asz] at this; omega
      clear c0 c1 c2 c3 c4 bm1 ho B1 hs3 hg4
      go_wp2_with fail
      go_roundg (k - i)
      case measure => have := HK.out; omega
      case rel =>
        refine ⟨i + 1, A3, c3', rfl, by first | rfl | exact congrArg (Value.int .i64) (by rw [w64 (by omega) (by omega)]; omega), by omega, by omega, bm4, ?_, B4, hs4⟩
        rw [List.replicate_succ', cellsR_app]
        simpa [cellsR] using ho4
    · have q : decide ((i : Int) < (k : Int)) = false := by simp; omega
      obtain rfl : i = k := by omega
      go_wp2_with fail
      go_ret
      exact ⟨A, c, rfl, own_lower ho (by have := SX.out; omega), B1⟩
set_option maxHeartbeats 4000000 in
set_option maxRecDepth 100000 in
theorem walk (x y : Int) (w : World) (_ : (Lit.int .i64 x).wf = true) (_ : (Lit.int .i64 y).wf = true) : Calls Try.prog 13 #[.int .i64 x, .int .i64 y] w fun e w' => e = .returned (.bool true) ∧ Below w.heap.size w w' := by
  have ka := Awake7.walk
  obtain ⟨d, d1, hd⟩ : ∃ d : Nat, d ≤ 63 ∧ Go.bits .and .i64 y 63 = (d : Int) := ⟨(y % 64).toNat, by omega, by rw [show (63 : Int) = 2 ^ 6 - 1 by decide, Base.and_mask 6 (by decide)]; omega⟩
  go_enter Try.func13, Try.ntmps13
  go_wp2_with fail
  refine (ka _).mono ?_
  rintro e w1 ⟨rfl, hb⟩
  clear ka
  go_wp2_with fail
  change Calls _ _ _ (WF w1) _
  obtain ⟨s6, B6⟩ := wF w1
  have B := hb.trans (B6.mono hb.size)
  have HG := Lib.hid hb.size
  clear hb B6
  generalize WF w1 = w2 at *
  have kp := putc (mV (w1.heap.size + 1) (w1.heap.size + 1 + 1) (w1.heap.size + 1 + 1 + 1) (w1.heap.size + 1 + 1 + 1 + 1) q0 r0 r0 r0 h0) w2 (s6.lies (by decide) (by decide) (by decide))
  have kp' : Calls Try.prog 34 _ w2 fun e w' => e = .returned (.tuple #[.string (putS (mV 0 0 0 0 q0 r0 r0 r0 h0)), .int .i64 (putE (mV 0 0 0 0 q0 r0 r0 r0 h0))]) ∧ Below w2.heap.size w2 w' := kp
  rw [e0] at kp'
  clear kp
  refine kp'.mono ?_
  rintro e w3 ⟨rfl, hb⟩
  replace s6 := s6.below hb
  replace B := B.trans (hb.mono B.size)
  clear hb kp'
  generalize putS (mV 0 0 0 0 q0 r0 r0 r0 h0) = S at *
  obtain ⟨gp, gq, ga, gn, gr, gm, hs6, hgs⟩ : ∃ gp gq ga gn gr gm : Nat, (w1.heap.size = gp ∧ w1.heap.size + 1 = gq ∧ w1.heap.size + 1 + 1 = ga ∧ w1.heap.size + 1 + 1 + 1 = gn ∧ w1.heap.size + 1 + 1 + 1 + 1 = gr ∧ w1.heap.size + 1 + 1 + 1 + 1 + 1 = gm) ∧ (w.heap.size ≤ gp ∧ gp < gq ∧ gq < ga ∧ ga < gn ∧ gn < gr ∧ gr < gm) := by
    have := HG.out
    exact ⟨_, _, _, _, _, _, ⟨rfl, rfl, rfl, rfl, rfl, rfl⟩, by omega⟩
  obtain ⟨g0, g1, g2, g3, g4, g5⟩ := hs6
  rw [g5, g4, g3, g2, g1, g0] at s6
  rw [g5, g4, g3, g2, g1, g0]
  have HGS := Lib.hid hgs
  clear g0 g1 g2 g3 g4 g5 hgs
  go_upto_block 0 with (fail)
  obtain ⟨c, hc, hcb⟩ : ∃ c : Int, (IntKind.u64.wrap x).tmod 14 = c ∧ (c = 0 ∨ c = 1 ∨ c = 2 ∨ c = 3 ∨ c = 4 ∨ c = 5 ∨ c = 6 ∨ c = 7 ∨ c = 8 ∨ c = 9 ∨ c = 10 ∨ c = 11 ∨ c = 12 ∨ c = 13) := by
    refine ⟨_, rfl, ?_⟩
    have h0 : 0 ≤ IntKind.u64.wrap x := by
      show 0 ≤ x % 18446744073709551616
      omega
    rw [Int.tmod_eq_emod_of_nonneg h0]
    omega
  rw [hc]
  clear hc
  go_cut [41] (fun v41 wc => ∃ M : MsgV, wc.heap[gm]? = some (.cells M.cells 27 (0, 0)) ∧ M.Lies wc ∧ putOk M = false ∧ Below w.heap.size w wc)
  case first =>
    have m9 : w3.cell? ⟨gm, 9, none⟩ = some (.slice (some ⟨gq, 0, none⟩) 1 1) := (blk_cell s6.m 9).trans rfl
    have m10 : w3.cell? ⟨gm, 10, none⟩ = some (.slice (some ⟨ga, 0, none⟩) 1 1) := (blk_cell s6.m 10).trans rfl
    have m11 : w3.cell? ⟨gm, 11, none⟩ = some (.slice (some ⟨gn, 0, none⟩) 1 1) := (blk_cell s6.m 11).trans rfl
    have m12 : w3.cell? ⟨gm, 12, none⟩ = some (.slice (some ⟨gr, 0, none⟩) 1 1) := (blk_cell s6.m 12).trans rfl
    rcases hcb with rfl | rfl | rfl | rfl | rfl | rfl | rfl | rfl | rfl | rfl | rfl | rfl | rfl | rfl
    · have z0 : w3.cell? ⟨gm, 2, none⟩ = some _ := (blk_cell s6.m 2).trans rfl
      have z1 := blk_frozen s6.m 2
      go_wp2_with fail
      go_meet
      case rel =>
        have hg := HGS.out
        have b1 := blk_put s6.m 2 (.int .i64 (15 + (1 + (d : Int)))) rfl
        have s7 : Six (w3.setCell ⟨gm, 2, none⟩ (.int .i64 (15 + (1 + (d : Int))))) gp gq ga gn gr gm q0 r0 r0 r0 ⟨0, false, 15 + (1 + (d : Int)), false, false, false, false, 0, 0⟩ := ⟨blk_set_ne (p := ⟨gm, 2, none⟩) s6.p (by show gp ≠ gm; omega) _, blk_set_ne (p := ⟨gm, 2, none⟩) s6.q (by show gq ≠ gm; omega) _, blk_set_ne (p := ⟨gm, 2, none⟩) s6.a (by show ga ≠ gm; omega) _, blk_set_ne (p := ⟨gm, 2, none⟩) s6.n (by show gn ≠ gm; omega) _, blk_set_ne (p := ⟨gm, 2, none⟩) s6.r (by show gr ≠ gm; omega) _, b1⟩
        refine ⟨mV gq ga gn gr q0 r0 r0 r0 ⟨0, false, 15 + (1 + (d : Int)), false, false, false, false, 0, 0⟩, s7.m, s7.lies (by decide) (by decide) (by decide), ?_, B.setCell (p := ⟨gm, 2, none⟩) (by show w.heap.size ≤ gm; omega) _⟩
        unfold putOk
        have : hOk (mV gq ga gn gr q0 r0 r0 r0 ⟨0, false, 15 + (1 + (d : Int)), false, false, false, false, 0, 0⟩) = false := decide_eq_false (fun k => by have h := k.2.2.1.2; have h : 15 + (1 + (d : Int)) ≤ 15 := h; omega)
        rw [this]
        rfl
    · have z0 : w3.cell? ⟨gq, 0, none⟩ = some _ := (blk_cell s6.q 0).trans rfl
      have z1 := blk_frozen s6.q 0
      go_wp2_with fail
      go_meet
      case rel =>
        have hg := HGS.out
        have s7 := s6.set_q hg.2 0 (.string ⟨#[97]⟩) ⟨⟨#[97]⟩, 1, 1⟩ (by rfl)
        exact ⟨mV gq ga gn gr ⟨⟨#[97]⟩, 1, 1⟩ r0 r0 r0 h0, s7.m, s7.lies (show (⟨#[97, 98, 99, 100]⟩ : ByteArray).size ≤ 10 by decide) (show (⟨#[97, 98, 99, 100]⟩ : ByteArray).size ≤ 10 by decide) (show (⟨#[97, 98, 99, 100]⟩ : ByteArray).size ≤ 10 by decide), bad_q (by decide +kernel), B.setCell (p := ⟨gq, 0, none⟩) (by show w.heap.size ≤ gq; omega) _⟩
    · have z0 : w3.cell? ⟨gq, 1, none⟩ = some _ := (blk_cell s6.q 1).trans rfl
      have z1 := blk_frozen s6.q 1
      go_wp2_with fail
      go_meet
      case rel =>
        have hg := HGS.out
        have s7 := s6.set_q hg.2 1 (.int .i64 0) ⟨⟨#[0]⟩, 0, 1⟩ (by rfl)
        exact ⟨mV gq ga gn gr ⟨⟨#[0]⟩, 0, 1⟩ r0 r0 r0 h0, s7.m, s7.lies (show (⟨#[97, 98, 99, 100]⟩ : ByteArray).size ≤ 10 by decide) (show (⟨#[97, 98, 99, 100]⟩ : ByteArray).size ≤ 10 by decide) (show (⟨#[97, 98, 99, 100]⟩ : ByteArray).size ≤ 10 by decide), bad_q (by decide +kernel), B.setCell (p := ⟨gq, 1, none⟩) (by show w.heap.size ≤ gq; omega) _⟩
    · have z0 : w3.cell? ⟨gq, 2, none⟩ = some _ := (blk_cell s6.q 2).trans rfl
      have z1 := blk_frozen s6.q 2
      go_wp2_with fail
      go_meet
      case rel =>
        have hg := HGS.out
        have s7 := s6.set_q hg.2 2 (.int .i64 (-(1 + (d : Int)))) ⟨⟨#[0]⟩, 1, -(1 + (d : Int))⟩ (by rfl)
        exact ⟨mV gq ga gn gr ⟨⟨#[0]⟩, 1, -(1 + (d : Int))⟩ r0 r0 r0 h0, s7.m, s7.lies (show (⟨#[97, 98, 99, 100]⟩ : ByteArray).size ≤ 10 by decide) (show (⟨#[97, 98, 99, 100]⟩ : ByteArray).size ≤ 10 by decide) (show (⟨#[97, 98, 99, 100]⟩ : ByteArray).size ≤ 10 by decide), bad_q (by unfold qMay inB; simp; omega), B.setCell (p := ⟨gq, 2, none⟩) (by show w.heap.size ≤ gq; omega) _⟩
    · have z0 : w3.cell? ⟨ga, 0, none⟩ = some _ := (blk_cell s6.a 0).trans rfl
      have z1 := blk_frozen s6.a 0
      go_wp2_with fail
      go_meet
      case rel =>
        have hg := HGS.out
        have s7 := s6.set_a hg.2 0 (.string ⟨#[]⟩) ⟨⟨#[]⟩, 1, 1, 5, ⟨#[97, 98, 99, 100]⟩⟩ (by rfl)
        exact ⟨mV gq ga gn gr q0 ⟨⟨#[]⟩, 1, 1, 5, ⟨#[97, 98, 99, 100]⟩⟩ r0 r0 h0, s7.m, s7.lies (show (⟨#[97, 98, 99, 100]⟩ : ByteArray).size ≤ 10 by decide) (show (⟨#[97, 98, 99, 100]⟩ : ByteArray).size ≤ 10 by decide) (show (⟨#[97, 98, 99, 100]⟩ : ByteArray).size ≤ 10 by decide), bad_a (by decide +kernel), B.setCell (p := ⟨ga, 0, none⟩) (by show w.heap.size ≤ ga; omega) _⟩
    · have z0 : w3.cell? ⟨gn, 1, none⟩ = some _ := (blk_cell s6.n 1).trans rfl
      have z1 := blk_frozen s6.n 1
      go_wp2_with fail
      go_meet
      case rel =>
        have hg := HGS.out
        have s7 := s6.set_n hg.2 1 (.int .i64 0) ⟨⟨#[1, 97, 0]⟩, 0, 1, 5, ⟨#[97, 98, 99, 100]⟩⟩ (by rfl)
        exact ⟨mV gq ga gn gr q0 r0 ⟨⟨#[1, 97, 0]⟩, 0, 1, 5, ⟨#[97, 98, 99, 100]⟩⟩ r0 h0, s7.m, s7.lies (show (⟨#[97, 98, 99, 100]⟩ : ByteArray).size ≤ 10 by decide) (show (⟨#[97, 98, 99, 100]⟩ : ByteArray).size ≤ 10 by decide) (show (⟨#[97, 98, 99, 100]⟩ : ByteArray).size ≤ 10 by decide), bad_n (by decide +kernel), B.setCell (p := ⟨gn, 1, none⟩) (by show w.heap.size ≤ gn; omega) _⟩
    · have z0 : w3.cell? ⟨gr, 2, none⟩ = some _ := (blk_cell s6.r 2).trans rfl
      have z1 := blk_frozen s6.r 2
      go_wp2_with fail
      go_meet
      case rel =>
        have hg := HGS.out
        have s7 := s6.set_r hg.2 2 (.int .i64 (65535 + (1 + (d : Int)))) ⟨⟨#[1, 97, 0]⟩, 1, 65535 + (1 + (d : Int)), 5, ⟨#[97, 98, 99, 100]⟩⟩ (by rfl)
        exact ⟨mV gq ga gn gr q0 r0 r0 ⟨⟨#[1, 97, 0]⟩, 1, 65535 + (1 + (d : Int)), 5, ⟨#[97, 98, 99, 100]⟩⟩ h0, s7.m, s7.lies (show (⟨#[97, 98, 99, 100]⟩ : ByteArray).size ≤ 10 by decide) (show (⟨#[97, 98, 99, 100]⟩ : ByteArray).size ≤ 10 by decide) (show (⟨#[97, 98, 99, 100]⟩ : ByteArray).size ≤ 10 by decide), bad_r (by unfold rMay inB; simp; omega), B.setCell (p := ⟨gr, 2, none⟩) (by show w.heap.size ≤ gr; omega) _⟩
    · have z0 : w3.cell? ⟨ga, 3, none⟩ = some _ := (blk_cell s6.a 3).trans rfl
      have z1 := blk_frozen s6.a 3
      go_wp2_with fail
      go_meet
      case rel =>
        have hg := HGS.out
        have s7 := s6.set_a hg.2 3 (.int .i64 (-(1 + (d : Int)))) ⟨⟨#[1, 97, 0]⟩, 1, 1, -(1 + (d : Int)), ⟨#[97, 98, 99, 100]⟩⟩ (by rfl)
        exact ⟨mV gq ga gn gr q0 ⟨⟨#[1, 97, 0]⟩, 1, 1, -(1 + (d : Int)), ⟨#[97, 98, 99, 100]⟩⟩ r0 r0 h0, s7.m, s7.lies (show (⟨#[97, 98, 99, 100]⟩ : ByteArray).size ≤ 10 by decide) (show (⟨#[97, 98, 99, 100]⟩ : ByteArray).size ≤ 10 by decide) (show (⟨#[97, 98, 99, 100]⟩ : ByteArray).size ≤ 10 by decide), bad_a (by unfold rMay inB; simp; omega), B.setCell (p := ⟨ga, 3, none⟩) (by show w.heap.size ≤ ga; omega) _⟩
    · have z0 : w3.cell? ⟨gn, 3, none⟩ = some _ := (blk_cell s6.n 3).trans rfl
      have z1 := blk_frozen s6.n 3
      go_wp2_with fail
      go_meet
      case rel =>
        have hg := HGS.out
        have s7 := s6.set_n hg.2 3 (.int .i64 (4294967295 + (1 + (d : Int)))) ⟨⟨#[1, 97, 0]⟩, 1, 1, 4294967295 + (1 + (d : Int)), ⟨#[97, 98, 99, 100]⟩⟩ (by rfl)
        exact ⟨mV gq ga gn gr q0 r0 ⟨⟨#[1, 97, 0]⟩, 1, 1, 4294967295 + (1 + (d : Int)), ⟨#[97, 98, 99, 100]⟩⟩ r0 h0, s7.m, s7.lies (show (⟨#[97, 98, 99, 100]⟩ : ByteArray).size ≤ 10 by decide) (show (⟨#[97, 98, 99, 100]⟩ : ByteArray).size ≤ 10 by decide) (show (⟨#[97, 98, 99, 100]⟩ : ByteArray).size ≤ 10 by decide), bad_n (by unfold rMay inB; simp; omega), B.setCell (p := ⟨gn, 3, none⟩) (by show w.heap.size ≤ gn; omega) _⟩
    · have z0 : w3.cell? ⟨gr, 4, none⟩ = some _ := (blk_cell s6.r 4).trans rfl
      have z1 := blk_frozen s6.r 4
      go_wp2_with fail
      go_meet
      case rel =>
        have hg := HGS.out
        have s7 := s6.set_r hg.2 4 (.string ⟨#[97, 98, 99]⟩) ⟨⟨#[1, 97, 0]⟩, 1, 1, 5, ⟨#[97, 98, 99]⟩⟩ (by rfl)
        exact ⟨mV gq ga gn gr q0 r0 r0 ⟨⟨#[1, 97, 0]⟩, 1, 1, 5, ⟨#[97, 98, 99]⟩⟩ h0, s7.m, s7.lies (show (⟨#[97, 98, 99, 100]⟩ : ByteArray).size ≤ 10 by decide) (show (⟨#[97, 98, 99, 100]⟩ : ByteArray).size ≤ 10 by decide) (show (⟨#[97, 98, 99]⟩ : ByteArray).size ≤ 10 by decide), bad_r (by decide +kernel), B.setCell (p := ⟨gr, 4, none⟩) (by show w.heap.size ≤ gr; omega) _⟩
    · have km := fun W => made_q (65 + d) W (by omega) (64 + (1 + (d : Int))) (by omega)
      have hg := HGS.out
      have z1 := blk_frozen s6.m 9
      have hltm := blk_lt s6.m
      obtain ⟨gn0, hgn0⟩ : ∃ g, g = w3.heap.size := ⟨_, rfl⟩
      have b4 : (w3.alloc (.cells (madeCells #[.string ⟨#[]⟩, .int .i64 0, .int .i64 0] ((65 + d) * 3)) 40)).heap[gm]? = _ := blk_alloc s6.m _
      have n9 : (w3.alloc (.cells (madeCells #[.string ⟨#[]⟩, .int .i64 0, .int .i64 0] ((65 + d) * 3)) 40)).cell? ⟨gm, 9, none⟩ = some (.slice (some ⟨gq, 0, none⟩) 1 1) := (blk_cell b4 9).trans rfl
      have n10 := blk_frozen b4 9
      go_upto_region 31 with (fail)
      have a0 := blk_put s6.m 9 (.slice (some ⟨w3.heap.size, 0, none⟩) (65 + d) (65 + d)) rfl
      have aa := blk_set_ne (p := ⟨gm, 9, none⟩) s6.a (by show ga ≠ gm; omega) (.slice (some ⟨w3.heap.size, 0, none⟩) (65 + d) (65 + d))
      have an := blk_set_ne (p := ⟨gm, 9, none⟩) s6.n (by show gn ≠ gm; omega) (.slice (some ⟨w3.heap.size, 0, none⟩) (65 + d) (65 + d))
      have ar := blk_set_ne (p := ⟨gm, 9, none⟩) s6.r (by show gr ≠ gm; omega) (.slice (some ⟨w3.heap.size, 0, none⟩) (65 + d) (65 + d))
      have B1 := B.setCell (p := ⟨gm, 9, none⟩) (by show w.heap.size ≤ gm; omega) (.slice (some ⟨w3.heap.size, 0, none⟩) (65 + d) (65 + d))
      have s1 : (w3.setCell ⟨gm, 9, none⟩ (.slice (some ⟨w3.heap.size, 0, none⟩) (65 + d) (65 + d))).heap.size = w3.heap.size := by simp [World.setCell]
      have hne : gm ≠ w3.heap.size ∧ ga ≠ w3.heap.size ∧ gn ≠ w3.heap.size ∧ gr ≠ w3.heap.size ∧ w.heap.size ≤ w3.heap.size := by have := B.size; omega
      clear n9 n10 b4 m9 m10 m11 m12 z1 km
      generalize w3.setCell ⟨gm, 9, none⟩ (.slice (some ⟨w3.heap.size, 0, none⟩) (65 + d) (65 + d)) = w4 at *
      rw [← hgn0] at a0 s1 hne ⊢
      have cq := blk_new w4 (.cells (madeCells #[.string ⟨#[]⟩, .int .i64 0, .int .i64 0] ((65 + d) * 3)) 40)
      rw [s1] at cq
      have Q5 := made_QB (65 + d) cq
      have bm5 : (w4.alloc (.cells (madeCells #[.string ⟨#[]⟩, .int .i64 0, .int .i64 0] ((65 + d) * 3)) 40)).heap[gm]? = some (.cells #[.int .i64 h0.id, .bool h0.qr, .int .i64 h0.op, .bool h0.aa, .bool h0.tc, .bool h0.rd, .bool h0.ra, .int .i64 h0.z, .int .i64 h0.rc, .slice (some ⟨gn0, 0, none⟩) (65 + d) (65 + d), .slice (some ⟨ga, 0, none⟩) 1 1, .slice (some ⟨gn, 0, none⟩) 1 1, .slice (some ⟨gr, 0, none⟩) 1 1] 27 (0, 0)) := blk_alloc (by simpa using a0) _
      have ba5 := blk_alloc aa (.cells (madeCells #[.string ⟨#[]⟩, .int .i64 0, .int .i64 0] ((65 + d) * 3)) 40)
      have bn5 := blk_alloc an (.cells (madeCells #[.string ⟨#[]⟩, .int .i64 0, .int .i64 0] ((65 + d) * 3)) 40)
      have br5 := blk_alloc ar (.cells (madeCells #[.string ⟨#[]⟩, .int .i64 0, .int .i64 0] ((65 + d) * 3)) 40)
      have B5 := B1.alloc B1.size (.cells (madeCells #[.string ⟨#[]⟩, .int .i64 0, .int .i64 0] ((65 + d) * 3)) 40)
      have HNE := Lib.hid hne
      clear hne s1 cq a0 aa an ar B1 hgn0 hg hltm
      generalize w4.alloc (.cells (madeCells #[.string ⟨#[]⟩, .int .i64 0, .int .i64 0] ((65 + d) * 3)) 40) = w5 at *
      go_wp2_with fail
      go_loopg [10] (65 + d + 1) (fun kk v10 wr => ∃ i : Nat, v10 = .int .i64 (i : Int) ∧ i + kk = 65 + d + 1 ∧ i ≤ 65 + d ∧ QB wr gn0 (65 + d) ∧ wr.heap[gm]? = some (.cells #[.int .i64 h0.id, .bool h0.qr, .int .i64 h0.op, .bool h0.aa, .bool h0.tc, .bool h0.rd, .bool h0.ra, .int .i64 h0.z, .int .i64 h0.rc, .slice (some ⟨gn0, 0, none⟩) (65 + d) (65 + d), .slice (some ⟨ga, 0, none⟩) 1 1, .slice (some ⟨gn, 0, none⟩) 1 1, .slice (some ⟨gr, 0, none⟩) 1 1] 27 (0, 0)) ∧ wr.heap[ga]? = some (.cells #[.string ⟨#[1, 97, 0]⟩, .int .i64 1, .int .i64 1, .int .i64 5, .string ⟨#[97, 98, 99, 100]⟩] 53 (0, 0)) ∧ wr.heap[gn]? = some (.cells #[.string ⟨#[1, 97, 0]⟩, .int .i64 1, .int .i64 1, .int .i64 5, .string ⟨#[97, 98, 99, 100]⟩] 53 (0, 0)) ∧ wr.heap[gr]? = some (.cells #[.string ⟨#[1, 97, 0]⟩, .int .i64 1, .int .i64 1, .int .i64 5, .string ⟨#[97, 98, 99, 100]⟩] 53 (0, 0)) ∧ Below w.heap.size w wr)
      case atStart => exact ⟨0, rfl, by omega, by omega, Q5, bm5, ba5, bn5, br5, B5⟩
      case round =>
        obtain ⟨i, rfl, hkk, hi, Q6, bm6, ba6, bn6, br6, B6⟩ := hrel
        clear Q5 bm5 ba5 bn5 br5 B5
        have n9 : wr.cell? ⟨gm, 9, none⟩ = some (.slice (some ⟨gn0, 0, none⟩) (65 + d) (65 + d)) := (blk_cell bm6 9).trans rfl
        have HK := Lib.hid hkk
        clear hkk
        by_cases h : i < 65 + d
        · have q : decide ((i : Int) < ((65 + d : Nat) : Int)) = true := by simp; omega
          obtain ⟨cs, hcs, hcz, hcq⟩ := Q6
          obtain ⟨qi, k0, k1, k2⟩ := hcq i h
          have u0 : wr.cell? ⟨gn0, i * 3, none⟩ = some (.string qi.name) := (blk_cell hcs _).trans k0
          have u1 : wr.cell? ⟨gn0, i * 3 + 1, none⟩ = some (.int .i64 qi.type) := (blk_cell hcs _).trans k1
          have u2 : wr.cell? ⟨gn0, i * 3 + 2, none⟩ = some (.int .i64 qi.cls) := (blk_cell hcs _).trans k2
          have v0 := blk_frozen hcs (i * 3)
          have v1 := blk_frozen hcs (i * 3 + 1)
          have v2 := blk_frozen hcs (i * 3 + 2)
          have Q7 := QB.put ⟨cs, hcs, hcz, hcq⟩ i h ⟨⟨#[0]⟩, 1, 0⟩
          have hlt : gn0 < wr.heap.size := blk_lt hcs
          clear hcq k0 k1 k2 hcz
          go_wp2_with fail
          go_roundg (65 + d - i)
          case measure => have := HK.out; omega
          case rel =>
            obtain ⟨e1, e2, e3, e4, e5⟩ := HNE.out
            have S3 : ∀ {b : Nat} {o : Obj}, wr.heap[b]? = some o → b ≠ gn0 → (((wr.setCell ⟨gn0, i * 3, none⟩ (.string ⟨#[0]⟩)).setCell ⟨gn0, i * 3 + 1, none⟩ (.int .i64 1)).setCell ⟨gn0, i * 3 + 2, none⟩ (.int .i64 0)).heap[b]? = some o := fun h hn => blk_set_ne (p := ⟨gn0, i * 3 + 2, none⟩) (blk_set_ne (p := ⟨gn0, i * 3 + 1, none⟩) (blk_set_ne (p := ⟨gn0, i * 3, none⟩) h hn _) hn _) hn _
            exact ⟨i + 1, by first | rfl | exact congrArg (Value.int .i64) (by rw [w64 (by omega) (by omega)]; omega), by omega, by omega, Q7, S3 bm6 e1, S3 ba6 e2, S3 bn6 e3, S3 br6 e4, ((B6.setCell (p := ⟨gn0, i * 3, none⟩) e5 _).setCell (p := ⟨gn0, i * 3 + 1, none⟩) e5 _).setCell (p := ⟨gn0, i * 3 + 2, none⟩) e5 _⟩
        · have q : decide ((i : Int) < ((65 + d : Nat) : Int)) = false := by simp; omega
          go_wp2_with fail
          go_meet
          case rel =>
            obtain ⟨qs, hql, hqc⟩ := Q6.cells
            refine ⟨⟨h0, some ⟨gn0, 0, none⟩, 65 + d, qs, some ⟨ga, 0, none⟩, 1, [r0], some ⟨gn, 0, none⟩, 1, [r0], some ⟨gr, 0, none⟩, 1, [r0]⟩, ?_, ⟨hqc, one_r ba6, one_r bn6, one_r br6, Nat.le_of_eq hql, Nat.le_refl _, Nat.le_refl _, Nat.le_refl _, (by intro x hx; rw [List.mem_singleton.1 hx]; show (4 : Nat) ≤ _; decide), (by intro x hx; rw [List.mem_singleton.1 hx]; show (4 : Nat) ≤ _; decide), (by intro x hx; rw [List.mem_singleton.1 hx]; show (4 : Nat) ≤ _; decide)⟩, ?_, B6⟩
            · simp only [MsgV.cells, hql, List.length_cons, List.length_nil]
              exact bm6
            · unfold putOk fitsB
              simp [hql]
              omega
    · have p0 : w3.cell? ⟨gp, 0, none⟩ = some (.string ⟨#[1, 97, 0]⟩) := (blk_cell s6.p 0).trans rfl
      have p1 : w3.cell? ⟨gp, 1, none⟩ = some (.int .i64 1) := (blk_cell s6.p 1).trans rfl
      have p2 : w3.cell? ⟨gp, 2, none⟩ = some (.int .i64 1) := (blk_cell s6.p 2).trans rfl
      have p3 : w3.cell? ⟨gp, 3, none⟩ = some (.int .i64 5) := (blk_cell s6.p 3).trans rfl
      have p4 : w3.cell? ⟨gp, 4, none⟩ = some (.string ⟨#[97, 98, 99, 100]⟩) := (blk_cell s6.p 4).trans rfl
      have km := manyc r0 (65 + d) (by omega) w3
      rw [show ((65 + d : Nat) : Int) = 64 + (1 + (d : Int)) by omega] at km
      go_wp2_with fail
      refine km.mono ?_
      rintro e w4 ⟨A, c, rfl, ho, hb⟩
      have s7 := s6.below hb
      have B7 := B.trans (hb.mono B.size)
      have ho' := own_lower ho B.size
      have z0 : w4.cell? ⟨gm, 10, none⟩ = some _ := (blk_cell s7.m 10).trans rfl
      have z1 := blk_frozen s7.m 10
      have o7 : w4.ownsRow w.heap.size 53 5 (.slice A (List.replicate (65 + d) r0).length c) (List.replicate (65 + d) r0).length (cellsR (List.replicate (65 + d) r0)) := by rw [List.length_replicate]; exact ho'
      have b8 := blk_put s7.m 10 (.slice A (65 + d) c) rfl
      have o8 := putAll_own 10 [.slice A (65 + d) c] o7 (Pad.own_ne o7 s7.m (by decide))
      simp only [putAll] at o8
      have hg := HGS.out
      have s8q := blk_set_ne (p := ⟨gm, 10, none⟩) s7.q (by show gq ≠ gm; omega) (.slice A (65 + d) c)
      have s8a := blk_set_ne (p := ⟨gm, 10, none⟩) s7.a (by show ga ≠ gm; omega) (.slice A (65 + d) c)
      have s8n := blk_set_ne (p := ⟨gm, 10, none⟩) s7.n (by show gn ≠ gm; omega) (.slice A (65 + d) c)
      have s8r := blk_set_ne (p := ⟨gm, 10, none⟩) s7.r (by show gr ≠ gm; omega) (.slice A (65 + d) c)
      have B8 := B7.setCell (p := ⟨gm, 10, none⟩) (by show w.heap.size ≤ gm; omega) (.slice A (65 + d) c)
      have oc := Pad.own_cap ho
      have HO := Lib.hid o8
      clear o8 o7 ho ho' hb p0 p1 p2 p3 p4 km
      go_wp2_with fail
      go_meet
      case rel =>
        have o8 := HO.out
        refine ⟨⟨h0, some ⟨gq, 0, none⟩, 1, [q0], A, c, List.replicate (65 + d) r0, some ⟨gn, 0, none⟩, 1, [r0], some ⟨gr, 0, none⟩, 1, [r0]⟩, ?_, ⟨one_q s8q, Pad.own_rcells o8, one_r s8n, one_r s8r, Nat.le_refl _, (by show (List.replicate (65 + d) r0).length ≤ c; rw [List.length_replicate]; exact oc), Nat.le_refl _, Nat.le_refl _, (by intro x hx; rw [List.eq_of_mem_replicate hx]; show (4 : Nat) ≤ _; decide), (by intro x hx; rw [List.mem_singleton.1 hx]; show (4 : Nat) ≤ _; decide), (by intro x hx; rw [List.mem_singleton.1 hx]; show (4 : Nat) ≤ _; decide)⟩, ?_, B8⟩
        · simp only [MsgV.cells, List.length_replicate, List.length_cons, List.length_nil]
          exact b8
        · unfold putOk fitsB
          simp
          omega
    · have p0 : w3.cell? ⟨gp, 0, none⟩ = some (.string ⟨#[1, 97, 0]⟩) := (blk_cell s6.p 0).trans rfl
      have p1 : w3.cell? ⟨gp, 1, none⟩ = some (.int .i64 1) := (blk_cell s6.p 1).trans rfl
      have p2 : w3.cell? ⟨gp, 2, none⟩ = some (.int .i64 1) := (blk_cell s6.p 2).trans rfl
      have p3 : w3.cell? ⟨gp, 3, none⟩ = some (.int .i64 5) := (blk_cell s6.p 3).trans rfl
      have p4 : w3.cell? ⟨gp, 4, none⟩ = some (.string ⟨#[97, 98, 99, 100]⟩) := (blk_cell s6.p 4).trans rfl
      have km := manyc r0 (65 + d) (by omega) w3
      rw [show ((65 + d : Nat) : Int) = 64 + (1 + (d : Int)) by omega] at km
      go_wp2_with fail
      refine km.mono ?_
      rintro e w4 ⟨A, c, rfl, ho, hb⟩
      have s7 := s6.below hb
      have B7 := B.trans (hb.mono B.size)
      have ho' := own_lower ho B.size
      have z0 : w4.cell? ⟨gm, 11, none⟩ = some _ := (blk_cell s7.m 11).trans rfl
      have z1 := blk_frozen s7.m 11
      have o7 : w4.ownsRow w.heap.size 53 5 (.slice A (List.replicate (65 + d) r0).length c) (List.replicate (65 + d) r0).length (cellsR (List.replicate (65 + d) r0)) := by rw [List.length_replicate]; exact ho'
      have b8 := blk_put s7.m 11 (.slice A (65 + d) c) rfl
      have o8 := putAll_own 11 [.slice A (65 + d) c] o7 (Pad.own_ne o7 s7.m (by decide))
      simp only [putAll] at o8
      have hg := HGS.out
      have s8q := blk_set_ne (p := ⟨gm, 11, none⟩) s7.q (by show gq ≠ gm; omega) (.slice A (65 + d) c)
      have s8a := blk_set_ne (p := ⟨gm, 11, none⟩) s7.a (by show ga ≠ gm; omega) (.slice A (65 + d) c)
      have s8n := blk_set_ne (p := ⟨gm, 11, none⟩) s7.n (by show gn ≠ gm; omega) (.slice A (65 + d) c)
      have s8r := blk_set_ne (p := ⟨gm, 11, none⟩) s7.r (by show gr ≠ gm; omega) (.slice A (65 + d) c)
      have B8 := B7.setCell (p := ⟨gm, 11, none⟩) (by show w.heap.size ≤ gm; omega) (.slice A (65 + d) c)
      have oc := Pad.own_cap ho
      have HO := Lib.hid o8
      clear o8 o7 ho ho' hb p0 p1 p2 p3 p4 km
      go_wp2_with fail
      go_meet
      case rel =>
        have o8 := HO.out
        refine ⟨⟨h0, some ⟨gq, 0, none⟩, 1, [q0], some ⟨ga, 0, none⟩, 1, [r0], A, c, List.replicate (65 + d) r0, some ⟨gr, 0, none⟩, 1, [r0]⟩, ?_, ⟨one_q s8q, one_r s8a, Pad.own_rcells o8, one_r s8r, Nat.le_refl _, Nat.le_refl _, (by show (List.replicate (65 + d) r0).length ≤ c; rw [List.length_replicate]; exact oc), Nat.le_refl _, (by intro x hx; rw [List.mem_singleton.1 hx]; show (4 : Nat) ≤ _; decide), (by intro x hx; rw [List.eq_of_mem_replicate hx]; show (4 : Nat) ≤ _; decide), (by intro x hx; rw [List.mem_singleton.1 hx]; show (4 : Nat) ≤ _; decide)⟩, ?_, B8⟩
        · simp only [MsgV.cells, List.length_replicate, List.length_cons, List.length_nil]
          exact b8
        · unfold putOk fitsB
          simp
          omega
    · have p0 : w3.cell? ⟨gp, 0, none⟩ = some (.string ⟨#[1, 97, 0]⟩) := (blk_cell s6.p 0).trans rfl
      have p1 : w3.cell? ⟨gp, 1, none⟩ = some (.int .i64 1) := (blk_cell s6.p 1).trans rfl
      have p2 : w3.cell? ⟨gp, 2, none⟩ = some (.int .i64 1) := (blk_cell s6.p 2).trans rfl
      have p3 : w3.cell? ⟨gp, 3, none⟩ = some (.int .i64 5) := (blk_cell s6.p 3).trans rfl
      have p4 : w3.cell? ⟨gp, 4, none⟩ = some (.string ⟨#[97, 98, 99, 100]⟩) := (blk_cell s6.p 4).trans rfl
      have km := manyc r0 (65 + d) (by omega) w3
      rw [show ((65 + d : Nat) : Int) = 64 + (1 + (d : Int)) by omega] at km
      go_wp2_with fail
      refine km.mono ?_
      rintro e w4 ⟨A, c, rfl, ho, hb⟩
      have s7 := s6.below hb
      have B7 := B.trans (hb.mono B.size)
      have ho' := own_lower ho B.size
      have z0 : w4.cell? ⟨gm, 12, none⟩ = some _ := (blk_cell s7.m 12).trans rfl
      have z1 := blk_frozen s7.m 12
      have o7 : w4.ownsRow w.heap.size 53 5 (.slice A (List.replicate (65 + d) r0).length c) (List.replicate (65 + d) r0).length (cellsR (List.replicate (65 + d) r0)) := by rw [List.length_replicate]; exact ho'
      have b8 := blk_put s7.m 12 (.slice A (65 + d) c) rfl
      have o8 := putAll_own 12 [.slice A (65 + d) c] o7 (Pad.own_ne o7 s7.m (by decide))
      simp only [putAll] at o8
      have hg := HGS.out
      have s8q := blk_set_ne (p := ⟨gm, 12, none⟩) s7.q (by show gq ≠ gm; omega) (.slice A (65 + d) c)
      have s8a := blk_set_ne (p := ⟨gm, 12, none⟩) s7.a (by show ga ≠ gm; omega) (.slice A (65 + d) c)
      have s8n := blk_set_ne (p := ⟨gm, 12, none⟩) s7.n (by show gn ≠ gm; omega) (.slice A (65 + d) c)
      have s8r := blk_set_ne (p := ⟨gm, 12, none⟩) s7.r (by show gr ≠ gm; omega) (.slice A (65 + d) c)
      have B8 := B7.setCell (p := ⟨gm, 12, none⟩) (by show w.heap.size ≤ gm; omega) (.slice A (65 + d) c)
      have oc := Pad.own_cap ho
      have HO := Lib.hid o8
      clear o8 o7 ho ho' hb p0 p1 p2 p3 p4 km
      go_wp2_with fail
      go_meet
      case rel =>
        have o8 := HO.out
        refine ⟨⟨h0, some ⟨gq, 0, none⟩, 1, [q0], some ⟨ga, 0, none⟩, 1, [r0], some ⟨gn, 0, none⟩, 1, [r0], A, c, List.replicate (65 + d) r0⟩, ?_, ⟨one_q s8q, one_r s8a, one_r s8n, Pad.own_rcells o8, Nat.le_refl _, Nat.le_refl _, Nat.le_refl _, (by show (List.replicate (65 + d) r0).length ≤ c; rw [List.length_replicate]; exact oc), (by intro x hx; rw [List.mem_singleton.1 hx]; show (4 : Nat) ≤ _; decide), (by intro x hx; rw [List.mem_singleton.1 hx]; show (4 : Nat) ≤ _; decide), (by intro x hx; rw [List.eq_of_mem_replicate hx]; show (4 : Nat) ≤ _; decide)⟩, ?_, B8⟩
        · simp only [MsgV.cells, List.length_replicate, List.length_cons, List.length_nil]
          exact b8
        · unfold putOk fitsB
          simp
          omega
  case rest =>
    obtain ⟨M, bm, hL, hok, B9⟩ := hcut
    obtain ⟨e1, e2⟩ := refused hok
    have kp := putc M wc hL
    rw [e1, e2] at kp
    have x0 : wc.cell? ⟨gm, 0, none⟩ = some (.int .i64 M.h.id) := (blk_cell bm 0).trans rfl
    have x1 : wc.cell? ⟨gm, 1, none⟩ = some (.bool M.h.qr) := (blk_cell bm 1).trans rfl
    have x2 : wc.cell? ⟨gm, 2, none⟩ = some (.int .i64 M.h.op) := (blk_cell bm 2).trans rfl
    have x3 : wc.cell? ⟨gm, 3, none⟩ = some (.bool M.h.aa) := (blk_cell bm 3).trans rfl
    have x4 : wc.cell? ⟨gm, 4, none⟩ = some (.bool M.h.tc) := (blk_cell bm 4).trans rfl
    have x5 : wc.cell? ⟨gm, 5, none⟩ = some (.bool M.h.rd) := (blk_cell bm 5).trans rfl
    have x6 : wc.cell? ⟨gm, 6, none⟩ = some (.bool M.h.ra) := (blk_cell bm 6).trans rfl
    have x7 : wc.cell? ⟨gm, 7, none⟩ = some (.int .i64 M.h.z) := (blk_cell bm 7).trans rfl
    have x8 : wc.cell? ⟨gm, 8, none⟩ = some (.int .i64 M.h.rc) := (blk_cell bm 8).trans rfl
    have x9 : wc.cell? ⟨gm, 9, none⟩ = some (.slice M.Aq M.qs.length M.cq) := (blk_cell bm 9).trans rfl
    have x10 : wc.cell? ⟨gm, 10, none⟩ = some (.slice M.Aa M.an.length M.ca) := (blk_cell bm 10).trans rfl
    have x11 : wc.cell? ⟨gm, 11, none⟩ = some (.slice M.An M.ns.length M.cn) := (blk_cell bm 11).trans rfl
    have x12 : wc.cell? ⟨gm, 12, none⟩ = some (.slice M.Ar M.ar.length M.cr) := (blk_cell bm 12).trans rfl
    have n0 := fun w => Hd.numc 0 w
    have n7 := fun w => Hd.numc 700 w
    clear e1 e2 hok hL bm s6 B
    go_wp2_with fail
    refine kp.mono ?_
    rintro e w5 ⟨rfl, hb⟩
    replace B9 := B9.trans (hb.mono B9.size)
    clear hb kp
    go_wp2_with fail
    refine (n0 _).mono ?_
    rintro e w6 ⟨rfl, rfl⟩
    go_wp2_with fail
    refine (n7 _).mono ?_
    rintro e w6 ⟨rfl, rfl⟩
    go_wp2_with fail
    go_ret
    exact ⟨rfl, B9⟩
end Go.Proofs.Ytjklgdpffmaamaa.WireForms

namespace Go.Proofs.Ytjklgdpffmaamaa.wireForms
open Go.ChangeShapes Go.WideShapes Go.ChangeAt Go.RowKit Go.Proofs.YtjklgdpffmaamaaW.PrintWords
open Go.ChangeMaps (open_string shut_string)
set_option linter.unusedVariables false
theorem own : ownKnob Try.prog.godebug = none := by kernel_rfl
theorem laidOut : laidOutB Try.prog = true := by kernel_rfl
set_option maxRecDepth 100000 in
theorem lifted (os : Os) (started : os.Started) (H : Type) (enc : TypeId × Value → H) :
    ReturnsInHanded {} Try.checked os 13 .any (Rows.wireFormsSpec.pre6 enc Try.prog Try.f13 Rows.wireFormsRow.domain false) (Rows.wireFormsSpec.post enc Try.prog Try.f13 false true false false) := by
  refine returnsInHanded_of_change_sized (C := Try.checked) own started (by kernel_rfl) Try.func13
    (ChangeSpec.witness6 (enc := enc) (C := Try.checked) false ⟨#[], #[.int .i64 0, .int .i64 0], []⟩ 8 (by kernel_rfl) (by kernel_rfl) (by kernel_rfl) (by kernel_rfl)) ?_
  intro W base args ds gs before hval0 hW hcnd hsz0 _
  have hsz : (DataW.weightsEach Try.prog (Try.f13.params.toList ++ Rows.wireFormsSpec.plain.varTypes Try.prog) (ds ++ gs)).all (· ≤ reachBytes) = true := hsz0
  have hval : ∀ (j : Nat) t v, Try.f13.params[j]? = some t → args[j]? = some v → Value.okWide Try.prog W .any base t v := hval0
  have hW' := hW
  obtain ⟨p, q, hA0, hV, rfl, hfz, hnd⟩ := hW
  have hA : DataW.TrodAll enc Try.prog W 0 (fun _ => true) true Try.f13.params.toList args.toList ds p := hA0
  rw [Try.params13] at hA hval hsz
  obtain ⟨v0, vs0, d0, ds0, p0, q0, hargs, rfl, rfl, h0, r0⟩ := trodAll_cons hA
  obtain ⟨v1, vs1, d1, ds1, p1, q1, rfl, rfl, rfl, h1, r1⟩ := trodAll_cons r0
  obtain ⟨rfl, rfl, rfl⟩ := trodAll_nil r1
  obtain rfl : args = #[v0, v1] := by cases args; simp_all
  obtain ⟨rfl, rfl⟩ := trodVars_none hV
  have k0 := h0
  have lt0 : ∀ x ∈ p0, x.block < W.heap.size := by obtain ⟨m, hm⟩ := k0; exact DataW.trod_lt m _ _ _ hm
  obtain ⟨a0, rfl, _, _, w0⟩ := open_int Try.underlying3 (hval 0 3 v0 rfl rfl) h0
  have k1 := h1
  have lt1 : ∀ x ∈ p1, x.block < W.heap.size := by obtain ⟨m, hm⟩ := k1; exact DataW.trod_lt m _ _ _ hm
  obtain ⟨a1, rfl, _, _, w1⟩ := open_int Try.underlying3 (hval 1 3 v1 rfl rfl) h1
  clear hA0 hval0 hsz0 hsz
  refine (WireForms.walk a0 a1 W w0 w1).mono fun e W' ⟨he, bel⟩ => ?_
  subst he
  exact ⟨_, rfl, _, _, _, [], _, [], hW', trodAll_mk1 (shut_bool Try.underlying4 _), (trodAll_cons_mk (Below.trod laidOut (by kernel_rfl) (of_decide_eq_true (by kernel_rfl)) k0 bel lt0) (trodAll_cons_mk (Below.trod laidOut (by kernel_rfl) (of_decide_eq_true (by kernel_rfl)) k1 bel lt1) trodAll_mk0)), rfl, bel.frame _, fun h => by cases h⟩
theorem over : Rows.wireFormsRow.holds Try.pinned (OpenSpec.ofChange Rows.wireFormsSpec) :=
  OpenClaim.holds_of_wide 13 Try.f13 rfl rfl rfl rfl rfl rfl rfl ⟨rfl, rfl, rfl, rfl, rfl⟩ rfl rfl rfl rfl rfl (by kernel_rfl) Try.func13 (by kernel_rfl)
    (of_decide_eq_true (by kernel_rfl)) (by unfold Func.isWrapper; first | (rw [if_pos (by decide +kernel)]; kernel_rfl) | (rw [if_neg (by decide +kernel)]; exact ⟨rfl, rfl⟩))
    (fun os started H enc _ => lifted os started H enc)
end Go.Proofs.Ytjklgdpffmaamaa.wireForms
namespace Go.Proofs.Ytjklgdpffmaamaa
theorem wireForms_holds : Rows.WireFormsSaid := wireForms.over
end Go.Proofs.Ytjklgdpffmaamaa
