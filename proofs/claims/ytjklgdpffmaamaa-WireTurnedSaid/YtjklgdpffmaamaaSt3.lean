/- '==' of headers and of four counts, each against itself; the error's number; contracts with what is returned written out. -/
import Derived.Laws.StructEq
import Derived.ChangeKeysEq
import Derived.Deep.CutBlock
import Derived.Test.YtjklgdpffmaamaaProg
import Derived.Below
import Derived.Deep.Draws
import Derived.Deep.AppendLies
import Derived.Maps.AppendAt
import Derived.OwnWalk
import Derived.Laws.BytesArg
import Derived.Laws.MakeOwn
import Derived.Laws.OwnMore
import Derived.Deep.OwnRows
import Derived.Tactics
import Derived.Lib.ConvBytes
import Derived.Laws.Slices
import Derived.WalkKit
import Derived.KernelRfl
import Derived.RowKit3
import Derived.Deep.LoopGhost
import Derived.Deep.QuietTactic
import Derived.BigQuiet
import Derived.WideLaws
import Derived.Deep.DeepCutAuto
import Derived.Deep.RegionHeld3
import Derived.Laws.Rows
import Derived.Lib.AppendStr
import Derived.ArgAppend
import Derived.Laws.IdiomCopy
import Derived.OrdersHeld
import Derived.Laws.BitsLemmas
import Derived.RowKit
import Derived.Lib.QuietBelow
import Derived.Deep.RegionWith
import Derived.Test.YtjklgdpffmaamaaSt1
import Derived.Test.YtjklgdpffmaamaaSt2
namespace Go.Proofs.Ytjklgdpffmaamaa.Hd
open Go.RowKit Go.PlainAid Go.Proofs.Ytjklgdpffmaamaa.Base Go.Proofs.Ytjklgdpffmaamaa.Oct
set_option linter.unusedVariables false

theorem eqf_cons {P : Program} {d : Nat} {xs ys : Array Value} {f : Field} {fs : List Field} {a b : Value} {r s : Bool} {w : World} (hn : (f.name == "_") = false) (ha : (part f.type xs f.offset).run P w = .ok a w) (hb : (part f.type ys f.offset).run P w = .ok b w) (he : (Op.equalIn d f.type a b).run P w = .ok r w) (hr : (Op.eqFields d xs ys fs).run P w = .ok s w) : (Op.eqFields d xs ys (f :: fs)).run P w = .ok (r && s) w := by
  have hn' : f.name ≠ "_" := by simpa using hn
  rw [Op.eqFields]
  simp only [if_pos hn', Sem.run_bind, ha, hb, he, Result.andThen_ok]
  cases r
  · simp
  · simpa using hr
theorem eqA_of {P : Program} {d : Nat} {xs ys : Array Value} {r : Bool} {w : World} {t : TypeId} {fs : Array Field} (hu : P.underlying t = some (.struct fs)) (hp : P.stoodInHeld t = false) (h : (Op.eqFields d xs ys fs.toList).run P w = .ok r w) : (Op.equalIn (d + 1) t (.agg xs) (.agg ys)).run P w = .ok r w := by
  have hf : P.fieldsOf t = fs := by simp [Program.fieldsOf, hu]
  rw [run_equalIn_struct (P := P) w d t xs ys (by rw [hf]; exact hu) hp, hf]
  exact h

set_option maxHeartbeats 400000 in
theorem numc (x : Int) (w : World) : Calls Try.prog 21 #[.int .i64 x] w fun e w' => e = .returned (.int .i64 x) ∧ w = w' := by
  go_enter Try.func21, Try.ntmps21
  go_wp2
  go_ret
  exact ⟨rfl, rfl⟩

/-! ### Get and GetHead, what is returned written out: for every string -/
def gotH (s : ByteArray) : Head := if 12 ≤ s.size then getH s else head0
def gotC (s : ByteArray) (k : Nat) : Int := if 12 ≤ s.size then be2 s k else 0
def gotE (s : ByteArray) : Int := if 12 ≤ s.size then 0 else 600
theorem gotH_yes {s : ByteArray} (h : 12 ≤ s.size) : gotH s = getH s := if_pos h
theorem gotC_yes {s : ByteArray} (h : 12 ≤ s.size) (k : Nat) : gotC s k = be2 s k := if_pos h
theorem gotE_yes {s : ByteArray} (h : 12 ≤ s.size) : gotE s = 0 := if_pos h
theorem gotE_no {s : ByteArray} (h : ¬ 12 ≤ s.size) : gotE s = 600 := if_neg h
theorem got (s : ByteArray) (w : World) (hs : s.size ≤ 9223372036854775000) :
    Calls Try.prog 64 #[.string s] w fun e w' => e = .returned (.tuple #[.agg #[.int .i64 (gotH s).id, .bool (gotH s).qr, .int .i64 (gotH s).op, .bool (gotH s).aa, .bool (gotH s).tc, .bool (gotH s).rd, .bool (gotH s).ra, .int .i64 (gotH s).z, .int .i64 (gotH s).rc], .agg #[.int .i64 (gotC s 4), .int .i64 (gotC s 6), .int .i64 (gotC s 8), .int .i64 (gotC s 10)], .int .i64 (gotE s)]) ∧ Below w.heap.size w w' := by
  by_cases h : 12 ≤ s.size
  · have := get_yes s w hs h
    simp only [gotH, gotC, gotE, if_pos h]; exact this
  · have := get_no s w (by omega)
    simp only [gotH, gotC, gotE, if_neg h]; exact this
theorem rgot (s : ByteArray) (w : World) (hs : s.size ≤ 9223372036854775000) :
    Calls Try.prog 48 #[.string s] w fun e w' => e = .returned (.tuple #[.agg #[.int .i64 (gotH s).id, .bool (gotH s).qr, .int .i64 (gotH s).op, .bool (gotH s).aa, .bool (gotH s).tc, .bool (gotH s).rd, .bool (gotH s).ra, .int .i64 (gotH s).z, .int .i64 (gotH s).rc], .agg #[.int .i64 (gotC s 4), .int .i64 (gotC s 6), .int .i64 (gotC s 8), .int .i64 (gotC s 10)], .int .i64 (gotE s)]) ∧ Below w.heap.size w w' := by
  by_cases h : 12 ≤ s.size
  · have := rget_yes s w hs h
    simp only [gotH, gotC, gotE, if_pos h]; exact this
  · have := rget_no s w (by omega)
    simp only [gotH, gotC, gotE, if_neg h]; exact this
/-! ### Put and PutHead: for every header -/
def wroteS (h : Head) (a b c d : Int) : ByteArray := if mayB h a b c d then h.putS a b c d else ⟨#[]⟩
def wroteE (h : Head) (a b c d : Int) : Int := if mayB h a b c d then 0 else 600
theorem wrote (h : Head) (a b c d : Int) (w : World) :
    Calls Try.prog 56 #[.agg #[.int .i64 h.id, .bool h.qr, .int .i64 h.op, .bool h.aa, .bool h.tc, .bool h.rd, .bool h.ra, .int .i64 h.z, .int .i64 h.rc], .agg #[.int .i64 a, .int .i64 b, .int .i64 c, .int .i64 d]] w fun e w' => e = .returned (.tuple #[.string (wroteS h a b c d), .int .i64 (wroteE h a b c d)]) ∧ Below w.heap.size w w' := by
  cases hm : mayB h a b c d
  · have := put_no h a b c d w hm
    simp only [wroteS, wroteE, hm]; exact this
  · have := put_yes h a b c d w hm
    simp only [wroteS, wroteE, hm]; exact this
theorem rwrote (h : Head) (a b c d : Int) (w : World) :
    Calls Try.prog 38 #[.agg #[.int .i64 h.id, .bool h.qr, .int .i64 h.op, .bool h.aa, .bool h.tc, .bool h.rd, .bool h.ra, .int .i64 h.z, .int .i64 h.rc], .agg #[.int .i64 a, .int .i64 b, .int .i64 c, .int .i64 d]] w fun e w' => e = .returned (.tuple #[.string (wroteS h a b c d), .int .i64 (wroteE h a b c d)]) ∧ Below w.heap.size w w' := by
  cases hm : mayB h a b c d
  · have := rput_no h a b c d w hm
    simp only [wroteS, wroteE, hm]; exact this
  · have := rput_yes h a b c d w hm
    simp only [wroteS, wroteE, hm]; exact this
end Go.Proofs.Ytjklgdpffmaamaa.Hd

namespace Go.Proofs.Ytjklgdpffmaamaa.Wm
open Go.RowKit Go.PlainAid Go.Maps Go.Proofs.Ytjklgdpffmaamaa.Base Go.Proofs.Ytjklgdpffmaamaa.Oct Go.Proofs.Ytjklgdpffmaamaa.Nm Go.Proofs.Ytjklgdpffmaamaa.Wr
open Go.Sort (grow)
set_option linter.unusedVariables false
structure Qn where
  name : ByteArray
  type : Int
  cls : Int
structure Rr where
  name : ByteArray
  type : Int
  cls : Int
  ttl : Int
  data : ByteArray
def zQ : Qn := ⟨⟨#[]⟩, 0, 0⟩
def zR : Rr := ⟨⟨#[]⟩, 0, 0, 0, ⟨#[]⟩⟩
structure AtQ (w : World) (p : Addr) (q : Qn) : Prop where
  c0 : w.cell? p = some (.string q.name)
  c1 : w.cell? ⟨p.block, p.off + 1, none⟩ = some (.int .i64 q.type)
  c2 : w.cell? ⟨p.block, p.off + 2, none⟩ = some (.int .i64 q.cls)
structure AtR (w : World) (p : Addr) (r : Rr) : Prop where
  c0 : w.cell? p = some (.string r.name)
  c1 : w.cell? ⟨p.block, p.off + 1, none⟩ = some (.int .i64 r.type)
  c2 : w.cell? ⟨p.block, p.off + 2, none⟩ = some (.int .i64 r.cls)
  c3 : w.cell? ⟨p.block, p.off + 3, none⟩ = some (.int .i64 r.ttl)
  c4 : w.cell? ⟨p.block, p.off + 4, none⟩ = some (.string r.data)
def QCells (w : World) (A : Option Addr) (qs : List Qn) : Prop := qs.length = 0 ∨ ∃ ad, A = some ad ∧ ∀ j, j < qs.length → AtQ w (ad.add (j * 3)) (qs.getD j zQ)
def RCells (w : World) (A : Option Addr) (rs : List Rr) : Prop := rs.length = 0 ∨ ∃ ad, A = some ad ∧ ∀ j, j < rs.length → AtR w (ad.add (j * 5)) (rs.getD j zR)
theorem AtQ.below {w w' : World} {p : Addr} {q : Qn} (h : AtQ w p q) (hb : Below w.heap.size w w') : AtQ w' p q := ⟨bcell hb h.c0, bcell hb h.c1, bcell hb h.c2⟩
theorem AtR.below {w w' : World} {p : Addr} {r : Rr} (h : AtR w p r) (hb : Below w.heap.size w w') : AtR w' p r := ⟨bcell hb h.c0, bcell hb h.c1, bcell hb h.c2, bcell hb h.c3, bcell hb h.c4⟩
theorem QCells.below {w w' : World} {A : Option Addr} {qs : List Qn} (h : QCells w A qs) (hb : Below w.heap.size w w') : QCells w' A qs := by
  rcases h with h | ⟨ad, e, h⟩
  · exact .inl h
  · exact .inr ⟨ad, e, fun j hj => (h j hj).below hb⟩
theorem RCells.below {w w' : World} {A : Option Addr} {rs : List Rr} (h : RCells w A rs) (hb : Below w.heap.size w w') : RCells w' A rs := by
  rcases h with h | ⟨ad, e, h⟩
  · exact .inl h
  · exact .inr ⟨ad, e, fun j hj => (h j hj).below hb⟩
def inB (x lo hi : Int) : Bool := decide (lo ≤ x) && decide (x ≤ hi)
def qMay (q : Qn) : Bool := nameB q.name && inB q.type 1 65535 && inB q.cls 0 65535
def rMay (r : Rr) : Bool := nameB r.name && inB r.type 1 65535 && inB r.cls 0 65535 && inB r.ttl 0 4294967295 && Rd.mayD r.type r.data
def fitsB (qs : List Qn) (an ns ar : List Rr) : Bool := decide (qs.length ≤ 64) && qs.all qMay && (decide (an.length ≤ 64) && an.all rMay) && (decide (ns.length ≤ 64) && ns.all rMay) && (decide (ar.length ≤ 64) && ar.all rMay)
theorem same_below {P : Program} {f : FuncId} {args : Array Value} {w : World} {v : Value} (h : Calls P f args w fun e w' => e = .returned v ∧ w' = w) : Calls P f args w fun e w' => e = .returned v ∧ Below w.heap.size w w' :=
  h.mono (fun e w' k => ⟨k.1, by rw [k.2]; exact Below.refl _ _⟩)
theorem inc (x lo hi : Int) (w : World) : Calls Try.prog 88 #[.int .i64 x, .int .i64 lo, .int .i64 hi] w fun e w' => e = .returned (.bool (inB x lo hi)) ∧ w' = w := by
  unfold inB
  by_cases h1 : lo ≤ x
  · have q1 : decide (lo ≤ x) = true := decide_eq_true h1
    by_cases h2 : x ≤ hi
    · have q2 : decide (x ≤ hi) = true := decide_eq_true h2
      rw [q1, q2]
      go_enter Try.func88, Try.ntmps88
      go_wp2
      go_ret
      exact ⟨rfl, rfl⟩
    · have q2 : decide (x ≤ hi) = false := decide_eq_false h2
      rw [q1, q2]
      go_enter Try.func88, Try.ntmps88
      go_wp2
      go_ret
      exact ⟨rfl, rfl⟩
  · have q1 : decide (lo ≤ x) = false := decide_eq_false h1
    rw [q1]
    go_enter Try.func88, Try.ntmps88
    go_wp2
    go_ret
    exact ⟨rfl, rfl⟩
/-- The first of five that is false, if any. -/
theorem five (b0 b1 b2 b3 b4 : Bool) : b0 = false ∨ (b0 = true ∧ b1 = false) ∨ (b0 = true ∧ b1 = true ∧ b2 = false) ∨ (b0 = true ∧ b1 = true ∧ b2 = true ∧ b3 = false) ∨ (b0 = true ∧ b1 = true ∧ b2 = true ∧ b3 = true ∧ b4 = false) ∨ (b0 = true ∧ b1 = true ∧ b2 = true ∧ b3 = true ∧ b4 = true) := by
  cases b0 <;> cases b1 <;> cases b2 <;> cases b3 <;> cases b4 <;> simp
set_option maxHeartbeats 4000000 in
theorem mayc (r : Rr) (p : Addr) (w : World) (h : AtR w p r) (hs : r.data.size ≤ 9223372036854775000) : Calls Try.prog 89 #[.pointer (some p)] w fun e w' => e = .returned (.bool (rMay r)) ∧ Below w.heap.size w w' := by
  have k0 := fun w => may r.name w
  have k1 := fun w => same_below (inc r.type 1 65535 w)
  have k2 := fun w => same_below (inc r.cls 0 65535 w)
  have k3 := fun w => same_below (inc r.ttl 0 4294967295 w)
  have k4 := fun w => Rd.dmay r.type r.data w hs
  have r0 := cell_regrown h.c0
  have r1 := cell_regrown h.c1
  have r2 := cell_regrown h.c2
  have r3 := cell_regrown h.c3
  have r4 := cell_regrown h.c4
  unfold rMay
  generalize nameB r.name = b0 at *
  generalize inB r.type 1 65535 = b1 at *
  generalize inB r.cls 0 65535 = b2 at *
  generalize inB r.ttl 0 4294967295 = b3 at *
  generalize Rd.mayD r.type r.data = b4 at *
  rcases five b0 b1 b2 b3 b4 with rfl | ⟨rfl, rfl⟩ | ⟨rfl, rfl, rfl⟩ | ⟨rfl, rfl, rfl, rfl⟩ | ⟨rfl, rfl, rfl, rfl, rfl⟩ | ⟨rfl, rfl, rfl, rfl, rfl⟩
  all_goals
    go_enter Try.func89, Try.ntmps89
    go_upto_region 1 with (fail)
    refine wp_region_quiet_below (by kernel_rfl) (by kernel_rfl) ?_
    repeat (go_big_quiet_step (first | with_reducible exact Calls.regrown_of (k0 _) | with_reducible exact Calls.regrown_of (k1 _) | with_reducible exact Calls.regrown_of (k2 _) | with_reducible exact Calls.regrown_of (k3 _) | with_reducible exact Calls.regrown_of (k4 _)))
    refine wpQuiet_nil ?_
    intro _ hw'
    obtain ⟨⟨dq, osq⟩, hw''⟩ := hw'
    subst hw''
    go_wp2
    go_ret
    exact ⟨rfl, below_regrown _ _ _⟩
end Go.Proofs.Ytjklgdpffmaamaa.Wm

namespace Go.Proofs.Ytjklgdpffmaamaa.Wm
open Go.RowKit Go.PlainAid Go.Maps Go.Proofs.Ytjklgdpffmaamaa.Base Go.Proofs.Ytjklgdpffmaamaa.Oct Go.Proofs.Ytjklgdpffmaamaa.Nm Go.Proofs.Ytjklgdpffmaamaa.Wr
open Go.Proofs.YtjklgdpffmaamaaW.PrintWords (blk_cell blk_below)
set_option linter.unusedVariables false
/-- A message: its header, its rows, where they lie. -/
structure MsgV where
  h : Hd.Head
  Aq : Option Addr
  cq : Nat
  qs : List Qn
  Aa : Option Addr
  ca : Nat
  an : List Rr
  An : Option Addr
  cn : Nat
  ns : List Rr
  Ar : Option Addr
  cr : Nat
  ar : List Rr
abbrev MsgV.vq (m : MsgV) : Value := .slice m.Aq m.qs.length m.cq
abbrev MsgV.va (m : MsgV) : Value := .slice m.Aa m.an.length m.ca
abbrev MsgV.vn (m : MsgV) : Value := .slice m.An m.ns.length m.cn
abbrev MsgV.vr (m : MsgV) : Value := .slice m.Ar m.ar.length m.cr
abbrev MsgV.cells (m : MsgV) : Array Value := #[.int .i64 m.h.id, .bool m.h.qr, .int .i64 m.h.op, .bool m.h.aa, .bool m.h.tc, .bool m.h.rd, .bool m.h.ra, .int .i64 m.h.z, .int .i64 m.h.rc, .slice m.Aq m.qs.length m.cq, .slice m.Aa m.an.length m.ca, .slice m.An m.ns.length m.cn, .slice m.Ar m.ar.length m.cr]
def small (rs : List Rr) : Prop := ∀ r ∈ rs, r.data.size ≤ 9223372036854775000
structure MsgV.Lies (m : MsgV) (w : World) : Prop where
  q : QCells w m.Aq m.qs
  a : RCells w m.Aa m.an
  n : RCells w m.An m.ns
  r : RCells w m.Ar m.ar
  lq : m.qs.length ≤ m.cq
  la : m.an.length ≤ m.ca
  ln : m.ns.length ≤ m.cn
  lr : m.ar.length ≤ m.cr
  sa : small m.an
  sn : small m.ns
  sr : small m.ar
theorem MsgV.Lies.below {m : MsgV} {w w' : World} (h : m.Lies w) (hb : Below w.heap.size w w') : m.Lies w' :=
  ⟨h.q.below hb, h.a.below hb, h.n.below hb, h.r.below hb, h.lq, h.la, h.ln, h.lr, h.sa, h.sn, h.sr⟩
theorem three (b0 b1 b2 : Bool) : b0 = false ∨ (b0 = true ∧ b1 = false) ∨ (b0 = true ∧ b1 = true ∧ b2 = false) ∨ (b0 = true ∧ b1 = true ∧ b2 = true) := by
  cases b0 <;> cases b1 <;> cases b2 <;> simp
theorem idx3 (a b c : Value) (w : World) : (Instr.index 114 (.agg #[a, b, c]) (.int .i64 0)).run Try.prog w = .ok a w ∧ (Instr.index 114 (.agg #[a, b, c]) (.int .i64 1)).run Try.prog w = .ok b w ∧ (Instr.index 114 (.agg #[a, b, c]) (.int .i64 2)).run Try.prog w = .ok c w := ⟨by kernel_rfl, by kernel_rfl, by kernel_rfl⟩
theorem get_rows {m : MsgV} {w : World} (h : m.Lies w) (p : Nat) (hp : p < 3) : ∃ (A : Option Addr) (l : List Rr) (c : Nat), (∀ w', (Instr.index 114 (.agg #[.slice m.Aa m.an.length m.ca, .slice m.An m.ns.length m.cn, .slice m.Ar m.ar.length m.cr]) (.int .i64 (p : Int))).run Try.prog w' = .ok (.slice A l.length c) w') ∧ RCells w A l ∧ l.length ≤ c ∧ small l ∧ l = [m.an, m.ns, m.ar].getD p [] := by
  obtain rfl | rfl | rfl : p = 0 ∨ p = 1 ∨ p = 2 := by omega
  · exact ⟨m.Aa, m.an, m.ca, fun w' => (idx3 _ _ _ w').1, h.a, h.la, h.sa, rfl⟩
  · exact ⟨m.An, m.ns, m.cn, fun w' => (idx3 _ _ _ w').2.1, h.n, h.ln, h.sn, rfl⟩
  · exact ⟨m.Ar, m.ar, m.cr, fun w' => (idx3 _ _ _ w').2.2, h.r, h.lr, h.sr, rfl⟩
def listOk (rs : List Rr) : Bool := decide (rs.length ≤ 64) && rs.all rMay
theorem fits_eq (m : MsgV) : fitsB m.qs m.an m.ns m.ar = (decide (m.qs.length ≤ 64) && m.qs.all qMay && [m.an, m.ns, m.ar].all listOk) := by
  simp [fitsB, listOk, Bool.and_assoc]
set_option maxHeartbeats 8000000 in
set_option maxRecDepth 100000 in
theorem fitsc (m : MsgV) (b : Nat) (w : World) (hb : w.heap[b]? = some (.cells m.cells 27 (0, 0))) (hm : m.Lies w) :
    Calls Try.prog 57 #[ptr b] w fun e w' => e = .returned (.bool (fitsB m.qs m.an m.ns m.ar)) ∧ Below w.heap.size w w' := by
  rw [fits_eq]
  have hrows := fun p hp => get_rows hm p hp
  have hmq := hm.q
  have hlq := hm.lq
  clear hm
  rcases m with ⟨h, Aq, cq, qs, Aa, ca, an, An, cn, ns, Ar, cr, ar⟩
  dsimp only [MsgV.cells] at hb hrows hmq hlq ⊢
  have c9 : w.cell? ⟨b, 9, none⟩ = some (.slice Aq qs.length cq) := (blk_cell hb 9).trans rfl
  have c10 : w.cell? ⟨b, 10, none⟩ = some (.slice Aa an.length ca) := (blk_cell hb 10).trans rfl
  have c11 : w.cell? ⟨b, 11, none⟩ = some (.slice An ns.length cn) := (blk_cell hb 11).trans rfl
  have c12 : w.cell? ⟨b, 12, none⟩ = some (.slice Ar ar.length cr) := (blk_cell hb 12).trans rfl
  go_enter Try.func57, Try.ntmps57
  by_cases hq : 64 < qs.length
  · have q : decide ((64 : Int) < (qs.length : Int)) = true := by simp; omega
    have e : decide (qs.length ≤ 64) = false := decide_eq_false (by omega)
    rw [e]
    clear hq
    go_wp2
    go_ret
    exact ⟨rfl, Below.refl _ _⟩
  have q : decide ((64 : Int) < (qs.length : Int)) = false := by simp; omega
  have e : decide (qs.length ≤ 64) = true := decide_eq_true (by omega)
  rw [e]
  clear e
  go_wp2_with fail
  go_loopg [19] (qs.length + 1) (fun k v19 wr => ∃ j : Nat, v19 = .int .i64 j ∧ j + k = qs.length + 1 ∧ j ≤ qs.length ∧ (qs.take j).all qMay = true ∧ Below w.heap.size w wr)
  case atStart => exact ⟨0, rfl, by omega, by omega, rfl, Below.refl _ _⟩
  case round =>
    obtain ⟨j, rfl, hk1, hk2, hall, B⟩ := hrel
    have HALL := Lib.hid hall
    clear hall
    have sB := B.size
    by_cases hj : j < qs.length
    · have q0 : decide ((j : Int) < (qs.length : Int)) = true := by simp; omega
      obtain ⟨ad, eA, hat⟩ : ∃ ad, Aq = some ad ∧ ∀ j, j < qs.length → AtQ w (ad.add (j * 3)) (qs.getD j zQ) := by
        rcases hmq with h | h
        · omega
        · exact h
      subst eA
      have ha := (hat j hj).below B
      have htk : (qs.take (j + 1)).all qMay = ((qs.take j).all qMay && qMay (qs.getD j zQ)) := by
        rw [List.take_succ_eq_append_getElem hj, List.all_append, List.getD_eq_getElem?_getD, List.getElem?_eq_getElem hj]; simp
      have hany : qMay (qs.getD j zQ) = false → qs.all qMay = false := fun h => by
        rw [List.all_eq_false]
        refine ⟨qs.getD j zQ, ?_, by rw [h]; simp⟩
        rw [List.getD_eq_getElem?_getD, List.getElem?_eq_getElem hj]; exact List.getElem_mem hj
      generalize qs.getD j zQ = x at *
      obtain ⟨d0, d1, d2⟩ := ha
      have k0 := fun w => may x.name w
      have k1 := fun w => inc x.type 1 65535 w
      have k2 := fun w => inc x.cls 0 65535 w
      have hqx : qMay x = (nameB x.name && inB x.type 1 65535 && inB x.cls 0 65535) := rfl
      have HQX0 := Lib.hid hqx
      clear hqx
      have hqx := HQX0.out
      clear HQX0
      generalize nameB x.name = b0 at *
      generalize inB x.type 1 65535 = b1 at *
      generalize inB x.cls 0 65535 = b2 at *
      have HQX := Lib.hid hqx
      clear hqx
      have HTK := Lib.hid htk
      have HANY := Lib.hid hany
      clear htk hany
      go_wp2_with fail
      refine (k0 _).mono ?_
      rintro e w1 ⟨rfl, B1⟩
      have e1 : w1.cell? ⟨wr.heap.size, 1, none⟩ = some (.int .i64 x.type) := bcell B1 (by go_simp)
      have e2 : w1.cell? ⟨wr.heap.size, 2, none⟩ = some (.int .i64 x.cls) := bcell B1 (by go_simp)
      have B2 := (B.alloc sB (.cells #[.string x.name, .int .i64 x.type, .int .i64 x.cls] 40)).trans (B1.mono (by simp; omega))
      rcases three b0 b1 b2 with rfl | ⟨rfl, rfl⟩ | ⟨rfl, rfl, rfl⟩ | ⟨rfl, rfl, rfl⟩
      · go_wp2
        go_ret
        have E := HANY.out (by rw [HQX.out]; rfl)
        exact ⟨by rw [E]; rfl, B2⟩
      · go_wp2_with (first | (go_at_call 88; with_reducible refine (k1 _).mono ?_; rintro e w' ⟨rfl, rfl⟩) | (go_at_call 88; with_reducible refine (k2 _).mono ?_; rintro e w' ⟨rfl, rfl⟩))
        go_ret
        have E := HANY.out (by rw [HQX.out]; rfl)
        exact ⟨by rw [E]; rfl, B2⟩
      · go_wp2_with (first | (go_at_call 88; with_reducible refine (k1 _).mono ?_; rintro e w' ⟨rfl, rfl⟩) | (go_at_call 88; with_reducible refine (k2 _).mono ?_; rintro e w' ⟨rfl, rfl⟩))
        go_ret
        have E := HANY.out (by rw [HQX.out]; rfl)
        exact ⟨by rw [E]; rfl, B2⟩
      · go_wp2_with (first | (go_at_call 88; with_reducible refine (k1 _).mono ?_; rintro e w' ⟨rfl, rfl⟩) | (go_at_call 88; with_reducible refine (k2 _).mono ?_; rintro e w' ⟨rfl, rfl⟩))
        go_roundg (gk - 1)
        case measure => omega
        case rel => exact ⟨j + 1, rfl, by omega, by omega, by rw [HTK.out, HALL.out, HQX.out]; rfl, B2⟩
    · have q0 : decide ((j : Int) < (qs.length : Int)) = false := by simp; omega
      have hqall : qs.all qMay = true := by have := HALL.out; rwa [List.take_of_length_le (by omega)] at this
      have HQ := Lib.hid hqall
      clear hqall
      have d9 := bcell B c9
      have d10 := bcell B c10
      have d11 := bcell B c11
      have d12 := bcell B c12
      clear HALL
      go_upto_region 9 with (fail)
      go_cut [52, 53] (fun v52 v53 wc => v52 = .agg #[.slice Aa an.length ca, .slice An ns.length cn, .slice Ar ar.length cr] ∧ v53 = .int .i64 0 ∧ Below w.heap.size w wc)
      case first =>
        go_region
        all_goals
          go_wp2
          go_meet
          case rel => exact ⟨rfl, rfl, B.drew⟩
      case rest =>
      obtain ⟨rfl, rfl, Bc⟩ := hcut
      clear d9 d10 d11 d12 B sB c9 c10 c11 c12 hmq
      go_wp2_with fail
      go_loopg [53] 4 (fun k v53 wr => ∃ p : Nat, v53 = .int .i64 p ∧ p + k = 4 ∧ p ≤ 3 ∧ ([an, ns, ar].take p).all listOk = true ∧ Below w.heap.size w wr)
      case atStart => exact ⟨0, rfl, rfl, by omega, rfl, Bc⟩
      case round =>
        obtain ⟨p, rfl, hp1, hp2, hall, B⟩ := hrel
        have HALL := Lib.hid hall
        clear hall
        have sB := B.size
        by_cases hp : p < 3
        · have q0 : decide ((p : Int) < 3) = true := by simp; omega
          obtain ⟨A, l, c, hix, hcl, hlc, hsm, hl⟩ := hrows p hp
          have htk : ([an, ns, ar].take (p + 1)).all listOk = (([an, ns, ar].take p).all listOk && listOk l) := by
            obtain rfl | rfl | rfl : p = 0 ∨ p = 1 ∨ p = 2 := by omega
            all_goals simp [hl, Bool.and_assoc]
          have hany : listOk l = false → [an, ns, ar].all listOk = false := fun h => by
            rw [List.all_eq_false]
            refine ⟨l, ?_, by rw [h]; simp⟩
            obtain rfl | rfl | rfl : p = 0 ∨ p = 1 ∨ p = 2 := by omega
            all_goals simp [hl]
          have HTK := Lib.hid htk
          have HANY := Lib.hid hany
          clear htk hany hl
          by_cases hq : 64 < l.length
          · have q : decide ((64 : Int) < (l.length : Int)) = true := by simp; omega
            have e : listOk l = false := by unfold listOk; rw [decide_eq_false (by omega)]; rfl
            have E := HANY.out e
            clear hq
            go_wp2
            go_ret
            exact ⟨by rw [HQ.out, E]; rfl, B⟩
          have q : decide ((64 : Int) < (l.length : Int)) = false := by simp; omega
          have e : listOk l = l.all rMay := by unfold listOk; rw [decide_eq_true (by omega)]; rfl
          have HE := Lib.hid e
          clear e
          go_wp2_with fail
          go_loopg [61] (l.length + 1) (fun k v61 wq => ∃ j : Nat, v61 = .int .i64 j ∧ j + k = l.length + 1 ∧ j ≤ l.length ∧ (l.take j).all rMay = true ∧ Below w.heap.size w wq)
          case atStart => exact ⟨0, rfl, by omega, by omega, rfl, B⟩
          case round =>
            obtain ⟨j, rfl, hj1, hj2, hall, Bq⟩ := hrel
            have HALLQ := Lib.hid hall
            clear hall
            by_cases hj : j < l.length
            · have q2 : decide ((j : Int) < (l.length : Int)) = true := by simp; omega
              obtain ⟨ad, eA, hat⟩ : ∃ ad, A = some ad ∧ ∀ j, j < l.length → AtR w (ad.add (j * 5)) (l.getD j zR) := by
                rcases hcl with h | h
                · omega
                · exact h
              subst eA
              have ha := (hat j hj).below Bq
              have hmem : l.getD j zR ∈ l := by rw [List.getD_eq_getElem?_getD, List.getElem?_eq_getElem hj]; exact List.getElem_mem hj
              have htk : (l.take (j + 1)).all rMay = ((l.take j).all rMay && rMay (l.getD j zR)) := by
                rw [List.take_succ_eq_append_getElem hj, List.all_append, List.getD_eq_getElem?_getD, List.getElem?_eq_getElem hj]; simp
              have hany2 : rMay (l.getD j zR) = false → l.all rMay = false := fun h => by
                rw [List.all_eq_false]; exact ⟨_, hmem, by rw [h]; simp⟩
              have km := mayc (l.getD j zR) (ad.add (j * 5)) wr ha (hsm _ hmem)
              generalize rMay (l.getD j zR) = bb at *
              have HTK2 := Lib.hid htk
              have HANY2 := Lib.hid hany2
              clear htk hany2 hmem ha
              go_wp2_with fail
              refine km.mono ?_
              rintro e w1 ⟨rfl, B1⟩
              have B2 := Bq.trans (B1.mono Bq.size)
              cases bb with
              | false =>
                have E := HANY.out (HE.out.trans (HANY2.out rfl))
                go_wp2
                go_ret
                exact ⟨by rw [HQ.out, E]; rfl, B2⟩
              | true =>
                go_wp2
                go_roundg (l.length - j)
                case measure => omega
                case rel => exact ⟨j + 1, rfl, by omega, by omega, by rw [HTK2.out, HALLQ.out]; rfl, B2⟩
            · have q2 : decide ((j : Int) < (l.length : Int)) = false := by simp; omega
              have hok : listOk l = true := by rw [HE.out]; have := HALLQ.out; rwa [List.take_of_length_le (by omega)] at this
              have E : ([an, ns, ar].take (p + 1)).all listOk = true := by rw [HTK.out, HALL.out, hok]; rfl
              have HEE := Lib.hid E
              clear E hok
              go_wp2
              go_roundg (3 - p)
              case measure => omega
              case rel => exact ⟨p + 1, rfl, by omega, by omega, HEE.out, Bq⟩
        · have q0 : decide ((p : Int) < 3) = false := by simp; omega
          obtain rfl : p = 3 := by omega
          go_wp2
          go_ret
          exact ⟨by have := HALL.out; rw [show [an, ns, ar].take 3 = [an, ns, ar] from rfl] at this; rw [HQ.out, this]; rfl, B⟩
end Go.Proofs.Ytjklgdpffmaamaa.Wm

namespace Go.Proofs.Ytjklgdpffmaamaa.PCm
open Go.RowKit Go.Proofs.YtjklgdpffmaamaaW.PrintWords Go.Proofs.YtjklgdpffmaamaaW.PrintLast Go.Proofs.YtjklgdpffmaamaaW.PrintMore
attribute [local go_sem] max2_int min2_int max_two min_two max_three min_three max_four min_four   -- for this text's walks alone
set_option linter.unusedVariables false
set_option linter.unusedSimpArgs false

def errW : Option Int → Value
  | none => .nilIface
  | some c => .iface 0 (.int .i64 c)
theorem errW_none : errW none = .nilIface := rfl
theorem errW_some (c : Int) : errW (some c) = .iface 0 (.int .i64 c) := rfl

theorem info5 : (Try.prog.info? 5).map (fun i => (i.zero, i.size, i.bytes)) = some (some (.int .u8 0), 1, 1) := by kernel_rfl
-- the values' own types

end Go.Proofs.Ytjklgdpffmaamaa.PCm

namespace Go.Proofs.Ytjklgdpffmaamaa.PCm
open Go.RowKit Go.Proofs.YtjklgdpffmaamaaW.PrintWords Go.Proofs.YtjklgdpffmaamaaW.PrintLast Go.Proofs.YtjklgdpffmaamaaW.PrintMore
attribute [local go_sem] max2_int min2_int max_two min_two max_three min_three max_four min_four   -- for this text's walks alone
set_option linter.unusedVariables false
set_option linter.unusedSimpArgs false

/-! ### comp_Name: function 94 -/
mutual
def comp_Name.l0 : Nat → ByteArray → Int → List Int → Int → Int → Option (ByteArray × Int × Int)
  | 0, _, _, _, _, _ => none
  | k + 1, x0, x1, x7, x8, x9 => if x1 < (x0.size : Int) then (comp_Name.j1 k x0 x1 x7 x8 x9 (decide ((x7.length : Int) < 255))) else (comp_Name.j1 k x0 x1 x7 x8 x9 false)
def comp_Name.j1 : Nat → ByteArray → Int → List Int → Int → Int → Bool → Option (ByteArray × Int × Int)
  | 0, _, _, _, _, _, _ => none
  | k + 1, x0, x1, x7, x8, x9, x23 => if x23 = true then (if 0 ≤ x1 then (if x1 < (x0.size : Int) then (if (wrap64 (bt x0 x1)) = 0 then (if x9 < 0 then (if x7.length < 140737488355328 then (some (strOfNums (x7 ++ [0]), wrap64 (x1 + 1), 0)) else (none)) else (if x7.length < 140737488355328 then (some (strOfNums (x7 ++ [0]), x9, 0)) else (none))) else (if (wrap64 (bt x0 x1)) ≤ 63 then (comp_Name.j2 k x0 x1 x7 x8 x9 (wrap64 (bt x0 x1)) (decide ((wrap64 (bt x0 x1)) < (wrap64 ((x0.size : Int) - x1))))) else (comp_Name.j2 k x0 x1 x7 x8 x9 (wrap64 (bt x0 x1)) false))) else (none)) else (none)) else (some ((⟨#[]⟩ : ByteArray), 0, 500))
def comp_Name.j2 : Nat → ByteArray → Int → List Int → Int → Int → Int → Bool → Option (ByteArray × Int × Int)
  | 0, _, _, _, _, _, _, _ => none
  | k + 1, x0, x1, x7, x8, x9, x10, x40 => if x40 = true then (if 0 ≤ x1 then (if x1 ≤ (wrap64 ((wrap64 (x1 + 1)) + x10)) then (if (wrap64 ((wrap64 (x1 + 1)) + x10)) ≤ (x0.size : Int) then (if x7.length + (x0.extract (x1 : Int).toNat ((wrap64 ((wrap64 (x1 + 1)) + x10)) : Int).toNat).size < 140737488355328 then (comp_Name.l0 k x0 (wrap64 (x1 + (wrap64 (1 + x10)))) (x7 ++ bytesOf (x0.extract (x1 : Int).toNat ((wrap64 ((wrap64 (x1 + 1)) + x10)) : Int).toNat)) x8 x9) else (none)) else (none)) else (none)) else (none)) else (if x10 ≥ 192 then (comp_Name.j3 k x0 x1 x7 x8 x9 x10 (decide ((wrap64 (x1 + 1)) < (x0.size : Int)))) else (comp_Name.j3 k x0 x1 x7 x8 x9 x10 false))
def comp_Name.j3 : Nat → ByteArray → Int → List Int → Int → Int → Int → Bool → Option (ByteArray × Int × Int)
  | 0, _, _, _, _, _, _, _ => none
  | k + 1, x0, x1, x7, x8, x9, x10, x64 => if x64 = true then (if 0 ≤ (wrap64 (x1 + 1)) then (if (wrap64 (x1 + 1)) < (x0.size : Int) then (if (Go.bits .or .i64 (wrap64 ((Go.bits .and .i64 x10 63) * 256)) (wrap64 (bt x0 (wrap64 (x1 + 1))))) ≥ x8 then (some ((⟨#[]⟩ : ByteArray), 0, 500)) else (if x9 < 0 then (comp_Name.l0 k x0 (Go.bits .or .i64 (wrap64 ((Go.bits .and .i64 x10 63) * 256)) (wrap64 (bt x0 (wrap64 (x1 + 1))))) x7 (Go.bits .or .i64 (wrap64 ((Go.bits .and .i64 x10 63) * 256)) (wrap64 (bt x0 (wrap64 (x1 + 1))))) (wrap64 (x1 + 2))) else (comp_Name.l0 k x0 (Go.bits .or .i64 (wrap64 ((Go.bits .and .i64 x10 63) * 256)) (wrap64 (bt x0 (wrap64 (x1 + 1))))) x7 (Go.bits .or .i64 (wrap64 ((Go.bits .and .i64 x10 63) * 256)) (wrap64 (bt x0 (wrap64 (x1 + 1))))) x9))) else (none)) else (none)) else (some ((⟨#[]⟩ : ByteArray), 0, 500))
end
def comp_Name.f (k : Nat) (a0 : ByteArray) (a1 : Int) : Option (ByteArray × Int × Int) := if a1 < 0 then (some ((⟨#[]⟩ : ByteArray), 0, 500)) else (comp_Name.l0 k a0 a1 ([] : List Int) a1 (-1))
theorem comp_Name.mono_l : ∀ k, (∀ y0 y1 y2 y3 y4, LeO (comp_Name.l0 k y0 y1 y2 y3 y4) (comp_Name.l0 (k + 1) y0 y1 y2 y3 y4)) ∧ (∀ y0 y1 y2 y3 y4 y5, LeO (comp_Name.j1 k y0 y1 y2 y3 y4 y5) (comp_Name.j1 (k + 1) y0 y1 y2 y3 y4 y5)) ∧ (∀ y0 y1 y2 y3 y4 y5 y6, LeO (comp_Name.j2 k y0 y1 y2 y3 y4 y5 y6) (comp_Name.j2 (k + 1) y0 y1 y2 y3 y4 y5 y6)) ∧ (∀ y0 y1 y2 y3 y4 y5 y6, LeO (comp_Name.j3 k y0 y1 y2 y3 y4 y5 y6) (comp_Name.j3 (k + 1) y0 y1 y2 y3 y4 y5 y6))
  | 0 => ⟨fun _ _ _ _ _ r h => by simp [comp_Name.l0] at h, fun _ _ _ _ _ _ r h => by simp [comp_Name.j1] at h, fun _ _ _ _ _ _ _ r h => by simp [comp_Name.j2] at h, fun _ _ _ _ _ _ _ r h => by simp [comp_Name.j3] at h⟩
  | k + 1 => by
    obtain ⟨ih0, ih1, ih2, ih3⟩ := comp_Name.mono_l k
    refine ⟨?_, ?_, ?_, ?_⟩
    · intro y0 y1 y2 y3 y4
      unfold comp_Name.l0
      repeat' first
      | (with_reducible exact ih0 _ _ _ _ _)
      | (with_reducible exact ih1 _ _ _ _ _ _)
      | (with_reducible exact ih2 _ _ _ _ _ _ _)
      | (with_reducible exact ih3 _ _ _ _ _ _ _)
      | (with_reducible exact LeO.refl _)
      | (with_reducible exact LeO.none _)
      | (with_reducible refine LeO.ite ?_ ?_)
      | (with_reducible refine LeO.bind ?_ (fun _ => ?_))
      | exact ih0 _ _ _ _ _
      | exact ih1 _ _ _ _ _ _
      | exact ih2 _ _ _ _ _ _ _
      | exact ih3 _ _ _ _ _ _ _
      | exact LeO.none _
      | refine LeO.ite ?_ ?_
      | refine LeO.bind ?_ (fun _ => ?_)
    · intro y0 y1 y2 y3 y4 y5
      unfold comp_Name.j1
      repeat' first
      | (with_reducible exact ih0 _ _ _ _ _)
      | (with_reducible exact ih1 _ _ _ _ _ _)
      | (with_reducible exact ih2 _ _ _ _ _ _ _)
      | (with_reducible exact ih3 _ _ _ _ _ _ _)
      | (with_reducible exact LeO.refl _)
      | (with_reducible exact LeO.none _)
      | (with_reducible refine LeO.ite ?_ ?_)
      | (with_reducible refine LeO.bind ?_ (fun _ => ?_))
      | exact ih0 _ _ _ _ _
      | exact ih1 _ _ _ _ _ _
      | exact ih2 _ _ _ _ _ _ _
      | exact ih3 _ _ _ _ _ _ _
      | exact LeO.none _
      | refine LeO.ite ?_ ?_
      | refine LeO.bind ?_ (fun _ => ?_)
    · intro y0 y1 y2 y3 y4 y5 y6
      unfold comp_Name.j2
      repeat' first
      | (with_reducible exact ih0 _ _ _ _ _)
      | (with_reducible exact ih1 _ _ _ _ _ _)
      | (with_reducible exact ih2 _ _ _ _ _ _ _)
      | (with_reducible exact ih3 _ _ _ _ _ _ _)
      | (with_reducible exact LeO.refl _)
      | (with_reducible exact LeO.none _)
      | (with_reducible refine LeO.ite ?_ ?_)
      | (with_reducible refine LeO.bind ?_ (fun _ => ?_))
      | exact ih0 _ _ _ _ _
      | exact ih1 _ _ _ _ _ _
      | exact ih2 _ _ _ _ _ _ _
      | exact ih3 _ _ _ _ _ _ _
      | exact LeO.none _
      | refine LeO.ite ?_ ?_
      | refine LeO.bind ?_ (fun _ => ?_)
    · intro y0 y1 y2 y3 y4 y5 y6
      unfold comp_Name.j3
      repeat' first
      | (with_reducible exact ih0 _ _ _ _ _)
      | (with_reducible exact ih1 _ _ _ _ _ _)
      | (with_reducible exact ih2 _ _ _ _ _ _ _)
      | (with_reducible exact ih3 _ _ _ _ _ _ _)
      | (with_reducible exact LeO.refl _)
      | (with_reducible exact LeO.none _)
      | (with_reducible refine LeO.ite ?_ ?_)
      | (with_reducible refine LeO.bind ?_ (fun _ => ?_))
      | exact ih0 _ _ _ _ _
      | exact ih1 _ _ _ _ _ _
      | exact ih2 _ _ _ _ _ _ _
      | exact ih3 _ _ _ _ _ _ _
      | exact LeO.none _
      | refine LeO.ite ?_ ?_
      | refine LeO.bind ?_ (fun _ => ?_)
theorem comp_Name.mono : ∀ a0 a1 k, LeO (comp_Name.f k a0 a1) (comp_Name.f (k + 1) a0 a1) := by
  intro a0 a1 k
  obtain ⟨ih0, ih1, ih2, ih3⟩ := comp_Name.mono_l k
  unfold comp_Name.f
  repeat' first
      | (with_reducible exact ih0 _ _ _ _ _)
      | (with_reducible exact ih1 _ _ _ _ _ _)
      | (with_reducible exact ih2 _ _ _ _ _ _ _)
      | (with_reducible exact ih3 _ _ _ _ _ _ _)
      | (with_reducible exact LeO.refl _)
      | (with_reducible exact LeO.none _)
      | (with_reducible refine LeO.ite ?_ ?_)
      | (with_reducible refine LeO.bind ?_ (fun _ => ?_))
      | exact ih0 _ _ _ _ _
      | exact ih1 _ _ _ _ _ _
      | exact ih2 _ _ _ _ _ _ _
      | exact ih3 _ _ _ _ _ _ _
      | exact LeO.none _
      | refine LeO.ite ?_ ?_
      | refine LeO.bind ?_ (fun _ => ?_)
set_option maxHeartbeats 8000000 in
set_option maxRecDepth 100000 in
theorem comp_Name.calls (k : Nat) (a0 : ByteArray) (a1 : Int) (r1 : ByteArray) (r2 : Int) (r3 : Int) (w : World) (h : comp_Name.f k a0 a1 = some (r1, r2, r3)) :
    Calls Try.prog 94 #[.string a0, .int .i64 a1] w fun e w' => e = .returned (.tuple #[.string r1, .int .i64 r2, .int .i64 r3]) ∧ Below w.heap.size w w' := by
  have HB := Aside0.mk (Below.refl w.heap.size w)
  have H : (if a1 < 0 then (some ((⟨#[]⟩ : ByteArray), 0, 500)) else (comp_Name.l0 k a0 a1 ([] : List Int) a1 (-1))) = some (r1, r2, r3) := h
  clear h
  by_cases c3 : a1 < 0
  · rw [if_pos c3] at H
    have c3b0 : decide (a1 < 0) = true := decide_eq_true c3
    clear c3
    simp only [Option.some.injEq, Prod.mk.injEq] at H
    obtain ⟨rfl, rfl, rfl⟩ := H
    go_enter Try.func94, Try.ntmps94
    go_wp2
    go_ret3
    exact ⟨by first | rfl | (simp [errW_none, errW_some] <;> rfl) | (simp [*, errW_none, errW_some] <;> rfl), by repeat (first | (with_reducible first | exact HB.out | apply below_alloc | apply pw_below_drewN | apply below_drew1) | exact HB.out)⟩
  · rw [if_neg c3] at H
    have c3b0 : decide (a1 < 0) = false := decide_eq_false c3
    clear c3
    have H' := Aside0.mk H
    clear H
    go_enter Try.func94, Try.ntmps94
    go_wp2
    go_loopg [1, 7, 8, 9] k (fun kq v1 v7 v8 v9 w' => ∃ (x1_1 : Int) (x7_1 : List Int) (x8_1 : Int) (x9_1 : Int), v1 = .int .i64 x1_1 ∧ v8 = .int .i64 x8_1 ∧ v9 = .int .i64 x9_1 ∧ Aside0 (comp_Name.l0 kq a0 x1_1 x7_1 x8_1 x9_1 = some (r1, r2, r3)) ∧ Aside0 (kq ≤ k) ∧ Aside0 (Kd.R (Kd.int .u8) 5 w' w.heap.size (fun _ => True) v7 x7_1) ∧ Aside0 (Below w.heap.size w w'))
    case atStart => exact ⟨(a1), (([] : List Int)), (a1), ((-1)), (by first | rfl | (simp; done) | (simp [*]; done)), (by first | rfl | (simp; done) | (simp [*]; done)), (by first | rfl | (simp; done) | (simp [*]; done)), H', ⟨Nat.le_refl _⟩, ⟨by first | exact Kd.R_nil _ _ _ _ _ | exact Kd.N_nil _ _ _ _ _ | exact Kd.V_nil _ _ _ _ _ | exact Kd.Q_nil _ _ _ _ _ | exact Kd.S_nil _ _ _ _ _⟩, ⟨by repeat (first | (with_reducible first | exact HB.out | apply below_alloc | apply pw_below_drewN | apply below_drew1) | exact HB.out)⟩⟩
    case round =>
      clear H'
      try clear p2
      try clear c3
      try clear c3b0
      obtain ⟨x1_1, x7_1, x8_1, x9_1, rfl, rfl, rfl, HA, HK1, HO_7, HB⟩ := hrel
      cases gk with
      | zero => exact absurd HA.out (by simp [comp_Name.l0])
      | succ k1 =>
        have H := HA.out
        clear HA
        simp only [comp_Name.l0] at H
        have HC4 := Aside0.mk H
        clear H
        go_upto_region 5 with (fail)
        go_cut [23] (fun v23 wc => ∃ (kq : Nat) (x23_3 : Bool), v23 = .bool x23_3 ∧ Aside0 (comp_Name.j1 kq a0 x1_1 x7_1 x8_1 x9_1 x23_3 = some (r1, r2, r3)) ∧ Aside0 (kq ≤ k1) ∧ Aside0 (Kd.R (Kd.int .u8) 5 wc w.heap.size (fun _ => True) u7 x7_1) ∧ Aside0 (Below w.heap.size w wc))
        case first =>
          have H := HC4.out
          clear HC4
          by_cases c5 : x1_1 < (a0.size : Int)
          · rw [if_pos c5] at H
            have c5b0 : decide (x1_1 < (a0.size : Int)) = true := decide_eq_true c5
            clear c5
            (first | rw [c5b0] | (simp only [i64_w, i32_w]; rw [c5b0]) | skip)
            have H' := Aside0.mk H
            clear H
            obtain ⟨Ao6, co6, eo6⟩ := Kd.R_slice HO_7.out
            subst eo6
            go_wp2
            go_meet
            case rel => exact ⟨_, (decide ((x7_1.length : Int) < 255)), (by first | rfl | (simp; done) | (simp [*]; done)), H', ⟨by have := HK1.out; first | omega | exact Nat.le_refl _⟩, ⟨by (with_reducible repeat (first | apply Kd.R_alloc | apply Kd.R_drewN | apply Kd.R_drew)); exact HO_7.out⟩, ⟨by repeat (first | (with_reducible first | exact HB.out | apply below_alloc | apply pw_below_drewN | apply below_drew1) | exact HB.out)⟩⟩
          · rw [if_neg c5] at H
            have c5b0 : decide (x1_1 < (a0.size : Int)) = false := decide_eq_false c5
            clear c5
            (first | rw [c5b0] | (simp only [i64_w, i32_w]; rw [c5b0]) | skip)
            have H' := Aside0.mk H
            clear H
            go_wp2
            go_meet
            case rel => exact ⟨_, (false), (by first | rfl | (simp; done) | (simp [*]; done)), H', ⟨by have := HK1.out; first | omega | exact Nat.le_refl _⟩, ⟨by (with_reducible repeat (first | apply Kd.R_alloc | apply Kd.R_drewN | apply Kd.R_drew)); exact HO_7.out⟩, ⟨by repeat (first | (with_reducible first | exact HB.out | apply below_alloc | apply pw_below_drewN | apply below_drew1) | exact HB.out)⟩⟩
        case rest =>
          clear HC4
          try clear p2
          try clear c3
          try clear c3b0
          try clear c5
          try clear c5b0
          try clear p2
          obtain ⟨kq, x23_3, rfl, HA, HJ3, HO_7, HB⟩ := hcut
          cases kq with
          | zero => exact absurd HA.out (by simp [comp_Name.j1])
          | succ kj3 =>
            have H := HA.out
            clear HA
            simp only [comp_Name.j1] at H
            by_cases c7 : x23_3 = true
            · subst c7
              have H1 : (if 0 ≤ x1_1 then (if x1_1 < (a0.size : Int) then (if (wrap64 (bt a0 x1_1)) = 0 then (if x9_1 < 0 then (if x7_1.length < 140737488355328 then (some (strOfNums (x7_1 ++ [0]), wrap64 (x1_1 + 1), 0)) else (none)) else (if x7_1.length < 140737488355328 then (some (strOfNums (x7_1 ++ [0]), x9_1, 0)) else (none))) else (if (wrap64 (bt a0 x1_1)) ≤ 63 then (comp_Name.j2 kj3 a0 x1_1 x7_1 x8_1 x9_1 (wrap64 (bt a0 x1_1)) (decide ((wrap64 (bt a0 x1_1)) < (wrap64 ((a0.size : Int) - x1_1))))) else (comp_Name.j2 kj3 a0 x1_1 x7_1 x8_1 x9_1 (wrap64 (bt a0 x1_1)) false))) else (none)) else (none)) = some (r1, r2, r3) := by rw [if_pos rfl] at H; exact H
              clear H
              have H := H1
              clear H1
              by_cases c8 : 0 ≤ x1_1
              · rw [if_pos c8] at H
                have c8b0 : decide (0 ≤ x1_1) = true := decide_eq_true c8
                clear c8
                by_cases c9 : x1_1 < (a0.size : Int)
                · rw [if_pos c9] at H
                  have c9b0 : decide (x1_1 < (a0.size : Int)) = true := decide_eq_true c9
                  clear c9
                  by_cases c11 : (wrap64 (bt a0 x1_1)) = 0
                  · rw [if_pos c11] at H
                    have c11b0 : ((wrap64 (bt a0 x1_1)) == 0) = true := beq_iff_eq.mpr c11
                    have c11b1 : ((wrap64 (bt a0 x1_1)) != 0) = false := bne_eq_false_iff_eq.mpr c11
                    clear c11
                    by_cases c12 : x9_1 < 0
                    · rw [if_pos c12] at H
                      have c12b0 : decide (x9_1 < 0) = true := decide_eq_true c12
                      clear c12
                      by_cases c13 : x7_1.length < 140737488355328
                      · rw [if_pos c13] at H
                        have LMc13 := Aside0.mk c13
                        clear c13
                        obtain ⟨y101, hy101⟩ : ∃ y_ : List Int, y_ = (x7_1 ++ [0]) := ⟨_, rfl⟩
                        replace H : (some (strOfNums y101, wrap64 (x1_1 + 1), 0)) = some (r1, r2, r3) := by first | (rw [hy101]; with_reducible exact H) | (have H2_ := (Option.bind_some _ _).symm.trans H; rw [hy101]; with_reducible exact H2_) | (have H2_ := (Option.bind_some _ _).symm.trans H; with_reducible exact H2_) | with_reducible exact H | (rw [hy101]; exact H) | exact H
                        have Ny101 := Aside0.mk hy101
                        clear hy101
                        simp only [Option.some.injEq, Prod.mk.injEq] at H
                        obtain ⟨rfl, rfl, rfl⟩ := H
                        have p10 : 0 ≤ (x1_1 : Int) := of_decide_eq_true (by first | (with_reducible assumption) | assumption)
                        have q10 : x1_1 < (a0.size : Int) := of_decide_eq_true (by first | (with_reducible assumption) | assumption)
                        have hx10 := bt_at a0 x1_1
                        replace p10 := eq_true p10
                        replace q10 := eq_true q10
                        go_wp2_with (first | ((with_reducible refine gate_builtin (b := .append) (xs := #[.tmp 35, .tmp 36]) rfl ?_); (try (refine gate_guard (by rfl) ?_; dsimp only)); at_builtin; refine Kd.R_append (Kd.int .u8) (w0 := w) w.heap.size rfl (.tmp 35) (.tmp 36) 56 5 (.int .u8 0) 1 rfl Try.underlying56 info5 rfl (by decide) (by omega) u7 x7_1 0 [.int .u8 0] (fun _ => True) (fun _ => False) rfl rfl ?aP (fun _ hk => hk.elim) ?aF ?aO ?aB ?aS ?aL ?_; (case aP => exact rfl); (case aB => exact (by repeat (first | (with_reducible first | exact HB.out | apply below_alloc | apply pw_below_drewN | apply below_drew1) | exact HB.out))); (case aF => exact (fun _ _ => trivial)); (case aO => exact (by (with_reducible repeat (first | apply Kd.R_alloc | apply Kd.R_drewN | apply Kd.R_drew)); exact HO_7.out)); (case aS => exact (below_size (by repeat (first | (with_reducible first | exact HB.out | apply below_alloc | apply pw_below_drewN | apply below_drew1) | exact HB.out)))); (case aL => have := LMc13.out; omega); intro v102 w14 ho hb hg hat; rw [← Ny101.out] at ho; have n0_ := Aside0.mk (hb); have n1_ := Aside0.mk (ho); clear HB; clear HO_7; have HB := n0_; have HO103 := n1_; clear n0_ n1_; clear ho hb hg hat; have hcv15 := own_string (P := Try.prog) Try.underlying56 Try.underlying5 Try.underlying9 (Kd.own_of_R HO103.out)))
                        go_ret3
                        exact ⟨by first | rfl | (simp [errW_none, errW_some] <;> rfl) | (simp [*, errW_none, errW_some] <;> rfl), by repeat (first | (with_reducible first | exact HB.out | apply below_alloc | apply pw_below_drewN | apply below_drew1) | exact HB.out)⟩
                      · rw [if_neg c13] at H
                        exact absurd H (by simp)
                    · rw [if_neg c12] at H
                      have c12b0 : decide (x9_1 < 0) = false := decide_eq_false c12
                      clear c12
                      by_cases c16 : x7_1.length < 140737488355328
                      · rw [if_pos c16] at H
                        have LMc16 := Aside0.mk c16
                        clear c16
                        obtain ⟨y104, hy104⟩ : ∃ y_ : List Int, y_ = (x7_1 ++ [0]) := ⟨_, rfl⟩
                        replace H : (some (strOfNums y104, x9_1, 0)) = some (r1, r2, r3) := by first | (rw [hy104]; with_reducible exact H) | (have H2_ := (Option.bind_some _ _).symm.trans H; rw [hy104]; with_reducible exact H2_) | (have H2_ := (Option.bind_some _ _).symm.trans H; with_reducible exact H2_) | with_reducible exact H | (rw [hy104]; exact H) | exact H
                        have Ny104 := Aside0.mk hy104
                        clear hy104
                        simp only [Option.some.injEq, Prod.mk.injEq] at H
                        obtain ⟨rfl, rfl, rfl⟩ := H
                        have p10 : 0 ≤ (x1_1 : Int) := of_decide_eq_true (by first | (with_reducible assumption) | assumption)
                        have q10 : x1_1 < (a0.size : Int) := of_decide_eq_true (by first | (with_reducible assumption) | assumption)
                        have hx10 := bt_at a0 x1_1
                        replace p10 := eq_true p10
                        replace q10 := eq_true q10
                        go_wp2_with (first | ((with_reducible refine gate_builtin (b := .append) (xs := #[.tmp 35, .tmp 36]) rfl ?_); (try (refine gate_guard (by rfl) ?_; dsimp only)); at_builtin; refine Kd.R_append (Kd.int .u8) (w0 := w) w.heap.size rfl (.tmp 35) (.tmp 36) 56 5 (.int .u8 0) 1 rfl Try.underlying56 info5 rfl (by decide) (by omega) u7 x7_1 0 [.int .u8 0] (fun _ => True) (fun _ => False) rfl rfl ?aP (fun _ hk => hk.elim) ?aF ?aO ?aB ?aS ?aL ?_; (case aP => exact rfl); (case aB => exact (by repeat (first | (with_reducible first | exact HB.out | apply below_alloc | apply pw_below_drewN | apply below_drew1) | exact HB.out))); (case aF => exact (fun _ _ => trivial)); (case aO => exact (by (with_reducible repeat (first | apply Kd.R_alloc | apply Kd.R_drewN | apply Kd.R_drew)); exact HO_7.out)); (case aS => exact (below_size (by repeat (first | (with_reducible first | exact HB.out | apply below_alloc | apply pw_below_drewN | apply below_drew1) | exact HB.out)))); (case aL => have := LMc16.out; omega); intro v105 w17 ho hb hg hat; rw [← Ny104.out] at ho; have n0_ := Aside0.mk (hb); have n1_ := Aside0.mk (ho); clear HB; clear HO_7; have HB := n0_; have HO106 := n1_; clear n0_ n1_; clear ho hb hg hat; have hcv18 := own_string (P := Try.prog) Try.underlying56 Try.underlying5 Try.underlying9 (Kd.own_of_R HO106.out)))
                        go_ret3
                        exact ⟨by first | rfl | (simp [errW_none, errW_some] <;> rfl) | (simp [*, errW_none, errW_some] <;> rfl), by repeat (first | (with_reducible first | exact HB.out | apply below_alloc | apply pw_below_drewN | apply below_drew1) | exact HB.out)⟩
                      · rw [if_neg c16] at H
                        exact absurd H (by simp)
                  · rw [if_neg c11] at H
                    have c11b0 : ((wrap64 (bt a0 x1_1)) == 0) = false := beq_eq_false_iff_ne.mpr c11
                    have c11b1 : ((wrap64 (bt a0 x1_1)) != 0) = true := bne_iff_ne.mpr c11
                    have HC19 := Aside0.mk H
                    clear H
                    have p10 : 0 ≤ (x1_1 : Int) := of_decide_eq_true (by first | (with_reducible assumption) | assumption)
                    have q10 : x1_1 < (a0.size : Int) := of_decide_eq_true (by first | (with_reducible assumption) | assumption)
                    have hx10 := bt_at a0 x1_1
                    replace p10 := eq_true p10
                    replace q10 := eq_true q10
                    go_upto_region 12 with (fail)
                    go_cut [40] (fun v40 wc => ∃ (kq : Nat) (x40_18 : Bool), v40 = .bool x40_18 ∧ Aside0 (comp_Name.j2 kq a0 x1_1 x7_1 x8_1 x9_1 (wrap64 (bt a0 x1_1)) x40_18 = some (r1, r2, r3)) ∧ Aside0 (kq ≤ kj3) ∧ Aside0 (Kd.R (Kd.int .u8) 5 wc w.heap.size (fun _ => True) u7 x7_1) ∧ Aside0 (Below w.heap.size w wc))
                    case first =>
                      have H := HC19.out
                      clear HC19
                      by_cases c20 : (wrap64 (bt a0 x1_1)) ≤ 63
                      · rw [if_pos c20] at H
                        have c20b0 : decide ((wrap64 (bt a0 x1_1)) ≤ 63) = true := decide_eq_true c20
                        clear c20
                        (first | rw [c20b0] | (simp only [i64_w, i32_w]; rw [c20b0]) | skip)
                        have H' := Aside0.mk H
                        clear H
                        go_wp2
                        go_meet
                        case rel => exact ⟨_, (decide ((wrap64 (bt a0 x1_1)) < (wrap64 ((a0.size : Int) - x1_1)))), (by first | rfl | (simp; done) | (simp [*]; done)), H', ⟨by have := HK1.out; have := HJ3.out; first | omega | exact Nat.le_refl _⟩, ⟨by (with_reducible repeat (first | apply Kd.R_alloc | apply Kd.R_drewN | apply Kd.R_drew)); exact HO_7.out⟩, ⟨by repeat (first | (with_reducible first | exact HB.out | apply below_alloc | apply pw_below_drewN | apply below_drew1) | exact HB.out)⟩⟩
                      · rw [if_neg c20] at H
                        have c20b0 : decide ((wrap64 (bt a0 x1_1)) ≤ 63) = false := decide_eq_false c20
                        clear c20
                        (first | rw [c20b0] | (simp only [i64_w, i32_w]; rw [c20b0]) | skip)
                        have H' := Aside0.mk H
                        clear H
                        go_wp2
                        go_meet
                        case rel => exact ⟨_, (false), (by first | rfl | (simp; done) | (simp [*]; done)), H', ⟨by have := HK1.out; have := HJ3.out; first | omega | exact Nat.le_refl _⟩, ⟨by (with_reducible repeat (first | apply Kd.R_alloc | apply Kd.R_drewN | apply Kd.R_drew)); exact HO_7.out⟩, ⟨by repeat (first | (with_reducible first | exact HB.out | apply below_alloc | apply pw_below_drewN | apply below_drew1) | exact HB.out)⟩⟩
                    case rest =>
                      clear HC19
                      try clear c1
                      try clear p1
                      try clear q1
                      try clear hx1
                      try clear hcv1
                      try clear c2
                      try clear p2
                      try clear c3
                      try clear c3b0
                      try clear c5
                      try clear c5b0
                      try clear p6
                      try clear c7
                      try clear c8
                      try clear c8b0
                      try clear c9
                      try clear c9b0
                      try clear p10
                      try clear q10
                      try clear hx10
                      try clear c11
                      try clear c11b0
                      try clear c11b1
                      try clear c12
                      try clear c12b0
                      try clear c13
                      try clear hcv15
                      try clear c16
                      try clear hcv18
                      try clear c20
                      try clear c20b0
                      try clear p10
                      try clear p2
                      try clear q10
                      obtain ⟨kq, x40_18, rfl, HA, HJ18, HO_7, HB⟩ := hcut
                      cases kq with
                      | zero => exact absurd HA.out (by simp [comp_Name.j2])
                      | succ kj18 =>
                        have H := HA.out
                        clear HA
                        simp only [comp_Name.j2] at H
                        by_cases c21 : x40_18 = true
                        · subst c21
                          have H1 : (if 0 ≤ x1_1 then (if x1_1 ≤ (wrap64 ((wrap64 (x1_1 + 1)) + (wrap64 (bt a0 x1_1)))) then (if (wrap64 ((wrap64 (x1_1 + 1)) + (wrap64 (bt a0 x1_1)))) ≤ (a0.size : Int) then (if x7_1.length + (a0.extract (x1_1 : Int).toNat ((wrap64 ((wrap64 (x1_1 + 1)) + (wrap64 (bt a0 x1_1)))) : Int).toNat).size < 140737488355328 then (comp_Name.l0 kj18 a0 (wrap64 (x1_1 + (wrap64 (1 + (wrap64 (bt a0 x1_1)))))) (x7_1 ++ bytesOf (a0.extract (x1_1 : Int).toNat ((wrap64 ((wrap64 (x1_1 + 1)) + (wrap64 (bt a0 x1_1)))) : Int).toNat)) x8_1 x9_1) else (none)) else (none)) else (none)) else (none)) = some (r1, r2, r3) := by rw [if_pos rfl] at H; exact H
                          clear H
                          have H := H1
                          clear H1
                          by_cases c22 : 0 ≤ x1_1
                          · rw [if_pos c22] at H
                            have c22b0 := eq_true c22
                            have c22b1 : decide (0 ≤ x1_1) = true := decide_eq_true c22
                            clear c22
                            by_cases c23 : x1_1 ≤ (wrap64 ((wrap64 (x1_1 + 1)) + (wrap64 (bt a0 x1_1))))
                            · rw [if_pos c23] at H
                              have c23b0 := eq_true c23
                              have c23b1 : decide (x1_1 ≤ (wrap64 ((wrap64 (x1_1 + 1)) + (wrap64 (bt a0 x1_1))))) = true := decide_eq_true c23
                              by_cases c24 : (wrap64 ((wrap64 (x1_1 + 1)) + (wrap64 (bt a0 x1_1)))) ≤ (a0.size : Int)
                              · rw [if_pos c24] at H
                                have c24b0 := eq_true c24
                                have c24b1 : decide ((wrap64 ((wrap64 (x1_1 + 1)) + (wrap64 (bt a0 x1_1)))) ≤ (a0.size : Int)) = true := decide_eq_true c24
                                by_cases c25 : x7_1.length + (a0.extract (x1_1 : Int).toNat ((wrap64 ((wrap64 (x1_1 + 1)) + (wrap64 (bt a0 x1_1)))) : Int).toNat).size < 140737488355328
                                · rw [if_pos c25] at H
                                  have LMc25 := Aside0.mk c25
                                  clear c25
                                  obtain ⟨y107, hy107⟩ : ∃ y_ : List Int, y_ = (x7_1 ++ bytesOf (a0.extract (x1_1 : Int).toNat ((wrap64 ((wrap64 (x1_1 + 1)) + (wrap64 (bt a0 x1_1)))) : Int).toNat)) := ⟨_, rfl⟩
                                  replace H : (comp_Name.l0 kj18 a0 (wrap64 (x1_1 + (wrap64 (1 + (wrap64 (bt a0 x1_1)))))) y107 x8_1 x9_1) = some (r1, r2, r3) := by first | (rw [hy107]; with_reducible exact H) | (have H2_ := (Option.bind_some _ _).symm.trans H; rw [hy107]; with_reducible exact H2_) | (have H2_ := (Option.bind_some _ _).symm.trans H; with_reducible exact H2_) | with_reducible exact H | (rw [hy107]; exact H) | exact H
                                  have Ny107 := Aside0.mk hy107
                                  clear hy107
                                  have H' := Aside0.mk H
                                  clear H
                                  go_wp2_with (first | (at_builtin; refine print_append_str (w0 := w) w.heap.size rfl (.tmp 51) _ 56 9 5 rfl Try.underlying56 Try.underlying9 info5 u7 x7_1 (a0.extract (x1_1 : Int).toNat ((wrap64 ((wrap64 (x1_1 + 1)) + (wrap64 (bt a0 x1_1)))) : Int).toNat) rfl rfl ?aO ?aB ?aS ?aL ?_; (case aB => exact (by repeat (first | (with_reducible first | exact HB.out | apply below_alloc | apply pw_below_drewN | apply below_drew1) | exact HB.out))); (case aO => exact (Kd.own_of_R (by (with_reducible repeat (first | apply Kd.R_alloc | apply Kd.R_drewN | apply Kd.R_drew)); exact HO_7.out))); (case aS => exact (below_size (by repeat (first | (with_reducible first | exact HB.out | apply below_alloc | apply pw_below_drewN | apply below_drew1) | exact HB.out)))); (case aL => have := LMc25.out; omega); intro v108 w26 ho0 hb hg; have ho := Kd.R_of_own (h1 := fun _ => rfl) (ok := fun _ => True) ho0 (fun _ _ => trivial); clear ho0; have hat := True.intro; rw [← Ny107.out] at ho; change Kd.R (Kd.int .u8) 5 w26 w.heap.size (fun _ => True) v108 y107 at ho; have n0_ := Aside0.mk (hb); have n1_ := Aside0.mk (ho); clear HB; clear HO_7; have HB := n0_; have HO109 := n1_; clear n0_ n1_; clear ho hb hg hat))
                                  go_roundg kj18
                                  case measure => have := HK1.out; have := HJ3.out; have := HJ18.out; omega
                                  case rel => exact ⟨(wrap64 (x1_1 + (wrap64 (1 + (wrap64 (bt a0 x1_1)))))), (y107), (x8_1), (x9_1), (by first | rfl | (simp; done) | (simp [*]; done)), (by first | rfl | (simp; done) | (simp [*]; done)), (by first | rfl | (simp; done) | (simp [*]; done)), H', ⟨by have := HK1.out; have := HJ3.out; have := HJ18.out; omega⟩, ⟨by (with_reducible repeat (first | apply Kd.R_alloc | apply Kd.R_drewN | apply Kd.R_drew)); exact HO109.out⟩, ⟨by repeat (first | (with_reducible first | exact HB.out | apply below_alloc | apply pw_below_drewN | apply below_drew1) | exact HB.out)⟩⟩
                                · rw [if_neg c25] at H
                                  exact absurd H (by simp)
                              · rw [if_neg c24] at H
                                exact absurd H (by simp)
                            · rw [if_neg c23] at H
                              exact absurd H (by simp)
                          · rw [if_neg c22] at H
                            exact absurd H (by simp)
                        · replace c21 := Bool.eq_false_iff.mpr c21
                          subst c21
                          have H1 : (if (wrap64 (bt a0 x1_1)) ≥ 192 then (comp_Name.j3 kj18 a0 x1_1 x7_1 x8_1 x9_1 (wrap64 (bt a0 x1_1)) (decide ((wrap64 (x1_1 + 1)) < (a0.size : Int)))) else (comp_Name.j3 kj18 a0 x1_1 x7_1 x8_1 x9_1 (wrap64 (bt a0 x1_1)) false)) = some (r1, r2, r3) := by rw [if_neg (show ¬ (false = true) by decide)] at H; exact H
                          clear H
                          have H := H1
                          clear H1
                          have HC27 := Aside0.mk H
                          clear H
                          go_upto_region 15 with (fail)
                          go_cut [64] (fun v64 wc => ∃ (kq : Nat) (x64_26 : Bool), v64 = .bool x64_26 ∧ Aside0 (comp_Name.j3 kq a0 x1_1 x7_1 x8_1 x9_1 (wrap64 (bt a0 x1_1)) x64_26 = some (r1, r2, r3)) ∧ Aside0 (kq ≤ kj18) ∧ Aside0 (Kd.R (Kd.int .u8) 5 wc w.heap.size (fun _ => True) u7 x7_1) ∧ Aside0 (Below w.heap.size w wc))
                          case first =>
                            have H := HC27.out
                            clear HC27
                            by_cases c28 : (wrap64 (bt a0 x1_1)) ≥ 192
                            · rw [if_pos c28] at H
                              have c28b0 : decide (192 ≤ (wrap64 (bt a0 x1_1))) = true := decide_eq_true c28
                              clear c28
                              (first | rw [c28b0] | (simp only [i64_w, i32_w]; rw [c28b0]) | skip)
                              have H' := Aside0.mk H
                              clear H
                              go_wp2
                              go_meet
                              case rel => exact ⟨_, (decide ((wrap64 (x1_1 + 1)) < (a0.size : Int))), (by first | rfl | (simp; done) | (simp [*]; done)), H', ⟨by have := HK1.out; have := HJ3.out; have := HJ18.out; first | omega | exact Nat.le_refl _⟩, ⟨by (with_reducible repeat (first | apply Kd.R_alloc | apply Kd.R_drewN | apply Kd.R_drew)); exact HO_7.out⟩, ⟨by repeat (first | (with_reducible first | exact HB.out | apply below_alloc | apply pw_below_drewN | apply below_drew1) | exact HB.out)⟩⟩
                            · rw [if_neg c28] at H
                              have c28b0 : decide (192 ≤ (wrap64 (bt a0 x1_1))) = false := decide_eq_false c28
                              clear c28
                              (first | rw [c28b0] | (simp only [i64_w, i32_w]; rw [c28b0]) | skip)
                              have H' := Aside0.mk H
                              clear H
                              go_wp2
                              go_meet
                              case rel => exact ⟨_, (false), (by first | rfl | (simp; done) | (simp [*]; done)), H', ⟨by have := HK1.out; have := HJ3.out; have := HJ18.out; first | omega | exact Nat.le_refl _⟩, ⟨by (with_reducible repeat (first | apply Kd.R_alloc | apply Kd.R_drewN | apply Kd.R_drew)); exact HO_7.out⟩, ⟨by repeat (first | (with_reducible first | exact HB.out | apply below_alloc | apply pw_below_drewN | apply below_drew1) | exact HB.out)⟩⟩
                          case rest =>
                            clear HC27
                            try clear c1
                            try clear p1
                            try clear q1
                            try clear hx1
                            try clear hcv1
                            try clear c2
                            try clear p2
                            try clear c3
                            try clear c3b0
                            try clear c5
                            try clear c5b0
                            try clear p6
                            try clear c7
                            try clear c8
                            try clear c8b0
                            try clear c9
                            try clear c9b0
                            try clear p10
                            try clear q10
                            try clear hx10
                            try clear c11
                            try clear c11b0
                            try clear c11b1
                            try clear c12
                            try clear c12b0
                            try clear c13
                            try clear hcv15
                            try clear c16
                            try clear hcv18
                            try clear c20
                            try clear c20b0
                            try clear c21
                            try clear c22
                            try clear c22b0
                            try clear c22b1
                            try clear c23
                            try clear c23b0
                            try clear c23b1
                            try clear c24
                            try clear c24b0
                            try clear c24b1
                            try clear c25
                            try clear c28
                            try clear c28b0
                            try clear p1
                            try clear p10
                            try clear p2
                            try clear p6
                            try clear q1
                            try clear q10
                            obtain ⟨kq, x64_26, rfl, HA, HJ26, HO_7, HB⟩ := hcut
                            cases kq with
                            | zero => exact absurd HA.out (by simp [comp_Name.j3])
                            | succ kj26 =>
                              have H := HA.out
                              clear HA
                              simp only [comp_Name.j3] at H
                              by_cases c29 : x64_26 = true
                              · subst c29
                                have H1 : (if 0 ≤ (wrap64 (x1_1 + 1)) then (if (wrap64 (x1_1 + 1)) < (a0.size : Int) then (if (Go.bits .or .i64 (wrap64 ((Go.bits .and .i64 (wrap64 (bt a0 x1_1)) 63) * 256)) (wrap64 (bt a0 (wrap64 (x1_1 + 1))))) ≥ x8_1 then (some ((⟨#[]⟩ : ByteArray), 0, 500)) else (if x9_1 < 0 then (comp_Name.l0 kj26 a0 (Go.bits .or .i64 (wrap64 ((Go.bits .and .i64 (wrap64 (bt a0 x1_1)) 63) * 256)) (wrap64 (bt a0 (wrap64 (x1_1 + 1))))) x7_1 (Go.bits .or .i64 (wrap64 ((Go.bits .and .i64 (wrap64 (bt a0 x1_1)) 63) * 256)) (wrap64 (bt a0 (wrap64 (x1_1 + 1))))) (wrap64 (x1_1 + 2))) else (comp_Name.l0 kj26 a0 (Go.bits .or .i64 (wrap64 ((Go.bits .and .i64 (wrap64 (bt a0 x1_1)) 63) * 256)) (wrap64 (bt a0 (wrap64 (x1_1 + 1))))) x7_1 (Go.bits .or .i64 (wrap64 ((Go.bits .and .i64 (wrap64 (bt a0 x1_1)) 63) * 256)) (wrap64 (bt a0 (wrap64 (x1_1 + 1))))) x9_1))) else (none)) else (none)) = some (r1, r2, r3) := by rw [if_pos rfl] at H; exact H
                                clear H
                                have H := H1
                                clear H1
                                obtain ⟨ji30, hji30⟩ : ∃ j_ : Int, (wrap64 (x1_1 + 1)) = j_ := ⟨_, rfl⟩
                                replace H : (if 0 ≤ (ji30) then (if (ji30) < (a0.size : Int) then (if (Go.bits .or .i64 (wrap64 ((Go.bits .and .i64 (wrap64 (bt a0 x1_1)) 63) * 256)) (wrap64 (bt a0 (ji30)))) ≥ x8_1 then (some ((⟨#[]⟩ : ByteArray), 0, 500)) else (if x9_1 < 0 then (comp_Name.l0 kj26 a0 (Go.bits .or .i64 (wrap64 ((Go.bits .and .i64 (wrap64 (bt a0 x1_1)) 63) * 256)) (wrap64 (bt a0 (ji30)))) x7_1 (Go.bits .or .i64 (wrap64 ((Go.bits .and .i64 (wrap64 (bt a0 x1_1)) 63) * 256)) (wrap64 (bt a0 (ji30)))) (wrap64 (x1_1 + 2))) else (comp_Name.l0 kj26 a0 (Go.bits .or .i64 (wrap64 ((Go.bits .and .i64 (wrap64 (bt a0 x1_1)) 63) * 256)) (wrap64 (bt a0 (ji30)))) x7_1 (Go.bits .or .i64 (wrap64 ((Go.bits .and .i64 (wrap64 (bt a0 x1_1)) 63) * 256)) (wrap64 (bt a0 (ji30)))) x9_1))) else (none)) else (none)) = some (r1, r2, r3) := by first | (rw [hji30] at H; exact H) | (simp only [hji30] at H ⊢; exact H)
                                have hji30w : (IntKind.i64.wrap (x1_1 + 1)) = ji30 := (i64_w _).trans hji30
                                by_cases c31 : 0 ≤ (ji30)
                                · rw [if_pos c31] at H
                                  have c31b0 : decide (0 ≤ (ji30)) = true := decide_eq_true c31
                                  clear c31
                                  by_cases c32 : (ji30) < (a0.size : Int)
                                  · rw [if_pos c32] at H
                                    have c32b0 : decide ((ji30) < (a0.size : Int)) = true := decide_eq_true c32
                                    clear c32
                                    by_cases c34 : (Go.bits .or .i64 (wrap64 ((Go.bits .and .i64 (wrap64 (bt a0 x1_1)) 63) * 256)) (wrap64 (bt a0 (ji30)))) ≥ x8_1
                                    · rw [if_pos c34] at H
                                      have c34b0 : decide (x8_1 ≤ (Go.bits .or .i64 (wrap64 ((Go.bits .and .i64 (wrap64 (bt a0 x1_1)) 63) * 256)) (wrap64 (bt a0 (ji30))))) = true := decide_eq_true c34
                                      clear c34
                                      simp only [Option.some.injEq, Prod.mk.injEq] at H
                                      obtain ⟨rfl, rfl, rfl⟩ := H
                                      have p33 : 0 ≤ ((ji30) : Int) := of_decide_eq_true (by first | (with_reducible assumption) | assumption)
                                      have q33 : (ji30) < (a0.size : Int) := of_decide_eq_true (by first | (with_reducible assumption) | assumption)
                                      have hx33 := bt_at a0 (ji30)
                                      replace p33 := eq_true p33
                                      replace q33 := eq_true q33
                                      go_wp2
                                      go_ret3
                                      exact ⟨by first | rfl | (simp [errW_none, errW_some] <;> rfl) | (simp only [← hji30]; first | rfl | (simp [errW_none, errW_some] <;> rfl)) | (simp [*, errW_none, errW_some] <;> rfl), by repeat (first | (with_reducible first | exact HB.out | apply below_alloc | apply pw_below_drewN | apply below_drew1) | exact HB.out)⟩
                                    · rw [if_neg c34] at H
                                      have c34b0 : decide (x8_1 ≤ (Go.bits .or .i64 (wrap64 ((Go.bits .and .i64 (wrap64 (bt a0 x1_1)) 63) * 256)) (wrap64 (bt a0 (ji30))))) = false := decide_eq_false c34
                                      clear c34
                                      by_cases c35 : x9_1 < 0
                                      · rw [if_pos c35] at H
                                        have c35b0 : decide (x9_1 < 0) = true := decide_eq_true c35
                                        clear c35
                                        have H' := Aside0.mk H
                                        clear H
                                        have p33 : 0 ≤ ((ji30) : Int) := of_decide_eq_true (by first | (with_reducible assumption) | assumption)
                                        have q33 : (ji30) < (a0.size : Int) := of_decide_eq_true (by first | (with_reducible assumption) | assumption)
                                        have hx33 := bt_at a0 (ji30)
                                        replace p33 := eq_true p33
                                        replace q33 := eq_true q33
                                        go_wp2
                                        go_roundg kj26
                                        case measure => have := HK1.out; have := HJ3.out; have := HJ18.out; have := HJ26.out; omega
                                        case rel => exact ⟨(Go.bits .or .i64 (wrap64 ((Go.bits .and .i64 (wrap64 (bt a0 x1_1)) 63) * 256)) (wrap64 (bt a0 (ji30)))), (x7_1), (Go.bits .or .i64 (wrap64 ((Go.bits .and .i64 (wrap64 (bt a0 x1_1)) 63) * 256)) (wrap64 (bt a0 (ji30)))), (wrap64 (x1_1 + 2)), (by first | rfl | (simp; done) | (simp only [← hji30] <;> (first | rfl | simp)) | (simp [*]; done)), (by first | rfl | (simp; done) | (simp only [← hji30] <;> (first | rfl | simp)) | (simp [*]; done)), (by first | rfl | (simp; done) | (simp [*]; done)), H', ⟨by have := HK1.out; have := HJ3.out; have := HJ18.out; have := HJ26.out; omega⟩, ⟨by (with_reducible repeat (first | apply Kd.R_alloc | apply Kd.R_drewN | apply Kd.R_drew)); exact HO_7.out⟩, ⟨by repeat (first | (with_reducible first | exact HB.out | apply below_alloc | apply pw_below_drewN | apply below_drew1) | exact HB.out)⟩⟩
                                      · rw [if_neg c35] at H
                                        have c35b0 : decide (x9_1 < 0) = false := decide_eq_false c35
                                        clear c35
                                        have H' := Aside0.mk H
                                        clear H
                                        have p33 : 0 ≤ ((ji30) : Int) := of_decide_eq_true (by first | (with_reducible assumption) | assumption)
                                        have q33 : (ji30) < (a0.size : Int) := of_decide_eq_true (by first | (with_reducible assumption) | assumption)
                                        have hx33 := bt_at a0 (ji30)
                                        replace p33 := eq_true p33
                                        replace q33 := eq_true q33
                                        go_wp2
                                        go_roundg kj26
                                        case measure => have := HK1.out; have := HJ3.out; have := HJ18.out; have := HJ26.out; omega
                                        case rel => exact ⟨(Go.bits .or .i64 (wrap64 ((Go.bits .and .i64 (wrap64 (bt a0 x1_1)) 63) * 256)) (wrap64 (bt a0 (ji30)))), (x7_1), (Go.bits .or .i64 (wrap64 ((Go.bits .and .i64 (wrap64 (bt a0 x1_1)) 63) * 256)) (wrap64 (bt a0 (ji30)))), (x9_1), (by first | rfl | (simp; done) | (simp only [← hji30] <;> (first | rfl | simp)) | (simp [*]; done)), (by first | rfl | (simp; done) | (simp only [← hji30] <;> (first | rfl | simp)) | (simp [*]; done)), (by first | rfl | (simp; done) | (simp [*]; done)), H', ⟨by have := HK1.out; have := HJ3.out; have := HJ18.out; have := HJ26.out; omega⟩, ⟨by (with_reducible repeat (first | apply Kd.R_alloc | apply Kd.R_drewN | apply Kd.R_drew)); exact HO_7.out⟩, ⟨by repeat (first | (with_reducible first | exact HB.out | apply below_alloc | apply pw_below_drewN | apply below_drew1) | exact HB.out)⟩⟩
                                  · rw [if_neg c32] at H
                                    exact absurd H (by simp)
                                · rw [if_neg c31] at H
                                  exact absurd H (by simp)
                              · replace c29 := Bool.eq_false_iff.mpr c29
                                subst c29
                                have H1 : (some ((⟨#[]⟩ : ByteArray), 0, 500)) = some (r1, r2, r3) := by rw [if_neg (show ¬ (false = true) by decide)] at H; exact H
                                clear H
                                have H := H1
                                clear H1
                                simp only [Option.some.injEq, Prod.mk.injEq] at H
                                obtain ⟨rfl, rfl, rfl⟩ := H
                                go_wp2
                                go_ret3
                                exact ⟨by first | rfl | (simp [errW_none, errW_some] <;> rfl) | (simp [*, errW_none, errW_some] <;> rfl), by repeat (first | (with_reducible first | exact HB.out | apply below_alloc | apply pw_below_drewN | apply below_drew1) | exact HB.out)⟩
                · rw [if_neg c9] at H
                  exact absurd H (by simp)
              · rw [if_neg c8] at H
                exact absurd H (by simp)
            · replace c7 := Bool.eq_false_iff.mpr c7
              subst c7
              have H1 : (some ((⟨#[]⟩ : ByteArray), 0, 500)) = some (r1, r2, r3) := by rw [if_neg (show ¬ (false = true) by decide)] at H; exact H
              clear H
              have H := H1
              clear H1
              simp only [Option.some.injEq, Prod.mk.injEq] at H
              obtain ⟨rfl, rfl, rfl⟩ := H
              go_wp2
              go_ret3
              exact ⟨by first | rfl | (simp [errW_none, errW_some] <;> rfl) | (simp [*, errW_none, errW_some] <;> rfl), by repeat (first | (with_reducible first | exact HB.out | apply below_alloc | apply pw_below_drewN | apply below_drew1) | exact HB.out)⟩

-- NOT PRINTED: function 72 (name_Places)

end Go.Proofs.Ytjklgdpffmaamaa.PCm

namespace Go.Proofs.Ytjklgdpffmaamaa.PCm
open Go.RowKit Go.Proofs.YtjklgdpffmaamaaW.PrintWords Go.Proofs.YtjklgdpffmaamaaW.PrintLast Go.Proofs.YtjklgdpffmaamaaW.PrintMore
attribute [local go_sem] max2_int min2_int max_two min_two max_three min_three max_four min_four   -- for this text's walks alone
set_option linter.unusedVariables false
set_option linter.unusedSimpArgs false

/-! ### rdata_May: function 102 -/
def rdata_May.f (a0 : Int) (a1 : ByteArray) : Option (Bool) := if a1.size ≤ 9223372036854775000 then some (Go.Proofs.Ytjklgdpffmaamaa.Rd.mayD a0 a1) else none
set_option maxHeartbeats 8000000 in
set_option maxRecDepth 100000 in
theorem rdata_May.calls (a0 : Int) (a1 : ByteArray) (r : Bool) (w : World) (h : rdata_May.f a0 a1 = some r) :
    Calls Try.prog 102 #[.int .i64 a0, .string a1] w fun e w' => e = .returned (.bool r) ∧ Below w.heap.size w w' := by
  unfold rdata_May.f at h
  split at h
  · rename_i hs
    simp only [Option.some.injEq] at h
    subst h
    exact Go.Proofs.Ytjklgdpffmaamaa.Rd.dmay a0 a1 w hs
  · cases h

/-! ### comp_shape: function 104 -/
def comp_shape.j0 : Nat → Int → Bool → Option (Int × Int × Int)
  | 0, _, _ => none
  | k + 1, x5, x6 => if x6 = true then (some (0, 1, 0)) else (if x5 = 15 then (some (2, 1, 0)) else (if x5 = 6 then (some (0, 2, 20)) else (some (0, 0, 0))))
def comp_shape.f (k : Nat) (a0 : Int) : Option (Int × Int × Int) := if a0 = 2 then (comp_shape.j0 k a0 (a0 == 2)) else (if a0 = 5 then (comp_shape.j0 k a0 (a0 == 5)) else (comp_shape.j0 k a0 (a0 == 12)))
theorem comp_shape.mono_l : ∀ k, (∀ y0 y1, LeO (comp_shape.j0 k y0 y1) (comp_shape.j0 (k + 1) y0 y1))
  | 0 => fun _ _ r h => by simp [comp_shape.j0] at h
  | k + 1 => by
    have ih0 := comp_shape.mono_l k
    · intro y0 y1
      unfold comp_shape.j0
      repeat' first
      | (with_reducible exact ih0 _ _)
      | (with_reducible exact LeO.refl _)
      | (with_reducible exact LeO.none _)
      | (with_reducible refine LeO.ite ?_ ?_)
      | (with_reducible refine LeO.bind ?_ (fun _ => ?_))
      | exact ih0 _ _
      | exact LeO.none _
      | refine LeO.ite ?_ ?_
      | refine LeO.bind ?_ (fun _ => ?_)
theorem comp_shape.mono : ∀ a0 k, LeO (comp_shape.f k a0) (comp_shape.f (k + 1) a0) := by
  intro a0 k
  have ih0 := comp_shape.mono_l k
  unfold comp_shape.f
  repeat' first
      | (with_reducible exact ih0 _ _)
      | (with_reducible exact LeO.refl _)
      | (with_reducible exact LeO.none _)
      | (with_reducible refine LeO.ite ?_ ?_)
      | (with_reducible refine LeO.bind ?_ (fun _ => ?_))
      | exact ih0 _ _
      | exact LeO.none _
      | refine LeO.ite ?_ ?_
      | refine LeO.bind ?_ (fun _ => ?_)
set_option maxHeartbeats 8000000 in
set_option maxRecDepth 100000 in
theorem comp_shape.calls (k : Nat) (a0 : Int) (r1 : Int) (r2 : Int) (r3 : Int) (w : World) (h : comp_shape.f k a0 = some (r1, r2, r3)) :
    Calls Try.prog 104 #[.int .i64 a0] w fun e w' => e = .returned (.tuple #[.int .i64 r1, .int .i64 r2, .int .i64 r3]) ∧ Drawn0 w w' := by
  have H : (if a0 = 2 then (comp_shape.j0 k a0 (a0 == 2)) else (if a0 = 5 then (comp_shape.j0 k a0 (a0 == 5)) else (comp_shape.j0 k a0 (a0 == 12)))) = some (r1, r2, r3) := h
  clear h
  have HC2 := Aside0.mk H
  clear H
  go_enter Try.func104, Try.ntmps104
  go_upto_if 6 with (fail)
  go_cut [6] (fun v6 wc => ∃ (kq : Nat) (x6_1 : Bool), v6 = .bool x6_1 ∧ Aside0 (comp_shape.j0 kq a0 x6_1 = some (r1, r2, r3)) ∧ Aside0 (kq ≤ k) ∧ Drawn0 w wc)
  case first =>
    have H := HC2.out
    clear HC2
    by_cases c3 : a0 = 2
    · rw [if_pos c3] at H
      have c3b0 : (a0 == 2) = true := beq_iff_eq.mpr c3
      have c3b1 : (a0 != 2) = false := bne_eq_false_iff_eq.mpr c3
      clear c3
      (first | rw [c3b0] | (simp only [i64_w, i32_w]; rw [c3b0]) | skip)
      have H' := Aside0.mk H
      clear H
      go_wp2
      go_meet
      case rel => exact ⟨_, ((a0 == 2)), (by first | rfl | (simp; done) | (simp [*]; done)), H', ⟨by first | omega | exact Nat.le_refl _⟩, by repeat (first | exact Drawn0.refl _ | apply Drawn0.step)⟩
    · rw [if_neg c3] at H
      have c3b0 : (a0 == 2) = false := beq_eq_false_iff_ne.mpr c3
      have c3b1 : (a0 != 2) = true := bne_iff_ne.mpr c3
      (first | rw [c3b0] | (simp only [i64_w, i32_w]; rw [c3b0]) | skip)
      by_cases c4 : a0 = 5
      · rw [if_pos c4] at H
        have c4b0 : (a0 == 5) = true := beq_iff_eq.mpr c4
        have c4b1 : (a0 != 5) = false := bne_eq_false_iff_eq.mpr c4
        clear c4
        have H' := Aside0.mk H
        clear H
        go_wp2
        go_meet
        case rel => exact ⟨_, ((a0 == 5)), (by first | rfl | (simp; done) | (simp [*]; done)), H', ⟨by first | omega | exact Nat.le_refl _⟩, by repeat (first | exact Drawn0.refl _ | apply Drawn0.step)⟩
      · rw [if_neg c4] at H
        have c4b0 : (a0 == 5) = false := beq_eq_false_iff_ne.mpr c4
        have c4b1 : (a0 != 5) = true := bne_iff_ne.mpr c4
        have H' := Aside0.mk H
        clear H
        go_wp2
        go_meet
        case rel => exact ⟨_, ((a0 == 12)), (by first | rfl | (simp; done) | (simp [*]; done)), H', ⟨by first | omega | exact Nat.le_refl _⟩, by repeat (first | exact Drawn0.refl _ | apply Drawn0.step)⟩
  case rest =>
    clear HC2
    try clear c1
    try clear p2
    try clear c3
    try clear c3b0
    try clear c3b1
    try clear c4
    try clear c4b0
    try clear c4b1
    obtain ⟨kq, x6_1, rfl, HA, HJ1, ⟨mc1, rfl⟩⟩ := hcut
    cases kq with
    | zero => exact absurd HA.out (by simp [comp_shape.j0])
    | succ kj1 =>
      have H := HA.out
      clear HA
      simp only [comp_shape.j0] at H
      by_cases c5 : x6_1 = true
      · subst c5
        have H1 : (some (0, 1, 0)) = some (r1, r2, r3) := by rw [if_pos rfl] at H; exact H
        clear H
        have H := H1
        clear H1
        simp only [Option.some.injEq, Prod.mk.injEq] at H
        obtain ⟨rfl, rfl, rfl⟩ := H
        go_wp2
        go_ret3
        exact ⟨by first | rfl | (simp; done) | (simp [*]; done), by repeat (first | exact Drawn0.refl _ | apply Drawn0.step)⟩
      · replace c5 := Bool.eq_false_iff.mpr c5
        subst c5
        have H1 : (if a0 = 15 then (some (2, 1, 0)) else (if a0 = 6 then (some (0, 2, 20)) else (some (0, 0, 0)))) = some (r1, r2, r3) := by rw [if_neg (show ¬ (false = true) by decide)] at H; exact H
        clear H
        have H := H1
        clear H1
        by_cases c6 : a0 = 15
        · rw [if_pos c6] at H
          have c6b0 : (a0 == 15) = true := beq_iff_eq.mpr c6
          have c6b1 : (a0 != 15) = false := bne_eq_false_iff_eq.mpr c6
          clear c6
          simp only [Option.some.injEq, Prod.mk.injEq] at H
          obtain ⟨rfl, rfl, rfl⟩ := H
          go_wp2
          go_ret3
          exact ⟨by first | rfl | (simp; done) | (simp [*]; done), by repeat (first | exact Drawn0.refl _ | apply Drawn0.step)⟩
        · rw [if_neg c6] at H
          have c6b0 : (a0 == 15) = false := beq_eq_false_iff_ne.mpr c6
          have c6b1 : (a0 != 15) = true := bne_iff_ne.mpr c6
          by_cases c7 : a0 = 6
          · rw [if_pos c7] at H
            have c7b0 : (a0 == 6) = true := beq_iff_eq.mpr c7
            have c7b1 : (a0 != 6) = false := bne_eq_false_iff_eq.mpr c7
            clear c7
            simp only [Option.some.injEq, Prod.mk.injEq] at H
            obtain ⟨rfl, rfl, rfl⟩ := H
            go_wp2
            go_ret3
            exact ⟨by first | rfl | (simp; done) | (simp [*]; done), by repeat (first | exact Drawn0.refl _ | apply Drawn0.step)⟩
          · rw [if_neg c7] at H
            have c7b0 : (a0 == 6) = false := beq_eq_false_iff_ne.mpr c7
            have c7b1 : (a0 != 6) = true := bne_iff_ne.mpr c7
            simp only [Option.some.injEq, Prod.mk.injEq] at H
            obtain ⟨rfl, rfl, rfl⟩ := H
            go_wp2
            go_ret3
            exact ⟨by first | rfl | (simp; done) | (simp [*]; done), by repeat (first | exact Drawn0.refl _ | apply Drawn0.step)⟩

/-! ### comp_names: function 105 -/
def comp_names.l0 : Nat → ByteArray → Int → ByteArray → Int → Int → Option (ByteArray × Int × Int)
  | 0, _, _, _, _, _ => none
  | k + 1, x0, x1, x9, x13, x14 => if x14 < x13 then ((comp_Name.f k x0 x1).bind fun bt113 => (if bt113.2.2 = 0 then (if x9.size + bt113.1.size ≤ 9223372036854775807 then (comp_names.l0 k x0 bt113.2.1 (x9 ++ bt113.1) x13 (wrap64 (x14 + 1))) else (none)) else (some ((⟨#[]⟩ : ByteArray), 0, bt113.2.2)))) else (some (x9, x1, 0))
def comp_names.f (k : Nat) (a0 : ByteArray) (a1 : Int) (a2 : Int) : Option (ByteArray × Int × Int) := comp_names.l0 k a0 a1 (⟨#[]⟩ : ByteArray) a2 0
theorem comp_names.mono_l : ∀ k, (∀ y0 y1 y2 y3 y4, LeO (comp_names.l0 k y0 y1 y2 y3 y4) (comp_names.l0 (k + 1) y0 y1 y2 y3 y4))
  | 0 => fun _ _ _ _ _ r h => by simp [comp_names.l0] at h
  | k + 1 => by
    have ih0 := comp_names.mono_l k
    · intro y0 y1 y2 y3 y4
      unfold comp_names.l0
      repeat' first
      | (with_reducible exact ih0 _ _ _ _ _)
      | (with_reducible exact comp_Name.mono _ _ _)
      | (with_reducible exact LeO.refl _)
      | (with_reducible exact LeO.none _)
      | (with_reducible refine LeO.ite ?_ ?_)
      | (with_reducible refine LeO.bind ?_ (fun _ => ?_))
      | exact ih0 _ _ _ _ _
      | exact comp_Name.mono _ _ _
      | exact LeO.none _
      | refine LeO.ite ?_ ?_
      | refine LeO.bind ?_ (fun _ => ?_)
theorem comp_names.mono : ∀ a0 a1 a2 k, LeO (comp_names.f k a0 a1 a2) (comp_names.f (k + 1) a0 a1 a2) := by
  intro a0 a1 a2 k
  have ih0 := comp_names.mono_l k
  unfold comp_names.f
  repeat' first
      | (with_reducible exact ih0 _ _ _ _ _)
      | (with_reducible exact comp_Name.mono _ _ _)
      | (with_reducible exact LeO.refl _)
      | (with_reducible exact LeO.none _)
      | (with_reducible refine LeO.ite ?_ ?_)
      | (with_reducible refine LeO.bind ?_ (fun _ => ?_))
      | exact ih0 _ _ _ _ _
      | exact comp_Name.mono _ _ _
      | exact LeO.none _
      | refine LeO.ite ?_ ?_
      | refine LeO.bind ?_ (fun _ => ?_)
set_option maxHeartbeats 8000000 in
set_option maxRecDepth 100000 in
theorem comp_names.calls (k : Nat) (a0 : ByteArray) (a1 : Int) (a2 : Int) (r1 : ByteArray) (r2 : Int) (r3 : Int) (w : World) (h : comp_names.f k a0 a1 a2 = some (r1, r2, r3)) :
    Calls Try.prog 105 #[.string a0, .int .i64 a1, .int .i64 a2] w fun e w' => e = .returned (.tuple #[.string r1, .int .i64 r2, .int .i64 r3]) ∧ Below w.heap.size w w' := by
  have HB := Aside0.mk (Below.refl w.heap.size w)
  have H : (comp_names.l0 k a0 a1 (⟨#[]⟩ : ByteArray) a2 0) = some (r1, r2, r3) := h
  clear h
  have H' := Aside0.mk H
  clear H
  go_enter Try.func105, Try.ntmps105
  go_wp2
  go_loopg [1, 9, 14] k (fun kq v1 v9 v14 w' => ∃ (x1_1 : Int) (x9_1 : ByteArray) (x14_1 : Int), v1 = .int .i64 x1_1 ∧ v9 = .string x9_1 ∧ v14 = .int .i64 x14_1 ∧ Aside0 (comp_names.l0 kq a0 x1_1 x9_1 a2 x14_1 = some (r1, r2, r3)) ∧ Aside0 (kq ≤ k) ∧ Aside0 (Below w.heap.size w w'))
  case atStart => exact ⟨(a1), ((⟨#[]⟩ : ByteArray)), (0), (by first | rfl | (simp; done) | (simp [*]; done)), (by first | rfl | (simp; done) | (simp [*]; done)), (by first | rfl | (simp; done) | (simp [*]; done)), H', ⟨Nat.le_refl _⟩, ⟨by repeat (first | (with_reducible first | exact HB.out | apply below_alloc | apply pw_below_drewN | apply below_drew1) | exact HB.out)⟩⟩
  case round =>
    clear H'
    try clear c1
    try clear p2
    obtain ⟨x1_1, x9_1, x14_1, rfl, rfl, rfl, HA, HK1, HB⟩ := hrel
    cases gk with
    | zero => exact absurd HA.out (by simp [comp_names.l0])
    | succ k1 =>
      have H := HA.out
      clear HA
      simp only [comp_names.l0] at H
      by_cases c4 : x14_1 < a2
      · rw [if_pos c4] at H
        have c4b0 : decide (x14_1 < a2) = true := decide_eq_true c4
        clear c4
        replace H := Option.bind_eq_some_iff.mp H
        obtain ⟨⟨t113, t114, t115⟩, A50, H⟩ := H
        replace H : (if t115 = 0 then (if x9_1.size + t113.size ≤ 9223372036854775807 then (comp_names.l0 k1 a0 t114 (x9_1 ++ t113) a2 (wrap64 (x14_1 + 1))) else (none)) else (some ((⟨#[]⟩ : ByteArray), 0, t115))) = some (r1, r2, r3) := H
        have A5 := Aside0.mk A50
        clear A50
        by_cases c6 : t115 = 0
        · rw [if_pos c6] at H
          have c6b0 : (t115 == 0) = true := beq_iff_eq.mpr c6
          have c6b1 : (t115 != 0) = false := bne_eq_false_iff_eq.mpr c6
          clear c6
          by_cases c7 : x9_1.size + t113.size ≤ 9223372036854775807
          · rw [if_pos c7] at H
            have c7b0 := eq_true c7
            have c7b1 : decide (x9_1.size + t113.size ≤ 9223372036854775807) = true := decide_eq_true c7
            try have c7b2 : (9223372036854775807 < x9_1.size + t113.size) = False := eq_false (Nat.not_lt.2 c7)
            have H' := Aside0.mk H
            clear H
            go_wp2_with (first | ((with_reducible refine gate_dst (N := 19) rfl ?_); (with_reducible refine gate_callee (f := 94) rfl ?_); refine goesL_ (some 19) rfl rfl Try.func94 (by kernel_rfl) rfl #[.string a0, .int .i64 x1_1] rfl (by (try simp only [List.map_toArray, List.map_cons, List.map_nil]); first | done | rfl | (simp only [List.length_drop, List.length_take]; rfl)) ?_; (with_reducible refine (comp_Name.calls k1 a0 x1_1 t113 t114 t115 _ A5.out).mono ?_); rintro e w8 ⟨rfl, hb⟩; refine ⟨_, rfl, ?_⟩; have n0_ := Aside0.mk (below_step (by repeat (first | (with_reducible first | exact HB.out | apply below_alloc | apply pw_below_drewN | apply below_drew1) | exact HB.out)) hb); clear HB; have HB := n0_; clear n0_; (try clear hb); (try clear hb2); (try clear hk); (try clear hi)))
            go_roundg k1
            case measure => have := HK1.out; omega
            case rel => exact ⟨(t114), (x9_1 ++ t113), (wrap64 (x14_1 + 1)), (by first | rfl | (simp; done) | (simp [*]; done)), (by first | rfl | (simp; done) | (simp [*]; done)), (by first | rfl | (simp; done) | (simp [*]; done)), H', ⟨by have := HK1.out; omega⟩, ⟨by repeat (first | (with_reducible first | exact HB.out | apply below_alloc | apply pw_below_drewN | apply below_drew1) | exact HB.out)⟩⟩
          · rw [if_neg c7] at H
            exact absurd H (by simp)
        · rw [if_neg c6] at H
          have c6b0 : (t115 == 0) = false := beq_eq_false_iff_ne.mpr c6
          have c6b1 : (t115 != 0) = true := bne_iff_ne.mpr c6
          simp only [Option.some.injEq, Prod.mk.injEq] at H
          obtain ⟨rfl, rfl, rfl⟩ := H
          go_wp2_with (first | ((with_reducible refine gate_dst (N := 19) rfl ?_); (with_reducible refine gate_callee (f := 94) rfl ?_); refine goesL_ (some 19) rfl rfl Try.func94 (by kernel_rfl) rfl #[.string a0, .int .i64 x1_1] rfl (by (try simp only [List.map_toArray, List.map_cons, List.map_nil]); first | done | rfl | (simp only [List.length_drop, List.length_take]; rfl)) ?_; (with_reducible refine (comp_Name.calls k1 a0 x1_1 t113 t114 t115 _ A5.out).mono ?_); rintro e w9 ⟨rfl, hb⟩; refine ⟨_, rfl, ?_⟩; have n0_ := Aside0.mk (below_step (by repeat (first | (with_reducible first | exact HB.out | apply below_alloc | apply pw_below_drewN | apply below_drew1) | exact HB.out)) hb); clear HB; have HB := n0_; clear n0_; (try clear hb); (try clear hb2); (try clear hk); (try clear hi)))
          go_ret3
          exact ⟨by first | rfl | (simp [errW_none, errW_some] <;> rfl) | (simp [*, errW_none, errW_some] <;> rfl), by repeat (first | (with_reducible first | exact HB.out | apply below_alloc | apply pw_below_drewN | apply below_drew1) | exact HB.out)⟩
      · rw [if_neg c4] at H
        have c4b0 : decide (x14_1 < a2) = false := decide_eq_false c4
        clear c4
        simp only [Option.some.injEq, Prod.mk.injEq] at H
        obtain ⟨rfl, rfl, rfl⟩ := H
        go_wp2
        go_ret3
        exact ⟨by first | rfl | (simp [errW_none, errW_some] <;> rfl) | (simp [*, errW_none, errW_some] <;> rfl), by repeat (first | (with_reducible first | exact HB.out | apply below_alloc | apply pw_below_drewN | apply below_drew1) | exact HB.out)⟩

/-! ### comp_Data: function 97 -/
mutual
def comp_Data.j0 : Nat → ByteArray → Int → Int → Int → Bool → Option (ByteArray × Int)
  | 0, _, _, _, _, _ => none
  | k + 1, x0, x1, x2, x3, x37 => if x37 = true then (some ((⟨#[]⟩ : ByteArray), 500)) else (if 0 ≤ x1 then (if x1 ≤ (wrap64 (x1 + x2)) then (if (wrap64 (x1 + x2)) ≤ (x0.size : Int) then ((comp_shape.f k x3).bind fun bt116 => (if bt116.2.1 > 0 then (if x2 < (wrap64 (bt116.1 + bt116.2.2)) then (some ((⟨#[]⟩ : ByteArray), 500)) else ((comp_names.f k x0 (wrap64 (x1 + bt116.1)) bt116.2.1).bind fun bt119 => (if bt119.2.2 = 0 then (comp_Data.j1 k x0 x1 x3 (wrap64 (x1 + x2)) bt116.1 bt119.1 bt119.2.1 (bt119.2.1 != (wrap64 ((wrap64 (x1 + x2)) - bt116.2.2)))) else (comp_Data.j1 k x0 x1 x3 (wrap64 (x1 + x2)) bt116.1 bt119.1 bt119.2.1 true)))) else ((rdata_May.f x3 (x0.extract (x1 : Int).toNat ((wrap64 (x1 + x2)) : Int).toNat)).bind fun t123 => (if t123 = true then (some (x0.extract (x1 : Int).toNat ((wrap64 (x1 + x2)) : Int).toNat, 0)) else (some ((⟨#[]⟩ : ByteArray), 500)))))) else (none)) else (none)) else (none))
def comp_Data.j1 : Nat → ByteArray → Int → Int → Int → Int → ByteArray → Int → Bool → Option (ByteArray × Int)
  | 0, _, _, _, _, _, _, _, _ => none
  | k + 1, x0, x1, x3, x10, x12, x15, x16, x76 => if x76 = true then (some ((⟨#[]⟩ : ByteArray), 500)) else (if 0 ≤ x1 then (if x1 ≤ (wrap64 (x1 + x12)) then (if (wrap64 (x1 + x12)) ≤ (x0.size : Int) then (if (x0.extract (x1 : Int).toNat ((wrap64 (x1 + x12)) : Int).toNat).size + x15.size ≤ 9223372036854775807 then (if 0 ≤ x16 then (if x16 ≤ x10 then (if x10 ≤ (x0.size : Int) then (if ((x0.extract (x1 : Int).toNat ((wrap64 (x1 + x12)) : Int).toNat) ++ x15).size + (x0.extract (x16 : Int).toNat (x10 : Int).toNat).size ≤ 9223372036854775807 then ((rdata_May.f x3 (((x0.extract (x1 : Int).toNat ((wrap64 (x1 + x12)) : Int).toNat) ++ x15) ++ (x0.extract (x16 : Int).toNat (x10 : Int).toNat))).bind fun t122 => (if t122 = true then (some (((x0.extract (x1 : Int).toNat ((wrap64 (x1 + x12)) : Int).toNat) ++ x15) ++ (x0.extract (x16 : Int).toNat (x10 : Int).toNat), 0)) else (some ((⟨#[]⟩ : ByteArray), 500)))) else (none)) else (none)) else (none)) else (none)) else (none)) else (none)) else (none)) else (none))
end
def comp_Data.f (k : Nat) (a0 : ByteArray) (a1 : Int) (a2 : Int) (a3 : Int) : Option (ByteArray × Int) := if a1 < 0 then (comp_Data.j0 k a0 a1 a2 a3 true) else (if a2 < 0 then (comp_Data.j0 k a0 a1 a2 a3 true) else (if a1 > (a0.size : Int) then (comp_Data.j0 k a0 a1 a2 a3 true) else (comp_Data.j0 k a0 a1 a2 a3 (decide (a2 > (wrap64 ((a0.size : Int) - a1)))))))
theorem comp_Data.mono_l : ∀ k, (∀ y0 y1 y2 y3 y4, LeO (comp_Data.j0 k y0 y1 y2 y3 y4) (comp_Data.j0 (k + 1) y0 y1 y2 y3 y4)) ∧ (∀ y0 y1 y2 y3 y4 y5 y6 y7, LeO (comp_Data.j1 k y0 y1 y2 y3 y4 y5 y6 y7) (comp_Data.j1 (k + 1) y0 y1 y2 y3 y4 y5 y6 y7))
  | 0 => ⟨fun _ _ _ _ _ r h => by simp [comp_Data.j0] at h, fun _ _ _ _ _ _ _ _ r h => by simp [comp_Data.j1] at h⟩
  | k + 1 => by
    obtain ⟨ih0, ih1⟩ := comp_Data.mono_l k
    refine ⟨?_, ?_⟩
    · intro y0 y1 y2 y3 y4
      unfold comp_Data.j0
      repeat' first
      | (with_reducible exact ih0 _ _ _ _ _)
      | (with_reducible exact ih1 _ _ _ _ _ _ _ _)
      | (with_reducible exact comp_names.mono _ _ _ _)
      | (with_reducible exact comp_shape.mono _ _)
      | (with_reducible exact LeO.refl _)
      | (with_reducible exact LeO.none _)
      | (with_reducible refine LeO.ite ?_ ?_)
      | (with_reducible refine LeO.bind ?_ (fun _ => ?_))
      | exact ih0 _ _ _ _ _
      | exact ih1 _ _ _ _ _ _ _ _
      | exact comp_names.mono _ _ _ _
      | exact comp_shape.mono _ _
      | exact LeO.none _
      | refine LeO.ite ?_ ?_
      | refine LeO.bind ?_ (fun _ => ?_)
    · intro y0 y1 y2 y3 y4 y5 y6 y7
      unfold comp_Data.j1
      repeat' first
      | (with_reducible exact ih0 _ _ _ _ _)
      | (with_reducible exact ih1 _ _ _ _ _ _ _ _)
      | (with_reducible exact comp_names.mono _ _ _ _)
      | (with_reducible exact comp_shape.mono _ _)
      | (with_reducible exact LeO.refl _)
      | (with_reducible exact LeO.none _)
      | (with_reducible refine LeO.ite ?_ ?_)
      | (with_reducible refine LeO.bind ?_ (fun _ => ?_))
      | exact ih0 _ _ _ _ _
      | exact ih1 _ _ _ _ _ _ _ _
      | exact comp_names.mono _ _ _ _
      | exact comp_shape.mono _ _
      | exact LeO.none _
      | refine LeO.ite ?_ ?_
      | refine LeO.bind ?_ (fun _ => ?_)
theorem comp_Data.mono : ∀ a0 a1 a2 a3 k, LeO (comp_Data.f k a0 a1 a2 a3) (comp_Data.f (k + 1) a0 a1 a2 a3) := by
  intro a0 a1 a2 a3 k
  obtain ⟨ih0, ih1⟩ := comp_Data.mono_l k
  unfold comp_Data.f
  repeat' first
      | (with_reducible exact ih0 _ _ _ _ _)
      | (with_reducible exact ih1 _ _ _ _ _ _ _ _)
      | (with_reducible exact comp_names.mono _ _ _ _)
      | (with_reducible exact comp_shape.mono _ _)
      | (with_reducible exact LeO.refl _)
      | (with_reducible exact LeO.none _)
      | (with_reducible refine LeO.ite ?_ ?_)
      | (with_reducible refine LeO.bind ?_ (fun _ => ?_))
      | exact ih0 _ _ _ _ _
      | exact ih1 _ _ _ _ _ _ _ _
      | exact comp_names.mono _ _ _ _
      | exact comp_shape.mono _ _
      | exact LeO.none _
      | refine LeO.ite ?_ ?_
      | refine LeO.bind ?_ (fun _ => ?_)
set_option maxHeartbeats 8000000 in
set_option maxRecDepth 100000 in
theorem comp_Data.calls (k : Nat) (a0 : ByteArray) (a1 : Int) (a2 : Int) (a3 : Int) (r1 : ByteArray) (r2 : Int) (w : World) (h : comp_Data.f k a0 a1 a2 a3 = some (r1, r2)) :
    Calls Try.prog 97 #[.string a0, .int .i64 a1, .int .i64 a2, .int .i64 a3] w fun e w' => e = .returned (.tuple #[.string r1, .int .i64 r2]) ∧ Below w.heap.size w w' := by
  have HB := Aside0.mk (Below.refl w.heap.size w)
  have H : (if a1 < 0 then (comp_Data.j0 k a0 a1 a2 a3 true) else (if a2 < 0 then (comp_Data.j0 k a0 a1 a2 a3 true) else (if a1 > (a0.size : Int) then (comp_Data.j0 k a0 a1 a2 a3 true) else (comp_Data.j0 k a0 a1 a2 a3 (decide (a2 > (wrap64 ((a0.size : Int) - a1)))))))) = some (r1, r2) := h
  clear h
  have HC5 := Aside0.mk H
  clear H
  go_enter Try.func97, Try.ntmps97
  go_upto_region 1 with (fail)
  repeat (go_quiet (fail); go_upto_region 1 with (fail))
  go_cut [37] (fun v37 wc => ∃ (kq : Nat) (x37_4 : Bool), v37 = .bool x37_4 ∧ Aside0 (comp_Data.j0 kq a0 a1 a2 a3 x37_4 = some (r1, r2)) ∧ Aside0 (kq ≤ k) ∧ Aside0 (Below w.heap.size w wc))
  case first =>
    have H := HC5.out
    clear HC5
    by_cases c6 : a1 < 0
    · rw [if_pos c6] at H
      have c6b0 : decide (a1 < 0) = true := decide_eq_true c6
      clear c6
      (first | rw [c6b0] | (simp only [i64_w, i32_w]; rw [c6b0]) | skip)
      have H' := Aside0.mk H
      clear H
      go_wp2
      repeat (go_quiet (fail); try go_wp2)
      go_meet
      case rel => exact ⟨_, (true), (by first | rfl | (simp; done) | (simp [*]; done)), H', ⟨by first | omega | exact Nat.le_refl _⟩, ⟨by repeat (first | (with_reducible first | exact HB.out | apply below_alloc | apply pw_below_drewN | apply below_drew1) | exact HB.out)⟩⟩
    · rw [if_neg c6] at H
      have c6b0 : decide (a1 < 0) = false := decide_eq_false c6
      clear c6
      (first | rw [c6b0] | (simp only [i64_w, i32_w]; rw [c6b0]) | skip)
      by_cases c7 : a2 < 0
      · rw [if_pos c7] at H
        have c7b0 : decide (a2 < 0) = true := decide_eq_true c7
        clear c7
        have H' := Aside0.mk H
        clear H
        go_wp2
        repeat (go_quiet (fail); try go_wp2)
        go_meet
        case rel => exact ⟨_, (true), (by first | rfl | (simp; done) | (simp [*]; done)), H', ⟨by first | omega | exact Nat.le_refl _⟩, ⟨by repeat (first | (with_reducible first | exact HB.out | apply below_alloc | apply pw_below_drewN | apply below_drew1) | exact HB.out)⟩⟩
      · rw [if_neg c7] at H
        have c7b0 : decide (a2 < 0) = false := decide_eq_false c7
        clear c7
        by_cases c8 : a1 > (a0.size : Int)
        · rw [if_pos c8] at H
          have c8b0 : decide ((a0.size : Int) < a1) = true := decide_eq_true c8
          clear c8
          have H' := Aside0.mk H
          clear H
          go_wp2
          repeat (go_quiet (fail); try go_wp2)
          go_meet
          case rel => exact ⟨_, (true), (by first | rfl | (simp; done) | (simp [*]; done)), H', ⟨by first | omega | exact Nat.le_refl _⟩, ⟨by repeat (first | (with_reducible first | exact HB.out | apply below_alloc | apply pw_below_drewN | apply below_drew1) | exact HB.out)⟩⟩
        · rw [if_neg c8] at H
          have c8b0 : decide ((a0.size : Int) < a1) = false := decide_eq_false c8
          clear c8
          have H' := Aside0.mk H
          clear H
          go_wp2
          repeat (go_quiet (fail); try go_wp2)
          go_meet
          case rel => exact ⟨_, (decide (a2 > (wrap64 ((a0.size : Int) - a1)))), (by first | rfl | (simp; done) | (simp [*]; done)), H', ⟨by first | omega | exact Nat.le_refl _⟩, ⟨by repeat (first | (with_reducible first | exact HB.out | apply below_alloc | apply pw_below_drewN | apply below_drew1) | exact HB.out)⟩⟩
  case rest =>
    clear HC5
    try clear p2
    try clear c6
    try clear c6b0
    try clear p6
    try clear c7
    try clear c7b0
    try clear c8
    try clear c8b0
    obtain ⟨kq, x37_4, rfl, HA, HJ4, HB⟩ := hcut
    cases kq with
    | zero => exact absurd HA.out (by simp [comp_Data.j0])
    | succ kj4 =>
      have H := HA.out
      clear HA
      simp only [comp_Data.j0] at H
      by_cases c9 : x37_4 = true
      · subst c9
        have H1 : (some ((⟨#[]⟩ : ByteArray), 500)) = some (r1, r2) := by rw [if_pos rfl] at H; exact H
        clear H
        have H := H1
        clear H1
        simp only [Option.some.injEq, Prod.mk.injEq] at H
        obtain ⟨rfl, rfl⟩ := H
        go_wp2
        repeat (go_quiet (fail); try go_wp2)
        go_ret2
        exact ⟨by first | rfl | (simp [errW_none, errW_some] <;> rfl) | (simp [*, errW_none, errW_some] <;> rfl), by repeat (first | (with_reducible first | exact HB.out | apply below_alloc | apply pw_below_drewN | apply below_drew1) | exact HB.out)⟩
      · replace c9 := Bool.eq_false_iff.mpr c9
        subst c9
        have H1 : (if 0 ≤ a1 then (if a1 ≤ (wrap64 (a1 + a2)) then (if (wrap64 (a1 + a2)) ≤ (a0.size : Int) then ((comp_shape.f kj4 a3).bind fun bt116 => (if bt116.2.1 > 0 then (if a2 < (wrap64 (bt116.1 + bt116.2.2)) then (some ((⟨#[]⟩ : ByteArray), 500)) else ((comp_names.f kj4 a0 (wrap64 (a1 + bt116.1)) bt116.2.1).bind fun bt119 => (if bt119.2.2 = 0 then (comp_Data.j1 kj4 a0 a1 a3 (wrap64 (a1 + a2)) bt116.1 bt119.1 bt119.2.1 (bt119.2.1 != (wrap64 ((wrap64 (a1 + a2)) - bt116.2.2)))) else (comp_Data.j1 kj4 a0 a1 a3 (wrap64 (a1 + a2)) bt116.1 bt119.1 bt119.2.1 true)))) else ((rdata_May.f a3 (a0.extract (a1 : Int).toNat ((wrap64 (a1 + a2)) : Int).toNat)).bind fun t123 => (if t123 = true then (some (a0.extract (a1 : Int).toNat ((wrap64 (a1 + a2)) : Int).toNat, 0)) else (some ((⟨#[]⟩ : ByteArray), 500)))))) else (none)) else (none)) else (none)) = some (r1, r2) := by rw [if_neg (show ¬ (false = true) by decide)] at H; exact H
        clear H
        have H := H1
        clear H1
        by_cases c10 : 0 ≤ a1
        · rw [if_pos c10] at H
          have c10b0 := eq_true c10
          have c10b1 : decide (0 ≤ a1) = true := decide_eq_true c10
          clear c10
          by_cases c11 : a1 ≤ (wrap64 (a1 + a2))
          · rw [if_pos c11] at H
            have c11b0 := eq_true c11
            have c11b1 : decide (a1 ≤ (wrap64 (a1 + a2))) = true := decide_eq_true c11
            by_cases c12 : (wrap64 (a1 + a2)) ≤ (a0.size : Int)
            · rw [if_pos c12] at H
              have c12b0 := eq_true c12
              have c12b1 : decide ((wrap64 (a1 + a2)) ≤ (a0.size : Int)) = true := decide_eq_true c12
              replace H := Option.bind_eq_some_iff.mp H
              obtain ⟨⟨t116, t117, t118⟩, A130, H⟩ := H
              replace H : (if t117 > 0 then (if a2 < (wrap64 (t116 + t118)) then (some ((⟨#[]⟩ : ByteArray), 500)) else ((comp_names.f kj4 a0 (wrap64 (a1 + t116)) t117).bind fun bt119 => (if bt119.2.2 = 0 then (comp_Data.j1 kj4 a0 a1 a3 (wrap64 (a1 + a2)) t116 bt119.1 bt119.2.1 (bt119.2.1 != (wrap64 ((wrap64 (a1 + a2)) - t118)))) else (comp_Data.j1 kj4 a0 a1 a3 (wrap64 (a1 + a2)) t116 bt119.1 bt119.2.1 true)))) else ((rdata_May.f a3 (a0.extract (a1 : Int).toNat ((wrap64 (a1 + a2)) : Int).toNat)).bind fun t123 => (if t123 = true then (some (a0.extract (a1 : Int).toNat ((wrap64 (a1 + a2)) : Int).toNat, 0)) else (some ((⟨#[]⟩ : ByteArray), 500))))) = some (r1, r2) := H
              have A13 := Aside0.mk A130
              clear A130
              by_cases c14 : t117 > 0
              · rw [if_pos c14] at H
                have c14b0 : decide (0 < t117) = true := decide_eq_true c14
                clear c14
                by_cases c15 : a2 < (wrap64 (t116 + t118))
                · rw [if_pos c15] at H
                  have c15b0 : decide (a2 < (wrap64 (t116 + t118))) = true := decide_eq_true c15
                  clear c15
                  simp only [Option.some.injEq, Prod.mk.injEq] at H
                  obtain ⟨rfl, rfl⟩ := H
                  go_wp2_with (first | (go_at_call 104; (with_reducible refine (comp_shape.calls kj4 a3 t116 t117 t118 _ A13.out).mono ?_); rintro e w' ⟨rfl, ⟨nd, rfl⟩⟩; (try first | exact ⟨rfl, _, World.drewN_drewN _ _ _⟩ | exact ⟨rfl, _, Eq.trans (World.drewN_drewN _ _ _) (congrArg (World.drewN _) (Nat.add_assoc _ _ _))⟩)))
                  repeat (go_quiet (first | (go_at_call 104; (with_reducible refine (comp_shape.calls kj4 a3 t116 t117 t118 _ A13.out).mono ?_); rintro e w' ⟨rfl, ⟨nd, rfl⟩⟩; (try first | exact ⟨rfl, _, World.drewN_drewN _ _ _⟩ | exact ⟨rfl, _, Eq.trans (World.drewN_drewN _ _ _) (congrArg (World.drewN _) (Nat.add_assoc _ _ _))⟩))); try go_wp2_with (first | (go_at_call 104; (with_reducible refine (comp_shape.calls kj4 a3 t116 t117 t118 _ A13.out).mono ?_); rintro e w' ⟨rfl, ⟨nd, rfl⟩⟩; (try first | exact ⟨rfl, _, World.drewN_drewN _ _ _⟩ | exact ⟨rfl, _, Eq.trans (World.drewN_drewN _ _ _) (congrArg (World.drewN _) (Nat.add_assoc _ _ _))⟩))))
                  go_ret2
                  exact ⟨by first | rfl | (simp [errW_none, errW_some] <;> rfl) | (simp [*, errW_none, errW_some] <;> rfl), by repeat (first | (with_reducible first | exact HB.out | apply below_alloc | apply pw_below_drewN | apply below_drew1) | exact HB.out)⟩
                · rw [if_neg c15] at H
                  have c15b0 : decide (a2 < (wrap64 (t116 + t118))) = false := decide_eq_false c15
                  clear c15
                  replace H := Option.bind_eq_some_iff.mp H
                  obtain ⟨⟨t119, t120, t121⟩, A160, H⟩ := H
                  replace H : (if t121 = 0 then (comp_Data.j1 kj4 a0 a1 a3 (wrap64 (a1 + a2)) t116 t119 t120 (t120 != (wrap64 ((wrap64 (a1 + a2)) - t118)))) else (comp_Data.j1 kj4 a0 a1 a3 (wrap64 (a1 + a2)) t116 t119 t120 true)) = some (r1, r2) := H
                  have A16 := Aside0.mk A160
                  clear A160
                  have HC17 := Aside0.mk H
                  clear H
                  go_upto_region 10 with (first | (go_at_call 104; (with_reducible refine (comp_shape.calls kj4 a3 t116 t117 t118 _ A13.out).mono ?_); rintro e w' ⟨rfl, ⟨nd, rfl⟩⟩; (try first | exact ⟨rfl, _, World.drewN_drewN _ _ _⟩ | exact ⟨rfl, _, Eq.trans (World.drewN_drewN _ _ _) (congrArg (World.drewN _) (Nat.add_assoc _ _ _))⟩)) | (go_at_call 105; (with_reducible refine (comp_names.calls kj4 a0 (wrap64 (a1 + t116)) t117 t119 t120 t121 _ A16.out).mono ?_); rintro e w18 ⟨rfl, hb⟩; have n0_ := Aside0.mk (below_step (by repeat (first | (with_reducible first | exact HB.out | apply below_alloc | apply pw_below_drewN | apply below_drew1) | exact HB.out)) hb); clear HB; have HB := n0_; clear n0_; (try clear hb); (try clear hb2); (try clear hk); (try clear hi)))
                  repeat (go_quiet (first | (go_at_call 104; (with_reducible refine (comp_shape.calls kj4 a3 t116 t117 t118 _ A13.out).mono ?_); rintro e w' ⟨rfl, ⟨nd, rfl⟩⟩; (try first | exact ⟨rfl, _, World.drewN_drewN _ _ _⟩ | exact ⟨rfl, _, Eq.trans (World.drewN_drewN _ _ _) (congrArg (World.drewN _) (Nat.add_assoc _ _ _))⟩)) | (go_at_call 105; (with_reducible refine (comp_names.calls kj4 a0 (wrap64 (a1 + t116)) t117 t119 t120 t121 _ A16.out).mono ?_); rintro e w18 ⟨rfl, hb⟩; have n0_ := Aside0.mk (below_step (by repeat (first | (with_reducible first | exact HB.out | apply below_alloc | apply pw_below_drewN | apply below_drew1) | exact HB.out)) hb); clear HB; have HB := n0_; clear n0_; (try clear hb); (try clear hb2); (try clear hk); (try clear hi))); go_upto_region 10 with (first | (go_at_call 104; (with_reducible refine (comp_shape.calls kj4 a3 t116 t117 t118 _ A13.out).mono ?_); rintro e w' ⟨rfl, ⟨nd, rfl⟩⟩; (try first | exact ⟨rfl, _, World.drewN_drewN _ _ _⟩ | exact ⟨rfl, _, Eq.trans (World.drewN_drewN _ _ _) (congrArg (World.drewN _) (Nat.add_assoc _ _ _))⟩)) | (go_at_call 105; (with_reducible refine (comp_names.calls kj4 a0 (wrap64 (a1 + t116)) t117 t119 t120 t121 _ A16.out).mono ?_); rintro e w18 ⟨rfl, hb⟩; have n0_ := Aside0.mk (below_step (by repeat (first | (with_reducible first | exact HB.out | apply below_alloc | apply pw_below_drewN | apply below_drew1) | exact HB.out)) hb); clear HB; have HB := n0_; clear n0_; (try clear hb); (try clear hb2); (try clear hk); (try clear hi))))
                  (try simp only [Act.put, List.setIfInBounds_toArray, List.set_cons_zero, List.set_cons_succ])
                  go_cut [76] (fun v76 wc => ∃ (kq : Nat) (x76_16 : Bool), v76 = .bool x76_16 ∧ Aside0 (comp_Data.j1 kq a0 a1 a3 (wrap64 (a1 + a2)) t116 t119 t120 x76_16 = some (r1, r2)) ∧ Aside0 (kq ≤ kj4) ∧ Aside0 (Below w.heap.size w wc))
                  case first =>
                    have H := HC17.out
                    clear HC17
                    by_cases c19 : t121 = 0
                    · rw [if_pos c19] at H
                      have c19b0 : (t121 == 0) = true := beq_iff_eq.mpr c19
                      have c19b1 : (t121 != 0) = false := bne_eq_false_iff_eq.mpr c19
                      clear c19
                      (first | rw [c19b0] | (simp only [i64_w, i32_w]; rw [c19b0]) | skip)
                      have H' := Aside0.mk H
                      clear H
                      go_wp2
                      repeat (go_quiet (fail); try go_wp2)
                      go_meet
                      case rel => exact ⟨_, ((t120 != (wrap64 ((wrap64 (a1 + a2)) - t118)))), (by first | rfl | (simp; done) | (simp [*]; done)), H', ⟨by have := HJ4.out; first | omega | exact Nat.le_refl _⟩, ⟨by repeat (first | (with_reducible first | exact HB.out | apply below_alloc | apply pw_below_drewN | apply below_drew1) | exact HB.out)⟩⟩
                    · rw [if_neg c19] at H
                      have c19b0 : (t121 == 0) = false := beq_eq_false_iff_ne.mpr c19
                      have c19b1 : (t121 != 0) = true := bne_iff_ne.mpr c19
                      (first | rw [c19b0] | (simp only [i64_w, i32_w]; rw [c19b0]) | skip)
                      have H' := Aside0.mk H
                      clear H
                      go_wp2
                      repeat (go_quiet (fail); try go_wp2)
                      go_meet
                      case rel => exact ⟨_, (true), (by first | rfl | (simp; done) | (simp [*]; done)), H', ⟨by have := HJ4.out; first | omega | exact Nat.le_refl _⟩, ⟨by repeat (first | (with_reducible first | exact HB.out | apply below_alloc | apply pw_below_drewN | apply below_drew1) | exact HB.out)⟩⟩
                  case rest =>
                    clear HC17
                    try clear c1
                    try clear p2
                    try clear c6
                    try clear c6b0
                    try clear p6
                    try clear c7
                    try clear c7b0
                    try clear c8
                    try clear c8b0
                    try clear c9
                    try clear c10
                    try clear c10b0
                    try clear c10b1
                    try clear c11
                    try clear c11b0
                    try clear c11b1
                    try clear c12
                    try clear c12b0
                    try clear c12b1
                    try clear c14
                    try clear c14b0
                    try clear c15
                    try clear c15b0
                    try clear c19
                    try clear c19b0
                    try clear c19b1
                    try clear p2
                    try clear p6
                    obtain ⟨kq, x76_16, rfl, HA, HJ16, HB⟩ := hcut
                    cases kq with
                    | zero => exact absurd HA.out (by simp [comp_Data.j1])
                    | succ kj16 =>
                      have H := HA.out
                      clear HA
                      simp only [comp_Data.j1] at H
                      by_cases c20 : x76_16 = true
                      · subst c20
                        have H1 : (some ((⟨#[]⟩ : ByteArray), 500)) = some (r1, r2) := by rw [if_pos rfl] at H; exact H
                        clear H
                        have H := H1
                        clear H1
                        simp only [Option.some.injEq, Prod.mk.injEq] at H
                        obtain ⟨rfl, rfl⟩ := H
                        go_wp2
                        repeat (go_quiet (fail); try go_wp2)
                        go_ret2
                        exact ⟨by first | rfl | (simp [errW_none, errW_some] <;> rfl) | (simp [*, errW_none, errW_some] <;> rfl), by repeat (first | (with_reducible first | exact HB.out | apply below_alloc | apply pw_below_drewN | apply below_drew1) | exact HB.out)⟩
                      · replace c20 := Bool.eq_false_iff.mpr c20
                        subst c20
                        have H1 : (if 0 ≤ a1 then (if a1 ≤ (wrap64 (a1 + t116)) then (if (wrap64 (a1 + t116)) ≤ (a0.size : Int) then (if (a0.extract (a1 : Int).toNat ((wrap64 (a1 + t116)) : Int).toNat).size + t119.size ≤ 9223372036854775807 then (if 0 ≤ t120 then (if t120 ≤ (wrap64 (a1 + a2)) then (if (wrap64 (a1 + a2)) ≤ (a0.size : Int) then (if ((a0.extract (a1 : Int).toNat ((wrap64 (a1 + t116)) : Int).toNat) ++ t119).size + (a0.extract (t120 : Int).toNat ((wrap64 (a1 + a2)) : Int).toNat).size ≤ 9223372036854775807 then ((rdata_May.f a3 (((a0.extract (a1 : Int).toNat ((wrap64 (a1 + t116)) : Int).toNat) ++ t119) ++ (a0.extract (t120 : Int).toNat ((wrap64 (a1 + a2)) : Int).toNat))).bind fun t122 => (if t122 = true then (some (((a0.extract (a1 : Int).toNat ((wrap64 (a1 + t116)) : Int).toNat) ++ t119) ++ (a0.extract (t120 : Int).toNat ((wrap64 (a1 + a2)) : Int).toNat), 0)) else (some ((⟨#[]⟩ : ByteArray), 500)))) else (none)) else (none)) else (none)) else (none)) else (none)) else (none)) else (none)) else (none)) = some (r1, r2) := by rw [if_neg (show ¬ (false = true) by decide)] at H; exact H
                        clear H
                        have H := H1
                        clear H1
                        by_cases c21 : 0 ≤ a1
                        · rw [if_pos c21] at H
                          have c21b0 := eq_true c21
                          have c21b1 : decide (0 ≤ a1) = true := decide_eq_true c21
                          clear c21
                          by_cases c22 : a1 ≤ (wrap64 (a1 + t116))
                          · rw [if_pos c22] at H
                            have c22b0 := eq_true c22
                            have c22b1 : decide (a1 ≤ (wrap64 (a1 + t116))) = true := decide_eq_true c22
                            by_cases c23 : (wrap64 (a1 + t116)) ≤ (a0.size : Int)
                            · rw [if_pos c23] at H
                              have c23b0 := eq_true c23
                              have c23b1 : decide ((wrap64 (a1 + t116)) ≤ (a0.size : Int)) = true := decide_eq_true c23
                              by_cases c24 : (a0.extract (a1 : Int).toNat ((wrap64 (a1 + t116)) : Int).toNat).size + t119.size ≤ 9223372036854775807
                              · rw [if_pos c24] at H
                                have c24b0 := eq_true c24
                                have c24b1 : decide ((a0.extract (a1 : Int).toNat ((wrap64 (a1 + t116)) : Int).toNat).size + t119.size ≤ 9223372036854775807) = true := decide_eq_true c24
                                try have c24b2 : (9223372036854775807 < (a0.extract (a1 : Int).toNat ((wrap64 (a1 + t116)) : Int).toNat).size + t119.size) = False := eq_false (Nat.not_lt.2 c24)
                                by_cases c25 : 0 ≤ t120
                                · rw [if_pos c25] at H
                                  have c25b0 := eq_true c25
                                  have c25b1 : decide (0 ≤ t120) = true := decide_eq_true c25
                                  clear c25
                                  by_cases c26 : t120 ≤ (wrap64 (a1 + a2))
                                  · rw [if_pos c26] at H
                                    have c26b0 := eq_true c26
                                    have c26b1 : decide (t120 ≤ (wrap64 (a1 + a2))) = true := decide_eq_true c26
                                    by_cases c27 : (wrap64 (a1 + a2)) ≤ (a0.size : Int)
                                    · rw [if_pos c27] at H
                                      have c27b0 := eq_true c27
                                      have c27b1 : decide ((wrap64 (a1 + a2)) ≤ (a0.size : Int)) = true := decide_eq_true c27
                                      by_cases c28 : ((a0.extract (a1 : Int).toNat ((wrap64 (a1 + t116)) : Int).toNat) ++ t119).size + (a0.extract (t120 : Int).toNat ((wrap64 (a1 + a2)) : Int).toNat).size ≤ 9223372036854775807
                                      · rw [if_pos c28] at H
                                        have c28b0 := eq_true c28
                                        have c28b1 : decide (((a0.extract (a1 : Int).toNat ((wrap64 (a1 + t116)) : Int).toNat) ++ t119).size + (a0.extract (t120 : Int).toNat ((wrap64 (a1 + a2)) : Int).toNat).size ≤ 9223372036854775807) = true := decide_eq_true c28
                                        try have c28b2 : (9223372036854775807 < ((a0.extract (a1 : Int).toNat ((wrap64 (a1 + t116)) : Int).toNat) ++ t119).size + (a0.extract (t120 : Int).toNat ((wrap64 (a1 + a2)) : Int).toNat).size) = False := eq_false (Nat.not_lt.2 c28)
                                        try (have c28b3 := c28; simp only [ByteArray.size_append] at c28b3; replace c28b3 := eq_false (Nat.not_lt.2 c28b3))
                                        replace H := Option.bind_eq_some_iff.mp H
                                        obtain ⟨t122, A290, H⟩ := H
                                        replace H : (if t122 = true then (some (((a0.extract (a1 : Int).toNat ((wrap64 (a1 + t116)) : Int).toNat) ++ t119) ++ (a0.extract (t120 : Int).toNat ((wrap64 (a1 + a2)) : Int).toNat), 0)) else (some ((⟨#[]⟩ : ByteArray), 500))) = some (r1, r2) := H
                                        have A29 := Aside0.mk A290
                                        clear A290
                                        by_cases c30 : t122 = true
                                        · subst c30
                                          have H1 : (some (((a0.extract (a1 : Int).toNat ((wrap64 (a1 + t116)) : Int).toNat) ++ t119) ++ (a0.extract (t120 : Int).toNat ((wrap64 (a1 + a2)) : Int).toNat), 0)) = some (r1, r2) := by rw [if_pos rfl] at H; exact H
                                          clear H
                                          have H := H1
                                          clear H1
                                          simp only [Option.some.injEq, Prod.mk.injEq] at H
                                          obtain ⟨rfl, rfl⟩ := H
                                          go_wp2_with (first | (go_at_call 102; (with_reducible refine (rdata_May.calls a3 (((a0.extract (a1 : Int).toNat ((wrap64 (a1 + t116)) : Int).toNat) ++ t119) ++ (a0.extract (t120 : Int).toNat ((wrap64 (a1 + a2)) : Int).toNat)) true _ A29.out).mono ?_); rintro e w31 ⟨rfl, hb⟩; have n0_ := Aside0.mk (below_step (by repeat (first | (with_reducible first | exact HB.out | apply below_alloc | apply pw_below_drewN | apply below_drew1) | exact HB.out)) hb); clear HB; have HB := n0_; clear n0_; (try clear hb); (try clear hb2); (try clear hk); (try clear hi)))
                                          repeat (go_quiet (first | (go_at_call 102; (with_reducible refine (rdata_May.calls a3 (((a0.extract (a1 : Int).toNat ((wrap64 (a1 + t116)) : Int).toNat) ++ t119) ++ (a0.extract (t120 : Int).toNat ((wrap64 (a1 + a2)) : Int).toNat)) true _ A29.out).mono ?_); rintro e w31 ⟨rfl, hb⟩; have n0_ := Aside0.mk (below_step (by repeat (first | (with_reducible first | exact HB.out | apply below_alloc | apply pw_below_drewN | apply below_drew1) | exact HB.out)) hb); clear HB; have HB := n0_; clear n0_; (try clear hb); (try clear hb2); (try clear hk); (try clear hi))); try go_wp2_with (first | (go_at_call 102; (with_reducible refine (rdata_May.calls a3 (((a0.extract (a1 : Int).toNat ((wrap64 (a1 + t116)) : Int).toNat) ++ t119) ++ (a0.extract (t120 : Int).toNat ((wrap64 (a1 + a2)) : Int).toNat)) true _ A29.out).mono ?_); rintro e w31 ⟨rfl, hb⟩; have n0_ := Aside0.mk (below_step (by repeat (first | (with_reducible first | exact HB.out | apply below_alloc | apply pw_below_drewN | apply below_drew1) | exact HB.out)) hb); clear HB; have HB := n0_; clear n0_; (try clear hb); (try clear hb2); (try clear hk); (try clear hi))))
                                          go_ret2
                                          exact ⟨by first | rfl | (simp [errW_none, errW_some] <;> rfl) | (simp [*, errW_none, errW_some] <;> rfl), by repeat (first | (with_reducible first | exact HB.out | apply below_alloc | apply pw_below_drewN | apply below_drew1) | exact HB.out)⟩
                                        · replace c30 := Bool.eq_false_iff.mpr c30
                                          subst c30
                                          have H1 : (some ((⟨#[]⟩ : ByteArray), 500)) = some (r1, r2) := by rw [if_neg (show ¬ (false = true) by decide)] at H; exact H
                                          clear H
                                          have H := H1
                                          clear H1
                                          simp only [Option.some.injEq, Prod.mk.injEq] at H
                                          obtain ⟨rfl, rfl⟩ := H
                                          go_wp2_with (first | (go_at_call 102; (with_reducible refine (rdata_May.calls a3 (((a0.extract (a1 : Int).toNat ((wrap64 (a1 + t116)) : Int).toNat) ++ t119) ++ (a0.extract (t120 : Int).toNat ((wrap64 (a1 + a2)) : Int).toNat)) false _ A29.out).mono ?_); rintro e w32 ⟨rfl, hb⟩; have n0_ := Aside0.mk (below_step (by repeat (first | (with_reducible first | exact HB.out | apply below_alloc | apply pw_below_drewN | apply below_drew1) | exact HB.out)) hb); clear HB; have HB := n0_; clear n0_; (try clear hb); (try clear hb2); (try clear hk); (try clear hi)))
                                          repeat (go_quiet (first | (go_at_call 102; (with_reducible refine (rdata_May.calls a3 (((a0.extract (a1 : Int).toNat ((wrap64 (a1 + t116)) : Int).toNat) ++ t119) ++ (a0.extract (t120 : Int).toNat ((wrap64 (a1 + a2)) : Int).toNat)) false _ A29.out).mono ?_); rintro e w32 ⟨rfl, hb⟩; have n0_ := Aside0.mk (below_step (by repeat (first | (with_reducible first | exact HB.out | apply below_alloc | apply pw_below_drewN | apply below_drew1) | exact HB.out)) hb); clear HB; have HB := n0_; clear n0_; (try clear hb); (try clear hb2); (try clear hk); (try clear hi))); try go_wp2_with (first | (go_at_call 102; (with_reducible refine (rdata_May.calls a3 (((a0.extract (a1 : Int).toNat ((wrap64 (a1 + t116)) : Int).toNat) ++ t119) ++ (a0.extract (t120 : Int).toNat ((wrap64 (a1 + a2)) : Int).toNat)) false _ A29.out).mono ?_); rintro e w32 ⟨rfl, hb⟩; have n0_ := Aside0.mk (below_step (by repeat (first | (with_reducible first | exact HB.out | apply below_alloc | apply pw_below_drewN | apply below_drew1) | exact HB.out)) hb); clear HB; have HB := n0_; clear n0_; (try clear hb); (try clear hb2); (try clear hk); (try clear hi))))
                                          go_ret2
                                          exact ⟨by first | rfl | (simp [errW_none, errW_some] <;> rfl) | (simp [*, errW_none, errW_some] <;> rfl), by repeat (first | (with_reducible first | exact HB.out | apply below_alloc | apply pw_below_drewN | apply below_drew1) | exact HB.out)⟩
                                      · rw [if_neg c28] at H
                                        exact absurd H (by simp)
                                    · rw [if_neg c27] at H
                                      exact absurd H (by simp)
                                  · rw [if_neg c26] at H
                                    exact absurd H (by simp)
                                · rw [if_neg c25] at H
                                  exact absurd H (by simp)
                              · rw [if_neg c24] at H
                                exact absurd H (by simp)
                            · rw [if_neg c23] at H
                              exact absurd H (by simp)
                          · rw [if_neg c22] at H
                            exact absurd H (by simp)
                        · rw [if_neg c21] at H
                          exact absurd H (by simp)
              · rw [if_neg c14] at H
                have c14b0 : decide (0 < t117) = false := decide_eq_false c14
                clear c14
                replace H := Option.bind_eq_some_iff.mp H
                obtain ⟨t123, A330, H⟩ := H
                replace H : (if t123 = true then (some (a0.extract (a1 : Int).toNat ((wrap64 (a1 + a2)) : Int).toNat, 0)) else (some ((⟨#[]⟩ : ByteArray), 500))) = some (r1, r2) := H
                have A33 := Aside0.mk A330
                clear A330
                by_cases c34 : t123 = true
                · subst c34
                  have H1 : (some (a0.extract (a1 : Int).toNat ((wrap64 (a1 + a2)) : Int).toNat, 0)) = some (r1, r2) := by rw [if_pos rfl] at H; exact H
                  clear H
                  have H := H1
                  clear H1
                  simp only [Option.some.injEq, Prod.mk.injEq] at H
                  obtain ⟨rfl, rfl⟩ := H
                  go_wp2_with (first | (go_at_call 104; (with_reducible refine (comp_shape.calls kj4 a3 t116 t117 t118 _ A13.out).mono ?_); rintro e w' ⟨rfl, ⟨nd, rfl⟩⟩; (try first | exact ⟨rfl, _, World.drewN_drewN _ _ _⟩ | exact ⟨rfl, _, Eq.trans (World.drewN_drewN _ _ _) (congrArg (World.drewN _) (Nat.add_assoc _ _ _))⟩)) | (go_at_call 102; (with_reducible refine (rdata_May.calls a3 (a0.extract (a1 : Int).toNat ((wrap64 (a1 + a2)) : Int).toNat) true _ A33.out).mono ?_); rintro e w35 ⟨rfl, hb⟩; have n0_ := Aside0.mk (below_step (by repeat (first | (with_reducible first | exact HB.out | apply below_alloc | apply pw_below_drewN | apply below_drew1) | exact HB.out)) hb); clear HB; have HB := n0_; clear n0_; (try clear hb); (try clear hb2); (try clear hk); (try clear hi)))
                  repeat (go_quiet (first | (go_at_call 104; (with_reducible refine (comp_shape.calls kj4 a3 t116 t117 t118 _ A13.out).mono ?_); rintro e w' ⟨rfl, ⟨nd, rfl⟩⟩; (try first | exact ⟨rfl, _, World.drewN_drewN _ _ _⟩ | exact ⟨rfl, _, Eq.trans (World.drewN_drewN _ _ _) (congrArg (World.drewN _) (Nat.add_assoc _ _ _))⟩)) | (go_at_call 102; (with_reducible refine (rdata_May.calls a3 (a0.extract (a1 : Int).toNat ((wrap64 (a1 + a2)) : Int).toNat) true _ A33.out).mono ?_); rintro e w35 ⟨rfl, hb⟩; have n0_ := Aside0.mk (below_step (by repeat (first | (with_reducible first | exact HB.out | apply below_alloc | apply pw_below_drewN | apply below_drew1) | exact HB.out)) hb); clear HB; have HB := n0_; clear n0_; (try clear hb); (try clear hb2); (try clear hk); (try clear hi))); try go_wp2_with (first | (go_at_call 104; (with_reducible refine (comp_shape.calls kj4 a3 t116 t117 t118 _ A13.out).mono ?_); rintro e w' ⟨rfl, ⟨nd, rfl⟩⟩; (try first | exact ⟨rfl, _, World.drewN_drewN _ _ _⟩ | exact ⟨rfl, _, Eq.trans (World.drewN_drewN _ _ _) (congrArg (World.drewN _) (Nat.add_assoc _ _ _))⟩)) | (go_at_call 102; (with_reducible refine (rdata_May.calls a3 (a0.extract (a1 : Int).toNat ((wrap64 (a1 + a2)) : Int).toNat) true _ A33.out).mono ?_); rintro e w35 ⟨rfl, hb⟩; have n0_ := Aside0.mk (below_step (by repeat (first | (with_reducible first | exact HB.out | apply below_alloc | apply pw_below_drewN | apply below_drew1) | exact HB.out)) hb); clear HB; have HB := n0_; clear n0_; (try clear hb); (try clear hb2); (try clear hk); (try clear hi))))
                  go_ret2
                  exact ⟨by first | rfl | (simp [errW_none, errW_some] <;> rfl) | (simp [*, errW_none, errW_some] <;> rfl), by repeat (first | (with_reducible first | exact HB.out | apply below_alloc | apply pw_below_drewN | apply below_drew1) | exact HB.out)⟩
                · replace c34 := Bool.eq_false_iff.mpr c34
                  subst c34
                  have H1 : (some ((⟨#[]⟩ : ByteArray), 500)) = some (r1, r2) := by rw [if_neg (show ¬ (false = true) by decide)] at H; exact H
                  clear H
                  have H := H1
                  clear H1
                  simp only [Option.some.injEq, Prod.mk.injEq] at H
                  obtain ⟨rfl, rfl⟩ := H
                  go_wp2_with (first | (go_at_call 104; (with_reducible refine (comp_shape.calls kj4 a3 t116 t117 t118 _ A13.out).mono ?_); rintro e w' ⟨rfl, ⟨nd, rfl⟩⟩; (try first | exact ⟨rfl, _, World.drewN_drewN _ _ _⟩ | exact ⟨rfl, _, Eq.trans (World.drewN_drewN _ _ _) (congrArg (World.drewN _) (Nat.add_assoc _ _ _))⟩)) | (go_at_call 102; (with_reducible refine (rdata_May.calls a3 (a0.extract (a1 : Int).toNat ((wrap64 (a1 + a2)) : Int).toNat) false _ A33.out).mono ?_); rintro e w36 ⟨rfl, hb⟩; have n0_ := Aside0.mk (below_step (by repeat (first | (with_reducible first | exact HB.out | apply below_alloc | apply pw_below_drewN | apply below_drew1) | exact HB.out)) hb); clear HB; have HB := n0_; clear n0_; (try clear hb); (try clear hb2); (try clear hk); (try clear hi)))
                  repeat (go_quiet (first | (go_at_call 104; (with_reducible refine (comp_shape.calls kj4 a3 t116 t117 t118 _ A13.out).mono ?_); rintro e w' ⟨rfl, ⟨nd, rfl⟩⟩; (try first | exact ⟨rfl, _, World.drewN_drewN _ _ _⟩ | exact ⟨rfl, _, Eq.trans (World.drewN_drewN _ _ _) (congrArg (World.drewN _) (Nat.add_assoc _ _ _))⟩)) | (go_at_call 102; (with_reducible refine (rdata_May.calls a3 (a0.extract (a1 : Int).toNat ((wrap64 (a1 + a2)) : Int).toNat) false _ A33.out).mono ?_); rintro e w36 ⟨rfl, hb⟩; have n0_ := Aside0.mk (below_step (by repeat (first | (with_reducible first | exact HB.out | apply below_alloc | apply pw_below_drewN | apply below_drew1) | exact HB.out)) hb); clear HB; have HB := n0_; clear n0_; (try clear hb); (try clear hb2); (try clear hk); (try clear hi))); try go_wp2_with (first | (go_at_call 104; (with_reducible refine (comp_shape.calls kj4 a3 t116 t117 t118 _ A13.out).mono ?_); rintro e w' ⟨rfl, ⟨nd, rfl⟩⟩; (try first | exact ⟨rfl, _, World.drewN_drewN _ _ _⟩ | exact ⟨rfl, _, Eq.trans (World.drewN_drewN _ _ _) (congrArg (World.drewN _) (Nat.add_assoc _ _ _))⟩)) | (go_at_call 102; (with_reducible refine (rdata_May.calls a3 (a0.extract (a1 : Int).toNat ((wrap64 (a1 + a2)) : Int).toNat) false _ A33.out).mono ?_); rintro e w36 ⟨rfl, hb⟩; have n0_ := Aside0.mk (below_step (by repeat (first | (with_reducible first | exact HB.out | apply below_alloc | apply pw_below_drewN | apply below_drew1) | exact HB.out)) hb); clear HB; have HB := n0_; clear n0_; (try clear hb); (try clear hb2); (try clear hk); (try clear hi))))
                  go_ret2
                  exact ⟨by first | rfl | (simp [errW_none, errW_some] <;> rfl) | (simp [*, errW_none, errW_some] <;> rfl), by repeat (first | (with_reducible first | exact HB.out | apply below_alloc | apply pw_below_drewN | apply below_drew1) | exact HB.out)⟩
            · rw [if_neg c12] at H
              exact absurd H (by simp)
          · rw [if_neg c11] at H
            exact absurd H (by simp)
        · rw [if_neg c10] at H
          exact absurd H (by simp)

end Go.Proofs.Ytjklgdpffmaamaa.PCm

namespace Go.Proofs.Ytjklgdpffmaamaa.Wm
open Go.RowKit Go.PlainAid Go.Maps Go.Proofs.Ytjklgdpffmaamaa.Base Go.Proofs.Ytjklgdpffmaamaa.Oct Go.Proofs.Ytjklgdpffmaamaa.Nm
open Go.Proofs.YtjklgdpffmaamaaW.PrintWords (blk_cell blk_below blk_put blk_frozen blk_ne blk_new blk_lt blk_grown LeO)
set_option linter.unusedVariables false
/-- Where the reader stands, whether something was bad. -/
structure Rs where
  at_ : Int
  bad : Bool
def u16V (s : ByteArray) (i : Int) : Int × Int × Int := if 0 ≤ i ∧ i + 2 ≤ s.size then (be2 s i.toNat, i + 2, 0) else (0, 0, 300)
def u32V (s : ByteArray) (i : Int) : Int × Int × Int := if 0 ≤ i ∧ i + 4 ≤ s.size then (be4 s i.toNat, i + 4, 0) else (0, 0, 300)
def numV (r : Rs) (x : Int × Int × Int) : Int × Rs := if r.bad || x.2.2 != 0 then (0, ⟨r.at_, true⟩) else (x.1, ⟨x.2.1, false⟩)
structure RdAt (w : World) (g : Nat) (s : ByteArray) (r : Rs) : Prop where
  blk : w.heap[g]? = some (.cells #[.string s, .int .i64 r.at_, .bool r.bad] 120 (0, 0))
section
variable {w w1 w' : World} {g : Nat} {s : ByteArray} {r : Rs}
theorem RdAt.below (h : RdAt w g s r) (hb : Below w.heap.size w w') : RdAt w' g s r := ⟨blk_below h.blk hb⟩
theorem grown_below (hb : Below w.heap.size w w') (row : Option Nat) : w.grownBy w' row := ⟨hb.os, hb.tape, hb.output, hb.size, fun k hk _ => hb.block k hk⟩
theorem grown_set (w : World) (g i : Nat) (v : Value) : w.grownBy (w.setCell ⟨g, i, none⟩ v) (some g) := ⟨rfl, rfl, rfl, by simp [World.setCell], fun k hk h => Below.heap_setCell w _ _ k (by rintro rfl; exact h rfl)⟩
theorem grown_far {w W : World} {row : Option Nat} (h : w.grownBy W row) {p : Addr} (hp : w.heap.size ≤ p.block) (v : Value) : w.grownBy (W.setCell p v) row :=
  ⟨h.os, h.tape, h.output, by simpa [World.setCell] using h.size, fun k hk hne => (Below.heap_setCell W p v k (by omega)).trans (h.block k hk hne)⟩
theorem grown_set' {w W : World} {g : Nat} (h : w.grownBy W (some g)) (i : Nat) (v : Value) : w.grownBy (W.setCell ⟨g, i, none⟩ v) (some g) := h.trans (grown_set W g i v)
theorem grown_alloc' {w W : World} {row : Option Nat} (h : w.grownBy W row) (o : Obj) : w.grownBy (W.alloc o) row := h.trans (World.grownBy_alloc W _ _)
theorem blk_set_ne {w : World} {g : Nat} {o : Obj} {p : Addr} (h : w.heap[g]? = some o) (hne : g ≠ p.block) (v : Value) : (w.setCell p v).heap[g]? = some o := (Below.heap_setCell w p v g hne).trans h
theorem u16c (s : ByteArray) (i : Int) (w : World) (hs : s.size ≤ 9223372036854775000) : Calls Try.prog 92 #[.string s, .int .i64 i] w fun e w' => e = .returned (.tuple #[.int .i64 (u16V s i).1, .int .i64 (u16V s i).2.1, .int .i64 (u16V s i).2.2]) ∧ w = w' := by
  unfold u16V
  by_cases h : 0 ≤ i ∧ i + 2 ≤ s.size
  · rw [if_pos h]; exact u16z s i w hs h.1 h.2
  · rw [if_neg h]; exact u16n s i w hs h
theorem u32c (s : ByteArray) (i : Int) (w : World) (hs : s.size ≤ 9223372036854775000) : Calls Try.prog 96 #[.string s, .int .i64 i] w fun e w' => e = .returned (.tuple #[.int .i64 (u32V s i).1, .int .i64 (u32V s i).2.1, .int .i64 (u32V s i).2.2]) ∧ w = w' := by
  unfold u32V
  by_cases h : 0 ≤ i ∧ i + 4 ≤ s.size
  · rw [if_pos h]; exact u32z s i w hs h.1 h.2
  · rw [if_neg h]; exact u32n s i w hs h
set_option maxHeartbeats 2000000 in
set_option maxRecDepth 100000 in
theorem num16 (H : RdAt w g s r) (hs : s.size ≤ 4096) : Calls Try.prog 95 #[.pointer (some ⟨g, 0, none⟩), .func (.func 92) #[] #[]] w fun e w' => e = .returned (.int .i64 (numV r (u16V s r.at_)).1) ∧ RdAt w' g s (numV r (u16V s r.at_)).2 ∧ w.grownBy w' (some g) := by
  have c0 : w.cell? ⟨g, 0, none⟩ = some (.string s) := (blk_cell H.blk 0).trans rfl
  have c1 : w.cell? ⟨g, 1, none⟩ = some (.int .i64 r.at_) := (blk_cell H.blk 1).trans rfl
  have kc := fun w => Hd.same_below (u16c s r.at_ w (by omega))
  have hblk := H.blk
  obtain ⟨ra, rb⟩ := r
  dsimp only at c1 kc hblk ⊢
  obtain ⟨Vv, hV⟩ : ∃ V, u16V s ra = V := ⟨_, rfl⟩
  simp only [hV] at kc ⊢
  clear hV
  obtain ⟨x, a, e⟩ := Vv
  dsimp only [numV] at kc ⊢
  have r0 := cell_regrown c0
  have r1 := cell_regrown c1
  have fin : ∀ (W : World) (b : Bool), W.heap[g]? = some (.cells #[.string s, .int .i64 ra, .bool rb] 120 (0, 0)) → (W.setCell ⟨g, 2, none⟩ (.bool b)).heap[g]? = some (.cells #[.string s, .int .i64 ra, .bool b] 120 (0, 0)) ∧ ((W.setCell ⟨g, 2, none⟩ (.bool b)).setCell ⟨g, 1, none⟩ (.int .i64 a)).heap[g]? = some (.cells #[.string s, .int .i64 a, .bool b] 120 (0, 0)) :=
    fun W b h => ⟨blk_put h 2 _ rfl, blk_put (blk_put h 2 (.bool b) rfl) 1 _ rfl⟩
  have FIN := Lib.hid fin
  clear fin
  go_enter Try.func95, Try.ntmps95
  go_upto_region 1 with (fail)
  refine wp_region_quiet_below (by kernel_rfl) (by kernel_rfl) ?_
  repeat (go_big_quiet_step (exact Calls.regrown_of (kc _)))
  refine wpQuiet_nil ?_
  intro _ hw'
  obtain ⟨⟨dq, osq⟩, hw''⟩ := hw'
  subst hw''
  have B1 := below_regrown w dq osq
  generalize Go.Sort.grow (redrawn w dq) osq = w1 at B1 ⊢
  have b1 := blk_below hblk B1
  have d2 : w1.cell? ⟨g, 2, none⟩ = some (.bool rb) := (blk_cell b1 2).trans rfl
  have d1 : w1.cell? ⟨g, 1, none⟩ = some (.int .i64 ra) := (blk_cell b1 1).trans rfl
  have f2 := blk_frozen b1 2
  have f1 := blk_frozen b1 1
  have G1 := grown_below B1 (some g)
  clear kc
  cases rb with
  | true =>
    go_wp2
    go_ret
    exact ⟨rfl, ⟨(FIN.out w1 true b1).1⟩, G1.trans (grown_set _ _ _ _)⟩
  | false =>
    by_cases he : e = 0
    · subst he
      have q : ((0 : Int) != 0) = false := by decide
      go_wp2
      go_ret
      exact ⟨rfl, ⟨(FIN.out w1 false b1).2⟩, (G1.trans (grown_set _ _ _ _)).trans (grown_set _ _ _ _)⟩
    · have q : (e == 0) = false := by simp [he]
      have q2 : (e != 0) = true := by simp [he]
      go_wp2
      go_ret
      exact ⟨rfl, ⟨(FIN.out w1 true b1).1⟩, G1.trans (grown_set _ _ _ _)⟩
set_option maxHeartbeats 2000000 in
set_option maxRecDepth 100000 in
theorem num32 (H : RdAt w g s r) (hs : s.size ≤ 4096) : Calls Try.prog 95 #[.pointer (some ⟨g, 0, none⟩), .func (.func 96) #[] #[]] w fun e w' => e = .returned (.int .i64 (numV r (u32V s r.at_)).1) ∧ RdAt w' g s (numV r (u32V s r.at_)).2 ∧ w.grownBy w' (some g) := by
  have c0 : w.cell? ⟨g, 0, none⟩ = some (.string s) := (blk_cell H.blk 0).trans rfl
  have c1 : w.cell? ⟨g, 1, none⟩ = some (.int .i64 r.at_) := (blk_cell H.blk 1).trans rfl
  have kc := fun w => Hd.same_below (u32c s r.at_ w (by omega))
  have hblk := H.blk
  obtain ⟨ra, rb⟩ := r
  dsimp only at c1 kc hblk ⊢
  obtain ⟨Vv, hV⟩ : ∃ V, u32V s ra = V := ⟨_, rfl⟩
  simp only [hV] at kc ⊢
  clear hV
  obtain ⟨x, a, e⟩ := Vv
  dsimp only [numV] at kc ⊢
  have r0 := cell_regrown c0
  have r1 := cell_regrown c1
  have fin : ∀ (W : World) (b : Bool), W.heap[g]? = some (.cells #[.string s, .int .i64 ra, .bool rb] 120 (0, 0)) → (W.setCell ⟨g, 2, none⟩ (.bool b)).heap[g]? = some (.cells #[.string s, .int .i64 ra, .bool b] 120 (0, 0)) ∧ ((W.setCell ⟨g, 2, none⟩ (.bool b)).setCell ⟨g, 1, none⟩ (.int .i64 a)).heap[g]? = some (.cells #[.string s, .int .i64 a, .bool b] 120 (0, 0)) :=
    fun W b h => ⟨blk_put h 2 _ rfl, blk_put (blk_put h 2 (.bool b) rfl) 1 _ rfl⟩
  have FIN := Lib.hid fin
  clear fin
  go_enter Try.func95, Try.ntmps95
  go_upto_region 1 with (fail)
  refine wp_region_quiet_below (by kernel_rfl) (by kernel_rfl) ?_
  repeat (go_big_quiet_step (exact Calls.regrown_of (kc _)))
  refine wpQuiet_nil ?_
  intro _ hw'
  obtain ⟨⟨dq, osq⟩, hw''⟩ := hw'
  subst hw''
  have B1 := below_regrown w dq osq
  generalize Go.Sort.grow (redrawn w dq) osq = w1 at B1 ⊢
  have b1 := blk_below hblk B1
  have d2 : w1.cell? ⟨g, 2, none⟩ = some (.bool rb) := (blk_cell b1 2).trans rfl
  have d1 : w1.cell? ⟨g, 1, none⟩ = some (.int .i64 ra) := (blk_cell b1 1).trans rfl
  have f2 := blk_frozen b1 2
  have f1 := blk_frozen b1 1
  have G1 := grown_below B1 (some g)
  clear kc
  cases rb with
  | true =>
    go_wp2
    go_ret
    exact ⟨rfl, ⟨(FIN.out w1 true b1).1⟩, G1.trans (grown_set _ _ _ _)⟩
  | false =>
    by_cases he : e = 0
    · subst he
      have q : ((0 : Int) != 0) = false := by decide
      go_wp2
      go_ret
      exact ⟨rfl, ⟨(FIN.out w1 false b1).2⟩, (G1.trans (grown_set _ _ _ _)).trans (grown_set _ _ _ _)⟩
    · have q : (e == 0) = false := by simp [he]
      have q2 : (e != 0) = true := by simp [he]
      go_wp2
      go_ret
      exact ⟨rfl, ⟨(FIN.out w1 true b1).1⟩, G1.trans (grown_set _ _ _ _)⟩
end
/-- A question that is read. -/
def questV (k : Nat) (s : ByteArray) (r : Rs) : Option (Qn × Rs) :=
  (PCm.comp_Name.f k s r.at_).bind fun x => if r.bad || x.2.2 != 0 then some (zQ, ⟨r.at_, true⟩) else
    some (⟨x.1, (numV ⟨x.2.1, false⟩ (u16V s x.2.1)).1, (numV (numV ⟨x.2.1, false⟩ (u16V s x.2.1)).2 (u16V s (numV ⟨x.2.1, false⟩ (u16V s x.2.1)).2.at_)).1⟩,
      ⟨(numV (numV ⟨x.2.1, false⟩ (u16V s x.2.1)).2 (u16V s (numV ⟨x.2.1, false⟩ (u16V s x.2.1)).2.at_)).2.at_, (numV (numV ⟨x.2.1, false⟩ (u16V s x.2.1)).2 (u16V s (numV ⟨x.2.1, false⟩ (u16V s x.2.1)).2.at_)).2.bad || (numV ⟨x.2.1, false⟩ (u16V s x.2.1)).1 == 0⟩)
section
variable {w w1 w' : World} {g : Nat} {s : ByteArray} {r : Rs}
set_option maxHeartbeats 4000000 in
set_option maxRecDepth 100000 in
theorem questc (H : RdAt w g s r) (hs : s.size ≤ 4096) {k : Nat} {q : Qn} {r' : Rs} (hq : questV k s r = some (q, r')) : Calls Try.prog 66 #[.pointer (some ⟨g, 0, none⟩)] w fun e w' => e = .returned (.agg #[.string q.name, .int .i64 q.type, .int .i64 q.cls]) ∧ RdAt w' g s r' ∧ w.grownBy w' (some g) := by
  have hglt := blk_lt H.blk
  unfold questV at hq
  obtain ⟨x, hx, hq⟩ := Option.bind_eq_some_iff.1 hq
  have kc := fun w => PCm.comp_Name.calls k s r.at_ x.1 x.2.1 x.2.2 w hx
  obtain ⟨n, a, e⟩ := x
  obtain ⟨ra, rb⟩ := r
  dsimp only at kc hq
  have Ba : Below w.heap.size w (w.alloc (.cells #[.string ⟨#[]⟩, .int .i64 0, .int .i64 0] 40)) := (Below.refl _ _).alloc (Nat.le_refl _) _
  have Ha := H.below Ba
  have c0 : (w.alloc (.cells #[.string ⟨#[]⟩, .int .i64 0, .int .i64 0] 40)).cell? ⟨g, 0, none⟩ = some (.string s) := (blk_cell Ha.blk 0).trans rfl
  have c1 : (w.alloc (.cells #[.string ⟨#[]⟩, .int .i64 0, .int .i64 0] 40)).cell? ⟨g, 1, none⟩ = some (.int .i64 ra) := (blk_cell Ha.blk 1).trans rfl
  have r0 := cell_regrown c0
  have r1 := cell_regrown c1
  have HQ := Lib.hid hq
  clear hq
  go_enter Try.func66, Try.ntmps66
  go_upto_region 1 with (fail)
  refine wp_region_quiet_below (by kernel_rfl) (by kernel_rfl) ?_
  repeat (go_big_quiet_step (exact Calls.regrown_of (kc _)))
  refine wpQuiet_nil ?_
  intro _ hw'
  obtain ⟨⟨dq, osq⟩, hw''⟩ := hw'
  subst hw''
  have ba := blk_new w (.cells #[.string ⟨#[]⟩, .int .i64 0, .int .i64 0] 40)
  have B1 := below_regrown (w.alloc (.cells #[.string ⟨#[]⟩, .int .i64 0, .int .i64 0] 40)) dq osq
  have G1 := (grown_below Ba (some g)).trans (grown_below B1 (some g))
  have b1 := blk_below Ha.blk B1
  have p1 := blk_below ba B1
  clear kc r0 r1 c0 c1 Ha ba B1 Ba hx
  generalize Go.Sort.grow (redrawn (w.alloc (.cells #[.string ⟨#[]⟩, .int .i64 0, .int .i64 0] 40)) dq) osq = w1 at *
  dsimp only at b1
  have hpg : g ≠ w.heap.size := Nat.ne_of_lt hglt
  have d0 : w1.cell? ⟨g, 0, none⟩ = some (.string s) := (blk_cell b1 0).trans rfl
  have d1 : w1.cell? ⟨g, 1, none⟩ = some (.int .i64 ra) := (blk_cell b1 1).trans rfl
  have d2 : w1.cell? ⟨g, 2, none⟩ = some (.bool rb) := (blk_cell b1 2).trans rfl
  have f1 := blk_frozen b1 1
  have f2 := blk_frozen b1 2
  have x0 : w1.cell? ⟨w.heap.size, 0, none⟩ = some (.string ⟨#[]⟩) := (blk_cell p1 0).trans rfl
  have x1 : w1.cell? ⟨w.heap.size, 1, none⟩ = some (.int .i64 0) := (blk_cell p1 1).trans rfl
  have x2 : w1.cell? ⟨w.heap.size, 2, none⟩ = some (.int .i64 0) := (blk_cell p1 2).trans rfl
  have y0 := blk_frozen p1 0
  have y1 := blk_frozen p1 1
  have y2 := blk_frozen p1 2
  by_cases hbad : (rb || e != 0) = true
  · have hv : q = zQ ∧ r' = ⟨ra, true⟩ := by
      have := HQ.out
      rw [if_pos hbad] at this
      injection this with this
      injection this with h1 h2
      exact ⟨h1.symm, h2.symm⟩
    obtain ⟨rfl, rfl⟩ := hv
    clear HQ
    have bf := blk_put b1 2 (.bool true) rfl
    have pf := blk_set_ne (p := ⟨g, 2, none⟩) p1 (Ne.symm hpg) (.bool true)
    have hb2 : rb = true ∨ (rb = false ∧ e ≠ 0) := by cases rb <;> simp_all
    have pF := blk_put (blk_put (blk_put pf 0 (.string ⟨#[]⟩) rfl) 1 (.int .i64 0) rfl) 2 (.int .i64 0) rfl
    have bF := blk_set_ne (p := ⟨w.heap.size, 2, none⟩) (blk_set_ne (p := ⟨w.heap.size, 1, none⟩) (blk_set_ne (p := ⟨w.heap.size, 0, none⟩) bf hpg (.string ⟨#[]⟩)) hpg (.int .i64 0)) hpg (.int .i64 0)
    have GF := grown_far (p := ⟨w.heap.size, 2, none⟩) (grown_far (p := ⟨w.heap.size, 1, none⟩) (grown_far (p := ⟨w.heap.size, 0, none⟩) (grown_set' G1 2 (.bool true)) (Nat.le_refl _) (.string ⟨#[]⟩)) (Nat.le_refl _) (.int .i64 0)) (Nat.le_refl _) (.int .i64 0)
    have e0 := (blk_cell pF 0).trans rfl
    have e1 := (blk_cell pF 1).trans rfl
    have e2 := (blk_cell pF 2).trans rfl
    rcases hb2 with rfl | ⟨rfl, he⟩
    · go_wp2
      exact bodyPost_ret (v := .agg #[.string ⟨#[]⟩, .int .i64 0, .int .i64 0]) (by simp [results, Try.results66, go_sem, e0, e1, e2]) rfl ⟨rfl, ⟨bF⟩, GF⟩
    · have q1 : (e == 0) = false := by simp [he]
      go_wp2
      exact bodyPost_ret (v := .agg #[.string ⟨#[]⟩, .int .i64 0, .int .i64 0]) (by simp [results, Try.results66, go_sem, e0, e1, e2]) rfl ⟨rfl, ⟨bF⟩, GF⟩
  · have hb2 : rb = false ∧ e = 0 := by
      cases rb with
      | true => simp at hbad
      | false => simpa using hbad
    obtain ⟨rfl, rfl⟩ := hb2
    have hv := HQ.out
    rw [if_neg hbad] at hv
    injection hv with hv
    injection hv with h1 h2
    clear HQ hbad
    obtain ⟨V1, hV1⟩ : ∃ V, numV ⟨a, false⟩ (u16V s a) = V := ⟨_, rfl⟩
    rw [hV1] at h1 h2
    obtain ⟨V2, hV2⟩ : ∃ V, numV V1.2 (u16V s V1.2.at_) = V := ⟨_, rfl⟩
    rw [hV2] at h1 h2
    have HV1 := Lib.hid hV1
    have HV2 := Lib.hid hV2
    have HQ1 := Lib.hid h1
    have HQ2 := Lib.hid h2
    clear hV1 hV2 h1 h2
    have b2 := blk_put (blk_put b1 2 (.bool false) rfl) 1 (.int .i64 a) rfl
    have p2 := blk_set_ne (p := ⟨g, 1, none⟩) (blk_set_ne (p := ⟨g, 2, none⟩) p1 (Ne.symm hpg) (.bool false)) (Ne.symm hpg) (.int .i64 a)
    have G2 := grown_set' (grown_set' G1 2 (.bool false)) 1 (.int .i64 a)
    go_wp2_with fail
    generalize (w1.setCell ⟨g, 2, none⟩ (.bool false)).setCell ⟨g, 1, none⟩ (.int .i64 a) = w2 at *
    have kn := num16 (w := w2) (r := ⟨a, false⟩) ⟨b2⟩ hs
    dsimp only at kn
    rw [HV1.out] at kn
    refine kn.mono ?_
    rintro e w3 ⟨rfl, H3, G3⟩
    have p3 := blk_grown p2 G3 (by intro q; injection q with q; exact hpg q.symm)
    replace G3 := G2.trans G3
    clear kn b2 p2 G2 p1 b1 G1 d0 d1 d2 f1 f2 x0 x1 x2 y0 y1 y2
    have Bb : Below w3.heap.size w3 (w3.alloc (.cells #[.string n, .int .i64 V1.1, .int .i64 0] 40)) := (Below.refl _ _).alloc (Nat.le_refl _) _
    have q3 := blk_new w3 (.cells #[.string n, .int .i64 V1.1, .int .i64 0] 40)
    have H3a := H3.below Bb
    have p3a := blk_below p3 Bb
    have G3a := grown_alloc' G3 (.cells #[.string n, .int .i64 V1.1, .int .i64 0] 40)
    have hbg : g ≠ w3.heap.size := Nat.ne_of_lt (blk_lt H3.blk)
    have hbp : w.heap.size ≠ w3.heap.size := Nat.ne_of_lt (blk_lt p3)
    have hw3 : w.heap.size ≤ w3.heap.size := G3.size
    go_wp2_with fail
    generalize w3.alloc (.cells #[.string n, .int .i64 V1.1, .int .i64 0] 40) = w3a at *
    generalize w3.heap.size = kb at *
    have kn := num16 H3a hs
    rw [HV2.out] at kn
    refine kn.mono ?_
    rintro e w4 ⟨rfl, H4, G4⟩
    have p4 := blk_grown p3a G4 (by intro q; injection q with q; exact hpg q.symm)
    have q4 := blk_grown q3 G4 (by intro q; injection q with q; exact hbg q.symm)
    replace G4 := G3a.trans G4
    have b4 := H4.blk
    clear kn p3a q3 G3a G3 H3 H3a Bb p3 H4
    obtain ⟨v2, ⟨ra2, rb2⟩⟩ := V2
    obtain ⟨v1, r1⟩ := V1
    dsimp only at b4 q4 HQ1 HQ2 ⊢
    -- the box with its class
    have q5 := blk_put q4 2 (.int .i64 v2) rfl
    have b5 := blk_set_ne (p := ⟨kb, 2, none⟩) b4 hbg (.int .i64 v2)
    have p5 := blk_set_ne (p := ⟨kb, 2, none⟩) p4 hbp (.int .i64 v2)
    have z1 : w4.cell? ⟨kb, 2, none⟩ = some (.int .i64 0) := (blk_cell q4 2).trans rfl
    have z2 := blk_frozen q4 2
    have z3 := (blk_cell b5 2).trans rfl
    have z4 := blk_frozen b5 2
    have z5 := (blk_cell q5 1).trans rfl
    have G5 := grown_far (p := ⟨kb, 2, none⟩) G4 hw3 (.int .i64 v2)
    have fin : ∀ bb : Bool, ∃ W, W = (((((w4.setCell ⟨kb, 2, none⟩ (.int .i64 v2)).setCell ⟨g, 2, none⟩ (.bool bb)).setCell ⟨w.heap.size, 0, none⟩ (.string n)).setCell ⟨w.heap.size, 1, none⟩ (.int .i64 v1)).setCell ⟨w.heap.size, 2, none⟩ (.int .i64 v2)) ∧ W.heap[w.heap.size]? = some (.cells #[.string n, .int .i64 v1, .int .i64 v2] 40 (0, 0)) ∧ W.heap[g]? = some (.cells #[.string s, .int .i64 ra2, .bool bb] 120 (0, 0)) ∧ w.grownBy W (some g) := by
      intro bb
      have b6 := blk_put b5 2 (.bool bb) rfl
      have p6 := blk_set_ne (p := ⟨g, 2, none⟩) p5 (Ne.symm hpg) (.bool bb)
      exact ⟨_, rfl, blk_put (blk_put (blk_put p6 0 (.string n) rfl) 1 (.int .i64 v1) rfl) 2 (.int .i64 v2) rfl,
        blk_set_ne (p := ⟨w.heap.size, 2, none⟩) (blk_set_ne (p := ⟨w.heap.size, 1, none⟩) (blk_set_ne (p := ⟨w.heap.size, 0, none⟩) b6 hpg (.string n)) hpg (.int .i64 v1)) hpg (.int .i64 v2),
        grown_far (p := ⟨w.heap.size, 2, none⟩) (grown_far (p := ⟨w.heap.size, 1, none⟩) (grown_far (p := ⟨w.heap.size, 0, none⟩) (grown_set' G5 2 (.bool bb)) (Nat.le_refl _) (.string n)) (Nat.le_refl _) (.int .i64 v1)) (Nat.le_refl _) (.int .i64 v2)⟩
    have fs : ∀ bb : Bool, (((w4.setCell ⟨kb, 2, none⟩ (.int .i64 v2)).setCell ⟨g, 2, none⟩ (.bool bb)).heap[kb]? = some (.cells #[.string n, .int .i64 v1, .int .i64 v2] 40 (0, 0))) ∧ (((w4.setCell ⟨kb, 2, none⟩ (.int .i64 v2)).setCell ⟨g, 2, none⟩ (.bool bb)).heap[w.heap.size]? = some (.cells #[.string ⟨#[]⟩, .int .i64 0, .int .i64 0] 40 (0, 0))) :=
      fun bb => ⟨blk_set_ne (p := ⟨g, 2, none⟩) q5 (Ne.symm hbg) (.bool bb), blk_set_ne (p := ⟨g, 2, none⟩) p5 (Ne.symm hpg) (.bool bb)⟩
    have FIN := Lib.hid fin
    have FS := Lib.hid fs
    clear fin fs
    cases rb2 with
    | true =>
      obtain ⟨W, hW, pF, bF, GF⟩ := FIN.out true
      have S := FS.out true
      have l0 := (blk_cell S.1 0).trans rfl
      have l1 := (blk_cell S.1 1).trans rfl
      have l2 := (blk_cell S.1 2).trans rfl
      have m0 := (blk_cell S.2 0).trans rfl
      have m1 := (blk_cell S.2 1).trans rfl
      have m2 := (blk_cell S.2 2).trans rfl
      have n0 := blk_frozen S.2 0
      have n1 := blk_frozen S.2 1
      have n2 := blk_frozen S.2 2
      have e0 := (blk_cell pF 0).trans rfl
      have e1 := (blk_cell pF 1).trans rfl
      have e2 := (blk_cell pF 2).trans rfl
      subst hW
      go_wp2
      exact bodyPost_ret (v := .agg #[.string n, .int .i64 v1, .int .i64 v2]) (by simp [results, Try.results66, go_sem, e0, e1, e2]) rfl ⟨by rw [← HQ1.out], by rw [← HQ2.out]; exact ⟨bF⟩, GF⟩
    | false =>
      by_cases hv1 : v1 = 0
      · subst hv1
        obtain ⟨W, hW, pF, bF, GF⟩ := FIN.out true
        have S := FS.out true
        have l0 := (blk_cell S.1 0).trans rfl
        have l1 := (blk_cell S.1 1).trans rfl
        have l2 := (blk_cell S.1 2).trans rfl
        have m0 := (blk_cell S.2 0).trans rfl
        have m1 := (blk_cell S.2 1).trans rfl
        have m2 := (blk_cell S.2 2).trans rfl
        have n0 := blk_frozen S.2 0
        have n1 := blk_frozen S.2 1
        have n2 := blk_frozen S.2 2
        have e0 := (blk_cell pF 0).trans rfl
        have e1 := (blk_cell pF 1).trans rfl
        have e2 := (blk_cell pF 2).trans rfl
        subst hW
        go_wp2
        exact bodyPost_ret (v := .agg #[.string n, .int .i64 0, .int .i64 v2]) (by simp [results, Try.results66, go_sem, e0, e1, e2]) rfl ⟨by rw [← HQ1.out], by rw [← HQ2.out]; exact ⟨bF⟩, GF⟩
      · have q1 : (v1 == 0) = false := by simp [hv1]
        rw [q1] at HQ2
        obtain ⟨W, hW, pF, bF, GF⟩ := FIN.out false
        have S := FS.out false
        have l0 := (blk_cell S.1 0).trans rfl
        have l1 := (blk_cell S.1 1).trans rfl
        have l2 := (blk_cell S.1 2).trans rfl
        have m0 := (blk_cell S.2 0).trans rfl
        have m1 := (blk_cell S.2 1).trans rfl
        have m2 := (blk_cell S.2 2).trans rfl
        have n0 := blk_frozen S.2 0
        have n1 := blk_frozen S.2 1
        have n2 := blk_frozen S.2 2
        have e0 := (blk_cell pF 0).trans rfl
        have e1 := (blk_cell pF 1).trans rfl
        have e2 := (blk_cell pF 2).trans rfl
        subst hW
        go_wp2
        exact bodyPost_ret (v := .agg #[.string n, .int .i64 v1, .int .i64 v2]) (by simp [results, Try.results66, go_sem, e0, e1, e2]) rfl ⟨by rw [← HQ1.out], by rw [← HQ2.out]; exact ⟨bF⟩, GF⟩
end
end Go.Proofs.Ytjklgdpffmaamaa.Wm

namespace Go.Proofs.Ytjklgdpffmaamaa.Wm
open Go.RowKit Go.PlainAid Go.Maps Go.Proofs.Ytjklgdpffmaamaa.Base Go.Proofs.Ytjklgdpffmaamaa.Oct Go.Proofs.Ytjklgdpffmaamaa.Nm
open Go.Proofs.YtjklgdpffmaamaaW.PrintWords (blk_cell blk_below blk_put blk_frozen blk_ne blk_new blk_lt blk_grown LeO)
set_option linter.unusedVariables false
def recN1 (s : ByteArray) (x : Qn × Rs) : Int × Rs := numV x.2 (u32V s x.2.at_)
def recN2 (s : ByteArray) (x : Qn × Rs) : Int × Rs := numV (recN1 s x).2 (u16V s (recN1 s x).2.at_)
/-- A record that is read. -/
def recV (k : Nat) (s : ByteArray) (r : Rs) : Option (Rr × Rs) :=
  (questV k s r).bind fun x => (PCm.comp_Data.f k s (recN2 s x).2.at_ (recN2 s x).1 x.1.type).bind fun y =>
    if (recN2 s x).2.bad || y.2 != 0 then some (zR, ⟨(recN2 s x).2.at_, true⟩) else some (⟨x.1.name, x.1.type, x.1.cls, (recN1 s x).1, y.1⟩, ⟨wrap64 ((recN2 s x).2.at_ + (recN2 s x).1), false⟩)
section
variable {w w1 w' : World} {g : Nat} {s : ByteArray} {r : Rs}
set_option maxHeartbeats 8000000 in
set_option maxRecDepth 100000 in
theorem recc (H : RdAt w g s r) (hs : s.size ≤ 4096) {k : Nat} {q : Rr} {r' : Rs} (hq : recV k s r = some (q, r')) : Calls Try.prog 68 #[.pointer (some ⟨g, 0, none⟩)] w fun e w' => e = .returned (.agg #[.string q.name, .int .i64 q.type, .int .i64 q.cls, .int .i64 q.ttl, .string q.data]) ∧ RdAt w' g s r' ∧ w.grownBy w' (some g) := by
  have hglt := blk_lt H.blk
  unfold recV at hq
  obtain ⟨⟨x, rx⟩, hx, hq⟩ := Option.bind_eq_some_iff.1 hq
  obtain ⟨y, hy, hq⟩ := Option.bind_eq_some_iff.1 hq
  have Ba : Below w.heap.size w (w.alloc (.cells #[.string ⟨#[]⟩, .int .i64 0, .int .i64 0, .int .i64 0, .string ⟨#[]⟩] 53)) := (Below.refl _ _).alloc (Nat.le_refl _) _
  have pa := blk_new w (.cells #[.string ⟨#[]⟩, .int .i64 0, .int .i64 0, .int .i64 0, .string ⟨#[]⟩] 53)
  have kq := questc (H.below Ba) hs hx
  have kd := fun w => PCm.comp_Data.calls k s (recN2 s (x, rx)).2.at_ (recN2 s (x, rx)).1 x.type y.1 y.2 w hy
  obtain ⟨d, e⟩ := y
  dsimp only at hq kd
  obtain ⟨N1, hN1⟩ : ∃ N, recN1 s (x, rx) = N := ⟨_, rfl⟩
  obtain ⟨N2, hN2⟩ : ∃ N, recN2 s (x, rx) = N := ⟨_, rfl⟩
  rw [hN1, hN2] at hq
  simp only [hN2] at kd
  have HN1 := Lib.hid hN1
  have HN2 := Lib.hid hN2
  have HQ := Lib.hid hq
  clear hN1 hN2 hq hx hy
  go_enter Try.func68, Try.ntmps68
  go_wp2_with fail
  refine kq.mono ?_
  generalize w.alloc (.cells #[.string ⟨#[]⟩, .int .i64 0, .int .i64 0, .int .i64 0, .string ⟨#[]⟩] 53) = wa at *
  rintro e w1 ⟨rfl, H1, G1⟩
  have hpg : g ≠ w.heap.size := Nat.ne_of_lt hglt
  have p1 := blk_grown pa G1 (by intro q; injection q with q; exact hpg q.symm)
  replace G1 := (grown_below Ba (some g)).trans G1
  clear kq pa Ba
  have Bb : Below w1.heap.size w1 (w1.alloc (.cells #[.string x.name, .int .i64 x.type, .int .i64 x.cls] 40)) := (Below.refl _ _).alloc (Nat.le_refl _) _
  have q1 := blk_new w1 (.cells #[.string x.name, .int .i64 x.type, .int .i64 x.cls] 40)
  have H2 := H1.below Bb
  have p2 := blk_below p1 Bb
  have G2 := grown_alloc' G1 (.cells #[.string x.name, .int .i64 x.type, .int .i64 x.cls] 40)
  have hqg : g ≠ w1.heap.size := Nat.ne_of_lt (blk_lt H1.blk)
  go_upto_region 2 with (fail)
  generalize w1.alloc (.cells #[.string x.name, .int .i64 x.type, .int .i64 x.cls] 40) = w2 at *
  generalize w1.heap.size = kq at *
  clear H1 G1 p1 Bb
  have q0 : w2.cell? ⟨kq, 0, none⟩ = some (.string x.name) := (blk_cell q1 0).trans rfl
  have q2 : w2.cell? ⟨kq, 1, none⟩ = some (.int .i64 x.type) := (blk_cell q1 1).trans rfl
  have q3 : w2.cell? ⟨kq, 2, none⟩ = some (.int .i64 x.cls) := (blk_cell q1 2).trans rfl
  have D2 : Below w2.heap.size w2 w2.drew := (Below.refl _ _).drew
  have H2d := H2.below D2
  have p2d := blk_below p2 D2
  have q1d := blk_below q1 D2
  have G2d := G2.trans (grown_below D2 (some g))
  have Dq := blk_below q1 ((Below.refl w2.heap.size w2).alloc (Nat.le_refl _) (.cells #[.string ⟨#[]⟩, .int .i64 0, .int .i64 0, .int .i64 0, .string ⟨#[]⟩] 53))
  have ea0 : (w2.alloc (.cells #[.string ⟨#[]⟩, .int .i64 0, .int .i64 0, .int .i64 0, .string ⟨#[]⟩] 53)).cell? ⟨kq, 0, none⟩ = some (.string x.name) := (blk_cell Dq 0).trans rfl
  have ea1 : (w2.alloc (.cells #[.string ⟨#[]⟩, .int .i64 0, .int .i64 0, .int .i64 0, .string ⟨#[]⟩] 53)).cell? ⟨kq, 1, none⟩ = some (.int .i64 x.type) := (blk_cell Dq 1).trans rfl
  have ea2 : (w2.alloc (.cells #[.string ⟨#[]⟩, .int .i64 0, .int .i64 0, .int .i64 0, .string ⟨#[]⟩] 53)).cell? ⟨kq, 2, none⟩ = some (.int .i64 x.cls) := (blk_cell Dq 2).trans rfl
  have nw0 := World.new_ne w2 ⟨kq, 0, none⟩ q0
  have nw1 := World.new_ne w2 ⟨kq, 1, none⟩ q2
  have nw2 := World.new_ne w2 ⟨kq, 2, none⟩ q3
  have De : Below w2.heap.size w2 (w2.alloc (.cells #[.string ⟨#[]⟩, .int .i64 0, .int .i64 0, .int .i64 0, .string ⟨#[]⟩] 53)).drew := ((Below.refl _ _).alloc (Nat.le_refl _) _).drew
  have H2e := H2.below De
  have p2e := blk_below p2 De
  have q1e := blk_below q1 De
  have k2e : (w2.alloc (.cells #[.string ⟨#[]⟩, .int .i64 0, .int .i64 0, .int .i64 0, .string ⟨#[]⟩] 53)).drew.heap[w2.heap.size]? = some (.cells #[.string ⟨#[]⟩, .int .i64 0, .int .i64 0, .int .i64 0, .string ⟨#[]⟩] 53 (0, 0)) := blk_new w2 _
  have G2e := G2.trans (grown_below De (some g))
  have hg2 : g ≠ w2.heap.size := Nat.ne_of_lt (blk_lt H2.blk)
  have hp2 : w.heap.size < w2.heap.size := blk_lt p2
  have hpk : w.heap.size ≠ w2.heap.size := Nat.ne_of_lt hp2
  have FQ : ∀ (W w3 : World), W.heap[kq]? = some (.cells #[.string x.name, .int .i64 x.type, .int .i64 x.cls] 40 (0, 0)) → W.grownBy w3 (some g) → w3.cell? ⟨kq, 0, none⟩ = some (.string x.name) ∧ w3.cell? ⟨kq, 1, none⟩ = some (.int .i64 x.type) ∧ w3.cell? ⟨kq, 2, none⟩ = some (.int .i64 x.cls) ∧ kq < w3.heap.size ∧ (∀ o, (w3.alloc o).cell? ⟨kq, 0, none⟩ = some (.string x.name) ∧ (w3.alloc o).cell? ⟨kq, 1, none⟩ = some (.int .i64 x.type) ∧ (w3.alloc o).cell? ⟨kq, 2, none⟩ = some (.int .i64 x.cls)) := fun W w3 h G => by
    have b := blk_grown h G (by intro q; injection q with q; exact hqg q.symm)
    have ba := fun o => blk_below b ((Below.refl w3.heap.size w3).alloc (Nat.le_refl _) o)
    exact ⟨(blk_cell b 0).trans rfl, (blk_cell b 1).trans rfl, (blk_cell b 2).trans rfl, blk_lt b, fun o => ⟨(blk_cell (ba o) 0).trans rfl, (blk_cell (ba o) 1).trans rfl, (blk_cell (ba o) 2).trans rfl⟩⟩
  have FK : ∀ (W w3 : World), W.heap[w2.heap.size]? = some (.cells #[.string ⟨#[]⟩, .int .i64 0, .int .i64 0, .int .i64 0, .string ⟨#[]⟩] 53 (0, 0)) → W.grownBy w3 (some g) →
      w3.heap[w2.heap.size]? = some (.cells #[.string ⟨#[]⟩, .int .i64 0, .int .i64 0, .int .i64 0, .string ⟨#[]⟩] 53 (0, 0)) ∧ w3.cell? ⟨w2.heap.size, 0, none⟩ = some (.string ⟨#[]⟩) ∧ w3.cell? ⟨w2.heap.size, 1, none⟩ = some (.int .i64 0) ∧ w3.cell? ⟨w2.heap.size, 2, none⟩ = some (.int .i64 0) ∧ w3.cell? ⟨w2.heap.size, 3, none⟩ = some (.int .i64 0) ∧ w3.cell? ⟨w2.heap.size, 4, none⟩ = some (.string ⟨#[]⟩) ∧ w3.frozen? ⟨w2.heap.size, 0, none⟩ = false ∧ w3.frozen? ⟨w2.heap.size, 1, none⟩ = false ∧ w3.frozen? ⟨w2.heap.size, 2, none⟩ = false ∧ w3.frozen? ⟨w2.heap.size, 3, none⟩ = false ∧ w3.frozen? ⟨w2.heap.size, 4, none⟩ = false := fun W w3 h G => by
    have b := blk_grown h G (by intro q; injection q with q; exact hg2 q.symm)
    exact ⟨b, (blk_cell b 0).trans rfl, (blk_cell b 1).trans rfl, (blk_cell b 2).trans rfl, (blk_cell b 3).trans rfl, (blk_cell b 4).trans rfl, blk_frozen b 0, blk_frozen b 1, blk_frozen b 2, blk_frozen b 3, blk_frozen b 4⟩
  have F1 : ∀ (w3 : World) (t : Int), RdAt w3 g s (numV rx (u32V s rx.at_)).2 → w3.heap[w.heap.size]? = some (.cells #[.string ⟨#[]⟩, .int .i64 0, .int .i64 0, .int .i64 0, .string ⟨#[]⟩] 53 (0, 0)) → w.grownBy w3 (some g) → ∃ W, W = w3.alloc (.cells #[.string x.name, .int .i64 x.type, .int .i64 x.cls, .int .i64 t, .string ⟨#[]⟩] 53) ∧ W.heap[w3.heap.size]? = some (.cells #[.string x.name, .int .i64 x.type, .int .i64 x.cls, .int .i64 t, .string ⟨#[]⟩] 53 (0, 0)) ∧ w.heap.size < w3.heap.size ∧ RdAt W g s (numV rx (u32V s rx.at_)).2 ∧ W.heap[w.heap.size]? = some (.cells #[.string ⟨#[]⟩, .int .i64 0, .int .i64 0, .int .i64 0, .string ⟨#[]⟩] 53 (0, 0)) ∧ w.grownBy W (some g) := by
    intro w3 t H p G
    have Bz : Below w3.heap.size w3 (w3.alloc (.cells #[.string x.name, .int .i64 x.type, .int .i64 x.cls, .int .i64 t, .string ⟨#[]⟩] 53)) := (Below.refl _ _).alloc (Nat.le_refl _) _
    exact ⟨_, rfl, blk_new w3 _, blk_lt p, H.below Bz, blk_below p Bz, grown_alloc' G _⟩
  have F2 : ∀ (w3 : World) (t : Int), RdAt w3 g s (numV rx (u32V s rx.at_)).2 → w3.heap[w2.heap.size]? = some (.cells #[.string ⟨#[]⟩, .int .i64 0, .int .i64 0, .int .i64 0, .string ⟨#[]⟩] 53 (0, 0)) → w3.heap[w.heap.size]? = some (.cells #[.string ⟨#[]⟩, .int .i64 0, .int .i64 0, .int .i64 0, .string ⟨#[]⟩] 53 (0, 0)) → w.grownBy w3 (some g) → ∃ W, W = (((((w3.setCell ⟨w2.heap.size, 0, none⟩ (.string x.name)).setCell ⟨w2.heap.size, 1, none⟩ (.int .i64 x.type)).setCell ⟨w2.heap.size, 2, none⟩ (.int .i64 x.cls)).setCell ⟨w2.heap.size, 3, none⟩ (.int .i64 t)).setCell ⟨w2.heap.size, 4, none⟩ (.string ⟨#[]⟩)) ∧ W.heap[w2.heap.size]? = some (.cells #[.string x.name, .int .i64 x.type, .int .i64 x.cls, .int .i64 t, .string ⟨#[]⟩] 53 (0, 0)) ∧ RdAt W g s (numV rx (u32V s rx.at_)).2 ∧ W.heap[w.heap.size]? = some (.cells #[.string ⟨#[]⟩, .int .i64 0, .int .i64 0, .int .i64 0, .string ⟨#[]⟩] 53 (0, 0)) ∧ w.grownBy W (some g) := by
    intro w3 t H k p G
    have le := Nat.le_of_lt hp2
    refine ⟨_, rfl, blk_put (blk_put (blk_put (blk_put (blk_put k 0 (.string x.name) rfl) 1 (.int .i64 x.type) rfl) 2 (.int .i64 x.cls) rfl) 3 (.int .i64 t) rfl) 4 (.string ⟨#[]⟩) rfl, ⟨?_⟩, ?_, ?_⟩
    · exact blk_set_ne (p := ⟨w2.heap.size, 4, none⟩) (blk_set_ne (p := ⟨w2.heap.size, 3, none⟩) (blk_set_ne (p := ⟨w2.heap.size, 2, none⟩) (blk_set_ne (p := ⟨w2.heap.size, 1, none⟩) (blk_set_ne (p := ⟨w2.heap.size, 0, none⟩) H.blk hg2 _) hg2 _) hg2 _) hg2 _) hg2 _
    · exact blk_set_ne (p := ⟨w2.heap.size, 4, none⟩) (blk_set_ne (p := ⟨w2.heap.size, 3, none⟩) (blk_set_ne (p := ⟨w2.heap.size, 2, none⟩) (blk_set_ne (p := ⟨w2.heap.size, 1, none⟩) (blk_set_ne (p := ⟨w2.heap.size, 0, none⟩) p hpk _) hpk _) hpk _) hpk _) hpk _
    · exact grown_far (p := ⟨w2.heap.size, 4, none⟩) (grown_far (p := ⟨w2.heap.size, 3, none⟩) (grown_far (p := ⟨w2.heap.size, 2, none⟩) (grown_far (p := ⟨w2.heap.size, 1, none⟩) (grown_far (p := ⟨w2.heap.size, 0, none⟩) G le _) le _) le _) le _) le _
  have P3 : ∀ (W w3 : World), W.heap[w.heap.size]? = some (.cells #[.string ⟨#[]⟩, .int .i64 0, .int .i64 0, .int .i64 0, .string ⟨#[]⟩] 53 (0, 0)) → W.grownBy w3 (some g) → w3.heap[w.heap.size]? = some (.cells #[.string ⟨#[]⟩, .int .i64 0, .int .i64 0, .int .i64 0, .string ⟨#[]⟩] 53 (0, 0)) := fun W w3 h G => blk_grown h G (by intro q; injection q with q; exact hpg q.symm)
  have HF1 := Lib.hid F1
  have HF2 := Lib.hid F2
  have HP3 := Lib.hid P3
  have HFQ := Lib.hid FQ
  have HFK := Lib.hid FK
  clear F1 F2 P3
  go_cut [4] (fun v4 wc => ∃ kb, v4 = .pointer (some ⟨kb, 0, none⟩) ∧ wc.heap[kb]? = some (.cells #[.string x.name, .int .i64 x.type, .int .i64 x.cls, .int .i64 N1.1, .string ⟨#[]⟩] 53 (0, 0)) ∧ w.heap.size < kb ∧ RdAt wc g s N1.2 ∧ wc.heap[w.heap.size]? = some (.cells #[.string ⟨#[]⟩, .int .i64 0, .int .i64 0, .int .i64 0, .string ⟨#[]⟩] 53 (0, 0)) ∧ w.grownBy wc (some g))
  case first =>
    go_region_held3 (fun w' => w'.cell? ⟨kq, 0, none⟩ = some (.string x.name) ∧ w'.cell? ⟨kq, 1, none⟩ = some (.int .i64 x.type) ∧ w'.cell? ⟨kq, 2, none⟩ = some (.int .i64 x.cls))
      (first | with_reducible exact ⟨q0, q2, q3⟩ | with_reducible exact ⟨ea0, ea1, ea2⟩ | with_reducible exact ⟨q30, q31, q32⟩ | with_reducible exact ⟨qa0, qa1, qa2⟩ | (go_keep; done) | (refine ⟨?_, ?_, ?_⟩ <;> (go_simp; done)))
      (first
      | (go_at_call 95; with_reducible refine (num32 H2d hs).mono ?_; rintro e w3 ⟨rfl, H3, G3⟩; obtain ⟨q30, q31, q32, qlt, qal⟩ := FQ _ _ q1d G3; have nv0 := World.new_ne w3 ⟨kq, 0, none⟩ q30; have nv1 := World.new_ne w3 ⟨kq, 1, none⟩ q31; have nv2 := World.new_ne w3 ⟨kq, 2, none⟩ q32; have qa0 := (qal (.cells #[.string ⟨#[]⟩, .int .i64 0, .int .i64 0, .int .i64 0, .string ⟨#[]⟩] 53)).1; have qa1 := (qal (.cells #[.string ⟨#[]⟩, .int .i64 0, .int .i64 0, .int .i64 0, .string ⟨#[]⟩] 53)).2.1; have qa2 := (qal (.cells #[.string ⟨#[]⟩, .int .i64 0, .int .i64 0, .int .i64 0, .string ⟨#[]⟩] 53)).2.2; clear qal)
      | (go_at_call 95; with_reducible refine (num32 H2e hs).mono ?_; rintro e w3 ⟨rfl, H3, G3⟩; obtain ⟨q30, q31, q32, qlt, qal⟩ := FQ _ _ q1e G3; have nv0 := World.new_ne w3 ⟨kq, 0, none⟩ q30; have nv1 := World.new_ne w3 ⟨kq, 1, none⟩ q31; have nv2 := World.new_ne w3 ⟨kq, 2, none⟩ q32; clear qal; obtain ⟨k3, m0, m1, m2, m3, m4, n0, n1, n2, n3, n4⟩ := FK _ _ k2e G3))
    all_goals
      go_wp2_with fail
      go_meet
      case rel =>
        have hN := HN1.out
        unfold recN1 at hN
        dsimp only at hN
        rw [← hN]
        first
        | (have hk3 := k3
           have hp3 := HP3.out (w2.alloc (.cells #[.string ⟨#[]⟩, .int .i64 0, .int .i64 0, .int .i64 0, .string ⟨#[]⟩] 53)).drew w3 p2e G3
           have hg3 := G2e.trans G3
           obtain ⟨W, hW, a, c, d, e⟩ := HF2.out w3 (numV rx (u32V s rx.at_)).1 H3 hk3 hp3 hg3
           rw [← hW]
           exact ⟨w2.heap.size, rfl, a, hp2, c, d, e⟩)
        | (have hp3 := HP3.out w2.drew w3 p2d G3
           have hg3 := G2d.trans G3
           obtain ⟨W, hW, a, b, c, d, e⟩ := HF1.out w3 (numV rx (u32V s rx.at_)).1 H3 hp3 hg3
           rw [← hW]
           exact ⟨w3.heap.size, rfl, a, b, c, d, e⟩)
  case rest =>
  clear HF1 HF2 HP3 HFQ HFK FQ FK
  obtain ⟨kb, rfl, bk, hkp, H4, p4, G4⟩ := hcut
  clear H2 p2 q1 G2 q0 q2 q3 D2 H2d p2d q1d G2d De H2e p2e q1e k2e G2e Dq ea0 ea1 ea2 nw0 nw1 nw2
  obtain ⟨n1, rn1⟩ := N1
  dsimp only at bk H4
  have hkg : g ≠ kb := blk_ne H4.blk bk (by decide)
  have hkp' : w.heap.size ≠ kb := Nat.ne_of_lt hkp
  have kn := num16 H4 hs
  have hN2 : numV rn1 (u16V s rn1.at_) = N2 := by have := HN2.out; unfold recN2 at this; rw [HN1.out] at this; exact this
  rw [hN2] at kn
  go_wp2_with fail
  refine kn.mono ?_
  rintro e5 w5 ⟨rfl, H5, G5⟩
  have b5k := blk_grown bk G5 (by intro q; injection q with q; exact hkg q.symm)
  have b5p := blk_grown p4 G5 (by intro q; injection q with q; exact hpg q.symm)
  replace G5 := G4.trans G5
  clear kn bk p4 G4 H4
  obtain ⟨n2, ⟨ra, rb⟩⟩ := N2
  have HQ2 := HQ.out
  dsimp only at H5 kd HQ2
  have HQQ := Lib.hid HQ2
  clear HQ2 HQ HN1 HN2
  have r0 := cell_regrown (show w5.cell? ⟨g, 0, none⟩ = some (.string s) from (blk_cell H5.blk 0).trans rfl)
  have r1 := cell_regrown (show w5.cell? ⟨g, 1, none⟩ = some (.int .i64 ra) from (blk_cell H5.blk 1).trans rfl)
  have r2 := cell_regrown (show w5.cell? ⟨kb, 1, none⟩ = some (.int .i64 x.type) from (blk_cell b5k 1).trans rfl)
  go_upto_region 4 with (fail)
  refine wp_region_quiet_below (by kernel_rfl) (by kernel_rfl) ?_
  repeat (go_big_quiet_step (exact Calls.regrown_of (kd _)))
  refine wpQuiet_nil ?_
  intro _ hw'
  obtain ⟨⟨dq, osq⟩, hw''⟩ := hw'
  subst hw''
  have B6 := below_regrown w5 dq osq
  have b6 := blk_below H5.blk B6
  have k6 := blk_below b5k B6
  have p6 := blk_below b5p B6
  have G6 := G5.trans (grown_below B6 (some g))
  clear kd r0 r1 r2 H5 b5k b5p G5 B6
  generalize Go.Sort.grow (redrawn w5 dq) osq = w6 at *
  dsimp only at b6
  have d1 : w6.cell? ⟨g, 1, none⟩ = some (.int .i64 ra) := (blk_cell b6 1).trans rfl
  have d2 : w6.cell? ⟨g, 2, none⟩ = some (.bool rb) := (blk_cell b6 2).trans rfl
  have f1 := blk_frozen b6 1
  have f2 := blk_frozen b6 2
  have x0 : w6.cell? ⟨w.heap.size, 0, none⟩ = some (.string ⟨#[]⟩) := (blk_cell p6 0).trans rfl
  have x1 : w6.cell? ⟨w.heap.size, 1, none⟩ = some (.int .i64 0) := (blk_cell p6 1).trans rfl
  have x2 : w6.cell? ⟨w.heap.size, 2, none⟩ = some (.int .i64 0) := (blk_cell p6 2).trans rfl
  have x3 : w6.cell? ⟨w.heap.size, 3, none⟩ = some (.int .i64 0) := (blk_cell p6 3).trans rfl
  have x4 : w6.cell? ⟨w.heap.size, 4, none⟩ = some (.string ⟨#[]⟩) := (blk_cell p6 4).trans rfl
  have y0 := blk_frozen p6 0
  have y1 := blk_frozen p6 1
  have y2 := blk_frozen p6 2
  have y3 := blk_frozen p6 3
  have y4 := blk_frozen p6 4
  by_cases hbad : (rb || e != 0) = true
  · have hv : q = zR ∧ r' = ⟨ra, true⟩ := by
      have := HQQ.out
      rw [if_pos hbad] at this
      injection this with this
      injection this with h1 h2
      exact ⟨h1.symm, h2.symm⟩
    obtain ⟨rfl, rfl⟩ := hv
    clear HQQ
    have bf := blk_put b6 2 (.bool true) rfl
    have pf := blk_set_ne (p := ⟨g, 2, none⟩) p6 (Ne.symm hpg) (.bool true)
    have hb2 : rb = true ∨ (rb = false ∧ e ≠ 0) := by cases rb <;> simp_all
    have pF := blk_put (blk_put (blk_put (blk_put (blk_put (pf) 0 (.string ⟨#[]⟩) rfl) 1 (.int .i64 0) rfl) 2 (.int .i64 0) rfl) 3 (.int .i64 0) rfl) 4 (.string ⟨#[]⟩) rfl
    have bF := blk_set_ne (p := ⟨w.heap.size, 4, none⟩) (blk_set_ne (p := ⟨w.heap.size, 3, none⟩) (blk_set_ne (p := ⟨w.heap.size, 2, none⟩) (blk_set_ne (p := ⟨w.heap.size, 1, none⟩) (blk_set_ne (p := ⟨w.heap.size, 0, none⟩) (bf) hpg (.string ⟨#[]⟩)) hpg (.int .i64 0)) hpg (.int .i64 0)) hpg (.int .i64 0)) hpg (.string ⟨#[]⟩)
    have GF := grown_far (p := ⟨w.heap.size, 4, none⟩) (grown_far (p := ⟨w.heap.size, 3, none⟩) (grown_far (p := ⟨w.heap.size, 2, none⟩) (grown_far (p := ⟨w.heap.size, 1, none⟩) (grown_far (p := ⟨w.heap.size, 0, none⟩) (grown_set' G6 2 (.bool true)) (Nat.le_refl _) (.string ⟨#[]⟩)) (Nat.le_refl _) (.int .i64 0)) (Nat.le_refl _) (.int .i64 0)) (Nat.le_refl _) (.int .i64 0)) (Nat.le_refl _) (.string ⟨#[]⟩)
    have e0 := (blk_cell pF 0).trans rfl
    have e1 := (blk_cell pF 1).trans rfl
    have e2 := (blk_cell pF 2).trans rfl
    have e3 := (blk_cell pF 3).trans rfl
    have e4 := (blk_cell pF 4).trans rfl
    rcases hb2 with rfl | ⟨rfl, he⟩
    · go_wp2
      exact bodyPost_ret (v := .agg #[.string ⟨#[]⟩, .int .i64 0, .int .i64 0, .int .i64 0, .string ⟨#[]⟩]) (by simp [results, Try.results68, go_sem, e0, e1, e2, e3, e4]) rfl ⟨rfl, ⟨bF⟩, GF⟩
    · have q1 : (e == 0) = false := by simp [he]
      go_wp2
      exact bodyPost_ret (v := .agg #[.string ⟨#[]⟩, .int .i64 0, .int .i64 0, .int .i64 0, .string ⟨#[]⟩]) (by simp [results, Try.results68, go_sem, e0, e1, e2, e3, e4]) rfl ⟨rfl, ⟨bF⟩, GF⟩
  · have hb2 : rb = false ∧ e = 0 := by
      cases rb with
      | true => simp at hbad
      | false => simpa using hbad
    obtain ⟨rfl, rfl⟩ := hb2
    have hv := HQQ.out
    rw [if_neg hbad] at hv
    injection hv with hv
    injection hv with h1 h2
    clear HQQ hbad
    have b7 := blk_put (blk_put b6 2 (.bool false) rfl) 1 (.int .i64 (wrap64 (ra + n2))) rfl
    have k7 := blk_set_ne (p := ⟨g, 1, none⟩) (blk_set_ne (p := ⟨g, 2, none⟩) k6 (Ne.symm hkg) (.bool false)) (Ne.symm hkg) (.int .i64 (wrap64 (ra + n2)))
    have p7 := blk_set_ne (p := ⟨g, 1, none⟩) (blk_set_ne (p := ⟨g, 2, none⟩) p6 (Ne.symm hpg) (.bool false)) (Ne.symm hpg) (.int .i64 (wrap64 (ra + n2)))
    have G7 := grown_set' (grown_set' G6 2 (.bool false)) 1 (.int .i64 (wrap64 (ra + n2)))
    have k8 := blk_put k7 4 (.string d) rfl
    have b8 := blk_set_ne (p := ⟨kb, 4, none⟩) b7 hkg (.string d)
    have p8 := blk_set_ne (p := ⟨kb, 4, none⟩) p7 hkp' (.string d)
    have G8 := grown_far (p := ⟨kb, 4, none⟩) G7 (Nat.le_of_lt hkp) (.string d)
    have pF := blk_put (blk_put (blk_put (blk_put (blk_put (p8) 0 (.string x.name) rfl) 1 (.int .i64 x.type) rfl) 2 (.int .i64 x.cls) rfl) 3 (.int .i64 n1) rfl) 4 (.string d) rfl
    have bF := blk_set_ne (p := ⟨w.heap.size, 4, none⟩) (blk_set_ne (p := ⟨w.heap.size, 3, none⟩) (blk_set_ne (p := ⟨w.heap.size, 2, none⟩) (blk_set_ne (p := ⟨w.heap.size, 1, none⟩) (blk_set_ne (p := ⟨w.heap.size, 0, none⟩) (b8) hpg (.string x.name)) hpg (.int .i64 x.type)) hpg (.int .i64 x.cls)) hpg (.int .i64 n1)) hpg (.string d)
    have GF := grown_far (p := ⟨w.heap.size, 4, none⟩) (grown_far (p := ⟨w.heap.size, 3, none⟩) (grown_far (p := ⟨w.heap.size, 2, none⟩) (grown_far (p := ⟨w.heap.size, 1, none⟩) (grown_far (p := ⟨w.heap.size, 0, none⟩) (G8) (Nat.le_refl _) (.string x.name)) (Nat.le_refl _) (.int .i64 x.type)) (Nat.le_refl _) (.int .i64 x.cls)) (Nat.le_refl _) (.int .i64 n1)) (Nat.le_refl _) (.string d)
    have e0 := (blk_cell pF 0).trans rfl
    have e1 := (blk_cell pF 1).trans rfl
    have e2 := (blk_cell pF 2).trans rfl
    have e3 := (blk_cell pF 3).trans rfl
    have e4 := (blk_cell pF 4).trans rfl
    have l0 := (blk_cell k8 0).trans rfl
    have l1 := (blk_cell k8 1).trans rfl
    have l2 := (blk_cell k8 2).trans rfl
    have l3 := (blk_cell k8 3).trans rfl
    have l4 := (blk_cell k8 4).trans rfl
    have m4 := (blk_cell k7 4).trans rfl
    have m5 := blk_frozen k7 4
    have z0 := (blk_cell p8 0).trans rfl
    have z1 := (blk_cell p8 1).trans rfl
    have z2 := (blk_cell p8 2).trans rfl
    have z3 := (blk_cell p8 3).trans rfl
    have z4 := (blk_cell p8 4).trans rfl
    have v0 := blk_frozen p8 0
    have v1 := blk_frozen p8 1
    have v2 := blk_frozen p8 2
    have v3 := blk_frozen p8 3
    have v4 := blk_frozen p8 4
    go_wp2
    exact bodyPost_ret (v := .agg #[.string x.name, .int .i64 x.type, .int .i64 x.cls, .int .i64 n1, .string d]) (by simp [results, Try.results68, go_sem, e0, e1, e2, e3, e4]) rfl ⟨by rw [← h1], by rw [← h2]; exact ⟨bF⟩, GF⟩
end
end Go.Proofs.Ytjklgdpffmaamaa.Wm

namespace Go.Proofs.Ytjklgdpffmaamaa.Wm
open Go.RowKit Go.PlainAid Go.Maps Go.Proofs.Ytjklgdpffmaamaa.Base Go.Proofs.Ytjklgdpffmaamaa.Oct Go.Proofs.Ytjklgdpffmaamaa.Nm
open Go.Proofs.YtjklgdpffmaamaaW.PrintWords (blk_cell blk_below blk_put blk_frozen blk_ne blk_new blk_lt blk_grown LeO own_nil own_ne own_other own_setCell)
set_option linter.unusedVariables false
section
variable {P : Program} {ops : Array Oper} {rest : List Oper} {o : Oper} {a : Act} {Q : Exit → Act → World → Prop}
/-- append(v, x), x an element of the cells cs, which lies in the variadic's own block: what has grown. -/
theorem app_elem {W : World} (base : Nat) (hgd : o.guard = none) (s x : Operand) (t e : TypeId) (z : Value) (size bytes : Nat)
    (ho : o.op = .call { callee := .builtin .append, args := #[s, x], argTypes := #[t, t] })
    (ht : P.underlying t = some (.slice e)) (hinfo : (P.info? e).map (fun i => (i.zero, i.size, i.bytes)) = some (some z, size, bytes)) (hz : z.cells.size = size) (hsz : 0 < size)
    {v : Value} {n : Nat} {xs : List Value} (HO : W.ownsRow base e size v n xs) (cs : Array Value) (hs : a.eval s = v) (hx : a.eval x = .slice (some ⟨W.heap.size, 0, none⟩) 1 1)
    (hc : cs.size = size) (h1 : ∀ u ∈ cs.toList, u.oneCell' = true) (hbase : base ≤ W.heap.size) (hn : n + 1 ≤ 140737488355328) (hl : (n + 1) * bytes ≤ 140737488355328)
    (h : ∀ v1 w1, w1.ownsRow base e size v1 (n + 1) (xs ++ cs.toList) → (W.alloc (.cells cs e)).grownBy w1 v.ownBlock → wpList P ops Q rest (a.put o.dst v1) w1) :
    wpList P ops Q (o :: rest) a (W.alloc (.cells cs e)) := by
  obtain ⟨i0, hi, hzz⟩ := Option.map_eq_some_iff.1 hinfo
  simp only [Prod.mk.injEq] at hzz
  obtain ⟨hz0, hz1, hz2⟩ := hzz
  refine wpList_append_own (W.alloc (.cells cs e)) hgd s x t ho base e i0 z size bytes ht hi hz0 hz1 hz2 hz hsz v n xs hs (HO.alloc _) ⟨W.heap.size, 0, none⟩ 1 1 cs.toList hx (by simp [hc])
    (World.news_of_block (cs := cs) (t := e) (fr := (0, 0)) (heap_alloc_new W _)) h1 (by simp only [maxLen]; omega) hl (by simp; omega) ?_
  intro v1 w1 hown hg _
  exact h v1 w1 hown hg
end
theorem grown_own {w W w1 : World} {g : Nat} {row : Option Nat} (h : w.grownBy W (some g)) (k : W.grownBy w1 row) (hr : ∀ b, row = some b → w.heap.size ≤ b) : w.grownBy w1 (some g) :=
  ⟨k.os.trans h.os, k.tape.trans h.tape, k.output.trans h.output, Nat.le_trans h.size k.size, fun i hi hne => (k.block i (Nat.lt_of_lt_of_le hi h.size) (fun e => by have := hr i e.symm; omega)).trans (h.block i hi hne)⟩

theorem info_Q : (Try.prog.info? 40).map (fun i => (i.zero, i.size, i.bytes)) = some (some (.agg #[.string ⟨#[]⟩, .int .i64 0, .int .i64 0]), 3, 32) := by kernel_rfl
abbrev cellQ (q : Qn) : Array Value := #[.string q.name, .int .i64 q.type, .int .i64 q.cls]
def cellsQ : List Qn → List Value
  | [] => []
  | q :: qs => (cellQ q).toList ++ cellsQ qs
theorem cellsQ_app (a b : List Qn) : cellsQ (a ++ b) = cellsQ a ++ cellsQ b := by
  induction a with
  | nil => rfl
  | cons p a ih => simp [cellsQ, ih]
def loopQ (k : Nat) (s : ByteArray) : Nat → Rs → List Qn → Option (List Qn × Rs)
  | 0, r, acc => some (acc, r)
  | n + 1, r, acc => if r.bad then some (acc, r) else (questV k s r).bind fun x => loopQ k s n x.2 (acc ++ [x.1])
/-- So many that are read. -/
def listQ (k : Nat) (s : ByteArray) (n : Nat) (r : Rs) : Option (List Qn × Rs) := loopQ k s n ⟨r.at_, r.bad || decide (64 < n)⟩ []
section
variable {w : World} {g : Nat} {s : ByteArray} {r : Rs}
set_option maxHeartbeats 4000000 in
set_option maxRecDepth 100000 in
theorem listQc (H : RdAt w g s r) (hs : s.size ≤ 4096) (n : Nat) (hn : n ≤ 65535) {k : Nat} {out : List Qn} {r' : Rs} (hq : listQ k s n r = some (out, r')) :
    Calls Try.prog 65 #[.pointer (some ⟨g, 0, none⟩), .int .i64 (n : Int), .func (.func 66) #[] #[]] w fun e w' => ∃ v, e = .returned v ∧ w'.ownsRow w.heap.size 40 3 v out.length (cellsQ out) ∧ RdAt w' g s r' ∧ w.grownBy w' (some g) := by
  have hglt := blk_lt H.blk
  obtain ⟨ra, rb⟩ := r
  have hblk := H.blk
  dsimp only at hblk
  have c2 : w.cell? ⟨g, 2, none⟩ = some (.bool rb) := (blk_cell hblk 2).trans rfl
  have f2 := blk_frozen hblk 2
  obtain ⟨b1, hb1⟩ : ∃ b, (rb || decide (64 < n)) = b := ⟨_, rfl⟩
  have h1 : RdAt (w.setCell ⟨g, 2, none⟩ (.bool b1)) g s ⟨ra, b1⟩ := ⟨blk_put hblk 2 _ rfl⟩
  have G1 := grown_set w g 2 (.bool b1)
  unfold listQ at hq
  dsimp only at hq
  rw [hb1] at hq
  have hsz1 : (w.setCell ⟨g, 2, none⟩ (.bool b1)).heap.size = w.heap.size := by simp [World.setCell]
  have hacc : b1 = false → n ≤ 64 := by
    intro e
    rw [e] at hb1
    cases rb <;> simp at hb1
    omega
  have hw : rb = true ∧ b1 = true ∨ rb = false ∧ 64 < n ∧ b1 = true ∨ rb = false ∧ ¬ 64 < n ∧ b1 = false := by
    cases rb with
    | true => exact .inl ⟨rfl, by simpa using hb1.symm⟩
    | false =>
      by_cases h : 64 < n
      · exact .inr (.inl ⟨rfl, h, by rw [← hb1]; simp [h]⟩)
      · exact .inr (.inr ⟨rfl, h, by rw [← hb1]; simp; omega⟩)
  have HQ := Lib.hid hq
  have HACC := Lib.hid hacc
  have HW := Lib.hid hw
  clear hq hacc hb1 hw
  go_enter Try.func65, Try.ntmps65
  go_upto_region 1 with (fail)
  go_cut [16] (fun v16 wc => wc = w.setCell ⟨g, 2, none⟩ (.bool b1))
  case first =>
    rcases HW.out with ⟨e1, e2⟩ | ⟨e1, h64, e2⟩ | ⟨e1, h64, e2⟩
    · subst e1; subst e2
      go_wp2
      go_meet
      case rel => rfl
    · subst e1; subst e2
      have qn : decide ((64 : Int) < (n : Int)) = true := by simp; omega
      go_wp2
      go_meet
      case rel => rfl
    · subst e1; subst e2
      have qn : decide ((64 : Int) < (n : Int)) = false := by simp; omega
      go_wp2
      go_meet
      case rel => rfl
  case rest =>
  subst hcut
  generalize w.setCell ⟨g, 2, none⟩ (.bool b1) = w1 at *
  clear c2 f2 hblk H
  go_wp2_with fail
  go_loopg [1, 7] (n + 1) (fun kk v1 v7 wr => ∃ (m : Nat) (rr : Rs) (acc : List Qn), v1 = .int .i64 (m : Int) ∧ kk = m + 1 ∧ m ≤ n ∧ loopQ k s m rr acc = some (out, r') ∧ RdAt wr g s rr ∧ wr.ownsRow w.heap.size 40 3 v7 acc.length (cellsQ acc) ∧ w.grownBy wr (some g) ∧ acc.length ≤ 64 ∧ (rr.bad = false → acc.length + m ≤ 64))
  case atStart => exact ⟨n, ⟨ra, b1⟩, [], rfl, rfl, Nat.le_refl _, HQ.out, h1, own_nil _ _ _ _, G1, by simp, fun e => by have := HACC.out e; simpa using this⟩
  case round =>
    obtain ⟨m, rr, acc, rfl, hkk, hmn, hlp, HR, hown, hG, hal, hbd⟩ := hrel
    have HLP := Lib.hid hlp
    have HBD := Lib.hid hbd
    clear hlp hbd
    obtain ⟨ra2, rb2⟩ := rr
    have c2 : wr.cell? ⟨g, 2, none⟩ = some (.bool rb2) := (blk_cell HR.blk 2).trans rfl
    have hsz := hG.size
    cases m with
    | zero =>
      have q0 : decide ((0 : Int) < ((0 : Nat) : Int)) = false := by decide
      have hl := HLP.out
      unfold loopQ at hl
      injection hl with hl
      injection hl with e1 e2
      go_wp2
      go_ret
      exact ⟨_, rfl, by rw [← e1]; exact hown, by rw [← e2]; exact HR, hG⟩
    | succ m =>
      have q0 : decide ((0 : Int) < ((m + 1 : Nat) : Int)) = true := by simp
      cases rb2 with
      | true =>
        have hl := HLP.out
        unfold loopQ at hl
        rw [if_pos rfl] at hl
        injection hl with hl
        injection hl with e1 e2
        go_wp2
        go_ret
        exact ⟨_, rfl, by rw [← e1]; exact hown, by rw [← e2]; exact HR, hG⟩
      | false =>
        have hl := HLP.out
        unfold loopQ at hl
        rw [if_neg (by simp)] at hl
        obtain ⟨⟨q, r2⟩, hx, hl⟩ := Option.bind_eq_some_iff.1 hl
        have kq := questc HR hs hx
        have hb := HBD.out rfl
        have HL := Lib.hid hl
        clear hl hx
        go_wp2_with fail
        refine kq.mono ?_
        rintro e w2 ⟨rfl, H2, G2⟩
        have hne := own_ne hown HR.blk (by decide)
        have hown2 := own_other hown G2 (.inr (Ne.symm hne))
        replace G2 := hG.trans G2
        have s2 := G2.size
        have Bz : ∀ o, Below w2.heap.size w2 (w2.alloc o) := fun o => (Below.refl _ _).alloc (Nat.le_refl _) o
        clear kq hown HR hG
        go_wp2_with (at_builtin; refine app_elem w.heap.size rfl _ _ 24 40 (.agg #[.string ⟨#[]⟩, .int .i64 0, .int .i64 0]) 3 32 rfl Try.underlying24 info_Q rfl (by decide) hown2 (cellQ q) rfl rfl rfl ?h1 s2 ?hn ?hl ?_)
        case h1 => exact ⟨rfl, rfl, rfl⟩
        case hn => omega
        case hl => omega
        intro v3 w3 hown3 hg3
        have H2a := H2.below (Bz (.cells (cellQ q) 40))
        have hown2a := own_other hown2 (grown_below (Bz (.cells (cellQ q) 40)) none) (by cases u7.ownBlock <;> simp)
        have hne2 := own_ne hown2a H2a.blk (by decide)
        have H3 : RdAt w3 g s r2 := ⟨blk_grown H2a.blk hg3 hne2⟩
        have G3 := grown_own (grown_alloc' G2 (.cells (cellQ q) 40)) hg3 (fun b e => Sl.own_base hown2 b e)
        go_wp2
        go_roundg (m + 1)
        case measure => omega
        case rel =>
          refine ⟨m, r2, acc ++ [q], ?_, rfl, by omega, HL.out, H3, ?_, G3, by simp; omega, fun _ => by simp; omega⟩
          · first | rfl | (congr 1; omega)
          · rw [cellsQ_app]; simpa [cellsQ] using hown3
end

theorem info_R : (Try.prog.info? 53).map (fun i => (i.zero, i.size, i.bytes)) = some (some (.agg #[.string ⟨#[]⟩, .int .i64 0, .int .i64 0, .int .i64 0, .string ⟨#[]⟩]), 5, 56) := by kernel_rfl
abbrev cellR (q : Rr) : Array Value := #[.string q.name, .int .i64 q.type, .int .i64 q.cls, .int .i64 q.ttl, .string q.data]
def cellsR : List Rr → List Value
  | [] => []
  | q :: qs => (cellR q).toList ++ cellsR qs
theorem cellsR_app (a b : List Rr) : cellsR (a ++ b) = cellsR a ++ cellsR b := by
  induction a with
  | nil => rfl
  | cons p a ih => simp [cellsR, ih]
def loopR (k : Nat) (s : ByteArray) : Nat → Rs → List Rr → Option (List Rr × Rs)
  | 0, r, acc => some (acc, r)
  | n + 1, r, acc => if r.bad then some (acc, r) else (recV k s r).bind fun x => loopR k s n x.2 (acc ++ [x.1])
/-- So many that are read. -/
def listR (k : Nat) (s : ByteArray) (n : Nat) (r : Rs) : Option (List Rr × Rs) := loopR k s n ⟨r.at_, r.bad || decide (64 < n)⟩ []
section
variable {w : World} {g : Nat} {s : ByteArray} {r : Rs}
set_option maxHeartbeats 4000000 in
set_option maxRecDepth 100000 in
theorem listRc (H : RdAt w g s r) (hs : s.size ≤ 4096) (n : Nat) (hn : n ≤ 65535) {k : Nat} {out : List Rr} {r' : Rs} (hq : listR k s n r = some (out, r')) :
    Calls Try.prog 67 #[.pointer (some ⟨g, 0, none⟩), .int .i64 (n : Int), .func (.func 68) #[] #[]] w fun e w' => ∃ v, e = .returned v ∧ w'.ownsRow w.heap.size 53 5 v out.length (cellsR out) ∧ RdAt w' g s r' ∧ w.grownBy w' (some g) := by
  have hglt := blk_lt H.blk
  obtain ⟨ra, rb⟩ := r
  have hblk := H.blk
  dsimp only at hblk
  have c2 : w.cell? ⟨g, 2, none⟩ = some (.bool rb) := (blk_cell hblk 2).trans rfl
  have f2 := blk_frozen hblk 2
  obtain ⟨b1, hb1⟩ : ∃ b, (rb || decide (64 < n)) = b := ⟨_, rfl⟩
  have h1 : RdAt (w.setCell ⟨g, 2, none⟩ (.bool b1)) g s ⟨ra, b1⟩ := ⟨blk_put hblk 2 _ rfl⟩
  have G1 := grown_set w g 2 (.bool b1)
  unfold listR at hq
  dsimp only at hq
  rw [hb1] at hq
  have hsz1 : (w.setCell ⟨g, 2, none⟩ (.bool b1)).heap.size = w.heap.size := by simp [World.setCell]
  have hacc : b1 = false → n ≤ 64 := by
    intro e
    rw [e] at hb1
    cases rb <;> simp at hb1
    omega
  have hw : rb = true ∧ b1 = true ∨ rb = false ∧ 64 < n ∧ b1 = true ∨ rb = false ∧ ¬ 64 < n ∧ b1 = false := by
    cases rb with
    | true => exact .inl ⟨rfl, by simpa using hb1.symm⟩
    | false =>
      by_cases h : 64 < n
      · exact .inr (.inl ⟨rfl, h, by rw [← hb1]; simp [h]⟩)
      · exact .inr (.inr ⟨rfl, h, by rw [← hb1]; simp; omega⟩)
  have HQ := Lib.hid hq
  have HACC := Lib.hid hacc
  have HW := Lib.hid hw
  clear hq hacc hb1 hw
  go_enter Try.func67, Try.ntmps67
  go_upto_region 1 with (fail)
  go_cut [16] (fun v16 wc => wc = w.setCell ⟨g, 2, none⟩ (.bool b1))
  case first =>
    rcases HW.out with ⟨e1, e2⟩ | ⟨e1, h64, e2⟩ | ⟨e1, h64, e2⟩
    · subst e1; subst e2
      go_wp2
      go_meet
      case rel => rfl
    · subst e1; subst e2
      have qn : decide ((64 : Int) < (n : Int)) = true := by simp; omega
      go_wp2
      go_meet
      case rel => rfl
    · subst e1; subst e2
      have qn : decide ((64 : Int) < (n : Int)) = false := by simp; omega
      go_wp2
      go_meet
      case rel => rfl
  case rest =>
  subst hcut
  generalize w.setCell ⟨g, 2, none⟩ (.bool b1) = w1 at *
  clear c2 f2 hblk H
  go_wp2_with fail
  go_loopg [1, 7] (n + 1) (fun kk v1 v7 wr => ∃ (m : Nat) (rr : Rs) (acc : List Rr), v1 = .int .i64 (m : Int) ∧ kk = m + 1 ∧ m ≤ n ∧ loopR k s m rr acc = some (out, r') ∧ RdAt wr g s rr ∧ wr.ownsRow w.heap.size 53 5 v7 acc.length (cellsR acc) ∧ w.grownBy wr (some g) ∧ acc.length ≤ 64 ∧ (rr.bad = false → acc.length + m ≤ 64))
  case atStart => exact ⟨n, ⟨ra, b1⟩, [], rfl, rfl, Nat.le_refl _, HQ.out, h1, own_nil _ _ _ _, G1, by simp, fun e => by have := HACC.out e; simpa using this⟩
  case round =>
    obtain ⟨m, rr, acc, rfl, hkk, hmn, hlp, HR, hown, hG, hal, hbd⟩ := hrel
    have HLP := Lib.hid hlp
    have HBD := Lib.hid hbd
    clear hlp hbd
    obtain ⟨ra2, rb2⟩ := rr
    have c2 : wr.cell? ⟨g, 2, none⟩ = some (.bool rb2) := (blk_cell HR.blk 2).trans rfl
    have hsz := hG.size
    cases m with
    | zero =>
      have q0 : decide ((0 : Int) < ((0 : Nat) : Int)) = false := by decide
      have hl := HLP.out
      unfold loopR at hl
      injection hl with hl
      injection hl with e1 e2
      go_wp2
      go_ret
      exact ⟨_, rfl, by rw [← e1]; exact hown, by rw [← e2]; exact HR, hG⟩
    | succ m =>
      have q0 : decide ((0 : Int) < ((m + 1 : Nat) : Int)) = true := by simp
      cases rb2 with
      | true =>
        have hl := HLP.out
        unfold loopR at hl
        rw [if_pos rfl] at hl
        injection hl with hl
        injection hl with e1 e2
        go_wp2
        go_ret
        exact ⟨_, rfl, by rw [← e1]; exact hown, by rw [← e2]; exact HR, hG⟩
      | false =>
        have hl := HLP.out
        unfold loopR at hl
        rw [if_neg (by simp)] at hl
        obtain ⟨⟨q, r2⟩, hx, hl⟩ := Option.bind_eq_some_iff.1 hl
        have kq := recc HR hs hx
        have hb := HBD.out rfl
        have HL := Lib.hid hl
        clear hl hx
        go_wp2_with fail
        refine kq.mono ?_
        rintro e w2 ⟨rfl, H2, G2⟩
        have hne := own_ne hown HR.blk (by decide)
        have hown2 := own_other hown G2 (.inr (Ne.symm hne))
        replace G2 := hG.trans G2
        have s2 := G2.size
        have Bz : ∀ o, Below w2.heap.size w2 (w2.alloc o) := fun o => (Below.refl _ _).alloc (Nat.le_refl _) o
        clear kq hown HR hG
        go_wp2_with (at_builtin; refine app_elem w.heap.size rfl _ _ 25 53 (.agg #[.string ⟨#[]⟩, .int .i64 0, .int .i64 0, .int .i64 0, .string ⟨#[]⟩]) 5 56 rfl Try.underlying25 info_R rfl (by decide) hown2 (cellR q) rfl rfl rfl ?h1 s2 ?hn ?hl ?_)
        case h1 => exact ⟨rfl, rfl, rfl, rfl, rfl⟩
        case hn => omega
        case hl => omega
        intro v3 w3 hown3 hg3
        have H2a := H2.below (Bz (.cells (cellR q) 53))
        have hown2a := own_other hown2 (grown_below (Bz (.cells (cellR q) 53)) none) (by cases u7.ownBlock <;> simp)
        have hne2 := own_ne hown2a H2a.blk (by decide)
        have H3 : RdAt w3 g s r2 := ⟨blk_grown H2a.blk hg3 hne2⟩
        have G3 := grown_own (grown_alloc' G2 (.cells (cellR q) 53)) hg3 (fun b e => Sl.own_base hown2 b e)
        go_wp2
        go_roundg (m + 1)
        case measure => omega
        case rel =>
          refine ⟨m, r2, acc ++ [q], ?_, rfl, by omega, HL.out, H3, ?_, G3, by simp; omega, fun _ => by simp; omega⟩
          · first | rfl | (congr 1; omega)
          · rw [cellsR_app]; simpa [cellsR] using hown3
end
end Go.Proofs.Ytjklgdpffmaamaa.Wm

namespace Go.Proofs.Ytjklgdpffmaamaa.Pu
open Go.RowKit Go.Proofs.YtjklgdpffmaamaaW.PrintWords
set_option linter.unusedVariables false

/-! ### whole numbers -/
theorem w64 {x : Int} (h0 : -9223372036854775808 ≤ x) (h1 : x ≤ 9223372036854775807) : wrap64 x = x := by unfold wrap64; omega
theorem wraps_i64 (n : Int) (h0 : 0 ≤ n) (h1 : n < 2 ^ 63) : IntKind.i64.wrap n = n := by
  rw [IntKind.wrap_i64]; omega
theorem or_shl (k : Nat) (hk : k ≤ 62) (a b : Int) (ha : 0 ≤ a) (hb : 0 ≤ b) (hb' : b < 2 ^ k) (hs : a * 2 ^ k + b < 2 ^ 63) : Go.bits .or .i64 (a * 2 ^ k) b = a * 2 ^ k + b := by
  have hp : (0 : Int) < 2 ^ k := by exact_mod_cast Nat.two_pow_pos k
  have h1 : 0 ≤ a * 2 ^ k := Int.mul_nonneg ha (by omega)
  have h2 : (2 : Int) ^ k ≤ 2 ^ 62 := by exact_mod_cast Nat.pow_le_pow_right (by decide) hk
  refine bits_join .i64 63 (by decide) wraps_i64 k (a * 2 ^ k) b h1 (Int.mul_emod_left _ _) (by omega) hb (by exact_mod_cast hb') (by omega)
theorem or_shl8 (a b : Int) (ha : 0 ≤ a) (ha' : a ≤ 36028797018963967) (hb : 0 ≤ b) (hb' : b ≤ 255) : Go.bits .or .i64 (a * 256) b = a * 256 + b :=
  bits_join .i64 63 (by decide) wraps_i64 8 (a * 256) b (by omega) (by omega) (by omega) hb (by omega) (by omega)
theorem and_mask (i : Nat) (hi : i ≤ 63) (x : Int) : Go.bits .and .i64 x (2 ^ i - 1) = x % 2 ^ i := by
  have hpos : 0 < 2 ^ i := Nat.two_pow_pos i
  have hle : 2 ^ i ≤ 2 ^ 63 := Nat.pow_le_pow_right (by decide) hi
  have hc : ((2 : Int) ^ i - 1) = ((2 ^ i - 1 : Nat) : Int) := by rw [Int.natCast_sub hpos]; simp
  have hm : (2 ^ i - 1) % 2 ^ 64 = 2 ^ i - 1 := Nat.mod_eq_of_lt (by omega)
  have hx : (BitVec.ofInt 64 x).toNat = (x % 18446744073709551616).toNat := by simp [BitVec.toNat_ofInt]
  have e : ((x % 18446744073709551616).toNat : Int) = x % 18446744073709551616 := by omega
  have hd : (2 : Int) ^ i ∣ 18446744073709551616 := by
    have : (18446744073709551616 : Int) = 2 ^ i * 2 ^ (64 - i) := by rw [← Int.pow_add]; rw [show i + (64 - i) = 64 by omega]; decide
    exact ⟨_, this⟩
  rw [hc]
  show IntKind.i64.wrap (((BitVec.ofInt 64 x &&& BitVec.ofInt 64 ((2 ^ i - 1 : Nat) : Int)).toNat : Nat) : Int) = _
  rw [BitVec.toNat_and, BitVec.ofInt_natCast, BitVec.toNat_ofNat, hm, hx, Nat.and_two_pow_sub_one_eq_mod]
  have e2 : (((x % 18446744073709551616).toNat % 2 ^ i : Nat) : Int) = x % 2 ^ i := by
    rw [Int.natCast_emod, e]; push_cast
    exact Int.emod_emod_of_dvd _ hd
  rw [e2]
  have h2 : (0 : Int) < 2 ^ i := by exact_mod_cast hpos
  have h3 : (2 : Int) ^ i ≤ 2 ^ 63 := by exact_mod_cast hle
  have := Int.emod_nonneg x (Int.ne_of_gt h2)
  have := Int.emod_lt_of_pos x h2
  exact wraps_i64 _ (by assumption) (by omega)
theorem and_1 (x : Int) : Go.bits .and .i64 x 1 = x % 2 := and_mask 1 (by decide) x
theorem and_63 (x : Int) : Go.bits .and .i64 x 63 = x % 64 := and_mask 6 (by decide) x
theorem and_16383 (x : Int) : Go.bits .and .i64 x 16383 = x % 16384 := and_mask 14 (by decide) x
theorem wraps_u64 (n : Int) (h0 : 0 ≤ n) (h1 : n < 2 ^ 64) : IntKind.u64.wrap n = n := by
  simp [IntKind.wrap, IntKind.bits, IntKind.signed]; omega
theorem u64_wrap (x : Int) : IntKind.u64.wrap x = x % 18446744073709551616 := by simp [IntKind.wrap, IntKind.bits, IntKind.signed]
/-! ### lists -/
/-! ### strings as bytes -/
theorem data_length (s : ByteArray) : s.data.toList.length = s.size := by rw [Array.length_toList]; rfl
theorem ext_data {a b : ByteArray} (h : a.data.toList = b.data.toList) : a = b := ByteArray.ext (Array.ext' h)
theorem bytesOf_inj {a b : ByteArray} (h : bytesOf a = bytesOf b) : a = b := by
  apply ext_data
  unfold bytesOf at h
  refine List.map_inj_right (f := fun b : UInt8 => (b.toNat : Int)) (fun x y e => ?_) |>.1 h
  exact UInt8.toNat_inj.1 (by exact_mod_cast e)
theorem bytesOf_append (a b : ByteArray) : bytesOf (a ++ b) = bytesOf a ++ bytesOf b := by
  unfold bytesOf; rw [ByteArray.data_append, Array.toList_append, List.map_append]
theorem byte_range {s : ByteArray} {x : Int} (h : x ∈ bytesOf s) : 0 ≤ x ∧ x ≤ 255 := by
  unfold bytesOf at h
  obtain ⟨b, _, rfl⟩ := List.mem_map.1 h
  have := b.toNat_lt
  omega
theorem bytesOf_nums {xs : List Int} (h : ∀ x ∈ xs, 0 ≤ x ∧ x ≤ 255) : bytesOf (strOfNums xs) = xs := by
  unfold bytesOf
  rw [Go.strOfNums_data, List.map_map]
  conv => rhs; rw [← List.map_id xs]
  refine List.map_congr_left fun x hx => ?_
  have := h x hx
  simp only [Function.comp_apply, UInt8.toNat_ofNat', id]
  omega
theorem nums_bytesOf (s : ByteArray) : strOfNums (bytesOf s) = s := bytesOf_inj (bytesOf_nums fun _ h => byte_range h)
theorem bt_bytes (s : ByteArray) (i : Nat) : bt s (i : Int) = (bytesOf s).getD i 0 := by
  unfold bt bytesOf
  rw [List.getD_eq_getElem?_getD, List.getElem?_map]
  split
  · rename_i h
    have h' : i < s.size := by simpa using h
    rw [List.getElem?_eq_getElem (by rw [data_length]; exact h')]
    simp
    rfl
  · rename_i h
    have h' : ¬ i < s.size := by simpa using h
    rw [List.getElem?_eq_none (by rw [data_length]; omega)]
    rfl
theorem toList_data (s : ByteArray) : s.toList = s.data.toList := ByteArray.toList_eq s
theorem toList_inj {a b : ByteArray} (h : a.toList = b.toList) : a = b := ext_data (by rw [← toList_data, ← toList_data]; exact h)

/-! ### from some number of rounds on -/
section
variable {α β : Type} {r : α}
theorem Ev.pos {c : Prop} [Decidable c] {f g : Nat → Option α} (h : c) (k : Ev f r) : Ev (fun n => if c then f n else g n) r := by
  simp only [if_pos h]; exact k
theorem Ev.neg {c : Prop} [Decidable c] {f g : Nat → Option α} (h : ¬ c) (k : Ev g r) : Ev (fun n => if c then f n else g n) r := by
  simp only [if_neg h]; exact k
theorem Ev.some (f : Nat → Option α) (h : ∀ n, f n = some r) : Ev f r := ⟨0, fun n _ => h n⟩
/-- A call that needs no rounds. -/
theorem Ev.call {g : Option β} {f : Nat → β → Option α} {a : β} (h : g = Option.some a) (k : Ev (fun n => f n a) r) : Ev (fun n => g.bind (f n)) r := by
  subst h; exact k
end
end Go.Proofs.Ytjklgdpffmaamaa.Pu

namespace Go.Proofs.Ytjklgdpffmaamaa.Wm
open Go.RowKit Go.PlainAid Go.Maps Go.Proofs.Ytjklgdpffmaamaa.Base Go.Proofs.Ytjklgdpffmaamaa.Oct Go.Proofs.Ytjklgdpffmaamaa.Nm Go.Proofs.Ytjklgdpffmaamaa.Wr
open Go.Proofs.YtjklgdpffmaamaaW.PrintWords (blk_cell blk_below blk_put blk_frozen blk_ne own_typed own_setCell own_ne bytesOf bytesOf_length blk_lt)
set_option linter.unusedVariables false
/-- What has been written, what is kept, whether something was too long. -/
structure St where
  S : ByteArray
  m : ByteArray → Option Int
  lg : Bool
def rawSt (st : St) (s : ByteArray) : St := if 4096 < st.S.size + s.size then ⟨st.S, st.m, true⟩ else ⟨st.S ++ s, st.m, st.lg⟩
def nameSt (st : St) (n : ByteArray) : St := if nameB n then (if 4096 < st.S.size + (outN st.m n).size then ⟨st.S, st.m, true⟩ else ⟨st.S ++ outN st.m n, putN st.m n st.S.size, st.lg⟩) else ⟨st.S, st.m, true⟩
def qSt (st : St) (n : ByteArray) (t c : Int) : St := rawSt (nameSt st n) (p16 t ++ p16 c)
structure Ww (base : Nat) (w : World) (gw g gm : Nat) (st : St) : Prop where
  gb : base ≤ gw
  blk : w.heap[gw]? = some (.cells #[ptr g, .bool st.lg] 111 (0, 0))
  wr : ∃ v, Wr base w g gm v (bytesOf st.S) st.m
/-- What a call on wire's writer leaves as it was. -/
structure Kw (w w' : World) (gw g gm : Nat) : Prop where
  size : w.heap.size ≤ w'.heap.size
  block : ∀ k, k < w.heap.size → k ≠ gw → k ≠ g → k ≠ gm → (∀ cs, w.heap[k]? ≠ some (.cells cs 5 (0, 0))) → w'.heap[k]? = w.heap[k]?
section
variable {base gw g gm : Nat} {w w' w1 : World} {st : St} {v : Value} {m : ByteArray → Option Int} {xs : List Int}
theorem Kw.refl (w : World) (gw g gm : Nat) : Kw w w gw g gm := ⟨Nat.le_refl _, fun _ _ _ _ _ _ => rfl⟩
theorem Kw.below (hb : Below w.heap.size w w') : Kw w w' gw g gm := ⟨hb.size, fun k hk _ _ _ _ => hb.block k hk⟩
theorem Kw.trans (h : Kw w w1 gw g gm) (k : Kw w1 w' gw g gm) : Kw w w' gw g gm :=
  ⟨Nat.le_trans h.size k.size, fun i hi a b c d => by
    have e := h.block i hi a b c d
    exact (k.block i (Nat.lt_of_lt_of_le hi h.size) a b c (fun cs => by rw [e]; exact d cs)).trans e⟩
theorem Ww.below (H : Ww base w gw g gm st) (hb : Below w.heap.size w w') : Ww base w' gw g gm st := by
  obtain ⟨v, h⟩ := H.wr
  exact ⟨H.gb, blk_below H.blk hb, v, h.below hb⟩
theorem Ww.base_le (H : Ww base w gw g gm st) : base ≤ w.heap.size := Nat.le_trans H.gb (Nat.le_of_lt (blk_lt H.blk))
theorem Kp.kw (K : Kp w w' g gm) : Kw w w' gw g gm := ⟨K.size, fun k hk _ b c d => K.block k hk b c d⟩
theorem Wr.map_blk (H : Wr base w g gm v xs m) : ∃ es c, w.heap[gm]? = some (.map es c) := by
  obtain ⟨n, D, hn, ⟨es, clock, hb, F⟩, ht⟩ := H.map
  exact ⟨es, clock, hb⟩
/-- The box of wire's writer, behind a call on the writer within. -/
theorem Ww.box (H : Ww base w gw g gm st) (K : Kp w w' g gm) : w'.heap[gw]? = some (.cells #[ptr g, .bool st.lg] 111 (0, 0)) := by
  obtain ⟨v, h⟩ := H.wr
  obtain ⟨es, c, hm⟩ := Wr.map_blk h
  rw [K.block gw (blk_lt H.blk) (blk_ne H.blk h.blk (by decide)) ?_ ?_, H.blk]
  · rintro rfl; rw [H.blk] at hm; cases hm
  · intro cs q; rw [H.blk] at q; injection q with q; injection q with _ q; exact absurd q (by decide)
/-- The flag is written: all else stays. -/
theorem flagged {lg : Bool} (hb : base ≤ gw) (hblk : w.heap[gw]? = some (.cells #[ptr g, .bool lg] 111 (0, 0))) (h : Wr base w g gm v xs m) (b : Bool) :
    (w.setCell ⟨gw, 1, none⟩ (.bool b)).heap[gw]? = some (.cells #[ptr g, .bool b] 111 (0, 0)) ∧ Wr base (w.setCell ⟨gw, 1, none⟩ (.bool b)) g gm v xs m ∧ Below base w (w.setCell ⟨gw, 1, none⟩ (.bool b)) ∧ Kw w (w.setCell ⟨gw, 1, none⟩ (.bool b)) gw g gm := by
  have hs : ∀ k, k ≠ gw → (w.setCell ⟨gw, 1, none⟩ (.bool b)).heap[k]? = w.heap[k]? := fun k hk => Below.heap_setCell w _ _ k hk
  obtain ⟨es, c, hm⟩ := Wr.map_blk h
  refine ⟨blk_put hblk 1 _ rfl, ?_, (Below.refl base w).setCell hb _, ⟨by simp [World.setCell], fun k hk a _ _ _ => hs k a⟩⟩
  obtain ⟨n, D, hn, hmm, ht⟩ := h.map
  refine ⟨h.gb, h.mb, (hs g (blk_ne h.blk hblk (by decide))).trans h.blk, own_setCell h.own (own_ne h.own hblk (by decide)) _, ⟨n, D, hn, hmm.setCell ?_ _, ht⟩, h.len⟩
  rintro rfl; rw [hblk] at hm; cases hm
theorem rawLong0 (H : Wr base w g gm v (bytesOf st.S) m) (s : ByteArray) (hl : 4096 < st.S.size + s.size) :
    Calls Try.prog 90 #[ptr g, .string s] w fun e w' => e = .returned (.int .i64 501) ∧ w' = w := by
  have c0 : w.cell? ⟨g, 0, none⟩ = some v := (blk_cell H.blk 0).trans rfl
  have hx := H.len
  rw [bytesOf_length] at hx
  obtain ⟨A, c, rfl⟩ := Sl.own_slice H.own
  rw [bytesOf_length] at c0
  have q : decide (4096 - (st.S.size : Int) < (s.size : Int)) = true := by simp; omega
  go_enter Try.func90, Try.ntmps90
  go_wp2
  go_ret
  exact ⟨rfl, rfl⟩
theorem rawc (H : Ww base w gw g gm st) (s : ByteArray) : Calls Try.prog 59 #[ptr gw, .string s] w fun e w' => e = .returned (.tuple #[]) ∧ Ww base w' gw g gm (rawSt st s) ∧ Below base w w' ∧ Kw w w' gw g gm := by
  have c0 : w.cell? ⟨gw, 0, none⟩ = some (ptr g) := (blk_cell H.blk 0).trans rfl
  obtain ⟨v, h⟩ := H.wr
  have hlen := h.len
  rw [bytesOf_length] at hlen
  by_cases hl : 4096 < st.S.size + s.size
  · have f1 := blk_frozen H.blk 1
    have c1 : w.cell? ⟨gw, 1, none⟩ = some (.bool st.lg) := (blk_cell H.blk 1).trans rfl
    have F := flagged H.gb H.blk h true
    have e : rawSt st s = ⟨st.S, st.m, true⟩ := if_pos hl
    rw [e]
    go_enter Try.func59, Try.ntmps59
    go_wp2_with fail
    refine (rawLong0 h s hl).mono ?_
    rintro e w1 ⟨rfl, rfl⟩
    go_wp2
    refine bodyPost_end (results_none rfl _ _ _) rfl ?_
    exact ⟨rfl, ⟨H.gb, F.1, v, F.2.1⟩, F.2.2.1, F.2.2.2⟩
  · have e : rawSt st s = ⟨st.S ++ s, st.m, st.lg⟩ := if_neg hl
    rw [e]
    go_enter Try.func59, Try.ntmps59
    go_wp2_with fail
    refine (rawOk h s (by omega) (by rw [bytesOf_length]; omega)).mono ?_
    rintro e w1 ⟨rfl, v1, h1, B1, K1⟩
    have b1 := H.box K1
    have c1 : w1.cell? ⟨gw, 1, none⟩ = some (.bool st.lg) := (blk_cell b1 1).trans rfl
    have f1 := blk_frozen b1 1
    have F := flagged H.gb b1 h1 st.lg
    rw [← Pu.bytesOf_append] at F
    go_wp2
    refine bodyPost_end (results_none rfl _ _ _) rfl ?_
    exact ⟨rfl, ⟨H.gb, F.1, v1, F.2.1⟩, B1.trans F.2.2.1, (Kp.kw K1).trans F.2.2.2⟩
set_option maxHeartbeats 2000000 in
theorem namec (H : Ww base w gw g gm st) (n : ByteArray) (t c : Int) : Calls Try.prog 60 #[ptr gw, .string n, .int .i64 t, .int .i64 c] w fun e w' => e = .returned (.tuple #[]) ∧ Ww base w' gw g gm (qSt st n t c) ∧ Below base w w' ∧ Kw w w' gw g gm := by
  have c0 : w.cell? ⟨gw, 0, none⟩ = some (ptr g) := (blk_cell H.blk 0).trans rfl
  have hbase := H.base_le
  go_enter Try.func60, Try.ntmps60
  go_upto_region 0 with (fail)
  go_cut [21] (fun v21 wc => Ww base wc gw g gm (nameSt st n) ∧ Below base w wc ∧ Kw w wc gw g gm)
  case first =>
    obtain ⟨v, h⟩ := H.wr
    have hlen := h.len
    rw [bytesOf_length] at hlen
    cases hn : nameB n with
    | false =>
      have HE := Lib.hid (show nameSt st n = ⟨st.S, st.m, true⟩ from by unfold nameSt; rw [hn]; rfl)
      go_wp2_with fail
      refine (nameNo h n hn).mono ?_
      rintro e w1 ⟨rfl, h1, B1, K1⟩
      have b1 := H.box K1
      have c1 : w1.cell? ⟨gw, 1, none⟩ = some (.bool st.lg) := (blk_cell b1 1).trans rfl
      have f1 := blk_frozen b1 1
      have F := flagged H.gb b1 h1 true
      go_wp2
      go_meet
      case rel => exact ⟨by rw [HE.out]; exact ⟨H.gb, F.1, v, F.2.1⟩, B1.trans F.2.2.1, (Kp.kw K1).trans F.2.2.2⟩
    | true =>
      by_cases hl : 4096 < st.S.size + (outN st.m n).size
      · have HE := Lib.hid (show nameSt st n = ⟨st.S, st.m, true⟩ from by unfold nameSt; rw [hn, if_pos rfl, if_pos hl])
        go_wp2_with fail
        refine (nameYes h n hn).mono ?_
        rintro e w1 hh
        rw [bytesOf_length, if_pos hl] at hh
        obtain ⟨rfl, h1, B1, K1⟩ := hh
        have b1 := H.box K1
        have c1 : w1.cell? ⟨gw, 1, none⟩ = some (.bool st.lg) := (blk_cell b1 1).trans rfl
        have f1 := blk_frozen b1 1
        have F := flagged H.gb b1 h1 true
        go_wp2
        go_meet
        case rel => exact ⟨by rw [HE.out]; exact ⟨H.gb, F.1, v, F.2.1⟩, B1.trans F.2.2.1, (Kp.kw K1).trans F.2.2.2⟩
      · have HE := Lib.hid (show nameSt st n = ⟨st.S ++ outN st.m n, putN st.m n st.S.size, st.lg⟩ from by unfold nameSt; rw [hn, if_pos rfl, if_neg hl])
        go_wp2_with fail
        refine (nameYes h n hn).mono ?_
        rintro e w1 hh
        rw [bytesOf_length, if_neg hl] at hh
        obtain ⟨rfl, v1, h1, B1, K1⟩ := hh
        rw [← Pu.bytesOf_append] at h1
        have b1 := H.box K1
        have c1 : w1.cell? ⟨gw, 1, none⟩ = some (.bool st.lg) := (blk_cell b1 1).trans rfl
        have f1 := blk_frozen b1 1
        have F := flagged H.gb b1 h1 st.lg
        go_wp2
        go_meet
        case rel => exact ⟨by rw [HE.out]; exact ⟨H.gb, F.1, v1, F.2.1⟩, B1.trans F.2.2.1, (Kp.kw K1).trans F.2.2.2⟩
  case rest =>
  obtain ⟨H1, B1, K1⟩ := hcut
  have s1 := Nat.le_trans hbase B1.size
  go_wp2_with fail
  refine (put16 t _).mono ?_
  rintro e w2 ⟨rfl, B2⟩
  have H2 := H1.below B2
  have s2 := B2.size
  go_wp2_with fail
  refine (put16 c _).mono ?_
  rintro e w3 ⟨rfl, B3⟩
  have H3 := H2.below B3
  have z1 := p16_size t
  have z2 := p16_size c
  have n1 : ¬ 9223372036854775807 < (p16 t).size + (p16 c).size := by omega
  go_wp2_with fail
  refine (rawc H3 (p16 t ++ p16 c)).mono ?_
  rintro e w4 ⟨rfl, H4, B4, K4⟩
  go_wp2
  refine bodyPost_end (results_none rfl _ _ _) rfl ?_
  exact ⟨rfl, H4, ((B1.trans (B2.mono s1)).trans (B3.mono (Nat.le_trans s1 s2))).trans B4, ((K1.trans (Kw.below B2)).trans (Kw.below B3)).trans K4⟩
end
end Go.Proofs.Ytjklgdpffmaamaa.Wm

namespace Go.Proofs.Ytjklgdpffmaamaa.Wm
open Go.RowKit Go.PlainAid Go.Maps Go.Proofs.Ytjklgdpffmaamaa.Base Go.Proofs.Ytjklgdpffmaamaa.Oct Go.Proofs.Ytjklgdpffmaamaa.Nm Go.Proofs.Ytjklgdpffmaamaa.Wr
open Go.Proofs.YtjklgdpffmaamaaW.PrintWords (blk_cell blk_below blk_put blk_frozen blk_ne blk_new blk_lt)
set_option linter.unusedVariables false
def qStep (st : St) (q : Qn) : St := qSt st q.name q.type q.cls
def rSt (st : St) (r : Rr) : St := rawSt (qSt st r.name r.type r.cls) (p32 r.ttl ++ p16 (r.data.size : Int) ++ r.data)
def st0 (hS : ByteArray) : St := rawSt ⟨⟨#[]⟩, fun _ => none, false⟩ hS
def putSt (hS : ByteArray) (qs : List Qn) (an ns ar : List Rr) : St := ar.foldl rSt (ns.foldl rSt (an.foldl rSt (qs.foldl qStep (st0 hS))))
def hOk (m : MsgV) : Bool := Hd.mayB m.h m.qs.length m.an.length m.ns.length m.ar.length
def hStr (m : MsgV) : ByteArray := Hd.wroteS m.h m.qs.length m.an.length m.ns.length m.ar.length
def putOk (m : MsgV) : Bool := hOk m && fitsB m.qs m.an m.ns m.ar
def putEnd (m : MsgV) : St := putSt (hStr m) m.qs m.an m.ns m.ar
def putS (m : MsgV) : ByteArray := if putOk m then (if (putEnd m).lg then ⟨#[]⟩ else (putEnd m).S) else ⟨#[]⟩
def putE (m : MsgV) : Int := if putOk m then (if (putEnd m).lg then 701 else 0) else 700
theorem fits_len {qs : List Qn} {an ns ar : List Rr} (h : fitsB qs an ns ar = true) : qs.length ≤ 64 ∧ an.length ≤ 64 ∧ ns.length ≤ 64 ∧ ar.length ≤ 64 := by
  simp only [fitsB, Bool.and_eq_true, decide_eq_true_eq] at h
  obtain ⟨⟨⟨⟨a, _⟩, b, _⟩, c, _⟩, d, _⟩ := h
  exact ⟨a, b, c, d⟩
theorem take_fold {α β : Type} (f : β → α → β) (b : β) (l : List α) (d : α) (j : Nat) (h : j < l.length) : (l.take (j + 1)).foldl f b = f ((l.take j).foldl f b) (l.getD j d) := by
  rw [List.take_succ_eq_append_getElem h, List.foldl_append, List.getD_eq_getElem?_getD, List.getElem?_eq_getElem h]; rfl
set_option maxHeartbeats 16000000 in
set_option maxRecDepth 100000 in
theorem putc (m : MsgV) (w : World) (hm : m.Lies w) : Calls Try.prog 34 #[.agg m.cells] w fun e w' => e = .returned (.tuple #[.string (putS m), .int .i64 (putE m)]) ∧ Below w.heap.size w w' := by
  have hrows := fun p hp => get_rows hm p hp
  have hsa := hm.sa
  have hmq := hm.q
  have hlq := hm.lq
  have hfit := fun b w hb (hl : m.Lies w) => fitsc m b w hb hl
  obtain ⟨M, hM⟩ : ∃ M, m = M := ⟨m, rfl⟩
  have hps : putS m = if hOk m && fitsB m.qs m.an m.ns m.ar then (if (putSt (hStr m) m.qs m.an m.ns m.ar).lg then ⟨#[]⟩ else (putSt (hStr m) m.qs m.an m.ns m.ar).S) else ⟨#[]⟩ := rfl
  have hpe : putE m = if hOk m && fitsB m.qs m.an m.ns m.ar then (if (putSt (hStr m) m.qs m.an m.ns m.ar).lg then 701 else 0) else 700 := rfl
  have hho : hOk m = Hd.mayB m.h m.qs.length m.an.length m.ns.length m.ar.length := rfl
  have hhs : hStr m = Hd.wroteS m.h m.qs.length m.an.length m.ns.length m.ar.length := rfl
  have B1 : Below w.heap.size w (w.alloc (.cells m.cells 27)) := (Below.refl _ _).alloc (Nat.le_refl _) _
  have b1 : (w.alloc (.cells m.cells 27)).heap[w.heap.size]? = some (.cells m.cells 27 (0, 0)) := blk_new _ _
  have L1 := hm.below B1
  have z1 : (w.alloc (.cells m.cells 27)).heap.size = w.heap.size + 1 := by simp
  generalize putS m = pS at *
  generalize putE m = pE at *
  generalize hOk m = pO at *
  generalize hStr m = pH at *
  clear hm
  rcases m with ⟨h, Aq, cq, qs, Aa, ca, an, An, cn, ns, Ar, cr, ar⟩
  have HPS := Lib.hid hps
  have HPE := Lib.hid hpe
  have HL1 := Lib.hid L1
  have HFIT := Lib.hid hfit
  clear hps hpe hM L1 hfit
  dsimp only [MsgV.cells] at *
  go_enter Try.func34, Try.ntmps34
  go_wp2_with fail
  refine (Hd.wrote h qs.length an.length ns.length ar.length _).mono ?_
  generalize (w.alloc (.cells #[.int .i64 h.id, .bool h.qr, .int .i64 h.op, .bool h.aa, .bool h.tc, .bool h.rd, .bool h.ra, .int .i64 h.z, .int .i64 h.rc, .slice Aq qs.length cq, .slice Aa an.length ca, .slice An ns.length cn, .slice Ar ar.length cr] 27)) = w0 at *
  rintro e w1 ⟨rfl, B2⟩
  have b2 := blk_below b1 B2
  have L2 := HL1.out.below B2
  replace B2 := B1.trans (B2.mono (by omega))
  have s2 := B2.size
  have hb0 := blk_lt b2
  rw [← hhs]
  have he : Hd.wroteE h qs.length an.length ns.length ar.length = if pO then 0 else 600 := by unfold Hd.wroteE; rw [hho]
  rw [he]
  clear he hhs hho B1 b1 z1
  cases pO with
  | false =>
    go_wp2_with fail
    go_ret2
    have e1 : pS = ⟨#[]⟩ := HPS.out
    have e2 : pE = 700 := HPE.out
    exact ⟨by rw [e1, e2]; rfl, B2⟩
  | true =>
    go_wp2_with fail
    refine (HFIT.out _ _ b2 L2).mono ?_
    rintro e w2 ⟨rfl, B3⟩
    have b3 := blk_below b2 B3
    have L3 := L2.below B3
    replace B3 := B2.trans (B3.mono s2)
    have s3 := B3.size
    have hb3 := blk_lt b3
    clear L2 b2 B2 s2 hb0 HFIT HL1
    cases hfb : fitsB qs an ns ar with
    | false =>
      have HFB := Lib.hid hfb
      clear hfb
      go_wp2_with fail
      go_ret2
      have e1 : pS = ⟨#[]⟩ := by have := HPS.out; rw [HFB.out] at this; exact this
      have e2 : pE = 700 := by have := HPE.out; rw [HFB.out] at this; exact this
      exact ⟨by rw [e1, e2]; rfl, B3⟩
    | true =>
      have e1 := HPS.out
      have e2 := HPE.out
      rw [hfb] at e1 e2
      have E1 := Lib.hid e1
      have E2 := Lib.hid e2
      clear e1 e2 HPS HPE
      go_wp2_with fail
      refine (newc w2).mono ?_
      rintro e w3 ⟨g, gm, rfl, B4, H4⟩
      go_wp2_with fail
      have Ba : Below w3.heap.size w3 (w3.alloc (.cells #[ptr g, .bool false] 111)) := (Below.refl _ _).alloc (Nat.le_refl _) _
      have W4 : Ww w2.heap.size (w3.alloc (.cells #[ptr g, .bool false] 111)) w3.heap.size g gm ⟨⟨#[]⟩, fun _ => none, false⟩ := ⟨B4.size, blk_new _ _, _, H4.below Ba⟩
      have B5 := B4.trans (Ba.mono B4.size)
      clear H4 Ba B4
      generalize w3.alloc (.cells #[ptr g, .bool false] 111) = w4 at *
      generalize w3.heap.size = gw at *
      refine (rawc W4 pH).mono ?_
      rintro e w5 ⟨rfl, W5, B6, -⟩
      replace B6 := B5.trans B6
      clear W4 B5
      have hmq2 := L3.q
      have hrow2 := fun p hp => get_rows L3 p hp
      dsimp only at hmq2 hrow2
      have c9 : w2.cell? ⟨w.heap.size, 9, none⟩ = some (.slice Aq qs.length cq) := (blk_cell b3 9).trans rfl
      have c10 : w2.cell? ⟨w.heap.size, 10, none⟩ = some (.slice Aa an.length ca) := (blk_cell b3 10).trans rfl
      have c11 : w2.cell? ⟨w.heap.size, 11, none⟩ = some (.slice An ns.length cn) := (blk_cell b3 11).trans rfl
      have c12 : w2.cell? ⟨w.heap.size, 12, none⟩ = some (.slice Ar ar.length cr) := (blk_cell b3 12).trans rfl
      have d9 := bcell B6 c9
      clear hrows hmq L3 b3 hsa
      have hfl := fits_len hfb
      have hql := hfl.1
      have HFL := Lib.hid hfl
      have HFB := Lib.hid hfb
      clear hfb hfl
      go_wp2_with fail
      go_loopg [47] (qs.length + 1) (fun k v47 wr => ∃ j : Nat, v47 = .int .i64 j ∧ j + k = qs.length + 1 ∧ j ≤ qs.length ∧ Ww w2.heap.size wr gw g gm ((qs.take j).foldl qStep (st0 pH)) ∧ Below w2.heap.size w2 wr)
      case atStart => exact ⟨0, rfl, by omega, by omega, W5, B6⟩
      case round =>
        obtain ⟨j, rfl, hk1, hk2, HW, B⟩ := hrel
        have hbs := HW.base_le
        by_cases hj : j < qs.length
        · have q0 : decide ((j : Int) < (qs.length : Int)) = true := by simp; omega
          obtain ⟨ad, eA, hat⟩ : ∃ ad, Aq = some ad ∧ ∀ j, j < qs.length → AtQ w2 (ad.add (j * 3)) (qs.getD j zQ) := by
            rcases hmq2 with h | h
            · omega
            · exact h
          subst eA
          have ha := (hat j hj).below B
          have hfo := take_fold qStep (st0 pH) qs zQ j hj
          generalize qs.getD j zQ = x at *
          have HFO := Lib.hid hfo
          clear hfo hat
          obtain ⟨f0, f1, f2⟩ := ha
          have Ba : Below wr.heap.size wr (wr.alloc (.cells #[.string x.name, .int .i64 x.type, .int .i64 x.cls] 40)) := (Below.refl _ _).alloc (Nat.le_refl _) _
          go_wp2_with fail
          refine (namec (HW.below Ba) x.name x.type x.cls).mono ?_
          rintro e w6 ⟨rfl, HW6, B7, -⟩
          go_wp2_with fail
          go_roundg (gk - 1)
          case measure => omega
          case rel => exact ⟨j + 1, rfl, by omega, by omega, by rw [HFO.out]; exact HW6, (B.trans (Ba.mono hbs)).trans B7⟩
        · have q0 : decide ((j : Int) < (qs.length : Int)) = false := by simp; omega
          have hst : (qs.take j).foldl qStep (st0 pH) = qs.foldl qStep (st0 pH) := by rw [List.take_of_length_le (by omega)]
          rw [hst] at HW
          clear hst
          generalize hs1 : qs.foldl qStep (st0 pH) = st1 at *
          have HS1 := Lib.hid hs1
          clear hs1
          have d10 := bcell B c10
          have d11 := bcell B c11
          have d12 := bcell B c12
          go_wp2_with fail
          clear d10 d11 d12 d9 c9 c10 c11 c12 hmq2
          go_loopg [67] 4 (fun k v67 wr => ∃ p : Nat, v67 = .int .i64 p ∧ p + k = 4 ∧ p ≤ 3 ∧ Ww w2.heap.size wr gw g gm (([an, ns, ar].take p).foldl (fun st l => l.foldl rSt st) st1) ∧ Below w2.heap.size w2 wr)
          case atStart => exact ⟨0, rfl, rfl, by omega, HW, B⟩
          case round =>
            obtain ⟨p, rfl, hp1, hp2, HW, B⟩ := hrel
            by_cases hp : p < 3
            · have q0 : decide ((p : Int) < 3) = true := by simp; omega
              obtain ⟨A, l, c, hix, hcl, hlc, hsm, hl⟩ := hrow2 p hp
              have hfo : ([an, ns, ar].take (p + 1)).foldl (fun st l => l.foldl rSt st) st1 = l.foldl rSt (([an, ns, ar].take p).foldl (fun st l => l.foldl rSt st) st1) := by
                rw [take_fold _ st1 [an, ns, ar] [] p hp, hl]
              have HFO := Lib.hid hfo
              have hll : l.length ≤ 64 := by
                have := HFL.out
                obtain rfl | rfl | rfl : p = 0 ∨ p = 1 ∨ p = 2 := by omega
                · rw [hl]; exact this.2.1
                · rw [hl]; exact this.2.2.1
                · rw [hl]; exact this.2.2.2
              clear hfo hl
              generalize hs2 : ([an, ns, ar].take p).foldl (fun st l => l.foldl rSt st) st1 = st2 at *
              have HS2 := Lib.hid hs2
              clear hs2
              go_wp2_with fail
              go_loopg [72] (l.length + 1) (fun k v72 wr => ∃ j : Nat, v72 = .int .i64 j ∧ j + k = l.length + 1 ∧ j ≤ l.length ∧ Ww w2.heap.size wr gw g gm ((l.take j).foldl rSt st2) ∧ Below w2.heap.size w2 wr)
              case atStart => exact ⟨0, rfl, by omega, by omega, HW, B⟩
              case round =>
                obtain ⟨j, rfl, hj1, hj2, HW, B⟩ := hrel
                have hbs := HW.base_le
                by_cases hj : j < l.length
                · have q2 : decide ((j : Int) < (l.length : Int)) = true := by simp; omega
                  obtain ⟨ad, eA, hat⟩ : ∃ ad, A = some ad ∧ ∀ j, j < l.length → AtR w2 (ad.add (j * 5)) (l.getD j zR) := by
                    rcases hcl with h | h
                    · omega
                    · exact h
                  subst eA
                  have ha := (hat j hj).below B
                  have hmem : l.getD j zR ∈ l := by rw [List.getD_eq_getElem?_getD, List.getElem?_eq_getElem hj]; exact List.getElem_mem hj
                  have hds := hsm _ hmem
                  have hfo := take_fold rSt st2 l zR j hj
                  generalize l.getD j zR = x at *
                  generalize hs3 : (l.take j).foldl rSt st2 = st3 at *
                  have HFO3 := Lib.hid hfo
                  have HS3 := Lib.hid hs3
                  clear hfo hat hs3 hmem
                  obtain ⟨f0, f1, f2, f3, f4⟩ := ha
                  have Ba : Below wr.heap.size wr (wr.alloc (.cells #[.string x.name, .int .i64 x.type, .int .i64 x.cls, .int .i64 x.ttl, .string x.data] 53)) := (Below.refl _ _).alloc (Nat.le_refl _) _
                  have ba := blk_new wr (.cells #[.string x.name, .int .i64 x.type, .int .i64 x.cls, .int .i64 x.ttl, .string x.data] 53)
                  have HWa := HW.below Ba
                  go_wp2_with fail
                  refine (namec HWa x.name x.type x.cls).mono ?_
                  rintro e w6 ⟨rfl, HW6, B7, K7⟩
                  have b6 : w6.heap[wr.heap.size]? = some (.cells #[.string x.name, .int .i64 x.type, .int .i64 x.cls, .int .i64 x.ttl, .string x.data] 53 (0, 0)) := by
                    obtain ⟨v, hv⟩ := HWa.wr
                    obtain ⟨es, c, hmp⟩ := Wr.map_blk hv
                    rw [K7.block _ (blk_lt ba) (blk_ne ba HWa.blk (by decide)) (blk_ne ba hv.blk (by decide)) ?_ ?_]
                    · exact ba
                    · intro q; rw [q, hmp] at ba; cases ba
                    · intro cs q; rw [ba] at q; injection q with q; injection q with _ q; exact absurd q (by decide)
                  have e3 : w6.cell? ⟨wr.heap.size, 3, none⟩ = some (.int .i64 x.ttl) := (blk_cell b6 3).trans rfl
                  have e4 : w6.cell? ⟨wr.heap.size, 4, none⟩ = some (.string x.data) := (blk_cell b6 4).trans rfl
                  have B8 := (B.trans (Ba.mono hbs)).trans B7
                  have s8 := B8.size
                  clear HWa ba Ba K7 B7 HW f0 f1 f2 f3 f4 b6 B hbs
                  have y1 := p32_size x.ttl
                  have y2 := p16_size (x.data.size : Int)
                  have n1 : ¬ 9223372036854775807 < (p32 x.ttl).size + (p16 (x.data.size : Int)).size := by omega
                  have n2 : ¬ 9223372036854775807 < (p32 x.ttl ++ p16 (x.data.size : Int)).size + x.data.size := by rw [ByteArray.size_append]; omega
                  have n3 : ¬ 9223372036854775807 < (p32 x.ttl).size + (p16 (x.data.size : Int)).size + x.data.size := by omega
                  have n4 : ¬ 9223372036854775807 < 4 + 2 + x.data.size := by omega
                  have n5 : ¬ 9223372036854775807 < 6 + x.data.size := by omega
                  have Hd6 := HW6.below (Below.refl _ w6).drew
                  have Bd6 := B8.drew
                  go_upto_region 18 with (fail)
                  go_region_with (first
                    | (go_at_call 61; refine (put32 _ _).mono ?_; rintro e w7 ⟨rfl, B9⟩; have H7 := Hd6.below B9; have g3 := bcell B9 e3; have g4 := bcell B9 e4; have s9 := B9.size)
                    | (go_at_call 62; refine (put16 _ _).mono ?_; rintro e w8 ⟨rfl, B10⟩; have H8 := H7.below B10; have g5 := bcell B10 g3; have g6 := bcell B10 g4)
                    | (go_at_call 59; refine (rawc H8 _).mono ?_; rintro e w9 ⟨rfl, H9, B11, -⟩))
                  all_goals
                    go_wp2_with fail
                    go_roundg (l.length - j)
                    case measure => omega
                    case rel => exact ⟨j + 1, rfl, by omega, by omega, by rw [HFO3.out]; exact H9, ((Bd6.trans (B9.mono s8)).trans (B10.mono (Nat.le_trans s8 s9))).trans B11⟩
                · have q2 : decide ((j : Int) < (l.length : Int)) = false := by simp; omega
                  have hst : (l.take j).foldl rSt st2 = l.foldl rSt st2 := by rw [List.take_of_length_le (by omega)]
                  rw [hst, ← HFO.out] at HW
                  clear hst
                  go_wp2_with fail
                  go_roundg (3 - p)
                  case measure => omega
                  case rel => exact ⟨p + 1, rfl, by omega, by omega, HW, B⟩
            · have q0 : decide ((p : Int) < 3) = false := by simp; omega
              obtain rfl : p = 3 := by omega
              have hst : ([an, ns, ar].take 3).foldl (fun st l => l.foldl rSt st) st1 = putSt pH qs an ns ar := by rw [← HS1.out]; rfl
              rw [hst] at HW
              have HST := Lib.hid hst
              clear hst
              have E1' := E1.out
              have E2' := E2.out
              clear E1 E2
              generalize putSt pH qs an ns ar = st9 at *
              obtain ⟨v, hv⟩ := HW.wr
              have hall := allc hv
              rw [Pu.nums_bytesOf] at hall
              have d0 : wr.cell? ⟨gw, 0, none⟩ = some (ptr g) := (blk_cell HW.blk 0).trans rfl
              have d1 : wr.cell? ⟨gw, 1, none⟩ = some (.bool st9.lg) := (blk_cell HW.blk 1).trans rfl
              have BF := B3.trans (B.mono s3)
              obtain ⟨sS, sm, slg⟩ := st9
              dsimp only at hall d1 E1' E2'
              have E1 := Lib.hid E1'
              have E2 := Lib.hid E2'
              clear E1' E2' HW hv
              cases slg with
              | true =>
                go_wp2_with fail
                go_ret2
                exact ⟨by rw [E1.out, E2.out]; rfl, BF⟩
              | false =>
                go_wp2_with fail
                refine hall.mono ?_
                rintro e w9 ⟨rfl, rfl⟩
                go_wp2_with fail
                go_ret2
                exact ⟨by rw [E1.out, E2.out]; rfl, BF⟩
end Go.Proofs.Ytjklgdpffmaamaa.Wm

namespace Go.Proofs.Ytjklgdpffmaamaa.CompS
open Go.RowKit Go.Proofs.Ytjklgdpffmaamaa.PCm Go.Proofs.YtjklgdpffmaamaaW.PrintWords Go.Proofs.Ytjklgdpffmaamaa.Pu
set_option linter.unusedVariables false
abbrev err : ByteArray × Int × Int := ((⟨#[]⟩ : ByteArray), 0, 500)
theorem f_at {s : ByteArray} {i : Nat} {r : ByteArray × Int × Int} (h : Ev (fun k => comp_Name.l0 k s (i : Int) [] (i : Int) (-1)) r) : Ev (fun k => comp_Name.f k s (i : Int)) r := Ev.neg (by omega) h
theorem l_end {s : ByteArray} {i : Int} {out : List Int} {bg bh : Int} (h : (s.size : Int) ≤ i) : Ev (fun k => comp_Name.l0 k s i out bg bh) err := by
  refine Ev.step (fun k => by rw [comp_Name.l0]) (Ev.neg (by omega) ?_)
  exact Ev.step (fun k => by rw [comp_Name.j1]) (Ev.neg (by simp) (Ev.some _ fun _ => rfl))
theorem l_go {s : ByteArray} {i : Int} {out : List Int} {bg bh b : Int} {r : ByteArray × Int × Int} (h0 : 0 ≤ i) (h : i < (s.size : Int)) (ho : out.length < 255) (hb : bt s i = b) (hz : b ≠ 0)
    (h1 : b ≤ 63 → Ev (fun k => comp_Name.j2 k s i out bg bh b (decide (b < wrap64 ((s.size : Int) - i)))) r) (h2 : 63 < b → Ev (fun k => comp_Name.j2 k s i out bg bh b false) r) : Ev (fun k => comp_Name.l0 k s i out bg bh) r := by
  have hr := bt_range s i
  rw [hb] at hr
  refine Ev.step (fun k => by rw [comp_Name.l0]) (Ev.pos h ?_)
  rw [decide_eq_true (show (out.length : Int) < 255 by omega)]
  refine Ev.step (fun k => by rw [comp_Name.j1]) (Ev.pos rfl (Ev.pos h0 (Ev.pos h ?_)))
  rw [hb, w64 (x := b) (by omega) (by omega)]
  refine Ev.neg hz ?_
  by_cases hc : b ≤ 63
  · exact Ev.pos hc (h1 hc)
  · exact Ev.neg hc (h2 (by omega))
theorem l_lab {s : ByteArray} {i : Int} {out : List Int} {bg bh b : Int} {r : ByteArray × Int × Int} (hs : s.size ≤ 1000000) (h0 : 0 ≤ i) (ho : out.length < 255) (hb : bt s i = b) (hz : b ≠ 0) (h63 : b ≤ 63) (hf : b < (s.size : Int) - i)
    (h : Ev (fun k => comp_Name.l0 k s (i + 1 + b) (out ++ bytesOf (s.extract i.toNat (i + 1 + b).toNat)) bg bh) r) : Ev (fun k => comp_Name.l0 k s i out bg bh) r := by
  have hr := bt_range s i
  rw [hb] at hr
  refine l_go h0 (by omega) ho hb hz (fun _ => ?_) (fun h => by omega)
  rw [w64 (x := (s.size : Int) - i) (by omega) (by omega), decide_eq_true hf]
  refine Ev.step (fun k => by rw [comp_Name.j2]) (Ev.pos rfl ?_)
  rw [w64 (x := i + 1) (by omega) (by omega), w64 (x := i + 1 + b) (by omega) (by omega), w64 (x := 1 + b) (by omega) (by omega), w64 (x := i + (1 + b)) (by omega) (by omega), show i + (1 + b) = i + 1 + b by omega]
  refine Ev.pos (by omega) (Ev.pos (by omega) (Ev.pos (by omega) (Ev.pos ?_ h)))
  rw [ByteArray.size_extract]; omega
theorem l_bad {s : ByteArray} {i : Int} {out : List Int} {bg bh b : Int} (hs : s.size ≤ 1000000) (h0 : 0 ≤ i) (h : i < (s.size : Int)) (ho : out.length < 255) (hb : bt s i = b) (h64 : 64 ≤ b) (hn : b < 192 ∨ (s.size : Int) ≤ i + 1) : Ev (fun k => comp_Name.l0 k s i out bg bh) err := by
  refine l_go h0 h ho hb (by omega) (fun h => by omega) (fun _ => ?_)
  refine Ev.step (fun k => by rw [comp_Name.j2]) (Ev.neg (by simp) ?_)
  by_cases hc : b ≥ 192
  · refine Ev.pos hc ?_
    rw [w64 (x := i + 1) (by omega) (by omega), decide_eq_false (show ¬ i + 1 < (s.size : Int) by omega)]
    exact Ev.step (fun k => by rw [comp_Name.j3]) (Ev.neg (by simp) (Ev.some _ fun _ => rfl))
  · exact Ev.neg hc (Ev.step (fun k => by rw [comp_Name.j3]) (Ev.neg (by simp) (Ev.some _ fun _ => rfl)))
/-- Where a pointer leads. -/
theorem to_eq {b c : Int} (hb : 192 ≤ b) (hb2 : b ≤ 255) (hc : 0 ≤ c) (hc2 : c ≤ 255) : Go.bits .or .i64 (wrap64 ((Go.bits .and .i64 b 63) * 256)) (wrap64 c) = (b - 192) * 256 + c := by
  rw [and_63, w64 (x := c) (by omega) (by omega), show b % 64 = b - 192 by omega, w64 (by omega) (by omega), or_shl8 _ _ (by omega) (by omega) hc hc2]
theorem l_ptr {s : ByteArray} {i : Int} {out : List Int} {bg bh b c : Int} (hs : s.size ≤ 1000000) (h0 : 0 ≤ i) (h : i + 1 < (s.size : Int)) (ho : out.length < 255) (hb : bt s i = b) (h192 : 192 ≤ b) (hc : bt s (i + 1) = c) (hto : bg ≤ (b - 192) * 256 + c) :
    Ev (fun k => comp_Name.l0 k s i out bg bh) err := by
  have r1 := bt_range s i
  have r2 := bt_range s (i + 1)
  rw [hb] at r1
  rw [hc] at r2
  refine l_go h0 (by omega) ho hb (by omega) (fun h => by omega) (fun _ => ?_)
  refine Ev.step (fun k => by rw [comp_Name.j2]) (Ev.neg (by simp) (Ev.pos h192 ?_))
  rw [w64 (x := i + 1) (by omega) (by omega), decide_eq_true h]
  refine Ev.step (fun k => by rw [comp_Name.j3]) (Ev.pos rfl ?_)
  rw [w64 (x := i + 1) (by omega) (by omega)]
  refine Ev.pos (by omega) (Ev.pos h (Ev.pos ?_ (Ev.some _ fun _ => rfl)))
  rw [hc, to_eq h192 r1.2 r2.1 r2.2]
  exact hto
end Go.Proofs.Ytjklgdpffmaamaa.CompS
