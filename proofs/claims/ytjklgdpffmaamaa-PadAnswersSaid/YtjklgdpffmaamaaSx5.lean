/- A message that was written is read again as it was. Plain: no program in sight. -/
import Derived.Test.YtjklgdpffmaamaaProg
import Derived.Below
import Derived.Deep.Draws
import Derived.Deep.AppendLies
import Derived.Maps.AppendAt
import Derived.OwnWalk
import Derived.Laws.BytesArg
import Derived.Laws.MakeOwn
import Derived.Laws.OwnMore
import Derived.Deep.OwnRows
import Derived.Tactics
import Derived.Lib.ConvBytes
import Derived.Laws.Slices
import Derived.WalkKit
import Derived.KernelRfl
import Derived.RowKit3
import Derived.Deep.LoopGhost
import Derived.Deep.QuietTactic
import Derived.BigQuiet
import Derived.WideLaws
import Derived.Deep.DeepCutAuto
import Derived.Deep.CutBlock
import Derived.Deep.RegionHeld3
import Derived.Laws.Rows
import Derived.Lib.AppendStr
import Derived.ArgAppend
import Derived.Laws.IdiomCopy
import Derived.OrdersHeld
import Derived.Laws.BitsLemmas
import Derived.RowKit
import Derived.Lib.Hide
import Derived.Lib.Builder
import Derived.Deep.RegionLaw
import Derived.Laws.IdiomStrings
import Derived.Shelf.Strings.Builder1
import Derived.Test.YtjklgdpffmaamaaSx1
import Derived.Test.YtjklgdpffmaamaaSx2
import Derived.Test.YtjklgdpffmaamaaSx3
import Derived.Test.YtjklgdpffmaamaaSx4
namespace Go.Proofs.Ytjklgdpffmaamaa.Wm
open Go.RowKit Go.PlainAid Go.Proofs.Ytjklgdpffmaamaa.Base Go.Proofs.Ytjklgdpffmaamaa.Oct Go.Proofs.Ytjklgdpffmaamaa.Nm Go.Proofs.Ytjklgdpffmaamaa.Wr Go.Proofs.Ytjklgdpffmaamaa.PCm Go.Proofs.Ytjklgdpffmaamaa.CompS Go.Proofs.Ytjklgdpffmaamaa.Pu
open Go.Proofs.YtjklgdpffmaamaaW.PrintWords (Ev bytesOf bytesOf_length LeO)
set_option linter.unusedVariables false
theorem st0_ok {hS : ByteArray} (h : hS.size = 12) : st0 hS = ⟨hS, fun _ => none, false⟩ := by
  unfold st0 rawSt
  rw [if_neg (by show ¬ 4096 < 0 + hS.size; omega)]
  rw [show (⟨#[]⟩ : ByteArray) ++ hS = hS from ByteArray.empty_append]
theorem st0_good {hS : ByteArray} (h : hS.size = 12) : Good (st0 hS) := by
  rw [st0_ok h]
  exact ⟨(fun r t k => by cases k), by show hS.size ≤ 4096; omega, rfl⟩
theorem putOk_parts {m : MsgV} (h : putOk m = true) : hOk m = true ∧ hStr m = m.h.putS m.qs.length m.an.length m.ns.length m.ar.length ∧ (m.qs.length ≤ 64 ∧ m.an.length ≤ 64 ∧ m.ns.length ≤ 64 ∧ m.ar.length ≤ 64) ∧ (∀ q ∈ m.qs, qMay q = true) ∧ (∀ r ∈ m.an, rMay r = true) ∧ (∀ r ∈ m.ns, rMay r = true) ∧ (∀ r ∈ m.ar, rMay r = true) := by
  unfold putOk at h
  simp only [Bool.and_eq_true] at h
  obtain ⟨h0, h1⟩ := h
  have hl := fits_len h1
  unfold fitsB at h1
  simp only [Bool.and_eq_true, List.all_eq_true] at h1
  obtain ⟨⟨⟨⟨_, a⟩, _, b⟩, _, c⟩, _, d⟩ := h1
  refine ⟨h0, ?_, hl, a, b, c, d⟩
  unfold hStr Hd.wroteS
  exact if_pos h0
structure Steps (m : MsgV) where
  g0 : Good (st0 (hStr m))
  gq : Good (m.qs.foldl qStep (st0 (hStr m)))
  ga : Good (m.an.foldl rSt (m.qs.foldl qStep (st0 (hStr m))))
  gn : Good (m.ns.foldl rSt (m.an.foldl rSt (m.qs.foldl qStep (st0 (hStr m)))))
  gr : Good (putEnd m)
theorem steps {m : MsgV} (hok : putOk m = true) (hl : (putEnd m).lg = false) : Steps m := by
  obtain ⟨h0, hs, _⟩ := putOk_parts hok
  have z : (hStr m).size = 12 := by rw [hs, Hd.putS_size]
  have l3 := foldR_lg m.ar _ hl
  have l2 := foldR_lg m.ns _ l3
  have l1 := foldR_lg m.an _ l2
  have G0 := st0_good z
  have G1 := foldQ_good m.qs _ (fun _ => G0) l1
  have G2 := foldR_good m.an _ (fun _ => G1) l2
  have G3 := foldR_good m.ns _ (fun _ => G2) l3
  exact ⟨G0, G1, G2, G3, foldR_good m.ar _ (fun _ => G3) hl⟩
/-- Reading what was written, whatever goes on behind it. -/
theorem get_put {m : MsgV} (hok : putOk m = true) (hl : (putEnd m).lg = false) (U : ByteArray) (hz : ((putEnd m).S ++ U).size ≤ 4096) :
    Ev (fun k => getV k ((putEnd m).S ++ U)) (if U.size = 0 then ⟨m.h, m.qs, m.an, m.ns, m.ar, 0⟩ else got0 700) := by
  obtain ⟨h0, hs, ⟨n1, n2, n3, n4⟩, q1, q2, q3, q4⟩ := putOk_parts hok
  have z : (hStr m).size = 12 := by rw [hs, Hd.putS_size]
  obtain ⟨G0, G1, G2, G3, G4⟩ := steps hok hl
  obtain ⟨V1, e1⟩ := foldQ_more m.qs (st0 (hStr m)) G1.lg
  obtain ⟨V2, e2⟩ := foldR_more m.an _ G2.lg
  obtain ⟨V3, e3⟩ := foldR_more m.ns _ G3.lg
  obtain ⟨V4, e4⟩ := foldR_more m.ar _ G4.lg
  have e4 : (putEnd m).S = (m.ns.foldl rSt (m.an.foldl rSt (m.qs.foldl qStep (st0 (hStr m))))).S ++ V4 := e4
  have s0 : (st0 (hStr m)).S = hStr m := by rw [st0_ok z]
  rw [s0] at e1
  generalize hT : (putEnd m).S ++ U = T at hz ⊢
  have eT : T = m.h.putS m.qs.length m.an.length m.ns.length m.ar.length ++ (V1 ++ (V2 ++ (V3 ++ (V4 ++ U)))) := by
    rw [← hT, e4, e3, e2, e1, hs]; simp only [ByteArray.append_assoc]
  have zT : 12 ≤ T.size := by rw [eT, ByteArray.size_append, Hd.putS_size]; omega
  obtain ⟨b0, b4, b6, b8, b10, _⟩ := Hd.back m.h _ _ _ _ (V1 ++ (V2 ++ (V3 ++ (V4 ++ U)))) h0
  rw [← eT, Hd.gotH_yes zT] at b0
  rw [← eT, Hd.gotC_yes zT] at b4 b6 b8 b10
  have zU : T.size = (putEnd m).S.size + U.size := by rw [← hT, ByteArray.size_append]
  unfold getV
  refine Ev.neg (by omega) (Ev.neg (by omega) ?_)
  rw [b4, b6, b8, b10]
  simp only [Int.toNat_natCast]
  have c1 : ∃ X, T = (m.qs.foldl qStep (st0 (hStr m))).S ++ X := ⟨V2 ++ (V3 ++ (V4 ++ U)), by rw [← hT, e4, e3, e2]; simp only [ByteArray.append_assoc]⟩
  have c2 : ∃ X, T = (m.an.foldl rSt (m.qs.foldl qStep (st0 (hStr m)))).S ++ X := ⟨V3 ++ (V4 ++ U), by rw [← hT, e4, e3]; simp only [ByteArray.append_assoc]⟩
  have c3 : ∃ X, T = (m.ns.foldl rSt (m.an.foldl rSt (m.qs.foldl qStep (st0 (hStr m))))).S ++ X := ⟨V4 ++ U, by rw [← hT, e4]; simp only [ByteArray.append_assoc]⟩
  have r1 := listQ_read (T := T) (by omega) n1 G0 q1 G1.lg c1
  rw [s0, z] at r1
  refine Ev.bind r1 ?_
  refine Ev.bind (listR_read (T := T) (by omega) n2 G1 q2 G2.lg c2) ?_
  refine Ev.bind (listR_read (T := T) (by omega) n3 G2 q3 G3.lg c3) ?_
  refine Ev.bind (listR_read (T := T) (by omega) n4 G3 q4 G4.lg ⟨U, hT.symm⟩) ?_
  dsimp only
  rw [show (List.foldl rSt (List.foldl rSt (List.foldl rSt (List.foldl qStep (st0 (hStr m)) m.qs) m.an) m.ns) m.ar) = putEnd m from rfl]
  by_cases hU : U.size = 0
  · rw [if_pos hU]
    refine Ev.neg (by simp; omega) (Ev.some _ fun _ => ?_)
    rw [b0]
  · rw [if_neg hU]
    exact Ev.pos (by simp; omega) (Ev.some _ fun _ => rfl)
theorem put_S {m : MsgV} (hok : putOk m = true) (hl : (putEnd m).lg = false) : putS m = (putEnd m).S ∧ putE m = 0 ∧ 12 ≤ (putEnd m).S.size ∧ (putEnd m).S.size ≤ 4096 := by
  unfold putS putE
  rw [if_pos hok, if_pos hok, if_neg (by rw [hl]; decide), if_neg (by rw [hl]; decide)]
  obtain ⟨h0, hs, _⟩ := putOk_parts hok
  have z : (hStr m).size = 12 := by rw [hs, Hd.putS_size]
  obtain ⟨G0, G1, G2, G3, G4⟩ := steps hok hl
  obtain ⟨V1, e1⟩ := foldQ_more m.qs (st0 (hStr m)) G1.lg
  obtain ⟨V2, e2⟩ := foldR_more m.an _ G2.lg
  obtain ⟨V3, e3⟩ := foldR_more m.ns _ G3.lg
  obtain ⟨V4, e4⟩ := foldR_more m.ar _ G4.lg
  have e4 : (putEnd m).S = (m.ns.foldl rSt (m.an.foldl rSt (m.qs.foldl qStep (st0 (hStr m))))).S ++ V4 := e4
  have s0 : (st0 (hStr m)).S = hStr m := by rw [st0_ok z]
  refine ⟨rfl, rfl, ?_, G4.size⟩
  rw [e4, e3, e2, e1, s0]
  simp only [ByteArray.size_append]
  omega
theorem put_err {m : MsgV} (h : ¬ (putOk m = true ∧ (putEnd m).lg = false)) : putS m = ⟨#[]⟩ ∧ (putE m = 700 ∧ putOk m = false ∨ putE m = 701 ∧ putOk m = true ∧ (putEnd m).lg = true) := by
  unfold putS putE
  by_cases hok : putOk m = true
  · have hl : (putEnd m).lg = true := by
      cases hl : (putEnd m).lg with
      | true => rfl
      | false => exact absurd ⟨hok, hl⟩ h
    rw [if_pos hok, if_pos hok, if_pos hl, if_pos hl]
    exact ⟨rfl, .inr ⟨rfl, hok, hl⟩⟩
  · rw [if_neg hok, if_neg hok]
    exact ⟨rfl, .inl ⟨rfl, by simpa using hok⟩⟩
end Go.Proofs.Ytjklgdpffmaamaa.Wm

namespace Go.Proofs.Ytjklgdpffmaamaa.Wm
open Go.RowKit Go.PlainAid Go.Proofs.Ytjklgdpffmaamaa.Base
open Go.Proofs.YtjklgdpffmaamaaW.PrintWords (LeO Kd Reps OwnRow)
set_option linter.unusedVariables false
theorem reps_cons {α : Type} {R : α → List Value → Prop} {size : Nat} {ps : List α} {cs c : List Value} {p : α} (hp : R p c) (hc : c.length = size) (h : Reps R size ps cs) : Reps R size (p :: ps) (c ++ cs) := by
  refine ⟨by rw [List.length_append, h.1, hc, List.length_cons, Nat.add_mul, Nat.one_mul, Nat.add_comm], fun j q hq => ?_⟩
  cases j with
  | zero =>
    obtain rfl : p = q := by simpa using hq
    rw [Nat.zero_mul, List.drop_zero, ← hc, List.take_left']
    · exact hp
    · rfl
  | succ j =>
    have := h.2 j q (by simpa using hq)
    have e : (c ++ cs).drop ((j + 1) * size) = cs.drop (j * size) := by
      rw [Nat.add_mul, Nat.one_mul, Nat.add_comm, ← List.drop_drop, ← hc, List.drop_left']
      rfl
    rw [e]
    exact this
theorem qkd {α : Type} (d : Kd α) (e : Nat) (g : Qn → α) (hM : ∀ w base ok q, d.M w base ok (g q) (cellQ q).toList) (hsz : d.sz = 3) {w : World} {b : Nat} {ok : Nat → Prop} {v : Value} {qs : List Qn} (h : w.ownsRow b e 3 v qs.length (cellsQ qs)) (hok : ∀ k, v.ownBlock = some k → ok k) : Kd.R d e w b ok v (qs.map g) := by
  refine ⟨hok, cellsQ qs, by rw [hsz, List.length_map]; exact h, ?_⟩
  rw [hsz]
  clear h
  induction qs with
  | nil => exact Reps.none _ _
  | cons q qs ih => exact reps_cons (hM _ _ _ q) rfl ih
theorem rkd {α : Type} (d : Kd α) (e : Nat) (g : Rr → α) (hM : ∀ w base ok q, d.M w base ok (g q) (cellR q).toList) (hsz : d.sz = 5) {w : World} {b : Nat} {ok : Nat → Prop} {v : Value} {qs : List Rr} (h : w.ownsRow b e 5 v qs.length (cellsR qs)) (hok : ∀ k, v.ownBlock = some k → ok k) : Kd.R d e w b ok v (qs.map g) := by
  refine ⟨hok, cellsR qs, by rw [hsz, List.length_map]; exact h, ?_⟩
  rw [hsz]
  clear h
  induction qs with
  | nil => exact Reps.none _ _
  | cons q qs ih => exact reps_cons (hM _ _ _ q) rfl ih
end Go.Proofs.Ytjklgdpffmaamaa.Wm

namespace Go.Proofs.Ytjklgdpffmaamaa.Wm
open Go.RowKit Go.PlainAid Go.Proofs.Ytjklgdpffmaamaa.Base Go.Proofs.Ytjklgdpffmaamaa.Oct Go.Proofs.Ytjklgdpffmaamaa.Nm Go.Proofs.Ytjklgdpffmaamaa.Wr Go.Proofs.Ytjklgdpffmaamaa.CompS Go.Proofs.Ytjklgdpffmaamaa.Pu
open Go.Proofs.Ytjklgdpffmaamaa.PCm (comp_Name.f comp_Name.l0 comp_Data.f comp_names.f comp_names.l0 comp_shape.f)
open Go.Proofs.Ytjklgdpffmaamaa.PRf (wimpleref1_Num.f wimpleref4_Name.f wimpleref4_Data.f wimpleref4_question.f wimpleref4_record.f)
open Go.Proofs.YtjklgdpffmaamaaW.PrintWords (Ev bytesOf bytesOf_length LeO)
set_option linter.unusedVariables false
theorem rn_any {s : ByteArray} (hs : s.size ≤ 1000000) (i : Nat) : ∃ v, Ev (fun k => wimpleref1_Num.f k s (i : Int) 2) v := by
  by_cases h : i + 2 ≤ s.size
  · exact ⟨_, rnum2 hs h⟩
  · exact ⟨_, rn_cut hs (by decide) (by decide) (by omega)⟩
theorem quest_both {S : ByteArray} (hS : S.size ≤ 1000000) (i : Nat) : (∃ (q : Qn) (j : Nat) (x : ByteArray × Int × Int × Int × Bool), Ev (fun k => questV k S ⟨(i : Int), false⟩) (q, ⟨(j : Int), true⟩) ∧ Ev (fun k => wimpleref4_question.f k S (i : Int)) x ∧ x.2.2.2.2 = false) ∨
    ∃ (q : Qn) (nx : Nat), nx ≤ S.size ∧ Ev (fun k => questV k S ⟨(i : Int), false⟩) (q, ⟨(nx : Int), false⟩) ∧ Ev (fun k => wimpleref4_question.f k S (i : Int)) (q.name, q.type, q.cls, (nx : Int), true) := by
  rcases name_both hS i with ⟨k1, k2⟩ | ⟨r, nx, hr, h1, h2, k1, k2⟩
  · refine .inl ⟨zQ, i, ((⟨#[]⟩ : ByteArray), 0, 0, 0, false), ?_, ?_, rfl⟩
    · unfold questV
      exact Ev.bind k1 (Ev.pos (by simp) (Ev.now _))
    · exact Ev.bind k2 (Ev.neg (by show ¬ ((500 : Int) = 0); decide) (Ev.now _))
  · by_cases c4 : nx + 4 ≤ S.size
    · have n1 := rnum2 (s := S) (i := nx) hS (by omega)
      have n2 := rnum2 (s := S) (i := nx + 2) hS (by omega)
      have hq := quest_ev k1 c4
      have hrq : Ev (fun k => wimpleref4_question.f k S (i : Int)) (r, be2 S nx, be2 S (nx + 2), ((nx + 2 + 2 : Nat) : Int), decide (be2 S nx > 0)) := by
        refine Ev.bind k2 (Ev.pos rfl (Ev.bind n1 (Ev.bind n2 (Ev.pos rfl (Ev.pos rfl (Ev.now _))))))
      have b1 := be2_bd S nx
      by_cases ht : be2 S nx = 0
      · rw [show (be2 S nx == 0) = true by simpa using ht] at hq
        exact .inl ⟨_, _, _, hq, hrq, decide_eq_false (by omega)⟩
      · rw [show (be2 S nx == 0) = false by simpa using ht] at hq
        rw [decide_eq_true (by omega)] at hrq
        exact .inr ⟨_, nx + 4, c4, hq, hrq⟩
    · by_cases c2 : nx + 2 ≤ S.size
      · refine .inl ⟨⟨r, be2 S nx, 0⟩, nx + 2, (r, be2 S nx, 0, 0, false), ?_, ?_, rfl⟩
        · unfold questV
          refine Ev.bind k1 (Ev.neg (by simp) (Ev.some _ fun _ => ?_))
          dsimp only
          rw [num16_ok c2]
          dsimp only
          rw [num16_no (i := nx + 2) (by omega)]
          rfl
        · exact Ev.bind k2 (Ev.pos rfl (Ev.bind (rnum2 hS c2) (Ev.bind (rn_cut (i := nx + 2) hS (by decide) (by decide) (by omega)) (Ev.pos rfl (Ev.neg (by show ¬ ((300 : Int) = 0); decide) (Ev.now _))))))
      · obtain ⟨v, hv⟩ := rn_any hS 0
        refine .inl ⟨⟨r, 0, 0⟩, nx, (r, 0, v.1, v.2.1, false), ?_, ?_, rfl⟩
        · unfold questV
          refine Ev.bind k1 (Ev.neg (by simp) (Ev.some _ fun _ => ?_))
          dsimp only
          rw [num16_no c2]
          dsimp only
          rw [num_bad (.inl rfl)]
          rfl
        · exact Ev.bind k2 (Ev.pos rfl (Ev.bind (rn_cut (i := nx) hS (by decide) (by decide) (by omega)) (Ev.bind hv (Ev.neg (by show ¬ ((300 : Int) = 0); decide) (Ev.now _)))))
abbrev nor : ByteArray × Int × Int × Int × ByteArray × Int × Bool := ((⟨#[]⟩ : ByteArray), 0, 0, 0, (⟨#[]⟩ : ByteArray), 0, false)
theorem rec_both {S : ByteArray} (hS : S.size ≤ 16000) (i : Nat) : (∃ (q : Rr) (j : Nat) (x : ByteArray × Int × Int × Int × ByteArray × Int × Bool), Ev (fun k => recV k S ⟨(i : Int), false⟩) (q, ⟨(j : Int), true⟩) ∧ Ev (fun k => wimpleref4_record.f k S (i : Int)) x ∧ x.2.2.2.2.2.2 = false) ∨
    ∃ (q : Rr) (nx : Nat), nx ≤ S.size ∧ Ev (fun k => recV k S ⟨(i : Int), false⟩) (q, ⟨(nx : Int), false⟩) ∧ Ev (fun k => wimpleref4_record.f k S (i : Int)) (q.name, q.type, q.cls, q.ttl, q.data, (nx : Int), true) := by
  have hS' : S.size ≤ 1000000 := by omega
  have any0 : ∀ (j : Nat) (t : Int), ∃ y, Ev (fun k => comp_Data.f k S (j : Int) 0 t) y := fun j t => by
    obtain ⟨d, e, h, _⟩ := data_both hS' j 0 t
    exact ⟨_, h⟩
  rcases quest_both hS' i with ⟨q, j, x, k1, k2, hx⟩ | ⟨q, nx, hl, k1, k2⟩
  · have bad : ∃ (q : Rr) (j : Nat), Ev (fun k => recV k S ⟨(i : Int), false⟩) (q, ⟨(j : Int), true⟩) := by
      have e1 : recN1 S (q, ⟨(j : Int), true⟩) = (0, ⟨(j : Int), true⟩) := num_bad (.inl rfl)
      have e2 : recN2 S (q, ⟨(j : Int), true⟩) = (0, ⟨(j : Int), true⟩) := by
        unfold recN2
        rw [e1]
        exact num_bad (.inl rfl)
      obtain ⟨y, hy⟩ := any0 j q.type
      refine ⟨zR, j, ?_⟩
      unfold recV
      refine Ev.bind k1 ?_
      simp only [e1, e2]
      exact Ev.bind hy (Ev.pos (by simp) (Ev.now _))
    obtain ⟨r, j', kb⟩ := bad
    exact .inl ⟨r, j', nor, kb, Ev.bind k2 (Ev.neg (by rw [hx]; decide) (Ev.now _)), rfl⟩
  · by_cases c8 : nx + 4 ≤ S.size
    · have e1 : recN1 S (q, ⟨(nx : Int), false⟩) = (be4 S nx, ⟨((nx + 4 : Nat) : Int), false⟩) := num32_ok c8
      have n1 := rnum4 (s := S) (i := nx) hS' c8
      by_cases c10 : nx + 4 + 2 ≤ S.size
      · have n2 := rnum2 (s := S) (i := nx + 4) hS' c10
        have b2 := be2_bd S (nx + 4)
        obtain ⟨z, hz⟩ : ∃ z : Nat, be2 S (nx + 4) = (z : Int) := ⟨(be2 S (nx + 4)).toNat, by omega⟩
        have e2 : recN2 S (q, ⟨(nx : Int), false⟩) = ((z : Int), ⟨((nx + 4 + 2 : Nat) : Int), false⟩) := by
          unfold recN2
          rw [e1]
          dsimp only
          rw [num16_ok c10, hz]
        rw [hz] at n2
        obtain ⟨d, e, kd, rd⟩ := data_both hS' (nx + 4 + 2) z q.type
        have hr : Ev (fun k => wimpleref4_record.f k S (i : Int)) (q.name, q.type, q.cls, be4 S nx, d, wrap64 (((nx + 4 + 2 : Nat) : Int) + (z : Int)), (e == 0)) :=
          Ev.bind k2 (Ev.pos rfl (Ev.bind n1 (Ev.bind n2 (Ev.pos rfl (Ev.pos rfl (Ev.bind rd (Ev.now _)))))))
        by_cases he : e = 0
        · subst he
          have hb : nx + 4 + 2 + z ≤ S.size := by
            by_cases h : nx + 4 + 2 + z ≤ S.size
            · exact h
            · have := Ev.uniq kd (data_out hS' (by omega) (by omega) (show (S.size : Int) < ((nx + 4 + 2 : Nat) : Int) + (z : Int) by omega))
              exact absurd (congrArg Prod.snd this) (show ¬ (0 : Int) = 500 by decide)
          rw [Pu.w64 (by omega) (by omega), show ((nx + 4 + 2 : Nat) : Int) + (z : Int) = ((nx + 4 + 2 + z : Nat) : Int) by omega] at hr
          refine .inr ⟨⟨q.name, q.type, q.cls, be4 S nx, d⟩, nx + 4 + 2 + z, hb, ?_, hr⟩
          unfold recV
          refine Ev.bind k1 ?_
          simp only [e1, e2]
          refine Ev.bind kd (Ev.neg (by simp) ?_)
          rw [Pu.w64 (by omega) (by omega), show ((nx + 4 + 2 : Nat) : Int) + (z : Int) = ((nx + 4 + 2 + z : Nat) : Int) by omega]
          exact Ev.now _
        · refine .inl ⟨zR, nx + 4 + 2, _, ?_, hr, by simpa using he⟩
          unfold recV
          refine Ev.bind k1 ?_
          simp only [e1, e2]
          exact Ev.bind kd (Ev.pos (by simpa using he) (Ev.now _))
      · have e2 : recN2 S (q, ⟨(nx : Int), false⟩) = (0, ⟨((nx + 4 : Nat) : Int), true⟩) := by
          unfold recN2
          rw [e1]
          exact num16_no c10 false
        obtain ⟨y, hy⟩ := any0 (nx + 4) q.type
        refine .inl ⟨zR, nx + 4, nor, ?_, ?_, rfl⟩
        · unfold recV
          refine Ev.bind k1 ?_
          simp only [e1, e2]
          exact Ev.bind hy (Ev.pos (by simp) (Ev.now _))
        · exact Ev.bind k2 (Ev.pos rfl (Ev.bind n1 (Ev.bind (rn_cut (i := nx + 4) hS' (by decide) (by decide) (by omega)) (Ev.pos rfl (Ev.neg (by show ¬ ((300 : Int) = 0); decide) (Ev.now _))))))
    · have e1 : recN1 S (q, ⟨(nx : Int), false⟩) = (0, ⟨(nx : Int), true⟩) := num32_no c8 false
      have e2 : recN2 S (q, ⟨(nx : Int), false⟩) = (0, ⟨(nx : Int), true⟩) := by
        unfold recN2
        rw [e1]
        exact num_bad (.inl rfl)
      obtain ⟨y, hy⟩ := any0 nx q.type
      obtain ⟨v, hv⟩ := rn_any hS' 0
      refine .inl ⟨zR, nx, nor, ?_, ?_, rfl⟩
      · unfold recV
        refine Ev.bind k1 ?_
        simp only [e1, e2]
        exact Ev.bind hy (Ev.pos (by simp) (Ev.now _))
      · exact Ev.bind k2 (Ev.pos rfl (Ev.bind (rn_cut (i := nx) hS' (by decide) (by decide) (by omega)) (Ev.bind hv (Ev.neg (by show ¬ ((300 : Int) = 0); decide) (Ev.now _)))))
/-! ### Lists -/
theorem loopQ_both {S : ByteArray} (hS : S.size ≤ 16000) : ∀ (n i : Nat) (acc : List Qn), i ≤ S.size → (∃ (o : List Qn) (j : Nat), Ev (fun k => loopQ k S n ⟨(i : Int), false⟩ acc) (o, ⟨(j : Int), true⟩) ∧ Ev (fun k => rQ k S n (i : Int) acc) none) ∨
    ∃ (o : List Qn) (nx : Nat), nx ≤ S.size ∧ Ev (fun k => loopQ k S n ⟨(i : Int), false⟩ acc) (o, ⟨(nx : Int), false⟩) ∧ Ev (fun k => rQ k S n (i : Int) acc) (some (o, (nx : Int))) := by
  intro n
  induction n with
  | zero => intro i acc hi; exact .inr ⟨acc, i, hi, Ev.now _, Ev.now _⟩
  | succ n ih =>
    intro i acc hi
    rcases quest_both (S := S) (by omega) i with ⟨q, j, x, h, k, hx⟩ | ⟨q, nx, hl, h, k⟩
    · refine .inl ⟨acc ++ [q], j, ?_, Ev.bind k (Ev.neg (by rw [hx]; decide) (Ev.now _))⟩
      show Ev (fun k => if (false : Bool) = true then _ else _) _
      exact Ev.neg (by decide) (Ev.bind h (Ev.some _ fun k => loopQ_bad n _ rfl))
    · rcases ih nx (acc ++ [q]) hl with ⟨o, j, a, b⟩ | ⟨o, nx2, hl2, a, b⟩
      · refine .inl ⟨o, j, ?_, Ev.bind k (Ev.pos rfl b)⟩
        show Ev (fun k => if (false : Bool) = true then _ else _) _
        exact Ev.neg (by decide) (Ev.bind h a)
      · refine .inr ⟨o, nx2, hl2, ?_, Ev.bind k (Ev.pos rfl b)⟩
        show Ev (fun k => if (false : Bool) = true then _ else _) _
        exact Ev.neg (by decide) (Ev.bind h a)
theorem loopR_both {S : ByteArray} (hS : S.size ≤ 16000) : ∀ (n i : Nat) (acc : List Rr), i ≤ S.size → (∃ (o : List Rr) (j : Nat), Ev (fun k => loopR k S n ⟨(i : Int), false⟩ acc) (o, ⟨(j : Int), true⟩) ∧ Ev (fun k => rR k S n (i : Int) acc) none) ∨
    ∃ (o : List Rr) (nx : Nat), nx ≤ S.size ∧ Ev (fun k => loopR k S n ⟨(i : Int), false⟩ acc) (o, ⟨(nx : Int), false⟩) ∧ Ev (fun k => rR k S n (i : Int) acc) (some (o, (nx : Int))) := by
  intro n
  induction n with
  | zero => intro i acc hi; exact .inr ⟨acc, i, hi, Ev.now _, Ev.now _⟩
  | succ n ih =>
    intro i acc hi
    rcases rec_both (S := S) hS i with ⟨q, j, x, h, k, hx⟩ | ⟨q, nx, hl, h, k⟩
    · refine .inl ⟨acc ++ [q], j, ?_, Ev.bind k (Ev.neg (by rw [hx]; decide) (Ev.now _))⟩
      show Ev (fun k => if (false : Bool) = true then _ else _) _
      exact Ev.neg (by decide) (Ev.bind h (Ev.some _ fun k => loopR_bad n _ rfl))
    · rcases ih nx (acc ++ [q]) hl with ⟨o, j, a, b⟩ | ⟨o, nx2, hl2, a, b⟩
      · refine .inl ⟨o, j, ?_, Ev.bind k (Ev.pos rfl b)⟩
        show Ev (fun k => if (false : Bool) = true then _ else _) _
        exact Ev.neg (by decide) (Ev.bind h a)
      · refine .inr ⟨o, nx2, hl2, ?_, Ev.bind k (Ev.pos rfl b)⟩
        show Ev (fun k => if (false : Bool) = true then _ else _) _
        exact Ev.neg (by decide) (Ev.bind h a)
/-- So many questions, records: none, in the document's way: too many, or one was none. -/
theorem listQ_both {S : ByteArray} (hS : S.size ≤ 16000) (x : Int) (hx : 0 ≤ x) (i : Nat) (hi : i ≤ S.size) :
    (∃ (o : List Qn) (j : Nat), Ev (fun k => listQ k S x.toNat ⟨(i : Int), false⟩) (o, ⟨(j : Int), true⟩) ∧ ∀ f : Nat → List Qn × Int → Option Got, Ev (fun k => many4 x (andThen (rQ k S x.toNat (i : Int) []) (f k))) (got0 700)) ∨
    ∃ (o : List Qn) (nx : Nat), nx ≤ S.size ∧ Ev (fun k => listQ k S x.toNat ⟨(i : Int), false⟩) (o, ⟨(nx : Int), false⟩) ∧ ∀ (f : Nat → List Qn × Int → Option Got) (r : Got), Ev (fun k => f k (o, (nx : Int))) r → Ev (fun k => many4 x (andThen (rQ k S x.toNat (i : Int) []) (f k))) r := by
  by_cases hn : 64 < x
  · refine .inl ⟨[], i, ?_, fun f => Ev.pos hn (Ev.now _)⟩
    refine Ev.some _ fun k => ?_
    unfold listQ
    rw [show (false || decide (64 < x.toNat)) = true by simp; omega]
    exact loopQ_bad _ _ rfl
  · have e : ∀ k, listQ k S x.toNat ⟨(i : Int), false⟩ = loopQ k S x.toNat ⟨(i : Int), false⟩ [] := fun k => by
      unfold listQ
      rw [show (false || decide (64 < x.toNat)) = false by simp; omega]
    simp only [e]
    rcases loopQ_both hS x.toNat i [] hi with ⟨o, j, a, b⟩ | ⟨o, nx, hl, a, b⟩
    · refine .inl ⟨o, j, a, fun f => Ev.neg hn ?_⟩
      exact Ev.bind b (Ev.now _)
    · refine .inr ⟨o, nx, hl, a, fun f r hr => Ev.neg hn ?_⟩
      exact Ev.bind b hr
theorem listR_both {S : ByteArray} (hS : S.size ≤ 16000) (x : Int) (hx : 0 ≤ x) (i : Nat) (hi : i ≤ S.size) :
    (∃ (o : List Rr) (j : Nat), Ev (fun k => listR k S x.toNat ⟨(i : Int), false⟩) (o, ⟨(j : Int), true⟩) ∧ ∀ f : Nat → List Rr × Int → Option Got, Ev (fun k => many4 x (andThen (rR k S x.toNat (i : Int) []) (f k))) (got0 700)) ∨
    ∃ (o : List Rr) (nx : Nat), nx ≤ S.size ∧ Ev (fun k => listR k S x.toNat ⟨(i : Int), false⟩) (o, ⟨(nx : Int), false⟩) ∧ ∀ (f : Nat → List Rr × Int → Option Got) (r : Got), Ev (fun k => f k (o, (nx : Int))) r → Ev (fun k => many4 x (andThen (rR k S x.toNat (i : Int) []) (f k))) r := by
  by_cases hn : 64 < x
  · refine .inl ⟨[], i, ?_, fun f => Ev.pos hn (Ev.now _)⟩
    refine Ev.some _ fun k => ?_
    unfold listR
    rw [show (false || decide (64 < x.toNat)) = true by simp; omega]
    exact loopR_bad _ _ rfl
  · have e : ∀ k, listR k S x.toNat ⟨(i : Int), false⟩ = loopR k S x.toNat ⟨(i : Int), false⟩ [] := fun k => by
      unfold listR
      rw [show (false || decide (64 < x.toNat)) = false by simp; omega]
    simp only [e]
    rcases loopR_both hS x.toNat i [] hi with ⟨o, j, a, b⟩ | ⟨o, nx, hl, a, b⟩
    · refine .inl ⟨o, j, a, fun f => Ev.neg hn ?_⟩
      exact Ev.bind b (Ev.now _)
    · refine .inr ⟨o, nx, hl, a, fun f r hr => Ev.neg hn ?_⟩
      exact Ev.bind b hr
/-- Any bytes: the program and the document say the same. -/
theorem get_both (s : ByteArray) : ∃ g : Got, Ev (fun k => getV k s) g ∧ Ev (fun k => rGetV k s) g := by
  by_cases h4 : 4096 < s.size
  · exact ⟨got0 701, Ev.pos h4 (Ev.now _), Ev.pos h4 (Ev.now _)⟩
  by_cases h12 : s.size < 12
  · exact ⟨got0 700, Ev.neg h4 (Ev.pos h12 (Ev.now _)), Ev.neg h4 (Ev.pos h12 (Ev.now _))⟩
  have hS : s.size ≤ 16000 := by omega
  have d4 := (be2_bd s 4).1
  have d6 := (be2_bd s 6).1
  have d8 := (be2_bd s 8).1
  have d10 := (be2_bd s 10).1
  rcases listQ_both hS (be2 s 4) d4 12 (by omega) with ⟨o, j, h, k⟩ | ⟨oq, x1, hl1, h1, k1⟩
  · refine ⟨got0 700, Ev.neg h4 (Ev.neg h12 (Ev.bind h ?_)), Ev.neg h4 (Ev.neg h12 (k _))⟩
    exact Ev.bind (Ev.some _ fun k => listR_badstart _ _) (Ev.bind (Ev.some _ fun k => listR_badstart _ _) (Ev.bind (Ev.some _ fun k => listR_badstart _ _) (Ev.pos rfl (Ev.now _))))
  rcases listR_both hS (be2 s 6) d6 x1 hl1 with ⟨o, j, h, k⟩ | ⟨oa, x2, hl2, h2, k2⟩
  · refine ⟨got0 700, Ev.neg h4 (Ev.neg h12 (Ev.bind h1 (Ev.bind h ?_))), Ev.neg h4 (Ev.neg h12 (k1 _ _ (k _)))⟩
    exact Ev.bind (Ev.some _ fun k => listR_badstart _ _) (Ev.bind (Ev.some _ fun k => listR_badstart _ _) (Ev.pos rfl (Ev.now _)))
  rcases listR_both hS (be2 s 8) d8 x2 hl2 with ⟨o, j, h, k⟩ | ⟨on, x3, hl3, h3, k3⟩
  · refine ⟨got0 700, Ev.neg h4 (Ev.neg h12 (Ev.bind h1 (Ev.bind h2 (Ev.bind h ?_)))), Ev.neg h4 (Ev.neg h12 (k1 _ _ (k2 _ _ (k _))))⟩
    exact Ev.bind (Ev.some _ fun k => listR_badstart _ _) (Ev.pos rfl (Ev.now _))
  rcases listR_both hS (be2 s 10) d10 x3 hl3 with ⟨o, j, h, k⟩ | ⟨orr, x4, hl4, h4', k4⟩
  · refine ⟨got0 700, Ev.neg h4 (Ev.neg h12 (Ev.bind h1 (Ev.bind h2 (Ev.bind h3 (Ev.bind h ?_))))), Ev.neg h4 (Ev.neg h12 (k1 _ _ (k2 _ _ (k3 _ _ (k _)))))⟩
    exact Ev.pos rfl (Ev.now _)
  by_cases hx : x4 = s.size
  · exact ⟨⟨Hd.getH s, oq, oa, on, orr, 0⟩, Ev.neg h4 (Ev.neg h12 (Ev.bind h1 (Ev.bind h2 (Ev.bind h3 (Ev.bind h4' (Ev.neg (by simp; omega) (Ev.now _))))))),
      Ev.neg h4 (Ev.neg h12 (k1 _ _ (k2 _ _ (k3 _ _ (k4 _ _ (Ev.neg (by simp; omega) (Ev.now _)))))))⟩
  · exact ⟨got0 700, Ev.neg h4 (Ev.neg h12 (Ev.bind h1 (Ev.bind h2 (Ev.bind h3 (Ev.bind h4' (Ev.pos (by simp; omega) (Ev.now _))))))),
      Ev.neg h4 (Ev.neg h12 (k1 _ _ (k2 _ _ (k3 _ _ (k4 _ _ (Ev.pos (by simp; omega) (Ev.now _)))))))⟩
/-- What the program reads, the document reads. -/
theorem rget_of {s : ByteArray} {g : Got} (h : Ev (fun k => getV k s) g) : Ev (fun k => rGetV k s) g := by
  obtain ⟨g', a, b⟩ := get_both s
  rw [Ev.uniq h a]
  exact b
end Go.Proofs.Ytjklgdpffmaamaa.Wm

namespace Go.Proofs.Ytjklgdpffmaamaa.PRm
open Go.RowKit Go.Proofs.YtjklgdpffmaamaaW.PrintWords Go.Proofs.YtjklgdpffmaamaaW.PrintLast Go.Proofs.YtjklgdpffmaamaaW.PrintMore
attribute [local go_sem] max2_int min2_int max_two min_two max_three min_three max_four min_four   -- for this text's walks alone
set_option linter.unusedVariables false
set_option linter.unusedSimpArgs false

def errW : Option Int → Value
  | none => .nilIface
  | some c => .iface 0 (.int .i64 c)
theorem errW_none : errW none = .nilIface := rfl
theorem errW_some (c : Int) : errW (some c) = .iface 0 (.int .i64 c) := rfl

-- the values' own types

end Go.Proofs.Ytjklgdpffmaamaa.PRm

namespace Go.Proofs.Ytjklgdpffmaamaa.PRm
open Go.RowKit Go.Proofs.YtjklgdpffmaamaaW.PrintWords Go.Proofs.YtjklgdpffmaamaaW.PrintLast Go.Proofs.YtjklgdpffmaamaaW.PrintMore
attribute [local go_sem] max2_int min2_int max_two min_two max_three min_three max_four min_four   -- for this text's walks alone
set_option linter.unusedVariables false
set_option linter.unusedSimpArgs false

/-! ### wimpleref1_May: function 32 -/
/-! ### wimpleref4_short: function 52 -/
def wimpleref4_short.f (a0 : Int) : Option (Bool) := if a0 ≥ 0 then (some (decide (a0 ≤ 65535))) else (some false)
set_option maxHeartbeats 8000000 in
set_option maxRecDepth 100000 in
theorem wimpleref4_short.calls (a0 : Int) (r : Bool) (w : World) (h : wimpleref4_short.f a0 = some r) :
    Calls Try.prog 52 #[.int .i64 a0] w fun e w' => e = .returned (.bool r) ∧ Drawn0 w w' := by
  have H : (if a0 ≥ 0 then (some (decide (a0 ≤ 65535))) else (some false)) = some r := h
  clear h
  by_cases c2 : a0 ≥ 0
  · rw [if_pos c2] at H
    have c2b0 : decide (0 ≤ a0) = true := decide_eq_true c2
    clear c2
    obtain rfl := Option.some.inj H
    go_enter Try.func52, Try.ntmps52
    go_wp2
    go_ret
    exact ⟨by first | rfl | (simp; done) | (simp [*]; done), by repeat (first | exact Drawn0.refl _ | apply Drawn0.step)⟩
  · rw [if_neg c2] at H
    have c2b0 : decide (0 ≤ a0) = false := decide_eq_false c2
    clear c2
    obtain rfl := Option.some.inj H
    go_enter Try.func52, Try.ntmps52
    go_wp2
    go_ret
    exact ⟨by first | rfl | (simp; done) | (simp [*]; done), by repeat (first | exact Drawn0.refl _ | apply Drawn0.step)⟩

/-! ### wimpleref4_wide: function 53 -/
def wimpleref4_wide.f (a0 : Int) : Option (Bool) := if a0 ≥ 0 then (some (decide (a0 ≤ 4294967295))) else (some false)
set_option maxHeartbeats 8000000 in
set_option maxRecDepth 100000 in
theorem wimpleref4_wide.calls (a0 : Int) (r : Bool) (w : World) (h : wimpleref4_wide.f a0 = some r) :
    Calls Try.prog 53 #[.int .i64 a0] w fun e w' => e = .returned (.bool r) ∧ Drawn0 w w' := by
  have H : (if a0 ≥ 0 then (some (decide (a0 ≤ 4294967295))) else (some false)) = some r := h
  clear h
  by_cases c2 : a0 ≥ 0
  · rw [if_pos c2] at H
    have c2b0 : decide (0 ≤ a0) = true := decide_eq_true c2
    clear c2
    obtain rfl := Option.some.inj H
    go_enter Try.func53, Try.ntmps53
    go_wp2
    go_ret
    exact ⟨by first | rfl | (simp; done) | (simp [*]; done), by repeat (first | exact Drawn0.refl _ | apply Drawn0.step)⟩
  · rw [if_neg c2] at H
    have c2b0 : decide (0 ≤ a0) = false := decide_eq_false c2
    clear c2
    obtain rfl := Option.some.inj H
    go_enter Try.func53, Try.ntmps53
    go_wp2
    go_ret
    exact ⟨by first | rfl | (simp; done) | (simp [*]; done), by repeat (first | exact Drawn0.refl _ | apply Drawn0.step)⟩

/-! ### wimpleref4_DataMay: function 98 -/
/-! ### wimpleref4_rrMay: function 69 -/
-- NOT PRINTED: function 37 (wimpleref4_MsgMay)

end Go.Proofs.Ytjklgdpffmaamaa.PRm

namespace Go.Proofs.Ytjklgdpffmaamaa.Wr
open Go.RowKit Go.PlainAid Go.Proofs.Ytjklgdpffmaamaa.Base Go.Proofs.Ytjklgdpffmaamaa.Oct Go.Proofs.Ytjklgdpffmaamaa.Nm
set_option linter.unusedVariables false
theorem heads_lt {s : ByteArray} {p : Nat} (h : p ∈ heads s) : p < s.size := placesAt_mem s _ 0 (Nat.le_refl _) p (List.dropLast_subset _ h)
/-- All places lie below the greatest that a pointer tells. -/
def Small (m : ByteArray → Option Int) : Prop := ∀ x t, m x = some t → 0 ≤ t ∧ t < 16384
theorem Small.put {m : ByteArray → Option Int} (h : Small m) (s : ByteArray) (at0 : Nat) (hz : at0 + s.size ≤ 16384) : Small (putN m s at0) := by
  intro x t hx
  rcases putK_inv s x at0 t _ _ hx with hx | ⟨p, hp, _, rfl⟩
  · exact h x t hx
  · have := heads_lt (List.mem_of_mem_take hp); omega
end Go.Proofs.Ytjklgdpffmaamaa.Wr

namespace Go.Proofs.Ytjklgdpffmaamaa.Wr
open Go.RowKit Go.PlainAid Go.Maps Go.Proofs.Ytjklgdpffmaamaa.Base Go.Proofs.Ytjklgdpffmaamaa.Oct Go.Proofs.Ytjklgdpffmaamaa.Nm Go.Proofs.YtjklgdpffmaamaaW.PrintWords
set_option linter.unusedVariables false
/-- The cells of rests and places. -/
def mcells : List (ByteArray × Int) → List Value
  | [] => []
  | (r, t) :: ms => .string r :: .int .i64 t :: mcells ms
/-- What the document's writer holds: its bytes, the rests and their places. -/
structure Rf (base : Nat) (w : World) (g : Nat) (v : Value) (S : ByteArray) (ms : List (ByteArray × Int)) : Prop where
  gb : base ≤ g
  blk : w.heap[g]? = some (.cells #[.string S, v] 78 (0, 0))
  own : w.ownsRow base 131 2 v ms.length (mcells ms)
  len : S.size ≤ 4096
  few : ms.length ≤ 256 * S.size
/-- What a call on the document's writer leaves as it was. -/
structure Kr (w w' : World) (g : Nat) : Prop where
  size : w.heap.size ≤ w'.heap.size
  block : ∀ k, k < w.heap.size → k ≠ g → (∀ cs, w.heap[k]? ≠ some (.cells cs 131 (0, 0))) → w'.heap[k]? = w.heap[k]?
section
variable {base b' g gm g2 size n : Nat} {v vs v2 : Value} {xs : List Int} {ys : List Value} {m : ByteArray → Option Int} {w w' w1 : World} {e : TypeId} {S : ByteArray} {ms : List (ByteArray × Int)}
theorem Kr.refl (w : World) (g : Nat) : Kr w w g := ⟨Nat.le_refl _, fun _ _ _ _ => rfl⟩
theorem Kr.below (hb : Below w.heap.size w w') : Kr w w' g := ⟨hb.size, fun k hk _ _ => hb.block k hk⟩
theorem Kr.trans (h : Kr w w1 g) (k : Kr w1 w' g) : Kr w w' g :=
  ⟨Nat.le_trans h.size k.size, fun i hi a c => by
    have e := h.block i hi a c
    exact (k.block i (Nat.lt_of_lt_of_le hi h.size) a (fun cs => by rw [e]; exact c cs)).trans e⟩
theorem Rf.below (H : Rf base w g v S ms) (hb : Below w.heap.size w w') : Rf base w' g v S ms := ⟨H.gb, blk_below H.blk hb, pw_own_below H.own hb, H.len, H.few⟩
theorem own_keep (h : w.ownsRow base e size v n ys) (hr : ∀ k, v.ownBlock = some k → w'.heap[k]? = w.heap[k]?) : w'.ownsRow base e size v n ys := by
  refine ⟨h.1, ?_⟩
  rcases h.2 with h2 | ⟨k, cap, cur, rfl, hg, hh, r⟩
  · exact .inl h2
  · exact .inr ⟨k, cap, cur, rfl, hg, (hr k rfl).trans hh, r⟩
theorem Wr.keep (H : Wr base w g gm v xs m) (hg : w'.heap[g]? = w.heap[g]?) (hm : w'.heap[gm]? = w.heap[gm]?) (hr : ∀ k, v.ownBlock = some k → w'.heap[k]? = w.heap[k]?) : Wr base w' g gm v xs m := by
  obtain ⟨n, D, hn, ⟨es, clock, hb, F⟩, ht⟩ := H.map
  exact ⟨H.gb, H.mb, hg.trans H.blk, own_keep H.own hr, ⟨n, D, hn, ⟨es, clock, hm.trans hb, F⟩, ht⟩, H.len⟩
theorem Rf.keep (R : Rf base w g v S ms) (hg : w'.heap[g]? = w.heap[g]?) (hr : ∀ k, v.ownBlock = some k → w'.heap[k]? = w.heap[k]?) : Rf base w' g v S ms :=
  ⟨R.gb, hg.trans R.blk, own_keep R.own hr, R.len, R.few⟩
theorem Wr.map_blk (H : Wr base w g gm v xs m) : ∃ es c, w.heap[gm]? = some (.map es c) := by
  obtain ⟨n, D, hn, ⟨es, clock, hb, F⟩, ht⟩ := H.map
  exact ⟨es, clock, hb⟩
/-- The writer beside, behind a call on the document's. -/
theorem Wr.kr (H : Wr base w g gm v xs m) (R : Rf b' w g2 v2 S ms) (K : Kr w w' g2) : Wr base w' g gm v xs m := by
  obtain ⟨es, c, hm⟩ := H.map_blk
  refine H.keep (K.block g (blk_lt H.blk) (blk_ne H.blk R.blk (by decide)) ?_) (K.block gm (blk_lt hm) ?_ ?_) fun k hk => ?_
  · intro cs q; rw [H.blk] at q; injection q with q; injection q with _ q; exact absurd q (by decide)
  · rintro rfl; rw [R.blk] at hm; cases hm
  · intro cs q; rw [hm] at q; cases q
  · obtain ⟨cells, hc⟩ := own_typed H.own k hk
    refine K.block k (blk_lt hc) (blk_ne hc R.blk (by decide)) ?_
    intro cs q; rw [hc] at q; injection q with q; injection q with _ q; exact absurd q (by decide)
/-- The document's writer beside, behind a call on the writer. -/
theorem Rf.kp (R : Rf b' w g2 v2 S ms) (H : Wr base w g gm v xs m) (K : Kp w w' g gm) : Rf b' w' g2 v2 S ms := by
  obtain ⟨es, c, hm⟩ := H.map_blk
  refine R.keep (K.block g2 (blk_lt R.blk) (blk_ne R.blk H.blk (by decide)) ?_ ?_) fun k hk => ?_
  · rintro rfl; rw [R.blk] at hm; cases hm
  · intro cs q; rw [R.blk] at q; injection q with q; injection q with _ q; exact absurd q (by decide)
  · obtain ⟨cells, hc⟩ := own_typed R.own k hk
    refine K.block k (blk_lt hc) (blk_ne hc H.blk (by decide)) ?_ ?_
    · rintro rfl; rw [hc] at hm; cases hm
    · intro cs q; rw [hc] at q; injection q with q; injection q with _ q; exact absurd q (by decide)
end
end Go.Proofs.Ytjklgdpffmaamaa.Wr

namespace Go.Proofs.Ytjklgdpffmaamaa.Wm
open Go.RowKit Go.PlainAid Go.Proofs.Ytjklgdpffmaamaa.Base
open Go.Proofs.YtjklgdpffmaamaaW.PrintWords (Ev LeO)
set_option linter.unusedVariables false
theorem rgetVc {s : ByteArray} {r : Got} (hs : s.size ≤ 9223372036854775000) (h : Ev (fun k => getV k s) r) (w : World) : Calls Try.prog 25 #[.string s] w (GetPost s w r) := by
  obtain ⟨k, hk⟩ := rget_of h
  exact rgetc s w hs (hk k (Nat.le_refl _))
end Go.Proofs.Ytjklgdpffmaamaa.Wm

namespace Go.Proofs.Ytjklgdpffmaamaa.PPa
open Go.RowKit Go.Proofs.YtjklgdpffmaamaaW.PrintWords Go.Proofs.YtjklgdpffmaamaaW.PrintLast Go.Proofs.YtjklgdpffmaamaaW.PrintMore
attribute [local go_sem] max2_int min2_int max_two min_two max_three min_three max_four min_four   -- for this text's walks alone
set_option linter.unusedVariables false
set_option linter.unusedSimpArgs false

def errW : Option Int → Value
  | none => .nilIface
  | some c => .iface 0 (.int .i64 c)
theorem errW_none : errW none = .nilIface := rfl
theorem errW_some (c : Int) : errW (some c) = .iface 0 (.int .i64 c) := rfl

theorem info55 : (Try.prog.info? 55).map (fun i => (i.zero, i.size, i.bytes)) = some (some (.agg #[(.int .i64 0), (.string ⟨#[]⟩)]), 2, 24) := by kernel_rfl
-- the values' own types
/-! #### struct type 40 -/
structure S40 where
  f0 : ByteArray
  f1 : Int
  f2 : Int
def z40 : S40 := ⟨(⟨#[]⟩ : ByteArray), (0 : Int), (0 : Int)⟩
def k40 : Kd S40 := Kd.iso (Kd.pair Kd.string (Kd.pair (Kd.int .i64) (Kd.int .i64))) (fun x : S40 => (x.f0, x.f1, x.f2))
theorem k40_open {w : World} {x : S40} {cs : List Value} (h : k40.K w x cs) : cs = [.string x.f0, .int .i64 x.f1, .int .i64 x.f2] := by
  obtain ⟨_, _, rfl, rfl, ⟨_, _, rfl, rfl, rfl⟩⟩ := h
  exact rfl
theorem k40_mkM (w : World) (base : Nat) (ok : Nat → Prop) (x : S40)  : k40.M w base ok x [.string x.f0, .int .i64 x.f1, .int .i64 x.f2] := ⟨[.string x.f0], [.int .i64 x.f1, .int .i64 x.f2], rfl, rfl, ⟨[.int .i64 x.f1], [.int .i64 x.f2], rfl, rfl, rfl⟩⟩
def rd_T40 (xs : List S40) (i : Int) : S40 := xs.getD i.toNat z40
theorem at_T40 {w : World} {A : Option Addr} {n : Nat} {xs : List S40} (h : Kd.C k40 w A n xs) (i : Int) (h0 : 0 ≤ i) (h1 : i < n) : ∃ ad , A = some ad ∧ w.cell? (ad.add (i.toNat * 3)) = some (.string (rd_T40 xs i).f0) ∧ w.cell? ⟨(ad.add (i.toNat * 3)).block, (ad.add (i.toNat * 3)).off + 1, none⟩ = some (.int .i64 (rd_T40 xs i).f1) ∧ w.cell? ⟨(ad.add (i.toNat * 3)).block, (ad.add (i.toNat * 3)).off + 2, none⟩ = some (.int .i64 (rd_T40 xs i).f2) := by
  obtain ⟨ad, c, e, _, hK, hc0⟩ := Kd.C_get h z40 i h0 h1
  have hc : ∀ j u, c[j]? = some u → w.cell? (ad.add (i.toNat * 3 + j)) = some u := hc0
  obtain rfl := k40_open hK
  exact ⟨ad, e, hc 0 _ rfl, by rw [← add_field _ _ 1 (by omega)]; exact hc 1 _ rfl, by rw [← add_field _ _ 2 (by omega)]; exact hc 2 _ rfl⟩

/-! #### struct type 53 -/
structure S53 where
  f0 : ByteArray
  f1 : Int
  f2 : Int
  f3 : Int
  f4 : ByteArray
def z53 : S53 := ⟨(⟨#[]⟩ : ByteArray), (0 : Int), (0 : Int), (0 : Int), (⟨#[]⟩ : ByteArray)⟩
def k53 : Kd S53 := Kd.iso (Kd.pair Kd.string (Kd.pair (Kd.int .i64) (Kd.pair (Kd.int .i64) (Kd.pair (Kd.int .i64) Kd.string)))) (fun x : S53 => (x.f0, x.f1, x.f2, x.f3, x.f4))
theorem k53_open {w : World} {x : S53} {cs : List Value} (h : k53.K w x cs) : cs = [.string x.f0, .int .i64 x.f1, .int .i64 x.f2, .int .i64 x.f3, .string x.f4] := by
  obtain ⟨_, _, rfl, rfl, ⟨_, _, rfl, rfl, ⟨_, _, rfl, rfl, ⟨_, _, rfl, rfl, rfl⟩⟩⟩⟩ := h
  exact rfl
theorem k53_mkM (w : World) (base : Nat) (ok : Nat → Prop) (x : S53)  : k53.M w base ok x [.string x.f0, .int .i64 x.f1, .int .i64 x.f2, .int .i64 x.f3, .string x.f4] := ⟨[.string x.f0], [.int .i64 x.f1, .int .i64 x.f2, .int .i64 x.f3, .string x.f4], rfl, rfl, ⟨[.int .i64 x.f1], [.int .i64 x.f2, .int .i64 x.f3, .string x.f4], rfl, rfl, ⟨[.int .i64 x.f2], [.int .i64 x.f3, .string x.f4], rfl, rfl, ⟨[.int .i64 x.f3], [.string x.f4], rfl, rfl, rfl⟩⟩⟩⟩
def rd_T53 (xs : List S53) (i : Int) : S53 := xs.getD i.toNat z53
theorem at_T53 {w : World} {A : Option Addr} {n : Nat} {xs : List S53} (h : Kd.C k53 w A n xs) (i : Int) (h0 : 0 ≤ i) (h1 : i < n) : ∃ ad , A = some ad ∧ w.cell? (ad.add (i.toNat * 5)) = some (.string (rd_T53 xs i).f0) ∧ w.cell? ⟨(ad.add (i.toNat * 5)).block, (ad.add (i.toNat * 5)).off + 1, none⟩ = some (.int .i64 (rd_T53 xs i).f1) ∧ w.cell? ⟨(ad.add (i.toNat * 5)).block, (ad.add (i.toNat * 5)).off + 2, none⟩ = some (.int .i64 (rd_T53 xs i).f2) ∧ w.cell? ⟨(ad.add (i.toNat * 5)).block, (ad.add (i.toNat * 5)).off + 3, none⟩ = some (.int .i64 (rd_T53 xs i).f3) ∧ w.cell? ⟨(ad.add (i.toNat * 5)).block, (ad.add (i.toNat * 5)).off + 4, none⟩ = some (.string (rd_T53 xs i).f4) := by
  obtain ⟨ad, c, e, _, hK, hc0⟩ := Kd.C_get h z53 i h0 h1
  have hc : ∀ j u, c[j]? = some u → w.cell? (ad.add (i.toNat * 5 + j)) = some u := hc0
  obtain rfl := k53_open hK
  exact ⟨ad, e, hc 0 _ rfl, by rw [← add_field _ _ 1 (by omega)]; exact hc 1 _ rfl, by rw [← add_field _ _ 2 (by omega)]; exact hc 2 _ rfl, by rw [← add_field _ _ 3 (by omega)]; exact hc 3 _ rfl, by rw [← add_field _ _ 4 (by omega)]; exact hc 4 _ rfl⟩

/-! #### struct type 55 -/
structure S55 where
  f0 : Int
  f1 : ByteArray
def k55 : Kd S55 := Kd.iso (Kd.pair (Kd.int .i64) Kd.string) (fun x : S55 => (x.f0, x.f1))
theorem k55_mkM (w : World) (base : Nat) (ok : Nat → Prop) (x : S55)  : k55.M w base ok x [.int .i64 x.f0, .string x.f1] := ⟨[.int .i64 x.f0], [.string x.f1], rfl, rfl, rfl⟩
end Go.Proofs.Ytjklgdpffmaamaa.PPa

namespace Go.Proofs.Ytjklgdpffmaamaa.OkzPa
open Go.ChangeShapes Go.WideShapes Go.ChangeAt Go.RowKit Go.Proofs.YtjklgdpffmaamaaW.PrintWords Go.Proofs.Ytjklgdpffmaamaa.PPa Go.Proofs.Ytjklgdpffmaamaa.OpenZd
set_option linter.unusedVariables false
structure S23 where
  f0 : Int
  f1 : Bool
  f2 : Int
  f3 : Bool
  f4 : Bool
  f5 : Bool
  f6 : Bool
  f7 : Int
  f8 : Int
def k23 : Kd S23 := Kd.iso (Kd.pair (Kd.int .i64) (Kd.pair Kd.bool (Kd.pair (Kd.int .i64) (Kd.pair Kd.bool (Kd.pair Kd.bool (Kd.pair Kd.bool (Kd.pair Kd.bool (Kd.pair (Kd.int .i64) (Kd.int .i64))))))))) (fun x : S23 => (x.f0, x.f1, x.f2, x.f3, x.f4, x.f5, x.f6, x.f7, x.f8))
def ok23 (x : S23) : Prop := ((fun x => (Lit.int .i64 x).wf = true) x.f0) ∧ ((fun _ => True) x.f1) ∧ ((fun x => (Lit.int .i64 x).wf = true) x.f2) ∧ ((fun _ => True) x.f3) ∧ ((fun _ => True) x.f4) ∧ ((fun _ => True) x.f5) ∧ ((fun _ => True) x.f6) ∧ ((fun x => (Lit.int .i64 x).wf = true) x.f7) ∧ ((fun x => (Lit.int .i64 x).wf = true) x.f8)
theorem cells23 : ∀ {l : List Value}, l.length = 9 → ∃ c0 c1 c2 c3 c4 c5 c6 c7 c8, l = [c0, c1, c2, c3, c4, c5, c6, c7, c8]
  | [c0, c1, c2, c3, c4, c5, c6, c7, c8], _ => ⟨c0, c1, c2, c3, c4, c5, c6, c7, c8, rfl⟩
theorem opens23 {H : Type} (enc : TypeId × Value → H) (W : World) (base : Nat) (spare : Nat → Bool) (held : Bool) : Opens enc Try.prog W base spare held 23 k23 ok23 := by
  intro fuel cs y h hlt
  obtain ⟨xs, n, rfl, rfl, hl, hx, hf⟩ := DataW.trod_struct Try.underlying23 h
  obtain ⟨c0, c1, c2, c3, c4, c5, c6, c7, c8, rfl⟩ := cells23 (hl.trans (by kernel_rfl))
  obtain ⟨y0, e0⟩ : ∃ y, xs[0]? = some y := ⟨_, List.getElem?_eq_getElem (by rw [hx]; decide)⟩
  have g0 : DataW.trod enc Try.prog W base spare held n 3 (([c0, c1, c2, c3, c4, c5, c6, c7, c8].drop 0).take (Try.prog.cellsOf 3)) = xs[0]? := hf 0 _ rfl
  rw [e0, show Try.prog.cellsOf 3 = 1 by kernel_rfl] at g0
  obtain ⟨x0, k0', o0⟩ := (opens_int enc Try.prog W base spare held Try.underlying3) _ [c0] y0 g0 (light_part Try.prog Try.underlying23 hlt (j := 0) (by kernel_rfl) (by rw [List.getElem?_map, e0]; rfl))
  obtain ⟨y1, e1⟩ : ∃ y, xs[1]? = some y := ⟨_, List.getElem?_eq_getElem (by rw [hx]; decide)⟩
  have g1 : DataW.trod enc Try.prog W base spare held n 4 (([c0, c1, c2, c3, c4, c5, c6, c7, c8].drop 1).take (Try.prog.cellsOf 4)) = xs[1]? := hf 1 _ rfl
  rw [e1, show Try.prog.cellsOf 4 = 1 by kernel_rfl] at g1
  obtain ⟨x1, k1', o1⟩ := (opens_bool enc Try.prog W base spare held Try.underlying4) _ [c1] y1 g1 (light_part Try.prog Try.underlying23 hlt (j := 1) (by kernel_rfl) (by rw [List.getElem?_map, e1]; rfl))
  obtain ⟨y2, e2⟩ : ∃ y, xs[2]? = some y := ⟨_, List.getElem?_eq_getElem (by rw [hx]; decide)⟩
  have g2 : DataW.trod enc Try.prog W base spare held n 3 (([c0, c1, c2, c3, c4, c5, c6, c7, c8].drop 2).take (Try.prog.cellsOf 3)) = xs[2]? := hf 2 _ rfl
  rw [e2, show Try.prog.cellsOf 3 = 1 by kernel_rfl] at g2
  obtain ⟨x2, k2', o2⟩ := (opens_int enc Try.prog W base spare held Try.underlying3) _ [c2] y2 g2 (light_part Try.prog Try.underlying23 hlt (j := 2) (by kernel_rfl) (by rw [List.getElem?_map, e2]; rfl))
  obtain ⟨y3, e3⟩ : ∃ y, xs[3]? = some y := ⟨_, List.getElem?_eq_getElem (by rw [hx]; decide)⟩
  have g3 : DataW.trod enc Try.prog W base spare held n 4 (([c0, c1, c2, c3, c4, c5, c6, c7, c8].drop 3).take (Try.prog.cellsOf 4)) = xs[3]? := hf 3 _ rfl
  rw [e3, show Try.prog.cellsOf 4 = 1 by kernel_rfl] at g3
  obtain ⟨x3, k3', o3⟩ := (opens_bool enc Try.prog W base spare held Try.underlying4) _ [c3] y3 g3 (light_part Try.prog Try.underlying23 hlt (j := 3) (by kernel_rfl) (by rw [List.getElem?_map, e3]; rfl))
  obtain ⟨y4, e4⟩ : ∃ y, xs[4]? = some y := ⟨_, List.getElem?_eq_getElem (by rw [hx]; decide)⟩
  have g4 : DataW.trod enc Try.prog W base spare held n 4 (([c0, c1, c2, c3, c4, c5, c6, c7, c8].drop 4).take (Try.prog.cellsOf 4)) = xs[4]? := hf 4 _ rfl
  rw [e4, show Try.prog.cellsOf 4 = 1 by kernel_rfl] at g4
  obtain ⟨x4, k4', o4⟩ := (opens_bool enc Try.prog W base spare held Try.underlying4) _ [c4] y4 g4 (light_part Try.prog Try.underlying23 hlt (j := 4) (by kernel_rfl) (by rw [List.getElem?_map, e4]; rfl))
  obtain ⟨y5, e5⟩ : ∃ y, xs[5]? = some y := ⟨_, List.getElem?_eq_getElem (by rw [hx]; decide)⟩
  have g5 : DataW.trod enc Try.prog W base spare held n 4 (([c0, c1, c2, c3, c4, c5, c6, c7, c8].drop 5).take (Try.prog.cellsOf 4)) = xs[5]? := hf 5 _ rfl
  rw [e5, show Try.prog.cellsOf 4 = 1 by kernel_rfl] at g5
  obtain ⟨x5, k5', o5⟩ := (opens_bool enc Try.prog W base spare held Try.underlying4) _ [c5] y5 g5 (light_part Try.prog Try.underlying23 hlt (j := 5) (by kernel_rfl) (by rw [List.getElem?_map, e5]; rfl))
  obtain ⟨y6, e6⟩ : ∃ y, xs[6]? = some y := ⟨_, List.getElem?_eq_getElem (by rw [hx]; decide)⟩
  have g6 : DataW.trod enc Try.prog W base spare held n 4 (([c0, c1, c2, c3, c4, c5, c6, c7, c8].drop 6).take (Try.prog.cellsOf 4)) = xs[6]? := hf 6 _ rfl
  rw [e6, show Try.prog.cellsOf 4 = 1 by kernel_rfl] at g6
  obtain ⟨x6, k6', o6⟩ := (opens_bool enc Try.prog W base spare held Try.underlying4) _ [c6] y6 g6 (light_part Try.prog Try.underlying23 hlt (j := 6) (by kernel_rfl) (by rw [List.getElem?_map, e6]; rfl))
  obtain ⟨y7, e7⟩ : ∃ y, xs[7]? = some y := ⟨_, List.getElem?_eq_getElem (by rw [hx]; decide)⟩
  have g7 : DataW.trod enc Try.prog W base spare held n 3 (([c0, c1, c2, c3, c4, c5, c6, c7, c8].drop 7).take (Try.prog.cellsOf 3)) = xs[7]? := hf 7 _ rfl
  rw [e7, show Try.prog.cellsOf 3 = 1 by kernel_rfl] at g7
  obtain ⟨x7, k7', o7⟩ := (opens_int enc Try.prog W base spare held Try.underlying3) _ [c7] y7 g7 (light_part Try.prog Try.underlying23 hlt (j := 7) (by kernel_rfl) (by rw [List.getElem?_map, e7]; rfl))
  obtain ⟨y8, e8⟩ : ∃ y, xs[8]? = some y := ⟨_, List.getElem?_eq_getElem (by rw [hx]; decide)⟩
  have g8 : DataW.trod enc Try.prog W base spare held n 3 (([c0, c1, c2, c3, c4, c5, c6, c7, c8].drop 8).take (Try.prog.cellsOf 3)) = xs[8]? := hf 8 _ rfl
  rw [e8, show Try.prog.cellsOf 3 = 1 by kernel_rfl] at g8
  obtain ⟨x8, k8', o8⟩ := (opens_int enc Try.prog W base spare held Try.underlying3) _ [c8] y8 g8 (light_part Try.prog Try.underlying23 hlt (j := 8) (by kernel_rfl) (by rw [List.getElem?_map, e8]; rfl))
  obtain rfl : xs = [y0, y1, y2, y3, y4, y5, y6, y7, y8] := by
    apply List.ext_getElem?
    intro i
    have hx' : xs.length = 9 := hx
    match i with
    | 0 => exact e0
    | 1 => exact e1
    | 2 => exact e2
    | 3 => exact e3
    | 4 => exact e4
    | 5 => exact e5
    | 6 => exact e6
    | 7 => exact e7
    | 8 => exact e8
    | i + 9 => rw [List.getElem?_eq_none (by omega), List.getElem?_eq_none (by simp)]
  exact ⟨⟨x0, x1, x2, x3, x4, x5, x6, x7, x8⟩, ⟨[c0], _, rfl, k0', ⟨[c1], _, rfl, k1', ⟨[c2], _, rfl, k2', ⟨[c3], _, rfl, k3', ⟨[c4], _, rfl, k4', ⟨[c5], _, rfl, k5', ⟨[c6], _, rfl, k6', ⟨[c7], _, rfl, k7', k8'⟩⟩⟩⟩⟩⟩⟩⟩, ⟨o0, o1, o2, o3, o4, o5, o6, o7, o8⟩⟩
def ok40 (x : S40) : Prop := ((fun s => s.size ≤ 140737488351232) x.f0) ∧ ((fun x => (Lit.int .i64 x).wf = true) x.f1) ∧ ((fun x => (Lit.int .i64 x).wf = true) x.f2)
theorem cells40 : ∀ {l : List Value}, l.length = 3 → ∃ c0 c1 c2, l = [c0, c1, c2]
  | [c0, c1, c2], _ => ⟨c0, c1, c2, rfl⟩
theorem opens40 {H : Type} (enc : TypeId × Value → H) (W : World) (base : Nat) (spare : Nat → Bool) (held : Bool) : Opens enc Try.prog W base spare held 40 k40 ok40 := by
  intro fuel cs y h hlt
  obtain ⟨xs, n, rfl, rfl, hl, hx, hf⟩ := DataW.trod_struct Try.underlying40 h
  obtain ⟨c0, c1, c2, rfl⟩ := cells40 (hl.trans (by kernel_rfl))
  obtain ⟨y0, e0⟩ : ∃ y, xs[0]? = some y := ⟨_, List.getElem?_eq_getElem (by rw [hx]; decide)⟩
  have g0 : DataW.trod enc Try.prog W base spare held n 9 (([c0, c1, c2].drop 0).take (Try.prog.cellsOf 9)) = xs[0]? := hf 0 _ rfl
  rw [e0, show Try.prog.cellsOf 9 = 1 by kernel_rfl] at g0
  obtain ⟨x0, k0', o0⟩ := (opens_string enc Try.prog W base spare held Try.underlying9) _ [c0] y0 g0 (light_part Try.prog Try.underlying40 hlt (j := 0) (by kernel_rfl) (by rw [List.getElem?_map, e0]; rfl))
  obtain ⟨y1, e1⟩ : ∃ y, xs[1]? = some y := ⟨_, List.getElem?_eq_getElem (by rw [hx]; decide)⟩
  have g1 : DataW.trod enc Try.prog W base spare held n 3 (([c0, c1, c2].drop 1).take (Try.prog.cellsOf 3)) = xs[1]? := hf 1 _ rfl
  rw [e1, show Try.prog.cellsOf 3 = 1 by kernel_rfl] at g1
  obtain ⟨x1, k1', o1⟩ := (opens_int enc Try.prog W base spare held Try.underlying3) _ [c1] y1 g1 (light_part Try.prog Try.underlying40 hlt (j := 1) (by kernel_rfl) (by rw [List.getElem?_map, e1]; rfl))
  obtain ⟨y2, e2⟩ : ∃ y, xs[2]? = some y := ⟨_, List.getElem?_eq_getElem (by rw [hx]; decide)⟩
  have g2 : DataW.trod enc Try.prog W base spare held n 3 (([c0, c1, c2].drop 2).take (Try.prog.cellsOf 3)) = xs[2]? := hf 2 _ rfl
  rw [e2, show Try.prog.cellsOf 3 = 1 by kernel_rfl] at g2
  obtain ⟨x2, k2', o2⟩ := (opens_int enc Try.prog W base spare held Try.underlying3) _ [c2] y2 g2 (light_part Try.prog Try.underlying40 hlt (j := 2) (by kernel_rfl) (by rw [List.getElem?_map, e2]; rfl))
  obtain rfl : xs = [y0, y1, y2] := by
    apply List.ext_getElem?
    intro i
    have hx' : xs.length = 3 := hx
    match i with
    | 0 => exact e0
    | 1 => exact e1
    | 2 => exact e2
    | i + 3 => rw [List.getElem?_eq_none (by omega), List.getElem?_eq_none (by simp)]
  exact ⟨⟨x0, x1, x2⟩, ⟨[c0], _, rfl, k0', ⟨[c1], _, rfl, k1', k2'⟩⟩, ⟨o0, o1, o2⟩⟩
def ok53 (x : S53) : Prop := ((fun s => s.size ≤ 140737488351232) x.f0) ∧ ((fun x => (Lit.int .i64 x).wf = true) x.f1) ∧ ((fun x => (Lit.int .i64 x).wf = true) x.f2) ∧ ((fun x => (Lit.int .i64 x).wf = true) x.f3) ∧ ((fun s => s.size ≤ 140737488351232) x.f4)
theorem cells53 : ∀ {l : List Value}, l.length = 5 → ∃ c0 c1 c2 c3 c4, l = [c0, c1, c2, c3, c4]
  | [c0, c1, c2, c3, c4], _ => ⟨c0, c1, c2, c3, c4, rfl⟩
theorem opens53 {H : Type} (enc : TypeId × Value → H) (W : World) (base : Nat) (spare : Nat → Bool) (held : Bool) : Opens enc Try.prog W base spare held 53 k53 ok53 := by
  intro fuel cs y h hlt
  obtain ⟨xs, n, rfl, rfl, hl, hx, hf⟩ := DataW.trod_struct Try.underlying53 h
  obtain ⟨c0, c1, c2, c3, c4, rfl⟩ := cells53 (hl.trans (by kernel_rfl))
  obtain ⟨y0, e0⟩ : ∃ y, xs[0]? = some y := ⟨_, List.getElem?_eq_getElem (by rw [hx]; decide)⟩
  have g0 : DataW.trod enc Try.prog W base spare held n 9 (([c0, c1, c2, c3, c4].drop 0).take (Try.prog.cellsOf 9)) = xs[0]? := hf 0 _ rfl
  rw [e0, show Try.prog.cellsOf 9 = 1 by kernel_rfl] at g0
  obtain ⟨x0, k0', o0⟩ := (opens_string enc Try.prog W base spare held Try.underlying9) _ [c0] y0 g0 (light_part Try.prog Try.underlying53 hlt (j := 0) (by kernel_rfl) (by rw [List.getElem?_map, e0]; rfl))
  obtain ⟨y1, e1⟩ : ∃ y, xs[1]? = some y := ⟨_, List.getElem?_eq_getElem (by rw [hx]; decide)⟩
  have g1 : DataW.trod enc Try.prog W base spare held n 3 (([c0, c1, c2, c3, c4].drop 1).take (Try.prog.cellsOf 3)) = xs[1]? := hf 1 _ rfl
  rw [e1, show Try.prog.cellsOf 3 = 1 by kernel_rfl] at g1
  obtain ⟨x1, k1', o1⟩ := (opens_int enc Try.prog W base spare held Try.underlying3) _ [c1] y1 g1 (light_part Try.prog Try.underlying53 hlt (j := 1) (by kernel_rfl) (by rw [List.getElem?_map, e1]; rfl))
  obtain ⟨y2, e2⟩ : ∃ y, xs[2]? = some y := ⟨_, List.getElem?_eq_getElem (by rw [hx]; decide)⟩
  have g2 : DataW.trod enc Try.prog W base spare held n 3 (([c0, c1, c2, c3, c4].drop 2).take (Try.prog.cellsOf 3)) = xs[2]? := hf 2 _ rfl
  rw [e2, show Try.prog.cellsOf 3 = 1 by kernel_rfl] at g2
  obtain ⟨x2, k2', o2⟩ := (opens_int enc Try.prog W base spare held Try.underlying3) _ [c2] y2 g2 (light_part Try.prog Try.underlying53 hlt (j := 2) (by kernel_rfl) (by rw [List.getElem?_map, e2]; rfl))
  obtain ⟨y3, e3⟩ : ∃ y, xs[3]? = some y := ⟨_, List.getElem?_eq_getElem (by rw [hx]; decide)⟩
  have g3 : DataW.trod enc Try.prog W base spare held n 3 (([c0, c1, c2, c3, c4].drop 3).take (Try.prog.cellsOf 3)) = xs[3]? := hf 3 _ rfl
  rw [e3, show Try.prog.cellsOf 3 = 1 by kernel_rfl] at g3
  obtain ⟨x3, k3', o3⟩ := (opens_int enc Try.prog W base spare held Try.underlying3) _ [c3] y3 g3 (light_part Try.prog Try.underlying53 hlt (j := 3) (by kernel_rfl) (by rw [List.getElem?_map, e3]; rfl))
  obtain ⟨y4, e4⟩ : ∃ y, xs[4]? = some y := ⟨_, List.getElem?_eq_getElem (by rw [hx]; decide)⟩
  have g4 : DataW.trod enc Try.prog W base spare held n 9 (([c0, c1, c2, c3, c4].drop 4).take (Try.prog.cellsOf 9)) = xs[4]? := hf 4 _ rfl
  rw [e4, show Try.prog.cellsOf 9 = 1 by kernel_rfl] at g4
  obtain ⟨x4, k4', o4⟩ := (opens_string enc Try.prog W base spare held Try.underlying9) _ [c4] y4 g4 (light_part Try.prog Try.underlying53 hlt (j := 4) (by kernel_rfl) (by rw [List.getElem?_map, e4]; rfl))
  obtain rfl : xs = [y0, y1, y2, y3, y4] := by
    apply List.ext_getElem?
    intro i
    have hx' : xs.length = 5 := hx
    match i with
    | 0 => exact e0
    | 1 => exact e1
    | 2 => exact e2
    | 3 => exact e3
    | 4 => exact e4
    | i + 5 => rw [List.getElem?_eq_none (by omega), List.getElem?_eq_none (by simp)]
  exact ⟨⟨x0, x1, x2, x3, x4⟩, ⟨[c0], _, rfl, k0', ⟨[c1], _, rfl, k1', ⟨[c2], _, rfl, k2', ⟨[c3], _, rfl, k3', k4'⟩⟩⟩⟩, ⟨o0, o1, o2, o3, o4⟩⟩
structure S27 where
  f0 : S23
  f1 : List (S40)
  f2 : List (S53)
  f3 : List (S53)
  f4 : List (S53)
def k27 : Kd S27 := Kd.iso (Kd.pair k23 (Kd.pair (Kd.slice 40 k40) (Kd.pair (Kd.slice 53 k53) (Kd.pair (Kd.slice 53 k53) (Kd.slice 53 k53))))) (fun x : S27 => (x.f0, x.f1, x.f2, x.f3, x.f4))
def ok27 (x : S27) : Prop := (ok23 x.f0) ∧ ((fun xs => xs.length * Try.prog.bytesOf 40 ≤ 140737488351232 ∧ ∀ x ∈ xs, ok40 x) x.f1) ∧ ((fun xs => xs.length * Try.prog.bytesOf 53 ≤ 140737488351232 ∧ ∀ x ∈ xs, ok53 x) x.f2) ∧ ((fun xs => xs.length * Try.prog.bytesOf 53 ≤ 140737488351232 ∧ ∀ x ∈ xs, ok53 x) x.f3) ∧ ((fun xs => xs.length * Try.prog.bytesOf 53 ≤ 140737488351232 ∧ ∀ x ∈ xs, ok53 x) x.f4)
theorem cells27 : ∀ {l : List Value}, l.length = 13 → ∃ c0 c1 c2 c3 c4 c5 c6 c7 c8 c9 c10 c11 c12, l = [c0, c1, c2, c3, c4, c5, c6, c7, c8, c9, c10, c11, c12]
  | [c0, c1, c2, c3, c4, c5, c6, c7, c8, c9, c10, c11, c12], _ => ⟨c0, c1, c2, c3, c4, c5, c6, c7, c8, c9, c10, c11, c12, rfl⟩
theorem opens27 {H : Type} (enc : TypeId × Value → H) (W : World) (base : Nat) (spare : Nat → Bool) (held : Bool) : Opens enc Try.prog W base spare held 27 k27 ok27 := by
  intro fuel cs y h hlt
  obtain ⟨xs, n, rfl, rfl, hl, hx, hf⟩ := DataW.trod_struct Try.underlying27 h
  obtain ⟨c0, c1, c2, c3, c4, c5, c6, c7, c8, c9, c10, c11, c12, rfl⟩ := cells27 (hl.trans (by kernel_rfl))
  obtain ⟨y0, e0⟩ : ∃ y, xs[0]? = some y := ⟨_, List.getElem?_eq_getElem (by rw [hx]; decide)⟩
  have g0 : DataW.trod enc Try.prog W base spare held n 23 (([c0, c1, c2, c3, c4, c5, c6, c7, c8, c9, c10, c11, c12].drop 0).take (Try.prog.cellsOf 23)) = xs[0]? := hf 0 _ rfl
  rw [e0, show Try.prog.cellsOf 23 = 9 by kernel_rfl] at g0
  obtain ⟨x0, k0', o0⟩ := (opens23 enc W base spare held) _ [c0, c1, c2, c3, c4, c5, c6, c7, c8] y0 g0 (light_part Try.prog Try.underlying27 hlt (j := 0) (by kernel_rfl) (by rw [List.getElem?_map, e0]; rfl))
  obtain ⟨y1, e1⟩ : ∃ y, xs[1]? = some y := ⟨_, List.getElem?_eq_getElem (by rw [hx]; decide)⟩
  have g1 : DataW.trod enc Try.prog W base spare held n 24 (([c0, c1, c2, c3, c4, c5, c6, c7, c8, c9, c10, c11, c12].drop 9).take (Try.prog.cellsOf 24)) = xs[1]? := hf 1 _ rfl
  rw [e1, show Try.prog.cellsOf 24 = 1 by kernel_rfl] at g1
  obtain ⟨x1, k1', o1⟩ := (opens_slice enc Try.prog W base spare held Try.underlying24 (by kernel_rfl) (opens40 enc W base spare held)) _ [c9] y1 g1 (light_part Try.prog Try.underlying27 hlt (j := 1) (by kernel_rfl) (by rw [List.getElem?_map, e1]; rfl))
  obtain ⟨y2, e2⟩ : ∃ y, xs[2]? = some y := ⟨_, List.getElem?_eq_getElem (by rw [hx]; decide)⟩
  have g2 : DataW.trod enc Try.prog W base spare held n 25 (([c0, c1, c2, c3, c4, c5, c6, c7, c8, c9, c10, c11, c12].drop 10).take (Try.prog.cellsOf 25)) = xs[2]? := hf 2 _ rfl
  rw [e2, show Try.prog.cellsOf 25 = 1 by kernel_rfl] at g2
  obtain ⟨x2, k2', o2⟩ := (opens_slice enc Try.prog W base spare held Try.underlying25 (by kernel_rfl) (opens53 enc W base spare held)) _ [c10] y2 g2 (light_part Try.prog Try.underlying27 hlt (j := 2) (by kernel_rfl) (by rw [List.getElem?_map, e2]; rfl))
  obtain ⟨y3, e3⟩ : ∃ y, xs[3]? = some y := ⟨_, List.getElem?_eq_getElem (by rw [hx]; decide)⟩
  have g3 : DataW.trod enc Try.prog W base spare held n 25 (([c0, c1, c2, c3, c4, c5, c6, c7, c8, c9, c10, c11, c12].drop 11).take (Try.prog.cellsOf 25)) = xs[3]? := hf 3 _ rfl
  rw [e3, show Try.prog.cellsOf 25 = 1 by kernel_rfl] at g3
  obtain ⟨x3, k3', o3⟩ := (opens_slice enc Try.prog W base spare held Try.underlying25 (by kernel_rfl) (opens53 enc W base spare held)) _ [c11] y3 g3 (light_part Try.prog Try.underlying27 hlt (j := 3) (by kernel_rfl) (by rw [List.getElem?_map, e3]; rfl))
  obtain ⟨y4, e4⟩ : ∃ y, xs[4]? = some y := ⟨_, List.getElem?_eq_getElem (by rw [hx]; decide)⟩
  have g4 : DataW.trod enc Try.prog W base spare held n 25 (([c0, c1, c2, c3, c4, c5, c6, c7, c8, c9, c10, c11, c12].drop 12).take (Try.prog.cellsOf 25)) = xs[4]? := hf 4 _ rfl
  rw [e4, show Try.prog.cellsOf 25 = 1 by kernel_rfl] at g4
  obtain ⟨x4, k4', o4⟩ := (opens_slice enc Try.prog W base spare held Try.underlying25 (by kernel_rfl) (opens53 enc W base spare held)) _ [c12] y4 g4 (light_part Try.prog Try.underlying27 hlt (j := 4) (by kernel_rfl) (by rw [List.getElem?_map, e4]; rfl))
  obtain rfl : xs = [y0, y1, y2, y3, y4] := by
    apply List.ext_getElem?
    intro i
    have hx' : xs.length = 5 := hx
    match i with
    | 0 => exact e0
    | 1 => exact e1
    | 2 => exact e2
    | 3 => exact e3
    | 4 => exact e4
    | i + 5 => rw [List.getElem?_eq_none (by omega), List.getElem?_eq_none (by simp)]
  exact ⟨⟨x0, x1, x2, x3, x4⟩, ⟨[c0, c1, c2, c3, c4, c5, c6, c7, c8], _, rfl, k0', ⟨[c9], _, rfl, k1', ⟨[c10], _, rfl, k2', ⟨[c11], _, rfl, k3', k4'⟩⟩⟩⟩, ⟨o0, o1, o2, o3, o4⟩⟩
end Go.Proofs.Ytjklgdpffmaamaa.OkzPa

namespace Go.Proofs.Ytjklgdpffmaamaa.OptH
open Go.RowKit Go.PlainAid Go.Proofs.Ytjklgdpffmaamaa.Base Go.Proofs.Ytjklgdpffmaamaa.Oct
open Go.Proofs.YtjklgdpffmaamaaW.PrintWords (blk_cell blk_below blk_put blk_frozen blk_ne blk_new blk_lt blk_grown bytesOf bytesOf_length nums own_nil)
set_option linter.unusedVariables false
set_option linter.unusedSimpArgs false
theorem info_u8 : (Try.prog.info? 5).map (fun i => (i.zero, i.size, i.bytes)) = some (some (.int .u8 0), 1, 1) := by kernel_rfl
theorem inc (x y : Int) (w : World) : Calls Try.prog 109 #[.int .i64 x, .int .i64 y] w fun e w' => e = .returned (.bool (decide (0 ≤ x) && decide (x ≤ y))) ∧ w' = w := by
  by_cases h : (0 : Int) ≤ x
  · have q : decide ((0 : Int) ≤ x) = true := decide_eq_true h
    clear h
    go_enter Try.func109, Try.ntmps109
    go_wp2
    go_ret
    first | exact ⟨by simp [q], rfl⟩ | exact ⟨by rw [q]; rfl, rfl⟩
  · have q : decide ((0 : Int) ≤ x) = false := decide_eq_false h
    clear h
    go_enter Try.func109, Try.ntmps109
    go_wp2
    go_ret
    first | exact ⟨by simp [q], rfl⟩ | exact ⟨by rw [q]; rfl, rfl⟩
/-- string(v), v the call's own. -/
theorem conv_own {wr : World} {base c : Nat} {A : Option Addr} {xs : List Int} (h : wr.ownsRow base 5 1 (.slice A xs.length c) xs.length (nums .u8 xs)) :
    (convert 56 9 (.slice A xs.length c)).run Try.prog wr = .ok (.string (strOfNums xs)) wr := by
  have h2 := h
  rcases h2.2 with ⟨e, e0⟩ | ⟨g, cap, cur, e, _⟩
  · have hA : A = none := by simpa using (Value.slice.inj e).1
    have hx : xs = [] := by simpa [nums] using e0
    subst hA hx
    rw [run_convert_bytes_nil wr 56 5 Try.underlying56 Try.underlying5 _ _ _ Try.underlying9]
    rfl
  · obtain ⟨hA, _, hc⟩ := Value.slice.inj e
    subst hA hc
    refine run_convert_bytes_arg wr 56 5 Try.underlying56 Try.underlying5 g 0 xs.length _ xs rfl (fun i hi => ?_) _ Try.underlying9
    rw [Nat.zero_add, h.cellAt i (by omega)]
    simp [nums, List.getElem?_eq_getElem hi, List.getD_eq_getElem?_getD]
theorem asz (w : World) (o : Obj) : (w.alloc o).heap.size = w.heap.size + 1 := by simp
/-- The record's cells. -/
abbrev optV (d : ByteArray) : Value := .agg #[.string ⟨#[0]⟩, .int .i64 41, .int .i64 1232, .int .i64 0, .string d]
set_option maxHeartbeats 2000000 in
set_option maxRecDepth 100000 in
theorem put0 (w : World) : Calls Try.prog 101 #[.agg #[.int .i64 1232, .int .i64 0, .int .i64 0, .bool false, .int .i64 0, .slice none 0 0]] w fun e w' => e = .returned (.tuple #[optV ⟨#[]⟩, .int .i64 0]) ∧ Below w.heap.size w w' := by
  have B0 : Below w.heap.size w ((w.alloc (.cells #[.int .i64 1232, .int .i64 0, .int .i64 0, .bool false, .int .i64 0, .slice none 0 0] 49)).alloc (.cells #[.string ⟨#[]⟩, .int .i64 0, .int .i64 0, .int .i64 0, .string ⟨#[]⟩] 53)) := ((Below.refl _ _).alloc (Nat.le_refl _) _).alloc (by simp) _
  go_enter Try.func101, Try.ntmps101
  go_wp2_with (go_at_call 109; refine (inc _ _ _).mono ?_; rintro e w' ⟨rfl, rfl⟩)
  refine wp_loop_rounds 1 ?_
  rw [rounds_succ]
  have kc := fun w => run_convert_bytes_nil (P := Try.prog) w 56 5 Try.underlying56 Try.underlying5 0 0 9 Try.underlying9
  have kb : Go.bits .or .i64 0 0 = 0 := by decide
  go_wp2_with fail
  exact bodyPost_ret (v := .tuple #[optV ⟨#[]⟩, .int .i64 0]) (by simp [results, Try.results101, go_sem]; rfl) rfl ⟨rfl, ((Below.refl _ _).alloc (Nat.le_refl _) _).alloc (by simp) _⟩
set_option maxHeartbeats 4000000 in
set_option maxRecDepth 100000 in
theorem put1 (d : ByteArray) (hd : d.size ≤ 65000) (g : Nat) (c : Nat) (w : World) (hc : 1 ≤ c) (hg : w.heap[g]? = some (.cells #[.int .i64 12, .string d] 55 (0, 0))) : Calls Try.prog 101 #[.agg #[.int .i64 1232, .int .i64 0, .int .i64 0, .bool false, .int .i64 0, .slice (some ⟨g, 0, none⟩) 1 c]] w fun e w' => e = .returned (.tuple #[optV (p16 12 ++ p16 (d.size : Int) ++ d), .int .i64 0]) ∧ Below w.heap.size w w' := by
  have q1 : decide ((65535 : Int) < (d.size : Int)) = false := by simp; omega
  have B0 : Below w.heap.size w ((w.alloc (.cells #[.int .i64 1232, .int .i64 0, .int .i64 0, .bool false, .int .i64 0, .slice (some ⟨g, 0, none⟩) 1 c] 49)).alloc (.cells #[.string ⟨#[]⟩, .int .i64 0, .int .i64 0, .int .i64 0, .string ⟨#[]⟩] 53)) := ((Below.refl _ _).alloc (Nat.le_refl _) _).alloc (by simp) _
  have hlt : g < w.heap.size := blk_lt hg
  have k0 : w.cell? ⟨g, 0, none⟩ = some (.int .i64 12) := (blk_cell hg 0).trans rfl
  have k1 : w.cell? ⟨g, 1, none⟩ = some (.string d) := (blk_cell hg 1).trans rfl
  go_enter Try.func101, Try.ntmps101
  go_wp2_with (go_at_call 109; refine (inc _ _ _).mono ?_; rintro e w' ⟨rfl, rfl⟩)
  refine wp_loop_rounds 2 ?_
  rw [rounds_succ]
  go_wp2_with (go_at_call 109; refine (inc _ _ _).mono ?_; rintro e w' ⟨rfl, rfl⟩)
  obtain ⟨W, hW⟩ : ∃ W, W = (((w.alloc (.cells #[.int .i64 1232, .int .i64 0, .int .i64 0, .bool false, .int .i64 0, .slice (some ⟨g, 0, none⟩) 1 c] 49)).alloc (.cells #[.string ⟨#[]⟩, .int .i64 0, .int .i64 0, .int .i64 0, .string ⟨#[]⟩] 53)).alloc (.cells #[.int .i64 12, .string d] 55)) := ⟨_, rfl⟩
  have sW : W.heap.size = w.heap.size + 1 + 1 + 1 := by rw [hW]; simp
  have BW : Below w.heap.size w W.drew := by rw [hW]; exact (B0.alloc (by simp; omega) _).drew
  have bO : W.drew.heap[w.heap.size]? = some (.cells #[.int .i64 1232, .int .i64 0, .int .i64 0, .bool false, .int .i64 0, .slice (some ⟨g, 0, none⟩) 1 c] 49 (0, 0)) := by
    rw [hW]
    exact Go.Proofs.YtjklgdpffmaamaaW.PrintWords.blk_alloc (Go.Proofs.YtjklgdpffmaamaaW.PrintWords.blk_alloc (blk_new w _) _) _
  have bR : W.drew.heap[w.heap.size + 1]? = some (.cells #[.string ⟨#[]⟩, .int .i64 0, .int .i64 0, .int .i64 0, .string ⟨#[]⟩] 53 (0, 0)) := by
    rw [hW]
    have := blk_new (w.alloc (.cells #[.int .i64 1232, .int .i64 0, .int .i64 0, .bool false, .int .i64 0, .slice (some ⟨g, 0, none⟩) 1 c] 49)) (.cells #[.string ⟨#[]⟩, .int .i64 0, .int .i64 0, .int .i64 0, .string ⟨#[]⟩] 53)
    rw [asz] at this
    exact Go.Proofs.YtjklgdpffmaamaaW.PrintWords.blk_alloc this _
  have bX : W.drew.heap[w.heap.size + 1 + 1]? = some (.cells #[.int .i64 12, .string d] 55 (0, 0)) := by
    rw [hW]
    have := blk_new ((w.alloc (.cells #[.int .i64 1232, .int .i64 0, .int .i64 0, .bool false, .int .i64 0, .slice (some ⟨g, 0, none⟩) 1 c] 49)).alloc (.cells #[.string ⟨#[]⟩, .int .i64 0, .int .i64 0, .int .i64 0, .string ⟨#[]⟩] 53)) (.cells #[.int .i64 12, .string d] 55)
    rw [asz, asz] at this
    exact this
  rw [← hW]
  clear hW B0 hg hlt k0 k1
  have z0 : W.drew.cell? ⟨w.heap.size + 1 + 1, 0, none⟩ = some (.int .i64 12) := (blk_cell bX 0).trans rfl
  have z1 : W.drew.cell? ⟨w.heap.size + 1 + 1, 1, none⟩ = some (.string d) := (blk_cell bX 1).trans rfl
  have sp : (p16 12 ++ p16 (d.size : Int)).size = 4 := by rw [ByteArray.size_append, p16_size, p16_size]
  have sb : ¬ 9223372036854775807 < (p16 12).size + (p16 (d.size : Int)).size := by rw [p16_size, p16_size]; decide
  obtain ⟨gx, hgx⟩ : ∃ gx, gx = w.heap.size + 1 + 1 := ⟨_, rfl⟩
  obtain ⟨gr, hgr⟩ : ∃ gr, gr = w.heap.size + 1 := ⟨_, rfl⟩
  obtain ⟨go, hgo⟩ : ∃ go, go = w.heap.size := ⟨_, rfl⟩
  have hge : w.heap.size ≤ go ∧ w.heap.size ≤ gr ∧ w.heap.size ≤ gx ∧ go ≠ gr := by omega
  rw [← hgx] at z0 z1 bX ⊢
  rw [← hgr] at bR ⊢
  rw [show W.drew.heap[w.heap.size]? = W.drew.heap[go]? by rw [hgo]] at bO
  have HGE := Lib.hid hge
  clear hgx hgr hge
  go_region_held3 (fun w' => w'.cell? ⟨gx, 0, none⟩ = some (.int .i64 12) ∧ w'.cell? ⟨gx, 1, none⟩ = some (.string d))
    (first | go_keep | (go_split_ands; refine ⟨?_, ?_⟩ <;> assumption))
    (first
      | (go_at_call 62; refine (put16 _ _).mono ?_; rintro e w' ⟨rfl, hb⟩; have bX := blk_below bX hb; have bO := blk_below bO hb; have bR := blk_below bR hb; have BW := BW.trans (hb.mono BW.size); have z0 : w'.cell? ⟨gx, 0, none⟩ = some (.int .i64 12) := (blk_cell bX 0).trans rfl; have z1 : w'.cell? ⟨gx, 1, none⟩ = some (.string d) := (blk_cell bX 1).trans rfl)
      | (refine StepStr.step_append_str (w0 := w) w.heap.size (by rfl) (.tmp 49) (.tmp 57) 56 9 5 (by rfl) Try.underlying56 Try.underlying9 info_u8 (.slice none 0 0) [] (p16 12 ++ p16 (d.size : Int)) (by rfl) (by rfl) (own_nil _ _ _ _) BW BW.size (by rw [sp]; decide) ?_; intro v1 w' ho BW hg5; have bX := blk_grown bX hg5 (by intro q; cases q); have bO := blk_grown bO hg5 (by intro q; cases q); have bR := blk_grown bR hg5 (by intro q; cases q); have z0 : w'.cell? ⟨gx, 0, none⟩ = some (.int .i64 12) := (blk_cell bX 0).trans rfl; have z1 : w'.cell? ⟨gx, 1, none⟩ = some (.string d) := (blk_cell bX 1).trans rfl)
      | (refine StepStr.step_append_str (w0 := w) w.heap.size (by rfl) (.tmp 58) (.tmp 60) 56 9 5 (by rfl) Try.underlying56 Try.underlying9 info_u8 v1 _ d (by rfl) (by rfl) ho BW BW.size (by rw [List.nil_append, bytesOf_length, sp]; omega) ?_; intro v2 w' ho2 BW hg6; have bO := blk_grown bO hg6 (Ne.symm (Lib.ownBlock_ne ho bO (by decide))); have bR := blk_grown bR hg6 (Ne.symm (Lib.ownBlock_ne ho bR (by decide))); have bX := blk_grown bX hg6 (Ne.symm (Lib.ownBlock_ne ho bX (by decide))); have z0 : w'.cell? ⟨gx, 0, none⟩ = some (.int .i64 12) := (blk_cell bX 0).trans rfl; have z1 : w'.cell? ⟨gx, 1, none⟩ = some (.string d) := (blk_cell bX 1).trans rfl))
  rw [hgo] at bO
  clear hgo
  obtain ⟨xs, hxs⟩ : ∃ xs, xs = [] ++ bytesOf (p16 12 ++ p16 (d.size : Int)) ++ bytesOf d := ⟨_, rfl⟩
  rw [← hxs] at ho2
  have hl : xs.length = 4 + d.size := by rw [hxs, List.nil_append, List.length_append, bytesOf_length, bytesOf_length, sp]
  have hstr : strOfNums xs = p16 12 ++ p16 (d.size : Int) ++ d := by rw [hxs, List.nil_append, ← Pu.bytesOf_append, Pu.nums_bytesOf]
  obtain ⟨A2, c2, rfl⟩ := Sl.own_slice ho2
  have kc := conv_own ho2
  rw [hstr] at kc
  have q2 : decide ((65535 : Int) < (xs.length : Int)) = false := by simp; omega
  have o0 : w'.cell? ⟨w.heap.size, 0, none⟩ = some (.int .i64 1232) := (blk_cell bO 0).trans rfl
  have o1 : w'.cell? ⟨w.heap.size, 1, none⟩ = some (.int .i64 0) := (blk_cell bO 1).trans rfl
  have o2 : w'.cell? ⟨w.heap.size, 2, none⟩ = some (.int .i64 0) := (blk_cell bO 2).trans rfl
  have o3 : w'.cell? ⟨w.heap.size, 3, none⟩ = some (.bool false) := (blk_cell bO 3).trans rfl
  have o4 : w'.cell? ⟨w.heap.size, 4, none⟩ = some (.int .i64 0) := (blk_cell bO 4).trans rfl
  have o5 : w'.cell? ⟨w.heap.size, 5, none⟩ = some (.slice (some ⟨g, 0, none⟩) 1 c) := (blk_cell bO 5).trans rfl
  have r0 : w'.cell? ⟨gr, 0, none⟩ = some (.string ⟨#[]⟩) := (blk_cell bR 0).trans rfl
  have f0 := blk_frozen bR 0
  have r1 : w'.cell? ⟨gr, 1, none⟩ = some (.int .i64 0) := (blk_cell bR 1).trans rfl
  have f1 := blk_frozen bR 1
  have r2 : w'.cell? ⟨gr, 2, none⟩ = some (.int .i64 0) := (blk_cell bR 2).trans rfl
  have f2 := blk_frozen bR 2
  have r3 : w'.cell? ⟨gr, 3, none⟩ = some (.int .i64 0) := (blk_cell bR 3).trans rfl
  have f3 := blk_frozen bR 3
  have r4 : w'.cell? ⟨gr, 4, none⟩ = some (.string ⟨#[]⟩) := (blk_cell bR 4).trans rfl
  have f4 := blk_frozen bR 4
  have kb : Go.bits .or .i64 0 0 = 0 := by decide
  clear hxs hl hstr bO bR bX ho ho2 sb sp z0 z1 q1 sW
  go_wp2_with fail
  rw [rounds_succ]
  go_wp2_with fail
  have hg := HGE.out.2.1
  exact bodyPost_ret (v := .tuple #[optV (p16 12 ++ p16 (d.size : Int) ++ d), .int .i64 0]) (by simp [results, Try.results101, go_sem, r0, r1, r2, r3, r4]) rfl ⟨rfl, ((((BW.setCell hg _).setCell hg _).setCell hg _).setCell hg _).setCell hg _⟩
end Go.Proofs.Ytjklgdpffmaamaa.OptH

namespace Go.Proofs.Ytjklgdpffmaamaa.Pad
open Go.RowKit Go.PlainAid Go.Proofs.Ytjklgdpffmaamaa.Base Go.Proofs.Ytjklgdpffmaamaa.Oct Go.Proofs.Ytjklgdpffmaamaa.Wm Go.Proofs.Ytjklgdpffmaamaa.OptH
open Go.Proofs.YtjklgdpffmaamaaW.PrintWords (blk_cell blk_below blk_put blk_frozen blk_ne blk_new blk_lt blk_grown blk_alloc own_nil add_field)
set_option linter.unusedVariables false
set_option linter.unusedSimpArgs false
def optR (d : ByteArray) : Rr := ⟨⟨#[0]⟩, 41, 1232, 0, d⟩
abbrev withM (m : MsgV) (d : ByteArray) (A : Option Addr) (c : Nat) : MsgV := ⟨m.h, m.Aq, m.cq, m.qs, m.Aa, m.ca, m.an, m.An, m.cn, m.ns, A, c, m.ar ++ [optR d]⟩
theorem cellsR_length (rs : List Rr) : (cellsR rs).length = rs.length * 5 := by
  induction rs with
  | nil => rfl
  | cons r rs ih => simp [cellsR, ih]; omega
theorem cellsR_at (rs : List Rr) : ∀ (j i : Nat), i < 5 → (cellsR rs)[j * 5 + i]? = (rs[j]?).bind fun r => (cellR r).toList[i]? := by
  induction rs with
  | nil => intro j i hi; simp [cellsR]
  | cons r rs ih =>
    intro j i hi
    cases j with
    | zero => rw [Nat.zero_mul, Nat.zero_add, cellsR, List.getElem?_append_left (by simpa using hi)]; rfl
    | succ j =>
      rw [cellsR, List.getElem?_append_right (by simp; omega)]
      have e : (j + 1) * 5 + i - (cellR r).toList.length = j * 5 + i := by simp; omega
      rw [e, ih j i hi]
      rfl
theorem row_news {w : World} {ad : Addr} {rs : List Rr} (h : RCells w (some ad) rs) : ∀ t u, (cellsR rs)[t]? = some u → w.cell? (ad.add t) = some u := by
  intro t u hu
  obtain ⟨j, i, rfl, hi⟩ : ∃ j i, t = j * 5 + i ∧ i < 5 := ⟨t / 5, t % 5, by omega, by omega⟩
  rw [cellsR_at rs j i hi] at hu
  rcases h with h0 | ⟨ad', e, h⟩
  · have : rs = [] := by simpa using h0
    subst this
    simp at hu
  · injection e with e
    subst e
    by_cases hj : j < rs.length
    · obtain ⟨c0, c1, c2, c3, c4⟩ := h j hj
      rw [List.getElem?_eq_getElem hj] at hu
      have eg : rs.getD j zR = rs[j] := by rw [List.getD_eq_getElem?_getD, List.getElem?_eq_getElem hj]; rfl
      rw [eg] at c0 c1 c2 c3 c4
      match i, hi with
      | 0, _ => rw [Nat.add_zero, c0]; exact hu
      | 1, _ => rw [add_field _ _ 1 (by omega), c1]; exact hu
      | 2, _ => rw [add_field _ _ 2 (by omega), c2]; exact hu
      | 3, _ => rw [add_field _ _ 3 (by omega), c3]; exact hu
      | 4, _ => rw [add_field _ _ 4 (by omega), c4]; exact hu
    · rw [List.getElem?_eq_none (by omega)] at hu
      cases hu
theorem cellsR_one (rs : List Rr) : ∀ u ∈ cellsR rs, u.oneCell' = true := by
  induction rs with
  | nil => intro u hu; cases hu
  | cons r rs ih =>
    intro u hu
    rw [cellsR, List.mem_append] at hu
    rcases hu with hu | hu
    · simp [cellR] at hu
      rcases hu with rfl | rfl | rfl | rfl | rfl <;> rfl
    · exact ih u hu
theorem own_rcells {w : World} {base : Nat} {A : Option Addr} {n c : Nat} {rs : List Rr} (h : w.ownsRow base 53 5 (.slice A n c) rs.length (cellsR rs)) : RCells w A rs := by
  rcases h.2 with ⟨_, h0⟩ | ⟨g, cap, cur, hv, _⟩
  · exact .inl h0
  · injection hv with hA _ _
    subst hA
    refine .inr ⟨_, rfl, fun j hj => ?_⟩
    have eg : rs.getD j zR = rs[j] := by rw [List.getD_eq_getElem?_getD, List.getElem?_eq_getElem hj]; rfl
    rw [eg]
    have hc : ∀ i u, i < 5 → (cellR rs[j]).toList[i]? = some u → w.cell? ((⟨g, 0, none⟩ : Addr).add (j * 5 + i)) = some u := fun i u hi hu =>
      h.cells (g := g) rfl (j * 5 + i) u (by rw [cellsR_at rs j i hi, List.getElem?_eq_getElem hj]; exact hu)
    exact ⟨hc 0 _ (by omega) rfl, by rw [← add_field _ _ 1 (by omega)]; exact hc 1 _ (by omega) rfl, by rw [← add_field _ _ 2 (by omega)]; exact hc 2 _ (by omega) rfl, by rw [← add_field _ _ 3 (by omega)]; exact hc 3 _ (by omega) rfl, by rw [← add_field _ _ 4 (by omega)]; exact hc 4 _ (by omega) rfl⟩
/-- append(nil, rs...). -/
theorem app_nil {w : World} {A : Option Addr} {c : Nat} {rs : List Rr} (h : RCells w A rs) (hl : rs.length ≤ 64) : ∃ v1 w1, (Builtin.append_ #[25, 25] 25 #[.slice none 0 0, .slice A rs.length c]).run Try.prog w = .ok v1 w1 ∧ w1.ownsRow w.heap.size 53 5 v1 rs.length (cellsR rs) ∧ w.grownBy w1 none := by
  obtain ⟨i0, hi, hz0, hz1, hz2⟩ := info_parts info_R
  cases A with
  | some ad =>
    obtain ⟨v1, w1, e, ho, hg, _⟩ := run_append_own (P := Try.prog) (w := w) w.heap.size 25 25 53 i0 _ 5 56 Try.underlying25 hi hz0 hz1 hz2 rfl (by decide) (.slice none 0 0) 0 [] (own_nil _ _ _ _) ad rs.length c (cellsR rs) (cellsR_length rs) (row_news h) (cellsR_one rs) (by simp only [maxLen]; omega) (by omega) (Nat.le_refl _)
    exact ⟨v1, w1, e, by simpa using ho, hg⟩
  | none =>
    have h0 : rs = [] := by
      rcases h with h0 | ⟨ad, e, _⟩
      · simpa using h0
      · cases e
    subst h0
    refine ⟨.slice none 0 0, w, ?_, own_nil _ _ _ _, ?_⟩
    · simp [Builtin.append_, run_underlying Try.underlying25, sizeOf, typeInfo, zeroValue, hi, hz0, Builtin.lenOf, Builtin.firstCells]
    · exact ⟨rfl, rfl, rfl, Nat.le_refl _, fun _ _ _ => rfl⟩
section
variable {P : Program} {ops : Array Oper} {o : Oper} {a : Act} {Q : Exit → Act → World → Prop} {K : Act → World → Prop}
/-- A builtin append as one step of a region, by its run. -/
theorem step_run {W w1 : World} (hw : Region.wanted o (yielded ops a.tmps) = true) (s x : Operand) (t : TypeId) (v u v1 : Value)
    (ho : o.op = .call { callee := .builtin .append, args := #[s, x], argTypes := #[t, t] }) (hs : a.eval s = v) (hx : a.eval x = u)
    (hr : (Builtin.append_ #[t, t] o.type #[v, u]).run P W = .ok v1 w1) (h : K (a.put o.dst v1) w1) :
    if Region.wanted o (yielded ops a.tmps) = true then Oper.wp P o a W K Q else K (a.put o.dst undef) W := by
  rw [if_pos hw]
  unfold Oper.wp execOp
  simp only [ho, resolve, invoke, builtin, Sem.run_bind, Sem.run_pure, Result.andThen_ok, List.map_toArray, List.map_cons, List.map_nil, hs, hx, hr]
  exact h
theorem putAll_below {b g : Nat} {w0 w : World} (i : Nat) (vs : List Value) (h : Below b w0 w) (hg : b ≤ g) : Below b w0 (putAll w g i vs) := by
  induction vs generalizing w i with
  | nil => exact h
  | cons u vs ih => exact ih (i + 1) (h.setCell (p := ⟨g, i, none⟩) hg u)
theorem own_ne {W : World} {base e size n : Nat} {v : Value} {xs : List Value} {b T : Nat} {cs : Array Value} {fr : Nat × Nat} (h : W.ownsRow base e size v n xs) (hb : W.heap[b]? = some (.cells cs T fr)) (hT : T ≠ e) : some b ≠ v.ownBlock := by
  intro hk
  obtain ⟨cs', hb'⟩ := Go.Proofs.YtjklgdpffmaamaaW.PrintWords.own_typed h b hk.symm
  rw [hb] at hb'
  injection hb' with hb'
  injection hb' with _ hT' _
  exact hT hT'
theorem step_app1 {w W : World} {A : Option Addr} {c : Nat} {rs : List Rr} (hw : Region.wanted o (yielded ops a.tmps) = true) (s x : Operand)
    (ho : o.op = .call { callee := .builtin .append, args := #[s, x], argTypes := #[25, 25] }) (ht : o.type = 25) (hs : a.eval s = .slice none 0 0) (hx : a.eval x = .slice A rs.length c)
    (hr : RCells w A rs) (hl : rs.length ≤ 64) (hB : Below w.heap.size w W)
    (h : ∀ v1 w1, w1.ownsRow w.heap.size 53 5 v1 rs.length (cellsR rs) → W.grownBy w1 none → Below w.heap.size w w1 → (∀ k, v1.ownBlock = some k → W.heap.size ≤ k) → K (a.put o.dst v1) w1) :
    if Region.wanted o (yielded ops a.tmps) = true then Oper.wp Try.prog o a W K Q else K (a.put o.dst undef) W := by
  obtain ⟨v1, w1, e, ho1, hg⟩ := app_nil (c := c) (hr.below hB) hl
  rw [← ht] at e
  exact step_run hw s x _ _ _ v1 ho hs hx (by rw [ht] at e ⊢; exact e) (h v1 w1 (own_lower ho1 hB.size) hg (hB.grown hg hB.size (fun k hk => by cases hk)) (Sl.own_base ho1))
theorem step_app2 {w W : World} {v1 : Value} {rs : List Rr} {r : Rr} {g c : Nat} (hw : Region.wanted o (yielded ops a.tmps) = true) (s x : Operand)
    (ho : o.op = .call { callee := .builtin .append, args := #[s, x], argTypes := #[25, 25] }) (ht : o.type = 25) (hs : a.eval s = v1) (hx : a.eval x = .slice (some ⟨g, 0, none⟩) 1 c)
    (hown : W.ownsRow w.heap.size 53 5 v1 rs.length (cellsR rs)) (hg : W.heap[g]? = some (.cells (cellR r) 53 (0, 0))) (hl : rs.length ≤ 64) (hB : Below w.heap.size w W)
    (h : ∀ v2 w2, w2.ownsRow w.heap.size 53 5 v2 (rs ++ [r]).length (cellsR (rs ++ [r])) → W.grownBy w2 v1.ownBlock → Below w.heap.size w w2 → K (a.put o.dst v2) w2) :
    if Region.wanted o (yielded ops a.tmps) = true then Oper.wp Try.prog o a W K Q else K (a.put o.dst undef) W := by
  obtain ⟨i0, hi, hz0, hz1, hz2⟩ := info_parts info_R
  obtain ⟨v2, w2, e, ho2, hg2, _⟩ := run_append_own (P := Try.prog) (w := W) w.heap.size 25 25 53 i0 _ 5 56 Try.underlying25 hi hz0 hz1 hz2 rfl (by decide) v1 rs.length (cellsR rs) hown ⟨g, 0, none⟩ 1 c (cellR r).toList rfl (World.news_of_block hg) (by intro u hu; simp [cellR] at hu; rcases hu with rfl | rfl | rfl | rfl | rfl <;> rfl) (by simp only [maxLen]; omega) (by omega) hB.size
  refine step_run hw s x _ _ _ v2 ho hs hx (by rw [ht]; exact e) (h v2 w2 ?_ hg2 (hB.grown hg2 hB.size (Sl.own_base hown)))
  rw [cellsR_app, List.length_append]
  simpa [cellsR] using ho2
end
theorem alloc3 (w : World) (X Y Z : Array Value) (tX tY tZ : Nat) : (((w.alloc (.cells X tX)).alloc (.cells Y tY)).alloc (.cells Z tZ)).heap[w.heap.size]? = some (.cells X tX (0, 0)) ∧ (((w.alloc (.cells X tX)).alloc (.cells Y tY)).alloc (.cells Z tZ)).heap[w.heap.size + 1]? = some (.cells Y tY (0, 0)) ∧ (((w.alloc (.cells X tX)).alloc (.cells Y tY)).alloc (.cells Z tZ)).heap[w.heap.size + 1 + 1]? = some (.cells Z tZ (0, 0)) ∧ Below w.heap.size w (((w.alloc (.cells X tX)).alloc (.cells Y tY)).alloc (.cells Z tZ)) ∧ (((w.alloc (.cells X tX)).alloc (.cells Y tY)).alloc (.cells Z tZ)).heap.size = w.heap.size + 1 + 1 + 1 := by
  refine ⟨blk_alloc (blk_alloc (blk_new w _) _) _, ?_, ?_, (((Below.refl _ _).alloc (Nat.le_refl _) _).alloc (by simp) _).alloc (by simp; omega) _, by simp⟩
  · have := blk_new (w.alloc (.cells X tX)) (.cells Y tY)
    rw [asz] at this
    exact blk_alloc this _
  · have := blk_new ((w.alloc (.cells X tX)).alloc (.cells Y tY)) (.cells Z tZ)
    rw [asz, asz] at this
    exact this
abbrev msg0 : Array Value := #[.int .i64 0, .bool false, .int .i64 0, .bool false, .bool false, .bool false, .bool false, .int .i64 0, .int .i64 0, .slice none 0 0, .slice none 0 0, .slice none 0 0, .slice none 0 0]
theorem own_cap {w : World} {b : Nat} {e : TypeId} {size n c : Nat} {A : Option Addr} {xs : List Value} (h : w.ownsRow b e size (.slice A n c) n xs) : n ≤ c := by
  rcases h.2 with ⟨e1, h0⟩ | ⟨g, cap, cur, hv, _, _, r, _⟩
  · omega
  · injection hv with _ _ hc; omega
theorem with_lies {m : MsgV} {d : ByteArray} {w w' : World} {A : Option Addr} {c : Nat} (hm : m.Lies w) (hb : Below w.heap.size w w') (ho : w'.ownsRow w.heap.size 53 5 (.slice A (m.ar ++ [optR d]).length c) (m.ar ++ [optR d]).length (cellsR (m.ar ++ [optR d]))) (hd : d.size ≤ 65100) : (withM m d A c).Lies w' := by
  have h := hm.below hb
  refine ⟨h.q, h.a, h.n, own_rcells ho, h.lq, h.la, h.ln, own_cap ho, h.sa, h.sn, fun r hr => ?_⟩
  rcases List.mem_append.1 hr with hr | hr
  · exact h.sr r hr
  · rw [List.mem_singleton.1 hr]
    show d.size ≤ _
    omega
set_option maxHeartbeats 4000000 in
set_option maxRecDepth 100000 in
theorem withc (m : MsgV) (room : Int) (d : ByteArray) (hroom : room = -1 ∧ d = ⟨#[]⟩ ∨ ∃ k : Nat, room = (k : Int) ∧ k ≤ 60000 ∧ d = p16 12 ++ p16 (k : Int) ++ zeros k) (w : World) (hm : m.Lies w) (ha : m.ar.length ≤ 63) :
    Calls Try.prog 78 #[.agg m.cells, .int .i64 room] w fun e w' => ∃ A c, e = .returned (.agg (withM m d A c).cells) ∧ (withM m d A c).Lies w' ∧ Below w.heap.size w w' := by
  have HR := Lib.hid hroom
  clear hroom
  go_enter Try.func78, Try.ntmps78
  go_upto_if 10 with (fail)
  obtain ⟨bM, bZ, bO, BW, sW⟩ := alloc3 w m.cells msg0 #[.int .i64 1232, .int .i64 0, .int .i64 0, .bool false, .int .i64 0, .slice none 0 0] 27 27 49
  have HM := Lib.hid hm
  clear hm
  generalize (((w.alloc (.cells m.cells 27)).alloc (.cells msg0 27)).alloc (.cells #[.int .i64 1232, .int .i64 0, .int .i64 0, .bool false, .int .i64 0, .slice none 0 0] 49)) = W at *
  obtain ⟨go, hgo⟩ : ∃ go, go = w.heap.size + 1 + 1 := ⟨_, rfl⟩
  obtain ⟨gz, hgz⟩ : ∃ gz, gz = w.heap.size + 1 := ⟨_, rfl⟩
  have hge : w.heap.size ≤ go ∧ w.heap.size ≤ gz ∧ w.heap.size ≠ gz ∧ w.heap.size ≠ go ∧ gz ≠ go := by omega
  rw [← hgo] at bO ⊢
  rw [← hgz] at bZ ⊢
  have HGE := Lib.hid hge
  have SW := Lib.hid sW
  clear hgo hgz hge sW
  go_cut [10] (fun v10 wc => ∃ vs : Value, wc.heap[go]? = some (.cells #[.int .i64 1232, .int .i64 0, .int .i64 0, .bool false, .int .i64 0, vs] 49 (0, 0)) ∧ wc.heap[w.heap.size]? = some (.cells m.cells 27 (0, 0)) ∧ wc.heap[gz]? = some (.cells msg0 27 (0, 0)) ∧ Below w.heap.size w wc ∧ (vs = .slice none 0 0 ∧ d = ⟨#[]⟩ ∨ ∃ g z, vs = .slice (some ⟨g, 0, none⟩) 1 1 ∧ wc.heap[g]? = some (.cells #[.int .i64 12, .string z] 55 (0, 0)) ∧ z.size ≤ 65000 ∧ d = p16 12 ++ p16 (z.size : Int) ++ z))
  case first =>
    rcases HR.out with ⟨rfl, rfl⟩ | ⟨k, rfl, hk, hd⟩
    · go_wp2
      go_meet
      case rel => exact ⟨_, bO, bM, bZ, BW, .inl ⟨rfl, by first | rfl | trivial⟩⟩
    · have q : decide ((0 : Int) ≤ (k : Int)) = true := by simp
      have km := make_zeros k (by omega) W
      have kz := conv_zeros k W
      have bO2 : ((W.alloc (.cells (madeCells #[.int .u8 0] k) 5)).alloc (.cells #[.int .i64 12, .string (zeros k)] 55)).heap[go]? = _ := blk_alloc (blk_alloc bO _) _
      have o5 : ((W.alloc (.cells (madeCells #[.int .u8 0] k) 5)).alloc (.cells #[.int .i64 12, .string (zeros k)] 55)).cell? ⟨go, 5, none⟩ = some (.slice none 0 0) := (blk_cell bO2 5).trans rfl
      have f5 := blk_frozen bO2 5
      have hlt := blk_lt bO
      go_wp2_with fail
      go_meet
      case rel =>
        obtain ⟨e1, e2, e3, e4, e5⟩ := HGE.out
        have a0 := blk_put bO 5 (.slice (some ⟨W.heap.size + 1, 0, none⟩) 1 1) rfl
        have a1 := blk_set_ne (p := ⟨go, 5, none⟩) bM e4 (.slice (some ⟨W.heap.size + 1, 0, none⟩) 1 1)
        have a2 := blk_set_ne (p := ⟨go, 5, none⟩) bZ e5 (.slice (some ⟨W.heap.size + 1, 0, none⟩) 1 1)
        have B1 := BW.setCell (p := ⟨go, 5, none⟩) e1 (.slice (some ⟨W.heap.size + 1, 0, none⟩) 1 1)
        have s1 : (W.setCell ⟨go, 5, none⟩ (.slice (some ⟨W.heap.size + 1, 0, none⟩) 1 1)).heap.size = W.heap.size := by simp [World.setCell]
        generalize W.setCell ⟨go, 5, none⟩ (.slice (some ⟨W.heap.size + 1, 0, none⟩) 1 1) = W1 at *
        rw [← s1] at a0
        refine ⟨.slice (some ⟨W1.heap.size + 1, 0, none⟩) 1 1, ?_, blk_alloc (blk_alloc a1 _) _, blk_alloc (blk_alloc a2 _) _, (B1.alloc B1.size _).alloc (by rw [asz]; have := B1.size; omega) _, .inr ⟨W1.heap.size + 1, zeros k, rfl, ?_, by rw [zeros_size]; omega, by rw [zeros_size]; exact hd⟩⟩
        · have := blk_alloc (blk_alloc a0 (.cells (madeCells #[.int .u8 0] k) 5)) (.cells #[.int .i64 12, .string (zeros k)] 55)
          simpa using this
        · have := blk_new (W1.alloc (.cells (madeCells #[.int .u8 0] k) 5)) (.cells #[.int .i64 12, .string (zeros k)] 55)
          rw [asz] at this
          exact this
  case rest =>
    clear bM bZ bO BW
    obtain ⟨vs, bO, bM, bZ, BW, hvs⟩ := hcut
    have kp : Calls Try.prog 101 #[.agg #[.int .i64 1232, .int .i64 0, .int .i64 0, .bool false, .int .i64 0, vs]] wc fun e w' => e = .returned (.tuple #[optV d, .int .i64 0]) ∧ Below wc.heap.size wc w' := by
      rcases hvs with ⟨rfl, rfl⟩ | ⟨g, z, rfl, hg, hz, rfl⟩
      · exact put0 wc
      · exact put1 z hz g 1 wc (Nat.le_refl _) hg
    have hd : d.size ≤ 65100 := by
      rcases hvs with ⟨_, rfl⟩ | ⟨g, z, _, _, hz, rfl⟩
      · decide
      · simp only [ByteArray.size_append, p16_size]; omega
    clear hvs
    have c0 : wc.cell? ⟨go, 0, none⟩ = some (.int .i64 1232) := (blk_cell bO 0).trans rfl
    have c1 : wc.cell? ⟨go, 1, none⟩ = some (.int .i64 0) := (blk_cell bO 1).trans rfl
    have c2 : wc.cell? ⟨go, 2, none⟩ = some (.int .i64 0) := (blk_cell bO 2).trans rfl
    have c3 : wc.cell? ⟨go, 3, none⟩ = some (.bool false) := (blk_cell bO 3).trans rfl
    have c4 : wc.cell? ⟨go, 4, none⟩ = some (.int .i64 0) := (blk_cell bO 4).trans rfl
    have c5 : wc.cell? ⟨go, 5, none⟩ = some vs := (blk_cell bO 5).trans rfl
    go_wp2_with fail
    refine kp.mono ?_
    rintro e w2 ⟨rfl, hb⟩
    clear c0 c1 c2 c3 c4 c5 kp
    have bM2 := blk_alloc (blk_below bM hb) (.cells #[.string ⟨#[0]⟩, .int .i64 41, .int .i64 1232, .int .i64 0, .string d] 53)
    have bZ2 := blk_alloc (blk_below bZ hb) (.cells #[.string ⟨#[0]⟩, .int .i64 41, .int .i64 1232, .int .i64 0, .string d] 53)
    have bR := blk_new w2 (.cells #[.string ⟨#[0]⟩, .int .i64 41, .int .i64 1232, .int .i64 0, .string d] 53)
    have B0 := BW.trans (hb.mono BW.size)
    have B2 := B0.alloc B0.size (.cells #[.string ⟨#[0]⟩, .int .i64 41, .int .i64 1232, .int .i64 0, .string d] 53)
    clear bM bZ bO hb BW
    go_upto_region 5 with (fail)
    generalize hw3 : w2.alloc (.cells #[.string ⟨#[0]⟩, .int .i64 41, .int .i64 1232, .int .i64 0, .string d] 53) = w3 at *
    obtain ⟨gr, hgr⟩ : ∃ gr, gr = w2.heap.size := ⟨_, rfl⟩
    rw [← hgr] at bR ⊢
    clear hw3 hgr B0
    have m12 : w3.drew.cell? ⟨w.heap.size, 12, none⟩ = some (.slice m.Ar m.ar.length m.cr) := (blk_cell bM2 12).trans rfl
    have r0 : w3.drew.cell? ⟨gr, 0, none⟩ = some (.string ⟨#[0]⟩) := (blk_cell bR 0).trans rfl
    have r1 : w3.drew.cell? ⟨gr, 1, none⟩ = some (.int .i64 41) := (blk_cell bR 1).trans rfl
    have r2 : w3.drew.cell? ⟨gr, 2, none⟩ = some (.int .i64 1232) := (blk_cell bR 2).trans rfl
    have r3 : w3.drew.cell? ⟨gr, 3, none⟩ = some (.int .i64 0) := (blk_cell bR 3).trans rfl
    have r4 : w3.drew.cell? ⟨gr, 4, none⟩ = some (.string d) := (blk_cell bR 4).trans rfl
    have q0 : w3.cell? ⟨gr, 0, none⟩ = some (.string ⟨#[0]⟩) := (blk_cell bR 0).trans rfl
    have q1 : w3.cell? ⟨gr, 1, none⟩ = some (.int .i64 41) := (blk_cell bR 1).trans rfl
    have q2 : w3.cell? ⟨gr, 2, none⟩ = some (.int .i64 1232) := (blk_cell bR 2).trans rfl
    have q3 : w3.cell? ⟨gr, 3, none⟩ = some (.int .i64 0) := (blk_cell bR 3).trans rfl
    have q4 : w3.cell? ⟨gr, 4, none⟩ = some (.string d) := (blk_cell bR 4).trans rfl
    have q12 : w3.cell? ⟨w.heap.size, 12, none⟩ = some (.slice m.Ar m.ar.length m.cr) := (blk_cell bM2 12).trans rfl
    have B3 : Below w.heap.size w w3.drew := B2.drew
    have bM3 : w3.drew.heap[w.heap.size]? = _ := bM2
    have bZ3 : w3.drew.heap[gz]? = _ := bZ2
    have m12' : (w3.alloc (.cells #[.string ⟨#[0]⟩, .int .i64 41, .int .i64 1232, .int .i64 0, .string d] 53)).cell? ⟨w.heap.size, 12, none⟩ = some (.slice m.Ar m.ar.length m.cr) := (blk_cell (blk_alloc bM2 _) 12).trans rfl
    have hne1 : ¬ gr = w.heap.size := by
      rintro e
      rw [e] at bR
      have h := bM2.symm.trans bR
      simp at h
    have hne2 : ¬ w.heap.size = gr := fun e => hne1 e.symm
    have hgr3 : gr < w3.heap.size := blk_lt bR
    have hne3 : ¬ gr = w3.heap.size := Nat.ne_of_lt hgr3
    have hne5 : ¬ w.heap.size = w3.heap.size := Nat.ne_of_lt (blk_lt bM2)
    have bN := blk_new w3.drew (.cells (cellR (optR d)) 53)
    go_region_law (first
        | (refine step_app1 (w := w) (A := m.Ar) (c := m.cr) (rs := m.ar) (by rfl) _ _ (by rfl) (by rfl) (by rfl) (by rfl) HM.out.r (by omega) (by first | exact B3 | exact B3.alloc B3.size _) ?_; intro v1 w4 ho1 hg1 B4 hob; have hob : ∀ k, v1.ownBlock = some k → w3.heap.size ≤ k := (by first | exact hob | exact fun k hk => Nat.le_trans (Nat.le_succ _) (by simpa using hob k hk)); have bM4 := blk_grown (by first | exact bM3 | exact blk_alloc bM3 _) hg1 (by intro q; cases q); have bZ4 := blk_grown (by first | exact bZ3 | exact blk_alloc bZ3 _) hg1 (by intro q; cases q); have bR4 := blk_grown (by first | exact bR | exact blk_alloc bR _) hg1 (by intro q; cases q); have hne4 : ¬ gr = w4.heap.size := Nat.ne_of_lt (blk_lt bR4); have hne6 : ¬ w.heap.size = w4.heap.size := Nat.ne_of_lt (blk_lt bM4); have m12 : w4.cell? ⟨w.heap.size, 12, none⟩ = some (.slice m.Ar m.ar.length m.cr) := (blk_cell bM4 12).trans rfl; have r0 : w4.cell? ⟨gr, 0, none⟩ = some (.string ⟨#[0]⟩) := (blk_cell bR4 0).trans rfl; have r1 : w4.cell? ⟨gr, 1, none⟩ = some (.int .i64 41) := (blk_cell bR4 1).trans rfl; have r2 : w4.cell? ⟨gr, 2, none⟩ = some (.int .i64 1232) := (blk_cell bR4 2).trans rfl; have r3 : w4.cell? ⟨gr, 3, none⟩ = some (.int .i64 0) := (blk_cell bR4 3).trans rfl; have r4 : w4.cell? ⟨gr, 4, none⟩ = some (.string d) := (blk_cell bR4 4).trans rfl)
        | (refine step_app2 (w := w) (v1 := v1) (rs := m.ar) (r := optR d) (c := 1) (by rfl) _ _ (by rfl) (by rfl) (by rfl) (by rfl) (by first | exact ho1 | exact ho1.alloc _) (by first | exact blk_new w4 _ | exact blk_grown bN hg1 (by intro q; cases q)) (by omega) (by first | exact B4 | exact B4.alloc B4.size _) ?_; intro v2 w5 ho2 hg2 B5; obtain ⟨A2, c2, rfl⟩ := Sl.own_slice ho2; have bM5 := blk_grown (by first | exact bM4 | exact blk_alloc bM4 _) hg2 (own_ne ho1 bM4 (by decide)); have bZ5 := blk_grown (by first | exact bZ4 | exact blk_alloc bZ4 _) hg2 (own_ne ho1 bZ4 (by decide)); have f12 := blk_frozen bM5 12; have bR5 := blk_grown (by first | exact bR4 | exact blk_alloc bR4 _) hg2 (fun q => absurd (hob gr q.symm) (Nat.not_le_of_lt hgr3)); have m12 : w5.cell? ⟨w.heap.size, 12, none⟩ = some (.slice m.Ar m.ar.length m.cr) := (blk_cell bM5 12).trans rfl; have r0 : w5.cell? ⟨gr, 0, none⟩ = some (.string ⟨#[0]⟩) := (blk_cell bR5 0).trans rfl; have r1 : w5.cell? ⟨gr, 1, none⟩ = some (.int .i64 41) := (blk_cell bR5 1).trans rfl; have r2 : w5.cell? ⟨gr, 2, none⟩ = some (.int .i64 1232) := (blk_cell bR5 2).trans rfl; have r3 : w5.cell? ⟨gr, 3, none⟩ = some (.int .i64 0) := (blk_cell bR5 3).trans rfl; have r4 : w5.cell? ⟨gr, 4, none⟩ = some (.string d) := (blk_cell bR5 4).trans rfl))
    all_goals
      clear m12 q12 m12' r0 r1 r2 r3 r4 q0 q1 q2 q3 q4
      obtain ⟨e1, e2, e3, e4, e5⟩ := HGE.out
      have bM6 := blk_put bM5 12 (.slice A2 (m.ar.length + 1) c2) rfl
      have bZ6 := blk_set_ne (p := ⟨w.heap.size, 12, none⟩) bZ5 (Ne.symm e3) (.slice A2 (m.ar.length + 1) c2)
      have B6 := B5.setCell (p := ⟨w.heap.size, 12, none⟩) (Nat.le_refl _) (.slice A2 (m.ar.length + 1) c2)
      have o6 := putAll_own 12 [.slice A2 (m.ar.length + 1) c2] ho2 (own_ne ho2 bM5 (by decide))
      simp only [putAll] at o6
      clear bM5 bZ5 B5 ho2 bM4 bZ4 B4 ho1 bM3 bZ3 B3 bM2 bZ2 B2 hg1 hg2 hob
      generalize w5.setCell ⟨w.heap.size, 12, none⟩ (.slice A2 (m.ar.length + 1) c2) = w6 at *
      have x0 : w6.cell? ⟨w.heap.size, 0, none⟩ = some (.int .i64 m.h.id) := (blk_cell bM6 0).trans rfl
      have x1 : w6.cell? ⟨w.heap.size, 1, none⟩ = some (.bool m.h.qr) := (blk_cell bM6 1).trans rfl
      have x2 : w6.cell? ⟨w.heap.size, 2, none⟩ = some (.int .i64 m.h.op) := (blk_cell bM6 2).trans rfl
      have x3 : w6.cell? ⟨w.heap.size, 3, none⟩ = some (.bool m.h.aa) := (blk_cell bM6 3).trans rfl
      have x4 : w6.cell? ⟨w.heap.size, 4, none⟩ = some (.bool m.h.tc) := (blk_cell bM6 4).trans rfl
      have x5 : w6.cell? ⟨w.heap.size, 5, none⟩ = some (.bool m.h.rd) := (blk_cell bM6 5).trans rfl
      have x6 : w6.cell? ⟨w.heap.size, 6, none⟩ = some (.bool m.h.ra) := (blk_cell bM6 6).trans rfl
      have x7 : w6.cell? ⟨w.heap.size, 7, none⟩ = some (.int .i64 m.h.z) := (blk_cell bM6 7).trans rfl
      have x8 : w6.cell? ⟨w.heap.size, 8, none⟩ = some (.int .i64 m.h.rc) := (blk_cell bM6 8).trans rfl
      have x9 : w6.cell? ⟨w.heap.size, 9, none⟩ = some (.slice m.Aq m.qs.length m.cq) := (blk_cell bM6 9).trans rfl
      have x10 : w6.cell? ⟨w.heap.size, 10, none⟩ = some (.slice m.Aa m.an.length m.ca) := (blk_cell bM6 10).trans rfl
      have x11 : w6.cell? ⟨w.heap.size, 11, none⟩ = some (.slice m.An m.ns.length m.cn) := (blk_cell bM6 11).trans rfl
      have x12 : w6.cell? ⟨w.heap.size, 12, none⟩ = some (.slice A2 (m.ar.length + 1) c2) := (blk_cell bM6 12).trans rfl
      have z0 : w6.cell? ⟨gz, 0, none⟩ = some (.int .i64 0) := (blk_cell bZ6 0).trans rfl
      have f0 := blk_frozen bZ6 0
      have z1 : w6.cell? ⟨gz, 1, none⟩ = some (.bool false) := (blk_cell bZ6 1).trans rfl
      have f1 := blk_frozen bZ6 1
      have z2 : w6.cell? ⟨gz, 2, none⟩ = some (.int .i64 0) := (blk_cell bZ6 2).trans rfl
      have f2 := blk_frozen bZ6 2
      have z3 : w6.cell? ⟨gz, 3, none⟩ = some (.bool false) := (blk_cell bZ6 3).trans rfl
      have f3 := blk_frozen bZ6 3
      have z4 : w6.cell? ⟨gz, 4, none⟩ = some (.bool false) := (blk_cell bZ6 4).trans rfl
      have f4 := blk_frozen bZ6 4
      have z5 : w6.cell? ⟨gz, 5, none⟩ = some (.bool false) := (blk_cell bZ6 5).trans rfl
      have f5 := blk_frozen bZ6 5
      have z6 : w6.cell? ⟨gz, 6, none⟩ = some (.bool false) := (blk_cell bZ6 6).trans rfl
      have f6 := blk_frozen bZ6 6
      have z7 : w6.cell? ⟨gz, 7, none⟩ = some (.int .i64 0) := (blk_cell bZ6 7).trans rfl
      have f7 := blk_frozen bZ6 7
      have z8 : w6.cell? ⟨gz, 8, none⟩ = some (.int .i64 0) := (blk_cell bZ6 8).trans rfl
      have f8 := blk_frozen bZ6 8
      have z9 : w6.cell? ⟨gz, 9, none⟩ = some (.slice none 0 0) := (blk_cell bZ6 9).trans rfl
      have f9 := blk_frozen bZ6 9
      have z10 : w6.cell? ⟨gz, 10, none⟩ = some (.slice none 0 0) := (blk_cell bZ6 10).trans rfl
      have f10 := blk_frozen bZ6 10
      have z11 : w6.cell? ⟨gz, 11, none⟩ = some (.slice none 0 0) := (blk_cell bZ6 11).trans rfl
      have f11 := blk_frozen bZ6 11
      have z12 : w6.cell? ⟨gz, 12, none⟩ = some (.slice none 0 0) := (blk_cell bZ6 12).trans rfl
      have f12 := blk_frozen bZ6 12
      have pF := putAll_blk 0 [.int .i64 m.h.id, .bool m.h.qr, .int .i64 m.h.op, .bool m.h.aa, .bool m.h.tc, .bool m.h.rd, .bool m.h.ra, .int .i64 m.h.z, .int .i64 m.h.rc, .slice m.Aq m.qs.length m.cq, .slice m.Aa m.an.length m.ca, .slice m.An m.ns.length m.cn, .slice A2 (m.ar.length + 1) c2] #[.int .i64 m.h.id, .bool m.h.qr, .int .i64 m.h.op, .bool m.h.aa, .bool m.h.tc, .bool m.h.rd, .bool m.h.ra, .int .i64 m.h.z, .int .i64 m.h.rc, .slice m.Aq m.qs.length m.cq, .slice m.Aa m.an.length m.ca, .slice m.An m.ns.length m.cn, .slice A2 (m.ar.length + 1) c2] bZ6 (by simp [setAll])
      have BF := putAll_below 0 [.int .i64 m.h.id, .bool m.h.qr, .int .i64 m.h.op, .bool m.h.aa, .bool m.h.tc, .bool m.h.rd, .bool m.h.ra, .int .i64 m.h.z, .int .i64 m.h.rc, .slice m.Aq m.qs.length m.cq, .slice m.Aa m.an.length m.ca, .slice m.An m.ns.length m.cn, .slice A2 (m.ar.length + 1) c2] B6 e2
      have oF := putAll_own 0 [.int .i64 m.h.id, .bool m.h.qr, .int .i64 m.h.op, .bool m.h.aa, .bool m.h.tc, .bool m.h.rd, .bool m.h.ra, .int .i64 m.h.z, .int .i64 m.h.rc, .slice m.Aq m.qs.length m.cq, .slice m.Aa m.an.length m.ca, .slice m.An m.ns.length m.cn, .slice A2 (m.ar.length + 1) c2] o6 (own_ne o6 bZ6 (by decide))
      clear bM6 bZ6 B6 o6
      go_wp2_with fail
      simp only [putAll] at pF BF oF
      have y0 := (blk_cell pF 0).trans rfl
      have y1 := (blk_cell pF 1).trans rfl
      have y2 := (blk_cell pF 2).trans rfl
      have y3 := (blk_cell pF 3).trans rfl
      have y4 := (blk_cell pF 4).trans rfl
      have y5 := (blk_cell pF 5).trans rfl
      have y6 := (blk_cell pF 6).trans rfl
      have y7 := (blk_cell pF 7).trans rfl
      have y8 := (blk_cell pF 8).trans rfl
      have y9 := (blk_cell pF 9).trans rfl
      have y10 := (blk_cell pF 10).trans rfl
      have y11 := (blk_cell pF 11).trans rfl
      have y12 := (blk_cell pF 12).trans rfl
      refine bodyPost_ret (v := .agg (withM m d A2 c2).cells) (by simp [results, Try.results78, go_sem, y0, y1, y2, y3, y4, y5, y6, y7, y8, y9, y10, y11, y12]) rfl ?_
      exact ⟨A2, c2, rfl, with_lies HM.out BF oF hd, BF⟩
end Go.Proofs.Ytjklgdpffmaamaa.Pad

namespace Go.Proofs.Ytjklgdpffmaamaa.Pad
open Go.RowKit Go.PlainAid Go.Proofs.Ytjklgdpffmaamaa.Base Go.Proofs.Ytjklgdpffmaamaa.Oct
set_option linter.unusedVariables false
set_option linter.unusedSimpArgs false
def roomI (s b : Int) : Int := if s < 0 ∨ b < 1 then 0 else (b - (s + 4) % b) % b
set_option maxHeartbeats 1000000 in
theorem roomc (s b : Int) (hs : s ≤ 9223372036854775807) (hb : b ≤ 9223372036854775807) (w : World) : Calls Try.prog 28 #[.int .i64 s, .int .i64 b] w fun e w' => e = .returned (.int .i64 (roomI s b)) ∧ w' = w := by
  by_cases h : s < 0
  · have q : decide (s < 0) = true := decide_eq_true h
    have HR := Lib.hid (show roomI s b = 0 from if_pos (.inl h))
    clear h
    go_enter Try.func28, Try.ntmps28
    go_wp2
    go_ret
    exact ⟨by rw [HR.out]; rfl, rfl⟩
  by_cases h1 : b < 1
  · have q : decide (s < 0) = false := decide_eq_false h
    have q1 : decide (b < 1) = true := decide_eq_true h1
    have HR := Lib.hid (show roomI s b = 0 from if_pos (.inr h1))
    clear h h1
    go_enter Try.func28, Try.ntmps28
    go_wp2
    go_ret
    exact ⟨by rw [HR.out]; rfl, rfl⟩
  have q : decide (s < 0) = false := decide_eq_false h
  have q1 : decide (b < 1) = false := decide_eq_false h1
  have HR := Lib.hid (show roomI s b = (b - (s + 4) % b) % b from if_neg (by omega))
  go_enter Try.func28, Try.ntmps28
  go_wp2
  go_ret
  refine ⟨?_, rfl⟩
  have m0 := Int.emod_nonneg (s + 4) (show b ≠ 0 by omega)
  have m1 := Int.emod_lt_of_pos (s + 4) (show 0 < b by omega)
  have e1 : IntKind.u64.wrap (b - (s + 4) % b) = b - (s + 4) % b := by
    show (b - (s + 4) % b) % 18446744073709551616 = _
    omega
  rw [HR.out]
  show Ending.returned (.int .i64 (wrap64 ((IntKind.u64.wrap (b - (s + 4) % b)).tmod b))) = _
  rw [e1, Int.tmod_eq_emod_of_nonneg (by omega)]
  have n0 := Int.emod_nonneg (b - (s + 4) % b) (show b ≠ 0 by omega)
  have n1 := Int.emod_lt_of_pos (b - (s + 4) % b) (show 0 < b by omega)
  rw [w64 (by omega) (by omega)]
theorem room_bd (s b : Int) (hb : 1 ≤ b) : 0 ≤ roomI s b ∧ roomI s b < b := by
  unfold roomI
  split
  · omega
  · exact ⟨Int.emod_nonneg _ (by omega), Int.emod_lt_of_pos _ (by omega)⟩
theorem room_fill (s b : Int) (hs : 0 ≤ s) (hb : 1 ≤ b) : (s + 4 + roomI s b) % b = 0 := by
  unfold roomI
  rw [if_neg (by omega)]
  have h : s + 4 + (b - (s + 4) % b) = b * ((s + 4) / b + 1) := by
    have := Int.mul_ediv_add_emod (s + 4) b
    rw [Int.mul_add, Int.mul_one]
    omega
  rw [Int.add_emod_emod, h, Int.mul_emod_right]
end Go.Proofs.Ytjklgdpffmaamaa.Pad

namespace Go.Proofs.Ytjklgdpffmaamaa.Pad
open Go.RowKit Go.PlainAid Go.Proofs.Ytjklgdpffmaamaa.Base Go.Proofs.Ytjklgdpffmaamaa.Oct Go.Proofs.Ytjklgdpffmaamaa.Wm Go.Proofs.Ytjklgdpffmaamaa.OptH
open Go.Proofs.YtjklgdpffmaamaaW.PrintWords (blk_cell blk_below blk_put blk_frozen blk_ne blk_new blk_lt blk_grown blk_alloc own_nil add_field)
set_option linter.unusedVariables false
set_option linter.unusedSimpArgs false
abbrev padR (m : MsgV) (d : ByteArray) : MsgV := withM m d none 0
def optD (k : Nat) : ByteArray := p16 12 ++ p16 (k : Int) ++ zeros k
def roomN (m : MsgV) (b : Int) : Nat := (roomI ((putS (padR m ⟨#[]⟩)).size : Int) b).toNat
def padS (m : MsgV) (b : Int) : ByteArray := if putE (padR m ⟨#[]⟩) = 0 then putS (padR m (optD (roomN m b))) else ⟨#[]⟩
def padE (m : MsgV) (b : Int) : Int := if putE (padR m ⟨#[]⟩) = 0 then putE (padR m (optD (roomN m b))) else putE (padR m ⟨#[]⟩)
theorem putS_size (m : MsgV) : (putS m).size ≤ 4096 := by
  by_cases H : putOk m = true ∧ (putEnd m).lg = false
  · obtain ⟨s1, s2, s3, s4⟩ := put_S H.1 H.2
    rw [s1]; exact s4
  · unfold putS
    by_cases h : putOk m = true
    · rw [if_pos h]
      have hl : (putEnd m).lg = true := by
        cases e : (putEnd m).lg with
        | true => rfl
        | false => exact absurd ⟨h, e⟩ H
      rw [if_pos hl]; decide
    · rw [if_neg h]; decide
set_option maxHeartbeats 4000000 in
set_option maxRecDepth 100000 in
theorem paddedc (m : MsgV) (b : Int) (hb1 : 1 ≤ b) (hb2 : b ≤ 1000) (w : World) (hm : m.Lies w) (ha : m.ar.length ≤ 63) :
    Calls Try.prog 47 #[.agg m.cells, .int .i64 b] w fun e w' => e = .returned (.tuple #[.string (padS m b), .int .i64 (padE m b)]) ∧ Below w.heap.size w w' := by
  have Bx : Below w.heap.size w (w.alloc (.cells m.cells 27)) := (Below.refl _ _).alloc (Nat.le_refl _) _
  have bM := blk_new w (.cells m.cells 27)
  have HM := Lib.hid hm
  clear hm
  go_enter Try.func47, Try.ntmps47
  go_upto_region 1 with (fail)
  generalize w.alloc (.cells m.cells 27) = w1 at *
  have x0 : w1.cell? ⟨w.heap.size, 0, none⟩ = some (.int .i64 m.h.id) := (blk_cell bM 0).trans rfl
  have x1 : w1.cell? ⟨w.heap.size, 1, none⟩ = some (.bool m.h.qr) := (blk_cell bM 1).trans rfl
  have x2 : w1.cell? ⟨w.heap.size, 2, none⟩ = some (.int .i64 m.h.op) := (blk_cell bM 2).trans rfl
  have x3 : w1.cell? ⟨w.heap.size, 3, none⟩ = some (.bool m.h.aa) := (blk_cell bM 3).trans rfl
  have x4 : w1.cell? ⟨w.heap.size, 4, none⟩ = some (.bool m.h.tc) := (blk_cell bM 4).trans rfl
  have x5 : w1.cell? ⟨w.heap.size, 5, none⟩ = some (.bool m.h.rd) := (blk_cell bM 5).trans rfl
  have x6 : w1.cell? ⟨w.heap.size, 6, none⟩ = some (.bool m.h.ra) := (blk_cell bM 6).trans rfl
  have x7 : w1.cell? ⟨w.heap.size, 7, none⟩ = some (.int .i64 m.h.z) := (blk_cell bM 7).trans rfl
  have x8 : w1.cell? ⟨w.heap.size, 8, none⟩ = some (.int .i64 m.h.rc) := (blk_cell bM 8).trans rfl
  have x9 : w1.cell? ⟨w.heap.size, 9, none⟩ = some (.slice m.Aq m.qs.length m.cq) := (blk_cell bM 9).trans rfl
  have x10 : w1.cell? ⟨w.heap.size, 10, none⟩ = some (.slice m.Aa m.an.length m.ca) := (blk_cell bM 10).trans rfl
  have x11 : w1.cell? ⟨w.heap.size, 11, none⟩ = some (.slice m.An m.ns.length m.cn) := (blk_cell bM 11).trans rfl
  have x12 : w1.cell? ⟨w.heap.size, 12, none⟩ = some (.slice m.Ar m.ar.length m.cr) := (blk_cell bM 12).trans rfl
  go_wp2_with fail
  refine (withc m (-1) ⟨#[]⟩ (.inl ⟨rfl, rfl⟩) w1 (HM.out.below Bx) ha).mono ?_
  rintro e w2 ⟨A1, c1, rfl, hm2, hb⟩
  replace Bx := Bx.trans (hb.mono Bx.size)
  replace bM := blk_below bM hb
  clear x0 x1 x2 x3 x4 x5 x6 x7 x8 x9 x10 x11 x12
  clear hb
  have kp := putc _ w2 hm2
  go_wp2_with fail
  refine kp.mono ?_
  rintro e w3 ⟨rfl, hb⟩
  replace Bx := Bx.trans (hb.mono Bx.size)
  replace bM := blk_below bM hb
  clear hb kp hm2
  have eS : putS (withM m ⟨#[]⟩ A1 c1) = putS (padR m ⟨#[]⟩) := rfl
  have eE : putE (withM m ⟨#[]⟩ A1 c1) = putE (padR m ⟨#[]⟩) := rfl
  rw [eS, eE]
  clear eS eE
  by_cases h0 : putE (padR m ⟨#[]⟩) = 0
  case neg =>
    have t0 : (putE (padR m ⟨#[]⟩) != 0) = true := by simpa using h0
    have e1 : padS m b = ⟨#[]⟩ := if_neg h0
    have e2 : padE m b = putE (padR m ⟨#[]⟩) := if_neg h0
    have HE := Lib.hid (And.intro e1 e2)
    clear h0 e1 e2
    generalize putE (padR m ⟨#[]⟩) = te at *
    generalize putS (padR m ⟨#[]⟩) = ts at *
    go_wp2_with fail
    go_ret2
    refine ⟨?_, Bx⟩
    rw [HE.out.1, HE.out.2]
    rfl
  have t0 : (putE (padR m ⟨#[]⟩) != 0) = false := by simpa using h0
  have e1 : padS m b = putS (padR m (optD (roomN m b))) := if_pos h0
  have e2 : padE m b = putE (padR m (optD (roomN m b))) := if_pos h0
  have rb := room_bd ((putS (padR m ⟨#[]⟩)).size : Int) b hb1
  have er : roomI ((putS (padR m ⟨#[]⟩)).size : Int) b = ((roomN m b : Nat) : Int) := by unfold roomN; omega
  have hz := putS_size (padR m ⟨#[]⟩)
  have kr := fun w => roomc ((putS (padR m ⟨#[]⟩)).size : Int) b (by omega) (by omega) w
  rw [er] at kr
  have hk : roomN m b ≤ 60000 := by omega
  have HE := Lib.hid (And.intro e1 e2)
  clear h0 e1 e2 er rb
  generalize roomN m b = k at *
  generalize putE (padR m ⟨#[]⟩) = te at *
  generalize putS (padR m ⟨#[]⟩) = ts at *
  have kw := fun w' (B : Below w.heap.size w w') => withc m (k : Int) (optD k) (.inr ⟨k, rfl, hk, rfl⟩) w' (HM.out.below B) ha
  have Bd : Below w.heap.size w w3.drew := Bx.drew
  have bd : w3.drew.heap[w.heap.size]? = _ := bM
  have x0 : w3.drew.cell? ⟨w.heap.size, 0, none⟩ = some (.int .i64 m.h.id) := (blk_cell bd 0).trans rfl
  have x1 : w3.drew.cell? ⟨w.heap.size, 1, none⟩ = some (.bool m.h.qr) := (blk_cell bd 1).trans rfl
  have x2 : w3.drew.cell? ⟨w.heap.size, 2, none⟩ = some (.int .i64 m.h.op) := (blk_cell bd 2).trans rfl
  have x3 : w3.drew.cell? ⟨w.heap.size, 3, none⟩ = some (.bool m.h.aa) := (blk_cell bd 3).trans rfl
  have x4 : w3.drew.cell? ⟨w.heap.size, 4, none⟩ = some (.bool m.h.tc) := (blk_cell bd 4).trans rfl
  have x5 : w3.drew.cell? ⟨w.heap.size, 5, none⟩ = some (.bool m.h.rd) := (blk_cell bd 5).trans rfl
  have x6 : w3.drew.cell? ⟨w.heap.size, 6, none⟩ = some (.bool m.h.ra) := (blk_cell bd 6).trans rfl
  have x7 : w3.drew.cell? ⟨w.heap.size, 7, none⟩ = some (.int .i64 m.h.z) := (blk_cell bd 7).trans rfl
  have x8 : w3.drew.cell? ⟨w.heap.size, 8, none⟩ = some (.int .i64 m.h.rc) := (blk_cell bd 8).trans rfl
  have x9 : w3.drew.cell? ⟨w.heap.size, 9, none⟩ = some (.slice m.Aq m.qs.length m.cq) := (blk_cell bd 9).trans rfl
  have x10 : w3.drew.cell? ⟨w.heap.size, 10, none⟩ = some (.slice m.Aa m.an.length m.ca) := (blk_cell bd 10).trans rfl
  have x11 : w3.drew.cell? ⟨w.heap.size, 11, none⟩ = some (.slice m.An m.ns.length m.cn) := (blk_cell bd 11).trans rfl
  have x12 : w3.drew.cell? ⟨w.heap.size, 12, none⟩ = some (.slice m.Ar m.ar.length m.cr) := (blk_cell bd 12).trans rfl
  go_upto_region 4 with (fail)
  go_region_held3 (fun w' => w'.cell? ⟨w.heap.size, 0, none⟩ = some (.int .i64 m.h.id) ∧ w'.cell? ⟨w.heap.size, 1, none⟩ = some (.bool m.h.qr) ∧ w'.cell? ⟨w.heap.size, 2, none⟩ = some (.int .i64 m.h.op) ∧ w'.cell? ⟨w.heap.size, 3, none⟩ = some (.bool m.h.aa) ∧ w'.cell? ⟨w.heap.size, 4, none⟩ = some (.bool m.h.tc) ∧ w'.cell? ⟨w.heap.size, 5, none⟩ = some (.bool m.h.rd) ∧ w'.cell? ⟨w.heap.size, 6, none⟩ = some (.bool m.h.ra) ∧ w'.cell? ⟨w.heap.size, 7, none⟩ = some (.int .i64 m.h.z) ∧ w'.cell? ⟨w.heap.size, 8, none⟩ = some (.int .i64 m.h.rc) ∧ w'.cell? ⟨w.heap.size, 9, none⟩ = some (.slice m.Aq m.qs.length m.cq) ∧ w'.cell? ⟨w.heap.size, 10, none⟩ = some (.slice m.Aa m.an.length m.ca) ∧ w'.cell? ⟨w.heap.size, 11, none⟩ = some (.slice m.An m.ns.length m.cn) ∧ w'.cell? ⟨w.heap.size, 12, none⟩ = some (.slice m.Ar m.ar.length m.cr))
    (first | go_keep | (go_split_ands; refine ⟨?_, ?_, ?_, ?_, ?_, ?_, ?_, ?_, ?_, ?_, ?_, ?_, ?_⟩ <;> assumption))
    (first
      | (go_at_call 28; refine (kr _).mono ?_; rintro e w' ⟨rfl, rfl⟩)
      | (go_at_call 78; refine (kw _ Bd).mono ?_; rintro e w4 ⟨A2, c2, rfl, hm4, hb4⟩; have Bd := Bd.trans (hb4.mono Bd.size); have bd := blk_below bd hb4; have x0 : w4.cell? ⟨w.heap.size, 0, none⟩ = some (.int .i64 m.h.id) := (blk_cell bd 0).trans rfl; have x1 : w4.cell? ⟨w.heap.size, 1, none⟩ = some (.bool m.h.qr) := (blk_cell bd 1).trans rfl; have x2 : w4.cell? ⟨w.heap.size, 2, none⟩ = some (.int .i64 m.h.op) := (blk_cell bd 2).trans rfl; have x3 : w4.cell? ⟨w.heap.size, 3, none⟩ = some (.bool m.h.aa) := (blk_cell bd 3).trans rfl; have x4 : w4.cell? ⟨w.heap.size, 4, none⟩ = some (.bool m.h.tc) := (blk_cell bd 4).trans rfl; have x5 : w4.cell? ⟨w.heap.size, 5, none⟩ = some (.bool m.h.rd) := (blk_cell bd 5).trans rfl; have x6 : w4.cell? ⟨w.heap.size, 6, none⟩ = some (.bool m.h.ra) := (blk_cell bd 6).trans rfl; have x7 : w4.cell? ⟨w.heap.size, 7, none⟩ = some (.int .i64 m.h.z) := (blk_cell bd 7).trans rfl; have x8 : w4.cell? ⟨w.heap.size, 8, none⟩ = some (.int .i64 m.h.rc) := (blk_cell bd 8).trans rfl; have x9 : w4.cell? ⟨w.heap.size, 9, none⟩ = some (.slice m.Aq m.qs.length m.cq) := (blk_cell bd 9).trans rfl; have x10 : w4.cell? ⟨w.heap.size, 10, none⟩ = some (.slice m.Aa m.an.length m.ca) := (blk_cell bd 10).trans rfl; have x11 : w4.cell? ⟨w.heap.size, 11, none⟩ = some (.slice m.An m.ns.length m.cn) := (blk_cell bd 11).trans rfl; have x12 : w4.cell? ⟨w.heap.size, 12, none⟩ = some (.slice m.Ar m.ar.length m.cr) := (blk_cell bd 12).trans rfl)
      | (go_at_call 34; refine (putc _ w4 hm4).mono ?_; rintro e w5 ⟨rfl, hb5⟩; have Bd := Bd.trans (hb5.mono Bd.size); have bd := blk_below bd hb5; have x0 : w5.cell? ⟨w.heap.size, 0, none⟩ = some (.int .i64 m.h.id) := (blk_cell bd 0).trans rfl; have x1 : w5.cell? ⟨w.heap.size, 1, none⟩ = some (.bool m.h.qr) := (blk_cell bd 1).trans rfl; have x2 : w5.cell? ⟨w.heap.size, 2, none⟩ = some (.int .i64 m.h.op) := (blk_cell bd 2).trans rfl; have x3 : w5.cell? ⟨w.heap.size, 3, none⟩ = some (.bool m.h.aa) := (blk_cell bd 3).trans rfl; have x4 : w5.cell? ⟨w.heap.size, 4, none⟩ = some (.bool m.h.tc) := (blk_cell bd 4).trans rfl; have x5 : w5.cell? ⟨w.heap.size, 5, none⟩ = some (.bool m.h.rd) := (blk_cell bd 5).trans rfl; have x6 : w5.cell? ⟨w.heap.size, 6, none⟩ = some (.bool m.h.ra) := (blk_cell bd 6).trans rfl; have x7 : w5.cell? ⟨w.heap.size, 7, none⟩ = some (.int .i64 m.h.z) := (blk_cell bd 7).trans rfl; have x8 : w5.cell? ⟨w.heap.size, 8, none⟩ = some (.int .i64 m.h.rc) := (blk_cell bd 8).trans rfl; have x9 : w5.cell? ⟨w.heap.size, 9, none⟩ = some (.slice m.Aq m.qs.length m.cq) := (blk_cell bd 9).trans rfl; have x10 : w5.cell? ⟨w.heap.size, 10, none⟩ = some (.slice m.Aa m.an.length m.ca) := (blk_cell bd 10).trans rfl; have x11 : w5.cell? ⟨w.heap.size, 11, none⟩ = some (.slice m.An m.ns.length m.cn) := (blk_cell bd 11).trans rfl; have x12 : w5.cell? ⟨w.heap.size, 12, none⟩ = some (.slice m.Ar m.ar.length m.cr) := (blk_cell bd 12).trans rfl))
  all_goals
    go_wp2_with fail
    go_ret2
    refine ⟨?_, Bd⟩
    rw [HE.out.1, HE.out.2]
    rfl
end Go.Proofs.Ytjklgdpffmaamaa.Pad

namespace Go.Proofs.Ytjklgdpffmaamaa.BRow
open Go.RowKit Go.PlainAid Go.Proofs.Ytjklgdpffmaamaa.Base
set_option linter.unusedVariables false
/-- Block g begins with the bytes l, none of them frozen. -/
def Is (w : World) (e g : Nat) (l : List UInt8) : Prop := ∃ cs lo hi, w.heap[g]? = some (.cells cs e (lo, hi)) ∧ l.length ≤ lo ∧ l.length ≤ cs.size ∧ ∀ j, j < l.length → cs[j]? = some (.int .u8 ((l.getD j 0).toNat : Int))
section
variable {w w' : World} {e g : Nat} {l : List UInt8}
theorem Is.lt (h : Is w e g l) : g < w.heap.size := by
  obtain ⟨cs, lo, hi, h, _⟩ := h
  exact (Array.getElem?_eq_some_iff.1 h).1
theorem Is.cell (h : Is w e g l) (j : Nat) (hj : j < l.length) : w.cell? ⟨g, j, none⟩ = some (.int .u8 ((l.getD j 0).toNat : Int)) := by
  obtain ⟨cs, lo, hi, hb, _, _, hc⟩ := h
  simp [World.cell?, hb, hc j hj]
theorem Is.free (h : Is w e g l) (j : Nat) (hj : j < l.length) : w.frozen? ⟨g, j, none⟩ = false := by
  obtain ⟨cs, lo, hi, hb, hlo, _, hc⟩ := h
  simp [World.frozen?, hb]
  omega
theorem Is.below (h : Is w e g l) (hb : Below w.heap.size w w') : Is w' e g l := by
  have hlt := h.lt
  obtain ⟨cs, lo, hi, hk, r⟩ := h
  exact ⟨cs, lo, hi, (hb.block g hlt).trans hk, r⟩
theorem Is.set (h : Is w e g l) (j : Nat) (hj : j < l.length) (v : UInt8) : Is (w.setCell ⟨g, j, none⟩ (.int .u8 (v.toNat : Int))) e g (l.set j v) := by
  obtain ⟨cs, lo, hi, hk, h1, h2, hc⟩ := h
  refine ⟨cs.setIfInBounds j (.int .u8 (v.toNat : Int)), lo, hi, ?_, by rw [List.length_set]; exact h1, by rw [List.length_set, Array.size_setIfInBounds]; exact h2, fun i hi' => ?_⟩
  · have hlt := (Array.getElem?_eq_some_iff.1 hk).1
    have hg : w.heap[g] = .cells cs e (lo, hi) := (Array.getElem?_eq_some_iff.1 hk).2
    unfold World.setCell
    rw [Array.getElem?_eq_getElem (by simpa using hlt)]
    rw [Array.getElem_modify_self, hg]
    rfl
  · rw [List.length_set] at hi'
    by_cases e' : j = i
    · subst e'
      rw [Array.getElem?_setIfInBounds_self_of_lt (by omega)]
      simp [List.getD_eq_getElem?_getD, hj]
    · rw [Array.getElem?_setIfInBounds_ne e', hc i hi']
      simp [List.getD_eq_getElem?_getD, List.getElem?_set_ne e']
theorem Is.back {P : Program} (h : Is w e g l) (src dst cap n : Nat) (hs : P.underlying src = some (.slice e)) (he : P.underlying e = some (.int .u8)) (hd : P.underlying dst = some .string) (hn : n = l.length) :
    (convert src dst (.slice (some ⟨g, 0, none⟩) n cap)).run P w = .ok (.string ⟨l.toArray⟩) w := by
  subst hn
  refine run_convert_bytes_back w src dst e ⟨g, 0, none⟩ cap l hs he hd fun j hj => ?_
  have := h.cell j hj
  have ea : (⟨g, 0, none⟩ : Addr).add j = ⟨g, j, none⟩ := by
    unfold Addr.add
    split
    · simp_all
    · simp
  rw [ea, this]
  simp [List.getD_eq_getElem?_getD, hj]
end
/-- '[]byte(s)': a new block, the elder ones as they were. -/
theorem made (w : World) (e : Nat) (s : ByteArray) : Below w.heap.size w (Lib.bytesWorld w e s) ∧ Is (Lib.bytesWorld w e s) e w.heap.size s.data.toList ∧ (Lib.bytesWorld w e s).heap.size = w.heap.size + 1 := by
  refine ⟨⟨rfl, rfl, rfl, by rw [Lib.bytesWorld_size]; omega, fun j hj => Lib.bytesWorld_at_old w e s j hj⟩, ⟨_, _, _, Lib.bytesWorld_at_new w e s, ?_, ?_, ?_⟩, Lib.bytesWorld_size w e s⟩
  · unfold Lib.bytesCells; simp
  · unfold Lib.bytesCells; simp
  · intro j hj
    have hj' : j < s.data.size := by simpa using hj
    unfold Lib.bytesCells
    rw [Array.getElem?_append_left (by simpa using hj')]
    simp [List.getD_eq_getElem?_getD, Array.getElem?_eq_getElem hj']
end Go.Proofs.Ytjklgdpffmaamaa.BRow

namespace Go.Proofs.Ytjklgdpffmaamaa.Bld
open Go.RowKit Go.Shelf Go.Proofs.Ytjklgdpffmaamaa.Base
set_option linter.unusedVariables false
set_option linter.unusedSimpArgs false
/-- A builder in block b holds the bytes l. -/
def Is (w : World) (B b : Nat) (l : List UInt8) : Prop := Lib.IsBuilder 137 5 B b (Lib.byteCells l) w
theorem info_Byte : ∃ i0, Try.prog.info? 5 = some i0 ∧ i0.zero = some (.int .u8 0) ∧ i0.size = 1 ∧ i0.bytes = 1 := info_parts (by kernel_rfl)
theorem sizeB : ∃ j, Try.prog.info? 137 = some j ∧ j.size = 2 := Option.map_eq_some_iff.1 (by kernel_rfl)
theorem liesB : liesAt Try.prog Try.prog.depth 137 (2 / Try.prog.cellsOf 137) 0 137 1 = true := by kernel_rfl
set_option maxHeartbeats 1000000 in
set_option maxRecDepth 100000 in
theorem check_used (b : Nat) (w : World) (h0 : w.cell? ⟨b, 0, none⟩ = some (.pointer (some ⟨b, 0, none⟩))) :
    Calls Try.prog 99 #[.pointer (some ⟨b, 0, none⟩)] w fun e w' => e = .returned (.tuple #[]) ∧ w' = w := by
  obtain ⟨j, hj, _⟩ := sizeB
  go_enter Try.func99, Try.ntmps99
  go_wp2
  rw [Lib.run_neq_ptr_same w _ Try.underlying135 hj]
  go_wp2
  go_end0
  exact ⟨rfl, rfl⟩
set_option maxHeartbeats 1000000 in
set_option maxRecDepth 100000 in
theorem check_fresh (b : Nat) (w : World) (h0 : w.cell? ⟨b, 0, none⟩ = some (.pointer none)) (hsh : w.shape? b = some (137, 2)) (hfz : w.frozen? ⟨b, 0, none⟩ = false) :
    Calls Try.prog 99 #[.pointer (some ⟨b, 0, none⟩)] w fun e w' => e = .returned (.tuple #[]) ∧ w' = w.setCell ⟨b, 0, none⟩ (.pointer (some ⟨b, 0, none⟩)) := by
  obtain ⟨j, hj, hjs⟩ := sizeB
  go_enter Try.func99, Try.ntmps99
  go_wp2
  rw [Lib.run_to_unsafe w ⟨b, 0, none⟩ Try.underlying135 Try.underlying172 hj (by rw [hjs]; decide) hsh (Nat.zero_lt_succ 1)]
  simp only [Result.andThen]
  rw [Oper.upon_value]
  go_wp2
  rw [run_callFunc_extern Try.func108 (by kernel_rfl) (by kernel_rfl) (by kernel_rfl) (e := Extern.AbiNoEscape.same) (by kernel_rfl)]
  rw [Lib.run_noEscape]
  simp only [Result.andThen]
  rw [Oper.upon_value]
  go_wp2
  rw [Lib.run_from_unsafe w ⟨b, 0, none⟩ Try.underlying172 Try.underlying135 hj hsh liesB]
  simp only [Result.andThen]
  rw [Oper.upon_value]
  go_wp2
  go_end0
  exact ⟨rfl, rfl⟩
theorem checkc (B b : Nat) (bs : List Value) (w : World) (h : Lib.IsBuilder 137 5 B b bs w) :
    Calls Try.prog 99 #[.pointer (some ⟨b, 0, none⟩)] w fun e w' => e = .returned (.tuple #[]) ∧ (Lib.BuilderAt 137 5 B b (.pointer (some ⟨b, 0, none⟩)) bs w' ∧ Below B w w') := by
  rcases h with h | h
  · refine (check_fresh b w h.cell0 h.shape h.frozen0).mono ?_
    rintro e w' ⟨rfl, rfl⟩
    exact ⟨rfl, h.used _, (Below.refl B w).setCell (p := ⟨b, 0, none⟩) h.1 _⟩
  · refine (check_used b w h.cell0).mono ?_
    rintro e w' ⟨rfl, rfl⟩
    exact ⟨rfl, h, Below.refl B _⟩
set_option maxHeartbeats 2000000 in
set_option maxRecDepth 100000 in
theorem bytec (B b : Nat) (l : List UInt8) (x : UInt8) (w : World) (h : Is w B b l) (hlen : l.length + 1 ≤ 140737488355328) (hBw : B ≤ w.heap.size) :
    Calls Try.prog 74 #[.pointer (some ⟨b, 0, none⟩), .int .u8 (x.toNat : Int)] w fun e w' => e = .returned .nilIface ∧ (Is w' B b (l ++ [x]) ∧ Below B w w') := by
  obtain ⟨i0, hi, hz0, hz1, hz2⟩ := info_Byte
  have hl : (Lib.byteCells l).length = l.length := Lib.byteCells_length l
  go_enter Try.func74, Try.ntmps74
  go_wp2_with (go_at_call 99; refine (checkc B b _ _ h).mono ?_)
  rintro e w1 ⟨rfl, h1, hb1⟩
  obtain ⟨hB, v, hbk, hown, hne⟩ := h1
  have c0 : w1.cell? ⟨b, 0, none⟩ = some (.pointer (some ⟨b, 0, none⟩)) := by rw [Lib.cell_of_heap hbk]; rfl
  have c1 : w1.cell? ⟨b, 1, none⟩ = some v := by rw [Lib.cell_of_heap hbk]; rfl
  go_wp2_with (at_builtin; refine wpList_append_own _ rfl _ _ 56 rfl B 5 i0 (.int .u8 0) 1 1 Try.underlying56 hi hz0 hz1 hz2 rfl (by decide) _ _ _ rfl (hown.alloc _) ⟨w1.heap.size, 0, none⟩ 1 1 [.int .u8 (x.toNat : Int)] rfl rfl ?c1 ?c2 ?c3 ?c4 ?c5 ?_)
  case c1 =>
    intro j u hj
    match j, hj with
    | 0, hj => simp at hj; subst hj; simp [Addr.add]
  case c2 => intro u hu; simp at hu; subst hu; rfl
  case c3 => unfold maxLen; omega
  case c4 => omega
  case c5 => have := hb1.size; simp; omega
  intro v' w2 hown' hgrow _
  have hlt : b < w1.heap.size := by
    rcases Nat.lt_or_ge b w1.heap.size with h' | h'
    · exact h'
    · simp [Array.getElem?_eq_none h'] at hbk
  have hb2 : w2.heap[b]? = some (.cells #[.pointer (some ⟨b, 0, none⟩), v] 137 (0, 0)) := by
    rw [hgrow.block b (by simp; omega) (fun e => hne e.symm), Lib.alloc_old w1 _ b hlt]
    exact hbk
  have d0 : w2.cell? ⟨b, 0, none⟩ = some (.pointer (some ⟨b, 0, none⟩)) := by rw [Lib.cell_of_heap hb2]; rfl
  have d1 : w2.cell? ⟨b, 1, none⟩ = some v := by rw [Lib.cell_of_heap hb2]; rfl
  have f1 : w2.frozen? ⟨b, 1, none⟩ = false := Lib.frozen_of_heap hb2 1
  obtain ⟨g, cap, rfl⟩ : ∃ g cap, v' = .slice (some ⟨g, 0, none⟩) (l.length + 1) cap := by
    rcases hown'.2 with ⟨_, h0⟩ | ⟨g, cap, cur, hv, _⟩
    · omega
    · exact ⟨g, cap, hv⟩
  go_wp2
  go_ret
  have eb : Lib.byteCells (l ++ [x]) = Lib.byteCells l ++ [.int .u8 (x.toNat : Int)] := by simp [Lib.byteCells]
  refine ⟨rfl, Or.inr ?_, ?_⟩
  · rw [eb]
    exact Lib.BuilderAt.put (T := 137) (e := 5) hB hb2 (bs' := Lib.byteCells l ++ [.int .u8 (x.toNat : Int)]) (by rw [List.length_append, hl]; exact hown') (by decide)
  · exact ((hb1.alloc (by have := hb1.size; omega) _).grown hgrow (by have := hb1.size; simp; omega) (fun k hk => (hown.lt k hk).1)).setCell (p := ⟨b, 1, none⟩) hB _
set_option maxHeartbeats 2000000 in
set_option maxRecDepth 100000 in
theorem stringc (B b : Nat) (l : List UInt8) (s : ByteArray) (w : World) (h : Is w B b l) (hlen : l.length + s.size ≤ 140737488355328) (hBw : B ≤ w.heap.size) :
    Calls Try.prog 75 #[.pointer (some ⟨b, 0, none⟩), .string s] w fun e w' => e = .returned (.tuple #[.int .i64 s.size, .nilIface]) ∧ (Is w' B b (l ++ s.data.toList) ∧ Below B w w') := by
  obtain ⟨i0, hi, hz0, hz1, hz2⟩ := info_Byte
  have hl : (Lib.byteCells l).length = l.length := Lib.byteCells_length l
  go_enter Try.func75, Try.ntmps75
  go_wp2_with (go_at_call 99; refine (checkc B b _ _ h).mono ?_)
  rintro e w1 ⟨rfl, h1, hb1⟩
  obtain ⟨hB, v, hbk, hown, hne⟩ := h1
  have c0 : w1.cell? ⟨b, 0, none⟩ = some (.pointer (some ⟨b, 0, none⟩)) := by rw [Lib.cell_of_heap hbk]; rfl
  have c1 : w1.cell? ⟨b, 1, none⟩ = some v := by rw [Lib.cell_of_heap hbk]; rfl
  go_wp2_with (at_builtin; refine Lib.wpList_append_own_string _ rfl _ _ 56 9 rfl B 5 i0 Try.underlying56 Try.underlying9 hi hz0 hz1 hz2 _ _ _ rfl hown s rfl ?c3 ?c4 ?c5 ?_)
  case c3 => unfold maxLen; omega
  case c4 => omega
  case c5 => have := hb1.size; omega
  intro v' w2 hown' hgrow _
  have hlt : b < w1.heap.size := by
    rcases Nat.lt_or_ge b w1.heap.size with h' | h'
    · exact h'
    · simp [Array.getElem?_eq_none h'] at hbk
  have hb2 : w2.heap[b]? = some (.cells #[.pointer (some ⟨b, 0, none⟩), v] 137 (0, 0)) := by
    rw [hgrow.block b hlt (fun e => hne e.symm)]
    exact hbk
  have d0 : w2.cell? ⟨b, 0, none⟩ = some (.pointer (some ⟨b, 0, none⟩)) := by rw [Lib.cell_of_heap hb2]; rfl
  have d1 : w2.cell? ⟨b, 1, none⟩ = some v := by rw [Lib.cell_of_heap hb2]; rfl
  have f1 : w2.frozen? ⟨b, 1, none⟩ = false := Lib.frozen_of_heap hb2 1
  obtain ⟨ao, n', cap, rfl⟩ : ∃ ao n' cap, v' = .slice ao n' cap := by
    rcases hown'.2 with ⟨hv, _⟩ | ⟨g, cap, cur, hv, _⟩
    · exact ⟨_, _, _, hv⟩
    · exact ⟨_, _, _, hv⟩
  go_wp2
  go_ret2
  have eb : Lib.byteCells (l ++ s.data.toList) = Lib.byteCells l ++ Lib.strCells s := by simp [Lib.byteCells, Lib.strCells]
  refine ⟨rfl, Or.inr ?_, ?_⟩
  · rw [eb]
    exact Lib.BuilderAt.put (T := 137) (e := 5) hB hb2 (bs' := Lib.byteCells l ++ Lib.strCells s) (by rw [List.length_append, hl, Lib.strCells_length]; exact hown') (by decide)
  · exact (hb1.grown hgrow (by have := hb1.size; omega) (fun k hk => (hown.lt k hk).1)).setCell (p := ⟨b, 1, none⟩) hB _
def lays_ren : Go.Shelf.Ren := ⟨fun | 169 => 77 | n => n, fun | 70 => 135 | 9 => 9 | 0 => 0 | 72 => 137 | 37 => 56 | 127 => 164 | 3 => 3 | 5 => 5 | n => n, fun | n => n⟩
theorem lays : Go.Proofs.Lays.n169 Try.prog lays_ren := {
  mixed := by kernel_rfl
  f169 := Try.func77.trans (congrArg some (by kernel_rfl))
  t0 := Try.underlying0
  a0 := Try.isAgg0
  z0 := Try.sizeOf0
  v0 := Try.zeroValue0
  t3 := Try.underlying3
  a3 := Try.isAgg3
  z3 := Try.sizeOf3
  v3 := Try.zeroValue3
  t9 := Try.underlying9
  a9 := Try.isAgg9
  z9 := Try.sizeOf9
  v9 := Try.zeroValue9
  t37 := Try.underlying56
  a37 := Try.isAgg56
  z37 := Try.sizeOf56
  v37 := Try.zeroValue56
  t70 := Try.underlying135
  a70 := Try.isAgg135
  z70 := Try.sizeOf135
  v70 := Try.zeroValue135
  t72 := Try.underlying137
  a72 := Try.isAgg137
  z72 := Try.sizeOf137
  v72 := Try.zeroValue137
  t127 := Try.underlying164
  a127 := Try.isAgg164
  z127 := Try.sizeOf164
  v127 := Try.zeroValue164 }
theorem extra : Builder.Extra Try.prog lays_ren := {
  sizeBuilder := by kernel_rfl
  liesBuilder := by kernel_rfl
  t5 := Try.underlying5
  a5 := Try.isAgg5
  z5 := Try.sizeOf5
  v5 := Try.zeroValue5
  infoByte := by kernel_rfl
  cellsByte := by kernel_rfl
  sizeByte := by kernel_rfl
  neB5 := by decide }
theorem strc (B b : Nat) (l : List UInt8) (w : World) (h : Is w B b l) (hBw : B ≤ w.heap.size) :
    Calls Try.prog 77 #[.pointer (some ⟨b, 0, none⟩)] w fun e w' => e = .returned (.string ⟨l.toArray⟩) ∧ Below B w w' := Any.Builder_String_any lays extra B b l w h hBw
theorem Is.below {w w' : World} {B b : Nat} {l : List UInt8} (h : Is w B b l) (hb : Below w.heap.size w w') : Is w' B b l := by
  have H : ∀ p, Lib.BuilderAt 137 5 B b p (Lib.byteCells l) w → Lib.BuilderAt 137 5 B b p (Lib.byteCells l) w' := by
    rintro p ⟨h1, v, h2, h3, h4⟩
    have hlt : b < w.heap.size := Lib.BuilderAt.lt ⟨h1, v, h2, h3, h4⟩
    exact ⟨h1, v, (hb.block b hlt).trans h2, Sl.own_below h3 hb, h4⟩
  exact h.imp (H _) (H _)
theorem fresh (w : World) : Is (w.alloc (.cells #[.pointer none, .slice none 0 0] 137)) w.heap.size w.heap.size [] := Lib.fresh_isBuilder _ _ w
end Go.Proofs.Ytjklgdpffmaamaa.Bld

namespace Go.Proofs.Ytjklgdpffmaamaa.Fo
open Go.RowKit Go.PlainAid Go.Proofs.Ytjklgdpffmaamaa.Base Go.Proofs.Ytjklgdpffmaamaa.Oct Go.Proofs.Ytjklgdpffmaamaa.Sl Go.Proofs.Ytjklgdpffmaamaa.Nm
set_option linter.unusedVariables false
set_option linter.unusedSimpArgs false
def lowB (x : UInt8) : UInt8 := if 65 ≤ x.toNat ∧ x.toNat ≤ 90 then UInt8.ofNat (x.toNat + 32) else x
def foldS (s : ByteArray) : ByteArray := ⟨(s.data.toList.map lowB).toArray⟩
theorem foldS_size (s : ByteArray) : (foldS s).size = s.size := by unfold foldS; show ((s.data.toList.map lowB).toArray).size = s.data.size; simp
theorem low_nat (x : UInt8) : (lowB x).toNat = if 65 ≤ x.toNat ∧ x.toNat ≤ 90 then x.toNat + 32 else x.toNat := by
  unfold lowB
  split
  · rw [UInt8.toNat_ofNat']; omega
  · rfl
theorem foldc (x : UInt8) (w : World) : Calls Try.prog 100 #[.int .u8 (x.toNat : Int)] w fun e w' => e = .returned (.int .u8 ((lowB x).toNat : Int)) ∧ w' = w := by
  have hx : x.toNat < 256 := x.toNat_lt
  by_cases h : 65 ≤ x.toNat ∧ x.toNat ≤ 90
  · have e1 : lowB x = UInt8.ofNat (x.toNat + 32) := if_pos h
    have q1 : decide ((65 : Int) ≤ x.toNat) = true := by simp; omega
    have q2 : decide ((x.toNat : Int) ≤ 90) = true := by simp; omega
    have hn : (lowB x).toNat = x.toNat + 32 := by rw [low_nat, if_pos h]
    have hw : IntKind.u8.wrap ((x.toNat : Int) + 32) = ((lowB x).toNat : Int) := by
      rw [hn]
      show (((x.toNat : Int) + 32) % 256) = _
      omega
    go_enter Try.func100, Try.ntmps100
    go_wp2
    go_ret
    first
    | exact ⟨by rw [hw], rfl⟩
    | exact ⟨by rw [← hw]; rfl, rfl⟩
  · have e1 : lowB x = x := if_neg h
    by_cases h1 : 65 ≤ x.toNat
    · have q1 : decide ((65 : Int) ≤ x.toNat) = true := by simp; omega
      have q2 : decide ((x.toNat : Int) ≤ 90) = false := by simp; omega
      go_enter Try.func100, Try.ntmps100
      go_wp2
      go_ret
      exact ⟨by rw [e1]; rfl, rfl⟩
    · have q1 : decide ((65 : Int) ≤ x.toNat) = false := by simp; omega
      go_enter Try.func100, Try.ntmps100
      go_wp2
      go_ret
      exact ⟨by rw [e1]; rfl, rfl⟩
/-- The first i bytes folded. -/
def part (l : List UInt8) (i : Nat) : List UInt8 := (l.take i).map lowB ++ l.drop i
theorem part_length (l : List UInt8) (i : Nat) : (part l i).length = l.length := by unfold part; simp; omega
theorem part_get (l : List UInt8) (i : Nat) (h : i < l.length) : (part l i).getD i 0 = l.getD i 0 := by
  unfold part
  rw [List.getD_eq_getElem?_getD, List.getElem?_append_right (by simp; omega)]
  simp [List.getD_eq_getElem?_getD, Nat.min_eq_left (Nat.le_of_lt h)]
theorem part_set (l : List UInt8) (i : Nat) (h : i < l.length) : (part l i).set i (lowB (l.getD i 0)) = part l (i + 1) := by
  unfold part
  rw [List.drop_eq_getElem_cons h, List.take_succ_eq_append_getElem h, List.map_append]
  rw [List.set_append_right _ _ (by simp; omega)]
  have e : i - (List.map lowB (List.take i l)).length = 0 := by simp; omega
  rw [e]
  rw [List.set_cons_zero]
  simp [List.getD_eq_getElem?_getD, h]
theorem part_all (l : List UInt8) : part l l.length = l.map lowB := by unfold part; simp
set_option maxHeartbeats 2000000 in
theorem foldedc (l : ByteArray) (hl : l.size ≤ 255) (w : World) : Calls Try.prog 76 #[.string l] w fun e w' => e = .returned (.string (foldS l)) ∧ Below w.heap.size w w' := by
  have kc := fun w => Lib.run_convert_string_bytes (P := Try.prog) w 9 56 5 l Try.underlying9 Try.underlying56 Try.underlying5
  have hz : l.data.toList.length = l.size := by show _ = l.data.size; simp
  go_enter Try.func76, Try.ntmps76
  go_upto_region 2 with (fail)
  obtain ⟨Bm, hI, hz1⟩ := BRow.made w 5 l
  generalize Lib.bytesWorld w 5 l = w1 at *
  generalize grownCap w l.size 0 5 = cap at *
  obtain ⟨g, hg⟩ : ∃ g, g = w.heap.size := ⟨_, rfl⟩
  rw [← hg] at hI hz1 Bm ⊢
  have HG := Lib.hid (Nat.le_of_eq hg.symm)
  rw [hg] at Bm
  clear kc hg
  go_wp2_with fail
  go_loopg [4, 9] (l.size + 1) (fun k v4 v9 wr => ∃ i : Nat, v9 = .int .i64 i ∧ i + k = l.size + 1 ∧ i ≤ l.size ∧ BRow.Is wr 5 g (part l.data.toList i) ∧ Below w.heap.size w wr)
  case atStart => exact ⟨0, rfl, by omega, by omega, by simpa [part] using hI, Bm⟩
  case round =>
    obtain ⟨i, rfl, hk1, hk2, HI, HB⟩ := hrel
    have HI' := Lib.hid HI
    have HB' := Lib.hid HB
    by_cases h : i < l.size
    · have q : decide ((i : Int) < l.size) = true := by simp; omega
      have hi : i < (part l.data.toList i).length := by rw [part_length]; omega
      have ci := HI.cell i hi
      have fi := HI.free i hi
      rw [part_get _ _ (by omega)] at ci
      have kf := fun w => foldc (l.data.toList.getD i 0) w
      have HS := HI.set i hi (lowB (l.data.toList.getD i 0))
      rw [part_set _ _ (by omega)] at HS
      have HS' := Lib.hid HS
      have hin : (0 : Int) ≤ (i : Int) ∧ (i : Int) < (l.size : Int) := by omega
      clear HI HB HS
      generalize l.data.toList.getD i 0 = x at *
      go_wp2_with (go_at_call 100; refine (kf _).mono ?_; rintro e w2 ⟨rfl, rfl⟩)
      go_roundg (l.size - i)
      case measure => omega
      case rel => exact ⟨i + 1, rfl, by omega, by omega, HS'.out, HB'.out.setCell HG.out _⟩
    · have q : decide ((i : Int) < l.size) = false := by simp; omega
      have ei : i = l.data.toList.length := by omega
      rw [ei, part_all] at HI
      have kb := BRow.Is.back (P := Try.prog) HI 56 9 cap l.size Try.underlying56 Try.underlying5 Try.underlying9 (by rw [List.length_map]; exact hz.symm)
      clear HI ei
      go_wp2_with fail
      go_ret
      exact ⟨rfl, HB'.out⟩
/-- Where the labels of a name begin, and its end. -/
structure Pl (s : ByteArray) (ps : List Nat) : Prop where
  first : ps.getD 0 0 = 0
  pos : 0 < ps.length
  len : ps.length ≤ 255
  next : ∀ j, j + 1 < ps.length → ps.getD (j + 1) 0 = ps.getD j 0 + 1 + (bt s (ps.getD j 0)).toNat ∧ bt s (ps.getD j 0) ≤ 63 ∧ ps.getD (j + 1) 0 < s.size
  last : ps.getD (ps.length - 1) 0 + 1 = s.size ∧ bt s (ps.getD (ps.length - 1) 0) = 0
theorem pl_at (s : ByteArray) : ∀ d i, s.size - i ≤ d → nameAt s i = true → (placesAt s i).getD 0 0 = i ∧ 0 < (placesAt s i).length ∧ (placesAt s i).length + i ≤ s.size ∧
    (∀ j, j + 1 < (placesAt s i).length → (placesAt s i).getD (j + 1) 0 = (placesAt s i).getD j 0 + 1 + (bt s ((placesAt s i).getD j 0)).toNat ∧ bt s ((placesAt s i).getD j 0) ≤ 63 ∧ (placesAt s i).getD (j + 1) 0 < s.size) ∧
    ((placesAt s i).getD ((placesAt s i).length - 1) 0 + 1 = s.size ∧ bt s ((placesAt s i).getD ((placesAt s i).length - 1) 0) = 0) := by
  intro d
  induction d with
  | zero => intro i hd h; rw [nameAt_out (by omega)] at h; cases h
  | succ d ih =>
    intro i hd h
    by_cases hi : i < s.size
    · by_cases h0 : bt s i = 0
      · rw [nameAt_end hi h0] at h
        have := of_decide_eq_true h
        rw [placesAt_end hi h0]
        exact ⟨rfl, by simp, by simp; omega, fun j hj => by simp at hj, by simpa using this, by simpa using h0⟩
      · by_cases h1 : bt s i ≤ 63
        · rw [nameAt_next hi h0 h1] at h
          obtain ⟨a, b, c, e, f1, f2⟩ := ih _ (by omega) h
          rw [placesAt_next hi h0 h1]
          generalize placesAt s (i + 1 + (bt s i).toNat) = r at *
          have hlt : i + 1 + (bt s i).toNat < s.size := by omega
          refine ⟨rfl, by simp, by simp; omega, fun j hj => ?_, ?_, ?_⟩
          · cases j with
            | zero => exact ⟨by simpa using a, by simpa using h1, by show r.getD 0 0 < s.size; rw [a]; exact hlt⟩
            | succ j => simpa using e j (by simpa using hj)
          · obtain ⟨n, hn⟩ : ∃ n, r.length = n + 1 := ⟨r.length - 1, by omega⟩
            rw [List.length_cons, hn]
            rw [hn] at f1
            simpa using f1
          · obtain ⟨n, hn⟩ : ∃ n, r.length = n + 1 := ⟨r.length - 1, by omega⟩
            rw [List.length_cons, hn]
            rw [hn] at f2
            simpa using f2
        · rw [nameAt_bad hi (by omega)] at h; cases h
    · rw [nameAt_out (by omega)] at h; cases h
theorem pl {s : ByteArray} (h : nameB s = true) : Pl s (places s) := by
  unfold nameB at h
  rw [Bool.and_eq_true, decide_eq_true_iff] at h
  obtain ⟨a, b, c, e, f⟩ := pl_at s s.size 0 (by omega) h.2
  exact ⟨a, b, by unfold places; omega, e, f⟩
theorem own_lower {w : World} {b b' : Nat} {e : TypeId} {size n : Nat} {v : Value} {xs : List Value} (h : w.ownsRow b e size v n xs) (hb : b' ≤ b) : w.ownsRow b' e size v n xs := by
  refine ⟨h.1, ?_⟩
  rcases h.2 with ⟨h1, h2⟩ | ⟨g, cap, cur, h1, h2, r⟩
  · exact .inl ⟨h1, h2⟩
  · exact .inr ⟨g, cap, cur, h1, Nat.le_trans hb h2, r⟩
/-- A name's labels. -/
def labs (s : ByteArray) (ps : List Nat) (n : Nat) : List ByteArray := (List.range n).map fun j => s.extract (ps.getD j 0 + 1) (ps.getD (j + 1) 0)
theorem labs_snoc (s : ByteArray) (ps : List Nat) (n : Nat) : labs s ps (n + 1) = labs s ps n ++ [s.extract (ps.getD n 0 + 1) (ps.getD (n + 1) 0)] := by
  unfold labs; rw [List.range_succ, List.map_append]; rfl
def scells (xs : List ByteArray) : List Value := xs.map fun (k : ByteArray) => .string k
theorem info_str : (Try.prog.info? 9).map (fun i => (i.zero, i.size, i.bytes)) = some (some (.string ⟨#[]⟩), 1, 16) := by kernel_rfl
def LabelsPost (s : ByteArray) (w : World) (e : Ending) (w' : World) : Prop :=
  Below w.heap.size w w' ∧ (nameB s = false → ∃ v, e = .returned (.tuple #[v, .bool false])) ∧
  (nameB s = true → ∃ v, e = .returned (.tuple #[v, .bool true]) ∧ w'.ownsRow w.heap.size 9 1 v ((places s).length - 1) (scells (labs s (places s) ((places s).length - 1))))
set_option maxHeartbeats 2000000 in
set_option maxRecDepth 100000 in
theorem labelsc (s : ByteArray) (w : World) : Calls Try.prog 73 #[.string s] w (LabelsPost s w) := by
  have kp := places_any s w
  by_cases hn : nameB s = true
  case neg =>
    have hf : nameB s = false := by simpa using hn
    go_enter Try.func73, Try.ntmps73
    go_wp2_with fail
    refine kp.mono ?_
    rintro e w1 ⟨v, rfl, hb, _⟩
    rw [hf]
    clear kp
    go_wp2_with fail
    go_ret2
    exact ⟨hb, fun _ => ⟨_, rfl⟩, fun h => by rw [hf] at h; cases h⟩
  have HP := Lib.hid (pl hn)
  have HN := Lib.hid hn
  go_enter Try.func73, Try.ntmps73
  go_wp2_with fail
  refine kp.mono ?_
  rintro e w1 ⟨v, rfl, hb, ho⟩
  rw [hn]
  have own := ho hn
  clear kp ho hn
  go_wp2_with fail
  obtain ⟨hlp, hll⟩ : 0 < (places s).length ∧ (places s).length ≤ 255 := ⟨HP.out.pos, HP.out.len⟩
  obtain ⟨pg, pc, hv, hpb⟩ : ∃ g c, v = .slice (some ⟨g, 0, none⟩) (places s).length c ∧ w.heap.size ≤ g := by
    rcases own.2 with ⟨_, h0⟩ | ⟨g, cap, cur, hv, hg, _⟩
    · omega
    · exact ⟨g, cap, hv, hg⟩
  subst hv
  have hcell : ∀ j, j < (places s).length → w1.cell? ⟨pg, j, none⟩ = some (.int .i64 ((places s).getD j 0 : Nat)) := fun j hj => by
    have := own.cells (g := pg) rfl j (.int .i64 ((places s).getD j 0 : Nat)) (by simp [pcells, List.getElem?_eq_getElem hj, List.getD_eq_getElem?_getD])
    rwa [show (⟨pg, 0, none⟩ : Addr).add j = ⟨pg, j, none⟩ by unfold Addr.add; split <;> simp_all] at this
  have hpl : (places s).length ≤ pc := by
    rcases own.2 with ⟨h0, _⟩ | ⟨g, cap, cur, hv, _, _, hc, _⟩
    · cases h0
    · injection hv with _ _ hc'; omega
  have hlt := own.lt pg rfl
  have HC := Lib.hid hcell
  clear hcell own
  go_loopg [6, 7] ((places s).length + 1) (fun k v6 v7 wr => ∃ i : Nat, v7 = .int .i64 ((i + 1 : Nat) : Int) ∧ i + k = (places s).length + 1 ∧ i < (places s).length ∧ wr.ownsRow w1.heap.size 9 1 v6 i (scells (labs s (places s) i)) ∧ Below w1.heap.size w1 wr)
  case atStart => exact ⟨0, rfl, by omega, by omega, World.ownsRow_nil _ _ _ _, Below.refl _ _⟩
  case round =>
    obtain ⟨i, rfl, hk, hil, HO, HB⟩ := hrel
    have HB' := Lib.hid HB
    by_cases h : i + 1 < (places s).length
    · obtain ⟨i1, hi1⟩ : ∃ i1 : Nat, i1 = i + 1 := ⟨_, rfl⟩
      have q : decide ((i1 : Int) < (places s).length) = true := by simp; omega
      have c0 : wr.cell? ⟨pg, i, none⟩ = _ := (HB.cell hlt.2).trans (HC.out i hil)
      have c1 : wr.cell? ⟨pg, i1, none⟩ = _ := (HB.cell hlt.2).trans (HC.out i1 (by omega))
      obtain ⟨n1, n2, n3⟩ := HP.out.next i h
      have hsn := labs_snoc s (places s) i
      rw [← hi1] at hsn n1 n3 ⊢
      generalize (places s).getD i 0 = x at *
      generalize (places s).getD i1 0 = y at *
      have nb := bt_nonneg s x
      have m1 : (0 : Int) ≤ (i : Int) := by omega
      have m2 : (i : Int) < ((places s).length : Int) := by omega
      have m3 : (0 : Int) ≤ (i1 : Int) := by omega
      have m4 : (i1 : Int) < ((places s).length : Int) := by omega
      have m5 : (0 : Int) ≤ (x : Int) + 1 := by omega
      have m6 : (x : Int) + 1 ≤ (y : Int) := by omega
      have m7 : (y : Int) ≤ (s.size : Int) := by omega
      have m8 : x + 1 ≤ y := by omega
      have m9 : y ≤ s.size := by omega
      have ag : u6.ownBlock ≠ some pg := fun e => by have := (HO.lt pg e).1; omega
      have hsz := HB.size
      have HSN := Lib.hid hsn
      have HI1 := Lib.hid hi1
      obtain ⟨i0, hi0, hz0, hz1, hz2⟩ := info_parts info_str
      have b1 : i ≤ 255 := by omega
      have b2 : y ≤ s.size := by omega
      have k63 : i + 1 ≤ maxLen := by unfold maxLen; omega
      have kby : (i + 1) * 16 ≤ 140737488355328 := by omega
      have kb1 : w1.heap.size ≤ wr.heap.size + 1 := by omega
      have kpg : pg < wr.heap.size + 1 := by omega
      have e1 : IntKind.i64.wrap ((i1 : Int) - 1) = (i : Int) := by rw [IntWalk.i64_in _ (by omega)]; omega
      have hs255 : s.size ≤ 255 := by have := HN.out; unfold nameB at this; rw [Bool.and_eq_true, decide_eq_true_iff] at this; exact this.1
      have e2 : IntKind.i64.wrap ((x : Int) + 1) = (x : Int) + 1 := IntWalk.i64_in _ (by omega)
      clear hs255 hsn HB n1 n2 n3 nb hi1 hlp hll hpb hpl hlt b1 b2 m8 m9
      go_wp2_with fail
      go_region_held3 (fun w' => w'.cell? ⟨pg, i, none⟩ = some (.int .i64 (x : Int)) ∧ w'.cell? ⟨pg, i1, none⟩ = some (.int .i64 (y : Int)))
        (first
          | go_keep
          | (go_split_ands
             refine ⟨?_, ?_⟩
             · (rw [hgrow.cell_far _ (by simp; exact kpg) (Ne.symm ag)]; assumption)
             · (rw [hgrow.cell_far _ (by simp; exact kpg) (Ne.symm ag)]; assumption)))
        ((refine step_append_lies _ (by rfl) _ _ _ (by rfl) w1.heap.size 9 i0 _ 1 16 Try.underlying132 hi0 hz0 hz1 hz2 rfl (Nat.lt_succ_self 0) u6 i _ (by rfl) ((HO.alloc _).drew)
            ⟨wr.heap.size, 0, none⟩ 1 1 [.string (s.extract (x + 1) y)] (by rfl) (by rfl) (World.news_of_block (cs := #[.string (s.extract (x + 1) y)]) (t := 9) (fr := (0, 0)) (heap_alloc_new wr _)) (by simp [Value.oneCell'])
            (Nat.lt_succ_self 0) k63 kby (by simp; exact kb1) (wr.heap.size + 1) (by simp) ?_; intro gg cap w2 hown1 hgrow hat hlt2))
      go_wp2_with fail
      go_roundg ((places s).length - i)
      case measure => omega
      case rel =>
        refine ⟨i + 1, congrArg (Value.int .i64) (by have := HI1.out; rw [w64 (by omega) (by omega)]; omega), by omega, by have := HI1.out; omega, ?_, ?_⟩
        · have hq := HSN.out
          rw [HI1.out] at hq
          rw [hq]
          simpa [scells] using hown1
        · exact (((HB'.out.drew).alloc hsz _).grown hgrow (by simp; omega) (fun k hk => (HO.lt k hk).1))
    · have q : decide (((i + 1 : Nat) : Int) < (places s).length) = false := by simp; omega
      go_wp2_with fail
      go_ret2
      refine ⟨hb.trans (HB'.out.mono hb.size), ?_, ?_⟩
      · intro hf
        rw [HN.out] at hf
        cases hf
      · intro _
        refine ⟨_, rfl, ?_⟩
        obtain rfl : i = (places s).length - 1 := by omega
        exact own_lower HO hb.size
theorem pre_step (s : ByteArray) (p q : Nat) (h1 : p + 1 ≤ q) (hq : q ≤ s.size) (x : UInt8) (hx : s.data.toList.getD p 0 = x) (hl : x.toNat ≤ 63) :
    (s.data.toList.take q).map lowB = ((s.data.toList.take p).map lowB ++ [x]) ++ (foldS (s.extract (p + 1) q)).data.toList := by
  have hsz : s.data.toList.length = s.size := by show _ = s.data.size; simp
  have hp : p < s.data.toList.length := by omega
  have ex : lowB x = x := if_neg (by omega)
  have e1 : (foldS (s.extract (p + 1) q)).data.toList = ((s.data.toList.drop (p + 1)).take (q - (p + 1))).map lowB := by
    unfold foldS
    simp [ByteArray.data_extract, List.take_drop]
  rw [e1]
  have e2 : s.data.toList.take q = s.data.toList.take p ++ [x] ++ (s.data.toList.drop (p + 1)).take (q - (p + 1)) := by
    have hx' : s.data.toList[p] = x := by rw [← hx, List.getD_eq_getElem?_getD, List.getElem?_eq_getElem hp]; rfl
    rw [← hx', List.append_assoc, List.singleton_append]
    conv => lhs; rw [show q = p + (1 + (q - (p + 1))) by omega]
    rw [List.take_add, List.drop_eq_getElem_cons hp, Nat.add_comm 1, List.take_succ_cons]
  rw [e2]
  simp [ex]
/-- rel.Fold: a name with small letters; the empty string for what is no name. -/
def foldN (s : ByteArray) : ByteArray := if nameB s = true then foldS s else ⟨#[]⟩
set_option maxHeartbeats 2000000 in
set_option maxRecDepth 100000 in
theorem foldNc (s : ByteArray) (w : World) : Calls Try.prog 46 #[.string s] w fun e w' => e = .returned (.string (foldN s)) ∧ Below w.heap.size w w' := by
  have kl := labelsc s w
  by_cases hn : nameB s = true
  case neg =>
    have hf : nameB s = false := by simpa using hn
    go_enter Try.func46, Try.ntmps46
    go_wp2_with fail
    refine kl.mono ?_
    rintro e w1 ⟨hb, h1, _⟩
    obtain ⟨v, rfl⟩ := h1 hf
    clear kl
    go_wp2_with fail
    go_ret
    exact ⟨by unfold foldN; rw [if_neg hn]; rfl, hb⟩
  have HP := Lib.hid (pl hn)
  have HN := Lib.hid hn
  go_enter Try.func46, Try.ntmps46
  go_wp2_with fail
  refine kl.mono ?_
  rintro e w1 ⟨hb, _, h2⟩
  obtain ⟨v, rfl, own⟩ := h2 hn
  clear kl h2 hn
  obtain ⟨hlp, hll⟩ : 0 < (places s).length ∧ (places s).length ≤ 255 := ⟨HP.out.pos, HP.out.len⟩
  obtain ⟨n, hpn⟩ : ∃ n, (places s).length = n + 1 := ⟨(places s).length - 1, by omega⟩
  rw [hpn, Nat.add_sub_cancel] at own
  have hn255 : n ≤ 255 := by omega
  have hs255 : s.size ≤ 255 := by have := HN.out; unfold nameB at this; rw [Bool.and_eq_true, decide_eq_true_iff] at this; exact this.1
  obtain ⟨A, c, rfl, hA⟩ : ∃ A c, v = .slice A n c ∧ (n = 0 ∨ n ≤ c ∧ ∃ g, A = some ⟨g, 0, none⟩ ∧ g < w1.heap.size ∧ ∀ j, j < n → w1.cell? ⟨g, j, none⟩ = some (.string (s.extract ((places s).getD j 0 + 1) ((places s).getD (j + 1) 0)))) := by
    rcases own.2 with ⟨hv, h0⟩ | ⟨g, cap, cur, hv, r1, r2, r3, _⟩
    · exact ⟨none, 0, by rw [h0]; exact hv, .inl h0⟩
    · refine ⟨_, _, hv, .inr ⟨r3, g, rfl, (own.lt g (by rw [hv]; rfl)).2, fun j hj => ?_⟩⟩
      have := own.cells (g := g) (by rw [hv]; rfl) j (.string (s.extract ((places s).getD j 0 + 1) ((places s).getD (j + 1) 0))) (by simp [scells, labs, hj])
      rwa [show (⟨g, 0, none⟩ : Addr).add j = ⟨g, j, none⟩ by unfold Addr.add; split <;> simp_all] at this
  clear own
  go_upto_region 5 with (fail)
  have HA := Lib.hid hA
  have HPN := Lib.hid hpn
  clear hA hpn hlp
  have B2 : Below w1.heap.size w1 (w1.alloc (.cells #[.pointer none, .slice none 0 0] 137)) := (Below.refl _ _).alloc (Nat.le_refl _) _
  have IB := Bld.fresh w1
  generalize w1.alloc (.cells #[.pointer none, .slice none 0 0] 137) = w2 at *
  have hsb := hb.size
  obtain ⟨gB, hgB⟩ : ∃ g, g = w1.heap.size := ⟨_, rfl⟩
  rw [show Bld.Is w2 w1.heap.size w1.heap.size [] = Bld.Is w2 w1.heap.size gB [] by rw [hgB]] at IB
  rw [← hgB]
  clear hgB
  go_wp2_with fail
  go_loopg [7, 17] (n + 1) (fun k v7 v17 wr => ∃ i : Nat, v17 = .int .i64 (i : Int) ∧ i + k = n + 1 ∧ i ≤ n ∧ Bld.Is wr w1.heap.size gB ((s.data.toList.take ((places s).getD i 0)).map lowB) ∧ Below w1.heap.size w1 wr)
  case atStart => exact ⟨0, rfl, by omega, by omega, by rw [HP.out.first]; exact IB, B2⟩
  case round =>
    obtain ⟨i, rfl, hk, hil, HI, HB⟩ := hrel
    have HB' := Lib.hid HB
    have HI' := Lib.hid HI
    clear HI
    by_cases h : i < n
    · have q : decide ((i : Int) < (n : Int)) = true := by simp; omega
      obtain ⟨hnc, g, rfl, hg, hcell⟩ : n ≤ c ∧ ∃ g, A = some ⟨g, 0, none⟩ ∧ g < w1.heap.size ∧ ∀ j, j < n → w1.cell? ⟨g, j, none⟩ = some (.string (s.extract ((places s).getD j 0 + 1) ((places s).getD (j + 1) 0))) := by
        rcases HA.out with h0 | h1
        · omega
        · exact h1
      have c0 : wr.cell? ⟨g, i, none⟩ = _ := (HB.cell hg).trans (hcell i h)
      have hpn := HPN.out
      obtain ⟨n1, n2, n3⟩ := HP.out.next i (by omega)
      clear hcell hpn
      generalize (places s).getD i 0 = x at *
      generalize hy : (places s).getD (i + 1) 0 = y at *
      have nb := bt_nonneg s x
      have bd := bt_data s x
      obtain ⟨u, hu⟩ : ∃ u, s.data.toList.getD x 0 = u := ⟨_, rfl⟩
      rw [hu] at bd
      have hu63 : u.toNat ≤ 63 := by omega
      have HST := Lib.hid (pre_step s x y (by omega) (by omega) u hu hu63)
      have hls : (s.extract (x + 1) y).size = u.toNat := by rw [ByteArray.size_extract]; omega
      generalize s.extract (x + 1) y = l at *
      have kf := foldedc l (by omega)
      have e1 : IntKind.u8.wrap (l.size : Int) = (u.toNat : Int) := by rw [hls]; show ((u.toNat : Int) % 256) = _; omega
      have hlen : ((s.data.toList.take x).map lowB).length ≤ 255 := by rw [List.length_map, List.length_take]; omega
      have m1 : (0 : Int) ≤ (i : Int) := by omega
      have HX := Lib.hid hlen
      have HL := Lib.hid hls
      have HU := Lib.hid hu63
      have HY := Lib.hid hy
      have hBr := HB.size
      clear n1 n2 n3 nb bd hu hu63 hlen hls hy HB
      go_wp2_with fail
      refine (Bld.bytec w1.heap.size gB _ u wr HI'.out (by have := HX.out; omega) hBr).mono ?_
      rintro e w3 ⟨rfl, I3, B3⟩
      have B3' := HB'.out.trans B3
      have I3' := Lib.hid I3
      clear I3
      go_wp2_with fail
      refine (kf _).mono ?_
      rintro e w4 ⟨rfl, b4⟩
      have B4 := B3'.trans (b4.mono B3'.size)
      have I4 := Lib.hid (I3'.out.below b4)
      have hB4 := B4.size
      clear b4
      go_wp2_with fail
      refine (Bld.stringc w1.heap.size gB _ (foldS l) w4 I4.out (by have h1 := HX.out; have h2 := HL.out; have h3 := HU.out; rw [foldS_size, List.length_append]; simp only [List.length_cons, List.length_nil]; omega) hB4).mono ?_
      rintro e w5 ⟨rfl, I5, B5⟩
      have B5' := B4.trans B5
      have I5' := Lib.hid I5
      clear I5 B5 B3 B3' B4
      go_wp2_with fail
      go_roundg (n - i)
      case measure => omega
      case rel =>
        refine ⟨i + 1, by first | rfl | exact congrArg (Value.int .i64) (by rw [w64 (by omega) (by omega)]; omega), by omega, by omega, ?_, B5'⟩
        rw [HY.out, HST.out]
        exact I5'.out
    · have q : decide ((i : Int) < (n : Int)) = false := by simp; omega
      obtain rfl : i = n := by omega
      have hlen : ((s.data.toList.take ((places s).getD i 0)).map lowB).length ≤ 255 := by rw [List.length_map, List.length_take, len_data]; omega
      have hBr := HB.size
      have HX := Lib.hid hlen
      clear hlen HB
      go_wp2_with fail
      refine (Bld.stringc w1.heap.size gB _ ⟨#[0]⟩ wr HI'.out (by have h1 := HX.out; show _ + 1 ≤ _; omega) hBr).mono ?_
      rintro e w5 ⟨rfl, I5, B5⟩
      have B5' := HB'.out.trans B5
      have I5' := Lib.hid I5
      have e1 : ((s.data.toList.take ((places s).getD i 0)).map lowB) ++ (⟨#[0]⟩ : ByteArray).data.toList = s.data.toList.map lowB := by
        obtain ⟨a1, a2⟩ := HP.out.last
        rw [HPN.out, Nat.add_sub_cancel] at a1 a2
        generalize (places s).getD i 0 = x at *
        have hz := len_data s
        have hx : x < s.data.toList.length := by omega
        have bd := bt_data s x
        rw [a2, List.getD_eq_getElem?_getD, List.getElem?_eq_getElem hx] at bd
        have hu : s.data.toList[x] = 0 := by
          apply UInt8.toNat_inj.1
          have : ((s.data.toList[x]).toNat : Int) = 0 := bd.symm
          simpa using this
        have e2 : s.data.toList = s.data.toList.take x ++ [0] := by
          conv => lhs; rw [← List.take_append_drop x s.data.toList, List.drop_eq_getElem_cons hx, hu, List.drop_eq_nil_of_le (by omega)]
        conv => rhs; rw [e2]
        rw [List.map_append]
        rfl
      have kst : Calls Try.prog 77 #[.pointer (some ⟨gB, 0, none⟩)] w5 fun e w' => e = .returned (.string (foldN s)) ∧ Below w1.heap.size w5 w' := by
        have hI := I5'.out
        rw [e1] at hI
        have := Bld.strc w1.heap.size gB _ w5 hI B5'.size
        unfold foldN
        rw [if_pos HN.out]
        exact this
      clear I5 B5 e1
      go_wp2_with fail
      refine kst.mono ?_
      rintro e w6 ⟨rfl, B6⟩
      have B6' := B5'.trans B6
      clear B6 kst
      go_wp2_with fail
      go_ret
      exact ⟨rfl, hb.trans (B6'.mono hb.size)⟩
end Go.Proofs.Ytjklgdpffmaamaa.Fo

namespace Go.Proofs.Ytjklgdpffmaamaa.Pad
open Go.RowKit Go.PlainAid Go.Proofs.Ytjklgdpffmaamaa.Base Go.Proofs.Ytjklgdpffmaamaa.Oct Go.Proofs.Ytjklgdpffmaamaa.Nm Go.Proofs.Ytjklgdpffmaamaa.Wm Go.Proofs.Ytjklgdpffmaamaa.OptH Go.Proofs.Ytjklgdpffmaamaa.Fo
open Go.Proofs.YtjklgdpffmaamaaW.PrintWords (blk_cell blk_below blk_put blk_frozen blk_ne blk_new blk_lt blk_grown blk_alloc)
set_option linter.unusedVariables false
set_option linter.unusedSimpArgs false
theorem one_q {w : World} {b : Nat} {q : Qn} (h : w.heap[b]? = some (.cells #[.string q.name, .int .i64 q.type, .int .i64 q.cls] 40 (0, 0))) : QCells w (some ⟨b, 0, none⟩) [q] :=
  .inr ⟨_, rfl, fun j hj => by
    obtain rfl : j = 0 := by simpa using hj
    exact ⟨(blk_cell h 0).trans rfl, (blk_cell h 1).trans rfl, (blk_cell h 2).trans rfl⟩⟩
def qMsg (id : Int) (n : ByteArray) (t : Int) : MsgV := msgOf ⟨id, false, 0, false, false, false, false, 0, 0⟩ [⟨foldN n, t, 1⟩] [] [] []
def fineB (id : Int) (n : ByteArray) (t : Int) : Bool := decide (0 ≤ id) && decide (id ≤ 65535) && nameB n && decide (1 ≤ t) && decide (t ≤ 65535)
def queryS (id : Int) (n : ByteArray) (t : Int) : ByteArray := if fineB id n t = true then padS (qMsg id n t) 128 else ⟨#[]⟩
def queryE (id : Int) (n : ByteArray) (t : Int) : Int := if fineB id n t = true then 0 else 1000
set_option maxHeartbeats 4000000 in
set_option maxRecDepth 100000 in
theorem queryc (id : Int) (n : ByteArray) (t : Int) (w : World) : Calls Try.prog 24 #[.int .i64 id, .agg #[.string n, .int .i64 t]] w fun e w' => e = .returned (.tuple #[.string (queryS id n t), .int .i64 (queryE id n t)]) ∧ Below w.heap.size w w' := by
  have Bx : Below w.heap.size w (w.alloc (.cells #[.string n, .int .i64 t] 43)) := (Below.refl _ _).alloc (Nat.le_refl _) _
  have bS := blk_new w (.cells #[.string n, .int .i64 t] 43)
  have km := fun w => may n w
  have bad : ∀ {w' : World}, fineB id n t = false → Below w.heap.size w w' → (Ending.returned (.tuple #[.string ⟨#[]⟩, .int .i64 1000]) = .returned (.tuple #[.string (queryS id n t), .int .i64 (queryE id n t)]) ∧ Below w.heap.size w w') := by
    intro w' hf hb
    unfold queryS queryE
    rw [if_neg (by rw [hf]; decide), if_neg (by rw [hf]; decide)]
    exact ⟨rfl, hb⟩
  by_cases h0 : id < 0
  · have q0 : decide (id < 0) = true := decide_eq_true h0
    have hf : fineB id n t = false := by unfold fineB; rw [decide_eq_false (show ¬ 0 ≤ id by omega)]; rfl
    have HF := Lib.hid hf
    clear h0 hf
    go_enter Try.func24, Try.ntmps24
    go_wp2_with fail
    go_ret2
    exact bad HF.out Bx
  have q0 : decide (id < 0) = false := decide_eq_false h0
  by_cases h1 : 65535 < id
  · have q1 : decide (65535 < id) = true := decide_eq_true h1
    have hf : fineB id n t = false := by unfold fineB; rw [decide_eq_false (show ¬ id ≤ 65535 by omega)]; simp
    have HF := Lib.hid hf
    clear h0 h1 hf
    go_enter Try.func24, Try.ntmps24
    go_wp2_with fail
    go_ret2
    exact bad HF.out Bx
  have q1 : decide (65535 < id) = false := decide_eq_false h1
  have hbig := Lib.hid (show 0 ≤ id ∧ id ≤ 65535 by omega)
  clear h0 h1
  by_cases hn : nameB n = true
  case neg =>
    have hn : nameB n = false := by simpa using hn
    have hf : fineB id n t = false := by unfold fineB; rw [hn]; simp
    have HF := Lib.hid hf
    rw [hn] at km
    clear hf hn
    have s0 : (w.alloc (.cells #[.string n, .int .i64 t] 43)).cell? ⟨w.heap.size, 0, none⟩ = some (.string n) := (blk_cell bS 0).trans rfl
    go_enter Try.func24, Try.ntmps24
    go_wp2_with fail
    refine (km _).mono ?_
    rintro e w2 ⟨rfl, hb⟩
    replace Bx := Bx.trans (hb.mono Bx.size)
    clear hb
    go_wp2_with fail
    go_ret2
    exact bad HF.out Bx
  rw [hn] at km
  have HN := Lib.hid hn
  clear hn
  go_enter Try.func24, Try.ntmps24
  go_upto_region 1 with (fail)
  generalize w.alloc (.cells #[.string n, .int .i64 t] 43) = w1 at *
  have s0 : w1.cell? ⟨w.heap.size, 0, none⟩ = some (.string n) := (blk_cell bS 0).trans rfl
  go_wp2_with fail
  refine (km _).mono ?_
  rintro e w2 ⟨rfl, hb⟩
  replace Bx := Bx.trans (hb.mono Bx.size)
  replace bS := blk_below bS hb
  clear hb s0 km
  have s0 : w2.cell? ⟨w.heap.size, 0, none⟩ = some (.string n) := (blk_cell bS 0).trans rfl
  have s1 : w2.cell? ⟨w.heap.size, 1, none⟩ = some (.int .i64 t) := (blk_cell bS 1).trans rfl
  by_cases h0 : t < 1
  · have q2 : decide (t < 1) = true := decide_eq_true h0
    have hf : fineB id n t = false := by unfold fineB; rw [decide_eq_false (show ¬ 1 ≤ t by omega)]; simp
    have HF := Lib.hid hf
    clear h0 hf
    go_wp2_with fail
    go_ret2
    exact bad HF.out Bx
  have q2 : decide (t < 1) = false := decide_eq_false h0
  by_cases h1 : 65535 < t
  · have q3 : decide (65535 < t) = true := decide_eq_true h1
    have hf : fineB id n t = false := by unfold fineB; rw [decide_eq_false (show ¬ t ≤ 65535 by omega)]; simp
    have HF := Lib.hid hf
    clear h0 h1 hf
    go_wp2_with fail
    go_ret2
    exact bad HF.out Bx
  have q3 : decide (65535 < t) = false := decide_eq_false h1
  have hf : fineB id n t = true := by
    have := hbig.out
    unfold fineB
    rw [HN.out, decide_eq_true this.1, decide_eq_true this.2, decide_eq_true (show 1 ≤ t by omega), decide_eq_true (show t ≤ 65535 by omega)]
    rfl
  have e1 : queryS id n t = padS (qMsg id n t) 128 := if_pos hf
  have e2 : queryE id n t = 0 := if_pos hf
  have HE := Lib.hid (And.intro e1 e2)
  clear h0 h1 hf e1 e2 bad
  go_upto_region 3 with (fail)
  have Bd : Below w.heap.size w w2.drew := Bx.drew
  have bd : w2.drew.heap[w.heap.size]? = _ := bS
  have d0 : w2.drew.cell? ⟨w.heap.size, 0, none⟩ = some (.string n) := s0
  have d1 : w2.drew.cell? ⟨w.heap.size, 1, none⟩ = some (.int .i64 t) := s1
  have kf := fun w => foldNc n w
  go_cut [6] (fun v6 wc => ∃ gq, v6 = .pointer (some ⟨gq, 0, none⟩) ∧ wc.heap[gq]? = some (.cells #[.string (foldN n), .int .i64 t, .int .i64 1] 40 (0, 0)) ∧ Below w.heap.size w wc)
  case first =>
    have hne1 : ¬ w.heap.size = w2.heap.size := Nat.ne_of_lt (blk_lt bS)
    have hne1' : ¬ w2.heap.size = w.heap.size := fun e => hne1 e.symm
    have B0 : Below w2.heap.size w2 (w2.alloc (.cells #[.string ⟨#[]⟩, .int .i64 0, .int .i64 0] 40)) := (Below.refl _ _).alloc (Nat.le_refl _) _
    have bq0 := blk_new w2 (.cells #[.string ⟨#[]⟩, .int .i64 0, .int .i64 0] 40)
    have BdB : Below w.heap.size w (w2.alloc (.cells #[.string ⟨#[]⟩, .int .i64 0, .int .i64 0] 40)).drew := (Bx.trans (B0.mono Bx.size)).drew
    have bdB : (w2.alloc (.cells #[.string ⟨#[]⟩, .int .i64 0, .int .i64 0] 40)).drew.heap[w.heap.size]? = _ := blk_alloc bS _
    have bqB : (w2.alloc (.cells #[.string ⟨#[]⟩, .int .i64 0, .int .i64 0] 40)).drew.heap[w2.heap.size]? = _ := bq0
    go_region_held3 (fun w' => w'.cell? ⟨w.heap.size, 0, none⟩ = some (.string n) ∧ w'.cell? ⟨w.heap.size, 1, none⟩ = some (.int .i64 t))
      (first | go_keep | (go_split_ands; refine ⟨?_, ?_⟩ <;> assumption))
      (first
        | (go_at_call 46; with_reducible refine (kf w2.drew).mono ?_; rintro e w' ⟨rfl, hb⟩; have Bd := Bd.trans (hb.mono Bd.size); have bd := blk_below bd hb; have d0 : w'.cell? ⟨w.heap.size, 0, none⟩ = some (.string n) := (blk_cell bd 0).trans rfl; have d1 : w'.cell? ⟨w.heap.size, 1, none⟩ = some (.int .i64 t) := (blk_cell bd 1).trans rfl; have hne2 : ¬ w.heap.size = w'.heap.size := Nat.ne_of_lt (blk_lt bd))
        | (go_at_call 46; with_reducible refine (kf (w2.alloc (.cells #[.string ⟨#[]⟩, .int .i64 0, .int .i64 0] 40)).drew).mono ?_; rintro e w' ⟨rfl, hb⟩; have Bd := BdB.trans (hb.mono BdB.size); have bd := blk_below bdB hb; have bq := blk_below bqB hb; have d0 : w'.cell? ⟨w.heap.size, 0, none⟩ = some (.string n) := (blk_cell bd 0).trans rfl; have d1 : w'.cell? ⟨w.heap.size, 1, none⟩ = some (.int .i64 t) := (blk_cell bd 1).trans rfl; have p0 : w'.cell? ⟨w2.heap.size, 0, none⟩ = some (.string ⟨#[]⟩) := (blk_cell bq 0).trans rfl; have p1 : w'.cell? ⟨w2.heap.size, 1, none⟩ = some (.int .i64 0) := (blk_cell bq 1).trans rfl; have p2 : w'.cell? ⟨w2.heap.size, 2, none⟩ = some (.int .i64 0) := (blk_cell bq 2).trans rfl; have g0 := blk_frozen bq 0; have g1 := blk_frozen bq 1; have g2 := blk_frozen bq 2))
    · try go_wp2_with fail
      go_meet
      case rel => exact ⟨w'.heap.size, rfl, blk_new w' _, Bd.alloc Bd.size _⟩
    · try go_wp2_with fail
      go_meet
      case rel =>
        have b3 := blk_put (blk_put (blk_put bq 0 (.string (foldN n)) rfl) 1 (.int .i64 t) rfl) 2 (.int .i64 1) rfl
        exact ⟨w2.heap.size, rfl, by simpa using b3, ((Bd.setCell (p := ⟨w2.heap.size, 0, none⟩) Bx.size _).setCell (p := ⟨w2.heap.size, 1, none⟩) Bx.size _).setCell (p := ⟨w2.heap.size, 2, none⟩) Bx.size _⟩
  case rest =>
    obtain ⟨gq, rfl, bq, Bq⟩ := hcut
    have k0 : wc.cell? ⟨gq, 0, none⟩ = some (.string (foldN n)) := (blk_cell bq 0).trans rfl
    have k1 : wc.cell? ⟨gq, 1, none⟩ = some (.int .i64 t) := (blk_cell bq 1).trans rfl
    have k2 : wc.cell? ⟨gq, 2, none⟩ = some (.int .i64 1) := (blk_cell bq 2).trans rfl
    have B1 := Bq.alloc Bq.size (.cells #[.string (foldN n), .int .i64 t, .int .i64 1] 40)
    have kp := paddedc ⟨⟨id, false, 0, false, false, false, false, 0, 0⟩, some ⟨wc.heap.size, 0, none⟩, 1, [⟨foldN n, t, 1⟩], none, 0, [], none, 0, [], none, 0, []⟩ 128 (by decide) (by decide) (wc.alloc (.cells #[.string (foldN n), .int .i64 t, .int .i64 1] 40))
      ⟨one_q (q := ⟨foldN n, t, 1⟩) (blk_new wc _), .inl rfl, .inl rfl, .inl rfl, Nat.le_refl _, Nat.le_refl _, Nat.le_refl _, Nat.le_refl _, (by intro r hr; cases hr), (by intro r hr; cases hr), (by intro r hr; cases hr)⟩ (Nat.zero_le _)
    have eS : padS ⟨⟨id, false, 0, false, false, false, false, 0, 0⟩, some ⟨wc.heap.size, 0, none⟩, 1, [⟨foldN n, t, 1⟩], none, 0, [], none, 0, [], none, 0, []⟩ 128 = padS (qMsg id n t) 128 := rfl
    rw [eS] at kp
    clear eS bq bS Bx Bd bd d0 d1 s0 s1
    generalize padS (qMsg id n t) 128 = ps at *
    generalize padE _ 128 = pe at kp
    go_wp2_with fail
    refine kp.mono ?_
    rintro e w5 ⟨rfl, hb⟩
    have B5 := B1.trans (hb.mono B1.size)
    clear hb kp
    go_wp2_with fail
    go_ret2
    refine ⟨?_, B5⟩
    rw [HE.out.1, HE.out.2]
    rfl
end Go.Proofs.Ytjklgdpffmaamaa.Pad

namespace Go.Proofs.Ytjklgdpffmaamaa.Pad
open Go.RowKit Go.PlainAid Go.Proofs.Ytjklgdpffmaamaa.Base Go.Proofs.Ytjklgdpffmaamaa.Oct Go.Proofs.Ytjklgdpffmaamaa.Wm Go.Proofs.Ytjklgdpffmaamaa.OptH
open Go.Proofs.YtjklgdpffmaamaaW.PrintWords (blk_cell blk_below blk_put blk_frozen blk_ne blk_new blk_lt blk_grown blk_alloc)
set_option linter.unusedVariables false
set_option linter.unusedSimpArgs false
/-- A message cut short. -/
abbrev shortM (m : MsgV) : MsgV := ⟨⟨m.h.id, m.h.qr, m.h.op, m.h.aa, true, m.h.rd, m.h.ra, m.h.z, m.h.rc⟩, m.Aq, m.cq, m.qs, none, 0, [], none, 0, [], none, 0, []⟩
theorem short_lies {m : MsgV} {w : World} (h : m.Lies w) : (shortM m).Lies w :=
  ⟨h.q, .inl rfl, .inl rfl, .inl rfl, h.lq, Nat.le_refl _, Nat.le_refl _, Nat.le_refl _, (by intro r hr; cases hr), (by intro r hr; cases hr), (by intro r hr; cases hr)⟩
abbrev fn (f : Nat) (b : Nat) : Value := .func (.func f) #[] #[.pointer (some ⟨b, 0, none⟩)]
abbrev fns (edns : Bool) (gm gs : Nat) : Array Value := if edns = true then #[fn 83 gm, fn 84 gs, fn 85 gs] else #[fn 81 gm, fn 82 gs]
abbrev nF (edns : Bool) : Nat := if edns = true then 3 else 2
def FormsPost (m : MsgV) (edns : Bool) (w : World) (e : Ending) (w' : World) : Prop :=
  ∃ gm gs g, e = .returned (.slice (some ⟨g, 0, none⟩) (nF edns) (nF edns)) ∧ w'.heap[gm]? = some (.cells m.cells 27 (0, 0)) ∧ w'.heap[gs]? = some (.cells (shortM m).cells 27 (0, 0)) ∧ w'.heap[g]? = some (.cells (fns edns gm gs) 103 (0, 0)) ∧ Below w.heap.size w w'
set_option maxHeartbeats 4000000 in
set_option maxRecDepth 100000 in
theorem formsc (m : MsgV) (edns : Bool) (w : World) : Calls Try.prog 55 #[.agg m.cells, .bool edns] w fun e w' => FormsPost m edns w e w' := by
  have Bx : Below w.heap.size w (w.alloc (.cells m.cells 27)) := (Below.refl _ _).alloc (Nat.le_refl _) _
  have bM := blk_new w (.cells m.cells 27)
  go_enter Try.func55, Try.ntmps55
  go_upto_region 1 with (fail)
  generalize w.alloc (.cells m.cells 27) = w1 at *
  have x0 : w1.cell? ⟨w.heap.size, 0, none⟩ = some (.int .i64 m.h.id) := (blk_cell bM 0).trans rfl
  have x1 : w1.cell? ⟨w.heap.size, 1, none⟩ = some (.bool m.h.qr) := (blk_cell bM 1).trans rfl
  have x2 : w1.cell? ⟨w.heap.size, 2, none⟩ = some (.int .i64 m.h.op) := (blk_cell bM 2).trans rfl
  have x3 : w1.cell? ⟨w.heap.size, 3, none⟩ = some (.bool m.h.aa) := (blk_cell bM 3).trans rfl
  have x4 : w1.cell? ⟨w.heap.size, 4, none⟩ = some (.bool m.h.tc) := (blk_cell bM 4).trans rfl
  have x5 : w1.cell? ⟨w.heap.size, 5, none⟩ = some (.bool m.h.rd) := (blk_cell bM 5).trans rfl
  have x6 : w1.cell? ⟨w.heap.size, 6, none⟩ = some (.bool m.h.ra) := (blk_cell bM 6).trans rfl
  have x7 : w1.cell? ⟨w.heap.size, 7, none⟩ = some (.int .i64 m.h.z) := (blk_cell bM 7).trans rfl
  have x8 : w1.cell? ⟨w.heap.size, 8, none⟩ = some (.int .i64 m.h.rc) := (blk_cell bM 8).trans rfl
  have x9 : w1.cell? ⟨w.heap.size, 9, none⟩ = some (.slice m.Aq m.qs.length m.cq) := (blk_cell bM 9).trans rfl
  have x10 : w1.cell? ⟨w.heap.size, 10, none⟩ = some (.slice m.Aa m.an.length m.ca) := (blk_cell bM 10).trans rfl
  have x11 : w1.cell? ⟨w.heap.size, 11, none⟩ = some (.slice m.An m.ns.length m.cn) := (blk_cell bM 11).trans rfl
  have x12 : w1.cell? ⟨w.heap.size, 12, none⟩ = some (.slice m.Ar m.ar.length m.cr) := (blk_cell bM 12).trans rfl
  have B2 := Bx.alloc Bx.size (.cells m.cells 27)
  have bM2 := blk_alloc bM (.cells m.cells 27)
  have bS2 := blk_new w1 (.cells m.cells 27)
  go_upto_region 2 with (fail)
  generalize w1.alloc (.cells #[.int .i64 m.h.id, .bool m.h.qr, .int .i64 m.h.op, .bool m.h.aa, .bool m.h.tc, .bool m.h.rd, .bool m.h.ra, .int .i64 m.h.z, .int .i64 m.h.rc, .slice m.Aq m.qs.length m.cq, .slice m.Aa m.an.length m.ca, .slice m.An m.ns.length m.cn, .slice m.Ar m.ar.length m.cr] 27) = w2 at *
  obtain ⟨gs, hgs⟩ : ∃ gs, gs = w1.heap.size := ⟨_, rfl⟩
  have hge : w.heap.size ≤ gs := by rw [hgs]; exact Bx.size
  have hne : w.heap.size ≠ gs := by rw [hgs]; exact Nat.ne_of_lt (blk_lt bM)
  rw [← hgs] at bS2 ⊢
  clear x0 x1 x2 x3 x4 x5 x6 x7 x8 x9 x10 x11 x12
  clear hgs bM Bx
  have y0 : w2.cell? ⟨gs, 0, none⟩ = some (.int .i64 m.h.id) := (blk_cell bS2 0).trans rfl
  have y1 : w2.cell? ⟨gs, 1, none⟩ = some (.bool m.h.qr) := (blk_cell bS2 1).trans rfl
  have y2 : w2.cell? ⟨gs, 2, none⟩ = some (.int .i64 m.h.op) := (blk_cell bS2 2).trans rfl
  have y3 : w2.cell? ⟨gs, 3, none⟩ = some (.bool m.h.aa) := (blk_cell bS2 3).trans rfl
  have y4 : w2.cell? ⟨gs, 4, none⟩ = some (.bool m.h.tc) := (blk_cell bS2 4).trans rfl
  have y5 : w2.cell? ⟨gs, 5, none⟩ = some (.bool m.h.rd) := (blk_cell bS2 5).trans rfl
  have y6 : w2.cell? ⟨gs, 6, none⟩ = some (.bool m.h.ra) := (blk_cell bS2 6).trans rfl
  have y7 : w2.cell? ⟨gs, 7, none⟩ = some (.int .i64 m.h.z) := (blk_cell bS2 7).trans rfl
  have y8 : w2.cell? ⟨gs, 8, none⟩ = some (.int .i64 m.h.rc) := (blk_cell bS2 8).trans rfl
  have y9 : w2.cell? ⟨gs, 9, none⟩ = some (.slice m.Aq m.qs.length m.cq) := (blk_cell bS2 9).trans rfl
  have y10 : w2.cell? ⟨gs, 10, none⟩ = some (.slice m.Aa m.an.length m.ca) := (blk_cell bS2 10).trans rfl
  have y11 : w2.cell? ⟨gs, 11, none⟩ = some (.slice m.An m.ns.length m.cn) := (blk_cell bS2 11).trans rfl
  have y12 : w2.cell? ⟨gs, 12, none⟩ = some (.slice m.Ar m.ar.length m.cr) := (blk_cell bS2 12).trans rfl
  have f0 := blk_frozen bS2 0
  have f1 := blk_frozen bS2 1
  have f2 := blk_frozen bS2 2
  have f3 := blk_frozen bS2 3
  have f4 := blk_frozen bS2 4
  have f5 := blk_frozen bS2 5
  have f6 := blk_frozen bS2 6
  have f7 := blk_frozen bS2 7
  have f8 := blk_frozen bS2 8
  have f9 := blk_frozen bS2 9
  have f10 := blk_frozen bS2 10
  have f11 := blk_frozen bS2 11
  have f12 := blk_frozen bS2 12
  go_upto_if 13 with (fail)
  have bS3 := blk_put (blk_put (blk_put (blk_put bS2 4 (.bool true) rfl) 10 (.slice none 0 0) rfl) 11 (.slice none 0 0) rfl) 12 (.slice none 0 0) rfl
  have bM3 := blk_set_ne (p := ⟨gs, 12, none⟩) (blk_set_ne (p := ⟨gs, 11, none⟩) (blk_set_ne (p := ⟨gs, 10, none⟩) (blk_set_ne (p := ⟨gs, 4, none⟩) bM2 hne (.bool true)) hne (.slice none 0 0)) hne (.slice none 0 0)) hne (.slice none 0 0)
  have B3 := (((B2.setCell (p := ⟨gs, 4, none⟩) hge (.bool true)).setCell (p := ⟨gs, 10, none⟩) hge (.slice none 0 0)).setCell (p := ⟨gs, 11, none⟩) hge (.slice none 0 0)).setCell (p := ⟨gs, 12, none⟩) hge (.slice none 0 0)
  generalize (((w2.setCell ⟨gs, 4, none⟩ (.bool true)).setCell ⟨gs, 10, none⟩ (.slice none 0 0)).setCell ⟨gs, 11, none⟩ (.slice none 0 0)).setCell ⟨gs, 12, none⟩ (.slice none 0 0) = w3 at *
  replace bS3 : w3.heap[gs]? = some (.cells (shortM m).cells 27 (0, 0)) := by
    show w3.heap[gs]? = some (.cells #[.int .i64 m.h.id, .bool m.h.qr, .int .i64 m.h.op, .bool m.h.aa, .bool true, .bool m.h.rd, .bool m.h.ra, .int .i64 m.h.z, .int .i64 m.h.rc, .slice m.Aq m.qs.length m.cq, .slice none 0 0, .slice none 0 0, .slice none 0 0] 27 (0, 0))
    simpa using bS3
  clear y0 y1 y2 y3 y4 y5 y6 y7 y8 y9 y10 y11 y12 f0 f1 f2 f3 f4 f5 f6 f7 f8 f9 f10 f11 f12 bM2 bS2 B2
  cases edns with
  | false =>
    go_wp2_with fail
    go_ret
    exact ⟨w.heap.size, gs, w3.heap.size, rfl, blk_alloc bM3 _, blk_alloc bS3 _, blk_new w3 _, B3.alloc B3.size _⟩
  | true =>
    go_wp2_with fail
    go_ret
    exact ⟨w.heap.size, gs, w3.heap.size, rfl, blk_alloc bM3 _, blk_alloc bS3 _, blk_new w3 _, B3.alloc B3.size _⟩
set_option maxHeartbeats 2000000 in
set_option maxRecDepth 100000 in
theorem fn1c (X : MsgV) (b : Nat) (w : World) (hb : w.heap[b]? = some (.cells X.cells 27 (0, 0))) (hX : X.Lies w) : Calls Try.prog 81 #[.pointer (some ⟨b, 0, none⟩)] w fun e w' => e = .returned (.tuple #[.string (putS X), .int .i64 (putE X)]) ∧ Below w.heap.size w w' := by
  have x0 : w.cell? ⟨b, 0, none⟩ = some (.int .i64 X.h.id) := (blk_cell hb 0).trans rfl
  have x1 : w.cell? ⟨b, 1, none⟩ = some (.bool X.h.qr) := (blk_cell hb 1).trans rfl
  have x2 : w.cell? ⟨b, 2, none⟩ = some (.int .i64 X.h.op) := (blk_cell hb 2).trans rfl
  have x3 : w.cell? ⟨b, 3, none⟩ = some (.bool X.h.aa) := (blk_cell hb 3).trans rfl
  have x4 : w.cell? ⟨b, 4, none⟩ = some (.bool X.h.tc) := (blk_cell hb 4).trans rfl
  have x5 : w.cell? ⟨b, 5, none⟩ = some (.bool X.h.rd) := (blk_cell hb 5).trans rfl
  have x6 : w.cell? ⟨b, 6, none⟩ = some (.bool X.h.ra) := (blk_cell hb 6).trans rfl
  have x7 : w.cell? ⟨b, 7, none⟩ = some (.int .i64 X.h.z) := (blk_cell hb 7).trans rfl
  have x8 : w.cell? ⟨b, 8, none⟩ = some (.int .i64 X.h.rc) := (blk_cell hb 8).trans rfl
  have x9 : w.cell? ⟨b, 9, none⟩ = some (.slice X.Aq X.qs.length X.cq) := (blk_cell hb 9).trans rfl
  have x10 : w.cell? ⟨b, 10, none⟩ = some (.slice X.Aa X.an.length X.ca) := (blk_cell hb 10).trans rfl
  have x11 : w.cell? ⟨b, 11, none⟩ = some (.slice X.An X.ns.length X.cn) := (blk_cell hb 11).trans rfl
  have x12 : w.cell? ⟨b, 12, none⟩ = some (.slice X.Ar X.ar.length X.cr) := (blk_cell hb 12).trans rfl
  clear hb
  go_enter Try.func81, Try.ntmps81
  have kp := putc X w hX
  go_wp2_with fail
  refine kp.mono ?_
  rintro e w5 ⟨rfl, hb⟩
  clear kp
  go_wp2_with fail
  go_ret2
  exact ⟨rfl, hb⟩
set_option maxHeartbeats 2000000 in
set_option maxRecDepth 100000 in
theorem fn2c (X : MsgV) (b : Nat) (w : World) (hb : w.heap[b]? = some (.cells X.cells 27 (0, 0))) (hX : X.Lies w) : Calls Try.prog 82 #[.pointer (some ⟨b, 0, none⟩)] w fun e w' => e = .returned (.tuple #[.string (putS X), .int .i64 (putE X)]) ∧ Below w.heap.size w w' := by
  have x0 : w.cell? ⟨b, 0, none⟩ = some (.int .i64 X.h.id) := (blk_cell hb 0).trans rfl
  have x1 : w.cell? ⟨b, 1, none⟩ = some (.bool X.h.qr) := (blk_cell hb 1).trans rfl
  have x2 : w.cell? ⟨b, 2, none⟩ = some (.int .i64 X.h.op) := (blk_cell hb 2).trans rfl
  have x3 : w.cell? ⟨b, 3, none⟩ = some (.bool X.h.aa) := (blk_cell hb 3).trans rfl
  have x4 : w.cell? ⟨b, 4, none⟩ = some (.bool X.h.tc) := (blk_cell hb 4).trans rfl
  have x5 : w.cell? ⟨b, 5, none⟩ = some (.bool X.h.rd) := (blk_cell hb 5).trans rfl
  have x6 : w.cell? ⟨b, 6, none⟩ = some (.bool X.h.ra) := (blk_cell hb 6).trans rfl
  have x7 : w.cell? ⟨b, 7, none⟩ = some (.int .i64 X.h.z) := (blk_cell hb 7).trans rfl
  have x8 : w.cell? ⟨b, 8, none⟩ = some (.int .i64 X.h.rc) := (blk_cell hb 8).trans rfl
  have x9 : w.cell? ⟨b, 9, none⟩ = some (.slice X.Aq X.qs.length X.cq) := (blk_cell hb 9).trans rfl
  have x10 : w.cell? ⟨b, 10, none⟩ = some (.slice X.Aa X.an.length X.ca) := (blk_cell hb 10).trans rfl
  have x11 : w.cell? ⟨b, 11, none⟩ = some (.slice X.An X.ns.length X.cn) := (blk_cell hb 11).trans rfl
  have x12 : w.cell? ⟨b, 12, none⟩ = some (.slice X.Ar X.ar.length X.cr) := (blk_cell hb 12).trans rfl
  clear hb
  go_enter Try.func82, Try.ntmps82
  have kp := putc X w hX
  go_wp2_with fail
  refine kp.mono ?_
  rintro e w5 ⟨rfl, hb⟩
  clear kp
  go_wp2_with fail
  go_ret2
  exact ⟨rfl, hb⟩
set_option maxHeartbeats 2000000 in
set_option maxRecDepth 100000 in
theorem fn3c (X : MsgV) (b : Nat) (w : World) (hb : w.heap[b]? = some (.cells X.cells 27 (0, 0))) (hX : X.Lies w) (hl : X.ar.length ≤ 63) : Calls Try.prog 83 #[.pointer (some ⟨b, 0, none⟩)] w fun e w' => e = .returned (.tuple #[.string (padS X 468), .int .i64 (padE X 468)]) ∧ Below w.heap.size w w' := by
  have x0 : w.cell? ⟨b, 0, none⟩ = some (.int .i64 X.h.id) := (blk_cell hb 0).trans rfl
  have x1 : w.cell? ⟨b, 1, none⟩ = some (.bool X.h.qr) := (blk_cell hb 1).trans rfl
  have x2 : w.cell? ⟨b, 2, none⟩ = some (.int .i64 X.h.op) := (blk_cell hb 2).trans rfl
  have x3 : w.cell? ⟨b, 3, none⟩ = some (.bool X.h.aa) := (blk_cell hb 3).trans rfl
  have x4 : w.cell? ⟨b, 4, none⟩ = some (.bool X.h.tc) := (blk_cell hb 4).trans rfl
  have x5 : w.cell? ⟨b, 5, none⟩ = some (.bool X.h.rd) := (blk_cell hb 5).trans rfl
  have x6 : w.cell? ⟨b, 6, none⟩ = some (.bool X.h.ra) := (blk_cell hb 6).trans rfl
  have x7 : w.cell? ⟨b, 7, none⟩ = some (.int .i64 X.h.z) := (blk_cell hb 7).trans rfl
  have x8 : w.cell? ⟨b, 8, none⟩ = some (.int .i64 X.h.rc) := (blk_cell hb 8).trans rfl
  have x9 : w.cell? ⟨b, 9, none⟩ = some (.slice X.Aq X.qs.length X.cq) := (blk_cell hb 9).trans rfl
  have x10 : w.cell? ⟨b, 10, none⟩ = some (.slice X.Aa X.an.length X.ca) := (blk_cell hb 10).trans rfl
  have x11 : w.cell? ⟨b, 11, none⟩ = some (.slice X.An X.ns.length X.cn) := (blk_cell hb 11).trans rfl
  have x12 : w.cell? ⟨b, 12, none⟩ = some (.slice X.Ar X.ar.length X.cr) := (blk_cell hb 12).trans rfl
  clear hb
  go_enter Try.func83, Try.ntmps83
  have kp := paddedc X 468 (by decide) (by decide) w hX hl
  go_wp2_with fail
  refine kp.mono ?_
  rintro e w5 ⟨rfl, hb⟩
  clear kp
  go_wp2_with fail
  go_ret2
  exact ⟨rfl, hb⟩
set_option maxHeartbeats 2000000 in
set_option maxRecDepth 100000 in
theorem fn4c (X : MsgV) (b : Nat) (w : World) (hb : w.heap[b]? = some (.cells X.cells 27 (0, 0))) (hX : X.Lies w) (hl : X.ar.length ≤ 63) : Calls Try.prog 84 #[.pointer (some ⟨b, 0, none⟩)] w fun e w' => e = .returned (.tuple #[.string (padS X 468), .int .i64 (padE X 468)]) ∧ Below w.heap.size w w' := by
  have x0 : w.cell? ⟨b, 0, none⟩ = some (.int .i64 X.h.id) := (blk_cell hb 0).trans rfl
  have x1 : w.cell? ⟨b, 1, none⟩ = some (.bool X.h.qr) := (blk_cell hb 1).trans rfl
  have x2 : w.cell? ⟨b, 2, none⟩ = some (.int .i64 X.h.op) := (blk_cell hb 2).trans rfl
  have x3 : w.cell? ⟨b, 3, none⟩ = some (.bool X.h.aa) := (blk_cell hb 3).trans rfl
  have x4 : w.cell? ⟨b, 4, none⟩ = some (.bool X.h.tc) := (blk_cell hb 4).trans rfl
  have x5 : w.cell? ⟨b, 5, none⟩ = some (.bool X.h.rd) := (blk_cell hb 5).trans rfl
  have x6 : w.cell? ⟨b, 6, none⟩ = some (.bool X.h.ra) := (blk_cell hb 6).trans rfl
  have x7 : w.cell? ⟨b, 7, none⟩ = some (.int .i64 X.h.z) := (blk_cell hb 7).trans rfl
  have x8 : w.cell? ⟨b, 8, none⟩ = some (.int .i64 X.h.rc) := (blk_cell hb 8).trans rfl
  have x9 : w.cell? ⟨b, 9, none⟩ = some (.slice X.Aq X.qs.length X.cq) := (blk_cell hb 9).trans rfl
  have x10 : w.cell? ⟨b, 10, none⟩ = some (.slice X.Aa X.an.length X.ca) := (blk_cell hb 10).trans rfl
  have x11 : w.cell? ⟨b, 11, none⟩ = some (.slice X.An X.ns.length X.cn) := (blk_cell hb 11).trans rfl
  have x12 : w.cell? ⟨b, 12, none⟩ = some (.slice X.Ar X.ar.length X.cr) := (blk_cell hb 12).trans rfl
  clear hb
  go_enter Try.func84, Try.ntmps84
  have kp := paddedc X 468 (by decide) (by decide) w hX hl
  go_wp2_with fail
  refine kp.mono ?_
  rintro e w5 ⟨rfl, hb⟩
  clear kp
  go_wp2_with fail
  go_ret2
  exact ⟨rfl, hb⟩
set_option maxHeartbeats 2000000 in
set_option maxRecDepth 100000 in
theorem fn5c (X : MsgV) (b : Nat) (w : World) (hb : w.heap[b]? = some (.cells X.cells 27 (0, 0))) (hX : X.Lies w) (hl : X.ar.length ≤ 63) : Calls Try.prog 85 #[.pointer (some ⟨b, 0, none⟩)] w fun e w' => e = .returned (.tuple #[.string (putS (padR X ⟨#[]⟩)), .int .i64 (putE (padR X ⟨#[]⟩))]) ∧ Below w.heap.size w w' := by
  have x0 : w.cell? ⟨b, 0, none⟩ = some (.int .i64 X.h.id) := (blk_cell hb 0).trans rfl
  have x1 : w.cell? ⟨b, 1, none⟩ = some (.bool X.h.qr) := (blk_cell hb 1).trans rfl
  have x2 : w.cell? ⟨b, 2, none⟩ = some (.int .i64 X.h.op) := (blk_cell hb 2).trans rfl
  have x3 : w.cell? ⟨b, 3, none⟩ = some (.bool X.h.aa) := (blk_cell hb 3).trans rfl
  have x4 : w.cell? ⟨b, 4, none⟩ = some (.bool X.h.tc) := (blk_cell hb 4).trans rfl
  have x5 : w.cell? ⟨b, 5, none⟩ = some (.bool X.h.rd) := (blk_cell hb 5).trans rfl
  have x6 : w.cell? ⟨b, 6, none⟩ = some (.bool X.h.ra) := (blk_cell hb 6).trans rfl
  have x7 : w.cell? ⟨b, 7, none⟩ = some (.int .i64 X.h.z) := (blk_cell hb 7).trans rfl
  have x8 : w.cell? ⟨b, 8, none⟩ = some (.int .i64 X.h.rc) := (blk_cell hb 8).trans rfl
  have x9 : w.cell? ⟨b, 9, none⟩ = some (.slice X.Aq X.qs.length X.cq) := (blk_cell hb 9).trans rfl
  have x10 : w.cell? ⟨b, 10, none⟩ = some (.slice X.Aa X.an.length X.ca) := (blk_cell hb 10).trans rfl
  have x11 : w.cell? ⟨b, 11, none⟩ = some (.slice X.An X.ns.length X.cn) := (blk_cell hb 11).trans rfl
  have x12 : w.cell? ⟨b, 12, none⟩ = some (.slice X.Ar X.ar.length X.cr) := (blk_cell hb 12).trans rfl
  clear hb
  go_enter Try.func85, Try.ntmps85
  go_wp2_with fail
  refine (withc X (-1) ⟨#[]⟩ (.inl ⟨rfl, rfl⟩) w hX hl).mono ?_
  rintro e w4 ⟨A1, c1, rfl, hm2, hb4⟩
  have kp := putc _ w4 hm2
  go_wp2_with fail
  refine kp.mono ?_
  rintro e w5 ⟨rfl, hb⟩
  have B := hb4.trans (hb.mono hb4.size)
  clear kp hb hb4
  go_wp2_with fail
  go_ret2
  exact ⟨rfl, B⟩
/-- The ways in which an answer may go, the best first. -/
def formL (m : MsgV) (edns : Bool) : List (ByteArray × Int) :=
  if edns = true then [(padS m 468, padE m 468), (padS (shortM m) 468, padE (shortM m) 468), (putS (padR (shortM m) ⟨#[]⟩), putE (padR (shortM m) ⟨#[]⟩))] else [(putS m, putE m), (putS (shortM m), putE (shortM m))]
def pick (most : Int) : List (ByteArray × Int) → ByteArray × Int
  | [] => (⟨#[]⟩, 1001)
  | p :: l => if p.2 = 0 ∧ (p.1.size : Int) ≤ most then (p.1, 0) else pick most l
def ansP (m : MsgV) (edns : Bool) (most : Int) : ByteArray × Int :=
  if putE m = 700 then (⟨#[]⟩, 1000) else if putE m = 701 then (⟨#[]⟩, 1001) else if edns = true ∧ 64 ≤ m.ar.length then (⟨#[]⟩, 1000) else if most < 12 then (⟨#[]⟩, 1001) else pick most (formL m edns)
theorem pick_skip {most : Int} {p : ByteArray × Int} {l : List (ByteArray × Int)} (h : ¬ (p.2 = 0 ∧ (p.1.size : Int) ≤ most)) : pick most (p :: l) = pick most l := if_neg h
theorem pick_take {most : Int} {s : ByteArray} {e : Int} {l : List (ByteArray × Int)} (h0 : e = 0) (h : (s.size : Int) ≤ most) : pick most ((s, e) :: l) = (s, 0) := if_pos ⟨h0, h⟩
set_option maxHeartbeats 4000000 in
set_option maxRecDepth 100000 in
theorem answerc (m : MsgV) (edns : Bool) (most : Int) (w : World) (hm : m.Lies w) : Calls Try.prog 29 #[.agg m.cells, .bool edns, .int .i64 most] w fun e w' => e = .returned (.tuple #[.string (ansP m edns most).1, .int .i64 (ansP m edns most).2]) ∧ Below w.heap.size w w' := by
  have Bx : Below w.heap.size w (w.alloc (.cells m.cells 27)) := (Below.refl _ _).alloc (Nat.le_refl _) _
  have bM := blk_new w (.cells m.cells 27)
  have HM := Lib.hid hm
  clear hm
  go_enter Try.func29, Try.ntmps29
  go_upto_region 1 with (fail)
  generalize w.alloc (.cells m.cells 27) = w1 at *
  have x0 : w1.cell? ⟨w.heap.size, 0, none⟩ = some (.int .i64 m.h.id) := (blk_cell bM 0).trans rfl
  have x1 : w1.cell? ⟨w.heap.size, 1, none⟩ = some (.bool m.h.qr) := (blk_cell bM 1).trans rfl
  have x2 : w1.cell? ⟨w.heap.size, 2, none⟩ = some (.int .i64 m.h.op) := (blk_cell bM 2).trans rfl
  have x3 : w1.cell? ⟨w.heap.size, 3, none⟩ = some (.bool m.h.aa) := (blk_cell bM 3).trans rfl
  have x4 : w1.cell? ⟨w.heap.size, 4, none⟩ = some (.bool m.h.tc) := (blk_cell bM 4).trans rfl
  have x5 : w1.cell? ⟨w.heap.size, 5, none⟩ = some (.bool m.h.rd) := (blk_cell bM 5).trans rfl
  have x6 : w1.cell? ⟨w.heap.size, 6, none⟩ = some (.bool m.h.ra) := (blk_cell bM 6).trans rfl
  have x7 : w1.cell? ⟨w.heap.size, 7, none⟩ = some (.int .i64 m.h.z) := (blk_cell bM 7).trans rfl
  have x8 : w1.cell? ⟨w.heap.size, 8, none⟩ = some (.int .i64 m.h.rc) := (blk_cell bM 8).trans rfl
  have x9 : w1.cell? ⟨w.heap.size, 9, none⟩ = some (.slice m.Aq m.qs.length m.cq) := (blk_cell bM 9).trans rfl
  have x10 : w1.cell? ⟨w.heap.size, 10, none⟩ = some (.slice m.Aa m.an.length m.ca) := (blk_cell bM 10).trans rfl
  have x11 : w1.cell? ⟨w.heap.size, 11, none⟩ = some (.slice m.An m.ns.length m.cn) := (blk_cell bM 11).trans rfl
  have x12 : w1.cell? ⟨w.heap.size, 12, none⟩ = some (.slice m.Ar m.ar.length m.cr) := (blk_cell bM 12).trans rfl
  have kp := putc m w1 (HM.out.below Bx)
  go_wp2_with fail
  refine kp.mono ?_
  rintro e w2 ⟨rfl, hb⟩
  replace Bx := Bx.trans (hb.mono Bx.size)
  replace bM := blk_below bM hb
  clear x0 x1 x2 x3 x4 x5 x6 x7 x8 x9 x10 x11 x12
  clear hb kp
  have HA := Lib.hid (show ansP m edns most = if putE m = 700 then (⟨#[]⟩, 1000) else if putE m = 701 then (⟨#[]⟩, 1001) else if edns = true ∧ 64 ≤ m.ar.length then (⟨#[]⟩, 1000) else if most < 12 then (⟨#[]⟩, 1001) else pick most (formL m edns) from rfl)
  by_cases h0 : putE m = 700
  · have t0 : (putE m == 700) = true := by simpa using h0
    have HR := Lib.hid (HA.out.trans (if_pos h0))
    clear h0 HA
    generalize putE m = te at *
    go_wp2_with fail
    go_ret2
    refine ⟨?_, Bx⟩
    rw [HR.out]
    rfl
  have t0 : (putE m == 700) = false := by simpa using h0
  have HB := Lib.hid (HA.out.trans (if_neg h0))
  clear HA
  by_cases h1 : putE m = 701
  · have t1 : (putE m == 701) = true := by simpa using h1
    have HR := Lib.hid (HB.out.trans (if_pos h1))
    clear h0 h1 HB
    generalize putE m = te at *
    go_wp2_with fail
    go_ret2
    refine ⟨?_, Bx⟩
    rw [HR.out]
    rfl
  have t1 : (putE m == 701) = false := by simpa using h1
  have HC := Lib.hid (HB.out.trans (if_neg h1))
  clear h0 h1 HB
  have te : ∃ te, te = putE m := ⟨_, rfl⟩
  obtain ⟨te, hte⟩ := te
  rw [← hte] at t0 t1 ⊢
  clear hte
  have x12 : w2.cell? ⟨w.heap.size, 12, none⟩ = some (.slice m.Ar m.ar.length m.cr) := (blk_cell bM 12).trans rfl
  cases edns with
  | false =>
    have HD := Lib.hid (HC.out.trans (if_neg (fun k => by cases k.1)))
    clear HC
    by_cases h3 : most < 12
    · have q3 : decide (most < 12) = true := decide_eq_true h3
      have HR := Lib.hid (HD.out.trans (if_pos h3))
      clear h3 HD
      go_wp2_with fail
      go_ret2
      refine ⟨?_, Bx⟩
      rw [HR.out]
      rfl
    have q3 : decide (most < 12) = false := decide_eq_false h3
    have HF := Lib.hid (HD.out.trans (if_neg h3))
    clear h3 HD
    have y0 : w2.cell? ⟨w.heap.size, 0, none⟩ = some (.int .i64 m.h.id) := (blk_cell bM 0).trans rfl
    have y1 : w2.cell? ⟨w.heap.size, 1, none⟩ = some (.bool m.h.qr) := (blk_cell bM 1).trans rfl
    have y2 : w2.cell? ⟨w.heap.size, 2, none⟩ = some (.int .i64 m.h.op) := (blk_cell bM 2).trans rfl
    have y3 : w2.cell? ⟨w.heap.size, 3, none⟩ = some (.bool m.h.aa) := (blk_cell bM 3).trans rfl
    have y4 : w2.cell? ⟨w.heap.size, 4, none⟩ = some (.bool m.h.tc) := (blk_cell bM 4).trans rfl
    have y5 : w2.cell? ⟨w.heap.size, 5, none⟩ = some (.bool m.h.rd) := (blk_cell bM 5).trans rfl
    have y6 : w2.cell? ⟨w.heap.size, 6, none⟩ = some (.bool m.h.ra) := (blk_cell bM 6).trans rfl
    have y7 : w2.cell? ⟨w.heap.size, 7, none⟩ = some (.int .i64 m.h.z) := (blk_cell bM 7).trans rfl
    have y8 : w2.cell? ⟨w.heap.size, 8, none⟩ = some (.int .i64 m.h.rc) := (blk_cell bM 8).trans rfl
    have y9 : w2.cell? ⟨w.heap.size, 9, none⟩ = some (.slice m.Aq m.qs.length m.cq) := (blk_cell bM 9).trans rfl
    have y10 : w2.cell? ⟨w.heap.size, 10, none⟩ = some (.slice m.Aa m.an.length m.ca) := (blk_cell bM 10).trans rfl
    have y11 : w2.cell? ⟨w.heap.size, 11, none⟩ = some (.slice m.An m.ns.length m.cn) := (blk_cell bM 11).trans rfl
    have y12 : w2.cell? ⟨w.heap.size, 12, none⟩ = some (.slice m.Ar m.ar.length m.cr) := (blk_cell bM 12).trans rfl
    go_wp2_with fail
    refine (formsc m false w2).mono ?_
    rintro e w3 ⟨gm, gs, g, rfl, bm, bs, bg, hb⟩
    have B3 := Bx.trans (hb.mono Bx.size)
    clear y0 y1 y2 y3 y4 y5 y6 y7 y8 y9 y10 y11 y12 x12 bM hb Bx
    have c0 : w3.cell? ⟨g, 0, none⟩ = some (fn 81 gm) := (blk_cell bg 0).trans rfl
    have c1 : w3.cell? ⟨g, 1, none⟩ = some (fn 82 gs) := (blk_cell bg 1).trans rfl
    have hgl := blk_lt bg
    simp only [nF, if_true, if_false, Bool.false_eq_true] at *
    go_wp2_with fail
    go_loopg [11, 12, 13, 40] 3 (fun k v11 v12 v13 v40 wr => ∃ i : Nat, v40 = .int .i64 (i : Int) ∧ i + k = 3 ∧ i ≤ 2 ∧ Below w3.heap.size w3 wr ∧ pick most (([(putS m, putE m), (putS (shortM m), putE (shortM m))] : List (ByteArray × Int)).drop i) = pick most (formL m false))
    case atStart => exact ⟨0, rfl, rfl, by omega, Below.refl _ _, rfl⟩
    case round =>
      obtain ⟨i, rfl, hk, hi, hBW, hp⟩ := hrel
      have HBW := Lib.hid hBW
      have hi' : i = 0 ∨ i = 1 ∨ i = 2 := by omega
      rcases hi' with rfl | rfl | rfl
      · have d : wr.cell? ⟨g, 0, none⟩ = some (fn 81 gm) := (hBW.cell hgl).trans c0
        have kq := fn1c m gm wr (blk_below bm hBW) (HM.out.below (B3.trans (hBW.mono B3.size)))
        obtain ⟨s1, hs1⟩ : ∃ s, s = putS m := ⟨_, rfl⟩
        obtain ⟨e1, he1⟩ : ∃ e, e = putE m := ⟨_, rfl⟩
        rw [← hs1, ← he1] at kq
        have hp' : pick most ((s1, e1) :: [(putS (shortM m), putE (shortM m))]) = pick most (formL m false) := by rw [hs1, he1]; exact hp
        have HP := Lib.hid hp'
        have HK := Lib.hid hk
        clear hp hp' hs1 he1 hBW c0 c1 hi hk bm bs bg
        go_wp2_with fail
        refine kq.mono ?_
        rintro e w5 ⟨rfl, hb⟩
        have B5 := HBW.out.trans (hb.mono HBW.out.size)
        clear hb kq
        by_cases h0 : e1 = 0
        · have t3 : (e1 == 0) = true := by simpa using h0
          by_cases h1 : (s1.size : Int) ≤ most
          · have t4 : decide ((s1.size : Int) ≤ most) = true := decide_eq_true h1
            have HT := Lib.hid (HF.out.trans (HP.out.symm.trans (pick_take h0 h1)))
            clear h0 h1
            go_wp2_with fail
            go_ret2
            refine ⟨?_, B3.trans (B5.mono B3.size)⟩
            rw [HT.out]
            rfl
          · have t4 : decide ((s1.size : Int) ≤ most) = false := decide_eq_false h1
            have HN := Lib.hid ((pick_skip (show ¬ (e1 = 0 ∧ (s1.size : Int) ≤ most) from fun k => h1 k.2)).symm.trans HP.out)
            clear h0 h1
            go_wp2_with fail
            go_roundg 2
            case measure => have := HK.out; omega
            case rel => exact ⟨1, rfl, rfl, by omega, B5, HN.out⟩
        · have t3 : (e1 == 0) = false := by simpa using h0
          have HN := Lib.hid ((pick_skip (show ¬ (e1 = 0 ∧ (s1.size : Int) ≤ most) from fun k => h0 k.1)).symm.trans HP.out)
          clear h0
          go_wp2_with fail
          go_roundg 2
          case measure => have := HK.out; omega
          case rel => exact ⟨1, rfl, rfl, by omega, B5, HN.out⟩
      · have d : wr.cell? ⟨g, 1, none⟩ = some (fn 82 gs) := (hBW.cell hgl).trans c1
        have kq := fn2c (shortM m) gs wr (blk_below bs hBW) (short_lies (HM.out.below (B3.trans (hBW.mono B3.size))))
        obtain ⟨s1, hs1⟩ : ∃ s, s = putS (shortM m) := ⟨_, rfl⟩
        obtain ⟨e1, he1⟩ : ∃ e, e = putE (shortM m) := ⟨_, rfl⟩
        rw [← hs1, ← he1] at kq
        have hp' : pick most ((s1, e1) :: []) = pick most (formL m false) := by rw [hs1, he1]; exact hp
        have HP := Lib.hid hp'
        have HK := Lib.hid hk
        clear hp hp' hs1 he1 hBW c0 c1 hi hk bm bs bg
        go_wp2_with fail
        refine kq.mono ?_
        rintro e w5 ⟨rfl, hb⟩
        have B5 := HBW.out.trans (hb.mono HBW.out.size)
        clear hb kq
        by_cases h0 : e1 = 0
        · have t3 : (e1 == 0) = true := by simpa using h0
          by_cases h1 : (s1.size : Int) ≤ most
          · have t4 : decide ((s1.size : Int) ≤ most) = true := decide_eq_true h1
            have HT := Lib.hid (HF.out.trans (HP.out.symm.trans (pick_take h0 h1)))
            clear h0 h1
            go_wp2_with fail
            go_ret2
            refine ⟨?_, B3.trans (B5.mono B3.size)⟩
            rw [HT.out]
            rfl
          · have t4 : decide ((s1.size : Int) ≤ most) = false := decide_eq_false h1
            have HN := Lib.hid ((pick_skip (show ¬ (e1 = 0 ∧ (s1.size : Int) ≤ most) from fun k => h1 k.2)).symm.trans HP.out)
            clear h0 h1
            go_wp2_with fail
            go_roundg 1
            case measure => have := HK.out; omega
            case rel => exact ⟨2, rfl, rfl, by omega, B5, HN.out⟩
        · have t3 : (e1 == 0) = false := by simpa using h0
          have HN := Lib.hid ((pick_skip (show ¬ (e1 = 0 ∧ (s1.size : Int) ≤ most) from fun k => h0 k.1)).symm.trans HP.out)
          clear h0
          go_wp2_with fail
          go_roundg 1
          case measure => have := HK.out; omega
          case rel => exact ⟨2, rfl, rfl, by omega, B5, HN.out⟩
      · have HT := Lib.hid (HF.out.trans hp.symm)
        clear hp
        go_wp2_with fail
        go_ret2
        refine ⟨?_, B3.trans (HBW.out.mono B3.size)⟩
        rw [HT.out]
        rfl
  | true =>
    by_cases h2 : 64 ≤ m.ar.length
    · have q2 : decide ((64 : Int) ≤ (m.ar.length : Int)) = true := by simp; omega
      have HR := Lib.hid (HC.out.trans (if_pos ⟨rfl, h2⟩))
      clear h2 HC
      go_wp2_with fail
      go_ret2
      refine ⟨?_, Bx⟩
      rw [HR.out]
      rfl
    have q2 : decide ((64 : Int) ≤ (m.ar.length : Int)) = false := by simp; omega
    have hl : m.ar.length ≤ 63 := by omega
    have HD := Lib.hid (HC.out.trans (if_neg (fun k => h2 k.2)))
    clear h2 HC
    by_cases h3 : most < 12
    · have q3 : decide (most < 12) = true := decide_eq_true h3
      have HR := Lib.hid (HD.out.trans (if_pos h3))
      clear h3 HD
      go_wp2_with fail
      go_ret2
      refine ⟨?_, Bx⟩
      rw [HR.out]
      rfl
    have q3 : decide (most < 12) = false := decide_eq_false h3
    have HF := Lib.hid (HD.out.trans (if_neg h3))
    clear h3 HD
    have y0 : w2.cell? ⟨w.heap.size, 0, none⟩ = some (.int .i64 m.h.id) := (blk_cell bM 0).trans rfl
    have y1 : w2.cell? ⟨w.heap.size, 1, none⟩ = some (.bool m.h.qr) := (blk_cell bM 1).trans rfl
    have y2 : w2.cell? ⟨w.heap.size, 2, none⟩ = some (.int .i64 m.h.op) := (blk_cell bM 2).trans rfl
    have y3 : w2.cell? ⟨w.heap.size, 3, none⟩ = some (.bool m.h.aa) := (blk_cell bM 3).trans rfl
    have y4 : w2.cell? ⟨w.heap.size, 4, none⟩ = some (.bool m.h.tc) := (blk_cell bM 4).trans rfl
    have y5 : w2.cell? ⟨w.heap.size, 5, none⟩ = some (.bool m.h.rd) := (blk_cell bM 5).trans rfl
    have y6 : w2.cell? ⟨w.heap.size, 6, none⟩ = some (.bool m.h.ra) := (blk_cell bM 6).trans rfl
    have y7 : w2.cell? ⟨w.heap.size, 7, none⟩ = some (.int .i64 m.h.z) := (blk_cell bM 7).trans rfl
    have y8 : w2.cell? ⟨w.heap.size, 8, none⟩ = some (.int .i64 m.h.rc) := (blk_cell bM 8).trans rfl
    have y9 : w2.cell? ⟨w.heap.size, 9, none⟩ = some (.slice m.Aq m.qs.length m.cq) := (blk_cell bM 9).trans rfl
    have y10 : w2.cell? ⟨w.heap.size, 10, none⟩ = some (.slice m.Aa m.an.length m.ca) := (blk_cell bM 10).trans rfl
    have y11 : w2.cell? ⟨w.heap.size, 11, none⟩ = some (.slice m.An m.ns.length m.cn) := (blk_cell bM 11).trans rfl
    have y12 : w2.cell? ⟨w.heap.size, 12, none⟩ = some (.slice m.Ar m.ar.length m.cr) := (blk_cell bM 12).trans rfl
    go_wp2_with fail
    refine (formsc m true w2).mono ?_
    rintro e w3 ⟨gm, gs, g, rfl, bm, bs, bg, hb⟩
    have B3 := Bx.trans (hb.mono Bx.size)
    clear y0 y1 y2 y3 y4 y5 y6 y7 y8 y9 y10 y11 y12 x12 bM hb Bx
    have c0 : w3.cell? ⟨g, 0, none⟩ = some (fn 83 gm) := (blk_cell bg 0).trans rfl
    have c1 : w3.cell? ⟨g, 1, none⟩ = some (fn 84 gs) := (blk_cell bg 1).trans rfl
    have c2 : w3.cell? ⟨g, 2, none⟩ = some (fn 85 gs) := (blk_cell bg 2).trans rfl
    have hgl := blk_lt bg
    simp only [nF, if_true, if_false, Bool.false_eq_true] at *
    go_wp2_with fail
    go_loopg [11, 12, 13, 40] 4 (fun k v11 v12 v13 v40 wr => ∃ i : Nat, v40 = .int .i64 (i : Int) ∧ i + k = 4 ∧ i ≤ 3 ∧ Below w3.heap.size w3 wr ∧ pick most (([(padS m 468, padE m 468), (padS (shortM m) 468, padE (shortM m) 468), (putS (padR (shortM m) ⟨#[]⟩), putE (padR (shortM m) ⟨#[]⟩))] : List (ByteArray × Int)).drop i) = pick most (formL m true))
    case atStart => exact ⟨0, rfl, rfl, by omega, Below.refl _ _, rfl⟩
    case round =>
      obtain ⟨i, rfl, hk, hi, hBW, hp⟩ := hrel
      have HBW := Lib.hid hBW
      have hi' : i = 0 ∨ i = 1 ∨ i = 2 ∨ i = 3 := by omega
      rcases hi' with rfl | rfl | rfl | rfl
      · have d : wr.cell? ⟨g, 0, none⟩ = some (fn 83 gm) := (hBW.cell hgl).trans c0
        have kq := fn3c m gm wr (blk_below bm hBW) (HM.out.below (B3.trans (hBW.mono B3.size))) hl
        obtain ⟨s1, hs1⟩ : ∃ s, s = padS m 468 := ⟨_, rfl⟩
        obtain ⟨e1, he1⟩ : ∃ e, e = padE m 468 := ⟨_, rfl⟩
        rw [← hs1, ← he1] at kq
        have hp' : pick most ((s1, e1) :: [(padS (shortM m) 468, padE (shortM m) 468), (putS (padR (shortM m) ⟨#[]⟩), putE (padR (shortM m) ⟨#[]⟩))]) = pick most (formL m true) := by rw [hs1, he1]; exact hp
        have HP := Lib.hid hp'
        have HK := Lib.hid hk
        clear hp hp' hs1 he1 hBW c0 c1 c2 hi hk bm bs bg
        go_wp2_with fail
        refine kq.mono ?_
        rintro e w5 ⟨rfl, hb⟩
        have B5 := HBW.out.trans (hb.mono HBW.out.size)
        clear hb kq
        by_cases h0 : e1 = 0
        · have t3 : (e1 == 0) = true := by simpa using h0
          by_cases h1 : (s1.size : Int) ≤ most
          · have t4 : decide ((s1.size : Int) ≤ most) = true := decide_eq_true h1
            have HT := Lib.hid (HF.out.trans (HP.out.symm.trans (pick_take h0 h1)))
            clear h0 h1
            go_wp2_with fail
            go_ret2
            refine ⟨?_, B3.trans (B5.mono B3.size)⟩
            rw [HT.out]
            rfl
          · have t4 : decide ((s1.size : Int) ≤ most) = false := decide_eq_false h1
            have HN := Lib.hid ((pick_skip (show ¬ (e1 = 0 ∧ (s1.size : Int) ≤ most) from fun k => h1 k.2)).symm.trans HP.out)
            clear h0 h1
            go_wp2_with fail
            go_roundg 3
            case measure => have := HK.out; omega
            case rel => exact ⟨1, rfl, rfl, by omega, B5, HN.out⟩
        · have t3 : (e1 == 0) = false := by simpa using h0
          have HN := Lib.hid ((pick_skip (show ¬ (e1 = 0 ∧ (s1.size : Int) ≤ most) from fun k => h0 k.1)).symm.trans HP.out)
          clear h0
          go_wp2_with fail
          go_roundg 3
          case measure => have := HK.out; omega
          case rel => exact ⟨1, rfl, rfl, by omega, B5, HN.out⟩
      · have d : wr.cell? ⟨g, 1, none⟩ = some (fn 84 gs) := (hBW.cell hgl).trans c1
        have kq := fn4c (shortM m) gs wr (blk_below bs hBW) (short_lies (HM.out.below (B3.trans (hBW.mono B3.size)))) (Nat.zero_le _)
        obtain ⟨s1, hs1⟩ : ∃ s, s = padS (shortM m) 468 := ⟨_, rfl⟩
        obtain ⟨e1, he1⟩ : ∃ e, e = padE (shortM m) 468 := ⟨_, rfl⟩
        rw [← hs1, ← he1] at kq
        have hp' : pick most ((s1, e1) :: [(putS (padR (shortM m) ⟨#[]⟩), putE (padR (shortM m) ⟨#[]⟩))]) = pick most (formL m true) := by rw [hs1, he1]; exact hp
        have HP := Lib.hid hp'
        have HK := Lib.hid hk
        clear hp hp' hs1 he1 hBW c0 c1 c2 hi hk bm bs bg
        go_wp2_with fail
        refine kq.mono ?_
        rintro e w5 ⟨rfl, hb⟩
        have B5 := HBW.out.trans (hb.mono HBW.out.size)
        clear hb kq
        by_cases h0 : e1 = 0
        · have t3 : (e1 == 0) = true := by simpa using h0
          by_cases h1 : (s1.size : Int) ≤ most
          · have t4 : decide ((s1.size : Int) ≤ most) = true := decide_eq_true h1
            have HT := Lib.hid (HF.out.trans (HP.out.symm.trans (pick_take h0 h1)))
            clear h0 h1
            go_wp2_with fail
            go_ret2
            refine ⟨?_, B3.trans (B5.mono B3.size)⟩
            rw [HT.out]
            rfl
          · have t4 : decide ((s1.size : Int) ≤ most) = false := decide_eq_false h1
            have HN := Lib.hid ((pick_skip (show ¬ (e1 = 0 ∧ (s1.size : Int) ≤ most) from fun k => h1 k.2)).symm.trans HP.out)
            clear h0 h1
            go_wp2_with fail
            go_roundg 2
            case measure => have := HK.out; omega
            case rel => exact ⟨2, rfl, rfl, by omega, B5, HN.out⟩
        · have t3 : (e1 == 0) = false := by simpa using h0
          have HN := Lib.hid ((pick_skip (show ¬ (e1 = 0 ∧ (s1.size : Int) ≤ most) from fun k => h0 k.1)).symm.trans HP.out)
          clear h0
          go_wp2_with fail
          go_roundg 2
          case measure => have := HK.out; omega
          case rel => exact ⟨2, rfl, rfl, by omega, B5, HN.out⟩
      · have d : wr.cell? ⟨g, 2, none⟩ = some (fn 85 gs) := (hBW.cell hgl).trans c2
        have kq := fn5c (shortM m) gs wr (blk_below bs hBW) (short_lies (HM.out.below (B3.trans (hBW.mono B3.size)))) (Nat.zero_le _)
        obtain ⟨s1, hs1⟩ : ∃ s, s = putS (padR (shortM m) ⟨#[]⟩) := ⟨_, rfl⟩
        obtain ⟨e1, he1⟩ : ∃ e, e = putE (padR (shortM m) ⟨#[]⟩) := ⟨_, rfl⟩
        rw [← hs1, ← he1] at kq
        have hp' : pick most ((s1, e1) :: []) = pick most (formL m true) := by rw [hs1, he1]; exact hp
        have HP := Lib.hid hp'
        have HK := Lib.hid hk
        clear hp hp' hs1 he1 hBW c0 c1 c2 hi hk bm bs bg
        go_wp2_with fail
        refine kq.mono ?_
        rintro e w5 ⟨rfl, hb⟩
        have B5 := HBW.out.trans (hb.mono HBW.out.size)
        clear hb kq
        by_cases h0 : e1 = 0
        · have t3 : (e1 == 0) = true := by simpa using h0
          by_cases h1 : (s1.size : Int) ≤ most
          · have t4 : decide ((s1.size : Int) ≤ most) = true := decide_eq_true h1
            have HT := Lib.hid (HF.out.trans (HP.out.symm.trans (pick_take h0 h1)))
            clear h0 h1
            go_wp2_with fail
            go_ret2
            refine ⟨?_, B3.trans (B5.mono B3.size)⟩
            rw [HT.out]
            rfl
          · have t4 : decide ((s1.size : Int) ≤ most) = false := decide_eq_false h1
            have HN := Lib.hid ((pick_skip (show ¬ (e1 = 0 ∧ (s1.size : Int) ≤ most) from fun k => h1 k.2)).symm.trans HP.out)
            clear h0 h1
            go_wp2_with fail
            go_roundg 1
            case measure => have := HK.out; omega
            case rel => exact ⟨3, rfl, rfl, by omega, B5, HN.out⟩
        · have t3 : (e1 == 0) = false := by simpa using h0
          have HN := Lib.hid ((pick_skip (show ¬ (e1 = 0 ∧ (s1.size : Int) ≤ most) from fun k => h0 k.1)).symm.trans HP.out)
          clear h0
          go_wp2_with fail
          go_roundg 1
          case measure => have := HK.out; omega
          case rel => exact ⟨3, rfl, rfl, by omega, B5, HN.out⟩
      · have HT := Lib.hid (HF.out.trans hp.symm)
        clear hp
        go_wp2_with fail
        go_ret2
        refine ⟨?_, B3.trans (HBW.out.mono B3.size)⟩
        rw [HT.out]
        rfl
end Go.Proofs.Ytjklgdpffmaamaa.Pad

namespace Go.Proofs.Ytjklgdpffmaamaa.Pad
open Go.RowKit Go.PlainAid Go.Proofs.Ytjklgdpffmaamaa.Base Go.Proofs.Ytjklgdpffmaamaa.Oct Go.Proofs.Ytjklgdpffmaamaa.Wm Go.Proofs.Ytjklgdpffmaamaa.OptH
open Go.Proofs.YtjklgdpffmaamaaW.PrintWords (blk_cell blk_below blk_put blk_frozen blk_ne blk_new blk_lt blk_grown blk_alloc)
set_option linter.unusedVariables false
set_option linter.unusedSimpArgs false
def mZ : MsgV := ⟨⟨0, false, 0, false, false, false, false, 0, 0⟩, none, 0, [], none, 0, [], none, 0, [], none, 0, []⟩
theorem mZ_lies (w : World) : mZ.Lies w := ⟨.inl rfl, .inl rfl, .inl rfl, .inl rfl, Nat.le_refl _, Nat.le_refl _, Nat.le_refl _, Nat.le_refl _, (by intro r hr; cases hr), (by intro r hr; cases hr), (by intro r hr; cases hr)⟩
theorem a1 : (queryS 258 ⟨#[1, 65, 0]⟩ 1).size = 128 ∧ (queryS 258 ⟨#[1, 65, 0]⟩ 1).extract 0 2 = ⟨#[1, 2]⟩ ∧ bt (queryS 258 ⟨#[1, 65, 0]⟩ 1) 13 = 97 ∧ queryE 258 ⟨#[1, 65, 0]⟩ 1 = 0 ∧ queryE (-1) ⟨#[0]⟩ 1 = 1000 := by decide +kernel
theorem a2 : (ansP mZ true 1232).1.size = 468 ∧ (ansP mZ true 1232).2 = 0 ∧ ansP mZ false 512 = (zeros 12, 0) ∧ ansP mZ false 5 = (⟨#[]⟩, 1001) := by decide +kernel
set_option maxHeartbeats 4000000 in
set_option maxRecDepth 100000 in
theorem awake10 (w : World) : Calls Try.prog 23 #[] w fun e w' => e = .returned (.bool true) ∧ Below w.heap.size w w' := by
  obtain ⟨s1, s2, s3, s4, s5⟩ := a1
  obtain ⟨u1, u2, u3, u4⟩ := a2
  have k1 := fun w => queryc 258 ⟨#[1, 65, 0]⟩ 1 w
  have k2 := fun w => queryc (-1) ⟨#[0]⟩ 1 w
  have k3 := fun w => answerc mZ true 1232 w (mZ_lies w)
  have k4 := fun w => answerc mZ false 512 w (mZ_lies w)
  have k5 := fun w => answerc mZ false 5 w (mZ_lies w)
  rw [s4] at k1
  rw [s5] at k2
  rw [u2] at k3
  rw [u3] at k4
  rw [u4] at k5
  dsimp only at k4 k5
  clear s4 s5 u2 u3 u4
  generalize queryS 258 ⟨#[1, 65, 0]⟩ 1 = S at *
  generalize queryS (-1) ⟨#[0]⟩ 1 = S2 at *
  generalize (ansP mZ true 1232).1 = T at *
  have n0 := fun w => Hd.numc 0 w
  have n1 := fun w => Hd.numc 1000 w
  have n2 := fun w => Hd.numc 1001 w
  have kr := fun w => roomc 5 10 (by decide) (by decide) w
  rw [show roomI 5 10 = 1 by decide] at kr
  have km : ∀ W : World, (Instr.makeSlice 56 (.int .i64 12) (.int .i64 12)).run Try.prog W = .ok (.slice (some ⟨W.heap.size, 0, none⟩) 12 12) (W.alloc (.cells (madeCells #[.int .u8 0] 12) 5)) := fun w => make_zeros 12 (by decide) w
  have kz : ∀ W : World, (convert 56 9 (.slice (some ⟨W.heap.size, 0, none⟩) 12 12)).run Try.prog (W.alloc (.cells (madeCells #[.int .u8 0] 12) 5)) = .ok (.string (zeros 12)) (W.alloc (.cells (madeCells #[.int .u8 0] 12) 5)) := fun w => conv_zeros 12 w
  have gb := get_bt S
  generalize zeros 12 = Z at *
  go_enter Try.func23, Try.ntmps23
  go_wp2_with fail
  refine (k1 _).mono ?_
  rintro e w1 ⟨rfl, B⟩
  go_wp2_with fail
  refine (k2 _).mono ?_
  rintro e w2 ⟨rfl, hb⟩
  replace B := B.trans (hb.mono B.size)
  clear hb
  go_wp2_with fail
  refine (k3 _).mono ?_
  rintro e w3 ⟨rfl, hb⟩
  replace B := B.trans (hb.mono B.size)
  clear hb
  go_wp2_with fail
  refine (k4 _).mono ?_
  rintro e w4 ⟨rfl, hb⟩
  replace B := B.trans (hb.mono B.size)
  clear hb
  go_wp2_with fail
  refine (k5 _).mono ?_
  rintro e w5 ⟨rfl, hb⟩
  replace B := B.trans (hb.mono B.size)
  clear hb k1 k2 k3 k4 k5
  go_wp2_with fail
  refine (n0 _).mono ?_
  rintro e w6 ⟨rfl, rfl⟩
  go_wp2_with fail
  refine (n1 _).mono ?_
  rintro e w6 ⟨rfl, rfl⟩
  go_wp2_with fail
  refine (n0 _).mono ?_
  rintro e w6 ⟨rfl, rfl⟩
  go_wp2_with fail
  refine (n0 _).mono ?_
  rintro e w6 ⟨rfl, rfl⟩
  go_wp2_with fail
  refine (n2 _).mono ?_
  rintro e w6 ⟨rfl, rfl⟩
  go_wp2_with fail
  refine (kr _).mono ?_
  rintro e w6 ⟨rfl, rfl⟩
  go_wp2_with fail
  go_ret
  exact ⟨rfl, B.alloc B.size _⟩
end Go.Proofs.Ytjklgdpffmaamaa.Pad

namespace Go.Proofs.Ytjklgdpffmaamaa.Pad
open Go.RowKit Go.PlainAid Go.Proofs.Ytjklgdpffmaamaa.Base Go.Proofs.Ytjklgdpffmaamaa.Oct Go.Proofs.Ytjklgdpffmaamaa.Nm Go.Proofs.Ytjklgdpffmaamaa.Wr Go.Proofs.Ytjklgdpffmaamaa.Wm Go.Proofs.Ytjklgdpffmaamaa.Fo
set_option linter.unusedVariables false
theorem optD_size (k : Nat) : (optD k).size = 4 + k := by unfold optD; simp only [ByteArray.size_append, p16_size, zeros_size]
end Go.Proofs.Ytjklgdpffmaamaa.Pad

namespace Go.Proofs.Ytjklgdpffmaamaa.AnsThy
open Go.RowKit Go.PlainAid Go.Proofs.Ytjklgdpffmaamaa.Base Go.Proofs.Ytjklgdpffmaamaa.Oct Go.Proofs.Ytjklgdpffmaamaa.Nm Go.Proofs.Ytjklgdpffmaamaa.Wr Go.Proofs.Ytjklgdpffmaamaa.Wm Go.Proofs.Ytjklgdpffmaamaa.Fo Go.Proofs.Ytjklgdpffmaamaa.Pad
open Go.Proofs.YtjklgdpffmaamaaW.PrintWords (Ev)
set_option linter.unusedVariables false
theorem put_ok {m : MsgV} (h : putE m = 0) : putOk m = true ∧ (putEnd m).lg = false := by
  by_cases H : putOk m = true ∧ (putEnd m).lg = false
  · exact H
  · obtain ⟨_, s2⟩ := put_err H
    rcases s2 with ⟨h', _⟩ | ⟨h', _⟩ <;> rw [h'] at h <;> exact absurd h (by decide)
theorem own {m : MsgV} (h : putE m = 0) : Ev (fun k => getV k (putS m)) ⟨m.h, m.qs, m.an, m.ns, m.ar, 0⟩ ∧ 12 ≤ (putS m).size ∧ (putS m).size ≤ 4096 ∧ m.qs.length ≤ 64 ∧ m.an.length ≤ 64 ∧ m.ns.length ≤ 64 ∧ m.ar.length ≤ 64 ∧ ∀ r ∈ m.ar, rMay r = true := by
  have H := put_ok h
  obtain ⟨s1, s2, s3, s4⟩ := put_S H.1 H.2
  obtain ⟨_, _, ⟨n1, n2, n3, n4⟩, _, _, _, q4⟩ := putOk_parts H.1
  rw [s1]
  refine ⟨?_, s3, s4, n1, n2, n3, n4, q4⟩
  have := get_put H.1 H.2 ⟨#[]⟩ (by rw [Wm.app_nil]; exact s4)
  rwa [Wm.app_nil, if_pos (show (⟨#[]⟩ : ByteArray).size = 0 from rfl)] at this
/-- What stands ahead of the OPT. -/
def base (m : MsgV) : St := m.ar.foldl rSt (m.ns.foldl rSt (m.an.foldl rSt (m.qs.foldl qStep (st0 (hStr (padR m ⟨#[]⟩))))))
theorem end_eq (m : MsgV) (d : ByteArray) : putEnd (padR m d) = rSt (base m) (optR d) := by
  have e : hStr (padR m d) = hStr (padR m ⟨#[]⟩) := by
    unfold hStr
    show Hd.wroteS m.h _ _ _ ((m.ar ++ [optR d]).length : Int) = Hd.wroteS m.h _ _ _ ((m.ar ++ [optR ⟨#[]⟩]).length : Int)
    rw [List.length_append, List.length_append]; rfl
  unfold putEnd putSt
  rw [e]
  show (m.ar ++ [optR d]).foldl rSt _ = _
  rw [List.foldl_append]; rfl
theorem opt_size {m : MsgV} {d : ByteArray} (h : putE (padR m d) = 0) : (putS (padR m d)).size = (base m).S.size + 11 + d.size := by
  have H := put_ok h
  have l := H.2
  rw [end_eq] at l
  obtain ⟨_, _, _, e⟩ := rSt_ok l
  rw [(put_S H.1 H.2).1, end_eq, e]
  have ho : (outN (base m).m (optR d).name).size = 1 := by show (outN (base m).m root).size = 1; rw [outN_root]; rfl
  simp only [ByteArray.size_append, ho, p16_size, p32_size]
  show (base m).S.size + 1 + (2 + 2) + (4 + 2 + d.size) = _
  omega
theorem pad_size {m : MsgV} (h : padE m 468 = 0) : ∃ d, padS m 468 = putS (padR m d) ∧ putE (padR m d) = 0 ∧ (putS (padR m d)).size % 468 = 0 := by
  by_cases e0 : putE (padR m ⟨#[]⟩) = 0
  · unfold padE at h
    unfold padS
    rw [if_pos e0] at h ⊢
    have z0 := opt_size e0
    have z0 : (putS (padR m ⟨#[]⟩)).size = (base m).S.size + 11 + 0 := z0
    have z1 := opt_size h
    have hr : roomN m 468 = (roomI (((base m).S.size + 11 : Nat) : Int) 468).toNat := by unfold roomN; rw [z0, Nat.add_zero]
    obtain ⟨r0, r1⟩ := room_bd (((base m).S.size + 11 : Nat) : Int) 468 (by decide)
    have r2 := room_fill (((base m).S.size + 11 : Nat) : Int) 468 (by omega) (by decide)
    obtain ⟨k, hk⟩ : ∃ k : Nat, roomI (((base m).S.size + 11 : Nat) : Int) 468 = (k : Int) := ⟨(roomI (((base m).S.size + 11 : Nat) : Int) 468).toNat, by omega⟩
    rw [hr, hk, Int.toNat_natCast] at h z1 ⊢
    rw [hk] at r0 r1 r2
    refine ⟨_, rfl, h, ?_⟩
    rw [z1, optD_size]
    omega
  · unfold padE at h
    rw [if_neg e0] at h
    exact absurd h e0
/-- A message with an OPT behind. -/
def Opts (X : MsgV) : Prop := ∃ rs d, X.ar = rs ++ [optR d]
theorem pick_cases (most : Int) (l : List (ByteArray × Int)) : pick most l = (⟨#[]⟩, 1001) ∨ ∃ p ∈ l, p.2 = 0 ∧ (p.1.size : Int) ≤ most ∧ pick most l = (p.1, 0) := by
  induction l with
  | nil => exact .inl rfl
  | cons p l ih =>
    by_cases h : p.2 = 0 ∧ (p.1.size : Int) ≤ most
    · exact .inr ⟨p, List.mem_cons_self .., h.1, h.2, if_pos h⟩
    · rw [pick_skip h]
      rcases ih with ih | ⟨q, hq, k⟩
      · exact .inl ih
      · exact .inr ⟨q, List.mem_cons_of_mem _ hq, k⟩
theorem ans_cases (m : MsgV) (edns : Bool) (most : Int) : (∃ e, ansP m edns most = (⟨#[]⟩, e) ∧ (e = 1000 ∨ e = 1001)) ∨ ∃ p ∈ formL m edns, p.2 = 0 ∧ (p.1.size : Int) ≤ most ∧ ansP m edns most = (p.1, 0) := by
  unfold ansP
  by_cases h1 : putE m = 700
  · rw [if_pos h1]; exact .inl ⟨_, rfl, .inl rfl⟩
  rw [if_neg h1]
  by_cases h2 : putE m = 701
  · rw [if_pos h2]; exact .inl ⟨_, rfl, .inr rfl⟩
  rw [if_neg h2]
  by_cases h3 : edns = true ∧ 64 ≤ m.ar.length
  · rw [if_pos h3]; exact .inl ⟨_, rfl, .inl rfl⟩
  rw [if_neg h3]
  by_cases h4 : most < 12
  · rw [if_pos h4]; exact .inl ⟨_, rfl, .inr rfl⟩
  rw [if_neg h4]
  rcases pick_cases most (formL m edns) with h | h
  · exact .inl ⟨_, h, .inr rfl⟩
  · exact .inr h
/-- With an OPT. -/
theorem ans_opt (m : MsgV) (most : Int) : (∃ e, ansP m true most = (⟨#[]⟩, e) ∧ (e = 1000 ∨ e = 1001)) ∨
    ∃ X : MsgV, ansP m true most = (putS X, 0) ∧ putE X = 0 ∧ ((putS X).size : Int) ≤ most ∧ Opts X ∧ ((putS X).size % 468 = 0 ∨ X.h.tc = true ∧ X.an = [] ∧ X.ns = []) := by
  rcases ans_cases m true most with h | ⟨p, hp, h0, h1, h2⟩
  · exact .inl h
  · refine .inr ?_
    rw [show formL m true = [(padS m 468, padE m 468), (padS (shortM m) 468, padE (shortM m) 468), (putS (padR (shortM m) ⟨#[]⟩), putE (padR (shortM m) ⟨#[]⟩))] from if_pos rfl] at hp
    simp only [List.mem_cons, List.not_mem_nil, or_false] at hp
    rcases hp with rfl | rfl | rfl
    · obtain ⟨d, e1, e2, e3⟩ := pad_size h0
      dsimp only at h1 h2
      rw [e1] at h1 h2
      exact ⟨padR m d, h2, e2, h1, ⟨m.ar, d, rfl⟩, .inl e3⟩
    · obtain ⟨d, e1, e2, e3⟩ := pad_size h0
      dsimp only at h1 h2
      rw [e1] at h1 h2
      exact ⟨padR (shortM m) d, h2, e2, h1, ⟨_, d, rfl⟩, .inl e3⟩
    · exact ⟨padR (shortM m) ⟨#[]⟩, h2, h0, h1, ⟨_, _, rfl⟩, .inr ⟨rfl, rfl, rfl⟩⟩
/-- Without one. -/
theorem ans_bare (m : MsgV) (most : Int) : (∃ e, ansP m false most = (⟨#[]⟩, e) ∧ (e = 1000 ∨ e = 1001)) ∨
    ∃ X : MsgV, ansP m false most = (putS X, 0) ∧ putE X = 0 ∧ ((putS X).size : Int) ≤ most ∧ (X = m ∨ X = shortM m) := by
  rcases ans_cases m false most with h | ⟨p, hp, h0, h1, h2⟩
  · exact .inl h
  · refine .inr ?_
    rw [show formL m false = [(putS m, putE m), (putS (shortM m), putE (shortM m))] from if_neg (by decide)] at hp
    simp only [List.mem_cons, List.not_mem_nil, or_false] at hp
    rcases hp with rfl | rfl
    · exact ⟨m, h2, h0, h1, .inl rfl⟩
    · exact ⟨shortM m, h2, h0, h1, .inr rfl⟩
end Go.Proofs.Ytjklgdpffmaamaa.AnsThy

namespace Go.Proofs.Ytjklgdpffmaamaa.PGo
open Go.RowKit Go.Proofs.YtjklgdpffmaamaaW.PrintWords Go.Proofs.YtjklgdpffmaamaaW.PrintLast Go.Proofs.YtjklgdpffmaamaaW.PrintMore
attribute [local go_sem] max2_int min2_int max_two min_two max_three min_three max_four min_four   -- for this text's walks alone
set_option linter.unusedVariables false
set_option linter.unusedSimpArgs false

def errW : Option Int → Value
  | none => .nilIface
  | some c => .iface 0 (.int .i64 c)
theorem errW_none : errW none = .nilIface := rfl
theorem errW_some (c : Int) : errW (some c) = .iface 0 (.int .i64 c) := rfl

theorem info55 : (Try.prog.info? 55).map (fun i => (i.zero, i.size, i.bytes)) = some (some (.agg #[(.int .i64 0), (.string ⟨#[]⟩)]), 2, 24) := by kernel_rfl
-- the values' own types
/-! #### struct type 55 -/
structure S55 where
  f0 : Int
  f1 : ByteArray
def k55 : Kd S55 := Kd.iso (Kd.pair (Kd.int .i64) Kd.string) (fun x : S55 => (x.f0, x.f1))
theorem k55_mkM (w : World) (base : Nat) (ok : Nat → Prop) (x : S55)  : k55.M w base ok x [.int .i64 x.f0, .string x.f1] := ⟨[.int .i64 x.f0], [.string x.f1], rfl, rfl, rfl⟩
/-! #### struct type 53 -/
structure S53 where
  f0 : ByteArray
  f1 : Int
  f2 : Int
  f3 : Int
  f4 : ByteArray
def z53 : S53 := ⟨(⟨#[]⟩ : ByteArray), (0 : Int), (0 : Int), (0 : Int), (⟨#[]⟩ : ByteArray)⟩
def k53 : Kd S53 := Kd.iso (Kd.pair Kd.string (Kd.pair (Kd.int .i64) (Kd.pair (Kd.int .i64) (Kd.pair (Kd.int .i64) Kd.string)))) (fun x : S53 => (x.f0, x.f1, x.f2, x.f3, x.f4))
theorem k53_open {w : World} {x : S53} {cs : List Value} (h : k53.K w x cs) : cs = [.string x.f0, .int .i64 x.f1, .int .i64 x.f2, .int .i64 x.f3, .string x.f4] := by
  obtain ⟨_, _, rfl, rfl, ⟨_, _, rfl, rfl, ⟨_, _, rfl, rfl, ⟨_, _, rfl, rfl, rfl⟩⟩⟩⟩ := h
  exact rfl
theorem k53_mkM (w : World) (base : Nat) (ok : Nat → Prop) (x : S53)  : k53.M w base ok x [.string x.f0, .int .i64 x.f1, .int .i64 x.f2, .int .i64 x.f3, .string x.f4] := ⟨[.string x.f0], [.int .i64 x.f1, .int .i64 x.f2, .int .i64 x.f3, .string x.f4], rfl, rfl, ⟨[.int .i64 x.f1], [.int .i64 x.f2, .int .i64 x.f3, .string x.f4], rfl, rfl, ⟨[.int .i64 x.f2], [.int .i64 x.f3, .string x.f4], rfl, rfl, ⟨[.int .i64 x.f3], [.string x.f4], rfl, rfl, rfl⟩⟩⟩⟩
def rd_T53 (xs : List S53) (i : Int) : S53 := xs.getD i.toNat z53
theorem at_T53 {w : World} {A : Option Addr} {n : Nat} {xs : List S53} (h : Kd.C k53 w A n xs) (i : Int) (h0 : 0 ≤ i) (h1 : i < n) : ∃ ad , A = some ad ∧ w.cell? (ad.add (i.toNat * 5)) = some (.string (rd_T53 xs i).f0) ∧ w.cell? ⟨(ad.add (i.toNat * 5)).block, (ad.add (i.toNat * 5)).off + 1, none⟩ = some (.int .i64 (rd_T53 xs i).f1) ∧ w.cell? ⟨(ad.add (i.toNat * 5)).block, (ad.add (i.toNat * 5)).off + 2, none⟩ = some (.int .i64 (rd_T53 xs i).f2) ∧ w.cell? ⟨(ad.add (i.toNat * 5)).block, (ad.add (i.toNat * 5)).off + 3, none⟩ = some (.int .i64 (rd_T53 xs i).f3) ∧ w.cell? ⟨(ad.add (i.toNat * 5)).block, (ad.add (i.toNat * 5)).off + 4, none⟩ = some (.string (rd_T53 xs i).f4) := by
  obtain ⟨ad, c, e, _, hK, hc0⟩ := Kd.C_get h z53 i h0 h1
  have hc : ∀ j u, c[j]? = some u → w.cell? (ad.add (i.toNat * 5 + j)) = some u := hc0
  obtain rfl := k53_open hK
  exact ⟨ad, e, hc 0 _ rfl, by rw [← add_field _ _ 1 (by omega)]; exact hc 1 _ rfl, by rw [← add_field _ _ 2 (by omega)]; exact hc 2 _ rfl, by rw [← add_field _ _ 3 (by omega)]; exact hc 3 _ rfl, by rw [← add_field _ _ 4 (by omega)]; exact hc 4 _ rfl⟩

/-! #### struct type 40 -/
structure S40 where
  f0 : ByteArray
  f1 : Int
  f2 : Int
def z40 : S40 := ⟨(⟨#[]⟩ : ByteArray), (0 : Int), (0 : Int)⟩
def k40 : Kd S40 := Kd.iso (Kd.pair Kd.string (Kd.pair (Kd.int .i64) (Kd.int .i64))) (fun x : S40 => (x.f0, x.f1, x.f2))
theorem k40_open {w : World} {x : S40} {cs : List Value} (h : k40.K w x cs) : cs = [.string x.f0, .int .i64 x.f1, .int .i64 x.f2] := by
  obtain ⟨_, _, rfl, rfl, ⟨_, _, rfl, rfl, rfl⟩⟩ := h
  exact rfl
theorem k40_mkM (w : World) (base : Nat) (ok : Nat → Prop) (x : S40)  : k40.M w base ok x [.string x.f0, .int .i64 x.f1, .int .i64 x.f2] := ⟨[.string x.f0], [.int .i64 x.f1, .int .i64 x.f2], rfl, rfl, ⟨[.int .i64 x.f1], [.int .i64 x.f2], rfl, rfl, rfl⟩⟩
def rd_T40 (xs : List S40) (i : Int) : S40 := xs.getD i.toNat z40
theorem at_T40 {w : World} {A : Option Addr} {n : Nat} {xs : List S40} (h : Kd.C k40 w A n xs) (i : Int) (h0 : 0 ≤ i) (h1 : i < n) : ∃ ad , A = some ad ∧ w.cell? (ad.add (i.toNat * 3)) = some (.string (rd_T40 xs i).f0) ∧ w.cell? ⟨(ad.add (i.toNat * 3)).block, (ad.add (i.toNat * 3)).off + 1, none⟩ = some (.int .i64 (rd_T40 xs i).f1) ∧ w.cell? ⟨(ad.add (i.toNat * 3)).block, (ad.add (i.toNat * 3)).off + 2, none⟩ = some (.int .i64 (rd_T40 xs i).f2) := by
  obtain ⟨ad, c, e, _, hK, hc0⟩ := Kd.C_get h z40 i h0 h1
  have hc : ∀ j u, c[j]? = some u → w.cell? (ad.add (i.toNat * 3 + j)) = some u := hc0
  obtain rfl := k40_open hK
  exact ⟨ad, e, hc 0 _ rfl, by rw [← add_field _ _ 1 (by omega)]; exact hc 1 _ rfl, by rw [← add_field _ _ 2 (by omega)]; exact hc 2 _ rfl⟩

end Go.Proofs.Ytjklgdpffmaamaa.PGo

namespace Go.Proofs.Ytjklgdpffmaamaa.PGo
open Go.RowKit Go.Proofs.YtjklgdpffmaamaaW.PrintWords Go.Proofs.YtjklgdpffmaamaaW.PrintLast Go.Proofs.YtjklgdpffmaamaaW.PrintMore
attribute [local go_sem] max2_int min2_int max_two min_two max_three min_three max_four min_four   -- for this text's walks alone
set_option linter.unusedVariables false
set_option linter.unusedSimpArgs false

/-! ### wimpleref4_short: function 52 -/
def wimpleref4_short.f (a0 : Int) : Option (Bool) := if a0 ≥ 0 then (some (decide (a0 ≤ 65535))) else (some false)
set_option maxHeartbeats 8000000 in
set_option maxRecDepth 100000 in
theorem wimpleref4_short.calls (a0 : Int) (r : Bool) (w : World) (h : wimpleref4_short.f a0 = some r) :
    Calls Try.prog 52 #[.int .i64 a0] w fun e w' => e = .returned (.bool r) ∧ Drawn0 w w' := by
  have H : (if a0 ≥ 0 then (some (decide (a0 ≤ 65535))) else (some false)) = some r := h
  clear h
  by_cases c2 : a0 ≥ 0
  · rw [if_pos c2] at H
    have c2b0 : decide (0 ≤ a0) = true := decide_eq_true c2
    clear c2
    obtain rfl := Option.some.inj H
    go_enter Try.func52, Try.ntmps52
    go_wp2
    go_ret
    exact ⟨by first | rfl | (simp; done) | (simp [*]; done), by repeat (first | exact Drawn0.refl _ | apply Drawn0.step)⟩
  · rw [if_neg c2] at H
    have c2b0 : decide (0 ≤ a0) = false := decide_eq_false c2
    clear c2
    obtain rfl := Option.some.inj H
    go_enter Try.func52, Try.ntmps52
    go_wp2
    go_ret
    exact ⟨by first | rfl | (simp; done) | (simp [*]; done), by repeat (first | exact Drawn0.refl _ | apply Drawn0.step)⟩

/-! ### wimpleref4_wide: function 53 -/
def wimpleref4_wide.f (a0 : Int) : Option (Bool) := if a0 ≥ 0 then (some (decide (a0 ≤ 4294967295))) else (some false)
set_option maxHeartbeats 8000000 in
set_option maxRecDepth 100000 in
theorem wimpleref4_wide.calls (a0 : Int) (r : Bool) (w : World) (h : wimpleref4_wide.f a0 = some r) :
    Calls Try.prog 53 #[.int .i64 a0] w fun e w' => e = .returned (.bool r) ∧ Drawn0 w w' := by
  have H : (if a0 ≥ 0 then (some (decide (a0 ≤ 4294967295))) else (some false)) = some r := h
  clear h
  by_cases c2 : a0 ≥ 0
  · rw [if_pos c2] at H
    have c2b0 : decide (0 ≤ a0) = true := decide_eq_true c2
    clear c2
    obtain rfl := Option.some.inj H
    go_enter Try.func53, Try.ntmps53
    go_wp2
    go_ret
    exact ⟨by first | rfl | (simp; done) | (simp [*]; done), by repeat (first | exact Drawn0.refl _ | apply Drawn0.step)⟩
  · rw [if_neg c2] at H
    have c2b0 : decide (0 ≤ a0) = false := decide_eq_false c2
    clear c2
    obtain rfl := Option.some.inj H
    go_enter Try.func53, Try.ntmps53
    go_wp2
    go_ret
    exact ⟨by first | rfl | (simp; done) | (simp [*]; done), by repeat (first | exact Drawn0.refl _ | apply Drawn0.step)⟩

/-! ### wimpleref1_Num: function 54 -/
mutual
def wimpleref1_Num.j0 : Nat → ByteArray → Int → Int → Bool → Option (Int × Int × Int)
  | 0, _, _, _, _ => none
  | k + 1, x0, x1, x2, x26 => if x26 = true then (some (0, 0, 300)) else (wimpleref1_Num.l0 k x0 x1 x2 0 0)
def wimpleref1_Num.l0 : Nat → ByteArray → Int → Int → Int → Int → Option (Int × Int × Int)
  | 0, _, _, _, _, _ => none
  | k + 1, x0, x1, x2, x9, x10 => if x10 < x2 then (if 0 ≤ (wrap64 (x1 + x10)) then (if (wrap64 (x1 + x10)) < (x0.size : Int) then (wimpleref1_Num.l0 k x0 x1 x2 (Go.bits .or .i64 (wrap64 (x9 * 256)) (wrap64 (bt x0 (wrap64 (x1 + x10))))) (wrap64 (x10 + 1))) else (none)) else (none)) else (some (x9, wrap64 (x1 + x2), 0))
end
def wimpleref1_Num.f (k : Nat) (a0 : ByteArray) (a1 : Int) (a2 : Int) : Option (Int × Int × Int) := if a1 < 0 then (wimpleref1_Num.j0 k a0 a1 a2 true) else (if a1 > (a0.size : Int) then (wimpleref1_Num.j0 k a0 a1 a2 true) else (wimpleref1_Num.j0 k a0 a1 a2 (decide (a2 > (wrap64 ((a0.size : Int) - a1))))))
set_option maxHeartbeats 8000000 in
set_option maxRecDepth 100000 in
theorem wimpleref1_Num.calls (k : Nat) (a0 : ByteArray) (a1 : Int) (a2 : Int) (r1 : Int) (r2 : Int) (r3 : Int) (w : World) (h : wimpleref1_Num.f k a0 a1 a2 = some (r1, r2, r3)) :
    Calls Try.prog 54 #[.string a0, .int .i64 a1, .int .i64 a2] w fun e w' => e = .returned (.tuple #[.int .i64 r1, .int .i64 r2, .int .i64 r3]) ∧ Drawn0 w w' := by
  have H : (if a1 < 0 then (wimpleref1_Num.j0 k a0 a1 a2 true) else (if a1 > (a0.size : Int) then (wimpleref1_Num.j0 k a0 a1 a2 true) else (wimpleref1_Num.j0 k a0 a1 a2 (decide (a2 > (wrap64 ((a0.size : Int) - a1))))))) = some (r1, r2, r3) := h
  clear h
  have HC4 := Aside0.mk H
  clear H
  go_enter Try.func54, Try.ntmps54
  go_upto_region 1 with (fail)
  go_cut [26] (fun v26 wc => ∃ (kq : Nat) (x26_3 : Bool), v26 = .bool x26_3 ∧ Aside0 (wimpleref1_Num.j0 kq a0 a1 a2 x26_3 = some (r1, r2, r3)) ∧ Aside0 (kq ≤ k) ∧ Drawn0 w wc)
  case first =>
    have H := HC4.out
    clear HC4
    by_cases c5 : a1 < 0
    · rw [if_pos c5] at H
      have c5b0 : decide (a1 < 0) = true := decide_eq_true c5
      clear c5
      (first | rw [c5b0] | (simp only [i64_w, i32_w]; rw [c5b0]) | skip)
      have H' := Aside0.mk H
      clear H
      go_wp2
      go_meet
      case rel => exact ⟨_, (true), (by first | rfl | (simp; done) | (simp [*]; done)), H', ⟨by first | omega | exact Nat.le_refl _⟩, by repeat (first | exact Drawn0.refl _ | apply Drawn0.step)⟩
    · rw [if_neg c5] at H
      have c5b0 : decide (a1 < 0) = false := decide_eq_false c5
      clear c5
      (first | rw [c5b0] | (simp only [i64_w, i32_w]; rw [c5b0]) | skip)
      by_cases c6 : a1 > (a0.size : Int)
      · rw [if_pos c6] at H
        have c6b0 : decide ((a0.size : Int) < a1) = true := decide_eq_true c6
        clear c6
        have H' := Aside0.mk H
        clear H
        go_wp2
        go_meet
        case rel => exact ⟨_, (true), (by first | rfl | (simp; done) | (simp [*]; done)), H', ⟨by first | omega | exact Nat.le_refl _⟩, by repeat (first | exact Drawn0.refl _ | apply Drawn0.step)⟩
      · rw [if_neg c6] at H
        have c6b0 : decide ((a0.size : Int) < a1) = false := decide_eq_false c6
        clear c6
        have H' := Aside0.mk H
        clear H
        go_wp2
        go_meet
        case rel => exact ⟨_, (decide (a2 > (wrap64 ((a0.size : Int) - a1)))), (by first | rfl | (simp; done) | (simp [*]; done)), H', ⟨by first | omega | exact Nat.le_refl _⟩, by repeat (first | exact Drawn0.refl _ | apply Drawn0.step)⟩
  case rest =>
    clear HC4
    try clear p2
    try clear c5
    try clear c5b0
    try clear c6
    try clear c6b0
    try clear p6
    obtain ⟨kq, x26_3, rfl, HA, HJ3, ⟨mc3, rfl⟩⟩ := hcut
    cases kq with
    | zero => exact absurd HA.out (by simp [wimpleref1_Num.j0])
    | succ kj3 =>
      have H := HA.out
      clear HA
      simp only [wimpleref1_Num.j0] at H
      by_cases c7 : x26_3 = true
      · subst c7
        have H1 : (some (0, 0, 300)) = some (r1, r2, r3) := by rw [if_pos rfl] at H; exact H
        clear H
        have H := H1
        clear H1
        simp only [Option.some.injEq, Prod.mk.injEq] at H
        obtain ⟨rfl, rfl, rfl⟩ := H
        go_wp2
        go_ret3
        exact ⟨by first | rfl | (simp; done) | (simp [*]; done), by repeat (first | exact Drawn0.refl _ | apply Drawn0.step)⟩
      · replace c7 := Bool.eq_false_iff.mpr c7
        subst c7
        have H1 : (wimpleref1_Num.l0 kj3 a0 a1 a2 0 0) = some (r1, r2, r3) := by rw [if_neg (show ¬ (false = true) by decide)] at H; exact H
        clear H
        have H := H1
        clear H1
        have H' := Aside0.mk H
        clear H
        go_wp2
        go_loopg [9, 10] kj3 (fun kq v9 v10 w' => ∃ (x9_2 : Int) (x10_2 : Int), v9 = .int .i64 x9_2 ∧ v10 = .int .i64 x10_2 ∧ Aside0 (wimpleref1_Num.l0 kq a0 a1 a2 x9_2 x10_2 = some (r1, r2, r3)) ∧ Aside0 (kq ≤ kj3) ∧ Drawn0 w w')
        case atStart => exact ⟨(0), (0), (by first | rfl | (simp; done) | (simp [*]; done)), (by first | rfl | (simp; done) | (simp [*]; done)), H', ⟨Nat.le_refl _⟩, by repeat (first | exact Drawn0.refl _ | apply Drawn0.step)⟩
        case round =>
          clear H'
          try clear p2
          try clear c3
          try clear c5
          try clear c5b0
          try clear c6
          try clear c6b0
          try clear p6
          try clear c7
          try clear p2
          try clear p6
          obtain ⟨x9_2, x10_2, rfl, rfl, HA, HK2, ⟨m2, rfl⟩⟩ := hrel
          cases gk with
          | zero => exact absurd HA.out (by simp [wimpleref1_Num.l0])
          | succ k2 =>
            have H := HA.out
            clear HA
            simp only [wimpleref1_Num.l0] at H
            by_cases c8 : x10_2 < a2
            · rw [if_pos c8] at H
              have c8b0 : decide (x10_2 < a2) = true := decide_eq_true c8
              clear c8
              obtain ⟨ji9, hji9⟩ : ∃ j_ : Int, (wrap64 (a1 + x10_2)) = j_ := ⟨_, rfl⟩
              replace H : (if 0 ≤ (ji9) then (if (ji9) < (a0.size : Int) then (wimpleref1_Num.l0 k2 a0 a1 a2 (Go.bits .or .i64 (wrap64 (x9_2 * 256)) (wrap64 (bt a0 (ji9)))) (wrap64 (x10_2 + 1))) else (none)) else (none)) = some (r1, r2, r3) := by first | (rw [hji9] at H; exact H) | (simp only [hji9] at H ⊢; exact H)
              have hji9w : (IntKind.i64.wrap (a1 + x10_2)) = ji9 := (i64_w _).trans hji9
              by_cases c10 : 0 ≤ (ji9)
              · rw [if_pos c10] at H
                have c10b0 : decide (0 ≤ (ji9)) = true := decide_eq_true c10
                clear c10
                by_cases c11 : (ji9) < (a0.size : Int)
                · rw [if_pos c11] at H
                  have c11b0 : decide ((ji9) < (a0.size : Int)) = true := decide_eq_true c11
                  clear c11
                  have H' := Aside0.mk H
                  clear H
                  have p12 : 0 ≤ ((ji9) : Int) := of_decide_eq_true (by first | (with_reducible assumption) | assumption)
                  have q12 : (ji9) < (a0.size : Int) := of_decide_eq_true (by first | (with_reducible assumption) | assumption)
                  have hx12 := bt_at a0 (ji9)
                  replace p12 := eq_true p12
                  replace q12 := eq_true q12
                  go_wp2
                  go_roundg k2
                  case measure => have := HJ3.out; have := HK2.out; omega
                  case rel => exact ⟨(Go.bits .or .i64 (wrap64 (x9_2 * 256)) (wrap64 (bt a0 (ji9)))), (wrap64 (x10_2 + 1)), (by first | rfl | (simp; done) | (simp only [← hji9] <;> (first | rfl | simp)) | (simp [*]; done)), (by first | rfl | (simp; done) | (simp [*]; done)), H', ⟨by have := HJ3.out; have := HK2.out; omega⟩, by repeat (first | exact Drawn0.refl _ | apply Drawn0.step)⟩
                · rw [if_neg c11] at H
                  exact absurd H (by simp)
              · rw [if_neg c10] at H
                exact absurd H (by simp)
            · rw [if_neg c8] at H
              have c8b0 : decide (x10_2 < a2) = false := decide_eq_false c8
              clear c8
              simp only [Option.some.injEq, Prod.mk.injEq] at H
              obtain ⟨rfl, rfl, rfl⟩ := H
              go_wp2
              go_ret3
              exact ⟨by first | rfl | (simp; done) | (simp [*]; done), by repeat (first | exact Drawn0.refl _ | apply Drawn0.step)⟩

end Go.Proofs.Ytjklgdpffmaamaa.PGo
