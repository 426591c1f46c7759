/- Any bytes: the document reads what wire.Get reads. Plain: no program in sight. -/
import Derived.Test.YtjklgdpffmaamaaProg
import Derived.Below
import Derived.Deep.Draws
import Derived.Deep.AppendLies
import Derived.Maps.AppendAt
import Derived.OwnWalk
import Derived.Laws.BytesArg
import Derived.Laws.MakeOwn
import Derived.Laws.OwnMore
import Derived.Deep.OwnRows
import Derived.Tactics
import Derived.Lib.ConvBytes
import Derived.Laws.Slices
import Derived.WalkKit
import Derived.KernelRfl
import Derived.RowKit3
import Derived.Deep.LoopGhost
import Derived.Deep.QuietTactic
import Derived.BigQuiet
import Derived.WideLaws
import Derived.Deep.DeepCutAuto
import Derived.Deep.CutBlock
import Derived.Deep.RegionHeld3
import Derived.Laws.Rows
import Derived.Lib.AppendStr
import Derived.ArgAppend
import Derived.Laws.IdiomCopy
import Derived.OrdersHeld
import Derived.Laws.BitsLemmas
import Derived.RowKit
import Derived.Test.YtjklgdpffmaamaaSq1
import Derived.Test.YtjklgdpffmaamaaSq2
import Derived.Test.YtjklgdpffmaamaaSq3
import Derived.Test.YtjklgdpffmaamaaSq4
import Derived.Test.YtjklgdpffmaamaaSq5
namespace Go.Proofs.Ytjklgdpffmaamaa.Wm
open Go.RowKit Go.PlainAid Go.Proofs.Ytjklgdpffmaamaa.Base Go.Proofs.Ytjklgdpffmaamaa.Oct Go.Proofs.Ytjklgdpffmaamaa.Nm Go.Proofs.Ytjklgdpffmaamaa.Wr Go.Proofs.Ytjklgdpffmaamaa.CompS Go.Proofs.Ytjklgdpffmaamaa.Pu
open Go.Proofs.Ytjklgdpffmaamaa.PCm (comp_Name.f comp_Name.l0 comp_Data.f comp_names.f comp_names.l0 comp_shape.f)
open Go.Proofs.Ytjklgdpffmaamaa.PRf (wimpleref1_Num.f wimpleref4_Name.f wimpleref4_Data.f wimpleref4_question.f wimpleref4_record.f)
open Go.Proofs.YtjklgdpffmaamaaW.PrintWords (Ev bytesOf bytesOf_length LeO)
set_option linter.unusedVariables false
theorem rn_any {s : ByteArray} (hs : s.size ≤ 1000000) (i : Nat) : ∃ v, Ev (fun k => wimpleref1_Num.f k s (i : Int) 2) v := by
  by_cases h : i + 2 ≤ s.size
  · exact ⟨_, rnum2 hs h⟩
  · exact ⟨_, rn_cut hs (by decide) (by decide) (by omega)⟩
theorem quest_both {S : ByteArray} (hS : S.size ≤ 1000000) (i : Nat) : (∃ (q : Qn) (j : Nat) (x : ByteArray × Int × Int × Int × Bool), Ev (fun k => questV k S ⟨(i : Int), false⟩) (q, ⟨(j : Int), true⟩) ∧ Ev (fun k => wimpleref4_question.f k S (i : Int)) x ∧ x.2.2.2.2 = false) ∨
    ∃ (q : Qn) (nx : Nat), nx ≤ S.size ∧ Ev (fun k => questV k S ⟨(i : Int), false⟩) (q, ⟨(nx : Int), false⟩) ∧ Ev (fun k => wimpleref4_question.f k S (i : Int)) (q.name, q.type, q.cls, (nx : Int), true) := by
  rcases name_both hS i with ⟨k1, k2⟩ | ⟨r, nx, hr, h1, h2, k1, k2⟩
  · refine .inl ⟨zQ, i, ((⟨#[]⟩ : ByteArray), 0, 0, 0, false), ?_, ?_, rfl⟩
    · unfold questV
      exact Ev.bind k1 (Ev.pos (by simp) (Ev.now _))
    · exact Ev.bind k2 (Ev.neg (by show ¬ ((500 : Int) = 0); decide) (Ev.now _))
  · by_cases c4 : nx + 4 ≤ S.size
    · have n1 := rnum2 (s := S) (i := nx) hS (by omega)
      have n2 := rnum2 (s := S) (i := nx + 2) hS (by omega)
      have hq := quest_ev k1 c4
      have hrq : Ev (fun k => wimpleref4_question.f k S (i : Int)) (r, be2 S nx, be2 S (nx + 2), ((nx + 2 + 2 : Nat) : Int), decide (be2 S nx > 0)) := by
        refine Ev.bind k2 (Ev.pos rfl (Ev.bind n1 (Ev.bind n2 (Ev.pos rfl (Ev.pos rfl (Ev.now _))))))
      have b1 := be2_bd S nx
      by_cases ht : be2 S nx = 0
      · rw [show (be2 S nx == 0) = true by simpa using ht] at hq
        exact .inl ⟨_, _, _, hq, hrq, decide_eq_false (by omega)⟩
      · rw [show (be2 S nx == 0) = false by simpa using ht] at hq
        rw [decide_eq_true (by omega)] at hrq
        exact .inr ⟨_, nx + 4, c4, hq, hrq⟩
    · by_cases c2 : nx + 2 ≤ S.size
      · refine .inl ⟨⟨r, be2 S nx, 0⟩, nx + 2, (r, be2 S nx, 0, 0, false), ?_, ?_, rfl⟩
        · unfold questV
          refine Ev.bind k1 (Ev.neg (by simp) (Ev.some _ fun _ => ?_))
          dsimp only
          rw [num16_ok c2]
          dsimp only
          rw [num16_no (i := nx + 2) (by omega)]
          rfl
        · exact Ev.bind k2 (Ev.pos rfl (Ev.bind (rnum2 hS c2) (Ev.bind (rn_cut (i := nx + 2) hS (by decide) (by decide) (by omega)) (Ev.pos rfl (Ev.neg (by show ¬ ((300 : Int) = 0); decide) (Ev.now _))))))
      · obtain ⟨v, hv⟩ := rn_any hS 0
        refine .inl ⟨⟨r, 0, 0⟩, nx, (r, 0, v.1, v.2.1, false), ?_, ?_, rfl⟩
        · unfold questV
          refine Ev.bind k1 (Ev.neg (by simp) (Ev.some _ fun _ => ?_))
          dsimp only
          rw [num16_no c2]
          dsimp only
          rw [num_bad (.inl rfl)]
          rfl
        · exact Ev.bind k2 (Ev.pos rfl (Ev.bind (rn_cut (i := nx) hS (by decide) (by decide) (by omega)) (Ev.bind hv (Ev.neg (by show ¬ ((300 : Int) = 0); decide) (Ev.now _)))))
abbrev nor : ByteArray × Int × Int × Int × ByteArray × Int × Bool := ((⟨#[]⟩ : ByteArray), 0, 0, 0, (⟨#[]⟩ : ByteArray), 0, false)
theorem rec_both {S : ByteArray} (hS : S.size ≤ 16000) (i : Nat) : (∃ (q : Rr) (j : Nat) (x : ByteArray × Int × Int × Int × ByteArray × Int × Bool), Ev (fun k => recV k S ⟨(i : Int), false⟩) (q, ⟨(j : Int), true⟩) ∧ Ev (fun k => wimpleref4_record.f k S (i : Int)) x ∧ x.2.2.2.2.2.2 = false) ∨
    ∃ (q : Rr) (nx : Nat), nx ≤ S.size ∧ Ev (fun k => recV k S ⟨(i : Int), false⟩) (q, ⟨(nx : Int), false⟩) ∧ Ev (fun k => wimpleref4_record.f k S (i : Int)) (q.name, q.type, q.cls, q.ttl, q.data, (nx : Int), true) := by
  have hS' : S.size ≤ 1000000 := by omega
  have any0 : ∀ (j : Nat) (t : Int), ∃ y, Ev (fun k => comp_Data.f k S (j : Int) 0 t) y := fun j t => by
    obtain ⟨d, e, h, _⟩ := data_both hS' j 0 t
    exact ⟨_, h⟩
  rcases quest_both hS' i with ⟨q, j, x, k1, k2, hx⟩ | ⟨q, nx, hl, k1, k2⟩
  · have bad : ∃ (q : Rr) (j : Nat), Ev (fun k => recV k S ⟨(i : Int), false⟩) (q, ⟨(j : Int), true⟩) := by
      have e1 : recN1 S (q, ⟨(j : Int), true⟩) = (0, ⟨(j : Int), true⟩) := num_bad (.inl rfl)
      have e2 : recN2 S (q, ⟨(j : Int), true⟩) = (0, ⟨(j : Int), true⟩) := by
        unfold recN2
        rw [e1]
        exact num_bad (.inl rfl)
      obtain ⟨y, hy⟩ := any0 j q.type
      refine ⟨zR, j, ?_⟩
      unfold recV
      refine Ev.bind k1 ?_
      simp only [e1, e2]
      exact Ev.bind hy (Ev.pos (by simp) (Ev.now _))
    obtain ⟨r, j', kb⟩ := bad
    exact .inl ⟨r, j', nor, kb, Ev.bind k2 (Ev.neg (by rw [hx]; decide) (Ev.now _)), rfl⟩
  · by_cases c8 : nx + 4 ≤ S.size
    · have e1 : recN1 S (q, ⟨(nx : Int), false⟩) = (be4 S nx, ⟨((nx + 4 : Nat) : Int), false⟩) := num32_ok c8
      have n1 := rnum4 (s := S) (i := nx) hS' c8
      by_cases c10 : nx + 4 + 2 ≤ S.size
      · have n2 := rnum2 (s := S) (i := nx + 4) hS' c10
        have b2 := be2_bd S (nx + 4)
        obtain ⟨z, hz⟩ : ∃ z : Nat, be2 S (nx + 4) = (z : Int) := ⟨(be2 S (nx + 4)).toNat, by omega⟩
        have e2 : recN2 S (q, ⟨(nx : Int), false⟩) = ((z : Int), ⟨((nx + 4 + 2 : Nat) : Int), false⟩) := by
          unfold recN2
          rw [e1]
          dsimp only
          rw [num16_ok c10, hz]
        rw [hz] at n2
        obtain ⟨d, e, kd, rd⟩ := data_both hS' (nx + 4 + 2) z q.type
        have hr : Ev (fun k => wimpleref4_record.f k S (i : Int)) (q.name, q.type, q.cls, be4 S nx, d, wrap64 (((nx + 4 + 2 : Nat) : Int) + (z : Int)), (e == 0)) :=
          Ev.bind k2 (Ev.pos rfl (Ev.bind n1 (Ev.bind n2 (Ev.pos rfl (Ev.pos rfl (Ev.bind rd (Ev.now _)))))))
        by_cases he : e = 0
        · subst he
          have hb : nx + 4 + 2 + z ≤ S.size := by
            by_cases h : nx + 4 + 2 + z ≤ S.size
            · exact h
            · have := Ev.uniq kd (data_out hS' (by omega) (by omega) (show (S.size : Int) < ((nx + 4 + 2 : Nat) : Int) + (z : Int) by omega))
              exact absurd (congrArg Prod.snd this) (show ¬ (0 : Int) = 500 by decide)
          rw [Pu.w64 (by omega) (by omega), show ((nx + 4 + 2 : Nat) : Int) + (z : Int) = ((nx + 4 + 2 + z : Nat) : Int) by omega] at hr
          refine .inr ⟨⟨q.name, q.type, q.cls, be4 S nx, d⟩, nx + 4 + 2 + z, hb, ?_, hr⟩
          unfold recV
          refine Ev.bind k1 ?_
          simp only [e1, e2]
          refine Ev.bind kd (Ev.neg (by simp) ?_)
          rw [Pu.w64 (by omega) (by omega), show ((nx + 4 + 2 : Nat) : Int) + (z : Int) = ((nx + 4 + 2 + z : Nat) : Int) by omega]
          exact Ev.now _
        · refine .inl ⟨zR, nx + 4 + 2, _, ?_, hr, by simpa using he⟩
          unfold recV
          refine Ev.bind k1 ?_
          simp only [e1, e2]
          exact Ev.bind kd (Ev.pos (by simpa using he) (Ev.now _))
      · have e2 : recN2 S (q, ⟨(nx : Int), false⟩) = (0, ⟨((nx + 4 : Nat) : Int), true⟩) := by
          unfold recN2
          rw [e1]
          exact num16_no c10 false
        obtain ⟨y, hy⟩ := any0 (nx + 4) q.type
        refine .inl ⟨zR, nx + 4, nor, ?_, ?_, rfl⟩
        · unfold recV
          refine Ev.bind k1 ?_
          simp only [e1, e2]
          exact Ev.bind hy (Ev.pos (by simp) (Ev.now _))
        · exact Ev.bind k2 (Ev.pos rfl (Ev.bind n1 (Ev.bind (rn_cut (i := nx + 4) hS' (by decide) (by decide) (by omega)) (Ev.pos rfl (Ev.neg (by show ¬ ((300 : Int) = 0); decide) (Ev.now _))))))
    · have e1 : recN1 S (q, ⟨(nx : Int), false⟩) = (0, ⟨(nx : Int), true⟩) := num32_no c8 false
      have e2 : recN2 S (q, ⟨(nx : Int), false⟩) = (0, ⟨(nx : Int), true⟩) := by
        unfold recN2
        rw [e1]
        exact num_bad (.inl rfl)
      obtain ⟨y, hy⟩ := any0 nx q.type
      obtain ⟨v, hv⟩ := rn_any hS' 0
      refine .inl ⟨zR, nx, nor, ?_, ?_, rfl⟩
      · unfold recV
        refine Ev.bind k1 ?_
        simp only [e1, e2]
        exact Ev.bind hy (Ev.pos (by simp) (Ev.now _))
      · exact Ev.bind k2 (Ev.pos rfl (Ev.bind (rn_cut (i := nx) hS' (by decide) (by decide) (by omega)) (Ev.bind hv (Ev.neg (by show ¬ ((300 : Int) = 0); decide) (Ev.now _)))))
/-! ### Lists -/
theorem loopQ_both {S : ByteArray} (hS : S.size ≤ 16000) : ∀ (n i : Nat) (acc : List Qn), i ≤ S.size → (∃ (o : List Qn) (j : Nat), Ev (fun k => loopQ k S n ⟨(i : Int), false⟩ acc) (o, ⟨(j : Int), true⟩) ∧ Ev (fun k => rQ k S n (i : Int) acc) none) ∨
    ∃ (o : List Qn) (nx : Nat), nx ≤ S.size ∧ Ev (fun k => loopQ k S n ⟨(i : Int), false⟩ acc) (o, ⟨(nx : Int), false⟩) ∧ Ev (fun k => rQ k S n (i : Int) acc) (some (o, (nx : Int))) := by
  intro n
  induction n with
  | zero => intro i acc hi; exact .inr ⟨acc, i, hi, Ev.now _, Ev.now _⟩
  | succ n ih =>
    intro i acc hi
    rcases quest_both (S := S) (by omega) i with ⟨q, j, x, h, k, hx⟩ | ⟨q, nx, hl, h, k⟩
    · refine .inl ⟨acc ++ [q], j, ?_, Ev.bind k (Ev.neg (by rw [hx]; decide) (Ev.now _))⟩
      show Ev (fun k => if (false : Bool) = true then _ else _) _
      exact Ev.neg (by decide) (Ev.bind h (Ev.some _ fun k => loopQ_bad n _ rfl))
    · rcases ih nx (acc ++ [q]) hl with ⟨o, j, a, b⟩ | ⟨o, nx2, hl2, a, b⟩
      · refine .inl ⟨o, j, ?_, Ev.bind k (Ev.pos rfl b)⟩
        show Ev (fun k => if (false : Bool) = true then _ else _) _
        exact Ev.neg (by decide) (Ev.bind h a)
      · refine .inr ⟨o, nx2, hl2, ?_, Ev.bind k (Ev.pos rfl b)⟩
        show Ev (fun k => if (false : Bool) = true then _ else _) _
        exact Ev.neg (by decide) (Ev.bind h a)
theorem loopR_both {S : ByteArray} (hS : S.size ≤ 16000) : ∀ (n i : Nat) (acc : List Rr), i ≤ S.size → (∃ (o : List Rr) (j : Nat), Ev (fun k => loopR k S n ⟨(i : Int), false⟩ acc) (o, ⟨(j : Int), true⟩) ∧ Ev (fun k => rR k S n (i : Int) acc) none) ∨
    ∃ (o : List Rr) (nx : Nat), nx ≤ S.size ∧ Ev (fun k => loopR k S n ⟨(i : Int), false⟩ acc) (o, ⟨(nx : Int), false⟩) ∧ Ev (fun k => rR k S n (i : Int) acc) (some (o, (nx : Int))) := by
  intro n
  induction n with
  | zero => intro i acc hi; exact .inr ⟨acc, i, hi, Ev.now _, Ev.now _⟩
  | succ n ih =>
    intro i acc hi
    rcases rec_both (S := S) hS i with ⟨q, j, x, h, k, hx⟩ | ⟨q, nx, hl, h, k⟩
    · refine .inl ⟨acc ++ [q], j, ?_, Ev.bind k (Ev.neg (by rw [hx]; decide) (Ev.now _))⟩
      show Ev (fun k => if (false : Bool) = true then _ else _) _
      exact Ev.neg (by decide) (Ev.bind h (Ev.some _ fun k => loopR_bad n _ rfl))
    · rcases ih nx (acc ++ [q]) hl with ⟨o, j, a, b⟩ | ⟨o, nx2, hl2, a, b⟩
      · refine .inl ⟨o, j, ?_, Ev.bind k (Ev.pos rfl b)⟩
        show Ev (fun k => if (false : Bool) = true then _ else _) _
        exact Ev.neg (by decide) (Ev.bind h a)
      · refine .inr ⟨o, nx2, hl2, ?_, Ev.bind k (Ev.pos rfl b)⟩
        show Ev (fun k => if (false : Bool) = true then _ else _) _
        exact Ev.neg (by decide) (Ev.bind h a)
/-- So many questions, records: none, in the document's way: too many, or one was none. -/
theorem listQ_both {S : ByteArray} (hS : S.size ≤ 16000) (x : Int) (hx : 0 ≤ x) (i : Nat) (hi : i ≤ S.size) :
    (∃ (o : List Qn) (j : Nat), Ev (fun k => listQ k S x.toNat ⟨(i : Int), false⟩) (o, ⟨(j : Int), true⟩) ∧ ∀ f : Nat → List Qn × Int → Option Got, Ev (fun k => many4 x (andThen (rQ k S x.toNat (i : Int) []) (f k))) (got0 700)) ∨
    ∃ (o : List Qn) (nx : Nat), nx ≤ S.size ∧ Ev (fun k => listQ k S x.toNat ⟨(i : Int), false⟩) (o, ⟨(nx : Int), false⟩) ∧ ∀ (f : Nat → List Qn × Int → Option Got) (r : Got), Ev (fun k => f k (o, (nx : Int))) r → Ev (fun k => many4 x (andThen (rQ k S x.toNat (i : Int) []) (f k))) r := by
  by_cases hn : 64 < x
  · refine .inl ⟨[], i, ?_, fun f => Ev.pos hn (Ev.now _)⟩
    refine Ev.some _ fun k => ?_
    unfold listQ
    rw [show (false || decide (64 < x.toNat)) = true by simp; omega]
    exact loopQ_bad _ _ rfl
  · have e : ∀ k, listQ k S x.toNat ⟨(i : Int), false⟩ = loopQ k S x.toNat ⟨(i : Int), false⟩ [] := fun k => by
      unfold listQ
      rw [show (false || decide (64 < x.toNat)) = false by simp; omega]
    simp only [e]
    rcases loopQ_both hS x.toNat i [] hi with ⟨o, j, a, b⟩ | ⟨o, nx, hl, a, b⟩
    · refine .inl ⟨o, j, a, fun f => Ev.neg hn ?_⟩
      exact Ev.bind b (Ev.now _)
    · refine .inr ⟨o, nx, hl, a, fun f r hr => Ev.neg hn ?_⟩
      exact Ev.bind b hr
theorem listR_both {S : ByteArray} (hS : S.size ≤ 16000) (x : Int) (hx : 0 ≤ x) (i : Nat) (hi : i ≤ S.size) :
    (∃ (o : List Rr) (j : Nat), Ev (fun k => listR k S x.toNat ⟨(i : Int), false⟩) (o, ⟨(j : Int), true⟩) ∧ ∀ f : Nat → List Rr × Int → Option Got, Ev (fun k => many4 x (andThen (rR k S x.toNat (i : Int) []) (f k))) (got0 700)) ∨
    ∃ (o : List Rr) (nx : Nat), nx ≤ S.size ∧ Ev (fun k => listR k S x.toNat ⟨(i : Int), false⟩) (o, ⟨(nx : Int), false⟩) ∧ ∀ (f : Nat → List Rr × Int → Option Got) (r : Got), Ev (fun k => f k (o, (nx : Int))) r → Ev (fun k => many4 x (andThen (rR k S x.toNat (i : Int) []) (f k))) r := by
  by_cases hn : 64 < x
  · refine .inl ⟨[], i, ?_, fun f => Ev.pos hn (Ev.now _)⟩
    refine Ev.some _ fun k => ?_
    unfold listR
    rw [show (false || decide (64 < x.toNat)) = true by simp; omega]
    exact loopR_bad _ _ rfl
  · have e : ∀ k, listR k S x.toNat ⟨(i : Int), false⟩ = loopR k S x.toNat ⟨(i : Int), false⟩ [] := fun k => by
      unfold listR
      rw [show (false || decide (64 < x.toNat)) = false by simp; omega]
    simp only [e]
    rcases loopR_both hS x.toNat i [] hi with ⟨o, j, a, b⟩ | ⟨o, nx, hl, a, b⟩
    · refine .inl ⟨o, j, a, fun f => Ev.neg hn ?_⟩
      exact Ev.bind b (Ev.now _)
    · refine .inr ⟨o, nx, hl, a, fun f r hr => Ev.neg hn ?_⟩
      exact Ev.bind b hr
/-- Any bytes: the program and the document say the same. -/
theorem get_both (s : ByteArray) : ∃ g : Got, Ev (fun k => getV k s) g ∧ Ev (fun k => rGetV k s) g := by
  by_cases h4 : 4096 < s.size
  · exact ⟨got0 701, Ev.pos h4 (Ev.now _), Ev.pos h4 (Ev.now _)⟩
  by_cases h12 : s.size < 12
  · exact ⟨got0 700, Ev.neg h4 (Ev.pos h12 (Ev.now _)), Ev.neg h4 (Ev.pos h12 (Ev.now _))⟩
  have hS : s.size ≤ 16000 := by omega
  have d4 := (be2_bd s 4).1
  have d6 := (be2_bd s 6).1
  have d8 := (be2_bd s 8).1
  have d10 := (be2_bd s 10).1
  rcases listQ_both hS (be2 s 4) d4 12 (by omega) with ⟨o, j, h, k⟩ | ⟨oq, x1, hl1, h1, k1⟩
  · refine ⟨got0 700, Ev.neg h4 (Ev.neg h12 (Ev.bind h ?_)), Ev.neg h4 (Ev.neg h12 (k _))⟩
    exact Ev.bind (Ev.some _ fun k => listR_badstart _ _) (Ev.bind (Ev.some _ fun k => listR_badstart _ _) (Ev.bind (Ev.some _ fun k => listR_badstart _ _) (Ev.pos rfl (Ev.now _))))
  rcases listR_both hS (be2 s 6) d6 x1 hl1 with ⟨o, j, h, k⟩ | ⟨oa, x2, hl2, h2, k2⟩
  · refine ⟨got0 700, Ev.neg h4 (Ev.neg h12 (Ev.bind h1 (Ev.bind h ?_))), Ev.neg h4 (Ev.neg h12 (k1 _ _ (k _)))⟩
    exact Ev.bind (Ev.some _ fun k => listR_badstart _ _) (Ev.bind (Ev.some _ fun k => listR_badstart _ _) (Ev.pos rfl (Ev.now _)))
  rcases listR_both hS (be2 s 8) d8 x2 hl2 with ⟨o, j, h, k⟩ | ⟨on, x3, hl3, h3, k3⟩
  · refine ⟨got0 700, Ev.neg h4 (Ev.neg h12 (Ev.bind h1 (Ev.bind h2 (Ev.bind h ?_)))), Ev.neg h4 (Ev.neg h12 (k1 _ _ (k2 _ _ (k _))))⟩
    exact Ev.bind (Ev.some _ fun k => listR_badstart _ _) (Ev.pos rfl (Ev.now _))
  rcases listR_both hS (be2 s 10) d10 x3 hl3 with ⟨o, j, h, k⟩ | ⟨orr, x4, hl4, h4', k4⟩
  · refine ⟨got0 700, Ev.neg h4 (Ev.neg h12 (Ev.bind h1 (Ev.bind h2 (Ev.bind h3 (Ev.bind h ?_))))), Ev.neg h4 (Ev.neg h12 (k1 _ _ (k2 _ _ (k3 _ _ (k _)))))⟩
    exact Ev.pos rfl (Ev.now _)
  by_cases hx : x4 = s.size
  · exact ⟨⟨Hd.getH s, oq, oa, on, orr, 0⟩, Ev.neg h4 (Ev.neg h12 (Ev.bind h1 (Ev.bind h2 (Ev.bind h3 (Ev.bind h4' (Ev.neg (by simp; omega) (Ev.now _))))))),
      Ev.neg h4 (Ev.neg h12 (k1 _ _ (k2 _ _ (k3 _ _ (k4 _ _ (Ev.neg (by simp; omega) (Ev.now _)))))))⟩
  · exact ⟨got0 700, Ev.neg h4 (Ev.neg h12 (Ev.bind h1 (Ev.bind h2 (Ev.bind h3 (Ev.bind h4' (Ev.pos (by simp; omega) (Ev.now _))))))),
      Ev.neg h4 (Ev.neg h12 (k1 _ _ (k2 _ _ (k3 _ _ (k4 _ _ (Ev.pos (by simp; omega) (Ev.now _)))))))⟩
/-- What the program reads, the document reads. -/
theorem rget_of {s : ByteArray} {g : Got} (h : Ev (fun k => getV k s) g) : Ev (fun k => rGetV k s) g := by
  obtain ⟨g', a, b⟩ := get_both s
  rw [Ev.uniq h a]
  exact b
end Go.Proofs.Ytjklgdpffmaamaa.Wm

namespace Go.Proofs.Ytjklgdpffmaamaa.PRm
open Go.RowKit Go.Proofs.YtjklgdpffmaamaaW.PrintWords Go.Proofs.YtjklgdpffmaamaaW.PrintLast Go.Proofs.YtjklgdpffmaamaaW.PrintMore
attribute [local go_sem] max2_int min2_int max_two min_two max_three min_three max_four min_four   -- for this text's walks alone
set_option linter.unusedVariables false
set_option linter.unusedSimpArgs false

def errW : Option Int → Value
  | none => .nilIface
  | some c => .iface 0 (.int .i64 c)
theorem errW_none : errW none = .nilIface := rfl
theorem errW_some (c : Int) : errW (some c) = .iface 0 (.int .i64 c) := rfl

-- the values' own types

end Go.Proofs.Ytjklgdpffmaamaa.PRm

namespace Go.Proofs.Ytjklgdpffmaamaa.PRm
open Go.RowKit Go.Proofs.YtjklgdpffmaamaaW.PrintWords Go.Proofs.YtjklgdpffmaamaaW.PrintLast Go.Proofs.YtjklgdpffmaamaaW.PrintMore
attribute [local go_sem] max2_int min2_int max_two min_two max_three min_three max_four min_four   -- for this text's walks alone
set_option linter.unusedVariables false
set_option linter.unusedSimpArgs false

/-! ### wimpleref1_May: function 32 -/
def wimpleref1_May.f (a0 : ByteArray) : Option (Bool) := some (Go.Proofs.Ytjklgdpffmaamaa.Nm.nameB a0)
set_option maxHeartbeats 8000000 in
set_option maxRecDepth 100000 in
theorem wimpleref1_May.calls (a0 : ByteArray) (r : Bool) (w : World) (h : wimpleref1_May.f a0 = some r) :
    Calls Try.prog 32 #[.string a0] w fun e w' => e = .returned (.bool r) ∧ Below w.heap.size w w' := by
  unfold wimpleref1_May.f at h
  simp only [Option.some.injEq] at h
  subst h
  exact Go.Proofs.Ytjklgdpffmaamaa.Nm.rmay a0 w

/-! ### wimpleref4_short: function 52 -/
def wimpleref4_short.f (a0 : Int) : Option (Bool) := if a0 ≥ 0 then (some (decide (a0 ≤ 65535))) else (some false)
set_option maxHeartbeats 8000000 in
set_option maxRecDepth 100000 in
theorem wimpleref4_short.calls (a0 : Int) (r : Bool) (w : World) (h : wimpleref4_short.f a0 = some r) :
    Calls Try.prog 52 #[.int .i64 a0] w fun e w' => e = .returned (.bool r) ∧ Drawn0 w w' := by
  have H : (if a0 ≥ 0 then (some (decide (a0 ≤ 65535))) else (some false)) = some r := h
  clear h
  by_cases c2 : a0 ≥ 0
  · rw [if_pos c2] at H
    have c2b0 : decide (0 ≤ a0) = true := decide_eq_true c2
    clear c2
    obtain rfl := Option.some.inj H
    go_enter Try.func52, Try.ntmps52
    go_wp2
    go_ret
    exact ⟨by first | rfl | (simp; done) | (simp [*]; done), by repeat (first | exact Drawn0.refl _ | apply Drawn0.step)⟩
  · rw [if_neg c2] at H
    have c2b0 : decide (0 ≤ a0) = false := decide_eq_false c2
    clear c2
    obtain rfl := Option.some.inj H
    go_enter Try.func52, Try.ntmps52
    go_wp2
    go_ret
    exact ⟨by first | rfl | (simp; done) | (simp [*]; done), by repeat (first | exact Drawn0.refl _ | apply Drawn0.step)⟩

/-! ### wimpleref4_wide: function 53 -/
def wimpleref4_wide.f (a0 : Int) : Option (Bool) := if a0 ≥ 0 then (some (decide (a0 ≤ 4294967295))) else (some false)
set_option maxHeartbeats 8000000 in
set_option maxRecDepth 100000 in
theorem wimpleref4_wide.calls (a0 : Int) (r : Bool) (w : World) (h : wimpleref4_wide.f a0 = some r) :
    Calls Try.prog 53 #[.int .i64 a0] w fun e w' => e = .returned (.bool r) ∧ Drawn0 w w' := by
  have H : (if a0 ≥ 0 then (some (decide (a0 ≤ 4294967295))) else (some false)) = some r := h
  clear h
  by_cases c2 : a0 ≥ 0
  · rw [if_pos c2] at H
    have c2b0 : decide (0 ≤ a0) = true := decide_eq_true c2
    clear c2
    obtain rfl := Option.some.inj H
    go_enter Try.func53, Try.ntmps53
    go_wp2
    go_ret
    exact ⟨by first | rfl | (simp; done) | (simp [*]; done), by repeat (first | exact Drawn0.refl _ | apply Drawn0.step)⟩
  · rw [if_neg c2] at H
    have c2b0 : decide (0 ≤ a0) = false := decide_eq_false c2
    clear c2
    obtain rfl := Option.some.inj H
    go_enter Try.func53, Try.ntmps53
    go_wp2
    go_ret
    exact ⟨by first | rfl | (simp; done) | (simp [*]; done), by repeat (first | exact Drawn0.refl _ | apply Drawn0.step)⟩

/-! ### wimpleref4_DataMay: function 98 -/
def wimpleref4_DataMay.f (a0 : Int) (a1 : ByteArray) : Option (Bool) := if a1.size ≤ 9223372036854775000 then some (Go.Proofs.Ytjklgdpffmaamaa.Rd.mayD a0 a1) else none
set_option maxHeartbeats 8000000 in
set_option maxRecDepth 100000 in
theorem wimpleref4_DataMay.calls (a0 : Int) (a1 : ByteArray) (r : Bool) (w : World) (h : wimpleref4_DataMay.f a0 a1 = some r) :
    Calls Try.prog 98 #[.int .i64 a0, .string a1] w fun e w' => e = .returned (.bool r) ∧ Below w.heap.size w w' := by
  unfold wimpleref4_DataMay.f at h
  split at h
  · rename_i hs
    simp only [Option.some.injEq] at h
    subst h
    exact Go.Proofs.Ytjklgdpffmaamaa.Rd.rdmay a0 a1 w hs
  · cases h

/-! ### wimpleref4_rrMay: function 69 -/
def wimpleref4_rrMay.f (a0_0 : ByteArray) (a0_1 : Int) (a0_2 : Int) (a0_3 : Int) (a0_4 : ByteArray) : Option (Bool) := (wimpleref1_May.f a0_0).bind fun t110 => (if t110 = true then ((wimpleref4_short.f a0_1).bind fun t111 => (if t111 = true then (if a0_1 > 0 then ((wimpleref4_short.f a0_2).bind fun t112 => (if t112 = true then ((wimpleref4_wide.f a0_3).bind fun t113 => (if t113 = true then ((wimpleref4_DataMay.f a0_1 a0_4).bind fun t114 => (some t114)) else (some false))) else (some false))) else (some false)) else (some false))) else (some false))
set_option maxHeartbeats 8000000 in
set_option maxRecDepth 100000 in
theorem wimpleref4_rrMay.calls (a0_0 : ByteArray) (a0_1 : Int) (a0_2 : Int) (a0_3 : Int) (a0_4 : ByteArray) (r : Bool) (w : World) (h : wimpleref4_rrMay.f a0_0 a0_1 a0_2 a0_3 a0_4 = some r) :
    Calls Try.prog 69 #[.agg #[.string a0_0, .int .i64 a0_1, .int .i64 a0_2, .int .i64 a0_3, .string a0_4]] w fun e w' => e = .returned (.bool r) ∧ Below w.heap.size w w' := by
  have hu53 := Try.underlying53
  have HB := Aside0.mk (Below.refl w.heap.size w)
  have H : ((wimpleref1_May.f a0_0).bind fun t110 => (if t110 = true then ((wimpleref4_short.f a0_1).bind fun t111 => (if t111 = true then (if a0_1 > 0 then ((wimpleref4_short.f a0_2).bind fun t112 => (if t112 = true then ((wimpleref4_wide.f a0_3).bind fun t113 => (if t113 = true then ((wimpleref4_DataMay.f a0_1 a0_4).bind fun t114 => (some t114)) else (some false))) else (some false))) else (some false)) else (some false))) else (some false))) = some r := h
  clear h
  replace H := Option.bind_eq_some_iff.mp H
  obtain ⟨t110, A20, H⟩ := H
  replace H : (if t110 = true then ((wimpleref4_short.f a0_1).bind fun t111 => (if t111 = true then (if a0_1 > 0 then ((wimpleref4_short.f a0_2).bind fun t112 => (if t112 = true then ((wimpleref4_wide.f a0_3).bind fun t113 => (if t113 = true then ((wimpleref4_DataMay.f a0_1 a0_4).bind fun t114 => (some t114)) else (some false))) else (some false))) else (some false)) else (some false))) else (some false)) = some r := H
  have A2 := Aside0.mk A20
  clear A20
  by_cases c3 : t110 = true
  · subst c3
    have H1 : ((wimpleref4_short.f a0_1).bind fun t111 => (if t111 = true then (if a0_1 > 0 then ((wimpleref4_short.f a0_2).bind fun t112 => (if t112 = true then ((wimpleref4_wide.f a0_3).bind fun t113 => (if t113 = true then ((wimpleref4_DataMay.f a0_1 a0_4).bind fun t114 => (some t114)) else (some false))) else (some false))) else (some false)) else (some false))) = some r := by rw [if_pos rfl] at H; exact H
    clear H
    have H := H1
    clear H1
    replace H := Option.bind_eq_some_iff.mp H
    obtain ⟨t111, A40, H⟩ := H
    replace H : (if t111 = true then (if a0_1 > 0 then ((wimpleref4_short.f a0_2).bind fun t112 => (if t112 = true then ((wimpleref4_wide.f a0_3).bind fun t113 => (if t113 = true then ((wimpleref4_DataMay.f a0_1 a0_4).bind fun t114 => (some t114)) else (some false))) else (some false))) else (some false)) else (some false)) = some r := H
    have A4 := Aside0.mk A40
    clear A40
    by_cases c5 : t111 = true
    · subst c5
      have H1 : (if a0_1 > 0 then ((wimpleref4_short.f a0_2).bind fun t112 => (if t112 = true then ((wimpleref4_wide.f a0_3).bind fun t113 => (if t113 = true then ((wimpleref4_DataMay.f a0_1 a0_4).bind fun t114 => (some t114)) else (some false))) else (some false))) else (some false)) = some r := by rw [if_pos rfl] at H; exact H
      clear H
      have H := H1
      clear H1
      by_cases c6 : a0_1 > 0
      · rw [if_pos c6] at H
        have c6b0 : decide (0 < a0_1) = true := decide_eq_true c6
        clear c6
        replace H := Option.bind_eq_some_iff.mp H
        obtain ⟨t112, A70, H⟩ := H
        replace H : (if t112 = true then ((wimpleref4_wide.f a0_3).bind fun t113 => (if t113 = true then ((wimpleref4_DataMay.f a0_1 a0_4).bind fun t114 => (some t114)) else (some false))) else (some false)) = some r := H
        have A7 := Aside0.mk A70
        clear A70
        by_cases c8 : t112 = true
        · subst c8
          have H1 : ((wimpleref4_wide.f a0_3).bind fun t113 => (if t113 = true then ((wimpleref4_DataMay.f a0_1 a0_4).bind fun t114 => (some t114)) else (some false))) = some r := by rw [if_pos rfl] at H; exact H
          clear H
          have H := H1
          clear H1
          replace H := Option.bind_eq_some_iff.mp H
          obtain ⟨t113, A90, H⟩ := H
          replace H : (if t113 = true then ((wimpleref4_DataMay.f a0_1 a0_4).bind fun t114 => (some t114)) else (some false)) = some r := H
          have A9 := Aside0.mk A90
          clear A90
          by_cases c10 : t113 = true
          · subst c10
            have H1 : ((wimpleref4_DataMay.f a0_1 a0_4).bind fun t114 => (some t114)) = some r := by rw [if_pos rfl] at H; exact H
            clear H
            have H := H1
            clear H1
            replace H := Option.bind_eq_some_iff.mp H
            obtain ⟨t114, A110, H⟩ := H
            replace H : (some t114) = some r := H
            have A11 := Aside0.mk A110
            clear A110
            obtain rfl := Option.some.inj H
            go_enter Try.func69, Try.ntmps69
            go_wp2_with (first | ((with_reducible refine gate_dst (N := 1) rfl ?_); refine box_event ?hg (N := 1) ?hd (cs := #[.string a0_0, .int .i64 a0_1, .int .i64 a0_2, .int .i64 a0_3, .string a0_4]) (t := 53) ?hr ?_; (case hd => rfl); (case hg => rfl); (case hr => first | (go_simp; done) | (go_simp; rfl)); intro gb109 hg w12 hbox hb; have n0_ := Aside0.mk (below_step (by repeat (first | (with_reducible first | exact HB.out | apply below_alloc | apply pw_below_drewN | apply below_drew1) | exact HB.out)) hb); have n1_ := Aside0.mk (hbox); have n2_ := Aside0.mk ((by rw [hg]; exact (below_size (by repeat (first | (with_reducible first | exact HB.out | apply below_alloc | apply pw_below_drewN | apply below_drew1) | exact HB.out))) : w.heap.size ≤ gb109)); have n3_ := Aside0.mk ((by rw [hg]; exact (below_size (by repeat (first | (with_reducible first | exact HB.out | apply below_alloc | apply pw_below_drewN | apply below_drew1) | exact HB.out))) : w.heap.size ≤ gb109)); clear HB; have HB := n0_; have BK109 := n1_; have GW109 := n2_; have GE109 := n3_; clear n0_ n1_ n2_ n3_; clear hb hbox hg; have hcz13_0 : w12.cell? ⟨gb109, 0, none⟩ = some (.string a0_0) := (blk_cell BK109.out 0).trans rfl; have hcz13_1 : w12.cell? ⟨gb109, 1, none⟩ = some (.int .i64 a0_1) := (blk_cell BK109.out 1).trans rfl; have hcz13_2 : w12.cell? ⟨gb109, 2, none⟩ = some (.int .i64 a0_2) := (blk_cell BK109.out 2).trans rfl; have hcz13_3 : w12.cell? ⟨gb109, 3, none⟩ = some (.int .i64 a0_3) := (blk_cell BK109.out 3).trans rfl; have hcz13_4 : w12.cell? ⟨gb109, 4, none⟩ = some (.string a0_4) := (blk_cell BK109.out 4).trans rfl; have hfz13_0 := blk_frozen BK109.out 0; have hfz13_1 := blk_frozen BK109.out 1; have hfz13_2 := blk_frozen BK109.out 2; have hfz13_3 := blk_frozen BK109.out 3; have hfz13_4 := blk_frozen BK109.out 4) | ((with_reducible refine gate_dst (N := 5) rfl ?_); (with_reducible refine gate_callee (f := 32) rfl ?_); refine goesL_ (some 5) rfl rfl Try.func32 (by kernel_rfl) rfl #[.string a0_0] rfl (by (try simp only [List.map_toArray, List.map_cons, List.map_nil]); first | done | rfl | (simp only [List.length_drop, List.length_take]; rfl)) ?_; (with_reducible refine (wimpleref1_May.calls a0_0 true _ A2.out).mono ?_); rintro e w14 ⟨rfl, hb⟩; refine ⟨_, rfl, ?_⟩; have n0_ := Aside0.mk (blk_below (g := gb109) (o := .cells #[.string a0_0, .int .i64 a0_1, .int .i64 a0_2, .int .i64 a0_3, .string a0_4] 53 (0, 0)) (by (with_reducible repeat (first | refine blk_drewN ?_ _ | refine blk_drew ?_ | refine blk_alloc ?_ _)); exact BK109.out) hb); have n1_ := Aside0.mk (below_step (by repeat (first | (with_reducible first | exact HB.out | apply below_alloc | apply pw_below_drewN | apply below_drew1 | refine below_set ?_ GE109.out) | exact HB.out)) hb); clear BK109; clear HB; have BK109 := n0_; have HB := n1_; clear n0_ n1_; (try clear hb); (try clear hb2); (try clear hk); (try clear hi); (try clear hcz13_0 hcz13_1 hcz13_2 hcz13_3 hcz13_4 hfz13_0 hfz13_1 hfz13_2 hfz13_3 hfz13_4); have hcz15_0 : w14.cell? ⟨gb109, 0, none⟩ = some (.string a0_0) := (blk_cell BK109.out 0).trans rfl; have hcz15_1 : w14.cell? ⟨gb109, 1, none⟩ = some (.int .i64 a0_1) := (blk_cell BK109.out 1).trans rfl; have hcz15_2 : w14.cell? ⟨gb109, 2, none⟩ = some (.int .i64 a0_2) := (blk_cell BK109.out 2).trans rfl; have hcz15_3 : w14.cell? ⟨gb109, 3, none⟩ = some (.int .i64 a0_3) := (blk_cell BK109.out 3).trans rfl; have hcz15_4 : w14.cell? ⟨gb109, 4, none⟩ = some (.string a0_4) := (blk_cell BK109.out 4).trans rfl; have hfz15_0 := blk_frozen BK109.out 0; have hfz15_1 := blk_frozen BK109.out 1; have hfz15_2 := blk_frozen BK109.out 2; have hfz15_3 := blk_frozen BK109.out 3; have hfz15_4 := blk_frozen BK109.out 4) | (go_at_call 52; (with_reducible refine (wimpleref4_short.calls a0_1 true _ A4.out).mono ?_); rintro e w' ⟨rfl, ⟨nd, rfl⟩⟩) | (go_at_call 52; (with_reducible refine (wimpleref4_short.calls a0_2 true _ A7.out).mono ?_); rintro e w' ⟨rfl, ⟨nd, rfl⟩⟩) | (go_at_call 53; (with_reducible refine (wimpleref4_wide.calls a0_3 true _ A9.out).mono ?_); rintro e w' ⟨rfl, ⟨nd, rfl⟩⟩) | (go_at_call 98; (with_reducible refine (wimpleref4_DataMay.calls a0_1 a0_4 t114 _ A11.out).mono ?_); rintro e w16 ⟨rfl, hb⟩; have n0_ := Aside0.mk (blk_below (g := gb109) (o := .cells #[.string a0_0, .int .i64 a0_1, .int .i64 a0_2, .int .i64 a0_3, .string a0_4] 53 (0, 0)) (by (with_reducible repeat (first | refine blk_drewN ?_ _ | refine blk_drew ?_ | refine blk_alloc ?_ _)); exact BK109.out) hb); have n1_ := Aside0.mk (below_step (by repeat (first | (with_reducible first | exact HB.out | apply below_alloc | apply pw_below_drewN | apply below_drew1 | refine below_set ?_ GE109.out) | exact HB.out)) hb); clear BK109; clear HB; have BK109 := n0_; have HB := n1_; clear n0_ n1_; (try clear hb); (try clear hb2); (try clear hk); (try clear hi)))
            go_ret
            exact ⟨by first | rfl | (simp [errW_none, errW_some] <;> rfl) | (simp [*, errW_none, errW_some] <;> rfl), by repeat (first | (with_reducible first | exact HB.out | apply below_alloc | apply pw_below_drewN | apply below_drew1 | refine below_set ?_ GE109.out) | exact HB.out)⟩
          · replace c10 := Bool.eq_false_iff.mpr c10
            subst c10
            have H1 : (some false) = some r := by rw [if_neg (show ¬ (false = true) by decide)] at H; exact H
            clear H
            have H := H1
            clear H1
            obtain rfl := Option.some.inj H
            go_enter Try.func69, Try.ntmps69
            go_wp2_with (first | ((with_reducible refine gate_dst (N := 1) rfl ?_); refine box_event ?hg (N := 1) ?hd (cs := #[.string a0_0, .int .i64 a0_1, .int .i64 a0_2, .int .i64 a0_3, .string a0_4]) (t := 53) ?hr ?_; (case hd => rfl); (case hg => rfl); (case hr => first | (go_simp; done) | (go_simp; rfl)); intro gb109 hg w17 hbox hb; have n0_ := Aside0.mk (below_step (by repeat (first | (with_reducible first | exact HB.out | apply below_alloc | apply pw_below_drewN | apply below_drew1) | exact HB.out)) hb); have n1_ := Aside0.mk (hbox); have n2_ := Aside0.mk ((by rw [hg]; exact (below_size (by repeat (first | (with_reducible first | exact HB.out | apply below_alloc | apply pw_below_drewN | apply below_drew1) | exact HB.out))) : w.heap.size ≤ gb109)); have n3_ := Aside0.mk ((by rw [hg]; exact (below_size (by repeat (first | (with_reducible first | exact HB.out | apply below_alloc | apply pw_below_drewN | apply below_drew1) | exact HB.out))) : w.heap.size ≤ gb109)); clear HB; have HB := n0_; have BK109 := n1_; have GW109 := n2_; have GE109 := n3_; clear n0_ n1_ n2_ n3_; clear hb hbox hg; (try clear hcz13_0 hcz13_1 hcz13_2 hcz13_3 hcz13_4 hfz13_0 hfz13_1 hfz13_2 hfz13_3 hfz13_4); (try clear hcz15_0 hcz15_1 hcz15_2 hcz15_3 hcz15_4 hfz15_0 hfz15_1 hfz15_2 hfz15_3 hfz15_4); have hcz18_0 : w17.cell? ⟨gb109, 0, none⟩ = some (.string a0_0) := (blk_cell BK109.out 0).trans rfl; have hcz18_1 : w17.cell? ⟨gb109, 1, none⟩ = some (.int .i64 a0_1) := (blk_cell BK109.out 1).trans rfl; have hcz18_2 : w17.cell? ⟨gb109, 2, none⟩ = some (.int .i64 a0_2) := (blk_cell BK109.out 2).trans rfl; have hcz18_3 : w17.cell? ⟨gb109, 3, none⟩ = some (.int .i64 a0_3) := (blk_cell BK109.out 3).trans rfl; have hcz18_4 : w17.cell? ⟨gb109, 4, none⟩ = some (.string a0_4) := (blk_cell BK109.out 4).trans rfl; have hfz18_0 := blk_frozen BK109.out 0; have hfz18_1 := blk_frozen BK109.out 1; have hfz18_2 := blk_frozen BK109.out 2; have hfz18_3 := blk_frozen BK109.out 3; have hfz18_4 := blk_frozen BK109.out 4) | ((with_reducible refine gate_dst (N := 5) rfl ?_); (with_reducible refine gate_callee (f := 32) rfl ?_); refine goesL_ (some 5) rfl rfl Try.func32 (by kernel_rfl) rfl #[.string a0_0] rfl (by (try simp only [List.map_toArray, List.map_cons, List.map_nil]); first | done | rfl | (simp only [List.length_drop, List.length_take]; rfl)) ?_; (with_reducible refine (wimpleref1_May.calls a0_0 true _ A2.out).mono ?_); rintro e w19 ⟨rfl, hb⟩; refine ⟨_, rfl, ?_⟩; have n0_ := Aside0.mk (blk_below (g := gb109) (o := .cells #[.string a0_0, .int .i64 a0_1, .int .i64 a0_2, .int .i64 a0_3, .string a0_4] 53 (0, 0)) (by (with_reducible repeat (first | refine blk_drewN ?_ _ | refine blk_drew ?_ | refine blk_alloc ?_ _)); exact BK109.out) hb); have n1_ := Aside0.mk (below_step (by repeat (first | (with_reducible first | exact HB.out | apply below_alloc | apply pw_below_drewN | apply below_drew1 | refine below_set ?_ GE109.out) | exact HB.out)) hb); clear BK109; clear HB; have BK109 := n0_; have HB := n1_; clear n0_ n1_; (try clear hb); (try clear hb2); (try clear hk); (try clear hi); (try clear hcz13_0 hcz13_1 hcz13_2 hcz13_3 hcz13_4 hfz13_0 hfz13_1 hfz13_2 hfz13_3 hfz13_4); (try clear hcz15_0 hcz15_1 hcz15_2 hcz15_3 hcz15_4 hfz15_0 hfz15_1 hfz15_2 hfz15_3 hfz15_4); (try clear hcz18_0 hcz18_1 hcz18_2 hcz18_3 hcz18_4 hfz18_0 hfz18_1 hfz18_2 hfz18_3 hfz18_4); have hcz20_0 : w19.cell? ⟨gb109, 0, none⟩ = some (.string a0_0) := (blk_cell BK109.out 0).trans rfl; have hcz20_1 : w19.cell? ⟨gb109, 1, none⟩ = some (.int .i64 a0_1) := (blk_cell BK109.out 1).trans rfl; have hcz20_2 : w19.cell? ⟨gb109, 2, none⟩ = some (.int .i64 a0_2) := (blk_cell BK109.out 2).trans rfl; have hcz20_3 : w19.cell? ⟨gb109, 3, none⟩ = some (.int .i64 a0_3) := (blk_cell BK109.out 3).trans rfl; have hcz20_4 : w19.cell? ⟨gb109, 4, none⟩ = some (.string a0_4) := (blk_cell BK109.out 4).trans rfl; have hfz20_0 := blk_frozen BK109.out 0; have hfz20_1 := blk_frozen BK109.out 1; have hfz20_2 := blk_frozen BK109.out 2; have hfz20_3 := blk_frozen BK109.out 3; have hfz20_4 := blk_frozen BK109.out 4) | (go_at_call 52; (with_reducible refine (wimpleref4_short.calls a0_1 true _ A4.out).mono ?_); rintro e w' ⟨rfl, ⟨nd, rfl⟩⟩) | (go_at_call 52; (with_reducible refine (wimpleref4_short.calls a0_2 true _ A7.out).mono ?_); rintro e w' ⟨rfl, ⟨nd, rfl⟩⟩) | (go_at_call 53; (with_reducible refine (wimpleref4_wide.calls a0_3 false _ A9.out).mono ?_); rintro e w' ⟨rfl, ⟨nd, rfl⟩⟩))
            go_ret
            exact ⟨by first | rfl | (simp [errW_none, errW_some] <;> rfl) | (simp [*, errW_none, errW_some] <;> rfl), by repeat (first | (with_reducible first | exact HB.out | apply below_alloc | apply pw_below_drewN | apply below_drew1 | refine below_set ?_ GE109.out) | exact HB.out)⟩
        · replace c8 := Bool.eq_false_iff.mpr c8
          subst c8
          have H1 : (some false) = some r := by rw [if_neg (show ¬ (false = true) by decide)] at H; exact H
          clear H
          have H := H1
          clear H1
          obtain rfl := Option.some.inj H
          go_enter Try.func69, Try.ntmps69
          go_wp2_with (first | ((with_reducible refine gate_dst (N := 1) rfl ?_); refine box_event ?hg (N := 1) ?hd (cs := #[.string a0_0, .int .i64 a0_1, .int .i64 a0_2, .int .i64 a0_3, .string a0_4]) (t := 53) ?hr ?_; (case hd => rfl); (case hg => rfl); (case hr => first | (go_simp; done) | (go_simp; rfl)); intro gb109 hg w21 hbox hb; have n0_ := Aside0.mk (below_step (by repeat (first | (with_reducible first | exact HB.out | apply below_alloc | apply pw_below_drewN | apply below_drew1) | exact HB.out)) hb); have n1_ := Aside0.mk (hbox); have n2_ := Aside0.mk ((by rw [hg]; exact (below_size (by repeat (first | (with_reducible first | exact HB.out | apply below_alloc | apply pw_below_drewN | apply below_drew1) | exact HB.out))) : w.heap.size ≤ gb109)); have n3_ := Aside0.mk ((by rw [hg]; exact (below_size (by repeat (first | (with_reducible first | exact HB.out | apply below_alloc | apply pw_below_drewN | apply below_drew1) | exact HB.out))) : w.heap.size ≤ gb109)); clear HB; have HB := n0_; have BK109 := n1_; have GW109 := n2_; have GE109 := n3_; clear n0_ n1_ n2_ n3_; clear hb hbox hg; (try clear hcz13_0 hcz13_1 hcz13_2 hcz13_3 hcz13_4 hfz13_0 hfz13_1 hfz13_2 hfz13_3 hfz13_4); (try clear hcz15_0 hcz15_1 hcz15_2 hcz15_3 hcz15_4 hfz15_0 hfz15_1 hfz15_2 hfz15_3 hfz15_4); (try clear hcz18_0 hcz18_1 hcz18_2 hcz18_3 hcz18_4 hfz18_0 hfz18_1 hfz18_2 hfz18_3 hfz18_4); (try clear hcz20_0 hcz20_1 hcz20_2 hcz20_3 hcz20_4 hfz20_0 hfz20_1 hfz20_2 hfz20_3 hfz20_4); have hcz22_0 : w21.cell? ⟨gb109, 0, none⟩ = some (.string a0_0) := (blk_cell BK109.out 0).trans rfl; have hcz22_1 : w21.cell? ⟨gb109, 1, none⟩ = some (.int .i64 a0_1) := (blk_cell BK109.out 1).trans rfl; have hcz22_2 : w21.cell? ⟨gb109, 2, none⟩ = some (.int .i64 a0_2) := (blk_cell BK109.out 2).trans rfl; have hcz22_3 : w21.cell? ⟨gb109, 3, none⟩ = some (.int .i64 a0_3) := (blk_cell BK109.out 3).trans rfl; have hcz22_4 : w21.cell? ⟨gb109, 4, none⟩ = some (.string a0_4) := (blk_cell BK109.out 4).trans rfl; have hfz22_0 := blk_frozen BK109.out 0; have hfz22_1 := blk_frozen BK109.out 1; have hfz22_2 := blk_frozen BK109.out 2; have hfz22_3 := blk_frozen BK109.out 3; have hfz22_4 := blk_frozen BK109.out 4) | ((with_reducible refine gate_dst (N := 5) rfl ?_); (with_reducible refine gate_callee (f := 32) rfl ?_); refine goesL_ (some 5) rfl rfl Try.func32 (by kernel_rfl) rfl #[.string a0_0] rfl (by (try simp only [List.map_toArray, List.map_cons, List.map_nil]); first | done | rfl | (simp only [List.length_drop, List.length_take]; rfl)) ?_; (with_reducible refine (wimpleref1_May.calls a0_0 true _ A2.out).mono ?_); rintro e w23 ⟨rfl, hb⟩; refine ⟨_, rfl, ?_⟩; have n0_ := Aside0.mk (blk_below (g := gb109) (o := .cells #[.string a0_0, .int .i64 a0_1, .int .i64 a0_2, .int .i64 a0_3, .string a0_4] 53 (0, 0)) (by (with_reducible repeat (first | refine blk_drewN ?_ _ | refine blk_drew ?_ | refine blk_alloc ?_ _)); exact BK109.out) hb); have n1_ := Aside0.mk (below_step (by repeat (first | (with_reducible first | exact HB.out | apply below_alloc | apply pw_below_drewN | apply below_drew1 | refine below_set ?_ GE109.out) | exact HB.out)) hb); clear BK109; clear HB; have BK109 := n0_; have HB := n1_; clear n0_ n1_; (try clear hb); (try clear hb2); (try clear hk); (try clear hi); (try clear hcz13_0 hcz13_1 hcz13_2 hcz13_3 hcz13_4 hfz13_0 hfz13_1 hfz13_2 hfz13_3 hfz13_4); (try clear hcz15_0 hcz15_1 hcz15_2 hcz15_3 hcz15_4 hfz15_0 hfz15_1 hfz15_2 hfz15_3 hfz15_4); (try clear hcz18_0 hcz18_1 hcz18_2 hcz18_3 hcz18_4 hfz18_0 hfz18_1 hfz18_2 hfz18_3 hfz18_4); (try clear hcz20_0 hcz20_1 hcz20_2 hcz20_3 hcz20_4 hfz20_0 hfz20_1 hfz20_2 hfz20_3 hfz20_4); (try clear hcz22_0 hcz22_1 hcz22_2 hcz22_3 hcz22_4 hfz22_0 hfz22_1 hfz22_2 hfz22_3 hfz22_4); have hcz24_0 : w23.cell? ⟨gb109, 0, none⟩ = some (.string a0_0) := (blk_cell BK109.out 0).trans rfl; have hcz24_1 : w23.cell? ⟨gb109, 1, none⟩ = some (.int .i64 a0_1) := (blk_cell BK109.out 1).trans rfl; have hcz24_2 : w23.cell? ⟨gb109, 2, none⟩ = some (.int .i64 a0_2) := (blk_cell BK109.out 2).trans rfl; have hcz24_3 : w23.cell? ⟨gb109, 3, none⟩ = some (.int .i64 a0_3) := (blk_cell BK109.out 3).trans rfl; have hcz24_4 : w23.cell? ⟨gb109, 4, none⟩ = some (.string a0_4) := (blk_cell BK109.out 4).trans rfl; have hfz24_0 := blk_frozen BK109.out 0; have hfz24_1 := blk_frozen BK109.out 1; have hfz24_2 := blk_frozen BK109.out 2; have hfz24_3 := blk_frozen BK109.out 3; have hfz24_4 := blk_frozen BK109.out 4) | (go_at_call 52; (with_reducible refine (wimpleref4_short.calls a0_1 true _ A4.out).mono ?_); rintro e w' ⟨rfl, ⟨nd, rfl⟩⟩) | (go_at_call 52; (with_reducible refine (wimpleref4_short.calls a0_2 false _ A7.out).mono ?_); rintro e w' ⟨rfl, ⟨nd, rfl⟩⟩))
          go_ret
          exact ⟨by first | rfl | (simp [errW_none, errW_some] <;> rfl) | (simp [*, errW_none, errW_some] <;> rfl), by repeat (first | (with_reducible first | exact HB.out | apply below_alloc | apply pw_below_drewN | apply below_drew1 | refine below_set ?_ GE109.out) | exact HB.out)⟩
      · rw [if_neg c6] at H
        have c6b0 : decide (0 < a0_1) = false := decide_eq_false c6
        clear c6
        obtain rfl := Option.some.inj H
        go_enter Try.func69, Try.ntmps69
        go_wp2_with (first | ((with_reducible refine gate_dst (N := 1) rfl ?_); refine box_event ?hg (N := 1) ?hd (cs := #[.string a0_0, .int .i64 a0_1, .int .i64 a0_2, .int .i64 a0_3, .string a0_4]) (t := 53) ?hr ?_; (case hd => rfl); (case hg => rfl); (case hr => first | (go_simp; done) | (go_simp; rfl)); intro gb109 hg w25 hbox hb; have n0_ := Aside0.mk (below_step (by repeat (first | (with_reducible first | exact HB.out | apply below_alloc | apply pw_below_drewN | apply below_drew1) | exact HB.out)) hb); have n1_ := Aside0.mk (hbox); have n2_ := Aside0.mk ((by rw [hg]; exact (below_size (by repeat (first | (with_reducible first | exact HB.out | apply below_alloc | apply pw_below_drewN | apply below_drew1) | exact HB.out))) : w.heap.size ≤ gb109)); have n3_ := Aside0.mk ((by rw [hg]; exact (below_size (by repeat (first | (with_reducible first | exact HB.out | apply below_alloc | apply pw_below_drewN | apply below_drew1) | exact HB.out))) : w.heap.size ≤ gb109)); clear HB; have HB := n0_; have BK109 := n1_; have GW109 := n2_; have GE109 := n3_; clear n0_ n1_ n2_ n3_; clear hb hbox hg; (try clear hcz13_0 hcz13_1 hcz13_2 hcz13_3 hcz13_4 hfz13_0 hfz13_1 hfz13_2 hfz13_3 hfz13_4); (try clear hcz15_0 hcz15_1 hcz15_2 hcz15_3 hcz15_4 hfz15_0 hfz15_1 hfz15_2 hfz15_3 hfz15_4); (try clear hcz18_0 hcz18_1 hcz18_2 hcz18_3 hcz18_4 hfz18_0 hfz18_1 hfz18_2 hfz18_3 hfz18_4); (try clear hcz20_0 hcz20_1 hcz20_2 hcz20_3 hcz20_4 hfz20_0 hfz20_1 hfz20_2 hfz20_3 hfz20_4); (try clear hcz22_0 hcz22_1 hcz22_2 hcz22_3 hcz22_4 hfz22_0 hfz22_1 hfz22_2 hfz22_3 hfz22_4); (try clear hcz24_0 hcz24_1 hcz24_2 hcz24_3 hcz24_4 hfz24_0 hfz24_1 hfz24_2 hfz24_3 hfz24_4); have hcz26_0 : w25.cell? ⟨gb109, 0, none⟩ = some (.string a0_0) := (blk_cell BK109.out 0).trans rfl; have hcz26_1 : w25.cell? ⟨gb109, 1, none⟩ = some (.int .i64 a0_1) := (blk_cell BK109.out 1).trans rfl; have hcz26_2 : w25.cell? ⟨gb109, 2, none⟩ = some (.int .i64 a0_2) := (blk_cell BK109.out 2).trans rfl; have hcz26_3 : w25.cell? ⟨gb109, 3, none⟩ = some (.int .i64 a0_3) := (blk_cell BK109.out 3).trans rfl; have hcz26_4 : w25.cell? ⟨gb109, 4, none⟩ = some (.string a0_4) := (blk_cell BK109.out 4).trans rfl; have hfz26_0 := blk_frozen BK109.out 0; have hfz26_1 := blk_frozen BK109.out 1; have hfz26_2 := blk_frozen BK109.out 2; have hfz26_3 := blk_frozen BK109.out 3; have hfz26_4 := blk_frozen BK109.out 4) | ((with_reducible refine gate_dst (N := 5) rfl ?_); (with_reducible refine gate_callee (f := 32) rfl ?_); refine goesL_ (some 5) rfl rfl Try.func32 (by kernel_rfl) rfl #[.string a0_0] rfl (by (try simp only [List.map_toArray, List.map_cons, List.map_nil]); first | done | rfl | (simp only [List.length_drop, List.length_take]; rfl)) ?_; (with_reducible refine (wimpleref1_May.calls a0_0 true _ A2.out).mono ?_); rintro e w27 ⟨rfl, hb⟩; refine ⟨_, rfl, ?_⟩; have n0_ := Aside0.mk (blk_below (g := gb109) (o := .cells #[.string a0_0, .int .i64 a0_1, .int .i64 a0_2, .int .i64 a0_3, .string a0_4] 53 (0, 0)) (by (with_reducible repeat (first | refine blk_drewN ?_ _ | refine blk_drew ?_ | refine blk_alloc ?_ _)); exact BK109.out) hb); have n1_ := Aside0.mk (below_step (by repeat (first | (with_reducible first | exact HB.out | apply below_alloc | apply pw_below_drewN | apply below_drew1 | refine below_set ?_ GE109.out) | exact HB.out)) hb); clear BK109; clear HB; have BK109 := n0_; have HB := n1_; clear n0_ n1_; (try clear hb); (try clear hb2); (try clear hk); (try clear hi); (try clear hcz15_0 hcz15_1 hcz15_2 hcz15_3 hcz15_4 hfz15_0 hfz15_1 hfz15_2 hfz15_3 hfz15_4); (try clear hcz18_0 hcz18_1 hcz18_2 hcz18_3 hcz18_4 hfz18_0 hfz18_1 hfz18_2 hfz18_3 hfz18_4); (try clear hcz20_0 hcz20_1 hcz20_2 hcz20_3 hcz20_4 hfz20_0 hfz20_1 hfz20_2 hfz20_3 hfz20_4); (try clear hcz22_0 hcz22_1 hcz22_2 hcz22_3 hcz22_4 hfz22_0 hfz22_1 hfz22_2 hfz22_3 hfz22_4); (try clear hcz24_0 hcz24_1 hcz24_2 hcz24_3 hcz24_4 hfz24_0 hfz24_1 hfz24_2 hfz24_3 hfz24_4); (try clear hcz26_0 hcz26_1 hcz26_2 hcz26_3 hcz26_4 hfz26_0 hfz26_1 hfz26_2 hfz26_3 hfz26_4); have hcz28_0 : w27.cell? ⟨gb109, 0, none⟩ = some (.string a0_0) := (blk_cell BK109.out 0).trans rfl; have hcz28_1 : w27.cell? ⟨gb109, 1, none⟩ = some (.int .i64 a0_1) := (blk_cell BK109.out 1).trans rfl; have hcz28_2 : w27.cell? ⟨gb109, 2, none⟩ = some (.int .i64 a0_2) := (blk_cell BK109.out 2).trans rfl; have hcz28_3 : w27.cell? ⟨gb109, 3, none⟩ = some (.int .i64 a0_3) := (blk_cell BK109.out 3).trans rfl; have hcz28_4 : w27.cell? ⟨gb109, 4, none⟩ = some (.string a0_4) := (blk_cell BK109.out 4).trans rfl; have hfz28_0 := blk_frozen BK109.out 0; have hfz28_1 := blk_frozen BK109.out 1; have hfz28_2 := blk_frozen BK109.out 2; have hfz28_3 := blk_frozen BK109.out 3; have hfz28_4 := blk_frozen BK109.out 4) | (go_at_call 52; (with_reducible refine (wimpleref4_short.calls a0_1 true _ A4.out).mono ?_); rintro e w' ⟨rfl, ⟨nd, rfl⟩⟩))
        go_ret
        exact ⟨by first | rfl | (simp [errW_none, errW_some] <;> rfl) | (simp [*, errW_none, errW_some] <;> rfl), by repeat (first | (with_reducible first | exact HB.out | apply below_alloc | apply pw_below_drewN | apply below_drew1 | refine below_set ?_ GE109.out) | exact HB.out)⟩
    · replace c5 := Bool.eq_false_iff.mpr c5
      subst c5
      have H1 : (some false) = some r := by rw [if_neg (show ¬ (false = true) by decide)] at H; exact H
      clear H
      have H := H1
      clear H1
      obtain rfl := Option.some.inj H
      go_enter Try.func69, Try.ntmps69
      go_wp2_with (first | ((with_reducible refine gate_dst (N := 1) rfl ?_); refine box_event ?hg (N := 1) ?hd (cs := #[.string a0_0, .int .i64 a0_1, .int .i64 a0_2, .int .i64 a0_3, .string a0_4]) (t := 53) ?hr ?_; (case hd => rfl); (case hg => rfl); (case hr => first | (go_simp; done) | (go_simp; rfl)); intro gb109 hg w29 hbox hb; have n0_ := Aside0.mk (below_step (by repeat (first | (with_reducible first | exact HB.out | apply below_alloc | apply pw_below_drewN | apply below_drew1) | exact HB.out)) hb); have n1_ := Aside0.mk (hbox); have n2_ := Aside0.mk ((by rw [hg]; exact (below_size (by repeat (first | (with_reducible first | exact HB.out | apply below_alloc | apply pw_below_drewN | apply below_drew1) | exact HB.out))) : w.heap.size ≤ gb109)); have n3_ := Aside0.mk ((by rw [hg]; exact (below_size (by repeat (first | (with_reducible first | exact HB.out | apply below_alloc | apply pw_below_drewN | apply below_drew1) | exact HB.out))) : w.heap.size ≤ gb109)); clear HB; have HB := n0_; have BK109 := n1_; have GW109 := n2_; have GE109 := n3_; clear n0_ n1_ n2_ n3_; clear hb hbox hg; (try clear hcz18_0 hcz18_1 hcz18_2 hcz18_3 hcz18_4 hfz18_0 hfz18_1 hfz18_2 hfz18_3 hfz18_4); (try clear hcz20_0 hcz20_1 hcz20_2 hcz20_3 hcz20_4 hfz20_0 hfz20_1 hfz20_2 hfz20_3 hfz20_4); (try clear hcz22_0 hcz22_1 hcz22_2 hcz22_3 hcz22_4 hfz22_0 hfz22_1 hfz22_2 hfz22_3 hfz22_4); (try clear hcz24_0 hcz24_1 hcz24_2 hcz24_3 hcz24_4 hfz24_0 hfz24_1 hfz24_2 hfz24_3 hfz24_4); (try clear hcz26_0 hcz26_1 hcz26_2 hcz26_3 hcz26_4 hfz26_0 hfz26_1 hfz26_2 hfz26_3 hfz26_4); (try clear hcz28_0 hcz28_1 hcz28_2 hcz28_3 hcz28_4 hfz28_0 hfz28_1 hfz28_2 hfz28_3 hfz28_4); have hcz30_0 : w29.cell? ⟨gb109, 0, none⟩ = some (.string a0_0) := (blk_cell BK109.out 0).trans rfl; have hcz30_1 : w29.cell? ⟨gb109, 1, none⟩ = some (.int .i64 a0_1) := (blk_cell BK109.out 1).trans rfl; have hcz30_2 : w29.cell? ⟨gb109, 2, none⟩ = some (.int .i64 a0_2) := (blk_cell BK109.out 2).trans rfl; have hcz30_3 : w29.cell? ⟨gb109, 3, none⟩ = some (.int .i64 a0_3) := (blk_cell BK109.out 3).trans rfl; have hcz30_4 : w29.cell? ⟨gb109, 4, none⟩ = some (.string a0_4) := (blk_cell BK109.out 4).trans rfl; have hfz30_0 := blk_frozen BK109.out 0; have hfz30_1 := blk_frozen BK109.out 1; have hfz30_2 := blk_frozen BK109.out 2; have hfz30_3 := blk_frozen BK109.out 3; have hfz30_4 := blk_frozen BK109.out 4) | ((with_reducible refine gate_dst (N := 5) rfl ?_); (with_reducible refine gate_callee (f := 32) rfl ?_); refine goesL_ (some 5) rfl rfl Try.func32 (by kernel_rfl) rfl #[.string a0_0] rfl (by (try simp only [List.map_toArray, List.map_cons, List.map_nil]); first | done | rfl | (simp only [List.length_drop, List.length_take]; rfl)) ?_; (with_reducible refine (wimpleref1_May.calls a0_0 true _ A2.out).mono ?_); rintro e w31 ⟨rfl, hb⟩; refine ⟨_, rfl, ?_⟩; have n0_ := Aside0.mk (blk_below (g := gb109) (o := .cells #[.string a0_0, .int .i64 a0_1, .int .i64 a0_2, .int .i64 a0_3, .string a0_4] 53 (0, 0)) (by (with_reducible repeat (first | refine blk_drewN ?_ _ | refine blk_drew ?_ | refine blk_alloc ?_ _)); exact BK109.out) hb); have n1_ := Aside0.mk (below_step (by repeat (first | (with_reducible first | exact HB.out | apply below_alloc | apply pw_below_drewN | apply below_drew1 | refine below_set ?_ GE109.out) | exact HB.out)) hb); clear BK109; clear HB; have BK109 := n0_; have HB := n1_; clear n0_ n1_; (try clear hb); (try clear hb2); (try clear hk); (try clear hi); (try clear hcz20_0 hcz20_1 hcz20_2 hcz20_3 hcz20_4 hfz20_0 hfz20_1 hfz20_2 hfz20_3 hfz20_4); (try clear hcz22_0 hcz22_1 hcz22_2 hcz22_3 hcz22_4 hfz22_0 hfz22_1 hfz22_2 hfz22_3 hfz22_4); (try clear hcz24_0 hcz24_1 hcz24_2 hcz24_3 hcz24_4 hfz24_0 hfz24_1 hfz24_2 hfz24_3 hfz24_4); (try clear hcz26_0 hcz26_1 hcz26_2 hcz26_3 hcz26_4 hfz26_0 hfz26_1 hfz26_2 hfz26_3 hfz26_4); (try clear hcz28_0 hcz28_1 hcz28_2 hcz28_3 hcz28_4 hfz28_0 hfz28_1 hfz28_2 hfz28_3 hfz28_4); (try clear hcz30_0 hcz30_1 hcz30_2 hcz30_3 hcz30_4 hfz30_0 hfz30_1 hfz30_2 hfz30_3 hfz30_4); have hcz32_0 : w31.cell? ⟨gb109, 0, none⟩ = some (.string a0_0) := (blk_cell BK109.out 0).trans rfl; have hcz32_1 : w31.cell? ⟨gb109, 1, none⟩ = some (.int .i64 a0_1) := (blk_cell BK109.out 1).trans rfl; have hcz32_2 : w31.cell? ⟨gb109, 2, none⟩ = some (.int .i64 a0_2) := (blk_cell BK109.out 2).trans rfl; have hcz32_3 : w31.cell? ⟨gb109, 3, none⟩ = some (.int .i64 a0_3) := (blk_cell BK109.out 3).trans rfl; have hcz32_4 : w31.cell? ⟨gb109, 4, none⟩ = some (.string a0_4) := (blk_cell BK109.out 4).trans rfl; have hfz32_0 := blk_frozen BK109.out 0; have hfz32_1 := blk_frozen BK109.out 1; have hfz32_2 := blk_frozen BK109.out 2; have hfz32_3 := blk_frozen BK109.out 3; have hfz32_4 := blk_frozen BK109.out 4) | (go_at_call 52; (with_reducible refine (wimpleref4_short.calls a0_1 false _ A4.out).mono ?_); rintro e w' ⟨rfl, ⟨nd, rfl⟩⟩))
      go_ret
      exact ⟨by first | rfl | (simp [errW_none, errW_some] <;> rfl) | (simp [*, errW_none, errW_some] <;> rfl), by repeat (first | (with_reducible first | exact HB.out | apply below_alloc | apply pw_below_drewN | apply below_drew1 | refine below_set ?_ GE109.out) | exact HB.out)⟩
  · replace c3 := Bool.eq_false_iff.mpr c3
    subst c3
    have H1 : (some false) = some r := by rw [if_neg (show ¬ (false = true) by decide)] at H; exact H
    clear H
    have H := H1
    clear H1
    obtain rfl := Option.some.inj H
    go_enter Try.func69, Try.ntmps69
    go_wp2_with (first | ((with_reducible refine gate_dst (N := 1) rfl ?_); refine box_event ?hg (N := 1) ?hd (cs := #[.string a0_0, .int .i64 a0_1, .int .i64 a0_2, .int .i64 a0_3, .string a0_4]) (t := 53) ?hr ?_; (case hd => rfl); (case hg => rfl); (case hr => first | (go_simp; done) | (go_simp; rfl)); intro gb109 hg w33 hbox hb; have n0_ := Aside0.mk (below_step (by repeat (first | (with_reducible first | exact HB.out | apply below_alloc | apply pw_below_drewN | apply below_drew1) | exact HB.out)) hb); have n1_ := Aside0.mk (hbox); have n2_ := Aside0.mk ((by rw [hg]; exact (below_size (by repeat (first | (with_reducible first | exact HB.out | apply below_alloc | apply pw_below_drewN | apply below_drew1) | exact HB.out))) : w.heap.size ≤ gb109)); have n3_ := Aside0.mk ((by rw [hg]; exact (below_size (by repeat (first | (with_reducible first | exact HB.out | apply below_alloc | apply pw_below_drewN | apply below_drew1) | exact HB.out))) : w.heap.size ≤ gb109)); clear HB; have HB := n0_; have BK109 := n1_; have GW109 := n2_; have GE109 := n3_; clear n0_ n1_ n2_ n3_; clear hb hbox hg; (try clear hcz22_0 hcz22_1 hcz22_2 hcz22_3 hcz22_4 hfz22_0 hfz22_1 hfz22_2 hfz22_3 hfz22_4); (try clear hcz24_0 hcz24_1 hcz24_2 hcz24_3 hcz24_4 hfz24_0 hfz24_1 hfz24_2 hfz24_3 hfz24_4); (try clear hcz26_0 hcz26_1 hcz26_2 hcz26_3 hcz26_4 hfz26_0 hfz26_1 hfz26_2 hfz26_3 hfz26_4); (try clear hcz28_0 hcz28_1 hcz28_2 hcz28_3 hcz28_4 hfz28_0 hfz28_1 hfz28_2 hfz28_3 hfz28_4); (try clear hcz30_0 hcz30_1 hcz30_2 hcz30_3 hcz30_4 hfz30_0 hfz30_1 hfz30_2 hfz30_3 hfz30_4); (try clear hcz32_0 hcz32_1 hcz32_2 hcz32_3 hcz32_4 hfz32_0 hfz32_1 hfz32_2 hfz32_3 hfz32_4); have hcz34_0 : w33.cell? ⟨gb109, 0, none⟩ = some (.string a0_0) := (blk_cell BK109.out 0).trans rfl; have hcz34_1 : w33.cell? ⟨gb109, 1, none⟩ = some (.int .i64 a0_1) := (blk_cell BK109.out 1).trans rfl; have hcz34_2 : w33.cell? ⟨gb109, 2, none⟩ = some (.int .i64 a0_2) := (blk_cell BK109.out 2).trans rfl; have hcz34_3 : w33.cell? ⟨gb109, 3, none⟩ = some (.int .i64 a0_3) := (blk_cell BK109.out 3).trans rfl; have hcz34_4 : w33.cell? ⟨gb109, 4, none⟩ = some (.string a0_4) := (blk_cell BK109.out 4).trans rfl; have hfz34_0 := blk_frozen BK109.out 0; have hfz34_1 := blk_frozen BK109.out 1; have hfz34_2 := blk_frozen BK109.out 2; have hfz34_3 := blk_frozen BK109.out 3; have hfz34_4 := blk_frozen BK109.out 4) | ((with_reducible refine gate_dst (N := 5) rfl ?_); (with_reducible refine gate_callee (f := 32) rfl ?_); refine goesL_ (some 5) rfl rfl Try.func32 (by kernel_rfl) rfl #[.string a0_0] rfl (by (try simp only [List.map_toArray, List.map_cons, List.map_nil]); first | done | rfl | (simp only [List.length_drop, List.length_take]; rfl)) ?_; (with_reducible refine (wimpleref1_May.calls a0_0 false _ A2.out).mono ?_); rintro e w35 ⟨rfl, hb⟩; refine ⟨_, rfl, ?_⟩; have n0_ := Aside0.mk (blk_below (g := gb109) (o := .cells #[.string a0_0, .int .i64 a0_1, .int .i64 a0_2, .int .i64 a0_3, .string a0_4] 53 (0, 0)) (by (with_reducible repeat (first | refine blk_drewN ?_ _ | refine blk_drew ?_ | refine blk_alloc ?_ _)); exact BK109.out) hb); have n1_ := Aside0.mk (below_step (by repeat (first | (with_reducible first | exact HB.out | apply below_alloc | apply pw_below_drewN | apply below_drew1 | refine below_set ?_ GE109.out) | exact HB.out)) hb); clear BK109; clear HB; have BK109 := n0_; have HB := n1_; clear n0_ n1_; (try clear hb); (try clear hb2); (try clear hk); (try clear hi)))
    go_ret
    exact ⟨by first | rfl | (simp [errW_none, errW_some] <;> rfl) | (simp [*, errW_none, errW_some] <;> rfl), by repeat (first | (with_reducible first | exact HB.out | apply below_alloc | apply pw_below_drewN | apply below_drew1 | refine below_set ?_ GE109.out) | exact HB.out)⟩

-- NOT PRINTED: function 37 (wimpleref4_MsgMay)

end Go.Proofs.Ytjklgdpffmaamaa.PRm

namespace Go.Proofs.Ytjklgdpffmaamaa.Wr
open Go.RowKit Go.PlainAid Go.Proofs.Ytjklgdpffmaamaa.Base Go.Proofs.Ytjklgdpffmaamaa.Oct Go.Proofs.Ytjklgdpffmaamaa.Nm
set_option linter.unusedVariables false
theorem heads_lt {s : ByteArray} {p : Nat} (h : p ∈ heads s) : p < s.size := placesAt_mem s _ 0 (Nat.le_refl _) p (List.dropLast_subset _ h)
/-- All places lie below the greatest that a pointer tells. -/
def Small (m : ByteArray → Option Int) : Prop := ∀ x t, m x = some t → 0 ≤ t ∧ t < 16384
theorem Small.put {m : ByteArray → Option Int} (h : Small m) (s : ByteArray) (at0 : Nat) (hz : at0 + s.size ≤ 16384) : Small (putN m s at0) := by
  intro x t hx
  rcases putK_inv s x at0 t _ _ hx with hx | ⟨p, hp, _, rfl⟩
  · exact h x t hx
  · have := heads_lt (List.mem_of_mem_take hp); omega
end Go.Proofs.Ytjklgdpffmaamaa.Wr

namespace Go.Proofs.Ytjklgdpffmaamaa.Wr
open Go.RowKit Go.PlainAid Go.Maps Go.Proofs.Ytjklgdpffmaamaa.Base Go.Proofs.Ytjklgdpffmaamaa.Oct Go.Proofs.Ytjklgdpffmaamaa.Nm Go.Proofs.YtjklgdpffmaamaaW.PrintWords
set_option linter.unusedVariables false
/-- The cells of rests and places. -/
def mcells : List (ByteArray × Int) → List Value
  | [] => []
  | (r, t) :: ms => .string r :: .int .i64 t :: mcells ms
/-- What the document's writer holds: its bytes, the rests and their places. -/
structure Rf (base : Nat) (w : World) (g : Nat) (v : Value) (S : ByteArray) (ms : List (ByteArray × Int)) : Prop where
  gb : base ≤ g
  blk : w.heap[g]? = some (.cells #[.string S, v] 78 (0, 0))
  own : w.ownsRow base 131 2 v ms.length (mcells ms)
  len : S.size ≤ 4096
  few : ms.length ≤ 256 * S.size
/-- What a call on the document's writer leaves as it was. -/
structure Kr (w w' : World) (g : Nat) : Prop where
  size : w.heap.size ≤ w'.heap.size
  block : ∀ k, k < w.heap.size → k ≠ g → (∀ cs, w.heap[k]? ≠ some (.cells cs 131 (0, 0))) → w'.heap[k]? = w.heap[k]?
section
variable {base b' g gm g2 size n : Nat} {v vs v2 : Value} {xs : List Int} {ys : List Value} {m : ByteArray → Option Int} {w w' w1 : World} {e : TypeId} {S : ByteArray} {ms : List (ByteArray × Int)}
theorem Kr.refl (w : World) (g : Nat) : Kr w w g := ⟨Nat.le_refl _, fun _ _ _ _ => rfl⟩
theorem Kr.trans (h : Kr w w1 g) (k : Kr w1 w' g) : Kr w w' g :=
  ⟨Nat.le_trans h.size k.size, fun i hi a c => by
    have e := h.block i hi a c
    exact (k.block i (Nat.lt_of_lt_of_le hi h.size) a (fun cs => by rw [e]; exact c cs)).trans e⟩
theorem own_keep (h : w.ownsRow base e size v n ys) (hr : ∀ k, v.ownBlock = some k → w'.heap[k]? = w.heap[k]?) : w'.ownsRow base e size v n ys := by
  refine ⟨h.1, ?_⟩
  rcases h.2 with h2 | ⟨k, cap, cur, rfl, hg, hh, r⟩
  · exact .inl h2
  · exact .inr ⟨k, cap, cur, rfl, hg, (hr k rfl).trans hh, r⟩
theorem Wr.keep (H : Wr base w g gm v xs m) (hg : w'.heap[g]? = w.heap[g]?) (hm : w'.heap[gm]? = w.heap[gm]?) (hr : ∀ k, v.ownBlock = some k → w'.heap[k]? = w.heap[k]?) : Wr base w' g gm v xs m := by
  obtain ⟨n, D, hn, ⟨es, clock, hb, F⟩, ht⟩ := H.map
  exact ⟨H.gb, H.mb, hg.trans H.blk, own_keep H.own hr, ⟨n, D, hn, ⟨es, clock, hm.trans hb, F⟩, ht⟩, H.len⟩
theorem Rf.keep (R : Rf base w g v S ms) (hg : w'.heap[g]? = w.heap[g]?) (hr : ∀ k, v.ownBlock = some k → w'.heap[k]? = w.heap[k]?) : Rf base w' g v S ms :=
  ⟨R.gb, hg.trans R.blk, own_keep R.own hr, R.len, R.few⟩
theorem Wr.map_blk (H : Wr base w g gm v xs m) : ∃ es c, w.heap[gm]? = some (.map es c) := by
  obtain ⟨n, D, hn, ⟨es, clock, hb, F⟩, ht⟩ := H.map
  exact ⟨es, clock, hb⟩
/-- The document's writer beside, behind a call on the writer. -/
theorem Rf.kp (R : Rf b' w g2 v2 S ms) (H : Wr base w g gm v xs m) (K : Kp w w' g gm) : Rf b' w' g2 v2 S ms := by
  obtain ⟨es, c, hm⟩ := H.map_blk
  refine R.keep (K.block g2 (blk_lt R.blk) (blk_ne R.blk H.blk (by decide)) ?_ ?_) fun k hk => ?_
  · rintro rfl; rw [R.blk] at hm; cases hm
  · intro cs q; rw [R.blk] at q; injection q with q; injection q with _ q; exact absurd q (by decide)
  · obtain ⟨cells, hc⟩ := own_typed R.own k hk
    refine K.block k (blk_lt hc) (blk_ne hc H.blk (by decide)) ?_ ?_
    · rintro rfl; rw [hc] at hm; cases hm
    · intro cs q; rw [hc] at q; injection q with q; injection q with _ q; exact absurd q (by decide)
end
end Go.Proofs.Ytjklgdpffmaamaa.Wr

namespace Go.Proofs.Ytjklgdpffmaamaa.Wm
open Go.RowKit Go.PlainAid Go.Proofs.Ytjklgdpffmaamaa.Base
open Go.Proofs.YtjklgdpffmaamaaW.PrintWords (Ev LeO)
set_option linter.unusedVariables false
theorem rgetVc {s : ByteArray} {r : Got} (hs : s.size ≤ 9223372036854775000) (h : Ev (fun k => getV k s) r) (w : World) : Calls Try.prog 25 #[.string s] w (GetPost s w r) := by
  obtain ⟨k, hk⟩ := rget_of h
  exact rgetc s w hs (hk k (Nat.le_refl _))
end Go.Proofs.Ytjklgdpffmaamaa.Wm

namespace Go.Proofs.Ytjklgdpffmaamaa.RFo
open Go.RowKit Go.PlainAid Go.Proofs.Ytjklgdpffmaamaa.Base Go.Proofs.Ytjklgdpffmaamaa.Oct Go.Proofs.Ytjklgdpffmaamaa.Sl Go.Proofs.Ytjklgdpffmaamaa.Nm Go.Proofs.Ytjklgdpffmaamaa.Fo
set_option linter.unusedVariables false
set_option linter.unusedSimpArgs false
theorem part_stay (l : List UInt8) (i : Nat) (h : i < l.length) (hx : (l.getD i 0).toNat ≤ 63) : Fo.part l i = Fo.part l (i + 1) := by
  have := part_set l i h
  have e : lowB (l.getD i 0) = l.getD i 0 := if_neg (by omega)
  rw [e, ← part_get l i h] at this
  rw [← this]
  rw [List.getD_eq_getElem?_getD, List.getElem?_eq_getElem (by rw [part_length]; exact h)]
  simp
set_option maxHeartbeats 2000000 in
set_option maxRecDepth 100000 in
theorem rfoldc (s : ByteArray) (w : World) : Calls Try.prog 26 #[.string s] w fun e w' => e = .returned (.string (foldN s)) ∧ Below w.heap.size w w' := by
  have kp := rplaces_any s w
  have kc := fun w => Lib.run_convert_string_bytes (P := Try.prog) w 9 56 5 s Try.underlying9 Try.underlying56 Try.underlying5
  by_cases hn : nameB s = true
  case neg =>
    have hf : nameB s = false := by simpa using hn
    go_enter Try.func26, Try.ntmps26
    go_wp2_with fail
    refine kp.mono ?_
    rintro e w1 ⟨v, rfl, hb, _⟩
    rw [hf]
    clear kp kc
    go_wp2_with fail
    go_ret
    exact ⟨by unfold foldN; rw [if_neg hn]; rfl, hb⟩
  have HP := Lib.hid (pl hn)
  have HN := Lib.hid hn
  have hs255 : s.size ≤ 255 := by have := HN.out; unfold nameB at this; rw [Bool.and_eq_true, decide_eq_true_iff] at this; exact this.1
  go_enter Try.func26, Try.ntmps26
  go_wp2_with fail
  refine kp.mono ?_
  rintro e w1 ⟨v, rfl, hb, ho⟩
  rw [hn]
  have own := ho hn
  clear kp ho hn
  obtain ⟨hlp, hll⟩ : 0 < (places s).length ∧ (places s).length ≤ 255 := ⟨HP.out.pos, HP.out.len⟩
  obtain ⟨pg, pc, hv, hpb⟩ : ∃ g c, v = .slice (some ⟨g, 0, none⟩) (places s).length c ∧ w.heap.size ≤ g := by
    rcases own.2 with ⟨_, h0⟩ | ⟨g, cap, cur, hv, hg, _⟩
    · omega
    · exact ⟨g, cap, hv, hg⟩
  subst hv
  have hcell : ∀ j, j < (places s).length → w1.cell? ⟨pg, j, none⟩ = some (.int .i64 ((places s).getD j 0 : Nat)) := fun j hj => by
    have := own.cells (g := pg) rfl j (.int .i64 ((places s).getD j 0 : Nat)) (by simp [pcells, List.getElem?_eq_getElem hj, List.getD_eq_getElem?_getD])
    rwa [show (⟨pg, 0, none⟩ : Addr).add j = ⟨pg, j, none⟩ by unfold Addr.add; split <;> simp_all] at this
  have hpl : (places s).length ≤ pc := by
    rcases own.2 with ⟨h0, _⟩ | ⟨g, cap, cur, hv, _, _, hc, _⟩
    · cases h0
    · injection hv with _ _ hc'; omega
  have hlt := own.lt pg rfl
  have HC := Lib.hid hcell
  clear hcell own
  go_upto_region 5 with (fail)
  obtain ⟨Bm, hI, hz1⟩ := BRow.made w1 5 s
  have Bw := hb.trans (Bm.mono hb.size)
  generalize Lib.bytesWorld w1 5 s = w2 at *
  generalize grownCap w1 s.size 0 5 = cap at *
  obtain ⟨g, hg⟩ : ∃ g, g = w1.heap.size := ⟨_, rfl⟩
  rw [← hg] at hI ⊢
  have hpg : pg < g := by rw [hg]; exact hlt.2
  have HG := Lib.hid (show w.heap.size ≤ g by rw [hg]; exact hb.size)
  have hc2 : ∀ j, j < (places s).length → w2.cell? ⟨pg, j, none⟩ = some (.int .i64 ((places s).getD j 0 : Nat)) := fun j hj => (Bm.cell hlt.2).trans (HC.out j hj)
  have HC2 := Lib.hid hc2
  clear hc2 kc hg hz1 Bm hlt HC hb
  have HPN := Lib.hid (show (places s).length - 1 + 1 = (places s).length by omega)
  have hz := len_data s
  go_wp2_with fail
  go_loopg [6] ((places s).length) (fun k v6 wr => ∃ i : Nat, v6 = .int .i64 (i : Int) ∧ i + 1 + k = (places s).length + 1 ∧ i < (places s).length ∧ BRow.Is wr 5 g (Fo.part s.data.toList ((places s).getD i 0)) ∧ Below g w2 wr)
  case atStart => exact ⟨0, rfl, by omega, by omega, by rw [HP.out.first]; simpa [Fo.part] using hI, Below.refl _ _⟩
  case round =>
    obtain ⟨i, rfl, hk, hil, HI, HB⟩ := hrel
    have HB' := Lib.hid HB
    have HI' := Lib.hid HI
    have e0 : IntKind.i64.wrap ((i : Int) + 1) = ((i + 1 : Nat) : Int) := by rw [IntWalk.i64_in _ (by omega)]; omega
    by_cases h : i + 1 < (places s).length
    · obtain ⟨i1, hi1⟩ : ∃ i1 : Nat, i1 = i + 1 := ⟨_, rfl⟩
      have q : decide ((i1 : Int) < (places s).length) = true := by simp; omega
      have c0 : wr.cell? ⟨pg, i, none⟩ = _ := (HB.cell hpg).trans (HC2.out i hil)
      have c1 : ∀ wz, Below g w2 wz → wz.cell? ⟨pg, i1, none⟩ = _ := fun wz hz => (hz.cell hpg).trans (HC2.out i1 (by omega))
      obtain ⟨n1, n2, n3⟩ := HP.out.next i h
      rw [← hi1] at n1 n3 e0
      have HI1 := Lib.hid hi1
      have nb := bt_nonneg s ((places s).getD i 0)
      have bd := bt_data s ((places s).getD i 0)
      generalize hx : (places s).getD i 0 = x at *
      generalize hy : (places s).getD i1 0 = y at *
      have hst := part_stay s.data.toList x (by omega) (by omega)
      rw [hst] at HI
      have HI2 := Lib.hid HI
      have HY := Lib.hid hy
      have HX := Lib.hid hx
      have hxy : x + 1 ≤ y := by omega
      have hys : y < s.size := n3
      have m1 : (0 : Int) ≤ (i : Int) := by omega
      have m2 : (i : Int) < ((places s).length : Int) := by omega
      have m3 : (0 : Int) ≤ (i1 : Int) := by omega
      have m4 : (i1 : Int) < ((places s).length : Int) := by omega
      have e2 : IntKind.i64.wrap ((x : Int) + 1) = ((x + 1 : Nat) : Int) := by rw [IntWalk.i64_in _ (by omega)]; omega
      clear hst n1 n2 n3 nb bd hx hy hi1 HI HI' HB
      go_wp2_with fail
      go_loopg [7] (y - x) (fun k v7 wr => ∃ j : Nat, v7 = .int .i64 (j : Int) ∧ j + k = y + 1 ∧ x + 1 ≤ j ∧ j ≤ y ∧ BRow.Is wr 5 g (Fo.part s.data.toList j) ∧ Below g w2 wr)
      case atStart => exact ⟨x + 1, rfl, by omega, by omega, by omega, HI2.out, HB'.out⟩
      case round =>
        obtain ⟨j, rfl, hjk, hjx, hjy, HJ, HBJ⟩ := hrel
        have d1 := c1 _ HBJ
        have HJ' := Lib.hid HJ
        have HBJ' := Lib.hid HBJ
        by_cases hj : j < y
        · have q1 : decide ((j : Int) < (y : Int)) = true := by simp; omega
          have hi : j < (Fo.part s.data.toList j).length := by rw [part_length]; omega
          have ci := HJ.cell j hi
          have fi := HJ.free j hi
          rw [part_get _ _ (by omega)] at ci
          have HS := HJ.set j hi (lowB (s.data.toList.getD j 0))
          rw [part_set _ _ (by omega)] at HS
          have HS' := Lib.hid HS
          have m5 : (0 : Int) ≤ (j : Int) := by omega
          have m6 : (j : Int) < (s.size : Int) := by omega
          have e3 : IntKind.i64.wrap ((j : Int) + 1) = ((j + 1 : Nat) : Int) := by rw [IntWalk.i64_in _ (by omega)]; omega
          have hnat := low_nat (s.data.toList.getD j 0)
          have hstep : ¬ (65 ≤ (s.data.toList.getD j 0).toNat ∧ (s.data.toList.getD j 0).toNat ≤ 90) → BRow.Is wr 5 g (Fo.part s.data.toList (j + 1)) := fun hh => by
            rw [← part_set _ _ (by omega)]
            have e : lowB (s.data.toList.getD j 0) = s.data.toList.getD j 0 := if_neg hh
            rw [e]
            have : (Fo.part s.data.toList j).set j (s.data.toList.getD j 0) = Fo.part s.data.toList j := by
              rw [← part_get s.data.toList j (by omega)]
              rw [List.getD_eq_getElem?_getD, List.getElem?_eq_getElem hi]
              simp
            rw [this]
            exact HJ'.out
          have HSTEP := Lib.hid hstep
          clear hstep HS HJ HBJ
          generalize s.data.toList.getD j 0 = u at *
          by_cases u1 : 65 ≤ u.toNat
          · have p1 : decide ((65 : Int) ≤ (u.toNat : Int)) = true := by simp; omega
            by_cases u2 : u.toNat ≤ 90
            · have p2 : decide ((u.toNat : Int) ≤ 90) = true := by simp; omega
              have e4 : IntKind.u8.wrap ((u.toNat : Int) + 32) = ((lowB u).toNat : Int) := by
                rw [hnat, if_pos ⟨u1, u2⟩]
                show (((u.toNat : Int) + 32) % 256) = _
                omega
              have e5 : ((u.toNat : Int) + 32) = ((lowB u).toNat : Int) := by rw [hnat, if_pos ⟨u1, u2⟩]; omega
              have E5 := Lib.hid e5
              clear e5
              go_wp2_with fail
              go_roundg (y - j)
              case measure => omega
              case rel => exact ⟨j + 1, by first | rfl | exact congrArg (Value.int .i64) e3, by omega, by omega, by omega, by first | exact HS'.out | (rw [E5.out]; exact HS'.out), (by first | exact HBJ'.out.setCell (Nat.le_refl _) _)⟩
            · have p2 : decide ((u.toNat : Int) ≤ 90) = false := by simp; omega
              go_wp2_with fail
              go_roundg (y - j)
              case measure => omega
              case rel => exact ⟨j + 1, by first | rfl | exact congrArg (Value.int .i64) e3, by omega, by omega, by omega, HSTEP.out (by omega), HBJ'.out⟩
          · have p1 : decide ((65 : Int) ≤ (u.toNat : Int)) = false := by simp; omega
            go_wp2_with fail
            go_roundg (y - j)
            case measure => omega
            case rel => exact ⟨j + 1, by first | rfl | exact congrArg (Value.int .i64) e3, by omega, by omega, by omega, HSTEP.out (by omega), HBJ'.out⟩
        · have q1 : decide ((j : Int) < (y : Int)) = false := by simp; omega
          obtain rfl : j = y := by omega
          go_wp2_with fail
          go_roundg ((places s).length - 1 - i)
          case measure => have := HI1.out; omega
          case rel => have h1 := HI1.out; subst h1; exact ⟨i + 1, by first | rfl | exact congrArg (Value.int .i64) e0, by omega, by omega, by rw [HY.out]; exact HJ'.out, HBJ'.out⟩
    · have q : decide (((i + 1 : Nat) : Int) < (places s).length) = false := by simp; omega
      have ei : i + 1 = (places s).length := by omega
      have e1 : Fo.part s.data.toList ((places s).getD i 0) = s.data.toList.map lowB := by
        obtain ⟨a1, a2⟩ := HP.out.last
        rw [show (places s).length - 1 = i by omega] at a1 a2
        generalize (places s).getD i 0 = x at *
        have bd := bt_data s x
        rw [a2] at bd
        rw [part_stay _ _ (by omega) (by omega), a1, ← hz, part_all]
      rw [e1] at HI
      have kb := BRow.Is.back (P := Try.prog) HI 56 9 cap s.size Try.underlying56 Try.underlying5 Try.underlying9 (by rw [List.length_map]; exact hz.symm)
      clear HI e1 HB
      go_wp2_with fail
      go_ret
      exact ⟨by unfold foldN; rw [if_pos HN.out]; rfl, Bw.trans (HB'.out.mono HG.out)⟩
end Go.Proofs.Ytjklgdpffmaamaa.RFo

namespace Go.Proofs.Ytjklgdpffmaamaa.PGo
open Go.RowKit Go.Proofs.YtjklgdpffmaamaaW.PrintWords Go.Proofs.YtjklgdpffmaamaaW.PrintLast Go.Proofs.YtjklgdpffmaamaaW.PrintMore
attribute [local go_sem] max2_int min2_int max_two min_two max_three min_three max_four min_four   -- for this text's walks alone
set_option linter.unusedVariables false
set_option linter.unusedSimpArgs false

/-! ### wimpleref4_short: function 52 -/
def wimpleref4_short.f (a0 : Int) : Option (Bool) := if a0 ≥ 0 then (some (decide (a0 ≤ 65535))) else (some false)
set_option maxHeartbeats 8000000 in
set_option maxRecDepth 100000 in
theorem wimpleref4_short.calls (a0 : Int) (r : Bool) (w : World) (h : wimpleref4_short.f a0 = some r) :
    Calls Try.prog 52 #[.int .i64 a0] w fun e w' => e = .returned (.bool r) ∧ Drawn0 w w' := by
  have H : (if a0 ≥ 0 then (some (decide (a0 ≤ 65535))) else (some false)) = some r := h
  clear h
  by_cases c2 : a0 ≥ 0
  · rw [if_pos c2] at H
    have c2b0 : decide (0 ≤ a0) = true := decide_eq_true c2
    clear c2
    obtain rfl := Option.some.inj H
    go_enter Try.func52, Try.ntmps52
    go_wp2
    go_ret
    exact ⟨by first | rfl | (simp; done) | (simp [*]; done), by repeat (first | exact Drawn0.refl _ | apply Drawn0.step)⟩
  · rw [if_neg c2] at H
    have c2b0 : decide (0 ≤ a0) = false := decide_eq_false c2
    clear c2
    obtain rfl := Option.some.inj H
    go_enter Try.func52, Try.ntmps52
    go_wp2
    go_ret
    exact ⟨by first | rfl | (simp; done) | (simp [*]; done), by repeat (first | exact Drawn0.refl _ | apply Drawn0.step)⟩

/-! ### wimpleref4_wide: function 53 -/
def wimpleref4_wide.f (a0 : Int) : Option (Bool) := if a0 ≥ 0 then (some (decide (a0 ≤ 4294967295))) else (some false)
set_option maxHeartbeats 8000000 in
set_option maxRecDepth 100000 in
theorem wimpleref4_wide.calls (a0 : Int) (r : Bool) (w : World) (h : wimpleref4_wide.f a0 = some r) :
    Calls Try.prog 53 #[.int .i64 a0] w fun e w' => e = .returned (.bool r) ∧ Drawn0 w w' := by
  have H : (if a0 ≥ 0 then (some (decide (a0 ≤ 4294967295))) else (some false)) = some r := h
  clear h
  by_cases c2 : a0 ≥ 0
  · rw [if_pos c2] at H
    have c2b0 : decide (0 ≤ a0) = true := decide_eq_true c2
    clear c2
    obtain rfl := Option.some.inj H
    go_enter Try.func53, Try.ntmps53
    go_wp2
    go_ret
    exact ⟨by first | rfl | (simp; done) | (simp [*]; done), by repeat (first | exact Drawn0.refl _ | apply Drawn0.step)⟩
  · rw [if_neg c2] at H
    have c2b0 : decide (0 ≤ a0) = false := decide_eq_false c2
    clear c2
    obtain rfl := Option.some.inj H
    go_enter Try.func53, Try.ntmps53
    go_wp2
    go_ret
    exact ⟨by first | rfl | (simp; done) | (simp [*]; done), by repeat (first | exact Drawn0.refl _ | apply Drawn0.step)⟩

/-! ### wimpleref1_Num: function 54 -/
mutual
def wimpleref1_Num.j0 : Nat → ByteArray → Int → Int → Bool → Option (Int × Int × Int)
  | 0, _, _, _, _ => none
  | k + 1, x0, x1, x2, x26 => if x26 = true then (some (0, 0, 300)) else (wimpleref1_Num.l0 k x0 x1 x2 0 0)
def wimpleref1_Num.l0 : Nat → ByteArray → Int → Int → Int → Int → Option (Int × Int × Int)
  | 0, _, _, _, _, _ => none
  | k + 1, x0, x1, x2, x9, x10 => if x10 < x2 then (if 0 ≤ (wrap64 (x1 + x10)) then (if (wrap64 (x1 + x10)) < (x0.size : Int) then (wimpleref1_Num.l0 k x0 x1 x2 (Go.bits .or .i64 (wrap64 (x9 * 256)) (wrap64 (bt x0 (wrap64 (x1 + x10))))) (wrap64 (x10 + 1))) else (none)) else (none)) else (some (x9, wrap64 (x1 + x2), 0))
end
def wimpleref1_Num.f (k : Nat) (a0 : ByteArray) (a1 : Int) (a2 : Int) : Option (Int × Int × Int) := if a1 < 0 then (wimpleref1_Num.j0 k a0 a1 a2 true) else (if a1 > (a0.size : Int) then (wimpleref1_Num.j0 k a0 a1 a2 true) else (wimpleref1_Num.j0 k a0 a1 a2 (decide (a2 > (wrap64 ((a0.size : Int) - a1))))))
theorem wimpleref1_Num.mono_l : ∀ k, (∀ y0 y1 y2 y3, LeO (wimpleref1_Num.j0 k y0 y1 y2 y3) (wimpleref1_Num.j0 (k + 1) y0 y1 y2 y3)) ∧ (∀ y0 y1 y2 y3 y4, LeO (wimpleref1_Num.l0 k y0 y1 y2 y3 y4) (wimpleref1_Num.l0 (k + 1) y0 y1 y2 y3 y4))
  | 0 => ⟨fun _ _ _ _ r h => by simp [wimpleref1_Num.j0] at h, fun _ _ _ _ _ r h => by simp [wimpleref1_Num.l0] at h⟩
  | k + 1 => by
    obtain ⟨ih0, ih1⟩ := wimpleref1_Num.mono_l k
    refine ⟨?_, ?_⟩
    · intro y0 y1 y2 y3
      unfold wimpleref1_Num.j0
      repeat' first
      | (with_reducible exact ih0 _ _ _ _)
      | (with_reducible exact ih1 _ _ _ _ _)
      | (with_reducible exact LeO.refl _)
      | (with_reducible exact LeO.none _)
      | (with_reducible refine LeO.ite ?_ ?_)
      | (with_reducible refine LeO.bind ?_ (fun _ => ?_))
      | exact ih0 _ _ _ _
      | exact ih1 _ _ _ _ _
      | exact LeO.none _
      | refine LeO.ite ?_ ?_
      | refine LeO.bind ?_ (fun _ => ?_)
    · intro y0 y1 y2 y3 y4
      unfold wimpleref1_Num.l0
      repeat' first
      | (with_reducible exact ih0 _ _ _ _)
      | (with_reducible exact ih1 _ _ _ _ _)
      | (with_reducible exact LeO.refl _)
      | (with_reducible exact LeO.none _)
      | (with_reducible refine LeO.ite ?_ ?_)
      | (with_reducible refine LeO.bind ?_ (fun _ => ?_))
      | exact ih0 _ _ _ _
      | exact ih1 _ _ _ _ _
      | exact LeO.none _
      | refine LeO.ite ?_ ?_
      | refine LeO.bind ?_ (fun _ => ?_)
theorem wimpleref1_Num.mono : ∀ a0 a1 a2 k, LeO (wimpleref1_Num.f k a0 a1 a2) (wimpleref1_Num.f (k + 1) a0 a1 a2) := by
  intro a0 a1 a2 k
  obtain ⟨ih0, ih1⟩ := wimpleref1_Num.mono_l k
  unfold wimpleref1_Num.f
  repeat' first
      | (with_reducible exact ih0 _ _ _ _)
      | (with_reducible exact ih1 _ _ _ _ _)
      | (with_reducible exact LeO.refl _)
      | (with_reducible exact LeO.none _)
      | (with_reducible refine LeO.ite ?_ ?_)
      | (with_reducible refine LeO.bind ?_ (fun _ => ?_))
      | exact ih0 _ _ _ _
      | exact ih1 _ _ _ _ _
      | exact LeO.none _
      | refine LeO.ite ?_ ?_
      | refine LeO.bind ?_ (fun _ => ?_)
set_option maxHeartbeats 8000000 in
set_option maxRecDepth 100000 in
theorem wimpleref1_Num.calls (k : Nat) (a0 : ByteArray) (a1 : Int) (a2 : Int) (r1 : Int) (r2 : Int) (r3 : Int) (w : World) (h : wimpleref1_Num.f k a0 a1 a2 = some (r1, r2, r3)) :
    Calls Try.prog 54 #[.string a0, .int .i64 a1, .int .i64 a2] w fun e w' => e = .returned (.tuple #[.int .i64 r1, .int .i64 r2, .int .i64 r3]) ∧ Drawn0 w w' := by
  have H : (if a1 < 0 then (wimpleref1_Num.j0 k a0 a1 a2 true) else (if a1 > (a0.size : Int) then (wimpleref1_Num.j0 k a0 a1 a2 true) else (wimpleref1_Num.j0 k a0 a1 a2 (decide (a2 > (wrap64 ((a0.size : Int) - a1))))))) = some (r1, r2, r3) := h
  clear h
  have HC4 := Aside0.mk H
  clear H
  go_enter Try.func54, Try.ntmps54
  go_upto_region 1 with (fail)
  go_cut [26] (fun v26 wc => ∃ (kq : Nat) (x26_3 : Bool), v26 = .bool x26_3 ∧ Aside0 (wimpleref1_Num.j0 kq a0 a1 a2 x26_3 = some (r1, r2, r3)) ∧ Aside0 (kq ≤ k) ∧ Drawn0 w wc)
  case first =>
    have H := HC4.out
    clear HC4
    by_cases c5 : a1 < 0
    · rw [if_pos c5] at H
      have c5b0 : decide (a1 < 0) = true := decide_eq_true c5
      clear c5
      (first | rw [c5b0] | (simp only [i64_w, i32_w]; rw [c5b0]) | skip)
      have H' := Aside0.mk H
      clear H
      go_wp2
      go_meet
      case rel => exact ⟨_, (true), (by first | rfl | (simp; done) | (simp [*]; done)), H', ⟨by first | omega | exact Nat.le_refl _⟩, by repeat (first | exact Drawn0.refl _ | apply Drawn0.step)⟩
    · rw [if_neg c5] at H
      have c5b0 : decide (a1 < 0) = false := decide_eq_false c5
      clear c5
      (first | rw [c5b0] | (simp only [i64_w, i32_w]; rw [c5b0]) | skip)
      by_cases c6 : a1 > (a0.size : Int)
      · rw [if_pos c6] at H
        have c6b0 : decide ((a0.size : Int) < a1) = true := decide_eq_true c6
        clear c6
        have H' := Aside0.mk H
        clear H
        go_wp2
        go_meet
        case rel => exact ⟨_, (true), (by first | rfl | (simp; done) | (simp [*]; done)), H', ⟨by first | omega | exact Nat.le_refl _⟩, by repeat (first | exact Drawn0.refl _ | apply Drawn0.step)⟩
      · rw [if_neg c6] at H
        have c6b0 : decide ((a0.size : Int) < a1) = false := decide_eq_false c6
        clear c6
        have H' := Aside0.mk H
        clear H
        go_wp2
        go_meet
        case rel => exact ⟨_, (decide (a2 > (wrap64 ((a0.size : Int) - a1)))), (by first | rfl | (simp; done) | (simp [*]; done)), H', ⟨by first | omega | exact Nat.le_refl _⟩, by repeat (first | exact Drawn0.refl _ | apply Drawn0.step)⟩
  case rest =>
    clear HC4
    try clear p2
    try clear c5
    try clear c5b0
    try clear c6
    try clear c6b0
    try clear p6
    obtain ⟨kq, x26_3, rfl, HA, HJ3, ⟨mc3, rfl⟩⟩ := hcut
    cases kq with
    | zero => exact absurd HA.out (by simp [wimpleref1_Num.j0])
    | succ kj3 =>
      have H := HA.out
      clear HA
      simp only [wimpleref1_Num.j0] at H
      by_cases c7 : x26_3 = true
      · subst c7
        have H1 : (some (0, 0, 300)) = some (r1, r2, r3) := by rw [if_pos rfl] at H; exact H
        clear H
        have H := H1
        clear H1
        simp only [Option.some.injEq, Prod.mk.injEq] at H
        obtain ⟨rfl, rfl, rfl⟩ := H
        go_wp2
        go_ret3
        exact ⟨by first | rfl | (simp; done) | (simp [*]; done), by repeat (first | exact Drawn0.refl _ | apply Drawn0.step)⟩
      · replace c7 := Bool.eq_false_iff.mpr c7
        subst c7
        have H1 : (wimpleref1_Num.l0 kj3 a0 a1 a2 0 0) = some (r1, r2, r3) := by rw [if_neg (show ¬ (false = true) by decide)] at H; exact H
        clear H
        have H := H1
        clear H1
        have H' := Aside0.mk H
        clear H
        go_wp2
        go_loopg [9, 10] kj3 (fun kq v9 v10 w' => ∃ (x9_2 : Int) (x10_2 : Int), v9 = .int .i64 x9_2 ∧ v10 = .int .i64 x10_2 ∧ Aside0 (wimpleref1_Num.l0 kq a0 a1 a2 x9_2 x10_2 = some (r1, r2, r3)) ∧ Aside0 (kq ≤ kj3) ∧ Drawn0 w w')
        case atStart => exact ⟨(0), (0), (by first | rfl | (simp; done) | (simp [*]; done)), (by first | rfl | (simp; done) | (simp [*]; done)), H', ⟨Nat.le_refl _⟩, by repeat (first | exact Drawn0.refl _ | apply Drawn0.step)⟩
        case round =>
          clear H'
          try clear p2
          try clear c3
          try clear c5
          try clear c5b0
          try clear c6
          try clear c6b0
          try clear p6
          try clear c7
          try clear p2
          try clear p6
          obtain ⟨x9_2, x10_2, rfl, rfl, HA, HK2, ⟨m2, rfl⟩⟩ := hrel
          cases gk with
          | zero => exact absurd HA.out (by simp [wimpleref1_Num.l0])
          | succ k2 =>
            have H := HA.out
            clear HA
            simp only [wimpleref1_Num.l0] at H
            by_cases c8 : x10_2 < a2
            · rw [if_pos c8] at H
              have c8b0 : decide (x10_2 < a2) = true := decide_eq_true c8
              clear c8
              obtain ⟨ji9, hji9⟩ : ∃ j_ : Int, (wrap64 (a1 + x10_2)) = j_ := ⟨_, rfl⟩
              replace H : (if 0 ≤ (ji9) then (if (ji9) < (a0.size : Int) then (wimpleref1_Num.l0 k2 a0 a1 a2 (Go.bits .or .i64 (wrap64 (x9_2 * 256)) (wrap64 (bt a0 (ji9)))) (wrap64 (x10_2 + 1))) else (none)) else (none)) = some (r1, r2, r3) := by first | (rw [hji9] at H; exact H) | (simp only [hji9] at H ⊢; exact H)
              have hji9w : (IntKind.i64.wrap (a1 + x10_2)) = ji9 := (i64_w _).trans hji9
              by_cases c10 : 0 ≤ (ji9)
              · rw [if_pos c10] at H
                have c10b0 : decide (0 ≤ (ji9)) = true := decide_eq_true c10
                clear c10
                by_cases c11 : (ji9) < (a0.size : Int)
                · rw [if_pos c11] at H
                  have c11b0 : decide ((ji9) < (a0.size : Int)) = true := decide_eq_true c11
                  clear c11
                  have H' := Aside0.mk H
                  clear H
                  have p12 : 0 ≤ ((ji9) : Int) := of_decide_eq_true (by first | (with_reducible assumption) | assumption)
                  have q12 : (ji9) < (a0.size : Int) := of_decide_eq_true (by first | (with_reducible assumption) | assumption)
                  have hx12 := bt_at a0 (ji9)
                  replace p12 := eq_true p12
                  replace q12 := eq_true q12
                  go_wp2
                  go_roundg k2
                  case measure => have := HJ3.out; have := HK2.out; omega
                  case rel => exact ⟨(Go.bits .or .i64 (wrap64 (x9_2 * 256)) (wrap64 (bt a0 (ji9)))), (wrap64 (x10_2 + 1)), (by first | rfl | (simp; done) | (simp only [← hji9] <;> (first | rfl | simp)) | (simp [*]; done)), (by first | rfl | (simp; done) | (simp [*]; done)), H', ⟨by have := HJ3.out; have := HK2.out; omega⟩, by repeat (first | exact Drawn0.refl _ | apply Drawn0.step)⟩
                · rw [if_neg c11] at H
                  exact absurd H (by simp)
              · rw [if_neg c10] at H
                exact absurd H (by simp)
            · rw [if_neg c8] at H
              have c8b0 : decide (x10_2 < a2) = false := decide_eq_false c8
              clear c8
              simp only [Option.some.injEq, Prod.mk.injEq] at H
              obtain ⟨rfl, rfl, rfl⟩ := H
              go_wp2
              go_ret3
              exact ⟨by first | rfl | (simp; done) | (simp [*]; done), by repeat (first | exact Drawn0.refl _ | apply Drawn0.step)⟩

end Go.Proofs.Ytjklgdpffmaamaa.PGo

namespace Go.Proofs.Ytjklgdpffmaamaa.PGo
open Go.RowKit Go.Proofs.YtjklgdpffmaamaaW.PrintWords Go.Proofs.YtjklgdpffmaamaaW.PrintLast Go.Proofs.YtjklgdpffmaamaaW.PrintMore
attribute [local go_sem] max2_int min2_int max_two min_two max_three min_three max_four min_four   -- for this text's walks alone
set_option linter.unusedVariables false
set_option linter.unusedSimpArgs false

/-! ### wimpleref4_GetOpt: function 27 -/
mutual
def wimpleref4_GetOpt.j0 : Nat → Bool → ByteArray → Int → Int → Int → ByteArray → Option (Int × Int × Int × Bool × Int × (List (S55)) × Int)
  | 0, _, _, _, _, _, _ => none
  | k + 1, x37, x102000, x102001, x102002, x102003, x102004 => if x37 = true then (some (0, 0, 0, false, 0, ([] : List (S55)), 800)) else (wimpleref4_GetOpt.l0 k 0 x102000 x102001 x102002 x102003 x102004 x102002 (x102003 / 16777216) (Go.bits .and .i64 (x102003 / 65536) 255) ((Go.bits .and .i64 (x102003 / 32768) 1) == 1) (Go.bits .and .i64 x102003 32767) ([] : List (S55)))
def wimpleref4_GetOpt.l0 : Nat → Int → ByteArray → Int → Int → Int → ByteArray → Int → Int → Int → Bool → Int → List (S55) → Option (Int × Int × Int × Bool × Int × (List (S55)) × Int)
  | 0, _, _, _, _, _, _, _, _, _, _, _, _ => none
  | k + 1, x5, x102000, x102001, x102002, x102003, x102004, x106000, x106001, x106002, x106003, x106004, x106005 => if x5 < (x102004.size : Int) then ((wimpleref1_Num.f k x102004 x5 2).bind fun bt106 => ((wimpleref1_Num.f k x102004 bt106.2.1 2).bind fun bt109 => (if bt106.2.2 = 0 then (if bt109.2.2 = 0 then (if bt109.1 > (wrap64 ((x102004.size : Int) - bt109.2.1)) then (some (0, 0, 0, false, 0, ([] : List (S55)), 800)) else (if 0 ≤ bt109.2.1 then (if bt109.2.1 ≤ (wrap64 (bt109.2.1 + bt109.1)) then (if (wrap64 (bt109.2.1 + bt109.1)) ≤ (x102004.size : Int) then (if x106005.length < 5864062014805 then (wimpleref4_GetOpt.l0 k (wrap64 (bt109.2.1 + bt109.1)) x102000 x102001 x102002 x102003 x102004 x106000 x106001 x106002 x106003 x106004 (x106005 ++ [(⟨bt106.1, x102004.extract (bt109.2.1 : Int).toNat ((wrap64 (bt109.2.1 + bt109.1)) : Int).toNat⟩ : S55)])) else (none)) else (none)) else (none)) else (none))) else (some (0, 0, 0, false, 0, ([] : List (S55)), 800))) else (some (0, 0, 0, false, 0, ([] : List (S55)), 800))))) else (some (x106000, x106001, x106002, x106003, x106004, x106005, 0))
end
def wimpleref4_GetOpt.f (k : Nat) (a0_0 : ByteArray) (a0_1 : Int) (a0_2 : Int) (a0_3 : Int) (a0_4 : ByteArray) : Option (Int × Int × Int × Bool × Int × (List (S55)) × Int) := if a0_0.toList = ([0] : List UInt8) then (if a0_1 = 41 then ((wimpleref4_short.f a0_2).bind fun t103 => (if t103 = true then ((wimpleref4_wide.f a0_3).bind fun t104 => (if t104 = true then (wimpleref4_GetOpt.j0 k (decide ((a0_4.size : Int) > 65535)) a0_0 a0_1 a0_2 a0_3 a0_4) else (wimpleref4_GetOpt.j0 k true a0_0 a0_1 a0_2 a0_3 a0_4))) else (wimpleref4_GetOpt.j0 k true a0_0 a0_1 a0_2 a0_3 a0_4))) else (wimpleref4_GetOpt.j0 k true a0_0 a0_1 a0_2 a0_3 a0_4)) else (wimpleref4_GetOpt.j0 k true a0_0 a0_1 a0_2 a0_3 a0_4)
theorem wimpleref4_GetOpt.mono_l : ∀ k, (∀ y0 y1 y2 y3 y4 y5, LeO (wimpleref4_GetOpt.j0 k y0 y1 y2 y3 y4 y5) (wimpleref4_GetOpt.j0 (k + 1) y0 y1 y2 y3 y4 y5)) ∧ (∀ y0 y1 y2 y3 y4 y5 y6 y7 y8 y9 y10 y11, LeO (wimpleref4_GetOpt.l0 k y0 y1 y2 y3 y4 y5 y6 y7 y8 y9 y10 y11) (wimpleref4_GetOpt.l0 (k + 1) y0 y1 y2 y3 y4 y5 y6 y7 y8 y9 y10 y11))
  | 0 => ⟨fun _ _ _ _ _ _ r h => by simp [wimpleref4_GetOpt.j0] at h, fun _ _ _ _ _ _ _ _ _ _ _ _ r h => by simp [wimpleref4_GetOpt.l0] at h⟩
  | k + 1 => by
    obtain ⟨ih0, ih1⟩ := wimpleref4_GetOpt.mono_l k
    refine ⟨?_, ?_⟩
    · intro y0 y1 y2 y3 y4 y5
      unfold wimpleref4_GetOpt.j0
      repeat' first
      | (with_reducible exact ih0 _ _ _ _ _ _)
      | (with_reducible exact ih1 _ _ _ _ _ _ _ _ _ _ _ _)
      | (with_reducible exact wimpleref1_Num.mono _ _ _ _)
      | (with_reducible exact LeO.refl _)
      | (with_reducible exact LeO.none _)
      | (with_reducible refine LeO.ite ?_ ?_)
      | (with_reducible refine LeO.bind ?_ (fun _ => ?_))
      | exact ih0 _ _ _ _ _ _
      | exact ih1 _ _ _ _ _ _ _ _ _ _ _ _
      | exact wimpleref1_Num.mono _ _ _ _
      | exact LeO.none _
      | refine LeO.ite ?_ ?_
      | refine LeO.bind ?_ (fun _ => ?_)
    · intro y0 y1 y2 y3 y4 y5 y6 y7 y8 y9 y10 y11
      unfold wimpleref4_GetOpt.l0
      repeat' first
      | (with_reducible exact ih0 _ _ _ _ _ _)
      | (with_reducible exact ih1 _ _ _ _ _ _ _ _ _ _ _ _)
      | (with_reducible exact wimpleref1_Num.mono _ _ _ _)
      | (with_reducible exact LeO.refl _)
      | (with_reducible exact LeO.none _)
      | (with_reducible refine LeO.ite ?_ ?_)
      | (with_reducible refine LeO.bind ?_ (fun _ => ?_))
      | exact ih0 _ _ _ _ _ _
      | exact ih1 _ _ _ _ _ _ _ _ _ _ _ _
      | exact wimpleref1_Num.mono _ _ _ _
      | exact LeO.none _
      | refine LeO.ite ?_ ?_
      | refine LeO.bind ?_ (fun _ => ?_)
theorem wimpleref4_GetOpt.mono : ∀ a0 a1 a2 a3 a4 k, LeO (wimpleref4_GetOpt.f k a0 a1 a2 a3 a4) (wimpleref4_GetOpt.f (k + 1) a0 a1 a2 a3 a4) := by
  intro a0 a1 a2 a3 a4 k
  obtain ⟨ih0, ih1⟩ := wimpleref4_GetOpt.mono_l k
  unfold wimpleref4_GetOpt.f
  repeat' first
      | (with_reducible exact ih0 _ _ _ _ _ _)
      | (with_reducible exact ih1 _ _ _ _ _ _ _ _ _ _ _ _)
      | (with_reducible exact wimpleref1_Num.mono _ _ _ _)
      | (with_reducible exact LeO.refl _)
      | (with_reducible exact LeO.none _)
      | (with_reducible refine LeO.ite ?_ ?_)
      | (with_reducible refine LeO.bind ?_ (fun _ => ?_))
      | exact ih0 _ _ _ _ _ _
      | exact ih1 _ _ _ _ _ _ _ _ _ _ _ _
      | exact wimpleref1_Num.mono _ _ _ _
      | exact LeO.none _
      | refine LeO.ite ?_ ?_
      | refine LeO.bind ?_ (fun _ => ?_)
def wimpleref4_GetOpt.T10 : Bool × List (List Nat × List Nat) := (true, [([], []), ([0], [0]), ([], []), ([], []), ([3], [3]), ([], []), ([], []), ([], []), ([6, 7], [6, 7]), ([4, 5, 8], [4, 5, 8]), ([2, 9], [2, 9]), ([10], [10]), ([1, 11], [1, 11]), ([0, 1, 2, 3, 4, 5, 6, 7, 8, 9, 10, 11, 12], []), ([13, 12, 12, 0, 1, 2, 3, 4, 5, 6, 7, 8, 9, 10, 11, 12], [12, 13])])
def wimpleref4_GetOpt.B10 : List Nat := [0, 1, 0, 0, 8, 0, 0, 0, 192, 504, 1020, 2044, 4095, 8191, 16383]
theorem wimpleref4_GetOpt.tab10 : rtab .any (opsOf Try.f27 10) = wimpleref4_GetOpt.T10 := by kernel_rfl
theorem wimpleref4_GetOpt.bits10 : waitsOk wimpleref4_GetOpt.T10.2 wimpleref4_GetOpt.B10 = true := by kernel_rfl
set_option maxHeartbeats 8000000 in
set_option maxRecDepth 100000 in
theorem wimpleref4_GetOpt.calls (k : Nat) (a0_0 : ByteArray) (a0_1 : Int) (a0_2 : Int) (a0_3 : Int) (a0_4 : ByteArray) (r1 : Int) (r2 : Int) (r3 : Int) (r4 : Bool) (r5 : Int) (r6 : List (S55)) (r7 : Int) (w : World) (h : wimpleref4_GetOpt.f k a0_0 a0_1 a0_2 a0_3 a0_4 = some (r1, r2, r3, r4, r5, r6, r7)) :
    Calls Try.prog 27 #[.agg #[.string a0_0, .int .i64 a0_1, .int .i64 a0_2, .int .i64 a0_3, .string a0_4]] w fun e w' => ∃ v5_ : Value, e = .returned (.tuple #[.agg #[.int .i64 r1, .int .i64 r2, .int .i64 r3, .bool r4, .int .i64 r5, v5_], .int .i64 r7]) ∧ Kd.R k55 55 w' w.heap.size (fun _ => True) v5_ r6 ∧ Below w.heap.size w w' := by
  have hu53 := Try.underlying53
  have hu49 := Try.underlying49
  have hu55 := Try.underlying55
  have HB := Aside0.mk (Below.refl w.heap.size w)
  have H : (if a0_0.toList = ([0] : List UInt8) then (if a0_1 = 41 then ((wimpleref4_short.f a0_2).bind fun t103 => (if t103 = true then ((wimpleref4_wide.f a0_3).bind fun t104 => (if t104 = true then (wimpleref4_GetOpt.j0 k (decide ((a0_4.size : Int) > 65535)) a0_0 a0_1 a0_2 a0_3 a0_4) else (wimpleref4_GetOpt.j0 k true a0_0 a0_1 a0_2 a0_3 a0_4))) else (wimpleref4_GetOpt.j0 k true a0_0 a0_1 a0_2 a0_3 a0_4))) else (wimpleref4_GetOpt.j0 k true a0_0 a0_1 a0_2 a0_3 a0_4)) else (wimpleref4_GetOpt.j0 k true a0_0 a0_1 a0_2 a0_3 a0_4)) = some (r1, r2, r3, r4, r5, r6, r7) := h
  clear h
  have HC2 := Aside0.mk H
  clear H
  go_enter Try.func27, Try.ntmps27
  go_upto_region 1 with (first | ((with_reducible refine gate_dst (N := 1) rfl ?_); (try (refine gate_guard (by rfl) ?_; dsimp only)); refine box_event ?hg (N := 1) ?hd (cs := #[.string a0_0, .int .i64 a0_1, .int .i64 a0_2, .int .i64 a0_3, .string a0_4]) (t := 53) ?hr ?_; (case hd => rfl); (case hg => rfl); (case hr => first | (go_simp; done) | (go_simp; rfl)); intro gb101 hg w3 hbox hb; have n0_ := Aside0.mk (below_step (by repeat (first | (with_reducible first | exact HB.out | apply below_alloc | apply pw_below_drewN | apply below_drew1) | exact HB.out)) hb); have n1_ := Aside0.mk (hbox); have n2_ := Aside0.mk ((by rw [hg]; exact (below_size (by repeat (first | (with_reducible first | exact HB.out | apply below_alloc | apply pw_below_drewN | apply below_drew1) | exact HB.out))) : w.heap.size ≤ gb101)); have n3_ := Aside0.mk ((by rw [hg]; exact (below_size (by repeat (first | (with_reducible first | exact HB.out | apply below_alloc | apply pw_below_drewN | apply below_drew1) | exact HB.out))) : w.heap.size ≤ gb101)); clear HB; have HB := n0_; have BK101 := n1_; have GW101 := n2_; have GE101 := n3_; clear n0_ n1_ n2_ n3_; clear hb hbox hg) | ((with_reducible refine gate_dst (N := 2) rfl ?_); (try (refine gate_guard (by rfl) ?_; dsimp only)); refine box_event ?hg (N := 2) ?hd (cs := #[.int .i64 0, .int .i64 0, .int .i64 0, .bool false, .int .i64 0, .slice none 0 0]) (t := 49) ?hr ?_; (case hd => rfl); (case hg => rfl); (case hr => first | (go_simp; done) | (go_simp; rfl)); intro gb102 hg w4 hbox hb; have n0_ := Aside0.mk (blk_below (g := gb101) (o := .cells #[.string a0_0, .int .i64 a0_1, .int .i64 a0_2, .int .i64 a0_3, .string a0_4] 53 (0, 0)) (by (with_reducible repeat (first | refine blk_drewN ?_ _ | refine blk_drew ?_ | refine blk_alloc ?_ _)); exact BK101.out) hb); have n1_ := Aside0.mk (below_step (by repeat (first | (with_reducible first | exact HB.out | apply below_alloc | apply pw_below_drewN | apply below_drew1 | refine below_set ?_ GE101.out) | exact HB.out)) hb); have n2_ := Aside0.mk (hbox); have n3_ := Aside0.mk ((by rw [hg]; exact (below_size (by repeat (first | (with_reducible first | exact HB.out | apply below_alloc | apply pw_below_drewN | apply below_drew1 | refine below_set ?_ GE101.out) | exact HB.out))) : w.heap.size ≤ gb102)); have n4_ := Aside0.mk ((by rw [hg]; exact (below_size (by repeat (first | (with_reducible first | exact HB.out | apply below_alloc | apply pw_below_drewN | apply below_drew1 | refine below_set ?_ GE101.out) | exact HB.out))) : w.heap.size ≤ gb102)); have n5_ := Aside0.mk ((by rw [hg]; exact Nat.ne_of_lt (blk_lt (g := gb101) (o := .cells #[.string a0_0, .int .i64 a0_1, .int .i64 a0_2, .int .i64 a0_3, .string a0_4] 53 (0, 0)) (by (with_reducible repeat (first | refine blk_drewN ?_ _ | refine blk_drew ?_ | refine blk_alloc ?_ _)); exact BK101.out)) : gb101 ≠ gb102)); have n6_ := Aside0.mk ((by rw [hg]; exact Nat.ne_of_gt (blk_lt (g := gb101) (o := .cells #[.string a0_0, .int .i64 a0_1, .int .i64 a0_2, .int .i64 a0_3, .string a0_4] 53 (0, 0)) (by (with_reducible repeat (first | refine blk_drewN ?_ _ | refine blk_drew ?_ | refine blk_alloc ?_ _)); exact BK101.out)) : gb102 ≠ gb101)); clear BK101; clear HB; have BK101 := n0_; have HB := n1_; have BK102 := n2_; have GW102 := n3_; have GE102 := n4_; have NB101_102 := n5_; have NB102_101 := n6_; clear n0_ n1_ n2_ n3_ n4_ n5_ n6_; clear hb hbox hg))
  (try simp only [Act.put, List.setIfInBounds_toArray, List.set_cons_zero, List.set_cons_succ])
  go_cut [37] (fun v37 wc => ∃ (kq : Nat) (x37_1 : Bool), v37 = .bool x37_1 ∧ Aside0 (wimpleref4_GetOpt.j0 kq x37_1 a0_0 a0_1 a0_2 a0_3 a0_4 = some (r1, r2, r3, r4, r5, r6, r7)) ∧ Aside0 (kq ≤ k) ∧ Aside0 (wc.heap[gb101]? = some (.cells #[.string a0_0, .int .i64 a0_1, .int .i64 a0_2, .int .i64 a0_3, .string a0_4] 53 (0, 0))) ∧ Aside0 (wc.heap[gb102]? = some (.cells #[.int .i64 0, .int .i64 0, .int .i64 0, .bool false, .int .i64 0, (.slice none 0 0)] 49 (0, 0))) ∧ Aside0 (Below w.heap.size w wc))
  case first =>
    have H := HC2.out
    clear HC2
    by_cases c5 : a0_0.toList = ([0] : List UInt8)
    · rw [if_pos c5] at H
      have c5b0 : (a0_0.toList == ([0] : List UInt8)) = true := beq_iff_eq.mpr c5
      have c5b1 : (a0_0.toList != ([0] : List UInt8)) = false := bne_eq_false_iff_eq.mpr c5
      clear c5
      (first | rw [c5b0] | (simp only [i64_w, i32_w]; rw [c5b0]) | skip)
      by_cases c6 : a0_1 = 41
      · rw [if_pos c6] at H
        have c6b0 : (a0_1 == 41) = true := beq_iff_eq.mpr c6
        have c6b1 : (a0_1 != 41) = false := bne_eq_false_iff_eq.mpr c6
        clear c6
        replace H := Option.bind_eq_some_iff.mp H
        obtain ⟨t103, A70, H⟩ := H
        replace H : (if t103 = true then ((wimpleref4_wide.f a0_3).bind fun t104 => (if t104 = true then (wimpleref4_GetOpt.j0 k (decide ((a0_4.size : Int) > 65535)) a0_0 a0_1 a0_2 a0_3 a0_4) else (wimpleref4_GetOpt.j0 k true a0_0 a0_1 a0_2 a0_3 a0_4))) else (wimpleref4_GetOpt.j0 k true a0_0 a0_1 a0_2 a0_3 a0_4)) = some (r1, r2, r3, r4, r5, r6, r7) := H
        have A7 := Aside0.mk A70
        clear A70
        by_cases c8 : t103 = true
        · subst c8
          have H1 : ((wimpleref4_wide.f a0_3).bind fun t104 => (if t104 = true then (wimpleref4_GetOpt.j0 k (decide ((a0_4.size : Int) > 65535)) a0_0 a0_1 a0_2 a0_3 a0_4) else (wimpleref4_GetOpt.j0 k true a0_0 a0_1 a0_2 a0_3 a0_4))) = some (r1, r2, r3, r4, r5, r6, r7) := by rw [if_pos rfl] at H; exact H
          clear H
          have H := H1
          clear H1
          replace H := Option.bind_eq_some_iff.mp H
          obtain ⟨t104, A90, H⟩ := H
          replace H : (if t104 = true then (wimpleref4_GetOpt.j0 k (decide ((a0_4.size : Int) > 65535)) a0_0 a0_1 a0_2 a0_3 a0_4) else (wimpleref4_GetOpt.j0 k true a0_0 a0_1 a0_2 a0_3 a0_4)) = some (r1, r2, r3, r4, r5, r6, r7) := H
          have A9 := Aside0.mk A90
          clear A90
          by_cases c10 : t104 = true
          · subst c10
            have H1 : (wimpleref4_GetOpt.j0 k (decide ((a0_4.size : Int) > 65535)) a0_0 a0_1 a0_2 a0_3 a0_4) = some (r1, r2, r3, r4, r5, r6, r7) := by rw [if_pos rfl] at H; exact H
            clear H
            have H := H1
            clear H1
            have H' := Aside0.mk H
            clear H
            have hnb11 := NB101_102.out
            have hnc11 := NB102_101.out
            have hcz12_0 : w4.cell? ⟨gb101, 0, none⟩ = some (.string a0_0) := (blk_cell BK101.out 0).trans rfl
            have hcz12_1 : w4.cell? ⟨gb101, 1, none⟩ = some (.int .i64 a0_1) := (blk_cell BK101.out 1).trans rfl
            have hcz12_2 : w4.cell? ⟨gb101, 2, none⟩ = some (.int .i64 a0_2) := (blk_cell BK101.out 2).trans rfl
            have hcz12_3 : w4.cell? ⟨gb101, 3, none⟩ = some (.int .i64 a0_3) := (blk_cell BK101.out 3).trans rfl
            have hcz12_4 : w4.cell? ⟨gb101, 4, none⟩ = some (.string a0_4) := (blk_cell BK101.out 4).trans rfl
            have hfz12_0 := blk_frozen BK101.out 0
            have hfz12_1 := blk_frozen BK101.out 1
            have hfz12_2 := blk_frozen BK101.out 2
            have hfz12_3 := blk_frozen BK101.out 3
            have hfz12_4 := blk_frozen BK101.out 4
            go_wp2_with (first | (go_at_call 52; (with_reducible refine (wimpleref4_short.calls a0_2 true _ A7.out).mono ?_); rintro e w' ⟨rfl, ⟨nd, rfl⟩⟩) | (go_at_call 53; (with_reducible refine (wimpleref4_wide.calls a0_3 true _ A9.out).mono ?_); rintro e w' ⟨rfl, ⟨nd, rfl⟩⟩))
            go_meet
            case rel => exact ⟨_, (decide ((a0_4.size : Int) > 65535)), (by first | rfl | (simp; done) | (simp [*]; done)), H', ⟨by first | omega | exact Nat.le_refl _⟩, ⟨by (with_reducible repeat (first | refine blk_drewN ?_ _ | refine blk_drew ?_ | refine blk_alloc ?_ _)); exact BK101.out⟩, ⟨by (with_reducible repeat (first | refine blk_drewN ?_ _ | refine blk_drew ?_ | refine blk_alloc ?_ _)); exact BK102.out⟩, ⟨by repeat (first | (with_reducible first | exact HB.out | apply below_alloc | apply pw_below_drewN | apply below_drew1 | refine below_set ?_ GE101.out | refine below_set ?_ GE102.out) | exact HB.out)⟩⟩
          · replace c10 := Bool.eq_false_iff.mpr c10
            subst c10
            have H1 : (wimpleref4_GetOpt.j0 k true a0_0 a0_1 a0_2 a0_3 a0_4) = some (r1, r2, r3, r4, r5, r6, r7) := by rw [if_neg (show ¬ (false = true) by decide)] at H; exact H
            clear H
            have H := H1
            clear H1
            have H' := Aside0.mk H
            clear H
            have hnb13 := NB101_102.out
            have hnc13 := NB102_101.out
            have hcz14_0 : w4.cell? ⟨gb101, 0, none⟩ = some (.string a0_0) := (blk_cell BK101.out 0).trans rfl
            have hcz14_1 : w4.cell? ⟨gb101, 1, none⟩ = some (.int .i64 a0_1) := (blk_cell BK101.out 1).trans rfl
            have hcz14_2 : w4.cell? ⟨gb101, 2, none⟩ = some (.int .i64 a0_2) := (blk_cell BK101.out 2).trans rfl
            have hcz14_3 : w4.cell? ⟨gb101, 3, none⟩ = some (.int .i64 a0_3) := (blk_cell BK101.out 3).trans rfl
            have hcz14_4 : w4.cell? ⟨gb101, 4, none⟩ = some (.string a0_4) := (blk_cell BK101.out 4).trans rfl
            have hfz14_0 := blk_frozen BK101.out 0
            have hfz14_1 := blk_frozen BK101.out 1
            have hfz14_2 := blk_frozen BK101.out 2
            have hfz14_3 := blk_frozen BK101.out 3
            have hfz14_4 := blk_frozen BK101.out 4
            go_wp2_with (first | (go_at_call 52; (with_reducible refine (wimpleref4_short.calls a0_2 true _ A7.out).mono ?_); rintro e w' ⟨rfl, ⟨nd, rfl⟩⟩) | (go_at_call 53; (with_reducible refine (wimpleref4_wide.calls a0_3 false _ A9.out).mono ?_); rintro e w' ⟨rfl, ⟨nd, rfl⟩⟩))
            go_meet
            case rel => exact ⟨_, (true), (by first | rfl | (simp; done) | (simp [*]; done)), H', ⟨by first | omega | exact Nat.le_refl _⟩, ⟨by (with_reducible repeat (first | refine blk_drewN ?_ _ | refine blk_drew ?_ | refine blk_alloc ?_ _)); exact BK101.out⟩, ⟨by (with_reducible repeat (first | refine blk_drewN ?_ _ | refine blk_drew ?_ | refine blk_alloc ?_ _)); exact BK102.out⟩, ⟨by repeat (first | (with_reducible first | exact HB.out | apply below_alloc | apply pw_below_drewN | apply below_drew1 | refine below_set ?_ GE101.out | refine below_set ?_ GE102.out) | exact HB.out)⟩⟩
        · replace c8 := Bool.eq_false_iff.mpr c8
          subst c8
          have H1 : (wimpleref4_GetOpt.j0 k true a0_0 a0_1 a0_2 a0_3 a0_4) = some (r1, r2, r3, r4, r5, r6, r7) := by rw [if_neg (show ¬ (false = true) by decide)] at H; exact H
          clear H
          have H := H1
          clear H1
          have H' := Aside0.mk H
          clear H
          have hnb15 := NB101_102.out
          have hnc15 := NB102_101.out
          have hcz16_0 : w4.cell? ⟨gb101, 0, none⟩ = some (.string a0_0) := (blk_cell BK101.out 0).trans rfl
          have hcz16_1 : w4.cell? ⟨gb101, 1, none⟩ = some (.int .i64 a0_1) := (blk_cell BK101.out 1).trans rfl
          have hcz16_2 : w4.cell? ⟨gb101, 2, none⟩ = some (.int .i64 a0_2) := (blk_cell BK101.out 2).trans rfl
          have hcz16_3 : w4.cell? ⟨gb101, 3, none⟩ = some (.int .i64 a0_3) := (blk_cell BK101.out 3).trans rfl
          have hcz16_4 : w4.cell? ⟨gb101, 4, none⟩ = some (.string a0_4) := (blk_cell BK101.out 4).trans rfl
          have hfz16_0 := blk_frozen BK101.out 0
          have hfz16_1 := blk_frozen BK101.out 1
          have hfz16_2 := blk_frozen BK101.out 2
          have hfz16_3 := blk_frozen BK101.out 3
          have hfz16_4 := blk_frozen BK101.out 4
          go_wp2_with (first | (go_at_call 52; (with_reducible refine (wimpleref4_short.calls a0_2 false _ A7.out).mono ?_); rintro e w' ⟨rfl, ⟨nd, rfl⟩⟩))
          go_meet
          case rel => exact ⟨_, (true), (by first | rfl | (simp; done) | (simp [*]; done)), H', ⟨by first | omega | exact Nat.le_refl _⟩, ⟨by (with_reducible repeat (first | refine blk_drewN ?_ _ | refine blk_drew ?_ | refine blk_alloc ?_ _)); exact BK101.out⟩, ⟨by (with_reducible repeat (first | refine blk_drewN ?_ _ | refine blk_drew ?_ | refine blk_alloc ?_ _)); exact BK102.out⟩, ⟨by repeat (first | (with_reducible first | exact HB.out | apply below_alloc | apply pw_below_drewN | apply below_drew1 | refine below_set ?_ GE101.out | refine below_set ?_ GE102.out) | exact HB.out)⟩⟩
      · rw [if_neg c6] at H
        have c6b0 : (a0_1 == 41) = false := beq_eq_false_iff_ne.mpr c6
        have c6b1 : (a0_1 != 41) = true := bne_iff_ne.mpr c6
        have H' := Aside0.mk H
        clear H
        have hnb17 := NB101_102.out
        have hnc17 := NB102_101.out
        have hcz18_0 : w4.cell? ⟨gb101, 0, none⟩ = some (.string a0_0) := (blk_cell BK101.out 0).trans rfl
        have hcz18_1 : w4.cell? ⟨gb101, 1, none⟩ = some (.int .i64 a0_1) := (blk_cell BK101.out 1).trans rfl
        have hcz18_2 : w4.cell? ⟨gb101, 2, none⟩ = some (.int .i64 a0_2) := (blk_cell BK101.out 2).trans rfl
        have hcz18_3 : w4.cell? ⟨gb101, 3, none⟩ = some (.int .i64 a0_3) := (blk_cell BK101.out 3).trans rfl
        have hcz18_4 : w4.cell? ⟨gb101, 4, none⟩ = some (.string a0_4) := (blk_cell BK101.out 4).trans rfl
        have hfz18_0 := blk_frozen BK101.out 0
        have hfz18_1 := blk_frozen BK101.out 1
        have hfz18_2 := blk_frozen BK101.out 2
        have hfz18_3 := blk_frozen BK101.out 3
        have hfz18_4 := blk_frozen BK101.out 4
        go_wp2
        go_meet
        case rel => exact ⟨_, (true), (by first | rfl | (simp; done) | (simp [*]; done)), H', ⟨by first | omega | exact Nat.le_refl _⟩, ⟨by (with_reducible repeat (first | refine blk_drewN ?_ _ | refine blk_drew ?_ | refine blk_alloc ?_ _)); exact BK101.out⟩, ⟨by (with_reducible repeat (first | refine blk_drewN ?_ _ | refine blk_drew ?_ | refine blk_alloc ?_ _)); exact BK102.out⟩, ⟨by repeat (first | (with_reducible first | exact HB.out | apply below_alloc | apply pw_below_drewN | apply below_drew1 | refine below_set ?_ GE101.out | refine below_set ?_ GE102.out) | exact HB.out)⟩⟩
    · rw [if_neg c5] at H
      have c5b0 : (a0_0.toList == ([0] : List UInt8)) = false := beq_eq_false_iff_ne.mpr c5
      have c5b1 : (a0_0.toList != ([0] : List UInt8)) = true := bne_iff_ne.mpr c5
      (first | rw [c5b0] | (simp only [i64_w, i32_w]; rw [c5b0]) | skip)
      have H' := Aside0.mk H
      clear H
      have hnb19 := NB101_102.out
      have hnc19 := NB102_101.out
      have hcz20_0 : w4.cell? ⟨gb101, 0, none⟩ = some (.string a0_0) := (blk_cell BK101.out 0).trans rfl
      have hcz20_1 : w4.cell? ⟨gb101, 1, none⟩ = some (.int .i64 a0_1) := (blk_cell BK101.out 1).trans rfl
      have hcz20_2 : w4.cell? ⟨gb101, 2, none⟩ = some (.int .i64 a0_2) := (blk_cell BK101.out 2).trans rfl
      have hcz20_3 : w4.cell? ⟨gb101, 3, none⟩ = some (.int .i64 a0_3) := (blk_cell BK101.out 3).trans rfl
      have hcz20_4 : w4.cell? ⟨gb101, 4, none⟩ = some (.string a0_4) := (blk_cell BK101.out 4).trans rfl
      have hfz20_0 := blk_frozen BK101.out 0
      have hfz20_1 := blk_frozen BK101.out 1
      have hfz20_2 := blk_frozen BK101.out 2
      have hfz20_3 := blk_frozen BK101.out 3
      have hfz20_4 := blk_frozen BK101.out 4
      go_wp2
      go_meet
      case rel => exact ⟨_, (true), (by first | rfl | (simp; done) | (simp [*]; done)), H', ⟨by first | omega | exact Nat.le_refl _⟩, ⟨by (with_reducible repeat (first | refine blk_drewN ?_ _ | refine blk_drew ?_ | refine blk_alloc ?_ _)); exact BK101.out⟩, ⟨by (with_reducible repeat (first | refine blk_drewN ?_ _ | refine blk_drew ?_ | refine blk_alloc ?_ _)); exact BK102.out⟩, ⟨by repeat (first | (with_reducible first | exact HB.out | apply below_alloc | apply pw_below_drewN | apply below_drew1 | refine below_set ?_ GE101.out | refine below_set ?_ GE102.out) | exact HB.out)⟩⟩
  case rest =>
    clear HC2
    try clear c1
    try clear c2
    try clear p2
    try clear c5
    try clear c5b0
    try clear c5b1
    try clear c6
    try clear c6b0
    try clear c6b1
    try clear c8
    try clear c10
    try clear c11
    try clear c13
    try clear c15
    try clear c17
    try clear c19
    try clear hcz12_0
    try clear hcz12_1
    try clear hcz12_2
    try clear hcz12_3
    try clear hcz12_4
    try clear hcz14_0
    try clear hcz14_1
    try clear hcz14_2
    try clear hcz14_3
    try clear hcz14_4
    try clear hcz16_0
    try clear hcz16_1
    try clear hcz16_2
    try clear hcz16_3
    try clear hcz16_4
    try clear hcz18_0
    try clear hcz18_1
    try clear hcz18_2
    try clear hcz18_3
    try clear hcz18_4
    try clear hcz20_0
    try clear hcz20_1
    try clear hcz20_2
    try clear hcz20_3
    try clear hcz20_4
    try clear hfz12_0
    try clear hfz12_1
    try clear hfz12_2
    try clear hfz12_3
    try clear hfz12_4
    try clear hfz14_0
    try clear hfz14_1
    try clear hfz14_2
    try clear hfz14_3
    try clear hfz14_4
    try clear hfz16_0
    try clear hfz16_1
    try clear hfz16_2
    try clear hfz16_3
    try clear hfz16_4
    try clear hfz18_0
    try clear hfz18_1
    try clear hfz18_2
    try clear hfz18_3
    try clear hfz18_4
    try clear hfz20_0
    try clear hfz20_1
    try clear hfz20_2
    try clear hfz20_3
    try clear hfz20_4
    obtain ⟨kq, x37_1, rfl, HA, HJ1, BK101, BK102, HB⟩ := hcut
    cases kq with
    | zero => exact absurd HA.out (by simp [wimpleref4_GetOpt.j0])
    | succ kj1 =>
      have H := HA.out
      clear HA
      simp only [wimpleref4_GetOpt.j0] at H
      by_cases c21 : x37_1 = true
      · subst c21
        have H1 : (some (0, 0, 0, false, 0, ([] : List (S55)), 800)) = some (r1, r2, r3, r4, r5, r6, r7) := by rw [if_pos rfl] at H; exact H
        clear H
        have H := H1
        clear H1
        simp only [Option.some.injEq, Prod.mk.injEq] at H
        obtain ⟨rfl, rfl, rfl, rfl, rfl, rfl, rfl⟩ := H
        have hnb22 := NB102_101.out
        have hnc22 := NB101_102.out
        (try clear hcz12_0 hcz12_1 hcz12_2 hcz12_3 hcz12_4 hfz12_0 hfz12_1 hfz12_2 hfz12_3 hfz12_4)
        (try clear hcz14_0 hcz14_1 hcz14_2 hcz14_3 hcz14_4 hfz14_0 hfz14_1 hfz14_2 hfz14_3 hfz14_4)
        (try clear hcz16_0 hcz16_1 hcz16_2 hcz16_3 hcz16_4 hfz16_0 hfz16_1 hfz16_2 hfz16_3 hfz16_4)
        (try clear hcz18_0 hcz18_1 hcz18_2 hcz18_3 hcz18_4 hfz18_0 hfz18_1 hfz18_2 hfz18_3 hfz18_4)
        (try clear hcz20_0 hcz20_1 hcz20_2 hcz20_3 hcz20_4 hfz20_0 hfz20_1 hfz20_2 hfz20_3 hfz20_4)
        have hcz23_0 : wc.cell? ⟨gb102, 0, none⟩ = some (.int .i64 0) := (blk_cell BK102.out 0).trans rfl
        have hcz23_1 : wc.cell? ⟨gb102, 1, none⟩ = some (.int .i64 0) := (blk_cell BK102.out 1).trans rfl
        have hcz23_2 : wc.cell? ⟨gb102, 2, none⟩ = some (.int .i64 0) := (blk_cell BK102.out 2).trans rfl
        have hcz23_3 : wc.cell? ⟨gb102, 3, none⟩ = some (.bool false) := (blk_cell BK102.out 3).trans rfl
        have hcz23_4 : wc.cell? ⟨gb102, 4, none⟩ = some (.int .i64 0) := (blk_cell BK102.out 4).trans rfl
        have hcz23_5 : wc.cell? ⟨gb102, 5, none⟩ = some (.slice none 0 0) := (blk_cell BK102.out 5).trans rfl
        have hfz23_0 := blk_frozen BK102.out 0
        have hfz23_1 := blk_frozen BK102.out 1
        have hfz23_2 := blk_frozen BK102.out 2
        have hfz23_3 := blk_frozen BK102.out 3
        have hfz23_4 := blk_frozen BK102.out 4
        have hfz23_5 := blk_frozen BK102.out 5
        go_wp2
        refine bodyPost_ret (results_ct rfl _ _ gb102 49 #[.int .i64 0, .int .i64 0, .int .i64 0, .bool false, .int .i64 0, .slice none 0 0] (0, 0) _ rfl (by (with_reducible repeat (first | refine blk_drewN ?_ _ | refine blk_drew ?_ | refine blk_alloc ?_ _)); refine blk_put (cs := #[.int .i64 0, .int .i64 0, .int .i64 0, .bool false, .int .i64 0, .slice none 0 0]) ?_ 5 _ rfl; (with_reducible repeat (first | refine blk_drewN ?_ _ | refine blk_drew ?_ | refine blk_alloc ?_ _)); refine blk_put (cs := #[.int .i64 0, .int .i64 0, .int .i64 0, .bool false, .int .i64 0, .slice none 0 0]) ?_ 4 _ rfl; (with_reducible repeat (first | refine blk_drewN ?_ _ | refine blk_drew ?_ | refine blk_alloc ?_ _)); refine blk_put (cs := #[.int .i64 0, .int .i64 0, .int .i64 0, .bool false, .int .i64 0, .slice none 0 0]) ?_ 3 _ rfl; (with_reducible repeat (first | refine blk_drewN ?_ _ | refine blk_drew ?_ | refine blk_alloc ?_ _)); refine blk_put (cs := #[.int .i64 0, .int .i64 0, .int .i64 0, .bool false, .int .i64 0, .slice none 0 0]) ?_ 2 _ rfl; (with_reducible repeat (first | refine blk_drewN ?_ _ | refine blk_drew ?_ | refine blk_alloc ?_ _)); refine blk_put (cs := #[.int .i64 0, .int .i64 0, .int .i64 0, .bool false, .int .i64 0, .slice none 0 0]) ?_ 1 _ rfl; (with_reducible repeat (first | refine blk_drewN ?_ _ | refine blk_drew ?_ | refine blk_alloc ?_ _)); refine blk_put (cs := #[.int .i64 0, .int .i64 0, .int .i64 0, .bool false, .int .i64 0, .slice none 0 0]) ?_ 0 _ rfl; (with_reducible repeat (first | refine blk_drewN ?_ _ | refine blk_drew ?_ | refine blk_alloc ?_ _)); exact BK102.out) Try.underlying49 rfl (by kernel_rfl)) rfl ?_
        exact ⟨_, by first | rfl | (simp [errW_none, errW_some] <;> rfl) | (simp [*, errW_none, errW_some] <;> rfl), by first | exact Kd.R_nil _ _ _ _ _ | exact Kd.N_nil _ _ _ _ _ | exact Kd.V_nil _ _ _ _ _ | exact Kd.Q_nil _ _ _ _ _ | exact Kd.S_nil _ _ _ _ _, by repeat (first | (with_reducible first | exact HB.out | apply below_alloc | apply pw_below_drewN | apply below_drew1 | refine below_set ?_ GE101.out | refine below_set ?_ GE102.out) | exact HB.out)⟩
      · replace c21 := Bool.eq_false_iff.mpr c21
        subst c21
        have H1 : (wimpleref4_GetOpt.l0 kj1 0 a0_0 a0_1 a0_2 a0_3 a0_4 a0_2 (a0_3 / 16777216) (Go.bits .and .i64 (a0_3 / 65536) 255) ((Go.bits .and .i64 (a0_3 / 32768) 1) == 1) (Go.bits .and .i64 a0_3 32767) ([] : List (S55))) = some (r1, r2, r3, r4, r5, r6, r7) := by rw [if_neg (show ¬ (false = true) by decide)] at H; exact H
        clear H
        have H := H1
        clear H1
        have H' := Aside0.mk H
        clear H
        have hnb24 := NB101_102.out
        have hnc24 := NB102_101.out
        (try clear hcz12_0 hcz12_1 hcz12_2 hcz12_3 hcz12_4 hfz12_0 hfz12_1 hfz12_2 hfz12_3 hfz12_4)
        (try clear hcz14_0 hcz14_1 hcz14_2 hcz14_3 hcz14_4 hfz14_0 hfz14_1 hfz14_2 hfz14_3 hfz14_4)
        (try clear hcz16_0 hcz16_1 hcz16_2 hcz16_3 hcz16_4 hfz16_0 hfz16_1 hfz16_2 hfz16_3 hfz16_4)
        (try clear hcz18_0 hcz18_1 hcz18_2 hcz18_3 hcz18_4 hfz18_0 hfz18_1 hfz18_2 hfz18_3 hfz18_4)
        (try clear hcz20_0 hcz20_1 hcz20_2 hcz20_3 hcz20_4 hfz20_0 hfz20_1 hfz20_2 hfz20_3 hfz20_4)
        have hcz25_0 : wc.cell? ⟨gb101, 0, none⟩ = some (.string a0_0) := (blk_cell BK101.out 0).trans rfl
        have hcz25_1 : wc.cell? ⟨gb101, 1, none⟩ = some (.int .i64 a0_1) := (blk_cell BK101.out 1).trans rfl
        have hcz25_2 : wc.cell? ⟨gb101, 2, none⟩ = some (.int .i64 a0_2) := (blk_cell BK101.out 2).trans rfl
        have hcz25_3 : wc.cell? ⟨gb101, 3, none⟩ = some (.int .i64 a0_3) := (blk_cell BK101.out 3).trans rfl
        have hcz25_4 : wc.cell? ⟨gb101, 4, none⟩ = some (.string a0_4) := (blk_cell BK101.out 4).trans rfl
        have hfz25_0 := blk_frozen BK101.out 0
        have hfz25_1 := blk_frozen BK101.out 1
        have hfz25_2 := blk_frozen BK101.out 2
        have hfz25_3 := blk_frozen BK101.out 3
        have hfz25_4 := blk_frozen BK101.out 4
        go_wp2_with (first | ((with_reducible refine gate_dst (N := 4) rfl ?_); (try (refine gate_guard (by rfl) ?_; dsimp only)); refine box_event ?hg (N := 4) ?hd (cs := #[.int .i64 0, .int .i64 0, .int .i64 0, .bool false, .int .i64 0, .slice none 0 0]) (t := 49) ?hr ?_; (case hd => rfl); (case hg => rfl); (case hr => first | (go_simp; done) | (go_simp; rfl)); intro gb105 hg w26 hbox hb; have n0_ := Aside0.mk (blk_below (g := gb101) (o := .cells #[.string a0_0, .int .i64 a0_1, .int .i64 a0_2, .int .i64 a0_3, .string a0_4] 53 (0, 0)) (by (with_reducible repeat (first | refine blk_drewN ?_ _ | refine blk_drew ?_ | refine blk_alloc ?_ _)); exact BK101.out) hb); have n1_ := Aside0.mk (blk_below (g := gb102) (o := .cells #[.int .i64 0, .int .i64 0, .int .i64 0, .bool false, .int .i64 0, .slice none 0 0] 49 (0, 0)) (by (with_reducible repeat (first | refine blk_drewN ?_ _ | refine blk_drew ?_ | refine blk_alloc ?_ _)); exact BK102.out) hb); have n2_ := Aside0.mk (below_step (by repeat (first | (with_reducible first | exact HB.out | apply below_alloc | apply pw_below_drewN | apply below_drew1 | refine below_set ?_ GE101.out | refine below_set ?_ GE102.out) | exact HB.out)) hb); have n3_ := Aside0.mk (hbox); have n4_ := Aside0.mk ((by rw [hg]; exact (below_size (by repeat (first | (with_reducible first | exact HB.out | apply below_alloc | apply pw_below_drewN | apply below_drew1 | refine below_set ?_ GE101.out | refine below_set ?_ GE102.out) | exact HB.out))) : w.heap.size ≤ gb105)); have n5_ := Aside0.mk ((by rw [hg]; exact (below_size (by repeat (first | (with_reducible first | exact HB.out | apply below_alloc | apply pw_below_drewN | apply below_drew1 | refine below_set ?_ GE101.out | refine below_set ?_ GE102.out) | exact HB.out))) : w.heap.size ≤ gb105)); have n6_ := Aside0.mk ((by rw [hg]; exact Nat.ne_of_lt (blk_lt (g := gb101) (o := .cells #[.string a0_0, .int .i64 a0_1, .int .i64 a0_2, .int .i64 a0_3, .string a0_4] 53 (0, 0)) (by (with_reducible repeat (first | refine blk_drewN ?_ _ | refine blk_drew ?_ | refine blk_alloc ?_ _)); exact BK101.out)) : gb101 ≠ gb105)); have n7_ := Aside0.mk ((by rw [hg]; exact Nat.ne_of_gt (blk_lt (g := gb101) (o := .cells #[.string a0_0, .int .i64 a0_1, .int .i64 a0_2, .int .i64 a0_3, .string a0_4] 53 (0, 0)) (by (with_reducible repeat (first | refine blk_drewN ?_ _ | refine blk_drew ?_ | refine blk_alloc ?_ _)); exact BK101.out)) : gb105 ≠ gb101)); have n8_ := Aside0.mk ((by rw [hg]; exact Nat.ne_of_lt (blk_lt (g := gb102) (o := .cells #[.int .i64 0, .int .i64 0, .int .i64 0, .bool false, .int .i64 0, .slice none 0 0] 49 (0, 0)) (by (with_reducible repeat (first | refine blk_drewN ?_ _ | refine blk_drew ?_ | refine blk_alloc ?_ _)); exact BK102.out)) : gb102 ≠ gb105)); have n9_ := Aside0.mk ((by rw [hg]; exact Nat.ne_of_gt (blk_lt (g := gb102) (o := .cells #[.int .i64 0, .int .i64 0, .int .i64 0, .bool false, .int .i64 0, .slice none 0 0] 49 (0, 0)) (by (with_reducible repeat (first | refine blk_drewN ?_ _ | refine blk_drew ?_ | refine blk_alloc ?_ _)); exact BK102.out)) : gb105 ≠ gb102)); clear BK101; clear BK102; clear HB; have BK101 := n0_; have BK102 := n1_; have HB := n2_; have BK105 := n3_; have GW105 := n4_; have GE105 := n5_; have NB101_105 := n6_; have NB105_101 := n7_; have NB102_105 := n8_; have NB105_102 := n9_; clear n0_ n1_ n2_ n3_ n4_ n5_ n6_ n7_ n8_ n9_; clear hb hbox hg; have hnb27 := NB105_101.out; have hnc27 := NB101_105.out; have hnb28 := NB105_102.out; have hnc28 := NB102_105.out; (try clear hcz14_0 hcz14_1 hcz14_2 hcz14_3 hcz14_4 hfz14_0 hfz14_1 hfz14_2 hfz14_3 hfz14_4); (try clear hcz16_0 hcz16_1 hcz16_2 hcz16_3 hcz16_4 hfz16_0 hfz16_1 hfz16_2 hfz16_3 hfz16_4); (try clear hcz18_0 hcz18_1 hcz18_2 hcz18_3 hcz18_4 hfz18_0 hfz18_1 hfz18_2 hfz18_3 hfz18_4); (try clear hcz20_0 hcz20_1 hcz20_2 hcz20_3 hcz20_4 hfz20_0 hfz20_1 hfz20_2 hfz20_3 hfz20_4); (try clear hcz23_0 hcz23_1 hcz23_2 hcz23_3 hcz23_4 hcz23_5 hfz23_0 hfz23_1 hfz23_2 hfz23_3 hfz23_4 hfz23_5); (try clear hcz25_0 hcz25_1 hcz25_2 hcz25_3 hcz25_4 hfz25_0 hfz25_1 hfz25_2 hfz25_3 hfz25_4); have hcz29_0 : w26.cell? ⟨gb105, 0, none⟩ = some (.int .i64 0) := (blk_cell BK105.out 0).trans rfl; have hcz29_1 : w26.cell? ⟨gb105, 1, none⟩ = some (.int .i64 0) := (blk_cell BK105.out 1).trans rfl; have hcz29_2 : w26.cell? ⟨gb105, 2, none⟩ = some (.int .i64 0) := (blk_cell BK105.out 2).trans rfl; have hcz29_3 : w26.cell? ⟨gb105, 3, none⟩ = some (.bool false) := (blk_cell BK105.out 3).trans rfl; have hcz29_4 : w26.cell? ⟨gb105, 4, none⟩ = some (.int .i64 0) := (blk_cell BK105.out 4).trans rfl; have hcz29_5 : w26.cell? ⟨gb105, 5, none⟩ = some (.slice none 0 0) := (blk_cell BK105.out 5).trans rfl; have hfz29_0 := blk_frozen BK105.out 0; have hfz29_1 := blk_frozen BK105.out 1; have hfz29_2 := blk_frozen BK105.out 2; have hfz29_3 := blk_frozen BK105.out 3; have hfz29_4 := blk_frozen BK105.out 4; have hfz29_5 := blk_frozen BK105.out 5))
        go_loopg [5] kj1 (fun kq v5 w' => ∃ (x5_2 : Int) (x103000_2 : Int) (x103001_2 : Int) (x103002_2 : Int) (x103003_2 : Bool) (x103004_2 : Int) (x106005_2 : List (S55)) (u106005 : Value), v5 = .int .i64 x5_2 ∧ Aside0 (wimpleref4_GetOpt.l0 kq x5_2 a0_0 a0_1 a0_2 a0_3 a0_4 a0_2 (a0_3 / 16777216) (Go.bits .and .i64 (a0_3 / 65536) 255) ((Go.bits .and .i64 (a0_3 / 32768) 1) == 1) (Go.bits .and .i64 a0_3 32767) x106005_2 = some (r1, r2, r3, r4, r5, r6, r7)) ∧ Aside0 (kq ≤ kj1) ∧ Aside0 (Kd.R k55 55 w' w.heap.size (fun _ => True) u106005 x106005_2) ∧ Aside0 (w'.heap[gb101]? = some (.cells #[.string a0_0, .int .i64 a0_1, .int .i64 a0_2, .int .i64 a0_3, .string a0_4] 53 (0, 0))) ∧ Aside0 (w'.heap[gb102]? = some (.cells #[.int .i64 x103000_2, .int .i64 x103001_2, .int .i64 x103002_2, .bool x103003_2, .int .i64 x103004_2, (.slice none 0 0)] 49 (0, 0))) ∧ Aside0 (w'.heap[gb105]? = some (.cells #[.int .i64 a0_2, .int .i64 (a0_3 / 16777216), .int .i64 (Go.bits .and .i64 (a0_3 / 65536) 255), .bool ((Go.bits .and .i64 (a0_3 / 32768) 1) == 1), .int .i64 (Go.bits .and .i64 a0_3 32767), u106005] 49 (0, 0))) ∧ Aside0 (Below w.heap.size w w'))
        case atStart => exact ⟨(0), (0), (0), (0), (false), (0), (([] : List (S55))), (.slice none 0 0), (by first | rfl | (simp; done) | (simp [*]; done)), H', ⟨Nat.le_refl _⟩, ⟨by first | exact Kd.R_nil _ _ _ _ _ | exact Kd.N_nil _ _ _ _ _ | exact Kd.V_nil _ _ _ _ _ | exact Kd.Q_nil _ _ _ _ _ | exact Kd.S_nil _ _ _ _ _⟩, ⟨by (with_reducible repeat (first | refine blk_drewN ?_ _ | refine blk_drew ?_ | refine blk_alloc ?_ _)); refine blk_far ?_ NB101_105.out _; (with_reducible repeat (first | refine blk_drewN ?_ _ | refine blk_drew ?_ | refine blk_alloc ?_ _)); refine blk_far ?_ NB101_105.out _; (with_reducible repeat (first | refine blk_drewN ?_ _ | refine blk_drew ?_ | refine blk_alloc ?_ _)); refine blk_far ?_ NB101_105.out _; (with_reducible repeat (first | refine blk_drewN ?_ _ | refine blk_drew ?_ | refine blk_alloc ?_ _)); refine blk_far ?_ NB101_105.out _; (with_reducible repeat (first | refine blk_drewN ?_ _ | refine blk_drew ?_ | refine blk_alloc ?_ _)); refine blk_far ?_ NB101_105.out _; (with_reducible repeat (first | refine blk_drewN ?_ _ | refine blk_drew ?_ | refine blk_alloc ?_ _)); refine blk_far ?_ NB101_105.out _; (with_reducible repeat (first | refine blk_drewN ?_ _ | refine blk_drew ?_ | refine blk_alloc ?_ _)); exact BK101.out⟩, ⟨by (with_reducible repeat (first | refine blk_drewN ?_ _ | refine blk_drew ?_ | refine blk_alloc ?_ _)); refine blk_far ?_ NB102_105.out _; (with_reducible repeat (first | refine blk_drewN ?_ _ | refine blk_drew ?_ | refine blk_alloc ?_ _)); refine blk_far ?_ NB102_105.out _; (with_reducible repeat (first | refine blk_drewN ?_ _ | refine blk_drew ?_ | refine blk_alloc ?_ _)); refine blk_far ?_ NB102_105.out _; (with_reducible repeat (first | refine blk_drewN ?_ _ | refine blk_drew ?_ | refine blk_alloc ?_ _)); refine blk_far ?_ NB102_105.out _; (with_reducible repeat (first | refine blk_drewN ?_ _ | refine blk_drew ?_ | refine blk_alloc ?_ _)); refine blk_far ?_ NB102_105.out _; (with_reducible repeat (first | refine blk_drewN ?_ _ | refine blk_drew ?_ | refine blk_alloc ?_ _)); refine blk_far ?_ NB102_105.out _; (with_reducible repeat (first | refine blk_drewN ?_ _ | refine blk_drew ?_ | refine blk_alloc ?_ _)); exact BK102.out⟩, ⟨by (with_reducible repeat (first | refine blk_drewN ?_ _ | refine blk_drew ?_ | refine blk_alloc ?_ _)); refine blk_put (cs := #[.int .i64 a0_2, .int .i64 (a0_3 / 16777216), .int .i64 (Go.bits .and .i64 (a0_3 / 65536) 255), .bool ((Go.bits .and .i64 (a0_3 / 32768) 1) == 1), .int .i64 (Go.bits .and .i64 a0_3 32767), .slice none 0 0]) ?_ 5 _ rfl; (with_reducible repeat (first | refine blk_drewN ?_ _ | refine blk_drew ?_ | refine blk_alloc ?_ _)); refine blk_put (cs := #[.int .i64 a0_2, .int .i64 (a0_3 / 16777216), .int .i64 (Go.bits .and .i64 (a0_3 / 65536) 255), .bool ((Go.bits .and .i64 (a0_3 / 32768) 1) == 1), .int .i64 0, .slice none 0 0]) ?_ 4 _ rfl; (with_reducible repeat (first | refine blk_drewN ?_ _ | refine blk_drew ?_ | refine blk_alloc ?_ _)); refine blk_put (cs := #[.int .i64 a0_2, .int .i64 (a0_3 / 16777216), .int .i64 (Go.bits .and .i64 (a0_3 / 65536) 255), .bool false, .int .i64 0, .slice none 0 0]) ?_ 3 _ rfl; (with_reducible repeat (first | refine blk_drewN ?_ _ | refine blk_drew ?_ | refine blk_alloc ?_ _)); refine blk_put (cs := #[.int .i64 a0_2, .int .i64 (a0_3 / 16777216), .int .i64 0, .bool false, .int .i64 0, .slice none 0 0]) ?_ 2 _ rfl; (with_reducible repeat (first | refine blk_drewN ?_ _ | refine blk_drew ?_ | refine blk_alloc ?_ _)); refine blk_put (cs := #[.int .i64 a0_2, .int .i64 0, .int .i64 0, .bool false, .int .i64 0, .slice none 0 0]) ?_ 1 _ rfl; (with_reducible repeat (first | refine blk_drewN ?_ _ | refine blk_drew ?_ | refine blk_alloc ?_ _)); refine blk_put (cs := #[.int .i64 0, .int .i64 0, .int .i64 0, .bool false, .int .i64 0, .slice none 0 0]) ?_ 0 _ rfl; (with_reducible repeat (first | refine blk_drewN ?_ _ | refine blk_drew ?_ | refine blk_alloc ?_ _)); exact BK105.out⟩, ⟨by repeat (first | (with_reducible first | exact HB.out | apply below_alloc | apply pw_below_drewN | apply below_drew1 | refine below_set ?_ GE101.out | refine below_set ?_ GE102.out | refine below_set ?_ GE105.out) | exact HB.out)⟩⟩
        case round =>
          clear H'
          try clear c1
          try clear c2
          try clear p2
          try clear c5
          try clear c5b0
          try clear c5b1
          try clear c6
          try clear c6b0
          try clear c6b1
          try clear c8
          try clear c10
          try clear c11
          try clear c13
          try clear c15
          try clear c17
          try clear c19
          try clear c21
          try clear c22
          try clear c24
          try clear c27
          try clear c28
          try clear hcz12_0
          try clear hcz12_1
          try clear hcz12_2
          try clear hcz12_3
          try clear hcz12_4
          try clear hcz14_0
          try clear hcz14_1
          try clear hcz14_2
          try clear hcz14_3
          try clear hcz14_4
          try clear hcz16_0
          try clear hcz16_1
          try clear hcz16_2
          try clear hcz16_3
          try clear hcz16_4
          try clear hcz18_0
          try clear hcz18_1
          try clear hcz18_2
          try clear hcz18_3
          try clear hcz18_4
          try clear hcz20_0
          try clear hcz20_1
          try clear hcz20_2
          try clear hcz20_3
          try clear hcz20_4
          try clear hcz23_0
          try clear hcz23_1
          try clear hcz23_2
          try clear hcz23_3
          try clear hcz23_4
          try clear hcz23_5
          try clear hcz25_0
          try clear hcz25_1
          try clear hcz25_2
          try clear hcz25_3
          try clear hcz25_4
          try clear hcz29_0
          try clear hcz29_1
          try clear hcz29_2
          try clear hcz29_3
          try clear hcz29_4
          try clear hcz29_5
          try clear hfz12_0
          try clear hfz12_1
          try clear hfz12_2
          try clear hfz12_3
          try clear hfz12_4
          try clear hfz14_0
          try clear hfz14_1
          try clear hfz14_2
          try clear hfz14_3
          try clear hfz14_4
          try clear hfz16_0
          try clear hfz16_1
          try clear hfz16_2
          try clear hfz16_3
          try clear hfz16_4
          try clear hfz18_0
          try clear hfz18_1
          try clear hfz18_2
          try clear hfz18_3
          try clear hfz18_4
          try clear hfz20_0
          try clear hfz20_1
          try clear hfz20_2
          try clear hfz20_3
          try clear hfz20_4
          try clear hfz23_0
          try clear hfz23_1
          try clear hfz23_2
          try clear hfz23_3
          try clear hfz23_4
          try clear hfz23_5
          try clear hfz25_0
          try clear hfz25_1
          try clear hfz25_2
          try clear hfz25_3
          try clear hfz25_4
          try clear hfz29_0
          try clear hfz29_1
          try clear hfz29_2
          try clear hfz29_3
          try clear hfz29_4
          try clear hfz29_5
          try clear p2
          obtain ⟨x5_2, x103000_2, x103001_2, x103002_2, x103003_2, x103004_2, x106005_2, u106005, rfl, HA, HK2, HO_106005, BK101, BK102, BK105, HB⟩ := hrel
          cases gk with
          | zero => exact absurd HA.out (by simp [wimpleref4_GetOpt.l0])
          | succ k2 =>
            have H := HA.out
            clear HA
            simp only [wimpleref4_GetOpt.l0] at H
            by_cases c30 : x5_2 < (a0_4.size : Int)
            · rw [if_pos c30] at H
              have c30b0 : decide (x5_2 < (a0_4.size : Int)) = true := decide_eq_true c30
              clear c30
              replace H := Option.bind_eq_some_iff.mp H
              obtain ⟨⟨t106, t107, t108⟩, A310, H⟩ := H
              replace H : ((wimpleref1_Num.f k2 a0_4 t107 2).bind fun bt109 => (if t108 = 0 then (if bt109.2.2 = 0 then (if bt109.1 > (wrap64 ((a0_4.size : Int) - bt109.2.1)) then (some (0, 0, 0, false, 0, ([] : List (S55)), 800)) else (if 0 ≤ bt109.2.1 then (if bt109.2.1 ≤ (wrap64 (bt109.2.1 + bt109.1)) then (if (wrap64 (bt109.2.1 + bt109.1)) ≤ (a0_4.size : Int) then (if x106005_2.length < 5864062014805 then (wimpleref4_GetOpt.l0 k2 (wrap64 (bt109.2.1 + bt109.1)) a0_0 a0_1 a0_2 a0_3 a0_4 a0_2 (a0_3 / 16777216) (Go.bits .and .i64 (a0_3 / 65536) 255) ((Go.bits .and .i64 (a0_3 / 32768) 1) == 1) (Go.bits .and .i64 a0_3 32767) (x106005_2 ++ [(⟨t106, a0_4.extract (bt109.2.1 : Int).toNat ((wrap64 (bt109.2.1 + bt109.1)) : Int).toNat⟩ : S55)])) else (none)) else (none)) else (none)) else (none))) else (some (0, 0, 0, false, 0, ([] : List (S55)), 800))) else (some (0, 0, 0, false, 0, ([] : List (S55)), 800)))) = some (r1, r2, r3, r4, r5, r6, r7) := H
              have A31 := Aside0.mk A310
              clear A310
              replace H := Option.bind_eq_some_iff.mp H
              obtain ⟨⟨t109, t110, t111⟩, A320, H⟩ := H
              replace H : (if t108 = 0 then (if t111 = 0 then (if t109 > (wrap64 ((a0_4.size : Int) - t110)) then (some (0, 0, 0, false, 0, ([] : List (S55)), 800)) else (if 0 ≤ t110 then (if t110 ≤ (wrap64 (t110 + t109)) then (if (wrap64 (t110 + t109)) ≤ (a0_4.size : Int) then (if x106005_2.length < 5864062014805 then (wimpleref4_GetOpt.l0 k2 (wrap64 (t110 + t109)) a0_0 a0_1 a0_2 a0_3 a0_4 a0_2 (a0_3 / 16777216) (Go.bits .and .i64 (a0_3 / 65536) 255) ((Go.bits .and .i64 (a0_3 / 32768) 1) == 1) (Go.bits .and .i64 a0_3 32767) (x106005_2 ++ [(⟨t106, a0_4.extract (t110 : Int).toNat ((wrap64 (t110 + t109)) : Int).toNat⟩ : S55)])) else (none)) else (none)) else (none)) else (none))) else (some (0, 0, 0, false, 0, ([] : List (S55)), 800))) else (some (0, 0, 0, false, 0, ([] : List (S55)), 800))) = some (r1, r2, r3, r4, r5, r6, r7) := H
              have A32 := Aside0.mk A320
              clear A320
              by_cases c33 : t108 = 0
              · rw [if_pos c33] at H
                have c33b0 : (t108 == 0) = true := beq_iff_eq.mpr c33
                have c33b1 : (t108 != 0) = false := bne_eq_false_iff_eq.mpr c33
                clear c33
                by_cases c34 : t111 = 0
                · rw [if_pos c34] at H
                  have c34b0 : (t111 == 0) = true := beq_iff_eq.mpr c34
                  have c34b1 : (t111 != 0) = false := bne_eq_false_iff_eq.mpr c34
                  clear c34
                  by_cases c35 : t109 > (wrap64 ((a0_4.size : Int) - t110))
                  · rw [if_pos c35] at H
                    have c35b0 : decide ((wrap64 ((a0_4.size : Int) - t110)) < t109) = true := decide_eq_true c35
                    clear c35
                    simp only [Option.some.injEq, Prod.mk.injEq] at H
                    obtain ⟨rfl, rfl, rfl, rfl, rfl, rfl, rfl⟩ := H
                    have hnb36 := NB101_102.out
                    have hnc36 := NB102_101.out
                    have hnb37 := NB101_105.out
                    have hnc37 := NB105_101.out
                    (try clear hcz16_0 hcz16_1 hcz16_2 hcz16_3 hcz16_4 hfz16_0 hfz16_1 hfz16_2 hfz16_3 hfz16_4)
                    (try clear hcz18_0 hcz18_1 hcz18_2 hcz18_3 hcz18_4 hfz18_0 hfz18_1 hfz18_2 hfz18_3 hfz18_4)
                    (try clear hcz20_0 hcz20_1 hcz20_2 hcz20_3 hcz20_4 hfz20_0 hfz20_1 hfz20_2 hfz20_3 hfz20_4)
                    (try clear hcz23_0 hcz23_1 hcz23_2 hcz23_3 hcz23_4 hcz23_5 hfz23_0 hfz23_1 hfz23_2 hfz23_3 hfz23_4 hfz23_5)
                    (try clear hcz25_0 hcz25_1 hcz25_2 hcz25_3 hcz25_4 hfz25_0 hfz25_1 hfz25_2 hfz25_3 hfz25_4)
                    (try clear hcz29_0 hcz29_1 hcz29_2 hcz29_3 hcz29_4 hcz29_5 hfz29_0 hfz29_1 hfz29_2 hfz29_3 hfz29_4 hfz29_5)
                    have hcz38_0 : wr.cell? ⟨gb101, 0, none⟩ = some (.string a0_0) := (blk_cell BK101.out 0).trans rfl
                    have hcz38_1 : wr.cell? ⟨gb101, 1, none⟩ = some (.int .i64 a0_1) := (blk_cell BK101.out 1).trans rfl
                    have hcz38_2 : wr.cell? ⟨gb101, 2, none⟩ = some (.int .i64 a0_2) := (blk_cell BK101.out 2).trans rfl
                    have hcz38_3 : wr.cell? ⟨gb101, 3, none⟩ = some (.int .i64 a0_3) := (blk_cell BK101.out 3).trans rfl
                    have hcz38_4 : wr.cell? ⟨gb101, 4, none⟩ = some (.string a0_4) := (blk_cell BK101.out 4).trans rfl
                    have hfz38_0 := blk_frozen BK101.out 0
                    have hfz38_1 := blk_frozen BK101.out 1
                    have hfz38_2 := blk_frozen BK101.out 2
                    have hfz38_3 := blk_frozen BK101.out 3
                    have hfz38_4 := blk_frozen BK101.out 4
                    go_wp2_with (first | ((with_reducible refine gate_dst (N := 66) rfl ?_); (try (refine gate_guard (by rfl) ?_; dsimp only)); (with_reducible refine gate_callee (f := 54) rfl ?_); refine goesL_ (some 66) rfl rfl Try.func54 (by kernel_rfl) rfl #[.string a0_4, .int .i64 x5_2, .int .i64 2] rfl (by (try simp only [List.map_toArray, List.map_cons, List.map_nil]); first | done | rfl | (simp only [List.length_drop, List.length_take]; rfl)) ?_; (with_reducible refine (wimpleref1_Num.calls k2 a0_4 x5_2 2 t106 t107 t108 _ A31.out).mono ?_); rintro e w' ⟨rfl, ⟨nd, rfl⟩⟩; refine ⟨_, rfl, ?_⟩; (try (rw [drewN_self wr]; generalize hq_ : World.drewN wr _ = wr; have n0_ : Aside0 (Kd.R k55 55 wr w.heap.size (fun _ => True) u106005 x106005_2) := ⟨by rw [← hq_]; exact (by (with_reducible repeat (first | apply Kd.R_alloc | apply Kd.R_drewN | apply Kd.R_drew)); exact HO_106005.out)⟩; have n1_ : Aside0 (wr.heap[gb101]? = some (.cells #[.string a0_0, .int .i64 a0_1, .int .i64 a0_2, .int .i64 a0_3, .string a0_4] 53 (0, 0))) := ⟨by rw [← hq_]; exact (by (with_reducible repeat (first | refine blk_drewN ?_ _ | refine blk_drew ?_ | refine blk_alloc ?_ _)); exact BK101.out)⟩; have n2_ : Aside0 (wr.heap[gb102]? = some (.cells #[.int .i64 x103000_2, .int .i64 x103001_2, .int .i64 x103002_2, .bool x103003_2, .int .i64 x103004_2, .slice none 0 0] 49 (0, 0))) := ⟨by rw [← hq_]; exact (by (with_reducible repeat (first | refine blk_drewN ?_ _ | refine blk_drew ?_ | refine blk_alloc ?_ _)); exact BK102.out)⟩; have n3_ : Aside0 (wr.heap[gb105]? = some (.cells #[.int .i64 a0_2, .int .i64 (a0_3 / 16777216), .int .i64 (Go.bits .and .i64 (a0_3 / 65536) 255), .bool ((Go.bits .and .i64 (a0_3 / 32768) 1) == 1), .int .i64 (Go.bits .and .i64 a0_3 32767), u106005] 49 (0, 0))) := ⟨by rw [← hq_]; exact (by (with_reducible repeat (first | refine blk_drewN ?_ _ | refine blk_drew ?_ | refine blk_alloc ?_ _)); exact BK105.out)⟩; have n4_ : Aside0 (Below w.heap.size w wr) := ⟨by rw [← hq_]; exact (by repeat (first | (with_reducible first | exact HB.out | apply below_alloc | apply pw_below_drewN | apply below_drew1 | refine below_set ?_ GE101.out | refine below_set ?_ GE102.out | refine below_set ?_ GE105.out) | exact HB.out))⟩; clear HO_106005 BK101 BK102 BK105 HB hq_; have HO_106005 := n0_; have BK101 := n1_; have BK102 := n2_; have BK105 := n3_; have HB := n4_; clear n0_ n1_ n2_ n3_ n4_)); (try clear hcz18_0 hcz18_1 hcz18_2 hcz18_3 hcz18_4 hfz18_0 hfz18_1 hfz18_2 hfz18_3 hfz18_4); (try clear hcz20_0 hcz20_1 hcz20_2 hcz20_3 hcz20_4 hfz20_0 hfz20_1 hfz20_2 hfz20_3 hfz20_4); (try clear hcz23_0 hcz23_1 hcz23_2 hcz23_3 hcz23_4 hcz23_5 hfz23_0 hfz23_1 hfz23_2 hfz23_3 hfz23_4 hfz23_5); (try clear hcz25_0 hcz25_1 hcz25_2 hcz25_3 hcz25_4 hfz25_0 hfz25_1 hfz25_2 hfz25_3 hfz25_4); (try clear hcz29_0 hcz29_1 hcz29_2 hcz29_3 hcz29_4 hcz29_5 hfz29_0 hfz29_1 hfz29_2 hfz29_3 hfz29_4 hfz29_5); have hcz39_0 : wr.cell? ⟨gb101, 0, none⟩ = some (.string a0_0) := (blk_cell BK101.out 0).trans rfl; have hcz39_1 : wr.cell? ⟨gb101, 1, none⟩ = some (.int .i64 a0_1) := (blk_cell BK101.out 1).trans rfl; have hcz39_2 : wr.cell? ⟨gb101, 2, none⟩ = some (.int .i64 a0_2) := (blk_cell BK101.out 2).trans rfl; have hcz39_3 : wr.cell? ⟨gb101, 3, none⟩ = some (.int .i64 a0_3) := (blk_cell BK101.out 3).trans rfl; have hcz39_4 : wr.cell? ⟨gb101, 4, none⟩ = some (.string a0_4) := (blk_cell BK101.out 4).trans rfl; have hfz39_0 := blk_frozen BK101.out 0; have hfz39_1 := blk_frozen BK101.out 1; have hfz39_2 := blk_frozen BK101.out 2; have hfz39_3 := blk_frozen BK101.out 3; have hfz39_4 := blk_frozen BK101.out 4; (try clear hcz20_0 hcz20_1 hcz20_2 hcz20_3 hcz20_4 hfz20_0 hfz20_1 hfz20_2 hfz20_3 hfz20_4); (try clear hcz23_0 hcz23_1 hcz23_2 hcz23_3 hcz23_4 hcz23_5 hfz23_0 hfz23_1 hfz23_2 hfz23_3 hfz23_4 hfz23_5); (try clear hcz25_0 hcz25_1 hcz25_2 hcz25_3 hcz25_4 hfz25_0 hfz25_1 hfz25_2 hfz25_3 hfz25_4); (try clear hcz29_0 hcz29_1 hcz29_2 hcz29_3 hcz29_4 hcz29_5 hfz29_0 hfz29_1 hfz29_2 hfz29_3 hfz29_4 hfz29_5); have hcz40_0 : wr.cell? ⟨gb102, 0, none⟩ = some (.int .i64 x103000_2) := (blk_cell BK102.out 0).trans rfl; have hcz40_1 : wr.cell? ⟨gb102, 1, none⟩ = some (.int .i64 x103001_2) := (blk_cell BK102.out 1).trans rfl; have hcz40_2 : wr.cell? ⟨gb102, 2, none⟩ = some (.int .i64 x103002_2) := (blk_cell BK102.out 2).trans rfl; have hcz40_3 : wr.cell? ⟨gb102, 3, none⟩ = some (.bool x103003_2) := (blk_cell BK102.out 3).trans rfl; have hcz40_4 : wr.cell? ⟨gb102, 4, none⟩ = some (.int .i64 x103004_2) := (blk_cell BK102.out 4).trans rfl; have hcz40_5 : wr.cell? ⟨gb102, 5, none⟩ = some (.slice none 0 0) := (blk_cell BK102.out 5).trans rfl; have hfz40_0 := blk_frozen BK102.out 0; have hfz40_1 := blk_frozen BK102.out 1; have hfz40_2 := blk_frozen BK102.out 2; have hfz40_3 := blk_frozen BK102.out 3; have hfz40_4 := blk_frozen BK102.out 4; have hfz40_5 := blk_frozen BK102.out 5; (try clear hcz23_0 hcz23_1 hcz23_2 hcz23_3 hcz23_4 hcz23_5 hfz23_0 hfz23_1 hfz23_2 hfz23_3 hfz23_4 hfz23_5); (try clear hcz25_0 hcz25_1 hcz25_2 hcz25_3 hcz25_4 hfz25_0 hfz25_1 hfz25_2 hfz25_3 hfz25_4); (try clear hcz29_0 hcz29_1 hcz29_2 hcz29_3 hcz29_4 hcz29_5 hfz29_0 hfz29_1 hfz29_2 hfz29_3 hfz29_4 hfz29_5); have hcz41_0 : wr.cell? ⟨gb105, 0, none⟩ = some (.int .i64 a0_2) := (blk_cell BK105.out 0).trans rfl; have hcz41_1 : wr.cell? ⟨gb105, 1, none⟩ = some (.int .i64 (a0_3 / 16777216)) := (blk_cell BK105.out 1).trans rfl; have hcz41_2 : wr.cell? ⟨gb105, 2, none⟩ = some (.int .i64 (Go.bits .and .i64 (a0_3 / 65536) 255)) := (blk_cell BK105.out 2).trans rfl; have hcz41_3 : wr.cell? ⟨gb105, 3, none⟩ = some (.bool ((Go.bits .and .i64 (a0_3 / 32768) 1) == 1)) := (blk_cell BK105.out 3).trans rfl; have hcz41_4 : wr.cell? ⟨gb105, 4, none⟩ = some (.int .i64 (Go.bits .and .i64 a0_3 32767)) := (blk_cell BK105.out 4).trans rfl; have hcz41_5 : wr.cell? ⟨gb105, 5, none⟩ = some (u106005) := (blk_cell BK105.out 5).trans rfl; have hfz41_0 := blk_frozen BK105.out 0; have hfz41_1 := blk_frozen BK105.out 1; have hfz41_2 := blk_frozen BK105.out 2; have hfz41_3 := blk_frozen BK105.out 3; have hfz41_4 := blk_frozen BK105.out 4; have hfz41_5 := blk_frozen BK105.out 5) | ((with_reducible refine gate_dst (N := 74) rfl ?_); (try (refine gate_guard (by rfl) ?_; dsimp only)); (with_reducible refine gate_callee (f := 54) rfl ?_); refine goesL_ (some 74) rfl rfl Try.func54 (by kernel_rfl) rfl #[.string a0_4, .int .i64 t107, .int .i64 2] rfl (by (try simp only [List.map_toArray, List.map_cons, List.map_nil]); first | done | rfl | (simp only [List.length_drop, List.length_take]; rfl)) ?_; (with_reducible refine (wimpleref1_Num.calls k2 a0_4 t107 2 t109 t110 t111 _ A32.out).mono ?_); rintro e w' ⟨rfl, ⟨nd, rfl⟩⟩; refine ⟨_, rfl, ?_⟩; (try (rw [drewN_self wr]; generalize hq_ : World.drewN wr _ = wr; have n0_ : Aside0 (Kd.R k55 55 wr w.heap.size (fun _ => True) u106005 x106005_2) := ⟨by rw [← hq_]; exact (by (with_reducible repeat (first | apply Kd.R_alloc | apply Kd.R_drewN | apply Kd.R_drew)); exact HO_106005.out)⟩; have n1_ : Aside0 (wr.heap[gb101]? = some (.cells #[.string a0_0, .int .i64 a0_1, .int .i64 a0_2, .int .i64 a0_3, .string a0_4] 53 (0, 0))) := ⟨by rw [← hq_]; exact (by (with_reducible repeat (first | refine blk_drewN ?_ _ | refine blk_drew ?_ | refine blk_alloc ?_ _)); exact BK101.out)⟩; have n2_ : Aside0 (wr.heap[gb102]? = some (.cells #[.int .i64 x103000_2, .int .i64 x103001_2, .int .i64 x103002_2, .bool x103003_2, .int .i64 x103004_2, .slice none 0 0] 49 (0, 0))) := ⟨by rw [← hq_]; exact (by (with_reducible repeat (first | refine blk_drewN ?_ _ | refine blk_drew ?_ | refine blk_alloc ?_ _)); exact BK102.out)⟩; have n3_ : Aside0 (wr.heap[gb105]? = some (.cells #[.int .i64 a0_2, .int .i64 (a0_3 / 16777216), .int .i64 (Go.bits .and .i64 (a0_3 / 65536) 255), .bool ((Go.bits .and .i64 (a0_3 / 32768) 1) == 1), .int .i64 (Go.bits .and .i64 a0_3 32767), u106005] 49 (0, 0))) := ⟨by rw [← hq_]; exact (by (with_reducible repeat (first | refine blk_drewN ?_ _ | refine blk_drew ?_ | refine blk_alloc ?_ _)); exact BK105.out)⟩; have n4_ : Aside0 (Below w.heap.size w wr) := ⟨by rw [← hq_]; exact (by repeat (first | (with_reducible first | exact HB.out | apply below_alloc | apply pw_below_drewN | apply below_drew1 | refine below_set ?_ GE101.out | refine below_set ?_ GE102.out | refine below_set ?_ GE105.out) | exact HB.out))⟩; clear HO_106005 BK101 BK102 BK105 HB hq_; have HO_106005 := n0_; have BK101 := n1_; have BK102 := n2_; have BK105 := n3_; have HB := n4_; clear n0_ n1_ n2_ n3_ n4_)); (try clear hcz25_0 hcz25_1 hcz25_2 hcz25_3 hcz25_4 hfz25_0 hfz25_1 hfz25_2 hfz25_3 hfz25_4); (try clear hcz29_0 hcz29_1 hcz29_2 hcz29_3 hcz29_4 hcz29_5 hfz29_0 hfz29_1 hfz29_2 hfz29_3 hfz29_4 hfz29_5); have hcz42_0 : wr.cell? ⟨gb101, 0, none⟩ = some (.string a0_0) := (blk_cell BK101.out 0).trans rfl; have hcz42_1 : wr.cell? ⟨gb101, 1, none⟩ = some (.int .i64 a0_1) := (blk_cell BK101.out 1).trans rfl; have hcz42_2 : wr.cell? ⟨gb101, 2, none⟩ = some (.int .i64 a0_2) := (blk_cell BK101.out 2).trans rfl; have hcz42_3 : wr.cell? ⟨gb101, 3, none⟩ = some (.int .i64 a0_3) := (blk_cell BK101.out 3).trans rfl; have hcz42_4 : wr.cell? ⟨gb101, 4, none⟩ = some (.string a0_4) := (blk_cell BK101.out 4).trans rfl; have hfz42_0 := blk_frozen BK101.out 0; have hfz42_1 := blk_frozen BK101.out 1; have hfz42_2 := blk_frozen BK101.out 2; have hfz42_3 := blk_frozen BK101.out 3; have hfz42_4 := blk_frozen BK101.out 4; (try clear hcz29_0 hcz29_1 hcz29_2 hcz29_3 hcz29_4 hcz29_5 hfz29_0 hfz29_1 hfz29_2 hfz29_3 hfz29_4 hfz29_5); have hcz43_0 : wr.cell? ⟨gb102, 0, none⟩ = some (.int .i64 x103000_2) := (blk_cell BK102.out 0).trans rfl; have hcz43_1 : wr.cell? ⟨gb102, 1, none⟩ = some (.int .i64 x103001_2) := (blk_cell BK102.out 1).trans rfl; have hcz43_2 : wr.cell? ⟨gb102, 2, none⟩ = some (.int .i64 x103002_2) := (blk_cell BK102.out 2).trans rfl; have hcz43_3 : wr.cell? ⟨gb102, 3, none⟩ = some (.bool x103003_2) := (blk_cell BK102.out 3).trans rfl; have hcz43_4 : wr.cell? ⟨gb102, 4, none⟩ = some (.int .i64 x103004_2) := (blk_cell BK102.out 4).trans rfl; have hcz43_5 : wr.cell? ⟨gb102, 5, none⟩ = some (.slice none 0 0) := (blk_cell BK102.out 5).trans rfl; have hfz43_0 := blk_frozen BK102.out 0; have hfz43_1 := blk_frozen BK102.out 1; have hfz43_2 := blk_frozen BK102.out 2; have hfz43_3 := blk_frozen BK102.out 3; have hfz43_4 := blk_frozen BK102.out 4; have hfz43_5 := blk_frozen BK102.out 5; have hcz44_0 : wr.cell? ⟨gb105, 0, none⟩ = some (.int .i64 a0_2) := (blk_cell BK105.out 0).trans rfl; have hcz44_1 : wr.cell? ⟨gb105, 1, none⟩ = some (.int .i64 (a0_3 / 16777216)) := (blk_cell BK105.out 1).trans rfl; have hcz44_2 : wr.cell? ⟨gb105, 2, none⟩ = some (.int .i64 (Go.bits .and .i64 (a0_3 / 65536) 255)) := (blk_cell BK105.out 2).trans rfl; have hcz44_3 : wr.cell? ⟨gb105, 3, none⟩ = some (.bool ((Go.bits .and .i64 (a0_3 / 32768) 1) == 1)) := (blk_cell BK105.out 3).trans rfl; have hcz44_4 : wr.cell? ⟨gb105, 4, none⟩ = some (.int .i64 (Go.bits .and .i64 a0_3 32767)) := (blk_cell BK105.out 4).trans rfl; have hcz44_5 : wr.cell? ⟨gb105, 5, none⟩ = some (u106005) := (blk_cell BK105.out 5).trans rfl; have hfz44_0 := blk_frozen BK105.out 0; have hfz44_1 := blk_frozen BK105.out 1; have hfz44_2 := blk_frozen BK105.out 2; have hfz44_3 := blk_frozen BK105.out 3; have hfz44_4 := blk_frozen BK105.out 4; have hfz44_5 := blk_frozen BK105.out 5))
                    refine bodyPost_ret (results_ct rfl _ _ gb102 49 #[.int .i64 0, .int .i64 0, .int .i64 0, .bool false, .int .i64 0, .slice none 0 0] (0, 0) _ rfl (by (with_reducible repeat (first | refine blk_drewN ?_ _ | refine blk_drew ?_ | refine blk_alloc ?_ _)); refine blk_put (cs := #[.int .i64 0, .int .i64 0, .int .i64 0, .bool false, .int .i64 0, .slice none 0 0]) ?_ 5 _ rfl; (with_reducible repeat (first | refine blk_drewN ?_ _ | refine blk_drew ?_ | refine blk_alloc ?_ _)); refine blk_put (cs := #[.int .i64 0, .int .i64 0, .int .i64 0, .bool false, .int .i64 x103004_2, .slice none 0 0]) ?_ 4 _ rfl; (with_reducible repeat (first | refine blk_drewN ?_ _ | refine blk_drew ?_ | refine blk_alloc ?_ _)); refine blk_put (cs := #[.int .i64 0, .int .i64 0, .int .i64 0, .bool x103003_2, .int .i64 x103004_2, .slice none 0 0]) ?_ 3 _ rfl; (with_reducible repeat (first | refine blk_drewN ?_ _ | refine blk_drew ?_ | refine blk_alloc ?_ _)); refine blk_put (cs := #[.int .i64 0, .int .i64 0, .int .i64 x103002_2, .bool x103003_2, .int .i64 x103004_2, .slice none 0 0]) ?_ 2 _ rfl; (with_reducible repeat (first | refine blk_drewN ?_ _ | refine blk_drew ?_ | refine blk_alloc ?_ _)); refine blk_put (cs := #[.int .i64 0, .int .i64 x103001_2, .int .i64 x103002_2, .bool x103003_2, .int .i64 x103004_2, .slice none 0 0]) ?_ 1 _ rfl; (with_reducible repeat (first | refine blk_drewN ?_ _ | refine blk_drew ?_ | refine blk_alloc ?_ _)); refine blk_put (cs := #[.int .i64 x103000_2, .int .i64 x103001_2, .int .i64 x103002_2, .bool x103003_2, .int .i64 x103004_2, .slice none 0 0]) ?_ 0 _ rfl; (with_reducible repeat (first | refine blk_drewN ?_ _ | refine blk_drew ?_ | refine blk_alloc ?_ _)); exact BK102.out) Try.underlying49 rfl (by kernel_rfl)) rfl ?_
                    exact ⟨_, by first | rfl | (simp [errW_none, errW_some] <;> rfl) | (simp [*, errW_none, errW_some] <;> rfl), by first | exact Kd.R_nil _ _ _ _ _ | exact Kd.N_nil _ _ _ _ _ | exact Kd.V_nil _ _ _ _ _ | exact Kd.Q_nil _ _ _ _ _ | exact Kd.S_nil _ _ _ _ _, by repeat (first | (with_reducible first | exact HB.out | apply below_alloc | apply pw_below_drewN | apply below_drew1 | refine below_set ?_ GE101.out | refine below_set ?_ GE102.out | refine below_set ?_ GE105.out) | exact HB.out)⟩
                  · rw [if_neg c35] at H
                    have c35b0 : decide ((wrap64 ((a0_4.size : Int) - t110)) < t109) = false := decide_eq_false c35
                    clear c35
                    by_cases c45 : 0 ≤ t110
                    · rw [if_pos c45] at H
                      have c45b0 := eq_true c45
                      have c45b1 : decide (0 ≤ t110) = true := decide_eq_true c45
                      clear c45
                      by_cases c46 : t110 ≤ (wrap64 (t110 + t109))
                      · rw [if_pos c46] at H
                        have c46b0 := eq_true c46
                        have c46b1 : decide (t110 ≤ (wrap64 (t110 + t109))) = true := decide_eq_true c46
                        by_cases c47 : (wrap64 (t110 + t109)) ≤ (a0_4.size : Int)
                        · rw [if_pos c47] at H
                          have c47b0 := eq_true c47
                          have c47b1 : decide ((wrap64 (t110 + t109)) ≤ (a0_4.size : Int)) = true := decide_eq_true c47
                          by_cases c48 : x106005_2.length < 5864062014805
                          · rw [if_pos c48] at H
                            have LMc48 := Aside0.mk c48
                            clear c48
                            obtain ⟨y112, hy112⟩ : ∃ y_ : List (S55), y_ = (x106005_2 ++ [(⟨t106, a0_4.extract (t110 : Int).toNat ((wrap64 (t110 + t109)) : Int).toNat⟩ : S55)]) := ⟨_, rfl⟩
                            replace H : (wimpleref4_GetOpt.l0 k2 (wrap64 (t110 + t109)) a0_0 a0_1 a0_2 a0_3 a0_4 a0_2 (a0_3 / 16777216) (Go.bits .and .i64 (a0_3 / 65536) 255) ((Go.bits .and .i64 (a0_3 / 32768) 1) == 1) (Go.bits .and .i64 a0_3 32767) y112) = some (r1, r2, r3, r4, r5, r6, r7) := by first | (rw [hy112]; with_reducible exact H) | (have H2_ := (Option.bind_some _ _).symm.trans H; rw [hy112]; with_reducible exact H2_) | (have H2_ := (Option.bind_some _ _).symm.trans H; with_reducible exact H2_) | with_reducible exact H | (rw [hy112]; exact H) | exact H
                            have Ny112 := Aside0.mk hy112
                            clear hy112
                            have H' := Aside0.mk H
                            clear H
                            have hnb49 := NB101_102.out
                            have hnc49 := NB102_101.out
                            have hnb50 := NB101_105.out
                            have hnc50 := NB105_101.out
                            have hcz51_0 : wr.cell? ⟨gb101, 0, none⟩ = some (.string a0_0) := (blk_cell BK101.out 0).trans rfl
                            have hcz51_1 : wr.cell? ⟨gb101, 1, none⟩ = some (.int .i64 a0_1) := (blk_cell BK101.out 1).trans rfl
                            have hcz51_2 : wr.cell? ⟨gb101, 2, none⟩ = some (.int .i64 a0_2) := (blk_cell BK101.out 2).trans rfl
                            have hcz51_3 : wr.cell? ⟨gb101, 3, none⟩ = some (.int .i64 a0_3) := (blk_cell BK101.out 3).trans rfl
                            have hcz51_4 : wr.cell? ⟨gb101, 4, none⟩ = some (.string a0_4) := (blk_cell BK101.out 4).trans rfl
                            have hfz51_0 := blk_frozen BK101.out 0
                            have hfz51_1 := blk_frozen BK101.out 1
                            have hfz51_2 := blk_frozen BK101.out 2
                            have hfz51_3 := blk_frozen BK101.out 3
                            have hfz51_4 := blk_frozen BK101.out 4
                            try go_wp2_with (first | ((with_reducible refine gate_dst (N := 66) rfl ?_); (try (refine gate_guard (by rfl) ?_; dsimp only)); (with_reducible refine gate_callee (f := 54) rfl ?_); refine goesL_ (some 66) rfl rfl Try.func54 (by kernel_rfl) rfl #[.string a0_4, .int .i64 x5_2, .int .i64 2] rfl (by (try simp only [List.map_toArray, List.map_cons, List.map_nil]); first | done | rfl | (simp only [List.length_drop, List.length_take]; rfl)) ?_; (with_reducible refine (wimpleref1_Num.calls k2 a0_4 x5_2 2 t106 t107 t108 _ A31.out).mono ?_); rintro e w' ⟨rfl, ⟨nd, rfl⟩⟩; refine ⟨_, rfl, ?_⟩; (try (rw [drewN_self wr]; generalize hq_ : World.drewN wr _ = wr; have n0_ : Aside0 (Kd.R k55 55 wr w.heap.size (fun _ => True) u106005 x106005_2) := ⟨by rw [← hq_]; exact (by (with_reducible repeat (first | apply Kd.R_alloc | apply Kd.R_drewN | apply Kd.R_drew)); exact HO_106005.out)⟩; have n1_ : Aside0 (wr.heap[gb101]? = some (.cells #[.string a0_0, .int .i64 a0_1, .int .i64 a0_2, .int .i64 a0_3, .string a0_4] 53 (0, 0))) := ⟨by rw [← hq_]; exact (by (with_reducible repeat (first | refine blk_drewN ?_ _ | refine blk_drew ?_ | refine blk_alloc ?_ _)); exact BK101.out)⟩; have n2_ : Aside0 (wr.heap[gb102]? = some (.cells #[.int .i64 x103000_2, .int .i64 x103001_2, .int .i64 x103002_2, .bool x103003_2, .int .i64 x103004_2, .slice none 0 0] 49 (0, 0))) := ⟨by rw [← hq_]; exact (by (with_reducible repeat (first | refine blk_drewN ?_ _ | refine blk_drew ?_ | refine blk_alloc ?_ _)); exact BK102.out)⟩; have n3_ : Aside0 (wr.heap[gb105]? = some (.cells #[.int .i64 a0_2, .int .i64 (a0_3 / 16777216), .int .i64 (Go.bits .and .i64 (a0_3 / 65536) 255), .bool ((Go.bits .and .i64 (a0_3 / 32768) 1) == 1), .int .i64 (Go.bits .and .i64 a0_3 32767), u106005] 49 (0, 0))) := ⟨by rw [← hq_]; exact (by (with_reducible repeat (first | refine blk_drewN ?_ _ | refine blk_drew ?_ | refine blk_alloc ?_ _)); exact BK105.out)⟩; have n4_ : Aside0 (Below w.heap.size w wr) := ⟨by rw [← hq_]; exact (by repeat (first | (with_reducible first | exact HB.out | apply below_alloc | apply pw_below_drewN | apply below_drew1 | refine below_set ?_ GE101.out | refine below_set ?_ GE102.out | refine below_set ?_ GE105.out) | exact HB.out))⟩; clear HO_106005 BK101 BK102 BK105 HB hq_; have HO_106005 := n0_; have BK101 := n1_; have BK102 := n2_; have BK105 := n3_; have HB := n4_; clear n0_ n1_ n2_ n3_ n4_)); have hcz52_0 : wr.cell? ⟨gb101, 0, none⟩ = some (.string a0_0) := (blk_cell BK101.out 0).trans rfl; have hcz52_1 : wr.cell? ⟨gb101, 1, none⟩ = some (.int .i64 a0_1) := (blk_cell BK101.out 1).trans rfl; have hcz52_2 : wr.cell? ⟨gb101, 2, none⟩ = some (.int .i64 a0_2) := (blk_cell BK101.out 2).trans rfl; have hcz52_3 : wr.cell? ⟨gb101, 3, none⟩ = some (.int .i64 a0_3) := (blk_cell BK101.out 3).trans rfl; have hcz52_4 : wr.cell? ⟨gb101, 4, none⟩ = some (.string a0_4) := (blk_cell BK101.out 4).trans rfl; have hfz52_0 := blk_frozen BK101.out 0; have hfz52_1 := blk_frozen BK101.out 1; have hfz52_2 := blk_frozen BK101.out 2; have hfz52_3 := blk_frozen BK101.out 3; have hfz52_4 := blk_frozen BK101.out 4; have hcz53_0 : wr.cell? ⟨gb102, 0, none⟩ = some (.int .i64 x103000_2) := (blk_cell BK102.out 0).trans rfl; have hcz53_1 : wr.cell? ⟨gb102, 1, none⟩ = some (.int .i64 x103001_2) := (blk_cell BK102.out 1).trans rfl; have hcz53_2 : wr.cell? ⟨gb102, 2, none⟩ = some (.int .i64 x103002_2) := (blk_cell BK102.out 2).trans rfl; have hcz53_3 : wr.cell? ⟨gb102, 3, none⟩ = some (.bool x103003_2) := (blk_cell BK102.out 3).trans rfl; have hcz53_4 : wr.cell? ⟨gb102, 4, none⟩ = some (.int .i64 x103004_2) := (blk_cell BK102.out 4).trans rfl; have hcz53_5 : wr.cell? ⟨gb102, 5, none⟩ = some (.slice none 0 0) := (blk_cell BK102.out 5).trans rfl; have hfz53_0 := blk_frozen BK102.out 0; have hfz53_1 := blk_frozen BK102.out 1; have hfz53_2 := blk_frozen BK102.out 2; have hfz53_3 := blk_frozen BK102.out 3; have hfz53_4 := blk_frozen BK102.out 4; have hfz53_5 := blk_frozen BK102.out 5; have hcz54_0 : wr.cell? ⟨gb105, 0, none⟩ = some (.int .i64 a0_2) := (blk_cell BK105.out 0).trans rfl; have hcz54_1 : wr.cell? ⟨gb105, 1, none⟩ = some (.int .i64 (a0_3 / 16777216)) := (blk_cell BK105.out 1).trans rfl; have hcz54_2 : wr.cell? ⟨gb105, 2, none⟩ = some (.int .i64 (Go.bits .and .i64 (a0_3 / 65536) 255)) := (blk_cell BK105.out 2).trans rfl; have hcz54_3 : wr.cell? ⟨gb105, 3, none⟩ = some (.bool ((Go.bits .and .i64 (a0_3 / 32768) 1) == 1)) := (blk_cell BK105.out 3).trans rfl; have hcz54_4 : wr.cell? ⟨gb105, 4, none⟩ = some (.int .i64 (Go.bits .and .i64 a0_3 32767)) := (blk_cell BK105.out 4).trans rfl; have hcz54_5 : wr.cell? ⟨gb105, 5, none⟩ = some (u106005) := (blk_cell BK105.out 5).trans rfl; have hfz54_0 := blk_frozen BK105.out 0; have hfz54_1 := blk_frozen BK105.out 1; have hfz54_2 := blk_frozen BK105.out 2; have hfz54_3 := blk_frozen BK105.out 3; have hfz54_4 := blk_frozen BK105.out 4; have hfz54_5 := blk_frozen BK105.out 5) | ((with_reducible refine gate_dst (N := 74) rfl ?_); (try (refine gate_guard (by rfl) ?_; dsimp only)); (with_reducible refine gate_callee (f := 54) rfl ?_); refine goesL_ (some 74) rfl rfl Try.func54 (by kernel_rfl) rfl #[.string a0_4, .int .i64 t107, .int .i64 2] rfl (by (try simp only [List.map_toArray, List.map_cons, List.map_nil]); first | done | rfl | (simp only [List.length_drop, List.length_take]; rfl)) ?_; (with_reducible refine (wimpleref1_Num.calls k2 a0_4 t107 2 t109 t110 t111 _ A32.out).mono ?_); rintro e w' ⟨rfl, ⟨nd, rfl⟩⟩; refine ⟨_, rfl, ?_⟩; (try (rw [drewN_self wr]; generalize hq_ : World.drewN wr _ = wr; have n0_ : Aside0 (Kd.R k55 55 wr w.heap.size (fun _ => True) u106005 x106005_2) := ⟨by rw [← hq_]; exact (by (with_reducible repeat (first | apply Kd.R_alloc | apply Kd.R_drewN | apply Kd.R_drew)); exact HO_106005.out)⟩; have n1_ : Aside0 (wr.heap[gb101]? = some (.cells #[.string a0_0, .int .i64 a0_1, .int .i64 a0_2, .int .i64 a0_3, .string a0_4] 53 (0, 0))) := ⟨by rw [← hq_]; exact (by (with_reducible repeat (first | refine blk_drewN ?_ _ | refine blk_drew ?_ | refine blk_alloc ?_ _)); exact BK101.out)⟩; have n2_ : Aside0 (wr.heap[gb102]? = some (.cells #[.int .i64 x103000_2, .int .i64 x103001_2, .int .i64 x103002_2, .bool x103003_2, .int .i64 x103004_2, .slice none 0 0] 49 (0, 0))) := ⟨by rw [← hq_]; exact (by (with_reducible repeat (first | refine blk_drewN ?_ _ | refine blk_drew ?_ | refine blk_alloc ?_ _)); exact BK102.out)⟩; have n3_ : Aside0 (wr.heap[gb105]? = some (.cells #[.int .i64 a0_2, .int .i64 (a0_3 / 16777216), .int .i64 (Go.bits .and .i64 (a0_3 / 65536) 255), .bool ((Go.bits .and .i64 (a0_3 / 32768) 1) == 1), .int .i64 (Go.bits .and .i64 a0_3 32767), u106005] 49 (0, 0))) := ⟨by rw [← hq_]; exact (by (with_reducible repeat (first | refine blk_drewN ?_ _ | refine blk_drew ?_ | refine blk_alloc ?_ _)); exact BK105.out)⟩; have n4_ : Aside0 (Below w.heap.size w wr) := ⟨by rw [← hq_]; exact (by repeat (first | (with_reducible first | exact HB.out | apply below_alloc | apply pw_below_drewN | apply below_drew1 | refine below_set ?_ GE101.out | refine below_set ?_ GE102.out | refine below_set ?_ GE105.out) | exact HB.out))⟩; clear HO_106005 BK101 BK102 BK105 HB hq_; have HO_106005 := n0_; have BK101 := n1_; have BK102 := n2_; have BK105 := n3_; have HB := n4_; clear n0_ n1_ n2_ n3_ n4_)); have hcz55_0 : wr.cell? ⟨gb101, 0, none⟩ = some (.string a0_0) := (blk_cell BK101.out 0).trans rfl; have hcz55_1 : wr.cell? ⟨gb101, 1, none⟩ = some (.int .i64 a0_1) := (blk_cell BK101.out 1).trans rfl; have hcz55_2 : wr.cell? ⟨gb101, 2, none⟩ = some (.int .i64 a0_2) := (blk_cell BK101.out 2).trans rfl; have hcz55_3 : wr.cell? ⟨gb101, 3, none⟩ = some (.int .i64 a0_3) := (blk_cell BK101.out 3).trans rfl; have hcz55_4 : wr.cell? ⟨gb101, 4, none⟩ = some (.string a0_4) := (blk_cell BK101.out 4).trans rfl; have hfz55_0 := blk_frozen BK101.out 0; have hfz55_1 := blk_frozen BK101.out 1; have hfz55_2 := blk_frozen BK101.out 2; have hfz55_3 := blk_frozen BK101.out 3; have hfz55_4 := blk_frozen BK101.out 4; have hcz56_0 : wr.cell? ⟨gb102, 0, none⟩ = some (.int .i64 x103000_2) := (blk_cell BK102.out 0).trans rfl; have hcz56_1 : wr.cell? ⟨gb102, 1, none⟩ = some (.int .i64 x103001_2) := (blk_cell BK102.out 1).trans rfl; have hcz56_2 : wr.cell? ⟨gb102, 2, none⟩ = some (.int .i64 x103002_2) := (blk_cell BK102.out 2).trans rfl; have hcz56_3 : wr.cell? ⟨gb102, 3, none⟩ = some (.bool x103003_2) := (blk_cell BK102.out 3).trans rfl; have hcz56_4 : wr.cell? ⟨gb102, 4, none⟩ = some (.int .i64 x103004_2) := (blk_cell BK102.out 4).trans rfl; have hcz56_5 : wr.cell? ⟨gb102, 5, none⟩ = some (.slice none 0 0) := (blk_cell BK102.out 5).trans rfl; have hfz56_0 := blk_frozen BK102.out 0; have hfz56_1 := blk_frozen BK102.out 1; have hfz56_2 := blk_frozen BK102.out 2; have hfz56_3 := blk_frozen BK102.out 3; have hfz56_4 := blk_frozen BK102.out 4; have hfz56_5 := blk_frozen BK102.out 5; have hcz57_0 : wr.cell? ⟨gb105, 0, none⟩ = some (.int .i64 a0_2) := (blk_cell BK105.out 0).trans rfl; have hcz57_1 : wr.cell? ⟨gb105, 1, none⟩ = some (.int .i64 (a0_3 / 16777216)) := (blk_cell BK105.out 1).trans rfl; have hcz57_2 : wr.cell? ⟨gb105, 2, none⟩ = some (.int .i64 (Go.bits .and .i64 (a0_3 / 65536) 255)) := (blk_cell BK105.out 2).trans rfl; have hcz57_3 : wr.cell? ⟨gb105, 3, none⟩ = some (.bool ((Go.bits .and .i64 (a0_3 / 32768) 1) == 1)) := (blk_cell BK105.out 3).trans rfl; have hcz57_4 : wr.cell? ⟨gb105, 4, none⟩ = some (.int .i64 (Go.bits .and .i64 a0_3 32767)) := (blk_cell BK105.out 4).trans rfl; have hcz57_5 : wr.cell? ⟨gb105, 5, none⟩ = some (u106005) := (blk_cell BK105.out 5).trans rfl; have hfz57_0 := blk_frozen BK105.out 0; have hfz57_1 := blk_frozen BK105.out 1; have hfz57_2 := blk_frozen BK105.out 2; have hfz57_3 := blk_frozen BK105.out 3; have hfz57_4 := blk_frozen BK105.out 4; have hfz57_5 := blk_frozen BK105.out 5))
                            have n0_ := Aside0.mk (Kd.R_drew HO_106005.out)
                            have n1_ := Aside0.mk (blk_drew BK101.out)
                            have n2_ := Aside0.mk (blk_drew BK102.out)
                            have n3_ := Aside0.mk (blk_drew BK105.out)
                            have n4_ := Aside0.mk (below_drew1 HB.out)
                            clear HO_106005
                            clear BK101
                            clear BK102
                            clear BK105
                            clear HB
                            have HO_106005 := n0_
                            have BK101 := n1_
                            have BK102 := n2_
                            have BK105 := n3_
                            have HB := n4_
                            clear n0_ n1_ n2_ n3_ n4_
                            refine start_ (n := 15) (S := fun w' => w'.cell? ⟨gb105, 0, none⟩ = some (.int .i64 a0_2) ∧ w'.cell? ⟨gb105, 1, none⟩ = some (.int .i64 (a0_3 / 16777216)) ∧ w'.cell? ⟨gb105, 2, none⟩ = some (.int .i64 (Go.bits .and .i64 (a0_3 / 65536) 255)) ∧ w'.cell? ⟨gb105, 3, none⟩ = some (.bool ((Go.bits .and .i64 (a0_3 / 32768) 1) == 1)) ∧ w'.cell? ⟨gb105, 4, none⟩ = some (.int .i64 (Go.bits .and .i64 a0_3 32767)) ∧ w'.cell? ⟨gb105, 5, none⟩ = some (u106005) ∧ w'.cell? ⟨gb101, 0, none⟩ = some (.string a0_0) ∧ w'.cell? ⟨gb101, 1, none⟩ = some (.int .i64 a0_1) ∧ w'.cell? ⟨gb101, 2, none⟩ = some (.int .i64 a0_2) ∧ w'.cell? ⟨gb101, 3, none⟩ = some (.int .i64 a0_3) ∧ w'.cell? ⟨gb101, 4, none⟩ = some (.string a0_4)) (ds := [14]) #[false, false, false, false, false, false, false, false, false, false, false, false, false, false, false] (by kernel_rfl) rfl rfl ⟨(blk_cell BK105.out 0).trans rfl, (blk_cell BK105.out 1).trans rfl, (blk_cell BK105.out 2).trans rfl, (blk_cell BK105.out 3).trans rfl, (blk_cell BK105.out 4).trans rfl, (blk_cell BK105.out 5).trans rfl, (blk_cell BK101.out 0).trans rfl, (blk_cell BK101.out 1).trans rfl, (blk_cell BK101.out 2).trans rfl, (blk_cell BK101.out 3).trans rfl, (blk_cell BK101.out 4).trans rfl⟩ (fun hHeld => ?_); refine with_tabW wimpleref4_GetOpt.tab10 wimpleref4_GetOpt.bits10 (fun HT_ HW_ => ?_)
                            generalize wr.drew = w58 at HO_106005 BK101 BK102 BK105 HB hHeld ⊢
                            refine pure_ (i := 0) (N := some 94) (v := ?_) (a' := ?_) #[true, false, false, false, false, false, false, false, false, false, false, false, false, false, false] rfl rfl (any_of HT_.out (by kernel_rfl)) (fun _ _ _ h => h) (Or.inl ⟨by rfl, ?_⟩) ?_ ?_
                            rotate_left
                            · intro w'
                              go_simp
                              with_reducible rfl
                            rotate_left
                            · simp only [Act.put, List.setIfInBounds_toArray, List.set_cons_zero, List.set_cons_succ, i64_w, i32_w]
                              rfl
                            refine pure_ (i := 2) (N := some 96) (v := ?_) (a' := ?_) #[true, false, true, false, false, false, false, false, false, false, false, false, false, false, false] rfl rfl (any_of HT_.out (by kernel_rfl)) (fun _ _ _ h => h) (Or.inl ⟨by rfl, ?_⟩) ?_ ?_
                            rotate_left
                            · intro w'
                              go_simp
                              with_reducible rfl
                            rotate_left
                            · simp only [Act.put, List.setIfInBounds_toArray, List.set_cons_zero, List.set_cons_succ, i64_w, i32_w]
                              rfl
                            refine pure_ (i := 3) (N := some 97) (v := ?_) (a' := ?_) #[true, false, true, true, false, false, false, false, false, false, false, false, false, false, false] rfl rfl (any_of HT_.out (by kernel_rfl)) (fun _ _ _ h => h) (Or.inl ⟨by rfl, ?_⟩) ?_ ?_
                            rotate_left
                            · intro w'
                              go_simp
                              with_reducible rfl
                            rotate_left
                            · simp only [Act.put, List.setIfInBounds_toArray, List.set_cons_zero, List.set_cons_succ, i64_w, i32_w]
                              rfl
                            refine pure_ (i := 5) (N := some 99) (v := ?_) (a' := ?_) #[true, false, true, true, false, true, false, false, false, false, false, false, false, false, false] rfl rfl (any_of HT_.out (by kernel_rfl)) (fun _ _ _ h => h) (Or.inl ⟨by rfl, ?_⟩) ?_ ?_
                            rotate_left
                            · intro w'
                              go_simp
                              with_reducible rfl
                            rotate_left
                            · simp only [Act.put, List.setIfInBounds_toArray, List.set_cons_zero, List.set_cons_succ, i64_w, i32_w]
                              rfl
                            refine pure_ (i := 6) (N := some 100) (v := ?_) (a' := ?_) #[true, false, true, true, false, true, true, false, false, false, false, false, false, false, false] rfl rfl (any_of HT_.out (by kernel_rfl)) (fun _ _ _ h => h) (Or.inl ⟨by rfl, ?_⟩) ?_ ?_
                            rotate_left
                            · intro w'
                              go_simp
                              with_reducible rfl
                            rotate_left
                            · simp only [Act.put, List.setIfInBounds_toArray, List.set_cons_zero, List.set_cons_succ, i64_w, i32_w]
                              rfl
                            refine pure_ (i := 7) (N := some 101) (v := ?_) (a' := ?_) #[true, false, true, true, false, true, true, true, false, false, false, false, false, false, false] rfl rfl (any_of HT_.out (by kernel_rfl)) (fun _ _ _ h => h) (Or.inl ⟨by rfl, ?_⟩) ?_ ?_
                            rotate_left
                            · intro w'
                              go_simp
                              with_reducible rfl
                            rotate_left
                            · simp only [Act.put, List.setIfInBounds_toArray, List.set_cons_zero, List.set_cons_succ, i64_w, i32_w]
                              rfl
                            refine pure_ (i := 8) (N := some 102) (v := ?_) (a' := ?_) #[true, false, true, true, false, true, true, true, true, false, false, false, false, false, false] rfl rfl (any_of HT_.out (by kernel_rfl)) (fun _ _ _ h => h) (Or.inl ⟨by rfl, ?_⟩) ?_ ?_
                            rotate_left
                            · intro w'
                              go_simp
                              with_reducible rfl
                            rotate_left
                            · simp only [Act.put, List.setIfInBounds_toArray, List.set_cons_zero, List.set_cons_succ, i64_w, i32_w]
                              rfl
                            refine take_ (i := 1) (N := some 95) (v := ?_) (a' := ?_) #[true, true, true, true, false, true, true, true, true, false, false, false, false, false, false] rfl rfl (take_ofW HT_.out HW_.out (by kernel_rfl)) (fun _ _ _ h => h) (Or.inl ⟨by rfl, ?_⟩) hHeld ?_ ?_
                            rotate_left
                            · rintro w' ⟨s0, s1, s2, s3, s4, s5, s6, s7, s8, s9, s10⟩
                              go_simp
                              with_reducible rfl
                            rotate_left
                            · simp only [Act.put, List.setIfInBounds_toArray, List.set_cons_zero, List.set_cons_succ, i64_w, i32_w]
                              rfl
                            refine take_ (i := 4) (N := some 98) (v := ?_) (a' := ?_) #[true, true, true, true, true, true, true, true, true, false, false, false, false, false, false] rfl rfl (take_ofW HT_.out HW_.out (by kernel_rfl)) (fun _ _ _ h => h) (Or.inl ⟨by rfl, ?_⟩) hHeld ?_ ?_
                            rotate_left
                            · rintro w' ⟨s0, s1, s2, s3, s4, s5, s6, s7, s8, s9, s10⟩
                              go_simp
                              with_reducible rfl
                            rotate_left
                            · simp only [Act.put, List.setIfInBounds_toArray, List.set_cons_zero, List.set_cons_succ, i64_w, i32_w]
                              rfl
                            refine pure_ (i := 9) (N := some 103) (v := ?_) (a' := ?_) #[true, true, true, true, true, true, true, true, true, true, false, false, false, false, false] rfl rfl (any_of HT_.out (by kernel_rfl)) (fun _ _ _ h => h) (Or.inl ⟨by rfl, ?_⟩) ?_ ?_
                            rotate_left
                            · intro w'
                              go_simp
                              with_reducible rfl
                            rotate_left
                            · simp only [Act.put, List.setIfInBounds_toArray, List.set_cons_zero, List.set_cons_succ, i64_w, i32_w]
                              rfl
                            refine pure_ (i := 10) (N := some 104) (v := ?_) (a' := ?_) #[true, true, true, true, true, true, true, true, true, true, true, false, false, false, false] rfl rfl (any_of HT_.out (by kernel_rfl)) (fun _ _ _ h => h) (Or.inl ⟨by rfl, ?_⟩) ?_ ?_
                            rotate_left
                            · intro w'
                              go_simp
                              with_reducible rfl
                            rotate_left
                            · simp only [Act.put, List.setIfInBounds_toArray, List.set_cons_zero, List.set_cons_succ, i64_w, i32_w]
                              rfl
                            refine one_ (i := 11) (N := some 105) #[true, true, true, true, true, true, true, true, true, true, true, true, false, false, false] rfl rfl (one_of HT_.out (by kernel_rfl)) (by decide) (fun K hK => ?_)
                            refine value_ (w1 := ?_) (v := ?_) (by rfl) rfl ?_ ?_
                            rotate_left 2
                            · go_simp
                              constructor
                              · rfl
                              · rfl
                            refine hK.out _ _ ⟨(blk_cell (blk_alloc BK105.out _) 0).trans rfl, (blk_cell (blk_alloc BK105.out _) 1).trans rfl, (blk_cell (blk_alloc BK105.out _) 2).trans rfl, (blk_cell (blk_alloc BK105.out _) 3).trans rfl, (blk_cell (blk_alloc BK105.out _) 4).trans rfl, (blk_cell (blk_alloc BK105.out _) 5).trans rfl, (blk_cell (blk_alloc BK101.out _) 0).trans rfl, (blk_cell (blk_alloc BK101.out _) 1).trans rfl, (blk_cell (blk_alloc BK101.out _) 2).trans rfl, (blk_cell (blk_alloc BK101.out _) 3).trans rfl, (blk_cell (blk_alloc BK101.out _) 4).trans rfl⟩ (fun hHeld => ?_)
                            clear hK K
                            refine norm_ (a' := ?_) ?_ ?_
                            rotate_left
                            · show Act.put _ (some 105) _ = _
                              simp only [Act.put, List.setIfInBounds_toArray, List.set_cons_zero, List.set_cons_succ, i64_w, i32_w]
                              rfl
                            refine one_ (i := 12) (N := some 106) #[true, true, true, true, true, true, true, true, true, true, true, true, true, false, false] rfl rfl (one_of HT_.out (by kernel_rfl)) (by decide) (fun K hK => ?_)
                            refine Kd.R_append_step k55 (w0 := w) w.heap.size (by rfl) (.tmp 95) (.tmp 105) 47 55 (.agg #[(.int .i64 0), (.string ⟨#[]⟩)]) 24 rfl Try.underlying47 info55 rfl (by decide) (by omega) u106005 x106005_2 (⟨t106, a0_4.extract (t110 : Int).toNat ((wrap64 (t110 + t109)) : Int).toNat⟩ : S55) [.int .i64 t106, .string (a0_4.extract (t110 : Int).toNat ((wrap64 (t110 + t109)) : Int).toNat)] (fun _ => True) (fun _ => False) rfl rfl ?aP (fun _ hk => hk.elim) ?aF ?aO ?aB ?aS ?aL ?_
                            (case aP => exact k55_mkM _ _ _ (⟨t106, a0_4.extract (t110 : Int).toNat ((wrap64 (t110 + t109)) : Int).toNat⟩ : S55))
                            (case aB => exact (by repeat (first | (with_reducible first | exact HB.out | apply below_alloc | apply pw_below_drewN | apply below_drew1 | refine below_set ?_ GE101.out | refine below_set ?_ GE102.out | refine below_set ?_ GE105.out) | exact HB.out)))
                            (case aF => exact (fun _ _ => trivial))
                            (case aO => exact (by (with_reducible repeat (first | apply Kd.R_alloc | apply Kd.R_drewN | apply Kd.R_drew)); exact HO_106005.out))
                            (case aS => exact (below_size (by repeat (first | (with_reducible first | exact HB.out | apply below_alloc | apply pw_below_drewN | apply below_drew1 | refine below_set ?_ GE101.out | refine below_set ?_ GE102.out | refine below_set ?_ GE105.out) | exact HB.out))))
                            (case aL => have := LMc48.out; omega)
                            intro v113 w59 ho hb hg hat
                            rw [← Ny112.out] at ho
                            have n0_ := Aside0.mk (blk_grown (g := gb101) (o := .cells #[.string a0_0, .int .i64 a0_1, .int .i64 a0_2, .int .i64 a0_3, .string a0_4] 53 (0, 0)) (by (with_reducible repeat (first | refine blk_drewN ?_ _ | refine blk_drew ?_ | refine blk_alloc ?_ _)); exact BK101.out) hg (Kd.R_ne HO_106005.out BK101.out (by decide)))
                            have n1_ := Aside0.mk (blk_grown (g := gb102) (o := .cells #[.int .i64 x103000_2, .int .i64 x103001_2, .int .i64 x103002_2, .bool x103003_2, .int .i64 x103004_2, .slice none 0 0] 49 (0, 0)) (by (with_reducible repeat (first | refine blk_drewN ?_ _ | refine blk_drew ?_ | refine blk_alloc ?_ _)); exact BK102.out) hg (Kd.R_ne HO_106005.out BK102.out (by decide)))
                            have n2_ := Aside0.mk (blk_grown (g := gb105) (o := .cells #[.int .i64 a0_2, .int .i64 (a0_3 / 16777216), .int .i64 (Go.bits .and .i64 (a0_3 / 65536) 255), .bool ((Go.bits .and .i64 (a0_3 / 32768) 1) == 1), .int .i64 (Go.bits .and .i64 a0_3 32767), u106005] 49 (0, 0)) (by (with_reducible repeat (first | refine blk_drewN ?_ _ | refine blk_drew ?_ | refine blk_alloc ?_ _)); exact BK105.out) hg (Kd.R_ne HO_106005.out BK105.out (by decide)))
                            have n3_ := Aside0.mk (hb)
                            have n4_ := Aside0.mk (ho)
                            clear BK101
                            clear BK102
                            clear BK105
                            clear HB
                            clear HO_106005
                            have BK101 := n0_
                            have BK102 := n1_
                            have BK105 := n2_
                            have HB := n3_
                            have HO114 := n4_
                            clear n0_ n1_ n2_ n3_ n4_
                            clear ho hb hg hat
                            obtain ⟨Ao60, co60, eo60⟩ := Kd.R_slice HO114.out
                            (first | subst eo60 | (injection eo60 with f1_ f2_ f3_; have f4_ := f1_.symm; have f5_ := f3_.symm; clear f1_ f2_ f3_; subst f4_; subst f5_))
                            refine hK.out _ _ ⟨(blk_cell BK105.out 0).trans rfl, (blk_cell BK105.out 1).trans rfl, (blk_cell BK105.out 2).trans rfl, (blk_cell BK105.out 3).trans rfl, (blk_cell BK105.out 4).trans rfl, (blk_cell BK105.out 5).trans rfl, (blk_cell BK101.out 0).trans rfl, (blk_cell BK101.out 1).trans rfl, (blk_cell BK101.out 2).trans rfl, (blk_cell BK101.out 3).trans rfl, (blk_cell BK101.out 4).trans rfl⟩ (fun hHeld => ?_)
                            clear hK K
                            refine norm_ (a' := ?_) ?_ ?_
                            rotate_left
                            · show Act.put _ (some 106) _ = _
                              simp only [Act.put, List.setIfInBounds_toArray, List.set_cons_zero, List.set_cons_succ, i64_w, i32_w]
                              rfl
                            refine pure_ (i := 13) (N := some 107) (v := ?_) (a' := ?_) #[true, true, true, true, true, true, true, true, true, true, true, true, true, true, false] rfl rfl (any_of HT_.out (by kernel_rfl)) (fun _ _ _ h => h) (Or.inl ⟨by rfl, ?_⟩) ?_ ?_
                            rotate_left
                            · intro w'
                              go_simp
                              with_reducible rfl
                            rotate_left
                            · simp only [Act.put, List.setIfInBounds_toArray, List.set_cons_zero, List.set_cons_succ, i64_w, i32_w]
                              rfl
                            refine last_ (i := 14) (N := none) #[true, true, true, true, true, true, true, true, true, true, true, true, true, true, true] rfl rfl (one_of HT_.out (by kernel_rfl)) (by decide) (fun K hK => ?_)
                            have hs61 : w59.cell? ⟨gb105, 5, none⟩ = some (u106005) := (blk_cell BK105.out 5).trans rfl
                            have hfs61 := blk_frozen BK105.out 5
                            have hns61_0 := NB101_105.out
                            have hns61_1 := NB102_105.out
                            have hms61_0 := NB105_101.out
                            have hms61_1 := NB105_102.out
                            refine skip_ (w1 := ?_) (by rfl) rfl ?_ ?_
                            rotate_left
                            · go_simp
                              rfl
                            refine hK.out _ _ ?_
                            clear hK K
                            refine done_ (done_of HT_.out (by kernel_rfl)) ?_
                            try go_wp2
                            go_roundg k2
                            case measure => have := HJ1.out; have := HK2.out; omega
                            case rel => exact ⟨(wrap64 (t110 + t109)), (x103000_2), (x103001_2), (x103002_2), (x103003_2), (x103004_2), (y112), (.slice Ao60 y112.length co60), (by first | rfl | (simp; done) | (simp [*]; done)), H', ⟨by have := HJ1.out; have := HK2.out; omega⟩, ⟨by (with_reducible repeat (first | apply Kd.R_alloc | apply Kd.R_drewN | apply Kd.R_drew)); exact Kd.R_mono (Kd.R_far (p := ⟨gb105, 5, none⟩) (Kd.R_types HO114.out BK105.out (by decide)) (fun _ hk => hk.2) (.slice Ao60 y112.length co60)) (fun _ hk => trivial)⟩, ⟨by (with_reducible repeat (first | refine blk_drewN ?_ _ | refine blk_drew ?_ | refine blk_alloc ?_ _)); refine blk_far ?_ NB101_105.out _; (with_reducible repeat (first | refine blk_drewN ?_ _ | refine blk_drew ?_ | refine blk_alloc ?_ _)); exact BK101.out⟩, ⟨by (with_reducible repeat (first | refine blk_drewN ?_ _ | refine blk_drew ?_ | refine blk_alloc ?_ _)); refine blk_far ?_ NB102_105.out _; (with_reducible repeat (first | refine blk_drewN ?_ _ | refine blk_drew ?_ | refine blk_alloc ?_ _)); exact BK102.out⟩, ⟨by (with_reducible repeat (first | refine blk_drewN ?_ _ | refine blk_drew ?_ | refine blk_alloc ?_ _)); refine blk_put (cs := #[.int .i64 a0_2, .int .i64 (a0_3 / 16777216), .int .i64 (Go.bits .and .i64 (a0_3 / 65536) 255), .bool ((Go.bits .and .i64 (a0_3 / 32768) 1) == 1), .int .i64 (Go.bits .and .i64 a0_3 32767), u106005]) ?_ 5 _ rfl; (with_reducible repeat (first | refine blk_drewN ?_ _ | refine blk_drew ?_ | refine blk_alloc ?_ _)); exact BK105.out⟩, ⟨by repeat (first | (with_reducible first | exact HB.out | apply below_alloc | apply pw_below_drewN | apply below_drew1 | refine below_set ?_ GE101.out | refine below_set ?_ GE102.out | refine below_set ?_ GE105.out) | exact HB.out)⟩⟩
                          · rw [if_neg c48] at H
                            exact absurd H (by simp)
                        · rw [if_neg c47] at H
                          exact absurd H (by simp)
                      · rw [if_neg c46] at H
                        exact absurd H (by simp)
                    · rw [if_neg c45] at H
                      exact absurd H (by simp)
                · rw [if_neg c34] at H
                  have c34b0 : (t111 == 0) = false := beq_eq_false_iff_ne.mpr c34
                  have c34b1 : (t111 != 0) = true := bne_iff_ne.mpr c34
                  simp only [Option.some.injEq, Prod.mk.injEq] at H
                  obtain ⟨rfl, rfl, rfl, rfl, rfl, rfl, rfl⟩ := H
                  have hnb62 := NB101_102.out
                  have hnc62 := NB102_101.out
                  have hnb63 := NB101_105.out
                  have hnc63 := NB105_101.out
                  have hcz64_0 : wr.cell? ⟨gb101, 0, none⟩ = some (.string a0_0) := (blk_cell BK101.out 0).trans rfl
                  have hcz64_1 : wr.cell? ⟨gb101, 1, none⟩ = some (.int .i64 a0_1) := (blk_cell BK101.out 1).trans rfl
                  have hcz64_2 : wr.cell? ⟨gb101, 2, none⟩ = some (.int .i64 a0_2) := (blk_cell BK101.out 2).trans rfl
                  have hcz64_3 : wr.cell? ⟨gb101, 3, none⟩ = some (.int .i64 a0_3) := (blk_cell BK101.out 3).trans rfl
                  have hcz64_4 : wr.cell? ⟨gb101, 4, none⟩ = some (.string a0_4) := (blk_cell BK101.out 4).trans rfl
                  have hfz64_0 := blk_frozen BK101.out 0
                  have hfz64_1 := blk_frozen BK101.out 1
                  have hfz64_2 := blk_frozen BK101.out 2
                  have hfz64_3 := blk_frozen BK101.out 3
                  have hfz64_4 := blk_frozen BK101.out 4
                  go_wp2_with (first | ((with_reducible refine gate_dst (N := 66) rfl ?_); (try (refine gate_guard (by rfl) ?_; dsimp only)); (with_reducible refine gate_callee (f := 54) rfl ?_); refine goesL_ (some 66) rfl rfl Try.func54 (by kernel_rfl) rfl #[.string a0_4, .int .i64 x5_2, .int .i64 2] rfl (by (try simp only [List.map_toArray, List.map_cons, List.map_nil]); first | done | rfl | (simp only [List.length_drop, List.length_take]; rfl)) ?_; (with_reducible refine (wimpleref1_Num.calls k2 a0_4 x5_2 2 t106 t107 t108 _ A31.out).mono ?_); rintro e w' ⟨rfl, ⟨nd, rfl⟩⟩; refine ⟨_, rfl, ?_⟩; (try (rw [drewN_self wr]; generalize hq_ : World.drewN wr _ = wr; have n0_ : Aside0 (Kd.R k55 55 wr w.heap.size (fun _ => True) u106005 x106005_2) := ⟨by rw [← hq_]; exact (by (with_reducible repeat (first | apply Kd.R_alloc | apply Kd.R_drewN | apply Kd.R_drew)); exact HO_106005.out)⟩; have n1_ : Aside0 (wr.heap[gb101]? = some (.cells #[.string a0_0, .int .i64 a0_1, .int .i64 a0_2, .int .i64 a0_3, .string a0_4] 53 (0, 0))) := ⟨by rw [← hq_]; exact (by (with_reducible repeat (first | refine blk_drewN ?_ _ | refine blk_drew ?_ | refine blk_alloc ?_ _)); exact BK101.out)⟩; have n2_ : Aside0 (wr.heap[gb102]? = some (.cells #[.int .i64 x103000_2, .int .i64 x103001_2, .int .i64 x103002_2, .bool x103003_2, .int .i64 x103004_2, .slice none 0 0] 49 (0, 0))) := ⟨by rw [← hq_]; exact (by (with_reducible repeat (first | refine blk_drewN ?_ _ | refine blk_drew ?_ | refine blk_alloc ?_ _)); exact BK102.out)⟩; have n3_ : Aside0 (wr.heap[gb105]? = some (.cells #[.int .i64 a0_2, .int .i64 (a0_3 / 16777216), .int .i64 (Go.bits .and .i64 (a0_3 / 65536) 255), .bool ((Go.bits .and .i64 (a0_3 / 32768) 1) == 1), .int .i64 (Go.bits .and .i64 a0_3 32767), u106005] 49 (0, 0))) := ⟨by rw [← hq_]; exact (by (with_reducible repeat (first | refine blk_drewN ?_ _ | refine blk_drew ?_ | refine blk_alloc ?_ _)); exact BK105.out)⟩; have n4_ : Aside0 (Below w.heap.size w wr) := ⟨by rw [← hq_]; exact (by repeat (first | (with_reducible first | exact HB.out | apply below_alloc | apply pw_below_drewN | apply below_drew1 | refine below_set ?_ GE101.out | refine below_set ?_ GE102.out | refine below_set ?_ GE105.out) | exact HB.out))⟩; clear HO_106005 BK101 BK102 BK105 HB hq_; have HO_106005 := n0_; have BK101 := n1_; have BK102 := n2_; have BK105 := n3_; have HB := n4_; clear n0_ n1_ n2_ n3_ n4_)); have hcz65_0 : wr.cell? ⟨gb101, 0, none⟩ = some (.string a0_0) := (blk_cell BK101.out 0).trans rfl; have hcz65_1 : wr.cell? ⟨gb101, 1, none⟩ = some (.int .i64 a0_1) := (blk_cell BK101.out 1).trans rfl; have hcz65_2 : wr.cell? ⟨gb101, 2, none⟩ = some (.int .i64 a0_2) := (blk_cell BK101.out 2).trans rfl; have hcz65_3 : wr.cell? ⟨gb101, 3, none⟩ = some (.int .i64 a0_3) := (blk_cell BK101.out 3).trans rfl; have hcz65_4 : wr.cell? ⟨gb101, 4, none⟩ = some (.string a0_4) := (blk_cell BK101.out 4).trans rfl; have hfz65_0 := blk_frozen BK101.out 0; have hfz65_1 := blk_frozen BK101.out 1; have hfz65_2 := blk_frozen BK101.out 2; have hfz65_3 := blk_frozen BK101.out 3; have hfz65_4 := blk_frozen BK101.out 4; have hcz66_0 : wr.cell? ⟨gb102, 0, none⟩ = some (.int .i64 x103000_2) := (blk_cell BK102.out 0).trans rfl; have hcz66_1 : wr.cell? ⟨gb102, 1, none⟩ = some (.int .i64 x103001_2) := (blk_cell BK102.out 1).trans rfl; have hcz66_2 : wr.cell? ⟨gb102, 2, none⟩ = some (.int .i64 x103002_2) := (blk_cell BK102.out 2).trans rfl; have hcz66_3 : wr.cell? ⟨gb102, 3, none⟩ = some (.bool x103003_2) := (blk_cell BK102.out 3).trans rfl; have hcz66_4 : wr.cell? ⟨gb102, 4, none⟩ = some (.int .i64 x103004_2) := (blk_cell BK102.out 4).trans rfl; have hcz66_5 : wr.cell? ⟨gb102, 5, none⟩ = some (.slice none 0 0) := (blk_cell BK102.out 5).trans rfl; have hfz66_0 := blk_frozen BK102.out 0; have hfz66_1 := blk_frozen BK102.out 1; have hfz66_2 := blk_frozen BK102.out 2; have hfz66_3 := blk_frozen BK102.out 3; have hfz66_4 := blk_frozen BK102.out 4; have hfz66_5 := blk_frozen BK102.out 5; have hcz67_0 : wr.cell? ⟨gb105, 0, none⟩ = some (.int .i64 a0_2) := (blk_cell BK105.out 0).trans rfl; have hcz67_1 : wr.cell? ⟨gb105, 1, none⟩ = some (.int .i64 (a0_3 / 16777216)) := (blk_cell BK105.out 1).trans rfl; have hcz67_2 : wr.cell? ⟨gb105, 2, none⟩ = some (.int .i64 (Go.bits .and .i64 (a0_3 / 65536) 255)) := (blk_cell BK105.out 2).trans rfl; have hcz67_3 : wr.cell? ⟨gb105, 3, none⟩ = some (.bool ((Go.bits .and .i64 (a0_3 / 32768) 1) == 1)) := (blk_cell BK105.out 3).trans rfl; have hcz67_4 : wr.cell? ⟨gb105, 4, none⟩ = some (.int .i64 (Go.bits .and .i64 a0_3 32767)) := (blk_cell BK105.out 4).trans rfl; have hcz67_5 : wr.cell? ⟨gb105, 5, none⟩ = some (u106005) := (blk_cell BK105.out 5).trans rfl; have hfz67_0 := blk_frozen BK105.out 0; have hfz67_1 := blk_frozen BK105.out 1; have hfz67_2 := blk_frozen BK105.out 2; have hfz67_3 := blk_frozen BK105.out 3; have hfz67_4 := blk_frozen BK105.out 4; have hfz67_5 := blk_frozen BK105.out 5) | ((with_reducible refine gate_dst (N := 74) rfl ?_); (try (refine gate_guard (by rfl) ?_; dsimp only)); (with_reducible refine gate_callee (f := 54) rfl ?_); refine goesL_ (some 74) rfl rfl Try.func54 (by kernel_rfl) rfl #[.string a0_4, .int .i64 t107, .int .i64 2] rfl (by (try simp only [List.map_toArray, List.map_cons, List.map_nil]); first | done | rfl | (simp only [List.length_drop, List.length_take]; rfl)) ?_; (with_reducible refine (wimpleref1_Num.calls k2 a0_4 t107 2 t109 t110 t111 _ A32.out).mono ?_); rintro e w' ⟨rfl, ⟨nd, rfl⟩⟩; refine ⟨_, rfl, ?_⟩; (try (rw [drewN_self wr]; generalize hq_ : World.drewN wr _ = wr; have n0_ : Aside0 (Kd.R k55 55 wr w.heap.size (fun _ => True) u106005 x106005_2) := ⟨by rw [← hq_]; exact (by (with_reducible repeat (first | apply Kd.R_alloc | apply Kd.R_drewN | apply Kd.R_drew)); exact HO_106005.out)⟩; have n1_ : Aside0 (wr.heap[gb101]? = some (.cells #[.string a0_0, .int .i64 a0_1, .int .i64 a0_2, .int .i64 a0_3, .string a0_4] 53 (0, 0))) := ⟨by rw [← hq_]; exact (by (with_reducible repeat (first | refine blk_drewN ?_ _ | refine blk_drew ?_ | refine blk_alloc ?_ _)); exact BK101.out)⟩; have n2_ : Aside0 (wr.heap[gb102]? = some (.cells #[.int .i64 x103000_2, .int .i64 x103001_2, .int .i64 x103002_2, .bool x103003_2, .int .i64 x103004_2, .slice none 0 0] 49 (0, 0))) := ⟨by rw [← hq_]; exact (by (with_reducible repeat (first | refine blk_drewN ?_ _ | refine blk_drew ?_ | refine blk_alloc ?_ _)); exact BK102.out)⟩; have n3_ : Aside0 (wr.heap[gb105]? = some (.cells #[.int .i64 a0_2, .int .i64 (a0_3 / 16777216), .int .i64 (Go.bits .and .i64 (a0_3 / 65536) 255), .bool ((Go.bits .and .i64 (a0_3 / 32768) 1) == 1), .int .i64 (Go.bits .and .i64 a0_3 32767), u106005] 49 (0, 0))) := ⟨by rw [← hq_]; exact (by (with_reducible repeat (first | refine blk_drewN ?_ _ | refine blk_drew ?_ | refine blk_alloc ?_ _)); exact BK105.out)⟩; have n4_ : Aside0 (Below w.heap.size w wr) := ⟨by rw [← hq_]; exact (by repeat (first | (with_reducible first | exact HB.out | apply below_alloc | apply pw_below_drewN | apply below_drew1 | refine below_set ?_ GE101.out | refine below_set ?_ GE102.out | refine below_set ?_ GE105.out) | exact HB.out))⟩; clear HO_106005 BK101 BK102 BK105 HB hq_; have HO_106005 := n0_; have BK101 := n1_; have BK102 := n2_; have BK105 := n3_; have HB := n4_; clear n0_ n1_ n2_ n3_ n4_)); have hcz68_0 : wr.cell? ⟨gb101, 0, none⟩ = some (.string a0_0) := (blk_cell BK101.out 0).trans rfl; have hcz68_1 : wr.cell? ⟨gb101, 1, none⟩ = some (.int .i64 a0_1) := (blk_cell BK101.out 1).trans rfl; have hcz68_2 : wr.cell? ⟨gb101, 2, none⟩ = some (.int .i64 a0_2) := (blk_cell BK101.out 2).trans rfl; have hcz68_3 : wr.cell? ⟨gb101, 3, none⟩ = some (.int .i64 a0_3) := (blk_cell BK101.out 3).trans rfl; have hcz68_4 : wr.cell? ⟨gb101, 4, none⟩ = some (.string a0_4) := (blk_cell BK101.out 4).trans rfl; have hfz68_0 := blk_frozen BK101.out 0; have hfz68_1 := blk_frozen BK101.out 1; have hfz68_2 := blk_frozen BK101.out 2; have hfz68_3 := blk_frozen BK101.out 3; have hfz68_4 := blk_frozen BK101.out 4; have hcz69_0 : wr.cell? ⟨gb102, 0, none⟩ = some (.int .i64 x103000_2) := (blk_cell BK102.out 0).trans rfl; have hcz69_1 : wr.cell? ⟨gb102, 1, none⟩ = some (.int .i64 x103001_2) := (blk_cell BK102.out 1).trans rfl; have hcz69_2 : wr.cell? ⟨gb102, 2, none⟩ = some (.int .i64 x103002_2) := (blk_cell BK102.out 2).trans rfl; have hcz69_3 : wr.cell? ⟨gb102, 3, none⟩ = some (.bool x103003_2) := (blk_cell BK102.out 3).trans rfl; have hcz69_4 : wr.cell? ⟨gb102, 4, none⟩ = some (.int .i64 x103004_2) := (blk_cell BK102.out 4).trans rfl; have hcz69_5 : wr.cell? ⟨gb102, 5, none⟩ = some (.slice none 0 0) := (blk_cell BK102.out 5).trans rfl; have hfz69_0 := blk_frozen BK102.out 0; have hfz69_1 := blk_frozen BK102.out 1; have hfz69_2 := blk_frozen BK102.out 2; have hfz69_3 := blk_frozen BK102.out 3; have hfz69_4 := blk_frozen BK102.out 4; have hfz69_5 := blk_frozen BK102.out 5; have hcz70_0 : wr.cell? ⟨gb105, 0, none⟩ = some (.int .i64 a0_2) := (blk_cell BK105.out 0).trans rfl; have hcz70_1 : wr.cell? ⟨gb105, 1, none⟩ = some (.int .i64 (a0_3 / 16777216)) := (blk_cell BK105.out 1).trans rfl; have hcz70_2 : wr.cell? ⟨gb105, 2, none⟩ = some (.int .i64 (Go.bits .and .i64 (a0_3 / 65536) 255)) := (blk_cell BK105.out 2).trans rfl; have hcz70_3 : wr.cell? ⟨gb105, 3, none⟩ = some (.bool ((Go.bits .and .i64 (a0_3 / 32768) 1) == 1)) := (blk_cell BK105.out 3).trans rfl; have hcz70_4 : wr.cell? ⟨gb105, 4, none⟩ = some (.int .i64 (Go.bits .and .i64 a0_3 32767)) := (blk_cell BK105.out 4).trans rfl; have hcz70_5 : wr.cell? ⟨gb105, 5, none⟩ = some (u106005) := (blk_cell BK105.out 5).trans rfl; have hfz70_0 := blk_frozen BK105.out 0; have hfz70_1 := blk_frozen BK105.out 1; have hfz70_2 := blk_frozen BK105.out 2; have hfz70_3 := blk_frozen BK105.out 3; have hfz70_4 := blk_frozen BK105.out 4; have hfz70_5 := blk_frozen BK105.out 5))
                  refine bodyPost_ret (results_ct rfl _ _ gb102 49 #[.int .i64 0, .int .i64 0, .int .i64 0, .bool false, .int .i64 0, .slice none 0 0] (0, 0) _ rfl (by (with_reducible repeat (first | refine blk_drewN ?_ _ | refine blk_drew ?_ | refine blk_alloc ?_ _)); refine blk_put (cs := #[.int .i64 0, .int .i64 0, .int .i64 0, .bool false, .int .i64 0, .slice none 0 0]) ?_ 5 _ rfl; (with_reducible repeat (first | refine blk_drewN ?_ _ | refine blk_drew ?_ | refine blk_alloc ?_ _)); refine blk_put (cs := #[.int .i64 0, .int .i64 0, .int .i64 0, .bool false, .int .i64 x103004_2, .slice none 0 0]) ?_ 4 _ rfl; (with_reducible repeat (first | refine blk_drewN ?_ _ | refine blk_drew ?_ | refine blk_alloc ?_ _)); refine blk_put (cs := #[.int .i64 0, .int .i64 0, .int .i64 0, .bool x103003_2, .int .i64 x103004_2, .slice none 0 0]) ?_ 3 _ rfl; (with_reducible repeat (first | refine blk_drewN ?_ _ | refine blk_drew ?_ | refine blk_alloc ?_ _)); refine blk_put (cs := #[.int .i64 0, .int .i64 0, .int .i64 x103002_2, .bool x103003_2, .int .i64 x103004_2, .slice none 0 0]) ?_ 2 _ rfl; (with_reducible repeat (first | refine blk_drewN ?_ _ | refine blk_drew ?_ | refine blk_alloc ?_ _)); refine blk_put (cs := #[.int .i64 0, .int .i64 x103001_2, .int .i64 x103002_2, .bool x103003_2, .int .i64 x103004_2, .slice none 0 0]) ?_ 1 _ rfl; (with_reducible repeat (first | refine blk_drewN ?_ _ | refine blk_drew ?_ | refine blk_alloc ?_ _)); refine blk_put (cs := #[.int .i64 x103000_2, .int .i64 x103001_2, .int .i64 x103002_2, .bool x103003_2, .int .i64 x103004_2, .slice none 0 0]) ?_ 0 _ rfl; (with_reducible repeat (first | refine blk_drewN ?_ _ | refine blk_drew ?_ | refine blk_alloc ?_ _)); exact BK102.out) Try.underlying49 rfl (by kernel_rfl)) rfl ?_
                  exact ⟨_, by first | rfl | (simp [errW_none, errW_some] <;> rfl) | (simp [*, errW_none, errW_some] <;> rfl), by first | exact Kd.R_nil _ _ _ _ _ | exact Kd.N_nil _ _ _ _ _ | exact Kd.V_nil _ _ _ _ _ | exact Kd.Q_nil _ _ _ _ _ | exact Kd.S_nil _ _ _ _ _, by repeat (first | (with_reducible first | exact HB.out | apply below_alloc | apply pw_below_drewN | apply below_drew1 | refine below_set ?_ GE101.out | refine below_set ?_ GE102.out | refine below_set ?_ GE105.out) | exact HB.out)⟩
              · rw [if_neg c33] at H
                have c33b0 : (t108 == 0) = false := beq_eq_false_iff_ne.mpr c33
                have c33b1 : (t108 != 0) = true := bne_iff_ne.mpr c33
                simp only [Option.some.injEq, Prod.mk.injEq] at H
                obtain ⟨rfl, rfl, rfl, rfl, rfl, rfl, rfl⟩ := H
                have hnb71 := NB101_102.out
                have hnc71 := NB102_101.out
                have hnb72 := NB101_105.out
                have hnc72 := NB105_101.out
                have hcz73_0 : wr.cell? ⟨gb101, 0, none⟩ = some (.string a0_0) := (blk_cell BK101.out 0).trans rfl
                have hcz73_1 : wr.cell? ⟨gb101, 1, none⟩ = some (.int .i64 a0_1) := (blk_cell BK101.out 1).trans rfl
                have hcz73_2 : wr.cell? ⟨gb101, 2, none⟩ = some (.int .i64 a0_2) := (blk_cell BK101.out 2).trans rfl
                have hcz73_3 : wr.cell? ⟨gb101, 3, none⟩ = some (.int .i64 a0_3) := (blk_cell BK101.out 3).trans rfl
                have hcz73_4 : wr.cell? ⟨gb101, 4, none⟩ = some (.string a0_4) := (blk_cell BK101.out 4).trans rfl
                have hfz73_0 := blk_frozen BK101.out 0
                have hfz73_1 := blk_frozen BK101.out 1
                have hfz73_2 := blk_frozen BK101.out 2
                have hfz73_3 := blk_frozen BK101.out 3
                have hfz73_4 := blk_frozen BK101.out 4
                go_wp2_with (first | ((with_reducible refine gate_dst (N := 66) rfl ?_); (try (refine gate_guard (by rfl) ?_; dsimp only)); (with_reducible refine gate_callee (f := 54) rfl ?_); refine goesL_ (some 66) rfl rfl Try.func54 (by kernel_rfl) rfl #[.string a0_4, .int .i64 x5_2, .int .i64 2] rfl (by (try simp only [List.map_toArray, List.map_cons, List.map_nil]); first | done | rfl | (simp only [List.length_drop, List.length_take]; rfl)) ?_; (with_reducible refine (wimpleref1_Num.calls k2 a0_4 x5_2 2 t106 t107 t108 _ A31.out).mono ?_); rintro e w' ⟨rfl, ⟨nd, rfl⟩⟩; refine ⟨_, rfl, ?_⟩; (try (rw [drewN_self wr]; generalize hq_ : World.drewN wr _ = wr; have n0_ : Aside0 (Kd.R k55 55 wr w.heap.size (fun _ => True) u106005 x106005_2) := ⟨by rw [← hq_]; exact (by (with_reducible repeat (first | apply Kd.R_alloc | apply Kd.R_drewN | apply Kd.R_drew)); exact HO_106005.out)⟩; have n1_ : Aside0 (wr.heap[gb101]? = some (.cells #[.string a0_0, .int .i64 a0_1, .int .i64 a0_2, .int .i64 a0_3, .string a0_4] 53 (0, 0))) := ⟨by rw [← hq_]; exact (by (with_reducible repeat (first | refine blk_drewN ?_ _ | refine blk_drew ?_ | refine blk_alloc ?_ _)); exact BK101.out)⟩; have n2_ : Aside0 (wr.heap[gb102]? = some (.cells #[.int .i64 x103000_2, .int .i64 x103001_2, .int .i64 x103002_2, .bool x103003_2, .int .i64 x103004_2, .slice none 0 0] 49 (0, 0))) := ⟨by rw [← hq_]; exact (by (with_reducible repeat (first | refine blk_drewN ?_ _ | refine blk_drew ?_ | refine blk_alloc ?_ _)); exact BK102.out)⟩; have n3_ : Aside0 (wr.heap[gb105]? = some (.cells #[.int .i64 a0_2, .int .i64 (a0_3 / 16777216), .int .i64 (Go.bits .and .i64 (a0_3 / 65536) 255), .bool ((Go.bits .and .i64 (a0_3 / 32768) 1) == 1), .int .i64 (Go.bits .and .i64 a0_3 32767), u106005] 49 (0, 0))) := ⟨by rw [← hq_]; exact (by (with_reducible repeat (first | refine blk_drewN ?_ _ | refine blk_drew ?_ | refine blk_alloc ?_ _)); exact BK105.out)⟩; have n4_ : Aside0 (Below w.heap.size w wr) := ⟨by rw [← hq_]; exact (by repeat (first | (with_reducible first | exact HB.out | apply below_alloc | apply pw_below_drewN | apply below_drew1 | refine below_set ?_ GE101.out | refine below_set ?_ GE102.out | refine below_set ?_ GE105.out) | exact HB.out))⟩; clear HO_106005 BK101 BK102 BK105 HB hq_; have HO_106005 := n0_; have BK101 := n1_; have BK102 := n2_; have BK105 := n3_; have HB := n4_; clear n0_ n1_ n2_ n3_ n4_)); have hcz74_0 : wr.cell? ⟨gb101, 0, none⟩ = some (.string a0_0) := (blk_cell BK101.out 0).trans rfl; have hcz74_1 : wr.cell? ⟨gb101, 1, none⟩ = some (.int .i64 a0_1) := (blk_cell BK101.out 1).trans rfl; have hcz74_2 : wr.cell? ⟨gb101, 2, none⟩ = some (.int .i64 a0_2) := (blk_cell BK101.out 2).trans rfl; have hcz74_3 : wr.cell? ⟨gb101, 3, none⟩ = some (.int .i64 a0_3) := (blk_cell BK101.out 3).trans rfl; have hcz74_4 : wr.cell? ⟨gb101, 4, none⟩ = some (.string a0_4) := (blk_cell BK101.out 4).trans rfl; have hfz74_0 := blk_frozen BK101.out 0; have hfz74_1 := blk_frozen BK101.out 1; have hfz74_2 := blk_frozen BK101.out 2; have hfz74_3 := blk_frozen BK101.out 3; have hfz74_4 := blk_frozen BK101.out 4; have hcz75_0 : wr.cell? ⟨gb102, 0, none⟩ = some (.int .i64 x103000_2) := (blk_cell BK102.out 0).trans rfl; have hcz75_1 : wr.cell? ⟨gb102, 1, none⟩ = some (.int .i64 x103001_2) := (blk_cell BK102.out 1).trans rfl; have hcz75_2 : wr.cell? ⟨gb102, 2, none⟩ = some (.int .i64 x103002_2) := (blk_cell BK102.out 2).trans rfl; have hcz75_3 : wr.cell? ⟨gb102, 3, none⟩ = some (.bool x103003_2) := (blk_cell BK102.out 3).trans rfl; have hcz75_4 : wr.cell? ⟨gb102, 4, none⟩ = some (.int .i64 x103004_2) := (blk_cell BK102.out 4).trans rfl; have hcz75_5 : wr.cell? ⟨gb102, 5, none⟩ = some (.slice none 0 0) := (blk_cell BK102.out 5).trans rfl; have hfz75_0 := blk_frozen BK102.out 0; have hfz75_1 := blk_frozen BK102.out 1; have hfz75_2 := blk_frozen BK102.out 2; have hfz75_3 := blk_frozen BK102.out 3; have hfz75_4 := blk_frozen BK102.out 4; have hfz75_5 := blk_frozen BK102.out 5; have hcz76_0 : wr.cell? ⟨gb105, 0, none⟩ = some (.int .i64 a0_2) := (blk_cell BK105.out 0).trans rfl; have hcz76_1 : wr.cell? ⟨gb105, 1, none⟩ = some (.int .i64 (a0_3 / 16777216)) := (blk_cell BK105.out 1).trans rfl; have hcz76_2 : wr.cell? ⟨gb105, 2, none⟩ = some (.int .i64 (Go.bits .and .i64 (a0_3 / 65536) 255)) := (blk_cell BK105.out 2).trans rfl; have hcz76_3 : wr.cell? ⟨gb105, 3, none⟩ = some (.bool ((Go.bits .and .i64 (a0_3 / 32768) 1) == 1)) := (blk_cell BK105.out 3).trans rfl; have hcz76_4 : wr.cell? ⟨gb105, 4, none⟩ = some (.int .i64 (Go.bits .and .i64 a0_3 32767)) := (blk_cell BK105.out 4).trans rfl; have hcz76_5 : wr.cell? ⟨gb105, 5, none⟩ = some (u106005) := (blk_cell BK105.out 5).trans rfl; have hfz76_0 := blk_frozen BK105.out 0; have hfz76_1 := blk_frozen BK105.out 1; have hfz76_2 := blk_frozen BK105.out 2; have hfz76_3 := blk_frozen BK105.out 3; have hfz76_4 := blk_frozen BK105.out 4; have hfz76_5 := blk_frozen BK105.out 5) | ((with_reducible refine gate_dst (N := 74) rfl ?_); (try (refine gate_guard (by rfl) ?_; dsimp only)); (with_reducible refine gate_callee (f := 54) rfl ?_); refine goesL_ (some 74) rfl rfl Try.func54 (by kernel_rfl) rfl #[.string a0_4, .int .i64 t107, .int .i64 2] rfl (by (try simp only [List.map_toArray, List.map_cons, List.map_nil]); first | done | rfl | (simp only [List.length_drop, List.length_take]; rfl)) ?_; (with_reducible refine (wimpleref1_Num.calls k2 a0_4 t107 2 t109 t110 t111 _ A32.out).mono ?_); rintro e w' ⟨rfl, ⟨nd, rfl⟩⟩; refine ⟨_, rfl, ?_⟩; (try (rw [drewN_self wr]; generalize hq_ : World.drewN wr _ = wr; have n0_ : Aside0 (Kd.R k55 55 wr w.heap.size (fun _ => True) u106005 x106005_2) := ⟨by rw [← hq_]; exact (by (with_reducible repeat (first | apply Kd.R_alloc | apply Kd.R_drewN | apply Kd.R_drew)); exact HO_106005.out)⟩; have n1_ : Aside0 (wr.heap[gb101]? = some (.cells #[.string a0_0, .int .i64 a0_1, .int .i64 a0_2, .int .i64 a0_3, .string a0_4] 53 (0, 0))) := ⟨by rw [← hq_]; exact (by (with_reducible repeat (first | refine blk_drewN ?_ _ | refine blk_drew ?_ | refine blk_alloc ?_ _)); exact BK101.out)⟩; have n2_ : Aside0 (wr.heap[gb102]? = some (.cells #[.int .i64 x103000_2, .int .i64 x103001_2, .int .i64 x103002_2, .bool x103003_2, .int .i64 x103004_2, .slice none 0 0] 49 (0, 0))) := ⟨by rw [← hq_]; exact (by (with_reducible repeat (first | refine blk_drewN ?_ _ | refine blk_drew ?_ | refine blk_alloc ?_ _)); exact BK102.out)⟩; have n3_ : Aside0 (wr.heap[gb105]? = some (.cells #[.int .i64 a0_2, .int .i64 (a0_3 / 16777216), .int .i64 (Go.bits .and .i64 (a0_3 / 65536) 255), .bool ((Go.bits .and .i64 (a0_3 / 32768) 1) == 1), .int .i64 (Go.bits .and .i64 a0_3 32767), u106005] 49 (0, 0))) := ⟨by rw [← hq_]; exact (by (with_reducible repeat (first | refine blk_drewN ?_ _ | refine blk_drew ?_ | refine blk_alloc ?_ _)); exact BK105.out)⟩; have n4_ : Aside0 (Below w.heap.size w wr) := ⟨by rw [← hq_]; exact (by repeat (first | (with_reducible first | exact HB.out | apply below_alloc | apply pw_below_drewN | apply below_drew1 | refine below_set ?_ GE101.out | refine below_set ?_ GE102.out | refine below_set ?_ GE105.out) | exact HB.out))⟩; clear HO_106005 BK101 BK102 BK105 HB hq_; have HO_106005 := n0_; have BK101 := n1_; have BK102 := n2_; have BK105 := n3_; have HB := n4_; clear n0_ n1_ n2_ n3_ n4_)); have hcz77_0 : wr.cell? ⟨gb101, 0, none⟩ = some (.string a0_0) := (blk_cell BK101.out 0).trans rfl; have hcz77_1 : wr.cell? ⟨gb101, 1, none⟩ = some (.int .i64 a0_1) := (blk_cell BK101.out 1).trans rfl; have hcz77_2 : wr.cell? ⟨gb101, 2, none⟩ = some (.int .i64 a0_2) := (blk_cell BK101.out 2).trans rfl; have hcz77_3 : wr.cell? ⟨gb101, 3, none⟩ = some (.int .i64 a0_3) := (blk_cell BK101.out 3).trans rfl; have hcz77_4 : wr.cell? ⟨gb101, 4, none⟩ = some (.string a0_4) := (blk_cell BK101.out 4).trans rfl; have hfz77_0 := blk_frozen BK101.out 0; have hfz77_1 := blk_frozen BK101.out 1; have hfz77_2 := blk_frozen BK101.out 2; have hfz77_3 := blk_frozen BK101.out 3; have hfz77_4 := blk_frozen BK101.out 4; have hcz78_0 : wr.cell? ⟨gb102, 0, none⟩ = some (.int .i64 x103000_2) := (blk_cell BK102.out 0).trans rfl; have hcz78_1 : wr.cell? ⟨gb102, 1, none⟩ = some (.int .i64 x103001_2) := (blk_cell BK102.out 1).trans rfl; have hcz78_2 : wr.cell? ⟨gb102, 2, none⟩ = some (.int .i64 x103002_2) := (blk_cell BK102.out 2).trans rfl; have hcz78_3 : wr.cell? ⟨gb102, 3, none⟩ = some (.bool x103003_2) := (blk_cell BK102.out 3).trans rfl; have hcz78_4 : wr.cell? ⟨gb102, 4, none⟩ = some (.int .i64 x103004_2) := (blk_cell BK102.out 4).trans rfl; have hcz78_5 : wr.cell? ⟨gb102, 5, none⟩ = some (.slice none 0 0) := (blk_cell BK102.out 5).trans rfl; have hfz78_0 := blk_frozen BK102.out 0; have hfz78_1 := blk_frozen BK102.out 1; have hfz78_2 := blk_frozen BK102.out 2; have hfz78_3 := blk_frozen BK102.out 3; have hfz78_4 := blk_frozen BK102.out 4; have hfz78_5 := blk_frozen BK102.out 5; have hcz79_0 : wr.cell? ⟨gb105, 0, none⟩ = some (.int .i64 a0_2) := (blk_cell BK105.out 0).trans rfl; have hcz79_1 : wr.cell? ⟨gb105, 1, none⟩ = some (.int .i64 (a0_3 / 16777216)) := (blk_cell BK105.out 1).trans rfl; have hcz79_2 : wr.cell? ⟨gb105, 2, none⟩ = some (.int .i64 (Go.bits .and .i64 (a0_3 / 65536) 255)) := (blk_cell BK105.out 2).trans rfl; have hcz79_3 : wr.cell? ⟨gb105, 3, none⟩ = some (.bool ((Go.bits .and .i64 (a0_3 / 32768) 1) == 1)) := (blk_cell BK105.out 3).trans rfl; have hcz79_4 : wr.cell? ⟨gb105, 4, none⟩ = some (.int .i64 (Go.bits .and .i64 a0_3 32767)) := (blk_cell BK105.out 4).trans rfl; have hcz79_5 : wr.cell? ⟨gb105, 5, none⟩ = some (u106005) := (blk_cell BK105.out 5).trans rfl; have hfz79_0 := blk_frozen BK105.out 0; have hfz79_1 := blk_frozen BK105.out 1; have hfz79_2 := blk_frozen BK105.out 2; have hfz79_3 := blk_frozen BK105.out 3; have hfz79_4 := blk_frozen BK105.out 4; have hfz79_5 := blk_frozen BK105.out 5))
                refine bodyPost_ret (results_ct rfl _ _ gb102 49 #[.int .i64 0, .int .i64 0, .int .i64 0, .bool false, .int .i64 0, .slice none 0 0] (0, 0) _ rfl (by (with_reducible repeat (first | refine blk_drewN ?_ _ | refine blk_drew ?_ | refine blk_alloc ?_ _)); refine blk_put (cs := #[.int .i64 0, .int .i64 0, .int .i64 0, .bool false, .int .i64 0, .slice none 0 0]) ?_ 5 _ rfl; (with_reducible repeat (first | refine blk_drewN ?_ _ | refine blk_drew ?_ | refine blk_alloc ?_ _)); refine blk_put (cs := #[.int .i64 0, .int .i64 0, .int .i64 0, .bool false, .int .i64 x103004_2, .slice none 0 0]) ?_ 4 _ rfl; (with_reducible repeat (first | refine blk_drewN ?_ _ | refine blk_drew ?_ | refine blk_alloc ?_ _)); refine blk_put (cs := #[.int .i64 0, .int .i64 0, .int .i64 0, .bool x103003_2, .int .i64 x103004_2, .slice none 0 0]) ?_ 3 _ rfl; (with_reducible repeat (first | refine blk_drewN ?_ _ | refine blk_drew ?_ | refine blk_alloc ?_ _)); refine blk_put (cs := #[.int .i64 0, .int .i64 0, .int .i64 x103002_2, .bool x103003_2, .int .i64 x103004_2, .slice none 0 0]) ?_ 2 _ rfl; (with_reducible repeat (first | refine blk_drewN ?_ _ | refine blk_drew ?_ | refine blk_alloc ?_ _)); refine blk_put (cs := #[.int .i64 0, .int .i64 x103001_2, .int .i64 x103002_2, .bool x103003_2, .int .i64 x103004_2, .slice none 0 0]) ?_ 1 _ rfl; (with_reducible repeat (first | refine blk_drewN ?_ _ | refine blk_drew ?_ | refine blk_alloc ?_ _)); refine blk_put (cs := #[.int .i64 x103000_2, .int .i64 x103001_2, .int .i64 x103002_2, .bool x103003_2, .int .i64 x103004_2, .slice none 0 0]) ?_ 0 _ rfl; (with_reducible repeat (first | refine blk_drewN ?_ _ | refine blk_drew ?_ | refine blk_alloc ?_ _)); exact BK102.out) Try.underlying49 rfl (by kernel_rfl)) rfl ?_
                exact ⟨_, by first | rfl | (simp [errW_none, errW_some] <;> rfl) | (simp [*, errW_none, errW_some] <;> rfl), by first | exact Kd.R_nil _ _ _ _ _ | exact Kd.N_nil _ _ _ _ _ | exact Kd.V_nil _ _ _ _ _ | exact Kd.Q_nil _ _ _ _ _ | exact Kd.S_nil _ _ _ _ _, by repeat (first | (with_reducible first | exact HB.out | apply below_alloc | apply pw_below_drewN | apply below_drew1 | refine below_set ?_ GE101.out | refine below_set ?_ GE102.out | refine below_set ?_ GE105.out) | exact HB.out)⟩
            · rw [if_neg c30] at H
              have c30b0 : decide (x5_2 < (a0_4.size : Int)) = false := decide_eq_false c30
              clear c30
              simp only [Option.some.injEq, Prod.mk.injEq] at H
              obtain ⟨rfl, rfl, rfl, rfl, rfl, rfl, rfl⟩ := H
              have hnb80 := NB101_102.out
              have hnc80 := NB102_101.out
              have hnb81 := NB101_105.out
              have hnc81 := NB105_101.out
              have hcz82_0 : wr.cell? ⟨gb101, 0, none⟩ = some (.string a0_0) := (blk_cell BK101.out 0).trans rfl
              have hcz82_1 : wr.cell? ⟨gb101, 1, none⟩ = some (.int .i64 a0_1) := (blk_cell BK101.out 1).trans rfl
              have hcz82_2 : wr.cell? ⟨gb101, 2, none⟩ = some (.int .i64 a0_2) := (blk_cell BK101.out 2).trans rfl
              have hcz82_3 : wr.cell? ⟨gb101, 3, none⟩ = some (.int .i64 a0_3) := (blk_cell BK101.out 3).trans rfl
              have hcz82_4 : wr.cell? ⟨gb101, 4, none⟩ = some (.string a0_4) := (blk_cell BK101.out 4).trans rfl
              have hfz82_0 := blk_frozen BK101.out 0
              have hfz82_1 := blk_frozen BK101.out 1
              have hfz82_2 := blk_frozen BK101.out 2
              have hfz82_3 := blk_frozen BK101.out 3
              have hfz82_4 := blk_frozen BK101.out 4
              have hnb83 := NB105_102.out
              have hnc83 := NB102_105.out
              have hcz84_0 : wr.cell? ⟨gb105, 0, none⟩ = some (.int .i64 a0_2) := (blk_cell BK105.out 0).trans rfl
              have hcz84_1 : wr.cell? ⟨gb105, 1, none⟩ = some (.int .i64 (a0_3 / 16777216)) := (blk_cell BK105.out 1).trans rfl
              have hcz84_2 : wr.cell? ⟨gb105, 2, none⟩ = some (.int .i64 (Go.bits .and .i64 (a0_3 / 65536) 255)) := (blk_cell BK105.out 2).trans rfl
              have hcz84_3 : wr.cell? ⟨gb105, 3, none⟩ = some (.bool ((Go.bits .and .i64 (a0_3 / 32768) 1) == 1)) := (blk_cell BK105.out 3).trans rfl
              have hcz84_4 : wr.cell? ⟨gb105, 4, none⟩ = some (.int .i64 (Go.bits .and .i64 a0_3 32767)) := (blk_cell BK105.out 4).trans rfl
              have hcz84_5 : wr.cell? ⟨gb105, 5, none⟩ = some (u106005) := (blk_cell BK105.out 5).trans rfl
              have hfz84_0 := blk_frozen BK105.out 0
              have hfz84_1 := blk_frozen BK105.out 1
              have hfz84_2 := blk_frozen BK105.out 2
              have hfz84_3 := blk_frozen BK105.out 3
              have hfz84_4 := blk_frozen BK105.out 4
              have hfz84_5 := blk_frozen BK105.out 5
              have hcz85_0 : wr.cell? ⟨gb102, 0, none⟩ = some (.int .i64 x103000_2) := (blk_cell BK102.out 0).trans rfl
              have hcz85_1 : wr.cell? ⟨gb102, 1, none⟩ = some (.int .i64 x103001_2) := (blk_cell BK102.out 1).trans rfl
              have hcz85_2 : wr.cell? ⟨gb102, 2, none⟩ = some (.int .i64 x103002_2) := (blk_cell BK102.out 2).trans rfl
              have hcz85_3 : wr.cell? ⟨gb102, 3, none⟩ = some (.bool x103003_2) := (blk_cell BK102.out 3).trans rfl
              have hcz85_4 : wr.cell? ⟨gb102, 4, none⟩ = some (.int .i64 x103004_2) := (blk_cell BK102.out 4).trans rfl
              have hcz85_5 : wr.cell? ⟨gb102, 5, none⟩ = some (.slice none 0 0) := (blk_cell BK102.out 5).trans rfl
              have hfz85_0 := blk_frozen BK102.out 0
              have hfz85_1 := blk_frozen BK102.out 1
              have hfz85_2 := blk_frozen BK102.out 2
              have hfz85_3 := blk_frozen BK102.out 3
              have hfz85_4 := blk_frozen BK102.out 4
              have hfz85_5 := blk_frozen BK102.out 5
              obtain ⟨Ao86, co86, eo86⟩ := Kd.R_slice HO_106005.out
              subst eo86
              go_wp2
              refine bodyPost_ret (results_ct rfl _ _ gb102 49 #[.int .i64 a0_2, .int .i64 (a0_3 / 16777216), .int .i64 (Go.bits .and .i64 (a0_3 / 65536) 255), .bool ((Go.bits .and .i64 (a0_3 / 32768) 1) == 1), .int .i64 (Go.bits .and .i64 a0_3 32767), .slice Ao86 x106005_2.length co86] (0, 0) _ rfl (by (with_reducible repeat (first | refine blk_drewN ?_ _ | refine blk_drew ?_ | refine blk_alloc ?_ _)); refine blk_put (cs := #[.int .i64 a0_2, .int .i64 (a0_3 / 16777216), .int .i64 (Go.bits .and .i64 (a0_3 / 65536) 255), .bool ((Go.bits .and .i64 (a0_3 / 32768) 1) == 1), .int .i64 (Go.bits .and .i64 a0_3 32767), .slice none 0 0]) ?_ 5 _ rfl; (with_reducible repeat (first | refine blk_drewN ?_ _ | refine blk_drew ?_ | refine blk_alloc ?_ _)); refine blk_put (cs := #[.int .i64 a0_2, .int .i64 (a0_3 / 16777216), .int .i64 (Go.bits .and .i64 (a0_3 / 65536) 255), .bool ((Go.bits .and .i64 (a0_3 / 32768) 1) == 1), .int .i64 x103004_2, .slice none 0 0]) ?_ 4 _ rfl; (with_reducible repeat (first | refine blk_drewN ?_ _ | refine blk_drew ?_ | refine blk_alloc ?_ _)); refine blk_put (cs := #[.int .i64 a0_2, .int .i64 (a0_3 / 16777216), .int .i64 (Go.bits .and .i64 (a0_3 / 65536) 255), .bool x103003_2, .int .i64 x103004_2, .slice none 0 0]) ?_ 3 _ rfl; (with_reducible repeat (first | refine blk_drewN ?_ _ | refine blk_drew ?_ | refine blk_alloc ?_ _)); refine blk_put (cs := #[.int .i64 a0_2, .int .i64 (a0_3 / 16777216), .int .i64 x103002_2, .bool x103003_2, .int .i64 x103004_2, .slice none 0 0]) ?_ 2 _ rfl; (with_reducible repeat (first | refine blk_drewN ?_ _ | refine blk_drew ?_ | refine blk_alloc ?_ _)); refine blk_put (cs := #[.int .i64 a0_2, .int .i64 x103001_2, .int .i64 x103002_2, .bool x103003_2, .int .i64 x103004_2, .slice none 0 0]) ?_ 1 _ rfl; (with_reducible repeat (first | refine blk_drewN ?_ _ | refine blk_drew ?_ | refine blk_alloc ?_ _)); refine blk_put (cs := #[.int .i64 x103000_2, .int .i64 x103001_2, .int .i64 x103002_2, .bool x103003_2, .int .i64 x103004_2, .slice none 0 0]) ?_ 0 _ rfl; (with_reducible repeat (first | refine blk_drewN ?_ _ | refine blk_drew ?_ | refine blk_alloc ?_ _)); exact BK102.out) Try.underlying49 rfl (by kernel_rfl)) rfl ?_
              exact ⟨_, by first | rfl | (simp [errW_none, errW_some] <;> rfl) | (simp [*, errW_none, errW_some] <;> rfl), by (with_reducible repeat (first | apply Kd.R_alloc | apply Kd.R_drewN | apply Kd.R_drew)); exact Kd.R_mono (Kd.R_far (p := ⟨gb102, 5, none⟩) (Kd.R_far (p := ⟨gb102, 4, none⟩) (Kd.R_far (p := ⟨gb102, 3, none⟩) (Kd.R_far (p := ⟨gb102, 2, none⟩) (Kd.R_far (p := ⟨gb102, 1, none⟩) (Kd.R_far (p := ⟨gb102, 0, none⟩) (Kd.R_types HO_106005.out BK102.out (by decide)) (fun _ hk => hk.2) (.int .i64 a0_2)) (fun _ hk => hk.2) (.int .i64 (a0_3 / 16777216))) (fun _ hk => hk.2) (.int .i64 (Go.bits .and .i64 (a0_3 / 65536) 255))) (fun _ hk => hk.2) (.bool ((Go.bits .and .i64 (a0_3 / 32768) 1) == 1))) (fun _ hk => hk.2) (.int .i64 (Go.bits .and .i64 a0_3 32767))) (fun _ hk => hk.2) (.slice Ao86 x106005_2.length co86)) (fun _ hk => trivial), by repeat (first | (with_reducible first | exact HB.out | apply below_alloc | apply pw_below_drewN | apply below_drew1 | refine below_set ?_ GE101.out | refine below_set ?_ GE102.out | refine below_set ?_ GE105.out) | exact HB.out)⟩

end Go.Proofs.Ytjklgdpffmaamaa.PGo

namespace Go.Proofs.Ytjklgdpffmaamaa.OptOne
open Go.RowKit Go.PlainAid Go.Proofs.Ytjklgdpffmaamaa.Base Go.Proofs.Ytjklgdpffmaamaa.Oct Go.Proofs.Ytjklgdpffmaamaa.Nm Go.Proofs.Ytjklgdpffmaamaa.Pu Go.Proofs.Ytjklgdpffmaamaa.Pad Go.Proofs.Ytjklgdpffmaamaa.Hd Go.Proofs.Ytjklgdpffmaamaa.Wr
open Go.Proofs.Ytjklgdpffmaamaa.PGo (wimpleref1_Num.f wimpleref1_Num.l0 wimpleref1_Num.j0 wimpleref4_GetOpt.f wimpleref4_GetOpt.l0 wimpleref4_GetOpt.j0 wimpleref4_short.f wimpleref4_wide.f)
open Go.Proofs.YtjklgdpffmaamaaW.PrintWords (Ev bytesOf bytesOf_length LeO)
set_option linter.unusedVariables false
/-! ### Numbers -/
theorem rn_step {s : ByteArray} {i j : Nat} {n x : Int} {r : Int × Int × Int} (hs : s.size ≤ 1000000) (h : i + j < s.size) (hj : (j : Int) < n) (h0 : 0 ≤ x) (h1 : x ≤ 16777215)
    (k : Ev (fun k => wimpleref1_Num.l0 k s (i : Int) n (x * 256 + bt s (i + j)) ((j + 1 : Nat) : Int)) r) : Ev (fun k => wimpleref1_Num.l0 k s (i : Int) n x (j : Int)) r := by
  have r0 := bt_nonneg s (i + j)
  have r1 := bt_le s (i + j)
  refine Ev.step (fun k => by rw [wimpleref1_Num.l0]) (Ev.pos hj ?_)
  rw [Pu.w64 (x := (i : Int) + (j : Int)) (by omega) (by omega), show (i : Int) + (j : Int) = ((i + j : Nat) : Int) by omega, bt_is, Pu.w64 (x := x * 256) (by omega) (by omega), Pu.w64 (x := bt s (i + j)) (by omega) (by omega),
    Pu.or_shl8 _ _ h0 (by omega) r0 (by omega), Pu.w64 (x := (j : Int) + 1) (by omega) (by omega), show (j : Int) + 1 = ((j + 1 : Nat) : Int) by omega]
  exact Ev.pos (by omega) (Ev.pos (by omega) k)
theorem rn_end {s : ByteArray} {i : Nat} {j n x : Int} (h : n ≤ j) (hi : i ≤ 1000000) (hn : 0 ≤ n) (hn2 : n ≤ 4) : Ev (fun k => wimpleref1_Num.l0 k s (i : Int) n x j) (x, (i : Int) + n, 0) := by
  refine Ev.step (fun k => by rw [wimpleref1_Num.l0]) (Ev.neg (by omega) ?_)
  rw [Pu.w64 (x := (i : Int) + n) (by omega) (by omega)]
  exact Ev.some _ fun _ => rfl
theorem rn_in {s : ByteArray} {i : Nat} {n : Int} {r : Int × Int × Int} (hs : s.size ≤ 1000000) (hn : 0 ≤ n) (h : (i : Int) + n ≤ (s.size : Int)) (k : Ev (fun k => wimpleref1_Num.l0 k s (i : Int) n 0 0) r) : Ev (fun k => wimpleref1_Num.f k s (i : Int) n) r := by
  refine Ev.neg (by omega) (Ev.neg (by omega) ?_)
  rw [Pu.w64 (x := (s.size : Int) - (i : Int)) (by omega) (by omega), decide_eq_false (by omega)]
  exact Ev.step (fun k => by rw [wimpleref1_Num.j0]) (Ev.neg (by simp) k)
theorem rnum2 {s : ByteArray} {i : Nat} (hs : s.size ≤ 1000000) (h : i + 2 ≤ s.size) : Ev (fun k => wimpleref1_Num.f k s (i : Int) 2) (be2 s i, ((i + 2 : Nat) : Int), 0) := by
  have r0 := bt_nonneg s i
  have r1 := bt_le s i
  refine rn_in hs (by decide) (by omega) (rn_step (j := 0) hs (by omega) (by decide) (by decide) (by decide) ?_)
  refine rn_step (j := 1) hs (by omega) (by decide) (by rw [Nat.add_zero]; omega) (by rw [Nat.add_zero]; omega) ?_
  have := rn_end (s := s) (i := i) (j := ((1 + 1 : Nat) : Int)) (n := 2) (x := (0 * 256 + bt s (i + 0)) * 256 + bt s (i + 1)) (by decide) (by omega) (by decide) (by decide)
  rw [Nat.add_zero, Int.zero_mul, Int.zero_add] at this ⊢
  exact this
theorem optD_0 (k : Nat) : be2 (optD k) 0 = 12 := by
  unfold optD
  have := be2_at ⟨#[]⟩ (p16 (k : Int) ++ zeros k) 12 0 (by decide) (by decide) (by decide)
  rwa [show (⟨#[]⟩ : ByteArray) ++ p16 12 = p16 12 by decide +kernel, ← ByteArray.append_assoc] at this
theorem optD_2 (k : Nat) (h : k ≤ 65535) : be2 (optD k) 2 = (k : Int) := by
  unfold optD
  exact be2_at (p16 12) (zeros k) (k : Int) 2 (p16_size _) (by omega) (by omega)
theorem optD_4 (k : Nat) : (optD k).extract 4 (4 + k) = zeros k := by
  unfold optD
  have e : (p16 12 ++ p16 (k : Int)).size = 4 := by simp only [ByteArray.size_append, p16_size]
  have z := zeros_size k
  generalize p16 12 ++ p16 (k : Int) = a at *
  apply Pu.ext_data
  have ha : a.data.size = 4 := e
  have hz : (zeros k).data.size = k := z
  rw [ByteArray.data_extract, ByteArray.data_append, Array.extract_append, ha]
  have e1 : a.data.extract 4 (4 + k) = #[] := by apply Array.ext_getElem?; intro i; rw [Array.getElem?_extract]; simp; omega
  have e2 : (zeros k).data.extract (4 - 4) (4 + k - 4) = (zeros k).data := by
    rw [show 4 - 4 = 0 from rfl, show 4 + k - 4 = (zeros k).data.size by omega]
    simp
  rw [e1, e2, Array.empty_append]
theorem one (k : Nat) (h : k ≤ 1000) : Ev (fun j => wimpleref4_GetOpt.f j ⟨#[0]⟩ 41 1232 0 (optD k)) (1232, 0, 0, false, 0, [⟨12, zeros k⟩], 0) := by
  have hs := optD_size k
  have n0 := rnum2 (s := optD k) (i := 0) (by omega) (by omega)
  have n2 := rnum2 (s := optD k) (i := 2) (by omega) (by omega)
  rw [optD_0] at n0
  rw [optD_2 k (by omega)] at n2
  have e4 := optD_4 k
  generalize optD k = d at *
  refine Ev.pos (by decide +kernel) (Ev.pos rfl ?_)
  refine Ev.call (g := wimpleref4_short.f 1232) (a := true) (by decide) ?_
  refine Ev.pos rfl ?_
  refine Ev.call (g := wimpleref4_wide.f 0) (a := true) (by decide) ?_
  refine Ev.pos rfl ?_
  rw [decide_eq_false (by omega)]
  refine Ev.step (fun k => by rw [wimpleref4_GetOpt.j0]) (Ev.neg (by decide) ?_)
  rw [show Go.bits .and .i64 ((0 : Int) / 65536) 255 = 0 by decide +kernel, show (Go.bits .and .i64 ((0 : Int) / 32768) 1 == 1) = false by decide +kernel, show Go.bits .and .i64 0 32767 = 0 by decide +kernel]
  refine Ev.step (fun k => by rw [wimpleref4_GetOpt.l0]) (Ev.pos (by omega) ?_)
  refine Ev.bind n0 ?_
  dsimp only
  refine Ev.bind n2 ?_
  dsimp only
  refine Ev.pos rfl (Ev.pos rfl (Ev.neg (by rw [Pu.w64 (by omega) (by omega)]; omega) ?_))
  rw [Pu.w64 (x := ((2 + 2 : Nat) : Int) + (k : Int)) (by omega) (by omega)]
  refine Ev.pos (by omega) (Ev.pos (by omega) (Ev.pos (by omega) (Ev.pos (by decide) ?_)))
  refine Ev.step (fun k => by rw [wimpleref4_GetOpt.l0]) (Ev.neg (by omega) ?_)
  rw [show (((2 + 2 : Nat) : Int)).toNat = 4 from rfl, show (((2 + 2 : Nat) : Int) + (k : Int)).toNat = 4 + k by omega, e4]
  exact Ev.some _ fun _ => rfl
end Go.Proofs.Ytjklgdpffmaamaa.OptOne

namespace Go.Proofs.Ytjklgdpffmaamaa.PadQueries
open Go.RowKit Go.PlainAid Go.Proofs.Ytjklgdpffmaamaa.Base Go.Proofs.Ytjklgdpffmaamaa.Oct Go.Proofs.Ytjklgdpffmaamaa.Nm Go.Proofs.Ytjklgdpffmaamaa.Wm Go.Proofs.Ytjklgdpffmaamaa.Pad
open Go.Proofs.Ytjklgdpffmaamaa.Fo (foldN)
open Go.Proofs.YtjklgdpffmaamaaW.PrintWords (Ev Kd blk_cell blk_below blk_new blk_alloc blk_lt)
set_option linter.unusedVariables false
set_option linter.unusedSimpArgs false
theorem get_own {m : MsgV} (h : putE m = 0) : Ev (fun k => getV k (putS m)) ⟨m.h, m.qs, m.an, m.ns, m.ar, 0⟩ ∧ (putS m).size ≤ 4096 := by
  have H : putOk m = true ∧ (putEnd m).lg = false := by
    by_cases H : putOk m = true ∧ (putEnd m).lg = false
    · exact H
    · obtain ⟨_, s2⟩ := put_err H
      rcases s2 with ⟨h', _⟩ | ⟨h', _⟩ <;> rw [h'] at h <;> exact absurd h (by decide)
  obtain ⟨s1, s2, s3, s4⟩ := put_S H.1 H.2
  rw [s1]
  refine ⟨?_, s4⟩
  have := get_put H.1 H.2 ⟨#[]⟩ (by rw [Wm.app_nil]; exact s4)
  rwa [Wm.app_nil, if_pos (show (⟨#[]⟩ : ByteArray).size = 0 from rfl)] at this
/-- What a query is when it is read. -/
theorem query_get {id : Int} {n : ByteArray} {t : Int} (h : fineB id n t = true) : ∃ k : Nat, k ≤ 127 ∧ Ev (fun j => getV j (queryS id n t)) ⟨⟨id, false, 0, false, false, false, false, 0, 0⟩, [⟨foldN n, t, 1⟩], [], [], [optR (optD k)], 0⟩ ∧ (queryS id n t).size ≤ 4096 := by
  have h' := h
  unfold fineB at h'
  simp only [Bool.and_eq_true, decide_eq_true_eq] at h'
  obtain ⟨⟨⟨⟨i0, i1⟩, hn⟩, t0⟩, t1⟩ := h'
  obtain ⟨f1, f2⟩ := fold_name hn
  have hs := name_size hn
  unfold queryS
  rw [if_pos h]
  obtain ⟨e0, z0⟩ := q_opt_put ⟨i0, i1⟩ f1 ⟨t0, t1⟩ ⟨#[]⟩ (by decide)
  have e0 : putE (padR (qMsg id n t) ⟨#[]⟩) = 0 := e0
  have z0 : (putS (padR (qMsg id n t) ⟨#[]⟩)).size = 27 + (foldN n).size + 0 := z0
  unfold padS
  rw [if_pos e0]
  have hr : roomN (qMsg id n t) 128 = (roomI ((27 + n.size : Nat) : Int) 128).toNat := by unfold roomN; rw [z0, f2]; rfl
  obtain ⟨r0, r1⟩ := room_bd ((27 + n.size : Nat) : Int) 128 (by decide)
  obtain ⟨k, hk⟩ : ∃ k : Nat, roomI ((27 + n.size : Nat) : Int) 128 = (k : Int) := ⟨(roomI ((27 + n.size : Nat) : Int) 128).toNat, by omega⟩
  rw [hr, hk, Int.toNat_natCast]
  rw [hk] at r0 r1
  obtain ⟨e1, z1⟩ := q_opt_put ⟨i0, i1⟩ f1 ⟨t0, t1⟩ (optD k) (by rw [optD_size]; omega)
  have e1 : putE (padR (qMsg id n t) (optD k)) = 0 := e1
  obtain ⟨g, z⟩ := get_own e1
  exact ⟨k, by omega, g, z⟩
theorem row_opt {w : World} {b : Nat} {ok : Nat → Prop} {v : Value} {x : PGo.S55} (h : Kd.R PGo.k55 55 w b ok v [x]) : ∃ g c, v = .slice (some ⟨g, 0, none⟩) 1 c ∧ 1 ≤ c ∧ g < w.heap.size ∧ w.cell? ⟨g, 0, none⟩ = some (.int .i64 x.f0) ∧ w.cell? ⟨g, 1, none⟩ = some (.string x.f1) := by
  obtain ⟨A, c, rfl, hc, hC⟩ := Kd.R_reads h
  obtain ⟨inner, ho⟩ := Kd.R_own h
  obtain ⟨ad, rfl, c0, c1⟩ := PGo.at_T55 hC 0 (by omega) (by simp)
  rcases ho.2 with ⟨_, h0⟩ | ⟨g, cap, cur, hv, _⟩
  · exact absurd h0 (by simp)
  · injection hv with hA _ _
    injection hA with hA
    subst hA
    exact ⟨g, c, rfl, hc, (ho.lt g rfl).2, c0, c1⟩
theorem row_none {w : World} {b e size : Nat} {v : Value} {xs : List Value} (h : w.ownsRow b e size v 0 xs) : ∃ A c, v = .slice A 0 c := by
  rcases h.2 with ⟨hv, _⟩ | ⟨g, cap, cur, hv, _⟩
  · exact ⟨_, _, hv⟩
  · exact ⟨_, _, hv⟩
theorem row_one {w : World} {b e size : Nat} {v : Value} {xs : List Value} (h : w.ownsRow b e size v 1 xs) : ∃ g c, v = .slice (some ⟨g, 0, none⟩) 1 c ∧ 1 ≤ c ∧ g < w.heap.size ∧ ∀ j y, xs[j]? = some y → w.cell? ⟨g, j, none⟩ = some y := by
  rcases h.2 with ⟨_, h0⟩ | ⟨g, cap, cur, hv, r1, r2, r3, _⟩
  · omega
  · refine ⟨g, cap, hv, r3, (h.lt g (by rw [hv]; rfl)).2, fun j y hy => ?_⟩
    have := h.cells (g := g) (by rw [hv]; rfl) j y hy
    rwa [show (⟨g, 0, none⟩ : Addr).add j = ⟨g, j, none⟩ by unfold Addr.add; split <;> simp_all] at this
set_option maxHeartbeats 8000000 in
set_option maxRecDepth 100000 in
theorem walk (x : Int) (n : ByteArray) (t : Int) (n2 : ByteArray) (t2 : Int) (w : World) (hz : n.size ≤ 140737488351232) (hz2 : n2.size ≤ 140737488351232) : Calls Try.prog 5 #[.int .i64 x, .agg #[.string n, .int .i64 t], .agg #[.string n2, .int .i64 t2]] w fun e w' => e = .returned (.bool true) ∧ Below w.heap.size w w' := by
  have ka := awake10
  obtain ⟨id, ⟨i0, i1⟩, hx⟩ : ∃ c : Int, (0 ≤ c ∧ c ≤ 65535) ∧ Go.bits .and .i64 x 65535 = c := ⟨x % 65536, by omega, by rw [show (65535 : Int) = 2 ^ 16 - 1 by decide, Base.and_mask 16 (by decide)]; rfl⟩
  have k1 := fun w => queryc id n t w
  have k2 := fun w => queryc id n2 t2 w
  have B : Below w.heap.size w ((w.alloc (.cells #[.string n, .int .i64 t] 43)).alloc (.cells #[.string n2, .int .i64 t2] 43)) := ((Below.refl _ _).alloc (Nat.le_refl _) _).alloc (by simp) _
  have P : ((w.alloc (.cells #[.string n, .int .i64 t] 43)).alloc (.cells #[.string n2, .int .i64 t2] 43)).heap[w.heap.size]? = some (.cells #[.string n, .int .i64 t] 43 (0, 0)) := blk_alloc (blk_new w _) _
  have Q : ((w.alloc (.cells #[.string n, .int .i64 t] 43)).alloc (.cells #[.string n2, .int .i64 t2] 43)).heap[w.heap.size + 1]? = some (.cells #[.string n2, .int .i64 t2] 43 (0, 0)) := by
    have := blk_new (w.alloc (.cells #[.string n, .int .i64 t] 43)) (.cells #[.string n2, .int .i64 t2] 43)
    rwa [show (w.alloc (.cells #[.string n, .int .i64 t] 43)).heap.size = w.heap.size + 1 by simp] at this
  by_cases hf : fineB id n t = true
  case neg =>
    have hf : fineB id n t = false := by simpa using hf
    obtain ⟨s1, s2⟩ := query_bad hf
    rw [s1, s2] at k1
    clear s1 s2 hf
    have kn := fun w => Hd.numc 1000 w
    generalize queryS id n2 t2 = v at *
    generalize queryE id n2 t2 = q at *
    go_enter Try.func5, Try.ntmps5
    go_upto_region 1 with (fail)
    generalize (w.alloc (.cells #[.string n, .int .i64 t] 43)).alloc (.cells #[.string n2, .int .i64 t2] 43) = w0 at *
    obtain ⟨gp, hgp⟩ : ∃ g, g = w.heap.size := ⟨_, rfl⟩
    obtain ⟨gq, hgq⟩ : ∃ g, g = w.heap.size + 1 := ⟨_, rfl⟩
    rw [← hgq, ← hgp]
    rw [← hgp] at P
    rw [← hgq] at Q
    have GP := Lib.hid hgp
    have GQ := Lib.hid hgq
    clear hgp hgq
    go_wp2_with fail
    refine (ka _).mono ?_
    rintro e w1 ⟨rfl, hb⟩
    replace B := B.trans (hb.mono B.size)
    replace P := blk_below P hb
    replace Q := blk_below Q hb
    have p0 : w1.cell? ⟨gp, 0, none⟩ = some (.string n) := (blk_cell P 0).trans rfl
    have p1 : w1.cell? ⟨gp, 1, none⟩ = some (.int .i64 t) := (blk_cell P 1).trans rfl
    have c0 : w1.cell? ⟨gq, 0, none⟩ = some (.string n2) := (blk_cell Q 0).trans rfl
    have c1 : w1.cell? ⟨gq, 1, none⟩ = some (.int .i64 t2) := (blk_cell Q 1).trans rfl
    clear hb
    go_wp2_with fail
    refine (k1 _).mono ?_
    rintro e w2 ⟨rfl, hb⟩
    replace B := B.trans (hb.mono B.size)
    replace P := blk_below P hb
    replace Q := blk_below Q hb
    have p0 : w2.cell? ⟨gp, 0, none⟩ = some (.string n) := (blk_cell P 0).trans rfl
    have p1 : w2.cell? ⟨gp, 1, none⟩ = some (.int .i64 t) := (blk_cell P 1).trans rfl
    have c0 : w2.cell? ⟨gq, 0, none⟩ = some (.string n2) := (blk_cell Q 0).trans rfl
    have c1 : w2.cell? ⟨gq, 1, none⟩ = some (.int .i64 t2) := (blk_cell Q 1).trans rfl
    clear hb
    go_wp2_with fail
    refine (k2 _).mono ?_
    rintro e w3 ⟨rfl, hb⟩
    replace B := B.trans (hb.mono B.size)
    replace P := blk_below P hb
    replace Q := blk_below Q hb
    have p0 : w3.cell? ⟨gp, 0, none⟩ = some (.string n) := (blk_cell P 0).trans rfl
    have p1 : w3.cell? ⟨gp, 1, none⟩ = some (.int .i64 t) := (blk_cell P 1).trans rfl
    have c0 : w3.cell? ⟨gq, 0, none⟩ = some (.string n2) := (blk_cell Q 0).trans rfl
    have c1 : w3.cell? ⟨gq, 1, none⟩ = some (.int .i64 t2) := (blk_cell Q 1).trans rfl
    clear hb
    go_wp2_with fail
    refine (kn _).mono ?_
    rintro e w4 ⟨rfl, rfl⟩
    go_wp2_with fail
    refine (kn _).mono ?_
    rintro e w4 ⟨rfl, rfl⟩
    go_wp2_with fail
    go_ret
    exact ⟨rfl, B⟩
  obtain ⟨k, hk, hev, hsz⟩ := query_get hf
  have z1 := query_size hf
  rw [query_ok hf] at k1
  have kg := fun w => rgetVc (by omega) hev w
  have kfo := fun w => RFo.rfoldc n w
  have kn := fun w => Hd.numc 0 w
  have HZ2 := Lib.hid (show fineB id n2 t2 = true → (queryS id n2 t2).size = (n2.size + 158) / 128 * 128 ∧ queryE id n2 t2 = 0 from fun h => ⟨query_size h, query_ok h⟩)
  have HB2 := Lib.hid (show fineB id n2 t2 = false → queryE id n2 t2 = 1000 from fun h => (query_bad h).2)
  generalize queryS id n t = s at *
  generalize queryS id n2 t2 = v at *
  generalize queryE id n2 t2 = q at *
  have kn2 := fun w => Hd.numc q w
  clear hf hev
  go_enter Try.func5, Try.ntmps5
  go_upto_region 1 with (fail)
  generalize (w.alloc (.cells #[.string n, .int .i64 t] 43)).alloc (.cells #[.string n2, .int .i64 t2] 43) = w0 at *
  obtain ⟨gp, hgp⟩ : ∃ g, g = w.heap.size := ⟨_, rfl⟩
  obtain ⟨gq, hgq⟩ : ∃ g, g = w.heap.size + 1 := ⟨_, rfl⟩
  rw [← hgq, ← hgp]
  rw [← hgp] at P
  rw [← hgq] at Q
  have GP := Lib.hid hgp
  have GQ := Lib.hid hgq
  clear hgp hgq
  go_wp2_with fail
  refine (ka _).mono ?_
  rintro e w1 ⟨rfl, hb⟩
  replace B := B.trans (hb.mono B.size)
  replace P := blk_below P hb
  replace Q := blk_below Q hb
  have p0 : w1.cell? ⟨gp, 0, none⟩ = some (.string n) := (blk_cell P 0).trans rfl
  have p1 : w1.cell? ⟨gp, 1, none⟩ = some (.int .i64 t) := (blk_cell P 1).trans rfl
  have c0 : w1.cell? ⟨gq, 0, none⟩ = some (.string n2) := (blk_cell Q 0).trans rfl
  have c1 : w1.cell? ⟨gq, 1, none⟩ = some (.int .i64 t2) := (blk_cell Q 1).trans rfl
  clear hb
  go_wp2_with fail
  refine (k1 _).mono ?_
  rintro e w2 ⟨rfl, hb⟩
  replace B := B.trans (hb.mono B.size)
  replace P := blk_below P hb
  replace Q := blk_below Q hb
  have p0 : w2.cell? ⟨gp, 0, none⟩ = some (.string n) := (blk_cell P 0).trans rfl
  have p1 : w2.cell? ⟨gp, 1, none⟩ = some (.int .i64 t) := (blk_cell P 1).trans rfl
  have c0 : w2.cell? ⟨gq, 0, none⟩ = some (.string n2) := (blk_cell Q 0).trans rfl
  have c1 : w2.cell? ⟨gq, 1, none⟩ = some (.int .i64 t2) := (blk_cell Q 1).trans rfl
  clear hb
  go_wp2_with fail
  refine (k2 _).mono ?_
  rintro e w3 ⟨rfl, hb⟩
  replace B := B.trans (hb.mono B.size)
  replace P := blk_below P hb
  replace Q := blk_below Q hb
  have p0 : w3.cell? ⟨gp, 0, none⟩ = some (.string n) := (blk_cell P 0).trans rfl
  have p1 : w3.cell? ⟨gp, 1, none⟩ = some (.int .i64 t) := (blk_cell P 1).trans rfl
  have c0 : w3.cell? ⟨gq, 0, none⟩ = some (.string n2) := (blk_cell Q 0).trans rfl
  have c1 : w3.cell? ⟨gq, 1, none⟩ = some (.int .i64 t2) := (blk_cell Q 1).trans rfl
  clear hb
  go_wp2_with fail
  refine (kn _).mono ?_
  rintro e w4 ⟨rfl, rfl⟩
  go_wp2_with fail
  refine (kg _).mono ?_
  rintro e w5 ⟨vq, va, vn, vr, rfl, ow1, ow2, ow3, ow4, ne1, ne2, ne3, hb⟩
  replace B := B.trans (hb.mono B.size)
  replace P := blk_below P hb
  replace Q := blk_below Q hb
  have p0 : w5.cell? ⟨gp, 0, none⟩ = some (.string n) := (blk_cell P 0).trans rfl
  have p1 : w5.cell? ⟨gp, 1, none⟩ = some (.int .i64 t) := (blk_cell P 1).trans rfl
  have c0 : w5.cell? ⟨gq, 0, none⟩ = some (.string n2) := (blk_cell Q 0).trans rfl
  have c1 : w5.cell? ⟨gq, 1, none⟩ = some (.int .i64 t2) := (blk_cell Q 1).trans rfl
  clear hb
  have W5 := Lib.hid B.size
  obtain ⟨An, cn, rfl⟩ := row_none ow2
  obtain ⟨Ap, cp, rfl⟩ := row_none ow3
  obtain ⟨gQ, cQ, rfl, hcQ, hgQ, hQ⟩ := row_one ow1
  obtain ⟨gR, cR, rfl, hcR, hgR, hR⟩ := row_one ow4
  have q0 := hQ 0 (.string (foldN n)) rfl
  have q1 := hQ 1 (.int .i64 t) rfl
  have q2 := hQ 2 (.int .i64 1) rfl
  have r0 := hR 0 (.string ⟨#[0]⟩) rfl
  have r1 := hR 1 (.int .i64 41) rfl
  have r2 := hR 2 (.int .i64 1232) rfl
  have r3 := hR 3 (.int .i64 0) rfl
  have r4 := hR 4 (.string (optD k)) rfl
  clear ow1 ow2 ow3 ow4 ne1 ne2 ne3 hQ hR
  have B6 : Below w5.heap.size w5 (w5.alloc (.cells #[.int .i64 id, .bool false, .int .i64 0, .bool false, .bool false, .bool false, .bool false, .int .i64 0, .int .i64 0, .slice (some ⟨gQ, 0, none⟩) 1 cQ, .slice An 0 cn, .slice Ap 0 cp, .slice (some ⟨gR, 0, none⟩) 1 cR] 27)) := (Below.refl _ _).alloc (Nat.le_refl _) _
  go_upto_region 8 with (fail)
  obtain ⟨gm, hgm⟩ : ∃ g, g = w5.heap.size := ⟨_, rfl⟩
  have M6 := blk_new w5 (.cells #[.int .i64 id, .bool false, .int .i64 0, .bool false, .bool false, .bool false, .bool false, .int .i64 0, .int .i64 0, .slice (some ⟨gQ, 0, none⟩) 1 cQ, .slice An 0 cn, .slice Ap 0 cp, .slice (some ⟨gR, 0, none⟩) 1 cR] 27)
  have W6 := B6.size
  replace B := B.trans (B6.mono W5.out)
  have y0 := bcell B6 q0
  have y1 := bcell B6 q1
  have y2 := bcell B6 q2
  replace p0 := bcell B6 p0
  replace p1 := bcell B6 p1
  replace c0 := bcell B6 c0
  replace r0 := bcell B6 r0
  replace r1 := bcell B6 r1
  replace r2 := bcell B6 r2
  replace r3 := bcell B6 r3
  replace r4 := bcell B6 r4
  generalize w5.alloc (.cells #[.int .i64 id, .bool false, .int .i64 0, .bool false, .bool false, .bool false, .bool false, .int .i64 0, .int .i64 0, .slice (some ⟨gQ, 0, none⟩) 1 cQ, .slice An 0 cn, .slice Ap 0 cp, .slice (some ⟨gR, 0, none⟩) 1 cR] 27) = w6 at *
  rw [← hgm] at M6 ⊢
  have m0 : w6.cell? ⟨gm, 0, none⟩ = some (.int .i64 id) := (blk_cell M6 0).trans rfl
  have m1 : w6.cell? ⟨gm, 1, none⟩ = some (.bool false) := (blk_cell M6 1).trans rfl
  have m2 : w6.cell? ⟨gm, 2, none⟩ = some (.int .i64 0) := (blk_cell M6 2).trans rfl
  have m3 : w6.cell? ⟨gm, 3, none⟩ = some (.bool false) := (blk_cell M6 3).trans rfl
  have m4 : w6.cell? ⟨gm, 4, none⟩ = some (.bool false) := (blk_cell M6 4).trans rfl
  have m5 : w6.cell? ⟨gm, 5, none⟩ = some (.bool false) := (blk_cell M6 5).trans rfl
  have m6 : w6.cell? ⟨gm, 6, none⟩ = some (.bool false) := (blk_cell M6 6).trans rfl
  have m7 : w6.cell? ⟨gm, 7, none⟩ = some (.int .i64 0) := (blk_cell M6 7).trans rfl
  have m8 : w6.cell? ⟨gm, 8, none⟩ = some (.int .i64 0) := (blk_cell M6 8).trans rfl
  have m9 : w6.cell? ⟨gm, 9, none⟩ = some (.slice (some ⟨gQ, 0, none⟩) 1 cQ) := (blk_cell M6 9).trans rfl
  have m10 : w6.cell? ⟨gm, 10, none⟩ = some (.slice An 0 cn) := (blk_cell M6 10).trans rfl
  have m11 : w6.cell? ⟨gm, 11, none⟩ = some (.slice Ap 0 cp) := (blk_cell M6 11).trans rfl
  have m12 : w6.cell? ⟨gm, 12, none⟩ = some (.slice (some ⟨gR, 0, none⟩) 1 cR) := (blk_cell M6 12).trans rfl
  have zs : ((s.size : Int) : Int) % 128 = 0 := by rw [z1]; omega
  have Rm0 := cell_regrown m0
  have Rm1 := cell_regrown m1
  have Rm2 := cell_regrown m2
  have Rm3 := cell_regrown m3
  have Rm4 := cell_regrown m4
  have Rm5 := cell_regrown m5
  have Rm6 := cell_regrown m6
  have Rm7 := cell_regrown m7
  have Rm8 := cell_regrown m8
  have Rm9 := cell_regrown m9
  have Rm10 := cell_regrown m10
  have Rm11 := cell_regrown m11
  have Rm12 := cell_regrown m12
  have Ry0 := cell_regrown y0
  have Ry1 := cell_regrown y1
  have Ry2 := cell_regrown y2
  have Rp0 := cell_regrown p0
  have Rp1 := cell_regrown p1
  clear hgm P Q B6 q0 q1 q2 c1
  refine wp_region_quiet_below (by kernel_rfl) (by kernel_rfl) ?_
  repeat (go_big_quiet_step (exact Calls.regrown_of (kfo _)))
  refine wpQuiet_nil ?_
  intro _ hw'
  obtain ⟨⟨dq, osq⟩, hw''⟩ := hw'
  subst hw''
  clear Rm0 Rm1 Rm2 Rm3 Rm4 Rm5 Rm6 Rm7 Rm8 Rm9 Rm10 Rm11 Rm12 Ry0 Ry1 Ry2 Rp0 Rp1
  have hb7 := below_regrown w6 dq osq
  generalize Go.Sort.grow (redrawn w6 dq) osq = w7 at hb7 ⊢
  replace B := B.trans (hb7.mono B.size)
  replace p0 := bcell hb7 p0
  replace c0 := bcell hb7 c0
  replace r0 := bcell hb7 r0
  replace r1 := bcell hb7 r1
  replace r2 := bcell hb7 r2
  replace r3 := bcell hb7 r3
  replace r4 := bcell hb7 r4
  replace m12 := bcell hb7 m12
  clear m0 m1 m2 m3 m4 m5 m6 m7 m8 m9 m10 m11 y0 y1 y2 p1
  go_wp2_with fail
  obtain ⟨kk, hkk⟩ := OptOne.one k (by omega)
  refine (PGo.wimpleref4_GetOpt.calls kk _ _ _ _ _ _ _ _ _ _ _ _ w7 (hkk kk (Nat.le_refl _))).mono ?_
  clear hkk
  rintro e w8 ⟨vo, rfl, HR, hb⟩
  obtain ⟨gO, cO, rfl, hcO, hgO, o0, o1⟩ := row_opt HR
  dsimp only at o0 o1
  replace B := B.trans (hb.mono B.size)
  replace p0 := bcell hb p0
  replace c0 := bcell hb c0
  clear hb HR r0 r1 r2 r3 r4 m12
  have W8 := B.size
  have hZ := zeros_size k
  have B9 : Below w8.heap.size w8 (w8.alloc (.cells #[.int .i64 1232, .int .i64 0, .int .i64 0, .bool false, .int .i64 0, .slice (some ⟨gO, 0, none⟩) 1 cO] 49)) := (Below.refl _ _).alloc (Nat.le_refl _) _
  go_upto_region 11 with (fail)
  obtain ⟨go, hgo⟩ : ∃ g, g = w8.heap.size := ⟨_, rfl⟩
  have M9 := blk_new w8 (.cells #[.int .i64 1232, .int .i64 0, .int .i64 0, .bool false, .int .i64 0, .slice (some ⟨gO, 0, none⟩) 1 cO] 49)
  replace B := B.trans (B9.mono W8)
  replace p0 := bcell B9 p0
  replace c0 := bcell B9 c0
  replace o0 := bcell B9 o0
  replace o1 := bcell B9 o1
  generalize w8.alloc (.cells #[.int .i64 1232, .int .i64 0, .int .i64 0, .bool false, .int .i64 0, .slice (some ⟨gO, 0, none⟩) 1 cO] 49) = w9 at *
  rw [← hgo] at M9 ⊢
  have m0 : w9.cell? ⟨go, 0, none⟩ = some (.int .i64 1232) := (blk_cell M9 0).trans rfl
  have m1 : w9.cell? ⟨go, 1, none⟩ = some (.int .i64 0) := (blk_cell M9 1).trans rfl
  have m2 : w9.cell? ⟨go, 2, none⟩ = some (.int .i64 0) := (blk_cell M9 2).trans rfl
  have m3 : w9.cell? ⟨go, 3, none⟩ = some (.bool false) := (blk_cell M9 3).trans rfl
  have m4 : w9.cell? ⟨go, 4, none⟩ = some (.int .i64 0) := (blk_cell M9 4).trans rfl
  have m5 : w9.cell? ⟨go, 5, none⟩ = some (.slice (some ⟨gO, 0, none⟩) 1 cO) := (blk_cell M9 5).trans rfl
  have hmk := fun W => make_zeros k (by omega) W
  have hcv : (convert 56 9 (.slice (some ⟨w9.heap.size, 0, none⟩) k k)).run Try.prog (w9.alloc (.cells (madeCells #[.int .u8 0] k) 5)).drew = .ok (.string (zeros k)) (w9.alloc (.cells (madeCells #[.int .u8 0] k) 5)).drew := conv_zeros k w9.drew
  have B10 : Below w.heap.size w (w9.alloc (.cells (madeCells #[.int .u8 0] k) 5)).drew := (B.alloc B.size _).drew
  have P0 : (w9.alloc (.cells (madeCells #[.int .u8 0] k) 5)).drew.cell? ⟨gp, 0, none⟩ = some (.string n) := bcell ((Below.refl w9.heap.size w9).alloc (Nat.le_refl _) _).drew p0
  have C0 : (w9.alloc (.cells (madeCells #[.int .u8 0] k) 5)).drew.cell? ⟨gq, 0, none⟩ = some (.string n2) := bcell ((Below.refl w9.heap.size w9).alloc (Nat.le_refl _) _).drew c0
  have P0' := Lib.hid P0
  have C0' := Lib.hid C0
  clear P0 C0
  have zl : (zeros k).size = k := zeros_size k
  have hself : ((zeros k).toList == (zeros k).toList) = true := beq_self_eq_true _
  generalize zeros k = Z at *
  clear hgo B9 M9 hZ
  go_region_held (fun W => W.cell? ⟨go, 0, none⟩ = some (.int .i64 1232) ∧ W.cell? ⟨go, 1, none⟩ = some (.int .i64 0) ∧ W.cell? ⟨go, 2, none⟩ = some (.int .i64 0) ∧ W.cell? ⟨go, 3, none⟩ = some (.bool false) ∧ W.cell? ⟨go, 4, none⟩ = some (.int .i64 0) ∧ W.cell? ⟨go, 5, none⟩ = some (.slice (some ⟨gO, 0, none⟩) 1 cO) ∧ W.cell? ⟨gO, 0, none⟩ = some (.int .i64 12) ∧ W.cell? ⟨gO, 1, none⟩ = some (.string Z)) (go_keep) (fail)
  have P0 := P0'.out
  have C0 := C0'.out
  generalize (w9.alloc (.cells (madeCells #[.int .u8 0] k) 5)).drew = w10 at *
  clear m0 m1 m2 m3 m4 m5 hmk hcv hself o0 o1 p0 c0
  by_cases h2 : fineB id n2 t2 = true
  · obtain ⟨z2, rfl⟩ := HZ2.out h2
    by_cases hnn : n.size = n2.size
    · have e1 : ((n.size : Int) != (n2.size : Int)) = false := by rw [hnn]; simp
      have e2 : ((s.size : Int) == (v.size : Int)) = true := by rw [beq_iff_eq, z1, z2, hnn]
      go_wp2_with fail
      refine (kn2 _).mono ?_
      rintro e w11 ⟨rfl, rfl⟩
      go_wp2_with fail
      go_ret
      exact ⟨by first | rfl | (rw [e2]) | (simp; omega), B10⟩
    · have e1 : ((n.size : Int) != (n2.size : Int)) = true := by simp; omega
      go_wp2_with fail
      refine (kn2 _).mono ?_
      rintro e w11 ⟨rfl, rfl⟩
      go_wp2_with fail
      go_ret
      exact ⟨rfl, B10⟩
  · have hq := HB2.out (by simpa using h2)
    subst hq
    go_wp2_with fail
    refine (kn2 _).mono ?_
    rintro e w11 ⟨rfl, rfl⟩
    go_wp2_with fail
    go_ret
    exact ⟨rfl, B10⟩
end Go.Proofs.Ytjklgdpffmaamaa.PadQueries

namespace Go.Proofs.Ytjklgdpffmaamaa.PadQ
open Go.RowKit Go.Proofs.Ytjklgdpffmaamaa.OkzGo
set_option linter.unusedVariables false
theorem hcalls (x : Int) (a b : S43) (W : World) (h0 : (Lit.int .i64 x).wf = true) (ha : ok43 a) (hb : ok43 b) :
    Calls Try.prog 5 #[.int .i64 x, .agg #[.string a.f0, .int .i64 a.f1], .agg #[.string b.f0, .int .i64 b.f1]] W fun e w' => e = .returned (.bool true) ∧ Below W.heap.size W w' :=
  PadQueries.walk x a.f0 a.f1 b.f0 b.f1 W ha.1 hb.1
end Go.Proofs.Ytjklgdpffmaamaa.PadQ
