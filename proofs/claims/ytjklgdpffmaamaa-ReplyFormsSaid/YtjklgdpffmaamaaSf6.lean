/- wimpleref4.MsgMay: whether a message may be written, for every message. -/
import Derived.Deep.CutBlock
import Derived.Deep.RegionHeld3
import Derived.Test.YtjklgdpffmaamaaProg
import Derived.Below
import Derived.Deep.Draws
import Derived.Deep.AppendLies
import Derived.Maps.AppendAt
import Derived.OwnWalk
import Derived.Laws.BytesArg
import Derived.Laws.MakeOwn
import Derived.Laws.OwnMore
import Derived.Deep.OwnRows
import Derived.Tactics
import Derived.Lib.ConvBytes
import Derived.Laws.Slices
import Derived.WalkKit
import Derived.KernelRfl
import Derived.RowKit3
import Derived.Deep.LoopGhost
import Derived.Deep.QuietTactic
import Derived.BigQuiet
import Derived.WideLaws
import Derived.Deep.DeepCutAuto
import Derived.Laws.Rows
import Derived.Lib.AppendStr
import Derived.ArgAppend
import Derived.Laws.IdiomCopy
import Derived.OrdersHeld
import Derived.Laws.BitsLemmas
import Derived.RowKit
import Derived.Test.YtjklgdpffmaamaaSf1
import Derived.Test.YtjklgdpffmaamaaSf2
import Derived.Test.YtjklgdpffmaamaaSf3
import Derived.Test.YtjklgdpffmaamaaSf4
import Derived.Test.YtjklgdpffmaamaaSf5
namespace Go.Proofs.Ytjklgdpffmaamaa.Wm
open Go.RowKit Go.PlainAid Go.Maps Go.Proofs.Ytjklgdpffmaamaa.Base Go.Proofs.Ytjklgdpffmaamaa.Oct Go.Proofs.Ytjklgdpffmaamaa.Nm Go.Proofs.Ytjklgdpffmaamaa.Wr
open Go.Proofs.YtjklgdpffmaamaaW.PrintWords (blk_cell blk_below blk_new blk_lt)
set_option linter.unusedVariables false
theorem short_is (x : Int) : PRm.wimpleref4_short.f x = some (inB x 0 65535) := by
  unfold PRm.wimpleref4_short.f inB
  by_cases h : 0 ≤ x
  · rw [if_pos h, decide_eq_true h]; rfl
  · rw [if_neg h, decide_eq_false h]; rfl
theorem wide_is (x : Int) : PRm.wimpleref4_wide.f x = some (inB x 0 4294967295) := by
  unfold PRm.wimpleref4_wide.f inB
  by_cases h : 0 ≤ x
  · rw [if_pos h, decide_eq_true h]; rfl
  · rw [if_neg h, decide_eq_false h]; rfl
theorem rmay_is (r : Rr) (hs : r.data.size ≤ 9223372036854775000) : PRm.wimpleref4_rrMay.f r.name r.type r.cls r.ttl r.data = some (rMay r) := by
  unfold PRm.wimpleref4_rrMay.f rMay
  simp only [short_is, wide_is, PRm.wimpleref1_May.f, PRm.wimpleref4_DataMay.f, if_pos hs, Option.bind_some]
  cases nameB r.name
  · rfl
  · simp only [if_true, Bool.true_and]
    by_cases h1 : 0 ≤ r.type
    · by_cases h2 : r.type ≤ 65535
      · rw [show inB r.type 0 65535 = true by unfold inB; simp [h1, h2]]
        by_cases h3 : r.type > 0
        · rw [if_pos rfl, if_pos h3, show inB r.type 1 65535 = true by unfold inB; simp; omega]
          cases inB r.cls 0 65535
          · rfl
          · simp only [if_true, Bool.true_and]
            cases inB r.ttl 0 4294967295 <;> simp
        · rw [if_pos rfl, if_neg h3, show inB r.type 1 65535 = false by unfold inB; simp; omega]
          rfl
      · rw [show inB r.type 0 65535 = false by unfold inB; simp; omega, show inB r.type 1 65535 = false by unfold inB; simp; omega]; rfl
    · rw [show inB r.type 0 65535 = false by unfold inB; simp; omega, show inB r.type 1 65535 = false by unfold inB; simp; omega]; rfl
theorem shortc (x : Int) (w : World) : Calls Try.prog 52 #[.int .i64 x] w fun e w' => e = .returned (.bool (inB x 0 65535)) ∧ w' = w := by
  unfold inB
  by_cases h1 : 0 ≤ x
  · have q1 : decide (0 ≤ x) = true := decide_eq_true h1
    by_cases h2 : x ≤ 65535
    · have q2 : decide (x ≤ 65535) = true := decide_eq_true h2
      rw [q1, q2]
      go_enter Try.func52, Try.ntmps52
      go_wp2
      go_ret
      exact ⟨rfl, rfl⟩
    · have q2 : decide (x ≤ 65535) = false := decide_eq_false h2
      rw [q1, q2]
      go_enter Try.func52, Try.ntmps52
      go_wp2
      go_ret
      exact ⟨rfl, rfl⟩
  · have q1 : decide (0 ≤ x) = false := decide_eq_false h1
    rw [q1]
    go_enter Try.func52, Try.ntmps52
    go_wp2
    go_ret
    exact ⟨rfl, rfl⟩
theorem may0 {h : Hd.Head} {a b c d : Int} (ha : Hd.sh a) (hb : Hd.sh b) (hc : Hd.sh c) (hd : Hd.sh d) : Hd.mayB h a b c d = Hd.mayB h 0 0 0 0 := by
  unfold Hd.mayB
  rw [Bool.eq_iff_iff]
  simp only [decide_eq_true_eq]
  have z : Hd.sh 0 := ⟨by decide, by decide⟩
  exact ⟨fun h => ⟨⟨z, z, z, z⟩, h.2⟩, fun h => ⟨⟨ha, hb, hc, hd⟩, h.2⟩⟩
theorem may_bad {h : Hd.Head} {a b c d : Int} (h0 : Hd.mayB h 0 0 0 0 = false) : Hd.mayB h a b c d = false := by
  cases e : Hd.mayB h a b c d with
  | false => rfl
  | true =>
    unfold Hd.mayB at e h0
    have := of_decide_eq_true e
    have := of_decide_eq_false h0
    have z : Hd.sh 0 := ⟨by decide, by decide⟩
    exact absurd ⟨⟨z, z, z, z⟩, (of_decide_eq_true e).2⟩ this
/-- The rows of a message, one behind the other. -/
def rows3 (m : MsgV) (p : Nat) : Option Addr × List Rr × Nat := if p = 0 then (m.Aa, m.an, m.ca) else if p = 1 then (m.An, m.ns, m.cn) else (m.Ar, m.ar, m.cr)
theorem rows3_ok {m : MsgV} {w : World} (h : m.Lies w) (p : Nat) (hp : p < 3) : RCells w (rows3 m p).1 (rows3 m p).2.1 ∧ (rows3 m p).2.1.length ≤ (rows3 m p).2.2 ∧ small (rows3 m p).2.1 ∧ (rows3 m p).2.1 = [m.an, m.ns, m.ar].getD p [] := by
  obtain rfl | rfl | rfl : p = 0 ∨ p = 1 ∨ p = 2 := by omega
  · exact ⟨h.a, h.la, h.sa, rfl⟩
  · exact ⟨h.n, h.ln, h.sn, rfl⟩
  · exact ⟨h.r, h.lr, h.sr, rfl⟩
theorem rows3_at {m : MsgV} {w : World} {b : Nat} (h : w.heap[b]? = some (.cells #[.slice m.Aa m.an.length m.ca, .slice m.An m.ns.length m.cn, .slice m.Ar m.ar.length m.cr] 25 (0, 0))) (p : Nat) (hp : p < 3) : w.cell? ⟨b, p, none⟩ = some (.slice (rows3 m p).1 (rows3 m p).2.1.length (rows3 m p).2.2) := by
  obtain rfl | rfl | rfl : p = 0 ∨ p = 1 ∨ p = 2 := by omega
  · exact (blk_cell h 0).trans rfl
  · exact (blk_cell h 1).trans rfl
  · exact (blk_cell h 2).trans rfl
set_option maxHeartbeats 8000000 in
set_option maxRecDepth 100000 in
theorem rmayc (m : MsgV) (w : World) (hm : m.Lies w) : Calls Try.prog 37 #[.agg m.cells] w fun e w' => e = .returned (.bool (putOk m)) ∧ Below w.heap.size w w' := by
  have B0 : Below w.heap.size w (w.alloc (.cells m.cells 27)) := (Below.refl _ _).alloc (Nat.le_refl _) _
  have hb := blk_new w (.cells m.cells 27)
  have hm1 := hm.below B0
  have kw := Hd.rwrote m.h 0 0 0 0 (w.alloc (.cells m.cells 27))
  have HPO := Lib.hid (show putOk m = (Hd.mayB m.h m.qs.length m.an.length m.ns.length m.ar.length && fitsB m.qs m.an m.ns m.ar) from rfl)
  go_enter Try.func37, Try.ntmps37
  go_wp2_with fail
  refine kw.mono ?_
  rintro e w1 ⟨rfl, B1⟩
  replace hb := blk_below hb B1
  replace hm1 := hm1.below B1
  replace B0 := B0.trans (B1.mono B0.size)
  clear kw B1 hm
  have sB0 := B0.size
  have c9 : w1.cell? ⟨w.heap.size, 9, none⟩ = some (.slice m.Aq m.qs.length m.cq) := (blk_cell hb 9).trans rfl
  have c10 : w1.cell? ⟨w.heap.size, 10, none⟩ = some (.slice m.Aa m.an.length m.ca) := (blk_cell hb 10).trans rfl
  have c11 : w1.cell? ⟨w.heap.size, 11, none⟩ = some (.slice m.An m.ns.length m.cn) := (blk_cell hb 11).trans rfl
  have c12 : w1.cell? ⟨w.heap.size, 12, none⟩ = some (.slice m.Ar m.ar.length m.cr) := (blk_cell hb 12).trans rfl
  cases h0 : Hd.mayB m.h 0 0 0 0 with
  | false =>
    have e1 : Hd.wroteE m.h 0 0 0 0 = 600 := by unfold Hd.wroteE; rw [h0]; rfl
    have e2 := may_bad (a := m.qs.length) (b := m.an.length) (c := m.ns.length) (d := m.ar.length) h0
    rw [e1]
    have HF := Lib.hid (show putOk m = false by rw [HPO.out, e2]; rfl)
    clear e1 e2 h0
    go_wp2_with fail
    go_ret
    exact ⟨by rw [HF.out]; first | done | rfl, B0⟩
  | true =>
    have e1 : Hd.wroteE m.h 0 0 0 0 = 0 := by unfold Hd.wroteE; rw [h0]; rfl
    rw [e1]
    clear e1
    by_cases hlen : m.qs.length ≤ 64 ∧ m.an.length ≤ 64 ∧ m.ns.length ≤ 64 ∧ m.ar.length ≤ 64
    · have e2 : Hd.mayB m.h m.qs.length m.an.length m.ns.length m.ar.length = true := by
        rw [may0 ⟨by omega, by omega⟩ ⟨by omega, by omega⟩ ⟨by omega, by omega⟩ ⟨by omega, by omega⟩]; exact h0
      have HE := Lib.hid (show putOk m = (m.qs.all qMay && [m.an, m.ns, m.ar].all listOk) by rw [HPO.out, e2, Bool.true_and, fits_eq, decide_eq_true hlen.1, Bool.true_and])
      have q1 : decide ((64 : Int) < (m.qs.length : Int)) = false := by simp; omega
      have q2 : decide ((64 : Int) < (m.an.length : Int)) = false := by simp; omega
      have q3 : decide ((64 : Int) < (m.ns.length : Int)) = false := by simp; omega
      have q4 : decide ((64 : Int) < (m.ar.length : Int)) = false := by simp; omega
      have HL := Lib.hid hlen
      have hlen64 := hlen.1
      clear e2 h0 hlen
      have hl64 := hlen64
      have hmq := hm1.q
      have hlq := hm1.lq
      have hrows := fun p hp => rows3_ok hm1 p hp
      clear hm1
      go_wp2_with fail
      go_loopg [5] (m.qs.length + 1) (fun k v5 wr => ∃ j : Nat, v5 = .int .i64 j ∧ j + k = m.qs.length + 1 ∧ j ≤ m.qs.length ∧ (m.qs.take j).all qMay = true ∧ Below w1.heap.size w1 wr)
      case atStart => exact ⟨0, rfl, by omega, by omega, rfl, Below.refl _ _⟩
      case round =>
        obtain ⟨j, rfl, hk1, hk2, hall, B⟩ := hrel
        have HALL := Lib.hid hall
        clear hall
        have sB := B.size
        have B00 := B0.trans (B.mono sB0)
        have d9 := bcell B c9
        by_cases hj : j < m.qs.length
        · have q0 : decide ((j : Int) < (m.qs.length : Int)) = true := by simp; omega
          obtain ⟨ad, eA, hat⟩ : ∃ ad, m.Aq = some ad ∧ ∀ j, j < m.qs.length → AtQ w1 (ad.add (j * 3)) (m.qs.getD j zQ) := by
            rcases hmq with h | h
            · omega
            · exact h
          rw [eA] at d9
          clear eA
          have ha := (hat j hj).below B
          have htk : (m.qs.take (j + 1)).all qMay = ((m.qs.take j).all qMay && qMay (m.qs.getD j zQ)) := by
            rw [List.take_succ_eq_append_getElem hj, List.all_append, List.getD_eq_getElem?_getD, List.getElem?_eq_getElem hj]; simp
          have hany : qMay (m.qs.getD j zQ) = false → m.qs.all qMay = false := fun h => by
            rw [List.all_eq_false]
            refine ⟨m.qs.getD j zQ, ?_, by rw [h]; simp⟩
            rw [List.getD_eq_getElem?_getD, List.getElem?_eq_getElem hj]; exact List.getElem_mem hj
          have HTK := Lib.hid htk
          have HANY := Lib.hid hany
          clear htk hany hat
          generalize m.qs.getD j zQ = x at *
          obtain ⟨d0, d1, d2⟩ := ha
          have k0 := fun w => rmay x.name w
          have k1 := fun w => shortc x.type w
          have k2 := fun w => shortc x.cls w
          have Bq : Below wr.heap.size wr (wr.alloc (.cells #[.string x.name, .int .i64 x.type, .int .i64 x.cls] 40)) := (Below.refl _ _).alloc (Nat.le_refl _) _
          have pq := blk_new wr (.cells #[.string x.name, .int .i64 x.type, .int .i64 x.cls] 40)
          go_upto_region 8 with (fail)
          have BX := B.trans (Bq.mono sB)
          clear B d0 d1 d2 d9 hlq Bq
          generalize wr.alloc (.cells #[.string x.name, .int .i64 x.type, .int .i64 x.cls] 40) = w2 at *
          generalize wr.heap.size = gq at *
          have e0 : w2.cell? ⟨gq, 0, none⟩ = some (.string x.name) := (blk_cell pq 0).trans rfl
          have HQX := Lib.hid (show qMay x = (nameB x.name && (inB x.type 0 65535 && !(x.type == 0)) && inB x.cls 0 65535) by
            unfold qMay
            rw [show inB x.type 1 65535 = (inB x.type 0 65535 && !(x.type == 0)) by unfold inB; rw [Bool.eq_iff_iff]; simp; omega])
          generalize nameB x.name = b0 at *
          generalize inB x.type 0 65535 = b1 at *
          generalize inB x.cls 0 65535 = b2 at *
          go_wp2_with fail
          refine (k0 _).mono ?_
          rintro e w3 ⟨rfl, B3⟩
          replace pq := blk_below pq B3
          replace BX := BX.trans (B3.mono BX.size)
          have e1 : w3.cell? ⟨gq, 1, none⟩ = some (.int .i64 x.type) := (blk_cell pq 1).trans rfl
          have e2 : w3.cell? ⟨gq, 2, none⟩ = some (.int .i64 x.cls) := (blk_cell pq 2).trans rfl
          clear e0 B3 k0
          have BY := B0.trans (BX.mono sB0)
          have bad : qMay x = false → putOk m = false := fun h => by rw [HE.out, HANY.out h]; rfl
          have HBAD := Lib.hid bad
          clear bad HANY
          cases b0 with
          | false =>
            have E := Lib.hid (HBAD.out (by rw [HQX.out]; rfl))
            go_wp2_with fail
            go_ret
            exact ⟨by rw [E.out]; first | done | rfl, BY⟩
          | true =>
            cases b1 with
            | false =>
              have E := Lib.hid (HBAD.out (by rw [HQX.out]; rfl))
              go_wp2_with (first | (go_at_call 52; with_reducible refine (k1 _).mono ?_; rintro e w' ⟨rfl, rfl⟩) | (go_at_call 52; with_reducible refine (k2 _).mono ?_; rintro e w' ⟨rfl, rfl⟩))
              go_ret
              exact ⟨by rw [E.out]; first | done | rfl, BY⟩
            | true =>
              by_cases hz : x.type = 0
              · have E := Lib.hid (HBAD.out (by rw [HQX.out, hz]; rfl))
                have z1 : (x.type == 0) = true := by simpa using hz
                clear hz
                go_wp2_with (first | (go_at_call 52; with_reducible refine (k1 _).mono ?_; rintro e w' ⟨rfl, rfl⟩) | (go_at_call 52; with_reducible refine (k2 _).mono ?_; rintro e w' ⟨rfl, rfl⟩))
                go_ret
                exact ⟨by rw [E.out]; first | done | rfl, BY⟩
              · have z1 : (x.type == 0) = false := by simpa using hz
                have HZ := Lib.hid hz
                clear hz
                cases b2 with
                | false =>
                  have E := Lib.hid (HBAD.out (by rw [HQX.out, z1]; rfl))
                  go_wp2_with (first | (go_at_call 52; with_reducible refine (k1 _).mono ?_; rintro e w' ⟨rfl, rfl⟩) | (go_at_call 52; with_reducible refine (k2 _).mono ?_; rintro e w' ⟨rfl, rfl⟩))
                  go_ret
                  exact ⟨by rw [E.out]; first | done | rfl, BY⟩
                | true =>
                  have E := Lib.hid (show qMay x = true by rw [HQX.out, z1]; rfl)
                  go_wp2_with (first | (go_at_call 52; with_reducible refine (k1 _).mono ?_; rintro e w' ⟨rfl, rfl⟩) | (go_at_call 52; with_reducible refine (k2 _).mono ?_; rintro e w' ⟨rfl, rfl⟩))
                  go_roundg (gk - 1)
                  case measure => omega
                  case rel => exact ⟨j + 1, rfl, by omega, by omega, by rw [HTK.out, HALL.out, E.out]; rfl, BX⟩
        · have q0 : decide ((j : Int) < (m.qs.length : Int)) = false := by simp; omega
          have hqall : m.qs.all qMay = true := by have := HALL.out; rwa [List.take_of_length_le (by omega)] at this
          have HQ := Lib.hid (show putOk m = [m.an, m.ns, m.ar].all listOk by rw [HE.out, hqall, Bool.true_and])
          clear hqall HALL HE
          have d10 := bcell B c10
          have d11 := bcell B c11
          have d12 := bcell B c12
          clear c9 c10 c11 c12 hmq q1 q2 q3 q4
          go_wp2_with fail
          have Ba : Below wr.heap.size wr (wr.alloc (.cells #[.slice m.Aa m.an.length m.ca, .slice m.An m.ns.length m.cn, .slice m.Ar m.ar.length m.cr] 25)) := (Below.refl _ _).alloc (Nat.le_refl _) _
          have pa := blk_new wr (.cells #[.slice m.Aa m.an.length m.ca, .slice m.An m.ns.length m.cn, .slice m.Ar m.ar.length m.cr] 25)
          have BW := B.trans (Ba.mono sB)
          clear d10 d11 d12 d9 Ba B
          generalize wr.alloc (.cells #[.slice m.Aa m.an.length m.ca, .slice m.An m.ns.length m.cn, .slice m.Ar m.ar.length m.cr] 25) = w2 at *
          generalize wr.heap.size = ga at *
          have BW0 := B0.trans (BW.mono sB0)
          have hcells : ∀ p, p < 3 → ∀ wr, Below w2.heap.size w2 wr → wr.cell? ⟨ga, p, none⟩ = some (.slice (rows3 m p).1 (rows3 m p).2.1.length (rows3 m p).2.2) := fun p hp wr B => rows3_at (blk_below pa B) p hp
          have HCE := Lib.hid hcells
          have HRO := Lib.hid hrows
          clear hcells hrows pa hl64 hlen64
          go_loopg [8] 4 (fun k v8 wr => ∃ p : Nat, v8 = .int .i64 p ∧ p + k = 4 ∧ p ≤ 3 ∧ ([m.an, m.ns, m.ar].take p).all listOk = true ∧ Below w2.heap.size w2 wr)
          case atStart => exact ⟨0, rfl, rfl, by omega, rfl, Below.refl _ _⟩
          case round =>
            obtain ⟨p, rfl, hp1, hp2, hall, B⟩ := hrel
            have HALL := Lib.hid hall
            clear hall
            have sB := B.size
            have BX0 := BW0.trans (B.mono BW0.size)
            by_cases hp : p < 3
            · have q0 : decide ((p : Int) < 3) = true := by simp; omega
              obtain ⟨hcl, hlc, hsm, hl⟩ := HRO.out p hp
              have htk : ([m.an, m.ns, m.ar].take (p + 1)).all listOk = (([m.an, m.ns, m.ar].take p).all listOk && listOk (rows3 m p).2.1) := by
                obtain rfl | rfl | rfl : p = 0 ∨ p = 1 ∨ p = 2 := by omega
                all_goals simp [hl, Bool.and_assoc]
              have hany : listOk (rows3 m p).2.1 = false → putOk m = false := fun h => by
                rw [HQ.out, List.all_eq_false]
                refine ⟨(rows3 m p).2.1, ?_, by rw [h]; simp⟩
                obtain rfl | rfl | rfl : p = 0 ∨ p = 1 ∨ p = 2 := by omega
                all_goals simp [hl]
              have hle : (rows3 m p).2.1.length ≤ 64 := by
                have := HL.out
                obtain rfl | rfl | rfl : p = 0 ∨ p = 1 ∨ p = 2 := by omega
                all_goals (rw [hl]; simp; omega)
              have HTK := Lib.hid htk
              have HANY := Lib.hid hany
              have HCP := Lib.hid (HCE.out p hp)
              clear htk hany hl
              generalize (rows3 m p).1 = A at *
              generalize (rows3 m p).2.2 = c at *
              generalize (rows3 m p).2.1 = l at *
              have hp3 : p ≤ 2 := by omega
              go_wp2_with fail
              go_loopg [9] (l.length + 1) (fun k v9 wq => ∃ j : Nat, v9 = .int .i64 j ∧ j + k = l.length + 1 ∧ j ≤ l.length ∧ (l.take j).all rMay = true ∧ Below w2.heap.size w2 wq)
              case atStart => exact ⟨0, rfl, by omega, by omega, rfl, B⟩
              case round =>
                obtain ⟨j, rfl, hj1, hj2, hall, Bq⟩ := hrel
                have HALLQ := Lib.hid hall
                clear hall
                have BX1 := BW0.trans (Bq.mono BW0.size)
                have cp := HCP.out _ Bq
                by_cases hj : j < l.length
                · have q2 : decide ((j : Int) < (l.length : Int)) = true := by simp; omega
                  obtain ⟨ad, eA, hat⟩ : ∃ ad, A = some ad ∧ ∀ j, j < l.length → AtR w1 (ad.add (j * 5)) (l.getD j zR) := by
                    rcases hcl with h | h
                    · omega
                    · exact h
                  subst eA
                  obtain ⟨d0, d1, d2, d3, d4⟩ := ((hat j hj).below BW).below Bq
                  have hmem : l.getD j zR ∈ l := by rw [List.getD_eq_getElem?_getD, List.getElem?_eq_getElem hj]; exact List.getElem_mem hj
                  have htk : (l.take (j + 1)).all rMay = ((l.take j).all rMay && rMay (l.getD j zR)) := by
                    rw [List.take_succ_eq_append_getElem hj, List.all_append, List.getD_eq_getElem?_getD, List.getElem?_eq_getElem hj]; simp
                  have hany2 : rMay (l.getD j zR) = false → l.all rMay = false := fun h => by
                    rw [List.all_eq_false]; exact ⟨_, hmem, by rw [h]; simp⟩
                  have km := fun w => PRm.wimpleref4_rrMay.calls (l.getD j zR).name (l.getD j zR).type (l.getD j zR).cls (l.getD j zR).ttl (l.getD j zR).data (rMay (l.getD j zR)) w (rmay_is _ (hsm _ hmem))
                  generalize rMay (l.getD j zR) = bb at *
                  generalize l.getD j zR = x at *
                  have HTK2 := Lib.hid htk
                  have HANY2 := Lib.hid hany2
                  clear htk hany2 hmem hat
                  go_wp2_with fail
                  refine (km _).mono ?_
                  rintro e w4 ⟨rfl, B4⟩
                  have B5 := Bq.trans (B4.mono Bq.size)
                  have B6 := BX1.trans (B4.mono BX1.size)
                  clear km d0 d1 d2 d3 d4 cp
                  cases bb with
                  | false =>
                    have E := Lib.hid (HANY.out (by unfold listOk; rw [HANY2.out rfl, Bool.and_false]))
                    go_wp2_with fail
                    go_ret
                    exact ⟨by rw [E.out]; first | done | rfl, B6⟩
                  | true =>
                    go_wp2_with fail
                    go_roundg (l.length - j)
                    case measure => omega
                    case rel => exact ⟨j + 1, rfl, by omega, by omega, by rw [HTK2.out, HALLQ.out]; rfl, B5⟩
                · have q2 : decide ((j : Int) < (l.length : Int)) = false := by simp; omega
                  have hok : listOk l = true := by unfold listOk; rw [decide_eq_true hle]; have := HALLQ.out; rwa [List.take_of_length_le (by omega)] at this
                  have HEE := Lib.hid (show ([m.an, m.ns, m.ar].take (p + 1)).all listOk = true by rw [HTK.out, HALL.out, hok]; rfl)
                  clear hok
                  go_wp2_with fail
                  go_roundg (3 - p)
                  case measure => omega
                  case rel => exact ⟨p + 1, rfl, by omega, by omega, HEE.out, Bq⟩
            · have q0 : decide ((p : Int) < 3) = false := by simp; omega
              obtain rfl : p = 3 := by omega
              have E := Lib.hid (show putOk m = true by rw [HQ.out]; exact HALL.out)
              go_wp2_with fail
              go_ret
              exact ⟨by rw [E.out]; first | done | rfl, BX0⟩
    · have e3 : fitsB m.qs m.an m.ns m.ar = false := by
        cases e : fitsB m.qs m.an m.ns m.ar with
        | false => rfl
        | true => exact absurd (fits_len e) hlen
      have HF := Lib.hid (show putOk m = false by rw [HPO.out, e3, Bool.and_false])
      clear h0 e3
      by_cases l1 : 64 < m.qs.length
      · have q1 : decide ((64 : Int) < (m.qs.length : Int)) = true := by simp; omega
        clear hlen l1
        go_wp2_with fail
        go_ret
        exact ⟨by rw [HF.out]; first | done | rfl, B0⟩
      · have q1 : decide ((64 : Int) < (m.qs.length : Int)) = false := by simp; omega
        by_cases l2 : 64 < m.an.length
        · have q2 : decide ((64 : Int) < (m.an.length : Int)) = true := by simp; omega
          clear hlen l1 l2
          go_wp2_with fail
          go_ret
          exact ⟨by rw [HF.out]; first | done | rfl, B0⟩
        · have q2 : decide ((64 : Int) < (m.an.length : Int)) = false := by simp; omega
          by_cases l3 : 64 < m.ns.length
          · have q3 : decide ((64 : Int) < (m.ns.length : Int)) = true := by simp; omega
            clear hlen l1 l2 l3
            go_wp2_with fail
            go_ret
            exact ⟨by rw [HF.out]; first | done | rfl, B0⟩
          · have q3 : decide ((64 : Int) < (m.ns.length : Int)) = false := by simp; omega
            have q4 : decide ((64 : Int) < (m.ar.length : Int)) = true := by simp; omega
            clear hlen l1 l2 l3
            go_wp2_with fail
            go_ret
            exact ⟨by rw [HF.out]; first | done | rfl, B0⟩
end Go.Proofs.Ytjklgdpffmaamaa.Wm

namespace Go.Proofs.Ytjklgdpffmaamaa.Wr
open Go.RowKit Go.PlainAid Go.Proofs.Ytjklgdpffmaamaa.Base Go.Proofs.Ytjklgdpffmaamaa.Oct Go.Proofs.Ytjklgdpffmaamaa.Nm
set_option linter.unusedVariables false
/-- What a list of rests and places says of a rest: its first place. -/
def mOf : List (ByteArray × Int) → ByteArray → Option Int
  | [], _ => none
  | (r, t) :: ms, x => if r = x then some t else mOf ms x
theorem mOf_app (a b : List (ByteArray × Int)) (x : ByteArray) : mOf (a ++ b) x = match mOf a x with
    | some t => some t
    | none => mOf b x := by
  induction a with
  | nil => rfl
  | cons p a ih =>
    obtain ⟨r, t⟩ := p
    show (if r = x then some t else mOf (a ++ b) x) = _
    by_cases h : r = x
    · rw [if_pos h]; simp [mOf, h]
    · rw [if_neg h, ih]; simp [mOf, h]
/-- What is put: so many rests of a name, each at its place. -/
def freshN (s : ByteArray) (at0 : Nat) (ps : List Nat) : List (ByteArray × Int) := ps.map fun p => (s.extract p s.size, (at0 : Int) + (p : Int))
theorem fresh_miss (s x : ByteArray) (at0 : Nat) : ∀ ps : List Nat, (∀ p ∈ ps, s.extract p s.size ≠ x) → mOf (freshN s at0 ps) x = none := by
  intro ps
  induction ps with
  | nil => intro _; rfl
  | cons p ps ih =>
    intro h
    show (if s.extract p s.size = x then _ else mOf (freshN s at0 ps) x) = none
    rw [if_neg (h p (List.mem_cons_self ..)), ih fun q hq => h q (List.mem_cons_of_mem _ hq)]
theorem fresh_hit (s x : ByteArray) (at0 p0 : Nat) (hx : s.extract p0 s.size = x) : ∀ ps : List Nat, p0 ∈ ps → (∀ p ∈ ps, s.extract p s.size = x → p = p0) → mOf (freshN s at0 ps) x = some ((at0 : Int) + p0) := by
  intro ps
  induction ps with
  | nil => intro h; cases h
  | cons p ps ih =>
    intro h hu
    show (if s.extract p s.size = x then some ((at0 : Int) + (p : Int)) else mOf (freshN s at0 ps) x) = _
    by_cases e : s.extract p s.size = x
    · obtain rfl := hu p (List.mem_cons_self ..) e
      rw [if_pos e]
    · rw [if_neg e]
      refine ih ?_ fun q hq => hu q (List.mem_cons_of_mem _ hq)
      rcases List.mem_cons.1 h with h | h
      · subst h; exact absurd hx e
      · exact h
theorem find_new (m : ByteArray → Option Int) (s : ByteArray) : ∀ (ps : List Nat) (i : Nat), ∀ p ∈ ps.take (wroteF i ps.length (findP m s ps i)), m (s.extract p s.size) = none := by
  intro ps
  induction ps with
  | nil => intro i p hp; simp at hp
  | cons a ps ih =>
    intro i p hp
    rw [findP] at hp
    cases hm : m (s.extract a s.size) with
    | some t => rw [hm] at hp; simp [wroteF] at hp
    | none =>
      rw [hm] at hp
      have hge := fun j q t => find_ge m s ps (i + 1) j q t
      have ih := ih (i + 1)
      simp only at hp
      generalize findP m s ps (i + 1) = f at hp hge ih
      have e : wroteF i (a :: ps).length f = wroteF (i + 1) ps.length f + 1 := by
        match f, hge with
        | none, _ => rfl
        | some (j, q, t), hge => have := (hge j q t rfl).1; show j - i = j - (i + 1) + 1; omega
      rw [e, List.take_succ_cons] at hp
      rcases List.mem_cons.1 hp with rfl | hp
      · exact hm
      · exact ih p hp
theorem wrote_is (m : ByteArray → Option Int) (s : ByteArray) : wroteN m s = wroteF 0 (heads s).length (findP m s (heads s) 0) := by
  unfold wroteN
  cases findP m s (heads s) 0 with
  | none => rfl
  | some r => obtain ⟨i, p, t⟩ := r; rfl
theorem new_none (m : ByteArray → Option Int) (s : ByteArray) : ∀ p ∈ (heads s).take (wroteN m s), m (s.extract p s.size) = none := by
  rw [wrote_is]; exact find_new m s _ 0
theorem heads_lt {s : ByteArray} {p : Nat} (h : p ∈ heads s) : p < s.size := placesAt_mem s _ 0 (Nat.le_refl _) p (List.dropLast_subset _ h)
/-- The list behind the name says what the map says. -/
theorem mOf_put (ms : List (ByteArray × Int)) (s : ByteArray) (at0 : Nat) : mOf (ms ++ freshN s at0 ((heads s).take (wroteN (mOf ms) s))) = putN (mOf ms) s at0 := by
  funext x
  have hnone := new_none (mOf ms) s
  unfold putN
  have hlt : ∀ p ∈ (heads s).take (wroteN (mOf ms) s), p < s.size := fun p hp => heads_lt (List.mem_of_mem_take hp)
  generalize (heads s).take (wroteN (mOf ms) s) = ps at *
  rw [mOf_app]
  by_cases hit : ∃ p ∈ ps, s.extract p s.size = x
  · obtain ⟨p0, hp0, hx⟩ := hit
    have hu : ∀ p ∈ ps, s.extract p s.size = x → p = p0 := fun p hp e => rest_inj s p p0 (Nat.le_of_lt (hlt p hp)) (Nat.le_of_lt (hlt p0 hp0)) (e.trans hx.symm)
    rw [putK_hit s x at0 p0 hx ps _ hp0 hu, ← hx, hnone p0 hp0, hx]
    exact fresh_hit s x at0 p0 hx ps hp0 hu
  · have hm : ∀ p ∈ ps, s.extract p s.size ≠ x := fun p hp e => hit ⟨p, hp, e⟩
    rw [putK_miss s x at0 ps _ hm, fresh_miss s x at0 ps hm]
    cases mOf ms x <;> rfl
/-- All places lie below the greatest that a pointer tells. -/
def Small (m : ByteArray → Option Int) : Prop := ∀ x t, m x = some t → 0 ≤ t ∧ t < 16384
theorem Small.put {m : ByteArray → Option Int} (h : Small m) (s : ByteArray) (at0 : Nat) (hz : at0 + s.size ≤ 16384) : Small (putN m s at0) := by
  intro x t hx
  rcases putK_inv s x at0 t _ _ hx with hx | ⟨p, hp, _, rfl⟩
  · exact h x t hx
  · have := heads_lt (List.mem_of_mem_take hp); omega
theorem or_place (t : Int) (h0 : 0 ≤ t) (h1 : t < 16384) : Go.bits .or .i64 49152 t = 49152 + t := by
  have := Pu.or_shl 14 (by decide) 3 t (by decide) (by omega) (by omega) (by omega)
  simpa using this
end Go.Proofs.Ytjklgdpffmaamaa.Wr

namespace Go.Proofs.Ytjklgdpffmaamaa.Wr
open Go.RowKit Go.PlainAid Go.Maps Go.Proofs.Ytjklgdpffmaamaa.Base Go.Proofs.Ytjklgdpffmaamaa.Oct Go.Proofs.Ytjklgdpffmaamaa.Nm Go.Proofs.YtjklgdpffmaamaaW.PrintWords
set_option linter.unusedVariables false
/-- The cells of rests and places. -/
def mcells : List (ByteArray × Int) → List Value
  | [] => []
  | (r, t) :: ms => .string r :: .int .i64 t :: mcells ms
theorem mcells_app (a b : List (ByteArray × Int)) : mcells (a ++ b) = mcells a ++ mcells b := by
  induction a with
  | nil => rfl
  | cons p a ih => obtain ⟨r, t⟩ := p; simp [mcells, ih]
theorem mcells_len (a : List (ByteArray × Int)) : (mcells a).length = a.length * 2 := by
  induction a with
  | nil => rfl
  | cons p a ih => obtain ⟨r, t⟩ := p; simp [mcells, ih]; omega
theorem mcells_at (a : List (ByteArray × Int)) (j : Nat) (h : j < a.length) : (mcells a)[j * 2]? = some (.string (a.getD j (⟨#[]⟩, 0)).1) ∧ (mcells a)[j * 2 + 1]? = some (.int .i64 (a.getD j (⟨#[]⟩, 0)).2) := by
  induction a generalizing j with
  | nil => cases h
  | cons p a ih =>
    obtain ⟨r, t⟩ := p
    cases j with
    | zero => exact ⟨rfl, rfl⟩
    | succ j =>
      have := ih j (by simpa using h)
      rw [show (j + 1) * 2 = j * 2 + 1 + 1 by omega]
      simpa [mcells] using this
theorem mcells_one (a : List (ByteArray × Int)) : ∀ u ∈ mcells a, u.oneCell' = true := by
  induction a with
  | nil => intro u h; cases h
  | cons p a ih =>
    obtain ⟨r, t⟩ := p
    intro u h
    rcases List.mem_cons.1 h with rfl | h
    · rfl
    · rcases List.mem_cons.1 h with rfl | h
      · rfl
      · exact ih u h
/-- What the document's writer holds: its bytes, the rests and their places. -/
structure Rf (base : Nat) (w : World) (g : Nat) (v : Value) (S : ByteArray) (ms : List (ByteArray × Int)) : Prop where
  gb : base ≤ g
  blk : w.heap[g]? = some (.cells #[.string S, v] 78 (0, 0))
  own : w.ownsRow base 131 2 v ms.length (mcells ms)
  len : S.size ≤ 4096
  few : ms.length ≤ 256 * S.size
/-- What a call on the document's writer leaves as it was. -/
structure Kr (w w' : World) (g : Nat) : Prop where
  size : w.heap.size ≤ w'.heap.size
  block : ∀ k, k < w.heap.size → k ≠ g → (∀ cs, w.heap[k]? ≠ some (.cells cs 131 (0, 0))) → w'.heap[k]? = w.heap[k]?
section
variable {base b' g gm g2 size n : Nat} {v vs v2 : Value} {xs : List Int} {ys : List Value} {m : ByteArray → Option Int} {w w' w1 : World} {e : TypeId} {S : ByteArray} {ms : List (ByteArray × Int)}
theorem Kr.refl (w : World) (g : Nat) : Kr w w g := ⟨Nat.le_refl _, fun _ _ _ _ => rfl⟩
theorem Kr.below (hb : Below w.heap.size w w') : Kr w w' g := ⟨hb.size, fun k hk _ _ => hb.block k hk⟩
theorem Kr.trans (h : Kr w w1 g) (k : Kr w1 w' g) : Kr w w' g :=
  ⟨Nat.le_trans h.size k.size, fun i hi a c => by
    have e := h.block i hi a c
    exact (k.block i (Nat.lt_of_lt_of_le hi h.size) a (fun cs => by rw [e]; exact c cs)).trans e⟩
theorem Rf.base_le (H : Rf base w g v S ms) : base ≤ w.heap.size := Nat.le_trans H.gb (Nat.le_of_lt (blk_lt H.blk))
theorem Rf.below (H : Rf base w g v S ms) (hb : Below w.heap.size w w') : Rf base w' g v S ms := ⟨H.gb, blk_below H.blk hb, pw_own_below H.own hb, H.len, H.few⟩
theorem own_keep (h : w.ownsRow base e size v n ys) (hr : ∀ k, v.ownBlock = some k → w'.heap[k]? = w.heap[k]?) : w'.ownsRow base e size v n ys := by
  refine ⟨h.1, ?_⟩
  rcases h.2 with h2 | ⟨k, cap, cur, rfl, hg, hh, r⟩
  · exact .inl h2
  · exact .inr ⟨k, cap, cur, rfl, hg, (hr k rfl).trans hh, r⟩
theorem Wr.keep (H : Wr base w g gm v xs m) (hg : w'.heap[g]? = w.heap[g]?) (hm : w'.heap[gm]? = w.heap[gm]?) (hr : ∀ k, v.ownBlock = some k → w'.heap[k]? = w.heap[k]?) : Wr base w' g gm v xs m := by
  obtain ⟨n, D, hn, ⟨es, clock, hb, F⟩, ht⟩ := H.map
  exact ⟨H.gb, H.mb, hg.trans H.blk, own_keep H.own hr, ⟨n, D, hn, ⟨es, clock, hm.trans hb, F⟩, ht⟩, H.len⟩
theorem Rf.keep (R : Rf base w g v S ms) (hg : w'.heap[g]? = w.heap[g]?) (hr : ∀ k, v.ownBlock = some k → w'.heap[k]? = w.heap[k]?) : Rf base w' g v S ms :=
  ⟨R.gb, hg.trans R.blk, own_keep R.own hr, R.len, R.few⟩
theorem Wr.map_blk (H : Wr base w g gm v xs m) : ∃ es c, w.heap[gm]? = some (.map es c) := by
  obtain ⟨n, D, hn, ⟨es, clock, hb, F⟩, ht⟩ := H.map
  exact ⟨es, clock, hb⟩
/-- The writer beside, behind a call on the document's. -/
theorem Wr.kr (H : Wr base w g gm v xs m) (R : Rf b' w g2 v2 S ms) (K : Kr w w' g2) : Wr base w' g gm v xs m := by
  obtain ⟨es, c, hm⟩ := H.map_blk
  refine H.keep (K.block g (blk_lt H.blk) (blk_ne H.blk R.blk (by decide)) ?_) (K.block gm (blk_lt hm) ?_ ?_) fun k hk => ?_
  · intro cs q; rw [H.blk] at q; injection q with q; injection q with _ q; exact absurd q (by decide)
  · rintro rfl; rw [R.blk] at hm; cases hm
  · intro cs q; rw [hm] at q; cases q
  · obtain ⟨cells, hc⟩ := own_typed H.own k hk
    refine K.block k (blk_lt hc) (blk_ne hc R.blk (by decide)) ?_
    intro cs q; rw [hc] at q; injection q with q; injection q with _ q; exact absurd q (by decide)
/-- The document's writer beside, behind a call on the writer. -/
theorem Rf.kp (R : Rf b' w g2 v2 S ms) (H : Wr base w g gm v xs m) (K : Kp w w' g gm) : Rf b' w' g2 v2 S ms := by
  obtain ⟨es, c, hm⟩ := H.map_blk
  refine R.keep (K.block g2 (blk_lt R.blk) (blk_ne R.blk H.blk (by decide)) ?_ ?_) fun k hk => ?_
  · rintro rfl; rw [R.blk] at hm; cases hm
  · intro cs q; rw [R.blk] at q; injection q with q; injection q with _ q; exact absurd q (by decide)
  · obtain ⟨cells, hc⟩ := own_typed R.own k hk
    refine K.block k (blk_lt hc) (blk_ne hc H.blk (by decide)) ?_ ?_
    · rintro rfl; rw [hc] at hm; cases hm
    · intro cs q; rw [hc] at q; injection q with q; injection q with _ q; exact absurd q (by decide)
theorem rall (R : Rf base w g v S ms) : Calls Try.prog 43 #[ptr g] w fun e w' => e = .returned (.string S) ∧ w' = w := by
  have c0 : w.cell? ⟨g, 0, none⟩ = some (.string S) := (blk_cell R.blk 0).trans rfl
  go_enter Try.func43, Try.ntmps43
  go_wp2
  go_ret
  exact ⟨rfl, rfl⟩
theorem rrawLong (R : Rf base w g v S ms) (s : ByteArray) (hl : 4096 < S.size + s.size) :
    Calls Try.prog 39 #[ptr g, .string s] w fun e w' => e = .returned (.int .i64 501) ∧ w' = w := by
  have c0 : w.cell? ⟨g, 0, none⟩ = some (.string S) := (blk_cell R.blk 0).trans rfl
  have hx := R.len
  have q : decide (4096 - (S.size : Int) < (s.size : Int)) = true := by simp; omega
  go_enter Try.func39, Try.ntmps39
  go_wp2
  go_ret
  exact ⟨rfl, rfl⟩
theorem Rf.stored (R : Rf base w g v S ms) (s : ByteArray) (hs : S.size + s.size ≤ 4096) : Rf base (w.setCell ⟨g, 0, none⟩ (.string (S ++ s))) g v (S ++ s) ms ∧ Below base w (w.setCell ⟨g, 0, none⟩ (.string (S ++ s))) ∧ Kr w (w.setCell ⟨g, 0, none⟩ (.string (S ++ s))) g := by
  refine ⟨⟨R.gb, blk_put R.blk 0 _ rfl, own_setCell R.own (own_ne R.own R.blk (by decide)) _, by rw [ByteArray.size_append]; omega, by rw [ByteArray.size_append]; have := R.few; omega⟩, (Below.refl base w).setCell R.gb _, ⟨by simp [World.setCell], fun k hk h1 h2 => Below.heap_setCell w _ _ k h1⟩⟩
theorem rrawOk (R : Rf base w g v S ms) (s : ByteArray) (hl : S.size + s.size ≤ 4096) :
    Calls Try.prog 39 #[ptr g, .string s] w fun e w' => e = .returned (.int .i64 0) ∧ Rf base w' g v (S ++ s) ms ∧ Below base w w' ∧ Kr w w' g := by
  have c0 : w.cell? ⟨g, 0, none⟩ = some (.string S) := (blk_cell R.blk 0).trans rfl
  have f0 := blk_frozen R.blk 0
  have hx := R.len
  have q : decide (4096 - (S.size : Int) < (s.size : Int)) = false := by simp; omega
  have n1 : ¬ 9223372036854775807 < S.size + s.size := by omega
  go_enter Try.func39, Try.ntmps39
  go_wp2
  go_ret
  exact ⟨rfl, R.stored s hl⟩
/-- Where a rest stands; -1: nowhere. -/
def placeM (ms : List (ByteArray × Int)) (x : ByteArray) : Int := (mOf ms x).getD (-1)
theorem mOf_at (ms : List (ByteArray × Int)) (x : ByteArray) (i : Nat) (h : i < ms.length) : mOf (ms.drop i) x = if (ms.getD i (⟨#[]⟩, 0)).1 = x then some (ms.getD i (⟨#[]⟩, 0)).2 else mOf (ms.drop (i + 1)) x := by
  rw [List.drop_eq_getElem_cons h, List.getD_eq_getElem?_getD, List.getElem?_eq_getElem h]
  rfl
set_option maxHeartbeats 2000000 in
theorem rplace (R : Rf base w g v S ms) (x : ByteArray) : Calls Try.prog 71 #[ptr g, .string x] w fun e w' => e = .returned (.int .i64 (placeM ms x)) ∧ w' = w := by
  have c1 : w.cell? ⟨g, 1, none⟩ = some v := (blk_cell R.blk 1).trans rfl
  have hlen : ms.length ≤ 1048576 := by have := R.len; have := R.few; omega
  obtain ⟨A, c, rfl, hc, hcell⟩ : ∃ A c, v = .slice A ms.length c ∧ ms.length ≤ c ∧ (ms.length = 0 ∨ ∃ k, A = some ⟨k, 0, none⟩ ∧ ∀ j, j < ms.length → w.cell? ⟨k, j * 2, none⟩ = some (.string (ms.getD j (⟨#[]⟩, 0)).1) ∧ w.cell? ⟨k, j * 2 + 1, none⟩ = some (.int .i64 (ms.getD j (⟨#[]⟩, 0)).2)) := by
    have ad : ∀ (k j : Nat), ((⟨k, 0, none⟩ : Addr).add j) = ⟨k, j, none⟩ := by
      intro k j
      unfold Addr.add
      split
      · simp_all
      · simp
    rcases R.own.2 with ⟨rfl, h0⟩ | ⟨k, cap, cur, rfl, hg, hh, hcc⟩
    · exact ⟨none, 0, by simp_all, by simp_all, .inl (by simp_all)⟩
    · refine ⟨_, _, rfl, by obtain ⟨a, b, _⟩ := hcc; omega, .inr ⟨k, rfl, fun j hj => ?_⟩⟩
      have h1 := R.own.cells (g := k) rfl _ _ (mcells_at ms j hj).1
      have h2 := R.own.cells (g := k) rfl _ _ (mcells_at ms j hj).2
      rw [ad] at h1 h2
      exact ⟨h1, h2⟩
  go_enter Try.func71, Try.ntmps71
  go_wp2
  go_loopg [5] (ms.length + 1) (fun k v5 wr => ∃ i : Nat, v5 = .int .i64 i ∧ i + k = ms.length + 1 ∧ i ≤ ms.length ∧ mOf ms x = mOf (ms.drop i) x ∧ wr = w)
  case atStart => exact ⟨0, rfl, by omega, by omega, rfl, rfl⟩
  case round =>
    obtain ⟨i, rfl, hk1, hk2, hf, rfl⟩ := hrel
    have HF := Lib.hid hf
    clear hf
    by_cases hi : i < ms.length
    · have q0 : decide ((i : Int) < (ms.length : Int)) = true := by simp; omega
      obtain ⟨k, rfl, hca⟩ : ∃ k, A = some ⟨k, 0, none⟩ ∧ ∀ j, j < ms.length → wr.cell? ⟨k, j * 2, none⟩ = some (.string (ms.getD j (⟨#[]⟩, 0)).1) ∧ wr.cell? ⟨k, j * 2 + 1, none⟩ = some (.int .i64 (ms.getD j (⟨#[]⟩, 0)).2) := by
        rcases hcell with h | h
        · omega
        · exact h
      have h1 := (hca i hi).1
      have h2 := (hca i hi).2
      have hm := mOf_at ms x i hi
      generalize ms.getD i (⟨#[]⟩, 0) = p at *
      obtain ⟨r, t⟩ := p
      simp only at h1 h2 hm
      have HM := Lib.hid hm
      clear hm hca hcell
      by_cases hr : r = x
      · subst hr
        go_wp2
        go_ret
        have e : placeM ms r = t := by unfold placeM; rw [HF.out, HM.out]; simp
        exact ⟨by rw [e]; rfl, rfl⟩
      · have qx : (r.toList == x.toList) = false := by rw [beq_eq_false_iff_ne]; exact fun e => hr (Pu.toList_inj e)
        go_wp2
        go_roundg (gk - 1)
        case measure => omega
        case rel => exact ⟨i + 1, rfl, by omega, by omega, by rw [HF.out, HM.out, if_neg hr], rfl⟩
    · have q0 : decide ((i : Int) < (ms.length : Int)) = false := by simp; omega
      go_wp2
      go_ret
      obtain rfl : i = ms.length := by omega
      have e : placeM ms x = -1 := by unfold placeM; rw [HF.out, List.drop_length]; rfl
      exact ⟨by rw [e]; rfl, rfl⟩
end
end Go.Proofs.Ytjklgdpffmaamaa.Wr

namespace Go.Proofs.Ytjklgdpffmaamaa.Wr
open Go.RowKit Go.PlainAid Go.Maps Go.Proofs.Ytjklgdpffmaamaa.Base Go.Proofs.Ytjklgdpffmaamaa.Oct Go.Proofs.Ytjklgdpffmaamaa.Nm
open Go.Proofs.YtjklgdpffmaamaaW.PrintWords (blk_cell blk_put blk_frozen own_setCell own_ne own_nil own_other own_type_ne blk_grown)
set_option linter.unusedVariables false
section
variable {P : Program} {ops : Array Oper} {rest : List Oper} {o : Oper} {a : Act} {Q : Exit → Act → World → Prop}
/-- append(v, ys...), ys a row of one's own, nil let in. -/
theorem app_cells {W : World} (base : Nat) (hgd : o.guard = none) (s x : Operand) (t e : TypeId) (z : Value) (size bytes : Nat)
    (ho : o.op = .call { callee := .builtin .append, args := #[s, x], argTypes := #[t, t] })
    (ht : P.underlying t = some (.slice e)) (hinfo : (P.info? e).map (fun i => (i.zero, i.size, i.bytes)) = some (some z, size, bytes)) (hz : z.cells.size = size) (hs0 : 0 < size) (hb0 : 0 < bytes)
    {v vf : Value} {n m b2 : Nat} {xs ys : List Value} (HO : W.ownsRow base e size v n xs) (HF : W.ownsRow b2 e size vf m ys) (h1 : ∀ u ∈ ys, u.oneCell' = true) (hs : a.eval s = v) (hx : a.eval x = vf)
    (hbase : base ≤ W.heap.size) (hl : (n + m) * bytes ≤ 140737488355328)
    (h : ∀ v1 w1, w1.ownsRow base e size v1 (n + m) (xs ++ ys) → W.grownBy w1 v.ownBlock → wpList P ops Q rest (a.put o.dst v1) w1) :
    wpList P ops Q (o :: rest) a W := by
  obtain ⟨i0, hi, hzz⟩ := Option.map_eq_some_iff.1 hinfo
  simp only [Prod.mk.injEq] at hzz
  obtain ⟨hz0, hz1, hz2⟩ := hzz
  have hlen : n + m ≤ 140737488355328 := Nat.le_trans (Nat.le_mul_of_pos_right _ hb0) hl
  have hm : ys.length = m * size := HF.1
  rcases HF.2 with ⟨rfl, h0⟩ | ⟨gf, cap, cur, rfl, hg, hh, hcc⟩
  · have h0 : m = 0 := by simp_all
    subst h0
    obtain rfl : ys = [] := List.eq_nil_of_length_eq_zero (by simpa using hm)
    have hr : (Builtin.append_ #[t, t] o.type #[v, .slice none 0 0]).run P W = .ok v W := by
      rcases HO.2 with ⟨rfl, hn⟩ | ⟨g, cap, cur, rfl, _, _, hnc, _⟩
      · simp [Builtin.append_, run_underlying ht, sizeOf, typeInfo, hi, Builtin.lenOf, Builtin.firstCells]
      · simp [Builtin.append_, run_underlying ht, sizeOf, typeInfo, hi, Builtin.lenOf, Builtin.firstCells, hnc, storeCells]
    refine wpList_plain hgd fun K hK => ?_
    unfold Oper.wp execOp
    simp only [ho, resolve, invoke, builtin, Sem.run_bind, Sem.run_pure, Result.andThen_ok, List.map_toArray, List.map_cons, List.map_nil, hs, hx, hr]
    exact hK _ _ (h v W (by simpa using HO) (World.grownBy.refl W _))
  · refine wpList_append_own W hgd s x t ho base e i0 z size bytes ht hi hz0 hz1 hz2 hz hs0 v n xs hs HO ⟨gf, 0, none⟩ m cap ys hx hm ?_ h1 (by simp only [maxLen]; omega) hl hbase ?_
    · intro j u hj
      exact HF.cells (g := gf) rfl j u hj
    · intro v1 w1 hown hg _
      exact h v1 w1 hown hg
end
theorem info_mark : (Try.prog.info? 131).map (fun i => (i.zero, i.size, i.bytes)) = some (some (.agg #[.string ⟨#[]⟩, .int .i64 0]), 2, 24) := by kernel_rfl
section
variable {base g : Nat} {v : Value} {w : World} {S : ByteArray} {ms : List (ByteArray × Int)}
set_option maxHeartbeats 4000000 in
set_option maxRecDepth 100000 in
theorem rname (R : Rf base w g v S ms) (s : ByteArray) (hs : nameB s = true) (hsm : Small (mOf ms)) :
    Calls Try.prog 40 #[ptr g, .string s] w fun e w' =>
      if 4096 < S.size + (outN (mOf ms) s).size then e = .returned (.int .i64 501) ∧ Rf base w' g v S ms ∧ Below base w w' ∧ Kr w w' g
      else e = .returned (.int .i64 0) ∧ ∃ v', Rf base w' g v' (S ++ outN (mOf ms) s) (ms ++ freshN s S.size ((heads s).take (wroteN (mOf ms) s))) ∧ Below base w w' ∧ Kr w w' g := by
  obtain ⟨n1, n2, n3⟩ := name_first hs
  have hx := R.len
  go_enter Try.func40, Try.ntmps40
  go_wp2_with fail
  refine (rmay s _).mono ?_
  rintro e w1 ⟨rfl, B1⟩
  rw [hs]
  have R1 := R.below B1
  go_upto_block 0 with (fail)
  go_cut [5, 6, 7] (fun v5 v6 v7 wc => ∃ (o l : ByteArray), v5 = .string o ∧ v6 = .string l ∧ ((l = root ∧ o ++ root = outN (mOf ms) s) ∨ (l ≠ root ∧ o = outN (mOf ms) s)) ∧ wc.ownsRow w1.heap.size 131 2 v7 (wroteN (mOf ms) s) (mcells (freshN s S.size ((heads s).take (wroteN (mOf ms) s)))) ∧ Below w1.heap.size w1 wc)
  case first =>
    go_wp2
    go_loopg [5, 6, 7] s.size (fun k v5 v6 v7 wr => ∃ p i : Nat, v5 = .string (s.extract 0 p) ∧ v6 = .string (s.extract p s.size) ∧ p + k = s.size ∧ nameAt s p = true ∧ (placesAt s p).dropLast = (heads s).drop i ∧ i ≤ (heads s).length ∧ i ≤ p ∧ findP (mOf ms) s (heads s) 0 = findP (mOf ms) s ((heads s).drop i) i ∧ wr.ownsRow w1.heap.size 131 2 v7 i (mcells (freshN s S.size ((heads s).take i))) ∧ Below w1.heap.size w1 wr)
    case atStart => exact ⟨0, 0, by simp; rfl, by rw [ext0], by omega, n3, by simp [heads, places], by omega, by omega, by simp, Go.Proofs.YtjklgdpffmaamaaW.PrintWords.own_nil _ _ _ _, Below.refl _ _⟩
    case round =>
      obtain ⟨p, i, rfl, rfl, hk, hn, hpl, hi1, hi2, hf, hfr, hb⟩ := hrel
      have HF := Lib.hid hf
      have HPL := Lib.hid hpl
      have HN := Lib.hid hn
      clear hf hpl hn
      have zo : (s.extract 0 p).size = p := by rw [ByteArray.size_extract]; omega
      have zl : (s.extract p s.size).size = s.size - p := by rw [ByteArray.size_extract]; omega
      have hp : p < s.size := by
        by_cases h : p < s.size
        · exact h
        · have := HN.out; rw [nameAt_out (by omega)] at this; cases this
      have hbl : bt (s.extract p s.size) 0 = bt s p := by
        rw [bt_data, bt_data, ext_list, List.getD_eq_getElem?_getD, List.getD_eq_getElem?_getD, List.getElem?_drop, List.getElem?_take_of_lt (by omega), Nat.add_zero]
      by_cases h0 : bt s p = 0
      · have he : p + 1 = s.size := by have := HN.out; rw [nameAt_end hp h0] at this; simpa using this
        have er := ext_root he h0
        rw [er]
        go_wp2
        go_meet
        case rel =>
          have hd : (heads s).drop i = [] := by rw [← HPL.out, placesAt_end hp h0]; rfl
          have hi : i = (heads s).length := by
            have := congrArg List.length hd
            rw [List.length_drop, List.length_nil] at this; omega
          have hnone : findP (mOf ms) s (heads s) 0 = none := by rw [HF.out, hd]; rfl
          have ew : wroteN (mOf ms) s = i := by unfold wroteN; rw [hnone, hi]
          have eo : outN (mOf ms) s = s := by unfold outN; rw [hnone]
          exact ⟨s.extract 0 p, root, rfl, rfl, .inl ⟨rfl, by rw [eo, ← er, ext_join s 0 p s.size (by omega) (by omega), ext0]⟩, by rw [ew]; exact hfr, hb⟩
      · have hne : s.extract p s.size ≠ root := fun e => h0 (by rw [← hbl, e]; exact root_bt)
        have q0 : ((s.extract p s.size).toList == [0]) = false := by
          rw [beq_eq_false_iff_ne]; exact fun e => hne (Pu.toList_inj (e.trans (show [0] = root.toList by decide +kernel)))
        have h63 : bt s p ≤ 63 := by
          by_cases h1 : 63 < bt s p
          · have := HN.out; rw [nameAt_bad hp h1] at this; cases this
          · omega
        obtain ⟨k, hk'⟩ : ∃ k : Nat, bt s p = (k : Int) := ⟨(bt s p).toNat, by have := bt_nonneg s p; omega⟩
        have hn2 := HN.out
        rw [nameAt_next hp h0 h63, hk', Int.toNat_natCast] at hn2
        have hq : p + 1 + k < s.size := by
          by_cases h : p + 1 + k < s.size
          · exact h
          · rw [nameAt_out (by omega)] at hn2; cases hn2
        have hd : (heads s).drop i = p :: (placesAt s (p + 1 + k)).dropLast := by
          rw [← HPL.out, placesAt_next hp h0 h63, hk', Int.toNat_natCast, List.dropLast_cons_of_ne_nil (places_ne _ _ hn2)]
        have hil : i < (heads s).length := by
          have := congrArg List.length hd
          rw [List.length_drop, List.length_cons] at this; omega
        have hd2 : (placesAt s (p + 1 + k)).dropLast = (heads s).drop (i + 1) := by
          rw [List.drop_eq_getElem_cons hil] at hd
          exact (List.cons.inj hd).2.symm
        have htk : (heads s).take (i + 1) = (heads s).take i ++ [p] := by
          rw [List.take_succ_eq_append_getElem hil]
          rw [List.drop_eq_getElem_cons hil] at hd
          rw [(List.cons.inj hd).1]
        have e1 : s.extract 0 p ++ (s.extract p s.size).extract 0 (1 + k) = s.extract 0 (p + 1 + k) := by
          apply ext_of
          rw [app_list, ext_list, ext_list, ext_list, ext_list]
          have := ext_join s 0 p (p + 1 + k) (by omega) (by omega)
          have h2 := congrArg (fun z : ByteArray => z.data.toList) this
          simp only [app_list, ext_list] at h2
          rw [← h2]
          congr 1
          rw [List.drop_zero, List.take_drop, List.take_take, show min (p + (1 + k)) s.size = p + 1 + k by omega]
        have e2 : (s.extract p s.size).extract (1 + k) (s.extract p s.size).size = s.extract (p + 1 + k) s.size := by
          apply ext_of
          rw [zl, ext_list, ext_list, ext_list, List.take_of_length_le (by rw [List.length_drop, List.length_take, len_data]; omega), List.drop_drop, show p + (1 + k) = p + 1 + k by omega]
        have hk63 : k ≤ 63 := by omega
        rw [hk'] at hbl
        have HNE := Lib.hid hne
        have HD := Lib.hid hd
        have HD2 := Lib.hid hd2
        have HTK := Lib.hid htk
        have HN2 := Lib.hid hn2
        clear hne hd hd2 htk hn2 hk'
        generalize hL : s.extract p s.size = l at *
        generalize hO : s.extract 0 p = o at *
        have HL := Lib.hid hL
        have HO := Lib.hid hO
        have E1 := Lib.hid e1
        have E2 := Lib.hid e2
        clear hL hO e1 e2
        have R2 := R1.below hb
        go_wp2_with fail
        refine (rplace R2 l).mono ?_
        rintro e w2 ⟨rfl, rfl⟩
        cases hmo : mOf ms l with
        | some t =>
          have ht := hsm _ _ hmo
          have pm : placeM ms l = t := by unfold placeM; rw [hmo]; rfl
          rw [pm]
          have q1 : decide ((0 : Int) ≤ t) = true := by simp; omega
          have HMO := Lib.hid hmo
          clear hmo pm
          go_wp2_with fail
          refine (rbe2 (49152 + t) _).mono ?_
          rintro e w3 ⟨rfl, B3⟩
          have zb := p16_size (49152 + t)
          have n1 : ¬ 9223372036854775807 < o.size + (p16 (49152 + t)).size := by omega
          go_wp2
          go_meet
          case rel =>
            have hfound : findP (mOf ms) s (heads s) 0 = some (i, p, t) := by rw [HF.out, HD.out, findP, HL.out, HMO.out]
            have ew : wroteN (mOf ms) s = i := by unfold wroteN; rw [hfound]
            have eo : outN (mOf ms) s = o ++ p16 (49152 + t) := by
              unfold outN; rw [hfound]
              show s.extract 0 p ++ p16 (Go.bits .or .i64 49152 t) = _
              rw [HO.out, or_place t ht.1 ht.2]
            exact ⟨_, l, rfl, rfl, .inr ⟨HNE.out, eo.symm⟩, by rw [ew]; exact Sl.own_below hfr B3, hb.trans (B3.mono hb.size)⟩
        | none =>
          have pm : placeM ms l = -1 := by unfold placeM; rw [hmo]; rfl
          rw [pm]
          have HMO := Lib.hid hmo
          clear hmo pm
          have c0 : w2.cell? ⟨g, 0, none⟩ = some (.string S) := (blk_cell R2.blk 0).trans rfl
          have q2 : decide ((S.size : Int) + (p : Int) ≤ 16383) = true := by simp; omega
          have sb := hb.size
          have qi : decide (0 < l.size) = true := decide_eq_true (by omega)
          have hgb := get_bt l
          have qs : decide ((1 : Int) + (k : Int) ≤ (l.size : Int)) = true := by simp; omega
          have zx : (l.extract 0 (1 + k)).size = 1 + k := by rw [ByteArray.size_extract]; omega
          have n1 : ¬ 9223372036854775807 < o.size + (l.extract 0 (1 + k)).size := by omega
          go_wp2_with (at_builtin; refine Sl.append_row (w0 := w1) w1.heap.size rfl _ _ 76 131 (.agg #[.string ⟨#[]⟩, .int .i64 0]) 2 24 rfl Try.underlying76 info_mark rfl (by decide) hfr #[.string l, .int .i64 ((S.size : Int) + (p : Int))] rfl rfl rfl ?h1 hb sb ?hn ?hl ?_)
          case h1 => exact ⟨rfl, rfl⟩
          case hn => omega
          case hl => omega
          intro v3 w3 hown3 hb3
          go_wp2
          go_roundg (s.size - (p + 1 + k))
          case measure => omega
          case rel =>
            refine ⟨p + 1 + k, i + 1, by rw [← E1.out], by rw [← E2.out, zl], by omega, HN2.out, HD2.out, by omega, by omega, by rw [HF.out, HD.out, findP, HL.out, HMO.out, HD2.out], ?_, hb3⟩
            rw [HTK.out]
            unfold freshN at hown3 ⊢
            rw [List.map_append, mcells_app]
            simpa [mcells, HL.out] using hown3
  case rest =>
  obtain ⟨o, l, rfl, rfl, hol, hfr, hb⟩ := hcut
  have R2 := R1.below hb
  have hso := outN_size (mOf ms) s hs
  have hw1 : wroteN (mOf ms) s ≤ 255 := by
    have h1 := places_pos hs
    have h2 := placesAt_len s s.size 0 (by omega)
    obtain ⟨K, hK⟩ : ∃ K, (places s).length = K + 1 := ⟨(places s).length - 1, by omega⟩
    have h3 := wroteN_le (mOf ms) s hK
    unfold places at hK
    omega
  have hop : 1 ≤ (outN (mOf ms) s).size := out_pos (mOf ms) s hs
  have hfl : (freshN s S.size ((heads s).take (wroteN (mOf ms) s))).length = wroteN (mOf ms) s := by
    have := hfr.1
    rw [mcells_len] at this; omega
  generalize hfe : freshN s S.size ((heads s).take (wroteN (mOf ms) s)) = fr at *
  generalize hwe : wroteN (mOf ms) s = nw at *
  generalize hoe : outN (mOf ms) s = out at *
  have HFE := Lib.hid hfe
  have HWE := Lib.hid hwe
  have HOE := Lib.hid hoe
  clear hfe hwe hoe
  have c0 : wc.cell? ⟨g, 0, none⟩ = some (.string S) := (blk_cell R2.blk 0).trans rfl
  have c1 : wc.cell? ⟨g, 1, none⟩ = some v := (blk_cell R2.blk 1).trans rfl
  have f0 := blk_frozen R2.blk 0
  have f1 := blk_frozen R2.blk 1
  have hfew := R2.few
  have hown := R2.own
  have hblk := R2.blk
  have hbase := R2.base_le
  obtain ⟨A, cA, rfl⟩ := Sl.own_slice R2.own
  have n2 : ¬ 9223372036854775807 < S.size + out.size := by omega
  have hoz : o.size ≤ 300 := by
    rcases hol with ⟨_, rfl⟩ | ⟨_, rfl⟩
    · rw [ByteArray.size_append] at hso; omega
    · omega
  have rootlit : root = ⟨#[0]⟩ := rfl
  by_cases hfit : 4096 < S.size + out.size
  · have q : decide ((4096 : Int) < (S.size : Int) + (out.size : Int)) = true := by simp; omega
    have HFIT : 4096 < S.size + (outN (mOf ms) s).size := by rw [HOE.out]; exact hfit
    clear hfit
    rcases hol with ⟨rfl, ho⟩ | ⟨hl, rfl⟩
    · have q0 : (root.toList == [0]) = true := by decide +kernel
      have n1 : ¬ 9223372036854775807 < o.size + 1 := by omega
      go_wp2
      go_ret
      exact ⟨rfl, R2, (B1.mono R.base_le).trans (hb.mono R1.base_le), (Kr.below B1).trans (Kr.below hb)⟩
    · have q0 : (l.toList == [0]) = false := by
        rw [beq_eq_false_iff_ne]; exact fun e => hl (Pu.toList_inj (e.trans (show [0] = root.toList by decide +kernel)))
      go_wp2
      go_ret
      exact ⟨rfl, R2, (B1.mono R.base_le).trans (hb.mono R1.base_le), (Kr.below B1).trans (Kr.below hb)⟩
  · have q : decide ((4096 : Int) < (S.size : Int) + (out.size : Int)) = false := by simp; omega
    have HFIT : ¬ 4096 < S.size + (outN (mOf ms) s).size := by rw [HOE.out]; exact hfit
    have hfs : S.size + out.size ≤ 4096 := by omega
    clear hfit
    have hown2 := own_setCell hown (own_ne hown hblk (by decide)) (p := ⟨g, 0, none⟩) (.string (S ++ out))
    have hfr2 := own_setCell hfr (own_ne hfr hblk (by decide)) (p := ⟨g, 0, none⟩) (.string (S ++ out))
    have hblk2 := blk_put hblk 0 (.string (S ++ out)) rfl
    have d1 := (blk_cell hblk2 1).trans rfl
    have B2 : Below base wc (wc.setCell ⟨g, 0, none⟩ (.string (S ++ out))) := (Below.refl base wc).setCell R2.gb _
    have K2 : Kr wc (wc.setCell ⟨g, 0, none⟩ (.string (S ++ out))) g := ⟨by simp [World.setCell], fun k hk h1 h2 => Below.heap_setCell wc _ _ k h1⟩
    have hgg : some g ≠ (Value.slice A ms.length cA).ownBlock := own_ne hown hblk (by decide)
    have fin : ∀ v1 w3, w3.ownsRow base 131 2 v1 (ms.length + nw) (mcells ms ++ mcells fr) → (wc.setCell ⟨g, 0, none⟩ (.string (S ++ out))).grownBy w3 (Value.slice A ms.length cA).ownBlock →
        Rf base (w3.setCell ⟨g, 1, none⟩ v1) g v1 (S ++ out) (ms ++ fr) ∧ Below base w (w3.setCell ⟨g, 1, none⟩ v1) ∧ Kr w (w3.setCell ⟨g, 1, none⟩ v1) g ∧ w3.frozen? ⟨g, 1, none⟩ = false := by
      intro v1 w3 ho3 hg3
      have b3 := blk_grown hblk2 hg3 hgg
      have hl3 : (ms ++ fr).length = ms.length + nw := by rw [List.length_append, hfl]
      refine ⟨⟨R2.gb, blk_put b3 1 v1 rfl, ?_, by rw [ByteArray.size_append]; omega, by rw [hl3, ByteArray.size_append]; omega⟩, ?_, ?_, blk_frozen b3 1⟩
      · rw [hl3, mcells_app]
        exact own_setCell ho3 (own_ne ho3 b3 (by decide)) _
      · exact ((B1.mono R.base_le).trans (hb.mono R1.base_le)).trans ((B2.grown hg3 (Nat.le_trans hbase B2.size) (fun k e => Sl.own_base hown k e)).setCell R2.gb _)
      · refine ((Kr.below B1).trans (Kr.below hb)).trans (K2.trans ⟨by have := hg3.size; simp [World.setCell] at this ⊢; omega, fun k hk h1 h2 => ?_⟩)
        refine (Below.heap_setCell w3 _ _ k h1).trans (hg3.block k hk ?_)
        intro e
        obtain ⟨cells, h⟩ := Go.Proofs.YtjklgdpffmaamaaW.PrintWords.own_typed hown2 k e.symm
        exact h2 cells h
    have FIN := Lib.hid fin
    clear fin
    rcases hol with ⟨rfl, ho⟩ | ⟨hl, rfl⟩
    · have q0 : (root.toList == [0]) = true := by decide +kernel
      have n1 : ¬ 9223372036854775807 < o.size + 1 := by omega
      go_wp2_with (at_builtin; refine app_cells base rfl _ _ 76 131 (.agg #[.string ⟨#[]⟩, .int .i64 0]) 2 24 rfl Try.underlying76 info_mark rfl (by decide) (by decide) hown2 hfr2 (mcells_one _) rfl rfl (by simpa [World.setCell] using hbase) ?hl ?_)
      case hl => omega
      intro v1 w3 ho3 hg3
      obtain ⟨F1, F2, F3, F4⟩ := FIN.out v1 w3 ho3 hg3
      have d3 := hg3.cell d1 hgg
      obtain ⟨A1, cc1, rfl⟩ := Sl.own_slice ho3
      go_wp2
      go_ret
      exact ⟨rfl, ⟨_, by rw [HOE.out, HWE.out, HFE.out]; exact F1⟩, F2, F3⟩
    · have q0 : (l.toList == [0]) = false := by
        rw [beq_eq_false_iff_ne]; exact fun e => hl (Pu.toList_inj (e.trans (show [0] = root.toList by decide +kernel)))
      go_wp2_with (at_builtin; refine app_cells base rfl _ _ 76 131 (.agg #[.string ⟨#[]⟩, .int .i64 0]) 2 24 rfl Try.underlying76 info_mark rfl (by decide) (by decide) hown2 hfr2 (mcells_one _) rfl rfl (by simpa [World.setCell] using hbase) ?hl ?_)
      case hl => omega
      intro v1 w3 ho3 hg3
      obtain ⟨F1, F2, F3, F4⟩ := FIN.out v1 w3 ho3 hg3
      have d3 := hg3.cell d1 hgg
      obtain ⟨A1, cc1, rfl⟩ := Sl.own_slice ho3
      go_wp2
      go_ret
      exact ⟨rfl, ⟨_, by rw [HOE.out, HWE.out, HFE.out]; exact F1⟩, F2, F3⟩
end
end Go.Proofs.Ytjklgdpffmaamaa.Wr

namespace Go.Proofs.Ytjklgdpffmaamaa.Wm
open Go.RowKit Go.PlainAid Go.Maps Go.Proofs.Ytjklgdpffmaamaa.Base Go.Proofs.Ytjklgdpffmaamaa.Oct Go.Proofs.Ytjklgdpffmaamaa.Nm Go.Proofs.Ytjklgdpffmaamaa.Wr
open Go.Proofs.YtjklgdpffmaamaaW.PrintWords (blk_cell blk_below blk_put blk_frozen blk_ne blk_new blk_lt blk_grown)
set_option linter.unusedVariables false
theorem rSt_long {S : ByteArray} {m : ByteArray → Option Int} {r : Rr} (h : 4096 < S.size + (outN m r.name).size + 10 + r.data.size) : (rSt ⟨S, m, false⟩ r).lg = true := by
  cases hl : (rSt ⟨S, m, false⟩ r).lg with
  | true => rfl
  | false =>
    have := (rSt_ok hl).2.2.1
    have : S.size + (outN m r.name).size + 10 + r.data.size ≤ 4096 := this
    omega
theorem rSt_short {S : ByteArray} {m : ByteArray → Option Int} {r : Rr} (hn : nameB r.name = true) (h : ¬ 4096 < S.size + (outN m r.name).size + 10 + r.data.size) : (rSt ⟨S, m, false⟩ r) = ⟨S ++ outN m r.name ++ (p16 r.type ++ p16 r.cls) ++ (p32 r.ttl ++ p16 (r.data.size : Int) ++ r.data), putN m r.name S.size, false⟩ := by
  have z4 : (p16 r.type ++ p16 r.cls).size = 4 := by rw [ByteArray.size_append, p16_size, p16_size]
  have z6 : (p32 r.ttl ++ p16 (r.data.size : Int) ++ r.data).size = 6 + r.data.size := by simp only [ByteArray.size_append, p16_size, p32_size]
  unfold rSt qSt nameSt
  rw [if_pos hn, if_neg (by show ¬ 4096 < S.size + (outN m r.name).size; omega)]
  unfold rawSt
  have c1 : ¬ 4096 < (S ++ outN m r.name).size + (p16 r.type ++ p16 r.cls).size := by rw [ByteArray.size_append, z4]; omega
  have c2 : ¬ 4096 < (S ++ outN m r.name ++ (p16 r.type ++ p16 r.cls)).size + (p32 r.ttl ++ p16 (r.data.size : Int) ++ r.data).size := by rw [ByteArray.size_append, ByteArray.size_append, z4, z6]; omega
  simp only [if_neg c1, if_neg c2]
section
variable {base g : Nat} {w w' : World} {v : Value} {S : ByteArray} {ms : List (ByteArray × Int)}
/-- What the writing of a part leaves: all is well, or there are too many bytes. -/
def WPost (base : Nat) (w : World) (g : Nat) (st : St) (e : Ending) (yes no : Value) (w' : World) : Prop :=
  Below base w w' ∧ Kr w w' g ∧ (st.lg = true ∧ e = .returned no ∨ st.lg = false ∧ e = .returned yes ∧ ∃ v' ms', Rf base w' g v' st.S ms' ∧ mOf ms' = st.m ∧ Small st.m)
set_option maxHeartbeats 4000000 in
set_option maxRecDepth 100000 in
theorem rrc (R : Rf base w g v S ms) (r : Rr) (hn : nameB r.name = true) (hsm : Small (mOf ms)) (hd : r.data.size ≤ 65535) :
    Calls Try.prog 42 #[ptr g, .agg #[.string r.name, .int .i64 r.type, .int .i64 r.cls, .int .i64 r.ttl, .string r.data]] w fun e w' => WPost base w g (rSt ⟨S, mOf ms, false⟩ r) e (.bool true) (.bool false) w' := by
  have hx := R.len
  have hsn := name_size hn
  have hbase := R.base_le
  have Bx : Below w.heap.size w (w.alloc (.cells #[.string r.name, .int .i64 r.type, .int .i64 r.cls, .int .i64 r.ttl, .string r.data] 53)) := (Below.refl _ _).alloc (Nat.le_refl _) _
  have pr := blk_new w (.cells #[.string r.name, .int .i64 r.type, .int .i64 r.cls, .int .i64 r.ttl, .string r.data] 53)
  have R1 := R.below Bx
  have K1 := Kr.below (g := g) Bx
  have B1 := Bx.mono hbase
  have ho := outN_size (mOf ms) r.name hn
  have HBS := Lib.hid (show ∀ W, Below base w W → base ≤ W.heap.size from fun W h => Nat.le_trans hbase h.size)
  go_enter Try.func42, Try.ntmps42
  go_wp2_with fail
  refine (rname R1 r.name hn hsm).mono ?_
  generalize w.alloc (.cells #[.string r.name, .int .i64 r.type, .int .i64 r.cls, .int .i64 r.ttl, .string r.data] 53) = w1 at *
  have hgr : g ≠ w.heap.size := Nat.ne_of_lt (blk_lt R.blk)
  generalize w.heap.size = kr at *
  rintro e w2 hh
  by_cases hl : 4096 < S.size + (outN (mOf ms) r.name).size
  · rw [if_pos hl] at hh
    obtain ⟨rfl, R2, B2, K2⟩ := hh
    have HL := Lib.hid (rSt_long (S := S) (m := mOf ms) (r := r) (by omega))
    clear hl R2
    go_wp2_with fail
    go_ret
    exact ⟨B1.trans B2, K1.trans K2, .inl ⟨HL.out, rfl⟩⟩
  · rw [if_neg hl] at hh
    obtain ⟨rfl, v2, R2, B2, K2⟩ := hh
    replace B2 := B1.trans B2
    have p2 : w2.heap[kr]? = some (.cells #[.string r.name, .int .i64 r.type, .int .i64 r.cls, .int .i64 r.ttl, .string r.data] 53 (0, 0)) := (K2.block kr (blk_lt pr) (Ne.symm hgr) (fun cs q => by rw [pr] at q; injection q with q; injection q with _ q; exact absurd q (by decide))).trans pr
    replace K2 := K1.trans K2
    clear R1 B1 K1 pr Bx
    have zT : (p16 r.type ++ p16 r.cls ++ p32 r.ttl ++ p16 (r.data.size : Int) ++ r.data).size = 10 + r.data.size := by simp only [ByteArray.size_append, p16_size, p32_size]
    have zO : (S ++ outN (mOf ms) r.name).size = S.size + (outN (mOf ms) r.name).size := ByteArray.size_append
    by_cases hl2 : 4096 < S.size + (outN (mOf ms) r.name).size + 10 + r.data.size
    · have HL := Lib.hid (rSt_long (S := S) (m := mOf ms) (r := r) hl2)
      have HC : 4096 < (S ++ outN (mOf ms) r.name).size + (p16 r.type ++ p16 r.cls ++ p32 r.ttl ++ p16 (r.data.size : Int) ++ r.data).size := by omega
      have HC2 := Lib.hid HC
      clear HC zT zO hl2 hl
      have za := p16_size r.type
      have zb := p16_size r.cls
      have zc := p32_size r.ttl
      have zd := p16_size (r.data.size : Int)
      have nn0 : ¬ 9223372036854775807 < (p16 r.type).size + (p16 r.cls).size := by (try simp only [ByteArray.size_append]); omega
      have nn1 : ¬ 9223372036854775807 < (p16 r.type ++ p16 r.cls).size + (p32 r.ttl).size := by (try simp only [ByteArray.size_append]); omega
      have nn2 : ¬ 9223372036854775807 < (p16 r.type).size + (p16 r.cls).size + (p32 r.ttl).size := by (try simp only [ByteArray.size_append]); omega
      have nn3 : ¬ 9223372036854775807 < (p16 r.type ++ p16 r.cls ++ p32 r.ttl).size + (p16 (r.data.size : Int)).size := by (try simp only [ByteArray.size_append]); omega
      have nn4 : ¬ 9223372036854775807 < (p16 r.type).size + (p16 r.cls).size + (p32 r.ttl).size + (p16 (r.data.size : Int)).size := by (try simp only [ByteArray.size_append]); omega
      have nn5 : ¬ 9223372036854775807 < (p16 r.type ++ p16 r.cls ++ p32 r.ttl ++ p16 (r.data.size : Int)).size + (r.data).size := by (try simp only [ByteArray.size_append]); omega
      have nn6 : ¬ 9223372036854775807 < (p16 r.type).size + (p16 r.cls).size + (p32 r.ttl).size + (p16 (r.data.size : Int)).size + (r.data).size := by (try simp only [ByteArray.size_append]); omega
      clear za zb zc zd
      go_upto_region 3 with (fail)
      have c1 : w2.cell? ⟨kr, 1, none⟩ = some (.int .i64 r.type) := (blk_cell p2 1).trans rfl
      have c2 : w2.cell? ⟨kr, 2, none⟩ = some (.int .i64 r.cls) := (blk_cell p2 2).trans rfl
      have c3 : w2.cell? ⟨kr, 3, none⟩ = some (.int .i64 r.ttl) := (blk_cell p2 3).trans rfl
      have c4 : w2.cell? ⟨kr, 4, none⟩ = some (.string r.data) := (blk_cell p2 4).trans rfl
      have nw1 := World.new_ne w2 ⟨kr, 1, none⟩ c1
      have nw2 := World.new_ne w2 ⟨kr, 2, none⟩ c2
      have nw3 := World.new_ne w2 ⟨kr, 3, none⟩ c3
      have nw4 := World.new_ne w2 ⟨kr, 4, none⟩ c4
      replace p2 := blk_below p2 ((Below.refl w2.heap.size w2).drew)
      replace R2 := R2.below ((Below.refl w2.heap.size w2).drew)
      replace K2 := K2.trans (Kr.below (g := g) ((Below.refl w2.heap.size w2).drew))
      replace B2 := B2.drew
      go_region_held3 (fun w' => w'.cell? ⟨kr, 1, none⟩ = some (.int .i64 r.type) ∧ w'.cell? ⟨kr, 2, none⟩ = some (.int .i64 r.cls) ∧ w'.cell? ⟨kr, 3, none⟩ = some (.int .i64 r.ttl) ∧ w'.cell? ⟨kr, 4, none⟩ = some (.string r.data))
        (first | with_reducible exact ⟨c1, c2, c3, c4⟩ | with_reducible exact ⟨j1, j2, j3, j4⟩ | (go_keep; done))
        (first
          | (go_at_call 41; with_reducible refine (rbe2 r.type _).mono ?_; rintro e w5 ⟨rfl, Bx⟩; replace p2 := blk_below p2 Bx; replace R2 := R2.below Bx; replace K2 := K2.trans (Kr.below Bx); replace B2 := B2.trans (Bx.mono (HBS.out _ B2)); clear Bx; (try clear j1 j2 j3 j4 m1 m2 m3 m4); have j1 : w5.cell? ⟨kr, 1, none⟩ = some (.int .i64 r.type) := (blk_cell p2 1).trans rfl; have j2 : w5.cell? ⟨kr, 2, none⟩ = some (.int .i64 r.cls) := (blk_cell p2 2).trans rfl; have j3 : w5.cell? ⟨kr, 3, none⟩ = some (.int .i64 r.ttl) := (blk_cell p2 3).trans rfl; have j4 : w5.cell? ⟨kr, 4, none⟩ = some (.string r.data) := (blk_cell p2 4).trans rfl; have m1 := World.new_ne w5 ⟨kr, 1, none⟩ j1; have m2 := World.new_ne w5 ⟨kr, 2, none⟩ j2; have m3 := World.new_ne w5 ⟨kr, 3, none⟩ j3; have m4 := World.new_ne w5 ⟨kr, 4, none⟩ j4)
          | (go_at_call 41; with_reducible refine (rbe2 r.cls _).mono ?_; rintro e w5 ⟨rfl, Bx⟩; replace p2 := blk_below p2 Bx; replace R2 := R2.below Bx; replace K2 := K2.trans (Kr.below Bx); replace B2 := B2.trans (Bx.mono (HBS.out _ B2)); clear Bx; (try clear j1 j2 j3 j4 m1 m2 m3 m4); have j1 : w5.cell? ⟨kr, 1, none⟩ = some (.int .i64 r.type) := (blk_cell p2 1).trans rfl; have j2 : w5.cell? ⟨kr, 2, none⟩ = some (.int .i64 r.cls) := (blk_cell p2 2).trans rfl; have j3 : w5.cell? ⟨kr, 3, none⟩ = some (.int .i64 r.ttl) := (blk_cell p2 3).trans rfl; have j4 : w5.cell? ⟨kr, 4, none⟩ = some (.string r.data) := (blk_cell p2 4).trans rfl; have m1 := World.new_ne w5 ⟨kr, 1, none⟩ j1; have m2 := World.new_ne w5 ⟨kr, 2, none⟩ j2; have m3 := World.new_ne w5 ⟨kr, 3, none⟩ j3; have m4 := World.new_ne w5 ⟨kr, 4, none⟩ j4)
          | (go_at_call 41; with_reducible refine (rbe4 r.ttl _).mono ?_; rintro e w5 ⟨rfl, Bx⟩; replace p2 := blk_below p2 Bx; replace R2 := R2.below Bx; replace K2 := K2.trans (Kr.below Bx); replace B2 := B2.trans (Bx.mono (HBS.out _ B2)); clear Bx; (try clear j1 j2 j3 j4 m1 m2 m3 m4); have j1 : w5.cell? ⟨kr, 1, none⟩ = some (.int .i64 r.type) := (blk_cell p2 1).trans rfl; have j2 : w5.cell? ⟨kr, 2, none⟩ = some (.int .i64 r.cls) := (blk_cell p2 2).trans rfl; have j3 : w5.cell? ⟨kr, 3, none⟩ = some (.int .i64 r.ttl) := (blk_cell p2 3).trans rfl; have j4 : w5.cell? ⟨kr, 4, none⟩ = some (.string r.data) := (blk_cell p2 4).trans rfl; have m1 := World.new_ne w5 ⟨kr, 1, none⟩ j1; have m2 := World.new_ne w5 ⟨kr, 2, none⟩ j2; have m3 := World.new_ne w5 ⟨kr, 3, none⟩ j3; have m4 := World.new_ne w5 ⟨kr, 4, none⟩ j4)
          | (go_at_call 41; with_reducible refine (rbe2 (r.data.size : Int) _).mono ?_; rintro e w5 ⟨rfl, Bx⟩; replace p2 := blk_below p2 Bx; replace R2 := R2.below Bx; replace K2 := K2.trans (Kr.below Bx); replace B2 := B2.trans (Bx.mono (HBS.out _ B2)); clear Bx; (try clear j1 j2 j3 j4 m1 m2 m3 m4); have j1 : w5.cell? ⟨kr, 1, none⟩ = some (.int .i64 r.type) := (blk_cell p2 1).trans rfl; have j2 : w5.cell? ⟨kr, 2, none⟩ = some (.int .i64 r.cls) := (blk_cell p2 2).trans rfl; have j3 : w5.cell? ⟨kr, 3, none⟩ = some (.int .i64 r.ttl) := (blk_cell p2 3).trans rfl; have j4 : w5.cell? ⟨kr, 4, none⟩ = some (.string r.data) := (blk_cell p2 4).trans rfl; have m1 := World.new_ne w5 ⟨kr, 1, none⟩ j1; have m2 := World.new_ne w5 ⟨kr, 2, none⟩ j2; have m3 := World.new_ne w5 ⟨kr, 3, none⟩ j3; have m4 := World.new_ne w5 ⟨kr, 4, none⟩ j4)
          | (go_at_call 39; with_reducible refine (rrawLong R2 _ HC2.out).mono ?_; rintro e w6 ⟨rfl, rfl⟩))
      go_wp2_with fail
      go_ret
      exact ⟨B2, K2, .inl ⟨HL.out, rfl⟩⟩
    · have HE := Lib.hid (rSt_short (S := S) (m := mOf ms) (r := r) hn hl2)
      have HC : (S ++ outN (mOf ms) r.name).size + (p16 r.type ++ p16 r.cls ++ p32 r.ttl ++ p16 (r.data.size : Int) ++ r.data).size ≤ 4096 := by omega
      have HC2 := Lib.hid HC
      have HSM := Lib.hid (hsm.put r.name S.size (by omega))
      have HM := Lib.hid (mOf_put ms r.name S.size)
      clear HC zT zO hl2 hl
      have za := p16_size r.type
      have zb := p16_size r.cls
      have zc := p32_size r.ttl
      have zd := p16_size (r.data.size : Int)
      have nn0 : ¬ 9223372036854775807 < (p16 r.type).size + (p16 r.cls).size := by (try simp only [ByteArray.size_append]); omega
      have nn1 : ¬ 9223372036854775807 < (p16 r.type ++ p16 r.cls).size + (p32 r.ttl).size := by (try simp only [ByteArray.size_append]); omega
      have nn2 : ¬ 9223372036854775807 < (p16 r.type).size + (p16 r.cls).size + (p32 r.ttl).size := by (try simp only [ByteArray.size_append]); omega
      have nn3 : ¬ 9223372036854775807 < (p16 r.type ++ p16 r.cls ++ p32 r.ttl).size + (p16 (r.data.size : Int)).size := by (try simp only [ByteArray.size_append]); omega
      have nn4 : ¬ 9223372036854775807 < (p16 r.type).size + (p16 r.cls).size + (p32 r.ttl).size + (p16 (r.data.size : Int)).size := by (try simp only [ByteArray.size_append]); omega
      have nn5 : ¬ 9223372036854775807 < (p16 r.type ++ p16 r.cls ++ p32 r.ttl ++ p16 (r.data.size : Int)).size + (r.data).size := by (try simp only [ByteArray.size_append]); omega
      have nn6 : ¬ 9223372036854775807 < (p16 r.type).size + (p16 r.cls).size + (p32 r.ttl).size + (p16 (r.data.size : Int)).size + (r.data).size := by (try simp only [ByteArray.size_append]); omega
      clear za zb zc zd
      go_upto_region 3 with (fail)
      have c1 : w2.cell? ⟨kr, 1, none⟩ = some (.int .i64 r.type) := (blk_cell p2 1).trans rfl
      have c2 : w2.cell? ⟨kr, 2, none⟩ = some (.int .i64 r.cls) := (blk_cell p2 2).trans rfl
      have c3 : w2.cell? ⟨kr, 3, none⟩ = some (.int .i64 r.ttl) := (blk_cell p2 3).trans rfl
      have c4 : w2.cell? ⟨kr, 4, none⟩ = some (.string r.data) := (blk_cell p2 4).trans rfl
      have nw1 := World.new_ne w2 ⟨kr, 1, none⟩ c1
      have nw2 := World.new_ne w2 ⟨kr, 2, none⟩ c2
      have nw3 := World.new_ne w2 ⟨kr, 3, none⟩ c3
      have nw4 := World.new_ne w2 ⟨kr, 4, none⟩ c4
      replace p2 := blk_below p2 ((Below.refl w2.heap.size w2).drew)
      replace R2 := R2.below ((Below.refl w2.heap.size w2).drew)
      replace K2 := K2.trans (Kr.below (g := g) ((Below.refl w2.heap.size w2).drew))
      replace B2 := B2.drew
      go_region_held3 (fun w' => w'.cell? ⟨kr, 1, none⟩ = some (.int .i64 r.type) ∧ w'.cell? ⟨kr, 2, none⟩ = some (.int .i64 r.cls) ∧ w'.cell? ⟨kr, 3, none⟩ = some (.int .i64 r.ttl) ∧ w'.cell? ⟨kr, 4, none⟩ = some (.string r.data))
        (first | with_reducible exact ⟨c1, c2, c3, c4⟩ | with_reducible exact ⟨j1, j2, j3, j4⟩ | (go_keep; done))
        (first
          | (go_at_call 41; with_reducible refine (rbe2 r.type _).mono ?_; rintro e w5 ⟨rfl, Bx⟩; replace p2 := blk_below p2 Bx; replace R2 := R2.below Bx; replace K2 := K2.trans (Kr.below Bx); replace B2 := B2.trans (Bx.mono (HBS.out _ B2)); clear Bx; (try clear j1 j2 j3 j4 m1 m2 m3 m4); have j1 : w5.cell? ⟨kr, 1, none⟩ = some (.int .i64 r.type) := (blk_cell p2 1).trans rfl; have j2 : w5.cell? ⟨kr, 2, none⟩ = some (.int .i64 r.cls) := (blk_cell p2 2).trans rfl; have j3 : w5.cell? ⟨kr, 3, none⟩ = some (.int .i64 r.ttl) := (blk_cell p2 3).trans rfl; have j4 : w5.cell? ⟨kr, 4, none⟩ = some (.string r.data) := (blk_cell p2 4).trans rfl; have m1 := World.new_ne w5 ⟨kr, 1, none⟩ j1; have m2 := World.new_ne w5 ⟨kr, 2, none⟩ j2; have m3 := World.new_ne w5 ⟨kr, 3, none⟩ j3; have m4 := World.new_ne w5 ⟨kr, 4, none⟩ j4)
          | (go_at_call 41; with_reducible refine (rbe2 r.cls _).mono ?_; rintro e w5 ⟨rfl, Bx⟩; replace p2 := blk_below p2 Bx; replace R2 := R2.below Bx; replace K2 := K2.trans (Kr.below Bx); replace B2 := B2.trans (Bx.mono (HBS.out _ B2)); clear Bx; (try clear j1 j2 j3 j4 m1 m2 m3 m4); have j1 : w5.cell? ⟨kr, 1, none⟩ = some (.int .i64 r.type) := (blk_cell p2 1).trans rfl; have j2 : w5.cell? ⟨kr, 2, none⟩ = some (.int .i64 r.cls) := (blk_cell p2 2).trans rfl; have j3 : w5.cell? ⟨kr, 3, none⟩ = some (.int .i64 r.ttl) := (blk_cell p2 3).trans rfl; have j4 : w5.cell? ⟨kr, 4, none⟩ = some (.string r.data) := (blk_cell p2 4).trans rfl; have m1 := World.new_ne w5 ⟨kr, 1, none⟩ j1; have m2 := World.new_ne w5 ⟨kr, 2, none⟩ j2; have m3 := World.new_ne w5 ⟨kr, 3, none⟩ j3; have m4 := World.new_ne w5 ⟨kr, 4, none⟩ j4)
          | (go_at_call 41; with_reducible refine (rbe4 r.ttl _).mono ?_; rintro e w5 ⟨rfl, Bx⟩; replace p2 := blk_below p2 Bx; replace R2 := R2.below Bx; replace K2 := K2.trans (Kr.below Bx); replace B2 := B2.trans (Bx.mono (HBS.out _ B2)); clear Bx; (try clear j1 j2 j3 j4 m1 m2 m3 m4); have j1 : w5.cell? ⟨kr, 1, none⟩ = some (.int .i64 r.type) := (blk_cell p2 1).trans rfl; have j2 : w5.cell? ⟨kr, 2, none⟩ = some (.int .i64 r.cls) := (blk_cell p2 2).trans rfl; have j3 : w5.cell? ⟨kr, 3, none⟩ = some (.int .i64 r.ttl) := (blk_cell p2 3).trans rfl; have j4 : w5.cell? ⟨kr, 4, none⟩ = some (.string r.data) := (blk_cell p2 4).trans rfl; have m1 := World.new_ne w5 ⟨kr, 1, none⟩ j1; have m2 := World.new_ne w5 ⟨kr, 2, none⟩ j2; have m3 := World.new_ne w5 ⟨kr, 3, none⟩ j3; have m4 := World.new_ne w5 ⟨kr, 4, none⟩ j4)
          | (go_at_call 41; with_reducible refine (rbe2 (r.data.size : Int) _).mono ?_; rintro e w5 ⟨rfl, Bx⟩; replace p2 := blk_below p2 Bx; replace R2 := R2.below Bx; replace K2 := K2.trans (Kr.below Bx); replace B2 := B2.trans (Bx.mono (HBS.out _ B2)); clear Bx; (try clear j1 j2 j3 j4 m1 m2 m3 m4); have j1 : w5.cell? ⟨kr, 1, none⟩ = some (.int .i64 r.type) := (blk_cell p2 1).trans rfl; have j2 : w5.cell? ⟨kr, 2, none⟩ = some (.int .i64 r.cls) := (blk_cell p2 2).trans rfl; have j3 : w5.cell? ⟨kr, 3, none⟩ = some (.int .i64 r.ttl) := (blk_cell p2 3).trans rfl; have j4 : w5.cell? ⟨kr, 4, none⟩ = some (.string r.data) := (blk_cell p2 4).trans rfl; have m1 := World.new_ne w5 ⟨kr, 1, none⟩ j1; have m2 := World.new_ne w5 ⟨kr, 2, none⟩ j2; have m3 := World.new_ne w5 ⟨kr, 3, none⟩ j3; have m4 := World.new_ne w5 ⟨kr, 4, none⟩ j4)
          | (go_at_call 39; with_reducible refine (rrawOk R2 _ HC2.out).mono ?_; rintro e w5 ⟨rfl, R6, B6, K6⟩; replace p2 := (K6.block kr (blk_lt p2) (Ne.symm hgr) (fun cs q => by rw [p2] at q; injection q with q; injection q with _ q; exact absurd q (by decide))).trans p2; (try clear j1 j2 j3 j4 m1 m2 m3 m4); have j1 : w5.cell? ⟨kr, 1, none⟩ = some (.int .i64 r.type) := (blk_cell p2 1).trans rfl; have j2 : w5.cell? ⟨kr, 2, none⟩ = some (.int .i64 r.cls) := (blk_cell p2 2).trans rfl; have j3 : w5.cell? ⟨kr, 3, none⟩ = some (.int .i64 r.ttl) := (blk_cell p2 3).trans rfl; have j4 : w5.cell? ⟨kr, 4, none⟩ = some (.string r.data) := (blk_cell p2 4).trans rfl; replace R2 := R6; replace B2 := B2.trans B6; replace K2 := K2.trans K6; clear R6 B6 K6))
      go_wp2_with fail
      go_ret
      refine ⟨B2, K2, .inr ⟨by rw [HE.out], rfl, v2, _, ?_, by rw [HE.out]; exact HM.out, by rw [HE.out]; exact HSM.out⟩⟩
      rw [HE.out]
      have e : S ++ outN (mOf ms) r.name ++ (p16 r.type ++ p16 r.cls ++ p32 r.ttl ++ p16 (r.data.size : Int) ++ r.data) = S ++ outN (mOf ms) r.name ++ (p16 r.type ++ p16 r.cls) ++ (p32 r.ttl ++ p16 (r.data.size : Int) ++ r.data) := by simp only [ByteArray.append_assoc]
      rw [e] at R2
      exact R2
end
end Go.Proofs.Ytjklgdpffmaamaa.Wm

namespace Go.Proofs.Ytjklgdpffmaamaa.Wm
open Go.RowKit Go.PlainAid Go.Maps Go.Proofs.Ytjklgdpffmaamaa.Base Go.Proofs.Ytjklgdpffmaamaa.Oct Go.Proofs.Ytjklgdpffmaamaa.Nm Go.Proofs.Ytjklgdpffmaamaa.Wr
open Go.Proofs.YtjklgdpffmaamaaW.PrintWords (blk_cell blk_below blk_put blk_frozen blk_ne blk_new blk_lt blk_grown own_nil)
set_option linter.unusedVariables false
set_option linter.unusedSimpArgs false
theorem may_small {r : Rr} (h : rMay r = true) : nameB r.name = true ∧ r.data.size ≤ 65535 := by
  unfold rMay at h
  simp only [Bool.and_eq_true] at h
  refine ⟨h.1.1.1.1, ?_⟩
  have h := h.2
  unfold Rd.mayD at h
  by_cases c1 : r.type < 1
  · rw [if_pos c1] at h; cases h
  rw [if_neg c1] at h
  by_cases c2 : 65535 < r.type
  · rw [if_pos c2] at h; cases h
  rw [if_neg c2] at h
  by_cases c3 : 65535 < r.data.size
  · rw [if_pos c3] at h; cases h
  · omega
theorem qSt_long {S : ByteArray} {m : ByteArray → Option Int} {n : ByteArray} {t c : Int} (h : 4096 < S.size + (outN m n).size + 4) : (qSt ⟨S, m, false⟩ n t c).lg = true := by
  cases hl : (qSt ⟨S, m, false⟩ n t c).lg with
  | true => rfl
  | false =>
    have : S.size + (outN m n).size + 4 ≤ 4096 := (qSt_ok hl).2.2.1
    omega
theorem qSt_short {S : ByteArray} {m : ByteArray → Option Int} {n : ByteArray} {t c : Int} (hn : nameB n = true) (h : ¬ 4096 < S.size + (outN m n).size + 4) : (qSt ⟨S, m, false⟩ n t c) = ⟨S ++ outN m n ++ (p16 t ++ p16 c), putN m n S.size, false⟩ := by
  have z4 : (p16 t ++ p16 c).size = 4 := by rw [ByteArray.size_append, p16_size, p16_size]
  unfold qSt nameSt
  rw [if_pos hn, if_neg (by show ¬ 4096 < S.size + (outN m n).size; omega)]
  unfold rawSt
  have c1 : ¬ 4096 < (S ++ outN m n).size + (p16 t ++ p16 c).size := by rw [ByteArray.size_append, z4]; omega
  simp only [if_neg c1]
/-- The writer's state behind the questions, and behind so many parts. -/
def stQ (m : MsgV) : St := m.qs.foldl qStep (st0 (hStr m))
def stP (m : MsgV) (p : Nat) : St := ([m.an, m.ns, m.ar].take p).foldl (fun st l => l.foldl rSt st) (stQ m)
theorem stP_3 (m : MsgV) : stP m 3 = putEnd m := rfl
theorem stP_next (m : MsgV) (p : Nat) (hp : p < 3) : stP m (p + 1) = (rows3 m p).2.1.foldl rSt (stP m p) := by
  obtain rfl | rfl | rfl : p = 0 ∨ p = 1 ∨ p = 2 := by omega
  all_goals rfl
theorem end_of_P {m : MsgV} : ∀ (d p : Nat), p + d = 3 → (stP m p).lg = true → (putEnd m).lg = true := by
  intro d
  induction d with
  | zero => intro p h hl; obtain rfl : p = 3 := by omega
            rw [← stP_3]; exact hl
  | succ d ih =>
    intro p h hl
    refine ih (p + 1) (by omega) ?_
    rw [stP_next m p (by omega)]
    cases e : ((rows3 m p).2.1.foldl rSt (stP m p)).lg with
    | true => rfl
    | false => rw [foldR_lg _ _ e] at hl; cases hl
theorem end_of_R {m : MsgV} {p : Nat} (hp : p < 3) {j : Nat} (h : (((rows3 m p).2.1.take j).foldl rSt (stP m p)).lg = true) : (putEnd m).lg = true := by
  refine end_of_P (3 - (p + 1)) (p + 1) (by omega) ?_
  rw [stP_next m p hp]
  cases e : ((rows3 m p).2.1.foldl rSt (stP m p)).lg with
  | true => rfl
  | false =>
    rw [← List.take_append_drop j (rows3 m p).2.1, List.foldl_append] at e
    rw [foldR_lg _ _ e] at h; cases h
theorem end_of_Q {m : MsgV} {j : Nat} (h : ((m.qs.take j).foldl qStep (st0 (hStr m))).lg = true) : (putEnd m).lg = true := by
  refine end_of_P 3 0 rfl ?_
  show (m.qs.foldl qStep (st0 (hStr m))).lg = true
  cases e : (m.qs.foldl qStep (st0 (hStr m))).lg with
  | true => rfl
  | false =>
    rw [← List.take_append_drop j m.qs, List.foldl_append] at e
    rw [foldQ_lg _ _ e] at h; cases h
theorem put_long {m : MsgV} (hok : putOk m = true) (h : (putEnd m).lg = true) : putS m = ⟨#[]⟩ ∧ putE m = 701 := by
  unfold putS putE
  rw [if_pos hok, if_pos hok, if_pos h, if_pos h]
  exact ⟨rfl, rfl⟩
theorem put_bad {m : MsgV} (h : putOk m = false) : putS m = ⟨#[]⟩ ∧ putE m = 700 := by
  unfold putS putE
  rw [if_neg (by rw [h]; simp), if_neg (by rw [h]; simp)]
  exact ⟨rfl, rfl⟩
theorem put_good {m : MsgV} (hok : putOk m = true) (h : (putEnd m).lg = false) : putS m = (putEnd m).S ∧ putE m = 0 := by
  unfold putS putE
  rw [if_pos hok, if_pos hok, if_neg (by rw [h]; simp), if_neg (by rw [h]; simp)]
  exact ⟨rfl, rfl⟩
theorem ok_hdr {m : MsgV} (h : putOk m = true) : Hd.mayB m.h m.qs.length m.an.length m.ns.length m.ar.length = true ∧ hStr m = m.h.putS m.qs.length m.an.length m.ns.length m.ar.length ∧ (hStr m).size = 12 := by
  unfold putOk at h
  rw [Bool.and_eq_true] at h
  have h0 : Hd.mayB m.h m.qs.length m.an.length m.ns.length m.ar.length = true := h.1
  have e : hStr m = m.h.putS m.qs.length m.an.length m.ns.length m.ar.length := by
    unfold hStr Hd.wroteS
    exact if_pos h0
  exact ⟨h0, e, by rw [e, Hd.putS_size]⟩
theorem st0_is {hS : ByteArray} (h : hS.size = 12) : st0 hS = ⟨hS, fun _ => none, false⟩ := by
  unfold st0 rawSt
  rw [if_neg (by show ¬ 4096 < 0 + hS.size; omega)]
  rw [show (⟨#[]⟩ : ByteArray) ++ hS = hS from ByteArray.empty_append]
theorem ok_all {m : MsgV} (h : putOk m = true) : (∀ q ∈ m.qs, qMay q = true) ∧ (∀ p, p < 3 → ∀ r ∈ (rows3 m p).2.1, rMay r = true) ∧ m.qs.length ≤ 64 ∧ ∀ p, p < 3 → (rows3 m p).2.1.length ≤ 64 := by
  unfold putOk at h
  simp only [Bool.and_eq_true] at h
  obtain ⟨_, h1⟩ := h
  have hl := fits_len h1
  unfold fitsB at h1
  simp only [Bool.and_eq_true, List.all_eq_true] at h1
  obtain ⟨⟨⟨⟨_, a⟩, _, b⟩, _, c⟩, _, d⟩ := h1
  refine ⟨a, fun p hp => ?_, hl.1, fun p hp => ?_⟩
  · obtain rfl | rfl | rfl : p = 0 ∨ p = 1 ∨ p = 2 := by omega
    · exact b
    · exact c
    · exact d
  · obtain rfl | rfl | rfl : p = 0 ∨ p = 1 ∨ p = 2 := by omega
    · exact hl.2.1
    · exact hl.2.2.1
    · exact hl.2.2.2
theorem take_getD {α : Type} {l : List α} {d : α} {j : Nat} (h : j < l.length) : l.take (j + 1) = l.take j ++ [l.getD j d] ∧ l.getD j d ∈ l := by
  rw [List.take_succ_eq_append_getElem h, List.getD_eq_getElem?_getD, List.getElem?_eq_getElem h]
  exact ⟨rfl, List.getElem_mem h⟩
set_option maxHeartbeats 8000000 in
set_option maxRecDepth 100000 in
theorem rputc (m : MsgV) (w : World) (hm : m.Lies w) : Calls Try.prog 19 #[.agg m.cells] w fun e w' => e = .returned (.tuple #[.string (putS m), .int .i64 (putE m)]) ∧ Below w.heap.size w w' := by
  have B0 : Below w.heap.size w (w.alloc (.cells m.cells 27)) := (Below.refl _ _).alloc (Nat.le_refl _) _
  have hb := blk_new w (.cells m.cells 27)
  have hm1 := hm.below B0
  have km := rmayc m (w.alloc (.cells m.cells 27)) hm1
  go_enter Try.func19, Try.ntmps19
  go_wp2_with fail
  refine km.mono ?_
  rintro e w2 ⟨rfl, B1⟩
  replace hb := blk_below hb B1
  replace hm1 := hm1.below B1
  replace B0 := B0.trans (B1.mono B0.size)
  clear km B1 hm
  have sB0 := B0.size
  cases hok : putOk m with
  | false =>
    have HP := Lib.hid (put_bad hok)
    clear hok
    go_wp2_with fail
    go_ret2
    exact ⟨by rw [HP.out.1, HP.out.2]; first | done | rfl, B0⟩
  | true =>
  obtain ⟨a0, a1, a2⟩ := ok_hdr hok
  obtain ⟨b0, b1, b2, b3⟩ := ok_all hok
  have HOK := Lib.hid hok
  have HQA := Lib.hid b0
  have HRA := Lib.hid b1
  have HRL := Lib.hid b3
  have HST := Lib.hid (st0_is a2)
  have HS12 := Lib.hid a2
  clear hok b0 b1 b3 a2
  have c0 : ∀ i v, m.cells[i]? = some v → w2.cell? ⟨w.heap.size, i, none⟩ = some v := fun i v h => (blk_cell hb i).trans h
  have Bg : Below w2.heap.size w2 (w2.alloc (.cells #[.string ⟨#[]⟩, .slice none 0 0] 78)) := (Below.refl _ _).alloc (Nat.le_refl _) _
  have pg := blk_new w2 (.cells #[.string ⟨#[]⟩, .slice none 0 0] 78)
  have hb3 := blk_below hb Bg
  go_upto_region 4 with (fail)
  generalize w2.alloc (.cells #[.string ⟨#[]⟩, .slice none 0 0] 78) = w3 at *
  obtain ⟨g, hg⟩ : ∃ g, g = w2.heap.size := ⟨_, rfl⟩
  rw [← hg] at pg ⊢
  have R3 : Rf w2.heap.size w3 g (.slice none 0 0) ⟨#[]⟩ [] := ⟨by omega, pg, own_nil _ _ _ _, by decide, by decide⟩
  have HG := Lib.hid hg
  have HB2 := Lib.hid hb
  clear hg pg c0 hb
  have c0 : w3.cell? ⟨w.heap.size, 0, none⟩ = some (.int .i64 m.h.id) := (blk_cell hb3 0).trans rfl
  have c1 : w3.cell? ⟨w.heap.size, 1, none⟩ = some (.bool m.h.qr) := (blk_cell hb3 1).trans rfl
  have c2 : w3.cell? ⟨w.heap.size, 2, none⟩ = some (.int .i64 m.h.op) := (blk_cell hb3 2).trans rfl
  have c3 : w3.cell? ⟨w.heap.size, 3, none⟩ = some (.bool m.h.aa) := (blk_cell hb3 3).trans rfl
  have c4 : w3.cell? ⟨w.heap.size, 4, none⟩ = some (.bool m.h.tc) := (blk_cell hb3 4).trans rfl
  have c5 : w3.cell? ⟨w.heap.size, 5, none⟩ = some (.bool m.h.rd) := (blk_cell hb3 5).trans rfl
  have c6 : w3.cell? ⟨w.heap.size, 6, none⟩ = some (.bool m.h.ra) := (blk_cell hb3 6).trans rfl
  have c7 : w3.cell? ⟨w.heap.size, 7, none⟩ = some (.int .i64 m.h.z) := (blk_cell hb3 7).trans rfl
  have c8 : w3.cell? ⟨w.heap.size, 8, none⟩ = some (.int .i64 m.h.rc) := (blk_cell hb3 8).trans rfl
  have c9 : w3.cell? ⟨w.heap.size, 9, none⟩ = some (.slice m.Aq m.qs.length m.cq) := (blk_cell hb3 9).trans rfl
  have c10 : w3.cell? ⟨w.heap.size, 10, none⟩ = some (.slice m.Aa m.an.length m.ca) := (blk_cell hb3 10).trans rfl
  have c11 : w3.cell? ⟨w.heap.size, 11, none⟩ = some (.slice m.An m.ns.length m.cn) := (blk_cell hb3 11).trans rfl
  have c12 : w3.cell? ⟨w.heap.size, 12, none⟩ = some (.slice m.Ar m.ar.length m.cr) := (blk_cell hb3 12).trans rfl
  have kh := Hd.rwrote m.h m.qs.length m.an.length m.ns.length m.ar.length w3
  rw [show Hd.wroteS m.h m.qs.length m.an.length m.ns.length m.ar.length = hStr m from rfl, show Hd.wroteE m.h m.qs.length m.an.length m.ns.length m.ar.length = 0 by unfold Hd.wroteE; rw [a0]; rfl] at kh
  clear a0 a1
  go_wp2_with fail
  refine kh.mono ?_
  rintro e w4 ⟨rfl, B4⟩
  have hb4 := blk_below hb3 B4
  have R4 := R3.below B4
  have BW := Bg.trans (B4.mono Bg.size)
  clear kh R3 B4 hb3 Bg c0 c1 c2 c3 c4 c5 c6 c7 c8 c9 c10 c11 c12
  go_wp2_with fail
  refine (rrawOk R4 (hStr m) (by rw [HS12.out]; decide)).mono ?_
  rintro e w5 ⟨rfl, R5, B5, K5⟩
  rw [show (⟨#[]⟩ : ByteArray) ++ hStr m = hStr m from ByteArray.empty_append] at R5
  replace BW := BW.trans B5
  clear R4 B5 K5 hb4
  have hq := hm1.q
  have hlq := hm1.lq
  have HM1 := Lib.hid hm1
  have c9 : w2.cell? ⟨w.heap.size, 9, none⟩ = some (.slice m.Aq m.qs.length m.cq) := (blk_cell HB2.out 9).trans rfl
  clear hm1
  go_wp2_with fail
  go_loopg [7] (m.qs.length + 1) (fun k v7 wr => ∃ j : Nat, v7 = .int .i64 j ∧ j + k = m.qs.length + 1 ∧ j ≤ m.qs.length ∧ Below w2.heap.size w2 wr ∧ ∃ v ms St, Rf w2.heap.size wr g v St ms ∧ (m.qs.take j).foldl qStep (st0 (hStr m)) = ⟨St, mOf ms, false⟩ ∧ Small (mOf ms))
  case atStart => exact ⟨0, rfl, by omega, by omega, BW, _, _, _, R5, HST.out, fun x t h => by cases h⟩
  case round =>
    obtain ⟨j, rfl, hk1, hk2, B, v, ms, St, R, hst, hsm⟩ := hrel
    have HSTJ := Lib.hid hst
    clear hst
    have sB := B.size
    have B00 := B0.trans (B.mono sB0)
    have d9 := bcell B c9
    by_cases hj : j < m.qs.length
    · have q0 : decide ((j : Int) < (m.qs.length : Int)) = true := by simp; omega
      obtain ⟨ad, eA, hat⟩ : ∃ ad, m.Aq = some ad ∧ ∀ j, j < m.qs.length → AtQ w2 (ad.add (j * 3)) (m.qs.getD j zQ) := by
        rcases hq with h | h
        · omega
        · exact h
      rw [eA] at d9
      clear eA
      have ha := (hat j hj).below B
      obtain ⟨htk, hmem⟩ := take_getD (d := zQ) hj
      have hqm := HQA.out _ hmem
      have HNX := Lib.hid (show (m.qs.take (j + 1)).foldl qStep (st0 (hStr m)) = qStep ⟨St, mOf ms, false⟩ (m.qs.getD j zQ) by rw [htk, List.foldl_append, HSTJ.out]; rfl)
      clear htk hmem hat
      generalize m.qs.getD j zQ = x at *
      obtain ⟨d0, d1, d2⟩ := ha
      have hn : nameB x.name = true := by
        unfold qMay at hqm
        simp only [Bool.and_eq_true] at hqm
        exact hqm.1.1
      clear hqm
      have Bq : Below wr.heap.size wr (wr.alloc (.cells #[.string x.name, .int .i64 x.type, .int .i64 x.cls] 40)) := (Below.refl _ _).alloc (Nat.le_refl _) _
      have pq := blk_new wr (.cells #[.string x.name, .int .i64 x.type, .int .i64 x.cls] 40)
      go_upto_region 10 with (fail)
      have hgr : g ≠ wr.heap.size := Nat.ne_of_lt (blk_lt R.blk)
      have R1 := R.below Bq
      replace B := B.trans (Bq.mono sB)
      have hx := R.len
      have ho := outN_size (mOf ms) x.name hn
      have hsn := name_size hn
      clear R Bq d0 d1 d2 d9 hq hlq c9 R5
      generalize wr.alloc (.cells #[.string x.name, .int .i64 x.type, .int .i64 x.cls] 40) = w6 at *
      generalize wr.heap.size = kx at *
      have zT : (p16 x.type ++ p16 x.cls).size = 4 := by rw [ByteArray.size_append, p16_size, p16_size]
      have zO : (St ++ outN (mOf ms) x.name).size = St.size + (outN (mOf ms) x.name).size := ByteArray.size_append
      have nn0 : ¬ 9223372036854775807 < (p16 x.type).size + (p16 x.cls).size := by rw [p16_size, p16_size]; decide
      have c1 : w6.cell? ⟨kx, 0, none⟩ = some (.string x.name) := (blk_cell pq 0).trans rfl
      have c2 : w6.cell? ⟨kx, 1, none⟩ = some (.int .i64 x.type) := (blk_cell pq 1).trans rfl
      have c3 : w6.cell? ⟨kx, 2, none⟩ = some (.int .i64 x.cls) := (blk_cell pq 2).trans rfl
      have nw1 := World.new_ne w6 ⟨kx, 0, none⟩ c1
      have nw2 := World.new_ne w6 ⟨kx, 1, none⟩ c2
      have nw3 := World.new_ne w6 ⟨kx, 2, none⟩ c3
      replace pq := blk_below pq ((Below.refl w6.heap.size w6).drew)
      replace R1 := R1.below ((Below.refl w6.heap.size w6).drew)
      replace B := B.drew
      by_cases hl : 4096 < St.size + (outN (mOf ms) x.name).size
      · have HL := Lib.hid (put_long HOK.out (end_of_Q (j := j + 1) (by rw [HNX.out]; exact qSt_long (by omega))))
        have HLL := Lib.hid hl
        clear hl zT zO
        refine wp_region_held_drew (S := fun w' => w'.cell? ⟨kx, 0, none⟩ = some (.string x.name)) (by kernel_rfl) ((blk_cell pq 0).trans rfl) (fun hHeld => ?_)
        refine wpAnyH_take (i := 0) (v := ?_) rfl (by kernel_rfl) (by kernel_rfl) (by kernel_rfl) (fun _ _ _ h => h) (Or.inl ⟨by rfl, ?_⟩) (by assumption) ?_
        rotate_left 1
        · intro w hSw; (try dsimp only at hSw); (try simp only [List.getElem_toArray, List.getElem_cons_succ, List.getElem_cons_zero]); go_simp; (try with_reducible rfl)
        (try simp only [Act.put, List.getElem_toArray, List.getElem_cons_succ, List.getElem_cons_zero, List.setIfInBounds_toArray, List.set_cons_zero, List.set_cons_succ])
        refine wpAnyH_take (i := 1) (v := ?_) rfl (by kernel_rfl) (by kernel_rfl) (by kernel_rfl) (fun _ _ _ h => h) (Or.inl ⟨by rfl, ?_⟩) (by assumption) ?_
        rotate_left 1
        · intro w hSw; (try dsimp only at hSw); (try simp only [List.getElem_toArray, List.getElem_cons_succ, List.getElem_cons_zero]); go_simp; (try with_reducible rfl)
        (try simp only [Act.put, List.getElem_toArray, List.getElem_cons_succ, List.getElem_cons_zero, List.setIfInBounds_toArray, List.set_cons_zero, List.set_cons_succ])
        refine wpAnyH_take (i := 2) (v := ?_) rfl (by kernel_rfl) (by kernel_rfl) (by kernel_rfl) (fun _ _ _ h => h) (Or.inl ⟨by rfl, ?_⟩) (by assumption) ?_
        rotate_left 1
        · intro w hSw; (try dsimp only at hSw); (try simp only [List.getElem_toArray, List.getElem_cons_succ, List.getElem_cons_zero]); go_simp; (try with_reducible rfl)
        (try simp only [Act.put, List.getElem_toArray, List.getElem_cons_succ, List.getElem_cons_zero, List.setIfInBounds_toArray, List.set_cons_zero, List.set_cons_succ])
        refine wpAnyH_ready (rs := [3]) (by kernel_rfl) (by simp) ?_
        refine AllReadyH.cons rfl ?_ AllReadyH.nil
        intro K hK
        (try simp only [List.getElem_toArray, List.getElem_cons_succ, List.getElem_cons_zero])
        go_simp
        go_at_call 40
        with_reducible refine (rname R1 x.name hn hsm).mono ?_
        rintro e w7 hh
        rw [if_pos HLL.out] at hh
        obtain ⟨rfl, R2, B2, K2⟩ := hh
        replace pq := (K2.block kx (blk_lt pq) (Ne.symm hgr) (fun cs q => by rw [pq] at q; injection q with q; injection q with _ q; exact absurd q (by decide))).trans pq
        go_wp2_with fail
        refine hK.out _ _ ((blk_cell pq 0).trans rfl) (fun hHeld => ?_)
        clear hK K
        (try simp only [Act.put, List.setIfInBounds_toArray, List.set_cons_zero, List.set_cons_succ])
        refine wpAnyH_take (i := 4) (v := ?_) rfl (by kernel_rfl) (by kernel_rfl) (by kernel_rfl) (fun _ _ _ h => h) (Or.inl ⟨by rfl, ?_⟩) (by assumption) ?_
        rotate_left 1
        · intro w hSw; (try dsimp only at hSw); (try simp only [List.getElem_toArray, List.getElem_cons_succ, List.getElem_cons_zero]); go_simp; (try with_reducible rfl)
        (try simp only [Act.put, List.getElem_toArray, List.getElem_cons_succ, List.getElem_cons_zero, List.setIfInBounds_toArray, List.set_cons_zero, List.set_cons_succ])
        refine wpAnyH_take (i := 5) (v := ?_) rfl (by kernel_rfl) (by kernel_rfl) (by kernel_rfl) (fun _ _ _ h => h) (Or.inl ⟨by rfl, ?_⟩) (by assumption) ?_
        rotate_left 1
        · intro w hSw; (try dsimp only at hSw); (try simp only [List.getElem_toArray, List.getElem_cons_succ, List.getElem_cons_zero]); go_simp; (try with_reducible rfl)
        (try simp only [Act.put, List.getElem_toArray, List.getElem_cons_succ, List.getElem_cons_zero, List.setIfInBounds_toArray, List.set_cons_zero, List.set_cons_succ])
        refine wpAnyH_take (i := 6) (v := undef) rfl (by kernel_rfl) (by kernel_rfl) (by kernel_rfl) (fun _ _ _ h => h) (Or.inr ⟨by rfl, rfl⟩) (by assumption) ?_
        (try simp only [Act.put, List.getElem_toArray, List.getElem_cons_succ, List.getElem_cons_zero, List.setIfInBounds_toArray, List.set_cons_zero, List.set_cons_succ])
        refine wpAnyH_take (i := 7) (v := undef) rfl (by kernel_rfl) (by kernel_rfl) (by kernel_rfl) (fun _ _ _ h => h) (Or.inr ⟨by rfl, rfl⟩) (by assumption) ?_
        (try simp only [Act.put, List.getElem_toArray, List.getElem_cons_succ, List.getElem_cons_zero, List.setIfInBounds_toArray, List.set_cons_zero, List.set_cons_succ])
        refine wpAnyH_take (i := 8) (v := undef) rfl (by kernel_rfl) (by kernel_rfl) (by kernel_rfl) (fun _ _ _ h => h) (Or.inr ⟨by rfl, rfl⟩) (by assumption) ?_
        (try simp only [Act.put, List.getElem_toArray, List.getElem_cons_succ, List.getElem_cons_zero, List.setIfInBounds_toArray, List.set_cons_zero, List.set_cons_succ])
        refine wpAnyH_take (i := 9) (v := undef) rfl (by kernel_rfl) (by kernel_rfl) (by kernel_rfl) (fun _ _ _ h => h) (Or.inr ⟨by rfl, rfl⟩) (by assumption) ?_
        (try simp only [Act.put, List.getElem_toArray, List.getElem_cons_succ, List.getElem_cons_zero, List.setIfInBounds_toArray, List.set_cons_zero, List.set_cons_succ])
        refine wpAnyH_take (i := 10) (v := undef) rfl (by kernel_rfl) (by kernel_rfl) (by kernel_rfl) (fun _ _ _ h => h) (Or.inr ⟨by rfl, rfl⟩) (by assumption) ?_
        (try simp only [Act.put, List.getElem_toArray, List.getElem_cons_succ, List.getElem_cons_zero, List.setIfInBounds_toArray, List.set_cons_zero, List.set_cons_succ])
        refine wpAnyH_take (i := 11) (v := undef) rfl (by kernel_rfl) (by kernel_rfl) (by kernel_rfl) (fun _ _ _ h => h) (Or.inr ⟨by rfl, rfl⟩) (by assumption) ?_
        (try simp only [Act.put, List.getElem_toArray, List.getElem_cons_succ, List.getElem_cons_zero, List.setIfInBounds_toArray, List.set_cons_zero, List.set_cons_succ])
        refine wpAnyH_take (i := 12) (v := undef) rfl (by kernel_rfl) (by kernel_rfl) (by kernel_rfl) (fun _ _ _ h => h) (Or.inr ⟨by rfl, rfl⟩) (by assumption) ?_
        (try simp only [Act.put, List.getElem_toArray, List.getElem_cons_succ, List.getElem_cons_zero, List.setIfInBounds_toArray, List.set_cons_zero, List.set_cons_succ])
        refine wpAnyH_take (i := 13) (v := undef) rfl (by kernel_rfl) (by kernel_rfl) (by kernel_rfl) (fun _ _ _ h => h) (Or.inr ⟨by rfl, rfl⟩) (by assumption) ?_
        (try simp only [Act.put, List.getElem_toArray, List.getElem_cons_succ, List.getElem_cons_zero, List.setIfInBounds_toArray, List.set_cons_zero, List.set_cons_succ])
        refine wpAnyH_take (i := 14) (v := undef) rfl (by kernel_rfl) (by kernel_rfl) (by kernel_rfl) (fun _ _ _ h => h) (Or.inr ⟨by rfl, rfl⟩) (by assumption) ?_
        (try simp only [Act.put, List.getElem_toArray, List.getElem_cons_succ, List.getElem_cons_zero, List.setIfInBounds_toArray, List.set_cons_zero, List.set_cons_succ])
        refine wpAnyH_take (i := 15) (v := undef) rfl (by kernel_rfl) (by kernel_rfl) (by kernel_rfl) (fun _ _ _ h => h) (Or.inr ⟨by rfl, rfl⟩) (by assumption) ?_
        (try simp only [Act.put, List.getElem_toArray, List.getElem_cons_succ, List.getElem_cons_zero, List.setIfInBounds_toArray, List.set_cons_zero, List.set_cons_succ])
        refine wpAnyH_take (i := 16) (v := ?_) rfl (by kernel_rfl) (by kernel_rfl) (by kernel_rfl) (fun _ _ _ h => h) (Or.inl ⟨by rfl, ?_⟩) (by assumption) ?_
        rotate_left 1
        · intro w hSw; (try dsimp only at hSw); (try simp only [List.getElem_toArray, List.getElem_cons_succ, List.getElem_cons_zero]); go_simp; (try with_reducible rfl)
        (try simp only [Act.put, List.getElem_toArray, List.getElem_cons_succ, List.getElem_cons_zero, List.setIfInBounds_toArray, List.set_cons_zero, List.set_cons_succ])
        refine wpAnyH_done (by kernel_rfl) ?_ _
        replace R1 := R2
        replace B := B.trans B2
        go_wp2_with fail
        go_ret2
        exact ⟨by rw [HL.out.1, HL.out.2]; first | done | rfl, B0.trans (B.mono sB0)⟩
      · have HLL := Lib.hid hl
        by_cases hl2 : 4096 < St.size + (outN (mOf ms) x.name).size + 4
        · have HL := Lib.hid (put_long HOK.out (end_of_Q (j := j + 1) (by rw [HNX.out]; exact qSt_long hl2)))
          have HC2 := Lib.hid (show 4096 < (St ++ outN (mOf ms) x.name).size + (p16 x.type ++ p16 x.cls).size by omega)
          clear hl hl2 zT zO
          go_region_held3 (fun w' => w'.cell? ⟨kx, 0, none⟩ = some (.string x.name) ∧ w'.cell? ⟨kx, 1, none⟩ = some (.int .i64 x.type) ∧ w'.cell? ⟨kx, 2, none⟩ = some (.int .i64 x.cls))
            (first | with_reducible exact ⟨c1, c2, c3⟩ | with_reducible exact ⟨j1, j2, j3⟩ | (go_keep; done))
            (first
              | (go_at_call 40; with_reducible refine (rname R1 x.name hn hsm).mono ?_; rintro e w7 hh; rw [if_neg HLL.out] at hh; obtain ⟨rfl, v7, R2, B2, K2⟩ := hh; replace pq := (K2.block kx (blk_lt pq) (Ne.symm hgr) (fun cs q => by rw [pq] at q; injection q with q; injection q with _ q; exact absurd q (by decide))).trans pq; (try clear j1 j2 j3 m1 m2 m3); have j1 : w7.cell? ⟨kx, 0, none⟩ = some (.string x.name) := (blk_cell pq 0).trans rfl; have j2 : w7.cell? ⟨kx, 1, none⟩ = some (.int .i64 x.type) := (blk_cell pq 1).trans rfl; have j3 : w7.cell? ⟨kx, 2, none⟩ = some (.int .i64 x.cls) := (blk_cell pq 2).trans rfl; have m1 := World.new_ne w7 ⟨kx, 0, none⟩ j1; have m2 := World.new_ne w7 ⟨kx, 1, none⟩ j2; have m3 := World.new_ne w7 ⟨kx, 2, none⟩ j3; replace R1 := R2; replace B := B.trans B2; clear R2 B2 K2)
              | (go_at_call 41; with_reducible refine (rbe2 x.type _).mono ?_; rintro e w7 ⟨rfl, Bx⟩; replace pq := blk_below pq Bx; replace R1 := R1.below Bx; replace B := B.trans (Bx.mono B.size); clear Bx; (try clear j1 j2 j3 m1 m2 m3); have j1 : w7.cell? ⟨kx, 0, none⟩ = some (.string x.name) := (blk_cell pq 0).trans rfl; have j2 : w7.cell? ⟨kx, 1, none⟩ = some (.int .i64 x.type) := (blk_cell pq 1).trans rfl; have j3 : w7.cell? ⟨kx, 2, none⟩ = some (.int .i64 x.cls) := (blk_cell pq 2).trans rfl; have m1 := World.new_ne w7 ⟨kx, 0, none⟩ j1; have m2 := World.new_ne w7 ⟨kx, 1, none⟩ j2; have m3 := World.new_ne w7 ⟨kx, 2, none⟩ j3)
              | (go_at_call 41; with_reducible refine (rbe2 x.cls _).mono ?_; rintro e w7 ⟨rfl, Bx⟩; replace pq := blk_below pq Bx; replace R1 := R1.below Bx; replace B := B.trans (Bx.mono B.size); clear Bx; (try clear j1 j2 j3 m1 m2 m3); have j1 : w7.cell? ⟨kx, 0, none⟩ = some (.string x.name) := (blk_cell pq 0).trans rfl; have j2 : w7.cell? ⟨kx, 1, none⟩ = some (.int .i64 x.type) := (blk_cell pq 1).trans rfl; have j3 : w7.cell? ⟨kx, 2, none⟩ = some (.int .i64 x.cls) := (blk_cell pq 2).trans rfl; have m1 := World.new_ne w7 ⟨kx, 0, none⟩ j1; have m2 := World.new_ne w7 ⟨kx, 1, none⟩ j2; have m3 := World.new_ne w7 ⟨kx, 2, none⟩ j3)
              | (go_at_call 39; with_reducible refine (rrawLong R1 _ HC2.out).mono ?_; rintro e w8 ⟨rfl, rfl⟩))
          go_wp2_with fail
          go_ret2
          exact ⟨by rw [HL.out.1, HL.out.2]; first | done | rfl, B0.trans (B.mono sB0)⟩
        · have HC2 := Lib.hid (show (St ++ outN (mOf ms) x.name).size + (p16 x.type ++ p16 x.cls).size ≤ 4096 by omega)
          have HE := Lib.hid (qSt_short (S := St) (m := mOf ms) (t := x.type) (c := x.cls) hn hl2)
          have HSM := Lib.hid (hsm.put x.name St.size (by omega))
          have HM := Lib.hid (mOf_put ms x.name St.size)
          clear hl hl2 zT zO
          go_region_held3 (fun w' => w'.cell? ⟨kx, 0, none⟩ = some (.string x.name) ∧ w'.cell? ⟨kx, 1, none⟩ = some (.int .i64 x.type) ∧ w'.cell? ⟨kx, 2, none⟩ = some (.int .i64 x.cls))
            (first | with_reducible exact ⟨c1, c2, c3⟩ | with_reducible exact ⟨j1, j2, j3⟩ | (go_keep; done))
            (first
              | (go_at_call 40; with_reducible refine (rname R1 x.name hn hsm).mono ?_; rintro e w7 hh; rw [if_neg HLL.out] at hh; obtain ⟨rfl, v7, R2, B2, K2⟩ := hh; replace pq := (K2.block kx (blk_lt pq) (Ne.symm hgr) (fun cs q => by rw [pq] at q; injection q with q; injection q with _ q; exact absurd q (by decide))).trans pq; (try clear j1 j2 j3 m1 m2 m3); have j1 : w7.cell? ⟨kx, 0, none⟩ = some (.string x.name) := (blk_cell pq 0).trans rfl; have j2 : w7.cell? ⟨kx, 1, none⟩ = some (.int .i64 x.type) := (blk_cell pq 1).trans rfl; have j3 : w7.cell? ⟨kx, 2, none⟩ = some (.int .i64 x.cls) := (blk_cell pq 2).trans rfl; have m1 := World.new_ne w7 ⟨kx, 0, none⟩ j1; have m2 := World.new_ne w7 ⟨kx, 1, none⟩ j2; have m3 := World.new_ne w7 ⟨kx, 2, none⟩ j3; replace R1 := R2; replace B := B.trans B2; clear R2 B2 K2)
              | (go_at_call 41; with_reducible refine (rbe2 x.type _).mono ?_; rintro e w7 ⟨rfl, Bx⟩; replace pq := blk_below pq Bx; replace R1 := R1.below Bx; replace B := B.trans (Bx.mono B.size); clear Bx; (try clear j1 j2 j3 m1 m2 m3); have j1 : w7.cell? ⟨kx, 0, none⟩ = some (.string x.name) := (blk_cell pq 0).trans rfl; have j2 : w7.cell? ⟨kx, 1, none⟩ = some (.int .i64 x.type) := (blk_cell pq 1).trans rfl; have j3 : w7.cell? ⟨kx, 2, none⟩ = some (.int .i64 x.cls) := (blk_cell pq 2).trans rfl; have m1 := World.new_ne w7 ⟨kx, 0, none⟩ j1; have m2 := World.new_ne w7 ⟨kx, 1, none⟩ j2; have m3 := World.new_ne w7 ⟨kx, 2, none⟩ j3)
              | (go_at_call 41; with_reducible refine (rbe2 x.cls _).mono ?_; rintro e w7 ⟨rfl, Bx⟩; replace pq := blk_below pq Bx; replace R1 := R1.below Bx; replace B := B.trans (Bx.mono B.size); clear Bx; (try clear j1 j2 j3 m1 m2 m3); have j1 : w7.cell? ⟨kx, 0, none⟩ = some (.string x.name) := (blk_cell pq 0).trans rfl; have j2 : w7.cell? ⟨kx, 1, none⟩ = some (.int .i64 x.type) := (blk_cell pq 1).trans rfl; have j3 : w7.cell? ⟨kx, 2, none⟩ = some (.int .i64 x.cls) := (blk_cell pq 2).trans rfl; have m1 := World.new_ne w7 ⟨kx, 0, none⟩ j1; have m2 := World.new_ne w7 ⟨kx, 1, none⟩ j2; have m3 := World.new_ne w7 ⟨kx, 2, none⟩ j3)
              | (go_at_call 39; with_reducible refine (rrawOk R1 _ HC2.out).mono ?_; rintro e w8 ⟨rfl, R6, B6, K2⟩; replace pq := (K2.block kx (blk_lt pq) (Ne.symm hgr) (fun cs q => by rw [pq] at q; injection q with q; injection q with _ q; exact absurd q (by decide))).trans pq; (try clear j1 j2 j3 m1 m2 m3); have j1 : w8.cell? ⟨kx, 0, none⟩ = some (.string x.name) := (blk_cell pq 0).trans rfl; have j2 : w8.cell? ⟨kx, 1, none⟩ = some (.int .i64 x.type) := (blk_cell pq 1).trans rfl; have j3 : w8.cell? ⟨kx, 2, none⟩ = some (.int .i64 x.cls) := (blk_cell pq 2).trans rfl; have m1 := World.new_ne w8 ⟨kx, 0, none⟩ j1; have m2 := World.new_ne w8 ⟨kx, 1, none⟩ j2; have m3 := World.new_ne w8 ⟨kx, 2, none⟩ j3; replace R1 := R6; replace B := B.trans B6; clear R6 B6 K2))
          go_wp2_with fail
          go_roundg (gk - 1)
          case measure => omega
          case rel => exact ⟨j + 1, rfl, by omega, by omega, B, _, _, _, R1, by rw [HNX.out, HM.out]; exact HE.out, by rw [HM.out]; exact HSM.out⟩
    · have q0 : decide ((j : Int) < (m.qs.length : Int)) = false := by simp; omega
      have hst0 : stP m 0 = ⟨St, mOf ms, false⟩ := by have := HSTJ.out; rw [List.take_of_length_le (by omega)] at this; exact this
      have HS0 := Lib.hid hst0
      have d10 : wr.cell? ⟨w.heap.size, 10, none⟩ = some (.slice m.Aa m.an.length m.ca) := bcell B ((blk_cell HB2.out 10).trans rfl)
      have d11 : wr.cell? ⟨w.heap.size, 11, none⟩ = some (.slice m.An m.ns.length m.cn) := bcell B ((blk_cell HB2.out 11).trans rfl)
      have d12 : wr.cell? ⟨w.heap.size, 12, none⟩ = some (.slice m.Ar m.ar.length m.cr) := bcell B ((blk_cell HB2.out 12).trans rfl)
      clear hst0 c9 hq hlq HSTJ R5
      go_wp2_with fail
      have Ba : Below wr.heap.size wr (wr.alloc (.cells #[.slice m.Aa m.an.length m.ca, .slice m.An m.ns.length m.cn, .slice m.Ar m.ar.length m.cr] 25)) := (Below.refl _ _).alloc (Nat.le_refl _) _
      have pa := blk_new wr (.cells #[.slice m.Aa m.an.length m.ca, .slice m.An m.ns.length m.cn, .slice m.Ar m.ar.length m.cr] 25)
      have hga : g ≠ wr.heap.size := Nat.ne_of_lt (blk_lt R.blk)
      have R1 := R.below Ba
      have B1 := B.trans (Ba.mono sB)
      have HRO := Lib.hid (fun p hp => rows3_ok HM1.out p hp)
      clear d10 d11 d12 d9 Ba B R hk1 hk2 hj q0
      generalize wr.alloc (.cells #[.slice m.Aa m.an.length m.ca, .slice m.An m.ns.length m.cn, .slice m.Ar m.ar.length m.cr] 25) = w6 at *
      generalize wr.heap.size = ga at *
      go_loopg [10] 4 (fun k v10 wr => ∃ p : Nat, v10 = .int .i64 p ∧ p + k = 4 ∧ p ≤ 3 ∧ Below w2.heap.size w2 wr ∧ wr.heap[ga]? = some (.cells #[.slice m.Aa m.an.length m.ca, .slice m.An m.ns.length m.cn, .slice m.Ar m.ar.length m.cr] 25 (0, 0)) ∧ ∃ v ms St, Rf w2.heap.size wr g v St ms ∧ stP m p = ⟨St, mOf ms, false⟩ ∧ Small (mOf ms))
      case atStart => exact ⟨0, rfl, rfl, by omega, B1, pa, _, _, _, R1, HS0.out, hsm⟩
      case round =>
        clear R1 HS0 hsm B1 pa
        obtain ⟨p, rfl, hp1, hp2, B, pa, v, ms, St, R, hst, hsm⟩ := hrel
        have HSTP := Lib.hid hst
        clear hst
        by_cases hp : p < 3
        · have q0 : decide ((p : Int) < 3) = true := by simp; omega
          obtain ⟨hcl, hlc, hsml, hl⟩ := HRO.out p hp
          have HCP := Lib.hid (fun (W : World) (h : W.heap[ga]? = some (.cells #[.slice m.Aa m.an.length m.ca, .slice m.An m.ns.length m.cn, .slice m.Ar m.ar.length m.cr] 25 (0, 0))) => rows3_at h p hp)
          have HSN := Lib.hid (stP_next m p hp)
          have HER := Lib.hid (fun j (h : (((rows3 m p).2.1.take j).foldl rSt (stP m p)).lg = true) => end_of_R hp h)
          have HRP := Lib.hid (HRA.out p hp)
          have hle := HRL.out p hp
          clear hl hsml
          generalize (rows3 m p).1 = A at *
          generalize (rows3 m p).2.2 = c at *
          generalize (rows3 m p).2.1 = l at *
          have hp3 : p ≤ 2 := by omega
          go_wp2_with fail
          go_loopg [11] (l.length + 1) (fun k v11 wq => ∃ j : Nat, v11 = .int .i64 j ∧ j + k = l.length + 1 ∧ j ≤ l.length ∧ Below w2.heap.size w2 wq ∧ wq.heap[ga]? = some (.cells #[.slice m.Aa m.an.length m.ca, .slice m.An m.ns.length m.cn, .slice m.Ar m.ar.length m.cr] 25 (0, 0)) ∧ ∃ v ms St, Rf w2.heap.size wq g v St ms ∧ (l.take j).foldl rSt (stP m p) = ⟨St, mOf ms, false⟩ ∧ Small (mOf ms))
          case atStart => exact ⟨0, rfl, by omega, by omega, B, pa, _, _, _, R, HSTP.out, hsm⟩
          case round =>
            clear R HSTP hsm B pa
            obtain ⟨j, rfl, hj1, hj2, B, pa, v, ms, St, R, hst, hsm⟩ := hrel
            have HSTJ := Lib.hid hst
            clear hst
            have cp := HCP.out _ pa
            by_cases hj : j < l.length
            · have q2 : decide ((j : Int) < (l.length : Int)) = true := by simp; omega
              obtain ⟨ad, eA, hat⟩ : ∃ ad, A = some ad ∧ ∀ j, j < l.length → AtR w2 (ad.add (j * 5)) (l.getD j zR) := by
                rcases hcl with h | h
                · omega
                · exact h
              subst eA
              obtain ⟨d0, d1, d2, d3, d4⟩ := (hat j hj).below B
              obtain ⟨htk, hmem⟩ := take_getD (d := zR) hj
              obtain ⟨hn, hd⟩ := may_small (HRP.out _ hmem)
              have HNX := Lib.hid (show (l.take (j + 1)).foldl rSt (stP m p) = rSt ⟨St, mOf ms, false⟩ (l.getD j zR) by rw [htk, List.foldl_append, HSTJ.out]; rfl)
              have km := rrc R (l.getD j zR) hn hsm hd
              clear htk hmem hat hn hd hcl HSTJ
              generalize l.getD j zR = x at *
              go_wp2_with fail
              refine km.mono ?_
              rintro e w7 ⟨B7, K7, hh⟩
              replace pa := (K7.block ga (blk_lt pa) (Ne.symm hga) (fun cs q => by rw [pa] at q; injection q with q; injection q with _ q; exact absurd q (by decide))).trans pa
              replace B := B.trans B7
              clear km d0 d1 d2 d3 d4 cp K7 B7 R
              rcases hh with ⟨hlg, rfl⟩ | ⟨hlg, rfl, v', ms', R', hm', hsm'⟩
              · have HL := Lib.hid (put_long HOK.out (HER.out (j + 1) (by rw [HNX.out]; exact hlg)))
                go_wp2_with fail
                go_ret2
                exact ⟨by rw [HL.out.1, HL.out.2]; first | done | rfl, B0.trans (B.mono sB0)⟩
              · have HNE := Lib.hid (show (l.take (j + 1)).foldl rSt (stP m p) = ⟨(rSt ⟨St, mOf ms, false⟩ x).S, mOf ms', false⟩ by
                  rw [HNX.out, hm']
                  generalize rSt ⟨St, mOf ms, false⟩ x = y at hlg
                  obtain ⟨y1, y2, y3⟩ := y
                  cases hlg; rfl)
                rw [← hm'] at hsm'
                clear hm' hlg
                go_wp2_with fail
                go_roundg (l.length - j)
                case measure => omega
                case rel => exact ⟨j + 1, rfl, by omega, by omega, B, pa, _, _, _, R', HNE.out, hsm'⟩
            · have q2 : decide ((j : Int) < (l.length : Int)) = false := by simp; omega
              have HEE := Lib.hid (show stP m (p + 1) = ⟨St, mOf ms, false⟩ by rw [HSN.out]; have := HSTJ.out; rwa [List.take_of_length_le (by omega)] at this)
              go_wp2_with fail
              go_roundg (3 - p)
              case measure => omega
              case rel => exact ⟨p + 1, rfl, by omega, by omega, B, pa, _, _, _, R, HEE.out, hsm⟩
        · have q0 : decide ((p : Int) < 3) = false := by simp; omega
          obtain rfl : p = 3 := by omega
          have hst := HSTP.out
          rw [stP_3] at hst
          have HL := Lib.hid (put_good HOK.out (by rw [hst]))
          have HSS := Lib.hid (show (putEnd m).S = St by rw [hst])
          clear hst
          go_wp2_with fail
          refine (rall R).mono ?_
          rintro e w7 ⟨rfl, rfl⟩
          go_wp2_with fail
          go_ret2
          exact ⟨by rw [HL.out.1, HL.out.2, HSS.out]; first | done | rfl, B0.trans (B.mono sB0)⟩
end Go.Proofs.Ytjklgdpffmaamaa.Wm

namespace Go.Proofs.Ytjklgdpffmaamaa.Wm
open Go.RowKit Go.PlainAid Go.Proofs.Ytjklgdpffmaamaa.Base
open Go.Proofs.YtjklgdpffmaamaaW.PrintWords (Ev LeO)
set_option linter.unusedVariables false
theorem rgetVc {s : ByteArray} {r : Got} (hs : s.size ≤ 9223372036854775000) (h : Ev (fun k => getV k s) r) (w : World) : Calls Try.prog 25 #[.string s] w (GetPost s w r) := by
  obtain ⟨k, hk⟩ := rget_of h
  exact rgetc s w hs (hk k (Nat.le_refl _))
theorem rputF {h : Hd.Head} {qs : List Qn} {an ns ar : List Rr} {r : ByteArray × Int} (hf : wirePutF h qs an ns ar = some r) {w : World} {Aq Aa An Ar : Option Addr} {cq ca cn cr : Nat}
    (hq : QCells w Aq qs) (ha : RCells w Aa an) (hn : RCells w An ns) (hr : RCells w Ar ar) (lq : qs.length ≤ cq) (la : an.length ≤ ca) (ln : ns.length ≤ cn) (lr : ar.length ≤ cr) :
    Calls Try.prog 19 #[.agg #[.int .i64 h.id, .bool h.qr, .int .i64 h.op, .bool h.aa, .bool h.tc, .bool h.rd, .bool h.ra, .int .i64 h.z, .int .i64 h.rc, .slice Aq qs.length cq, .slice Aa an.length ca, .slice An ns.length cn, .slice Ar ar.length cr]] w fun e w' => e = .returned (.tuple #[.string r.1, .int .i64 r.2]) ∧ Below w.heap.size w w' := by
  unfold wirePutF at hf
  by_cases hs : (smallB an && smallB ns && smallB ar) = true
  · rw [if_pos hs] at hf
    obtain rfl := Option.some.inj hf
    simp only [Bool.and_eq_true] at hs
    exact rputc ⟨h, Aq, cq, qs, Aa, ca, an, An, cn, ns, Ar, cr, ar⟩ w ⟨hq, ha, hn, hr, lq, la, ln, lr, small_of hs.1.1, small_of hs.1.2, small_of hs.2⟩
  · rw [if_neg hs] at hf; cases hf
end Go.Proofs.Ytjklgdpffmaamaa.Wm

namespace Go.Proofs.Ytjklgdpffmaamaa.Wm
open Go.RowKit Go.PlainAid Go.Maps Go.Proofs.Ytjklgdpffmaamaa.Base Go.Proofs.Ytjklgdpffmaamaa.Oct Go.Proofs.Ytjklgdpffmaamaa.Nm
open Go.Proofs.YtjklgdpffmaamaaW.PrintWords (blk_cell blk_below blk_put blk_frozen blk_ne blk_new blk_lt blk_grown Ev LeO own_nil own_ne own_other own_setCell)
set_option linter.unusedVariables false
set_option linter.unusedSimpArgs false
/-- A reply that was read, or none. -/
def repG (g : Got) : Got := if g.e = 0 ∧ g.h.qr = true ∧ g.h.op = 0 ∧ (g.qs.length : Int) = 1 then g else got0 2000
theorem getVc {s : ByteArray} {r : Got} (hs : s.size ≤ 9223372036854775000) (h : Ev (fun k => getV k s) r) (w : World) : Calls Try.prog 35 #[.string s] w (GetPost s w r) := by
  obtain ⟨k, hk⟩ := h
  exact getc s w hs (hk k (Nat.le_refl _))
set_option maxHeartbeats 8000000 in
set_option maxRecDepth 100000 in
theorem replyc (s : ByteArray) (w : World) (hs : s.size ≤ 9223372036854775000) {g : Got} (h : Ev (fun k => getV k s) g) : Calls Try.prog 17 #[.string s] w (GetPost s w (repG g)) := by
  have pp := blk_new w (.cells mz 27)
  have BB : Below w.heap.size w (w.alloc (.cells mz 27)) := (Below.refl _ _).alloc (Nat.le_refl _) _
  have sp : (w.alloc (.cells mz 27)).heap.size = w.heap.size + 1 := by simp
  have kg := getVc hs h (w.alloc (.cells mz 27))
  obtain ⟨⟨id, qr, op, aa, tc, rd, ra, z, rc⟩, qs, an, ns, ar, er⟩ := g
  clear h
  go_enter Try.func17, Try.ntmps17
  go_wp2_with fail
  refine kg.mono ?_
  rintro e w2 ⟨vq, va, vn, vr, rfl, hq, ha, hn, hr, k1, k2, k3, hb⟩
  dsimp only at hq ha hn hr
  obtain ⟨Aq, cq, rfl⟩ := Sl.own_slice hq
  obtain ⟨Aa, ca, rfl⟩ := Sl.own_slice ha
  obtain ⟨An, cn, rfl⟩ := Sl.own_slice hn
  obtain ⟨Ar, cr, rfl⟩ := Sl.own_slice hr
  replace pp := blk_below pp hb
  replace BB := BB.trans (hb.mono (by omega))
  have B1 : Below w2.heap.size w2 (w2.alloc (.cells #[.int .i64 id, .bool qr, .int .i64 op, .bool aa, .bool tc, .bool rd, .bool ra, .int .i64 z, .int .i64 rc, .slice Aq qs.length cq, .slice Aa an.length ca, .slice An ns.length cn, .slice Ar ar.length cr] 27)) := (Below.refl _ _).alloc (Nat.le_refl _) _
  have bm := blk_new w2 (.cells #[.int .i64 id, .bool qr, .int .i64 op, .bool aa, .bool tc, .bool rd, .bool ra, .int .i64 z, .int .i64 rc, .slice Aq qs.length cq, .slice Aa an.length ca, .slice An ns.length cn, .slice Ar ar.length cr] 27)
  go_upto_region 2 with (fail)
  replace pp := blk_below pp B1
  replace BB := BB.trans (B1.mono BB.size)
  have sB := hb.size
  replace hq := own_lower (Sl.own_below hq B1) (b' := w.heap.size) (by omega)
  replace ha := own_lower (Sl.own_below ha B1) (b' := w.heap.size) (by omega)
  replace hn := own_lower (Sl.own_below hn B1) (b' := w.heap.size) (by omega)
  replace hr := own_lower (Sl.own_below hr B1) (b' := w.heap.size) (by omega)
  clear kg B1 hb sp sB
  generalize w2.alloc (.cells #[.int .i64 id, .bool qr, .int .i64 op, .bool aa, .bool tc, .bool rd, .bool ra, .int .i64 z, .int .i64 rc, .slice Aq qs.length cq, .slice Aa an.length ca, .slice An ns.length cn, .slice Ar ar.length cr] 27) = w3 at *
  generalize w2.heap.size = km at *
  have x0 : w3.cell? ⟨w.heap.size, 0, none⟩ = some (.int .i64 0) := (blk_cell pp 0).trans rfl
  have x1 : w3.cell? ⟨w.heap.size, 1, none⟩ = some (.bool false) := (blk_cell pp 1).trans rfl
  have x2 : w3.cell? ⟨w.heap.size, 2, none⟩ = some (.int .i64 0) := (blk_cell pp 2).trans rfl
  have x3 : w3.cell? ⟨w.heap.size, 3, none⟩ = some (.bool false) := (blk_cell pp 3).trans rfl
  have x4 : w3.cell? ⟨w.heap.size, 4, none⟩ = some (.bool false) := (blk_cell pp 4).trans rfl
  have x5 : w3.cell? ⟨w.heap.size, 5, none⟩ = some (.bool false) := (blk_cell pp 5).trans rfl
  have x6 : w3.cell? ⟨w.heap.size, 6, none⟩ = some (.bool false) := (blk_cell pp 6).trans rfl
  have x7 : w3.cell? ⟨w.heap.size, 7, none⟩ = some (.int .i64 0) := (blk_cell pp 7).trans rfl
  have x8 : w3.cell? ⟨w.heap.size, 8, none⟩ = some (.int .i64 0) := (blk_cell pp 8).trans rfl
  have x9 : w3.cell? ⟨w.heap.size, 9, none⟩ = some (.slice none 0 0) := (blk_cell pp 9).trans rfl
  have x10 : w3.cell? ⟨w.heap.size, 10, none⟩ = some (.slice none 0 0) := (blk_cell pp 10).trans rfl
  have x11 : w3.cell? ⟨w.heap.size, 11, none⟩ = some (.slice none 0 0) := (blk_cell pp 11).trans rfl
  have x12 : w3.cell? ⟨w.heap.size, 12, none⟩ = some (.slice none 0 0) := (blk_cell pp 12).trans rfl
  have y0 := blk_frozen pp 0
  have y1 := blk_frozen pp 1
  have y2 := blk_frozen pp 2
  have y3 := blk_frozen pp 3
  have y4 := blk_frozen pp 4
  have y5 := blk_frozen pp 5
  have y6 := blk_frozen pp 6
  have y7 := blk_frozen pp 7
  have y8 := blk_frozen pp 8
  have y9 := blk_frozen pp 9
  have y10 := blk_frozen pp 10
  have y11 := blk_frozen pp 11
  have y12 := blk_frozen pp 12
  have z0 : w3.cell? ⟨km, 0, none⟩ = some (.int .i64 id) := (blk_cell bm 0).trans rfl
  have z1 : w3.cell? ⟨km, 1, none⟩ = some (.bool qr) := (blk_cell bm 1).trans rfl
  have z2 : w3.cell? ⟨km, 2, none⟩ = some (.int .i64 op) := (blk_cell bm 2).trans rfl
  have z3 : w3.cell? ⟨km, 3, none⟩ = some (.bool aa) := (blk_cell bm 3).trans rfl
  have z4 : w3.cell? ⟨km, 4, none⟩ = some (.bool tc) := (blk_cell bm 4).trans rfl
  have z5 : w3.cell? ⟨km, 5, none⟩ = some (.bool rd) := (blk_cell bm 5).trans rfl
  have z6 : w3.cell? ⟨km, 6, none⟩ = some (.bool ra) := (blk_cell bm 6).trans rfl
  have z7 : w3.cell? ⟨km, 7, none⟩ = some (.int .i64 z) := (blk_cell bm 7).trans rfl
  have z8 : w3.cell? ⟨km, 8, none⟩ = some (.int .i64 rc) := (blk_cell bm 8).trans rfl
  have z9 : w3.cell? ⟨km, 9, none⟩ = some (.slice Aq qs.length cq) := (blk_cell bm 9).trans rfl
  have z10 : w3.cell? ⟨km, 10, none⟩ = some (.slice Aa an.length ca) := (blk_cell bm 10).trans rfl
  have z11 : w3.cell? ⟨km, 11, none⟩ = some (.slice An ns.length cn) := (blk_cell bm 11).trans rfl
  have z12 : w3.cell? ⟨km, 12, none⟩ = some (.slice Ar ar.length cr) := (blk_cell bm 12).trans rfl
  have HB := Lib.hid (show ¬ (er = 0 ∧ qr = true ∧ op = 0 ∧ (qs.length : Int) = 1) → repG ⟨⟨id, qr, op, aa, tc, rd, ra, z, rc⟩, qs, an, ns, ar, er⟩ = got0 2000 from fun h => if_neg h)
  by_cases c1 : er = 0
  case neg =>
    have t1 : (er != 0) = true := by simpa using c1
    have EB := Lib.hid (HB.out (fun h => c1 h.1))
    clear c1 HB
    go_wp2
    have pF := putAll_blk 0 [.int .i64 0, .bool false, .int .i64 0, .bool false, .bool false, .bool false, .bool false, .int .i64 0, .int .i64 0, .slice none 0 0, .slice none 0 0, .slice none 0 0, .slice none 0 0] mz pp (by simp [setAll])
    have GF := putAll_grown (row := none) 0 [.int .i64 0, .bool false, .int .i64 0, .bool false, .bool false, .bool false, .bool false, .int .i64 0, .int .i64 0, .slice none 0 0, .slice none 0 0, .slice none 0 0, .slice none 0 0] (grown_below BB none) (Nat.le_refl _)
    simp only [putAll] at pF GF
    have e0 := (blk_cell pF 0).trans rfl
    have e1 := (blk_cell pF 1).trans rfl
    have e2 := (blk_cell pF 2).trans rfl
    have e3 := (blk_cell pF 3).trans rfl
    have e4 := (blk_cell pF 4).trans rfl
    have e5 := (blk_cell pF 5).trans rfl
    have e6 := (blk_cell pF 6).trans rfl
    have e7 := (blk_cell pF 7).trans rfl
    have e8 := (blk_cell pF 8).trans rfl
    have e9 := (blk_cell pF 9).trans rfl
    have e10 := (blk_cell pF 10).trans rfl
    have e11 := (blk_cell pF 11).trans rfl
    have e12 := (blk_cell pF 12).trans rfl
    refine bodyPost_ret (v := .tuple #[.agg mz, .int .i64 2000]) (by simp [results, Try.results17, go_sem, e0, e1, e2, e3, e4, e5, e6, e7, e8, e9, e10, e11, e12]) rfl ?_
    rw [EB.out]
    exact post0 s w _ 2000 ⟨GF.os, GF.tape, GF.output, GF.size, fun k hk => GF.block k hk (by simp)⟩
  have t1 : (er != 0) = false := by simpa using c1
  cases qr with
  | false =>
    have EB := Lib.hid (HB.out (fun h => absurd h.2.1 (by decide)))
    clear c1 HB
    go_wp2
    have pF := putAll_blk 0 [.int .i64 0, .bool false, .int .i64 0, .bool false, .bool false, .bool false, .bool false, .int .i64 0, .int .i64 0, .slice none 0 0, .slice none 0 0, .slice none 0 0, .slice none 0 0] mz pp (by simp [setAll])
    have GF := putAll_grown (row := none) 0 [.int .i64 0, .bool false, .int .i64 0, .bool false, .bool false, .bool false, .bool false, .int .i64 0, .int .i64 0, .slice none 0 0, .slice none 0 0, .slice none 0 0, .slice none 0 0] (grown_below BB none) (Nat.le_refl _)
    simp only [putAll] at pF GF
    have e0 := (blk_cell pF 0).trans rfl
    have e1 := (blk_cell pF 1).trans rfl
    have e2 := (blk_cell pF 2).trans rfl
    have e3 := (blk_cell pF 3).trans rfl
    have e4 := (blk_cell pF 4).trans rfl
    have e5 := (blk_cell pF 5).trans rfl
    have e6 := (blk_cell pF 6).trans rfl
    have e7 := (blk_cell pF 7).trans rfl
    have e8 := (blk_cell pF 8).trans rfl
    have e9 := (blk_cell pF 9).trans rfl
    have e10 := (blk_cell pF 10).trans rfl
    have e11 := (blk_cell pF 11).trans rfl
    have e12 := (blk_cell pF 12).trans rfl
    refine bodyPost_ret (v := .tuple #[.agg mz, .int .i64 2000]) (by simp [results, Try.results17, go_sem, e0, e1, e2, e3, e4, e5, e6, e7, e8, e9, e10, e11, e12]) rfl ?_
    rw [EB.out]
    exact post0 s w _ 2000 ⟨GF.os, GF.tape, GF.output, GF.size, fun k hk => GF.block k hk (by simp)⟩
  | true =>
  by_cases c3 : op = 0
  case neg =>
    have t3 : (op != 0) = true := by simpa using c3
    have EB := Lib.hid (HB.out (fun h => c3 h.2.2.1))
    clear c1 c3 HB
    go_wp2
    have pF := putAll_blk 0 [.int .i64 0, .bool false, .int .i64 0, .bool false, .bool false, .bool false, .bool false, .int .i64 0, .int .i64 0, .slice none 0 0, .slice none 0 0, .slice none 0 0, .slice none 0 0] mz pp (by simp [setAll])
    have GF := putAll_grown (row := none) 0 [.int .i64 0, .bool false, .int .i64 0, .bool false, .bool false, .bool false, .bool false, .int .i64 0, .int .i64 0, .slice none 0 0, .slice none 0 0, .slice none 0 0, .slice none 0 0] (grown_below BB none) (Nat.le_refl _)
    simp only [putAll] at pF GF
    have e0 := (blk_cell pF 0).trans rfl
    have e1 := (blk_cell pF 1).trans rfl
    have e2 := (blk_cell pF 2).trans rfl
    have e3 := (blk_cell pF 3).trans rfl
    have e4 := (blk_cell pF 4).trans rfl
    have e5 := (blk_cell pF 5).trans rfl
    have e6 := (blk_cell pF 6).trans rfl
    have e7 := (blk_cell pF 7).trans rfl
    have e8 := (blk_cell pF 8).trans rfl
    have e9 := (blk_cell pF 9).trans rfl
    have e10 := (blk_cell pF 10).trans rfl
    have e11 := (blk_cell pF 11).trans rfl
    have e12 := (blk_cell pF 12).trans rfl
    refine bodyPost_ret (v := .tuple #[.agg mz, .int .i64 2000]) (by simp [results, Try.results17, go_sem, e0, e1, e2, e3, e4, e5, e6, e7, e8, e9, e10, e11, e12]) rfl ?_
    rw [EB.out]
    exact post0 s w _ 2000 ⟨GF.os, GF.tape, GF.output, GF.size, fun k hk => GF.block k hk (by simp)⟩
  have t3 : (op != 0) = false := by simpa using c3
  by_cases c4 : (qs.length : Int) = 1
  case neg =>
    have t4 : ((qs.length : Int) != 1) = true := by simpa using c4
    have EB := Lib.hid (HB.out (fun h => c4 h.2.2.2))
    clear c1 c3 c4 HB
    go_wp2
    have pF := putAll_blk 0 [.int .i64 0, .bool false, .int .i64 0, .bool false, .bool false, .bool false, .bool false, .int .i64 0, .int .i64 0, .slice none 0 0, .slice none 0 0, .slice none 0 0, .slice none 0 0] mz pp (by simp [setAll])
    have GF := putAll_grown (row := none) 0 [.int .i64 0, .bool false, .int .i64 0, .bool false, .bool false, .bool false, .bool false, .int .i64 0, .int .i64 0, .slice none 0 0, .slice none 0 0, .slice none 0 0, .slice none 0 0] (grown_below BB none) (Nat.le_refl _)
    simp only [putAll] at pF GF
    have e0 := (blk_cell pF 0).trans rfl
    have e1 := (blk_cell pF 1).trans rfl
    have e2 := (blk_cell pF 2).trans rfl
    have e3 := (blk_cell pF 3).trans rfl
    have e4 := (blk_cell pF 4).trans rfl
    have e5 := (blk_cell pF 5).trans rfl
    have e6 := (blk_cell pF 6).trans rfl
    have e7 := (blk_cell pF 7).trans rfl
    have e8 := (blk_cell pF 8).trans rfl
    have e9 := (blk_cell pF 9).trans rfl
    have e10 := (blk_cell pF 10).trans rfl
    have e11 := (blk_cell pF 11).trans rfl
    have e12 := (blk_cell pF 12).trans rfl
    refine bodyPost_ret (v := .tuple #[.agg mz, .int .i64 2000]) (by simp [results, Try.results17, go_sem, e0, e1, e2, e3, e4, e5, e6, e7, e8, e9, e10, e11, e12]) rfl ?_
    rw [EB.out]
    exact post0 s w _ 2000 ⟨GF.os, GF.tape, GF.output, GF.size, fun k hk => GF.block k hk (by simp)⟩
  have t4 : ((qs.length : Int) != 1) = false := by simpa using c4
  have EG := Lib.hid (show repG ⟨⟨id, true, op, aa, tc, rd, ra, z, rc⟩, qs, an, ns, ar, er⟩ = ⟨⟨id, true, op, aa, tc, rd, ra, z, rc⟩, qs, an, ns, ar, er⟩ from if_pos ⟨c1, rfl, c3, c4⟩)
  have H4 := Lib.hid c4
  have H1 := Lib.hid c1
  clear c1 c3 c4 HB
  go_wp2
  have pF := putAll_blk 0 [.int .i64 id, .bool true, .int .i64 op, .bool aa, .bool tc, .bool rd, .bool ra, .int .i64 z, .int .i64 rc, .slice Aq qs.length cq, .slice Aa an.length ca, .slice An ns.length cn, .slice Ar ar.length cr] #[.int .i64 id, .bool true, .int .i64 op, .bool aa, .bool tc, .bool rd, .bool ra, .int .i64 z, .int .i64 rc, .slice Aq qs.length cq, .slice Aa an.length ca, .slice An ns.length cn, .slice Ar ar.length cr] pp (by simp [setAll])
  have GF := putAll_grown (row := none) 0 [.int .i64 id, .bool true, .int .i64 op, .bool aa, .bool tc, .bool rd, .bool ra, .int .i64 z, .int .i64 rc, .slice Aq qs.length cq, .slice Aa an.length ca, .slice An ns.length cn, .slice Ar ar.length cr] (grown_below BB none) (Nat.le_refl _)
  have oq := putAll_own 0 [.int .i64 id, .bool true, .int .i64 op, .bool aa, .bool tc, .bool rd, .bool ra, .int .i64 z, .int .i64 rc, .slice Aq qs.length cq, .slice Aa an.length ca, .slice An ns.length cn, .slice Ar ar.length cr] hq (own_ne hq pp (by decide))
  have oa := putAll_own 0 [.int .i64 id, .bool true, .int .i64 op, .bool aa, .bool tc, .bool rd, .bool ra, .int .i64 z, .int .i64 rc, .slice Aq qs.length cq, .slice Aa an.length ca, .slice An ns.length cn, .slice Ar ar.length cr] ha (own_ne ha pp (by decide))
  have on := putAll_own 0 [.int .i64 id, .bool true, .int .i64 op, .bool aa, .bool tc, .bool rd, .bool ra, .int .i64 z, .int .i64 rc, .slice Aq qs.length cq, .slice Aa an.length ca, .slice An ns.length cn, .slice Ar ar.length cr] hn (own_ne hn pp (by decide))
  have or' := putAll_own 0 [.int .i64 id, .bool true, .int .i64 op, .bool aa, .bool tc, .bool rd, .bool ra, .int .i64 z, .int .i64 rc, .slice Aq qs.length cq, .slice Aa an.length ca, .slice An ns.length cn, .slice Ar ar.length cr] hr (own_ne hr pp (by decide))
  simp only [putAll] at pF GF oq oa on or'
  have e0 := (blk_cell pF 0).trans rfl
  have e1 := (blk_cell pF 1).trans rfl
  have e2 := (blk_cell pF 2).trans rfl
  have e3 := (blk_cell pF 3).trans rfl
  have e4 := (blk_cell pF 4).trans rfl
  have e5 := (blk_cell pF 5).trans rfl
  have e6 := (blk_cell pF 6).trans rfl
  have e7 := (blk_cell pF 7).trans rfl
  have e8 := (blk_cell pF 8).trans rfl
  have e9 := (blk_cell pF 9).trans rfl
  have e10 := (blk_cell pF 10).trans rfl
  have e11 := (blk_cell pF 11).trans rfl
  have e12 := (blk_cell pF 12).trans rfl
  refine bodyPost_ret (v := .tuple #[.agg #[.int .i64 id, .bool true, .int .i64 op, .bool aa, .bool tc, .bool rd, .bool ra, .int .i64 z, .int .i64 rc, .slice Aq qs.length cq, .slice Aa an.length ca, .slice An ns.length cn, .slice Ar ar.length cr], .int .i64 0]) (by simp [results, Try.results17, go_sem, e0, e1, e2, e3, e4, e5, e6, e7, e8, e9, e10, e11, e12]) rfl ?_
  rw [EG.out]
  exact ⟨_, _, _, _, by rw [H1.out], oq, oa, on, or', k1, k2, k3, ⟨GF.os, GF.tape, GF.output, GF.size, fun k hk => GF.block k hk (by simp)⟩⟩
set_option maxHeartbeats 8000000 in
set_option maxRecDepth 100000 in
theorem rreplyc (s : ByteArray) (w : World) (hs : s.size ≤ 9223372036854775000) {g : Got} (h : Ev (fun k => getV k s) g) : Calls Try.prog 18 #[.string s] w (GetPost s w (repG g)) := by
  have pp := blk_new w (.cells mz 27)
  have BB : Below w.heap.size w (w.alloc (.cells mz 27)) := (Below.refl _ _).alloc (Nat.le_refl _) _
  have sp : (w.alloc (.cells mz 27)).heap.size = w.heap.size + 1 := by simp
  have kg := rgetVc hs h (w.alloc (.cells mz 27))
  obtain ⟨⟨id, qr, op, aa, tc, rd, ra, z, rc⟩, qs, an, ns, ar, er⟩ := g
  clear h
  go_enter Try.func18, Try.ntmps18
  go_wp2_with fail
  refine kg.mono ?_
  rintro e w2 ⟨vq, va, vn, vr, rfl, hq, ha, hn, hr, k1, k2, k3, hb⟩
  dsimp only at hq ha hn hr
  obtain ⟨Aq, cq, rfl⟩ := Sl.own_slice hq
  obtain ⟨Aa, ca, rfl⟩ := Sl.own_slice ha
  obtain ⟨An, cn, rfl⟩ := Sl.own_slice hn
  obtain ⟨Ar, cr, rfl⟩ := Sl.own_slice hr
  replace pp := blk_below pp hb
  replace BB := BB.trans (hb.mono (by omega))
  have B1 : Below w2.heap.size w2 (w2.alloc (.cells #[.int .i64 id, .bool qr, .int .i64 op, .bool aa, .bool tc, .bool rd, .bool ra, .int .i64 z, .int .i64 rc, .slice Aq qs.length cq, .slice Aa an.length ca, .slice An ns.length cn, .slice Ar ar.length cr] 27)) := (Below.refl _ _).alloc (Nat.le_refl _) _
  have bm := blk_new w2 (.cells #[.int .i64 id, .bool qr, .int .i64 op, .bool aa, .bool tc, .bool rd, .bool ra, .int .i64 z, .int .i64 rc, .slice Aq qs.length cq, .slice Aa an.length ca, .slice An ns.length cn, .slice Ar ar.length cr] 27)
  go_upto_region 2 with (fail)
  replace pp := blk_below pp B1
  replace BB := BB.trans (B1.mono BB.size)
  have sB := hb.size
  replace hq := own_lower (Sl.own_below hq B1) (b' := w.heap.size) (by omega)
  replace ha := own_lower (Sl.own_below ha B1) (b' := w.heap.size) (by omega)
  replace hn := own_lower (Sl.own_below hn B1) (b' := w.heap.size) (by omega)
  replace hr := own_lower (Sl.own_below hr B1) (b' := w.heap.size) (by omega)
  clear kg B1 hb sp sB
  generalize w2.alloc (.cells #[.int .i64 id, .bool qr, .int .i64 op, .bool aa, .bool tc, .bool rd, .bool ra, .int .i64 z, .int .i64 rc, .slice Aq qs.length cq, .slice Aa an.length ca, .slice An ns.length cn, .slice Ar ar.length cr] 27) = w3 at *
  generalize w2.heap.size = km at *
  have x0 : w3.cell? ⟨w.heap.size, 0, none⟩ = some (.int .i64 0) := (blk_cell pp 0).trans rfl
  have x1 : w3.cell? ⟨w.heap.size, 1, none⟩ = some (.bool false) := (blk_cell pp 1).trans rfl
  have x2 : w3.cell? ⟨w.heap.size, 2, none⟩ = some (.int .i64 0) := (blk_cell pp 2).trans rfl
  have x3 : w3.cell? ⟨w.heap.size, 3, none⟩ = some (.bool false) := (blk_cell pp 3).trans rfl
  have x4 : w3.cell? ⟨w.heap.size, 4, none⟩ = some (.bool false) := (blk_cell pp 4).trans rfl
  have x5 : w3.cell? ⟨w.heap.size, 5, none⟩ = some (.bool false) := (blk_cell pp 5).trans rfl
  have x6 : w3.cell? ⟨w.heap.size, 6, none⟩ = some (.bool false) := (blk_cell pp 6).trans rfl
  have x7 : w3.cell? ⟨w.heap.size, 7, none⟩ = some (.int .i64 0) := (blk_cell pp 7).trans rfl
  have x8 : w3.cell? ⟨w.heap.size, 8, none⟩ = some (.int .i64 0) := (blk_cell pp 8).trans rfl
  have x9 : w3.cell? ⟨w.heap.size, 9, none⟩ = some (.slice none 0 0) := (blk_cell pp 9).trans rfl
  have x10 : w3.cell? ⟨w.heap.size, 10, none⟩ = some (.slice none 0 0) := (blk_cell pp 10).trans rfl
  have x11 : w3.cell? ⟨w.heap.size, 11, none⟩ = some (.slice none 0 0) := (blk_cell pp 11).trans rfl
  have x12 : w3.cell? ⟨w.heap.size, 12, none⟩ = some (.slice none 0 0) := (blk_cell pp 12).trans rfl
  have y0 := blk_frozen pp 0
  have y1 := blk_frozen pp 1
  have y2 := blk_frozen pp 2
  have y3 := blk_frozen pp 3
  have y4 := blk_frozen pp 4
  have y5 := blk_frozen pp 5
  have y6 := blk_frozen pp 6
  have y7 := blk_frozen pp 7
  have y8 := blk_frozen pp 8
  have y9 := blk_frozen pp 9
  have y10 := blk_frozen pp 10
  have y11 := blk_frozen pp 11
  have y12 := blk_frozen pp 12
  have z0 : w3.cell? ⟨km, 0, none⟩ = some (.int .i64 id) := (blk_cell bm 0).trans rfl
  have z1 : w3.cell? ⟨km, 1, none⟩ = some (.bool qr) := (blk_cell bm 1).trans rfl
  have z2 : w3.cell? ⟨km, 2, none⟩ = some (.int .i64 op) := (blk_cell bm 2).trans rfl
  have z3 : w3.cell? ⟨km, 3, none⟩ = some (.bool aa) := (blk_cell bm 3).trans rfl
  have z4 : w3.cell? ⟨km, 4, none⟩ = some (.bool tc) := (blk_cell bm 4).trans rfl
  have z5 : w3.cell? ⟨km, 5, none⟩ = some (.bool rd) := (blk_cell bm 5).trans rfl
  have z6 : w3.cell? ⟨km, 6, none⟩ = some (.bool ra) := (blk_cell bm 6).trans rfl
  have z7 : w3.cell? ⟨km, 7, none⟩ = some (.int .i64 z) := (blk_cell bm 7).trans rfl
  have z8 : w3.cell? ⟨km, 8, none⟩ = some (.int .i64 rc) := (blk_cell bm 8).trans rfl
  have z9 : w3.cell? ⟨km, 9, none⟩ = some (.slice Aq qs.length cq) := (blk_cell bm 9).trans rfl
  have z10 : w3.cell? ⟨km, 10, none⟩ = some (.slice Aa an.length ca) := (blk_cell bm 10).trans rfl
  have z11 : w3.cell? ⟨km, 11, none⟩ = some (.slice An ns.length cn) := (blk_cell bm 11).trans rfl
  have z12 : w3.cell? ⟨km, 12, none⟩ = some (.slice Ar ar.length cr) := (blk_cell bm 12).trans rfl
  have HB := Lib.hid (show ¬ (er = 0 ∧ qr = true ∧ op = 0 ∧ (qs.length : Int) = 1) → repG ⟨⟨id, qr, op, aa, tc, rd, ra, z, rc⟩, qs, an, ns, ar, er⟩ = got0 2000 from fun h => if_neg h)
  by_cases c1 : er = 0
  case neg =>
    have t1 : (er != 0) = true := by simpa using c1
    have EB := Lib.hid (HB.out (fun h => c1 h.1))
    clear c1 HB
    go_wp2
    have pF := putAll_blk 0 [.int .i64 0, .bool false, .int .i64 0, .bool false, .bool false, .bool false, .bool false, .int .i64 0, .int .i64 0, .slice none 0 0, .slice none 0 0, .slice none 0 0, .slice none 0 0] mz pp (by simp [setAll])
    have GF := putAll_grown (row := none) 0 [.int .i64 0, .bool false, .int .i64 0, .bool false, .bool false, .bool false, .bool false, .int .i64 0, .int .i64 0, .slice none 0 0, .slice none 0 0, .slice none 0 0, .slice none 0 0] (grown_below BB none) (Nat.le_refl _)
    simp only [putAll] at pF GF
    have e0 := (blk_cell pF 0).trans rfl
    have e1 := (blk_cell pF 1).trans rfl
    have e2 := (blk_cell pF 2).trans rfl
    have e3 := (blk_cell pF 3).trans rfl
    have e4 := (blk_cell pF 4).trans rfl
    have e5 := (blk_cell pF 5).trans rfl
    have e6 := (blk_cell pF 6).trans rfl
    have e7 := (blk_cell pF 7).trans rfl
    have e8 := (blk_cell pF 8).trans rfl
    have e9 := (blk_cell pF 9).trans rfl
    have e10 := (blk_cell pF 10).trans rfl
    have e11 := (blk_cell pF 11).trans rfl
    have e12 := (blk_cell pF 12).trans rfl
    refine bodyPost_ret (v := .tuple #[.agg mz, .int .i64 2000]) (by simp [results, Try.results18, go_sem, e0, e1, e2, e3, e4, e5, e6, e7, e8, e9, e10, e11, e12]) rfl ?_
    rw [EB.out]
    exact post0 s w _ 2000 ⟨GF.os, GF.tape, GF.output, GF.size, fun k hk => GF.block k hk (by simp)⟩
  have t1 : (er != 0) = false := by simpa using c1
  cases qr with
  | false =>
    have EB := Lib.hid (HB.out (fun h => absurd h.2.1 (by decide)))
    clear c1 HB
    go_wp2
    have pF := putAll_blk 0 [.int .i64 0, .bool false, .int .i64 0, .bool false, .bool false, .bool false, .bool false, .int .i64 0, .int .i64 0, .slice none 0 0, .slice none 0 0, .slice none 0 0, .slice none 0 0] mz pp (by simp [setAll])
    have GF := putAll_grown (row := none) 0 [.int .i64 0, .bool false, .int .i64 0, .bool false, .bool false, .bool false, .bool false, .int .i64 0, .int .i64 0, .slice none 0 0, .slice none 0 0, .slice none 0 0, .slice none 0 0] (grown_below BB none) (Nat.le_refl _)
    simp only [putAll] at pF GF
    have e0 := (blk_cell pF 0).trans rfl
    have e1 := (blk_cell pF 1).trans rfl
    have e2 := (blk_cell pF 2).trans rfl
    have e3 := (blk_cell pF 3).trans rfl
    have e4 := (blk_cell pF 4).trans rfl
    have e5 := (blk_cell pF 5).trans rfl
    have e6 := (blk_cell pF 6).trans rfl
    have e7 := (blk_cell pF 7).trans rfl
    have e8 := (blk_cell pF 8).trans rfl
    have e9 := (blk_cell pF 9).trans rfl
    have e10 := (blk_cell pF 10).trans rfl
    have e11 := (blk_cell pF 11).trans rfl
    have e12 := (blk_cell pF 12).trans rfl
    refine bodyPost_ret (v := .tuple #[.agg mz, .int .i64 2000]) (by simp [results, Try.results18, go_sem, e0, e1, e2, e3, e4, e5, e6, e7, e8, e9, e10, e11, e12]) rfl ?_
    rw [EB.out]
    exact post0 s w _ 2000 ⟨GF.os, GF.tape, GF.output, GF.size, fun k hk => GF.block k hk (by simp)⟩
  | true =>
  by_cases c3 : op = 0
  case neg =>
    have t3 : (op != 0) = true := by simpa using c3
    have EB := Lib.hid (HB.out (fun h => c3 h.2.2.1))
    clear c1 c3 HB
    go_wp2
    have pF := putAll_blk 0 [.int .i64 0, .bool false, .int .i64 0, .bool false, .bool false, .bool false, .bool false, .int .i64 0, .int .i64 0, .slice none 0 0, .slice none 0 0, .slice none 0 0, .slice none 0 0] mz pp (by simp [setAll])
    have GF := putAll_grown (row := none) 0 [.int .i64 0, .bool false, .int .i64 0, .bool false, .bool false, .bool false, .bool false, .int .i64 0, .int .i64 0, .slice none 0 0, .slice none 0 0, .slice none 0 0, .slice none 0 0] (grown_below BB none) (Nat.le_refl _)
    simp only [putAll] at pF GF
    have e0 := (blk_cell pF 0).trans rfl
    have e1 := (blk_cell pF 1).trans rfl
    have e2 := (blk_cell pF 2).trans rfl
    have e3 := (blk_cell pF 3).trans rfl
    have e4 := (blk_cell pF 4).trans rfl
    have e5 := (blk_cell pF 5).trans rfl
    have e6 := (blk_cell pF 6).trans rfl
    have e7 := (blk_cell pF 7).trans rfl
    have e8 := (blk_cell pF 8).trans rfl
    have e9 := (blk_cell pF 9).trans rfl
    have e10 := (blk_cell pF 10).trans rfl
    have e11 := (blk_cell pF 11).trans rfl
    have e12 := (blk_cell pF 12).trans rfl
    refine bodyPost_ret (v := .tuple #[.agg mz, .int .i64 2000]) (by simp [results, Try.results18, go_sem, e0, e1, e2, e3, e4, e5, e6, e7, e8, e9, e10, e11, e12]) rfl ?_
    rw [EB.out]
    exact post0 s w _ 2000 ⟨GF.os, GF.tape, GF.output, GF.size, fun k hk => GF.block k hk (by simp)⟩
  have t3 : (op != 0) = false := by simpa using c3
  by_cases c4 : (qs.length : Int) = 1
  case neg =>
    have t4 : ((qs.length : Int) != 1) = true := by simpa using c4
    have EB := Lib.hid (HB.out (fun h => c4 h.2.2.2))
    clear c1 c3 c4 HB
    go_wp2
    have pF := putAll_blk 0 [.int .i64 0, .bool false, .int .i64 0, .bool false, .bool false, .bool false, .bool false, .int .i64 0, .int .i64 0, .slice none 0 0, .slice none 0 0, .slice none 0 0, .slice none 0 0] mz pp (by simp [setAll])
    have GF := putAll_grown (row := none) 0 [.int .i64 0, .bool false, .int .i64 0, .bool false, .bool false, .bool false, .bool false, .int .i64 0, .int .i64 0, .slice none 0 0, .slice none 0 0, .slice none 0 0, .slice none 0 0] (grown_below BB none) (Nat.le_refl _)
    simp only [putAll] at pF GF
    have e0 := (blk_cell pF 0).trans rfl
    have e1 := (blk_cell pF 1).trans rfl
    have e2 := (blk_cell pF 2).trans rfl
    have e3 := (blk_cell pF 3).trans rfl
    have e4 := (blk_cell pF 4).trans rfl
    have e5 := (blk_cell pF 5).trans rfl
    have e6 := (blk_cell pF 6).trans rfl
    have e7 := (blk_cell pF 7).trans rfl
    have e8 := (blk_cell pF 8).trans rfl
    have e9 := (blk_cell pF 9).trans rfl
    have e10 := (blk_cell pF 10).trans rfl
    have e11 := (blk_cell pF 11).trans rfl
    have e12 := (blk_cell pF 12).trans rfl
    refine bodyPost_ret (v := .tuple #[.agg mz, .int .i64 2000]) (by simp [results, Try.results18, go_sem, e0, e1, e2, e3, e4, e5, e6, e7, e8, e9, e10, e11, e12]) rfl ?_
    rw [EB.out]
    exact post0 s w _ 2000 ⟨GF.os, GF.tape, GF.output, GF.size, fun k hk => GF.block k hk (by simp)⟩
  have t4 : ((qs.length : Int) != 1) = false := by simpa using c4
  have EG := Lib.hid (show repG ⟨⟨id, true, op, aa, tc, rd, ra, z, rc⟩, qs, an, ns, ar, er⟩ = ⟨⟨id, true, op, aa, tc, rd, ra, z, rc⟩, qs, an, ns, ar, er⟩ from if_pos ⟨c1, rfl, c3, c4⟩)
  have H4 := Lib.hid c4
  have H1 := Lib.hid c1
  clear c1 c3 c4 HB
  go_wp2
  have pF := putAll_blk 0 [.int .i64 id, .bool true, .int .i64 op, .bool aa, .bool tc, .bool rd, .bool ra, .int .i64 z, .int .i64 rc, .slice Aq qs.length cq, .slice Aa an.length ca, .slice An ns.length cn, .slice Ar ar.length cr] #[.int .i64 id, .bool true, .int .i64 op, .bool aa, .bool tc, .bool rd, .bool ra, .int .i64 z, .int .i64 rc, .slice Aq qs.length cq, .slice Aa an.length ca, .slice An ns.length cn, .slice Ar ar.length cr] pp (by simp [setAll])
  have GF := putAll_grown (row := none) 0 [.int .i64 id, .bool true, .int .i64 op, .bool aa, .bool tc, .bool rd, .bool ra, .int .i64 z, .int .i64 rc, .slice Aq qs.length cq, .slice Aa an.length ca, .slice An ns.length cn, .slice Ar ar.length cr] (grown_below BB none) (Nat.le_refl _)
  have oq := putAll_own 0 [.int .i64 id, .bool true, .int .i64 op, .bool aa, .bool tc, .bool rd, .bool ra, .int .i64 z, .int .i64 rc, .slice Aq qs.length cq, .slice Aa an.length ca, .slice An ns.length cn, .slice Ar ar.length cr] hq (own_ne hq pp (by decide))
  have oa := putAll_own 0 [.int .i64 id, .bool true, .int .i64 op, .bool aa, .bool tc, .bool rd, .bool ra, .int .i64 z, .int .i64 rc, .slice Aq qs.length cq, .slice Aa an.length ca, .slice An ns.length cn, .slice Ar ar.length cr] ha (own_ne ha pp (by decide))
  have on := putAll_own 0 [.int .i64 id, .bool true, .int .i64 op, .bool aa, .bool tc, .bool rd, .bool ra, .int .i64 z, .int .i64 rc, .slice Aq qs.length cq, .slice Aa an.length ca, .slice An ns.length cn, .slice Ar ar.length cr] hn (own_ne hn pp (by decide))
  have or' := putAll_own 0 [.int .i64 id, .bool true, .int .i64 op, .bool aa, .bool tc, .bool rd, .bool ra, .int .i64 z, .int .i64 rc, .slice Aq qs.length cq, .slice Aa an.length ca, .slice An ns.length cn, .slice Ar ar.length cr] hr (own_ne hr pp (by decide))
  simp only [putAll] at pF GF oq oa on or'
  have e0 := (blk_cell pF 0).trans rfl
  have e1 := (blk_cell pF 1).trans rfl
  have e2 := (blk_cell pF 2).trans rfl
  have e3 := (blk_cell pF 3).trans rfl
  have e4 := (blk_cell pF 4).trans rfl
  have e5 := (blk_cell pF 5).trans rfl
  have e6 := (blk_cell pF 6).trans rfl
  have e7 := (blk_cell pF 7).trans rfl
  have e8 := (blk_cell pF 8).trans rfl
  have e9 := (blk_cell pF 9).trans rfl
  have e10 := (blk_cell pF 10).trans rfl
  have e11 := (blk_cell pF 11).trans rfl
  have e12 := (blk_cell pF 12).trans rfl
  refine bodyPost_ret (v := .tuple #[.agg #[.int .i64 id, .bool true, .int .i64 op, .bool aa, .bool tc, .bool rd, .bool ra, .int .i64 z, .int .i64 rc, .slice Aq qs.length cq, .slice Aa an.length ca, .slice An ns.length cn, .slice Ar ar.length cr], .int .i64 0]) (by simp [results, Try.results18, go_sem, e0, e1, e2, e3, e4, e5, e6, e7, e8, e9, e10, e11, e12]) rfl ?_
  rw [EG.out]
  exact ⟨_, _, _, _, by rw [H1.out], oq, oa, on, or', k1, k2, k3, ⟨GF.os, GF.tape, GF.output, GF.size, fun k hk => GF.block k hk (by simp)⟩⟩
/-- As the print tells it. -/
def repF (k : Nat) (s : ByteArray) : Option Got := (getF k s).map repG
theorem repF_mono (k : Nat) (s : ByteArray) : LeO (repF k s) (repF (k + 1) s) := LeO.map _ (getF_mono k s)
theorem repFc {k : Nat} {s : ByteArray} {r : Got} (h : repF k s = some r) : s.size ≤ 9223372036854775000 ∧ ∃ g, Ev (fun k => getV k s) g ∧ r = repG g := by
  obtain ⟨g, hg, rfl⟩ := Option.map_eq_some_iff.1 h
  unfold getF at hg
  by_cases hs : s.size ≤ 9223372036854775000
  · rw [if_pos hs] at hg; exact ⟨hs, g, Ev.of (fun k => getV_mono k s) hg, rfl⟩
  · rw [if_neg hs] at hg; cases hg
theorem replyF {k : Nat} {s : ByteArray} {r : Got} (h : repF k s = some r) (w : World) : Calls Try.prog 17 #[.string s] w (GetPost s w r) := by
  obtain ⟨hs, g, hg, rfl⟩ := repFc h
  exact replyc s w hs hg
end Go.Proofs.Ytjklgdpffmaamaa.Wm

namespace Go.Proofs.Ytjklgdpffmaamaa.PLs
open Go.RowKit Go.Proofs.YtjklgdpffmaamaaW.PrintWords Go.Proofs.YtjklgdpffmaamaaW.PrintLast Go.Proofs.YtjklgdpffmaamaaW.PrintMore
attribute [local go_sem] max2_int min2_int max_two min_two max_three min_three max_four min_four   -- for this text's walks alone
set_option linter.unusedVariables false
set_option linter.unusedSimpArgs false

def errW : Option Int → Value
  | none => .nilIface
  | some c => .iface 0 (.int .i64 c)
theorem errW_none : errW none = .nilIface := rfl
theorem errW_some (c : Int) : errW (some c) = .iface 0 (.int .i64 c) := rfl

-- the values' own types
/-! #### struct type 40 -/
structure S40 where
  f0 : ByteArray
  f1 : Int
  f2 : Int
def z40 : S40 := ⟨(⟨#[]⟩ : ByteArray), (0 : Int), (0 : Int)⟩
def k40 : Kd S40 := Kd.iso (Kd.pair Kd.string (Kd.pair (Kd.int .i64) (Kd.int .i64))) (fun x : S40 => (x.f0, x.f1, x.f2))
theorem k40_open {w : World} {x : S40} {cs : List Value} (h : k40.K w x cs) : cs = [.string x.f0, .int .i64 x.f1, .int .i64 x.f2] := by
  obtain ⟨_, _, rfl, rfl, ⟨_, _, rfl, rfl, rfl⟩⟩ := h
  exact rfl
theorem k40_mkM (w : World) (base : Nat) (ok : Nat → Prop) (x : S40)  : k40.M w base ok x [.string x.f0, .int .i64 x.f1, .int .i64 x.f2] := ⟨[.string x.f0], [.int .i64 x.f1, .int .i64 x.f2], rfl, rfl, ⟨[.int .i64 x.f1], [.int .i64 x.f2], rfl, rfl, rfl⟩⟩
def rd_T40 (xs : List S40) (i : Int) : S40 := xs.getD i.toNat z40
theorem at_T40 {w : World} {A : Option Addr} {n : Nat} {xs : List S40} (h : Kd.C k40 w A n xs) (i : Int) (h0 : 0 ≤ i) (h1 : i < n) : ∃ ad , A = some ad ∧ w.cell? (ad.add (i.toNat * 3)) = some (.string (rd_T40 xs i).f0) ∧ w.cell? ⟨(ad.add (i.toNat * 3)).block, (ad.add (i.toNat * 3)).off + 1, none⟩ = some (.int .i64 (rd_T40 xs i).f1) ∧ w.cell? ⟨(ad.add (i.toNat * 3)).block, (ad.add (i.toNat * 3)).off + 2, none⟩ = some (.int .i64 (rd_T40 xs i).f2) := by
  obtain ⟨ad, c, e, _, hK, hc0⟩ := Kd.C_get h z40 i h0 h1
  have hc : ∀ j u, c[j]? = some u → w.cell? (ad.add (i.toNat * 3 + j)) = some u := hc0
  obtain rfl := k40_open hK
  exact ⟨ad, e, hc 0 _ rfl, by rw [← add_field _ _ 1 (by omega)]; exact hc 1 _ rfl, by rw [← add_field _ _ 2 (by omega)]; exact hc 2 _ rfl⟩

/-! #### struct type 53 -/
structure S53 where
  f0 : ByteArray
  f1 : Int
  f2 : Int
  f3 : Int
  f4 : ByteArray
def z53 : S53 := ⟨(⟨#[]⟩ : ByteArray), (0 : Int), (0 : Int), (0 : Int), (⟨#[]⟩ : ByteArray)⟩
def k53 : Kd S53 := Kd.iso (Kd.pair Kd.string (Kd.pair (Kd.int .i64) (Kd.pair (Kd.int .i64) (Kd.pair (Kd.int .i64) Kd.string)))) (fun x : S53 => (x.f0, x.f1, x.f2, x.f3, x.f4))
theorem k53_open {w : World} {x : S53} {cs : List Value} (h : k53.K w x cs) : cs = [.string x.f0, .int .i64 x.f1, .int .i64 x.f2, .int .i64 x.f3, .string x.f4] := by
  obtain ⟨_, _, rfl, rfl, ⟨_, _, rfl, rfl, ⟨_, _, rfl, rfl, ⟨_, _, rfl, rfl, rfl⟩⟩⟩⟩ := h
  exact rfl
theorem k53_mkM (w : World) (base : Nat) (ok : Nat → Prop) (x : S53)  : k53.M w base ok x [.string x.f0, .int .i64 x.f1, .int .i64 x.f2, .int .i64 x.f3, .string x.f4] := ⟨[.string x.f0], [.int .i64 x.f1, .int .i64 x.f2, .int .i64 x.f3, .string x.f4], rfl, rfl, ⟨[.int .i64 x.f1], [.int .i64 x.f2, .int .i64 x.f3, .string x.f4], rfl, rfl, ⟨[.int .i64 x.f2], [.int .i64 x.f3, .string x.f4], rfl, rfl, ⟨[.int .i64 x.f3], [.string x.f4], rfl, rfl, rfl⟩⟩⟩⟩
def rd_T53 (xs : List S53) (i : Int) : S53 := xs.getD i.toNat z53
theorem at_T53 {w : World} {A : Option Addr} {n : Nat} {xs : List S53} (h : Kd.C k53 w A n xs) (i : Int) (h0 : 0 ≤ i) (h1 : i < n) : ∃ ad , A = some ad ∧ w.cell? (ad.add (i.toNat * 5)) = some (.string (rd_T53 xs i).f0) ∧ w.cell? ⟨(ad.add (i.toNat * 5)).block, (ad.add (i.toNat * 5)).off + 1, none⟩ = some (.int .i64 (rd_T53 xs i).f1) ∧ w.cell? ⟨(ad.add (i.toNat * 5)).block, (ad.add (i.toNat * 5)).off + 2, none⟩ = some (.int .i64 (rd_T53 xs i).f2) ∧ w.cell? ⟨(ad.add (i.toNat * 5)).block, (ad.add (i.toNat * 5)).off + 3, none⟩ = some (.int .i64 (rd_T53 xs i).f3) ∧ w.cell? ⟨(ad.add (i.toNat * 5)).block, (ad.add (i.toNat * 5)).off + 4, none⟩ = some (.string (rd_T53 xs i).f4) := by
  obtain ⟨ad, c, e, _, hK, hc0⟩ := Kd.C_get h z53 i h0 h1
  have hc : ∀ j u, c[j]? = some u → w.cell? (ad.add (i.toNat * 5 + j)) = some u := hc0
  obtain rfl := k53_open hK
  exact ⟨ad, e, hc 0 _ rfl, by rw [← add_field _ _ 1 (by omega)]; exact hc 1 _ rfl, by rw [← add_field _ _ 2 (by omega)]; exact hc 2 _ rfl, by rw [← add_field _ _ 3 (by omega)]; exact hc 3 _ rfl, by rw [← add_field _ _ 4 (by omega)]; exact hc 4 _ rfl⟩

/-! #### struct type 131 -/
structure S131 where
  f0 : ByteArray
  f1 : Int
end Go.Proofs.Ytjklgdpffmaamaa.PLs

namespace Go.Proofs.Ytjklgdpffmaamaa.OkzLs
open Go.ChangeShapes Go.WideShapes Go.ChangeAt Go.RowKit Go.Proofs.YtjklgdpffmaamaaW.PrintWords Go.Proofs.Ytjklgdpffmaamaa.PLs Go.Proofs.Ytjklgdpffmaamaa.OpenZd
set_option linter.unusedVariables false
structure S23 where
  f0 : Int
  f1 : Bool
  f2 : Int
  f3 : Bool
  f4 : Bool
  f5 : Bool
  f6 : Bool
  f7 : Int
  f8 : Int
def k23 : Kd S23 := Kd.iso (Kd.pair (Kd.int .i64) (Kd.pair Kd.bool (Kd.pair (Kd.int .i64) (Kd.pair Kd.bool (Kd.pair Kd.bool (Kd.pair Kd.bool (Kd.pair Kd.bool (Kd.pair (Kd.int .i64) (Kd.int .i64))))))))) (fun x : S23 => (x.f0, x.f1, x.f2, x.f3, x.f4, x.f5, x.f6, x.f7, x.f8))
def ok23 (x : S23) : Prop := ((fun x => (Lit.int .i64 x).wf = true) x.f0) ∧ ((fun _ => True) x.f1) ∧ ((fun x => (Lit.int .i64 x).wf = true) x.f2) ∧ ((fun _ => True) x.f3) ∧ ((fun _ => True) x.f4) ∧ ((fun _ => True) x.f5) ∧ ((fun _ => True) x.f6) ∧ ((fun x => (Lit.int .i64 x).wf = true) x.f7) ∧ ((fun x => (Lit.int .i64 x).wf = true) x.f8)
theorem cells23 : ∀ {l : List Value}, l.length = 9 → ∃ c0 c1 c2 c3 c4 c5 c6 c7 c8, l = [c0, c1, c2, c3, c4, c5, c6, c7, c8]
  | [c0, c1, c2, c3, c4, c5, c6, c7, c8], _ => ⟨c0, c1, c2, c3, c4, c5, c6, c7, c8, rfl⟩
theorem opens23 {H : Type} (enc : TypeId × Value → H) (W : World) (base : Nat) (spare : Nat → Bool) (held : Bool) : Opens enc Try.prog W base spare held 23 k23 ok23 := by
  intro fuel cs y h hlt
  obtain ⟨xs, n, rfl, rfl, hl, hx, hf⟩ := DataW.trod_struct Try.underlying23 h
  obtain ⟨c0, c1, c2, c3, c4, c5, c6, c7, c8, rfl⟩ := cells23 (hl.trans (by kernel_rfl))
  obtain ⟨y0, e0⟩ : ∃ y, xs[0]? = some y := ⟨_, List.getElem?_eq_getElem (by rw [hx]; decide)⟩
  have g0 : DataW.trod enc Try.prog W base spare held n 3 (([c0, c1, c2, c3, c4, c5, c6, c7, c8].drop 0).take (Try.prog.cellsOf 3)) = xs[0]? := hf 0 _ rfl
  rw [e0, show Try.prog.cellsOf 3 = 1 by kernel_rfl] at g0
  obtain ⟨x0, k0', o0⟩ := (opens_int enc Try.prog W base spare held Try.underlying3) _ [c0] y0 g0 (light_part Try.prog Try.underlying23 hlt (j := 0) (by kernel_rfl) (by rw [List.getElem?_map, e0]; rfl))
  obtain ⟨y1, e1⟩ : ∃ y, xs[1]? = some y := ⟨_, List.getElem?_eq_getElem (by rw [hx]; decide)⟩
  have g1 : DataW.trod enc Try.prog W base spare held n 4 (([c0, c1, c2, c3, c4, c5, c6, c7, c8].drop 1).take (Try.prog.cellsOf 4)) = xs[1]? := hf 1 _ rfl
  rw [e1, show Try.prog.cellsOf 4 = 1 by kernel_rfl] at g1
  obtain ⟨x1, k1', o1⟩ := (opens_bool enc Try.prog W base spare held Try.underlying4) _ [c1] y1 g1 (light_part Try.prog Try.underlying23 hlt (j := 1) (by kernel_rfl) (by rw [List.getElem?_map, e1]; rfl))
  obtain ⟨y2, e2⟩ : ∃ y, xs[2]? = some y := ⟨_, List.getElem?_eq_getElem (by rw [hx]; decide)⟩
  have g2 : DataW.trod enc Try.prog W base spare held n 3 (([c0, c1, c2, c3, c4, c5, c6, c7, c8].drop 2).take (Try.prog.cellsOf 3)) = xs[2]? := hf 2 _ rfl
  rw [e2, show Try.prog.cellsOf 3 = 1 by kernel_rfl] at g2
  obtain ⟨x2, k2', o2⟩ := (opens_int enc Try.prog W base spare held Try.underlying3) _ [c2] y2 g2 (light_part Try.prog Try.underlying23 hlt (j := 2) (by kernel_rfl) (by rw [List.getElem?_map, e2]; rfl))
  obtain ⟨y3, e3⟩ : ∃ y, xs[3]? = some y := ⟨_, List.getElem?_eq_getElem (by rw [hx]; decide)⟩
  have g3 : DataW.trod enc Try.prog W base spare held n 4 (([c0, c1, c2, c3, c4, c5, c6, c7, c8].drop 3).take (Try.prog.cellsOf 4)) = xs[3]? := hf 3 _ rfl
  rw [e3, show Try.prog.cellsOf 4 = 1 by kernel_rfl] at g3
  obtain ⟨x3, k3', o3⟩ := (opens_bool enc Try.prog W base spare held Try.underlying4) _ [c3] y3 g3 (light_part Try.prog Try.underlying23 hlt (j := 3) (by kernel_rfl) (by rw [List.getElem?_map, e3]; rfl))
  obtain ⟨y4, e4⟩ : ∃ y, xs[4]? = some y := ⟨_, List.getElem?_eq_getElem (by rw [hx]; decide)⟩
  have g4 : DataW.trod enc Try.prog W base spare held n 4 (([c0, c1, c2, c3, c4, c5, c6, c7, c8].drop 4).take (Try.prog.cellsOf 4)) = xs[4]? := hf 4 _ rfl
  rw [e4, show Try.prog.cellsOf 4 = 1 by kernel_rfl] at g4
  obtain ⟨x4, k4', o4⟩ := (opens_bool enc Try.prog W base spare held Try.underlying4) _ [c4] y4 g4 (light_part Try.prog Try.underlying23 hlt (j := 4) (by kernel_rfl) (by rw [List.getElem?_map, e4]; rfl))
  obtain ⟨y5, e5⟩ : ∃ y, xs[5]? = some y := ⟨_, List.getElem?_eq_getElem (by rw [hx]; decide)⟩
  have g5 : DataW.trod enc Try.prog W base spare held n 4 (([c0, c1, c2, c3, c4, c5, c6, c7, c8].drop 5).take (Try.prog.cellsOf 4)) = xs[5]? := hf 5 _ rfl
  rw [e5, show Try.prog.cellsOf 4 = 1 by kernel_rfl] at g5
  obtain ⟨x5, k5', o5⟩ := (opens_bool enc Try.prog W base spare held Try.underlying4) _ [c5] y5 g5 (light_part Try.prog Try.underlying23 hlt (j := 5) (by kernel_rfl) (by rw [List.getElem?_map, e5]; rfl))
  obtain ⟨y6, e6⟩ : ∃ y, xs[6]? = some y := ⟨_, List.getElem?_eq_getElem (by rw [hx]; decide)⟩
  have g6 : DataW.trod enc Try.prog W base spare held n 4 (([c0, c1, c2, c3, c4, c5, c6, c7, c8].drop 6).take (Try.prog.cellsOf 4)) = xs[6]? := hf 6 _ rfl
  rw [e6, show Try.prog.cellsOf 4 = 1 by kernel_rfl] at g6
  obtain ⟨x6, k6', o6⟩ := (opens_bool enc Try.prog W base spare held Try.underlying4) _ [c6] y6 g6 (light_part Try.prog Try.underlying23 hlt (j := 6) (by kernel_rfl) (by rw [List.getElem?_map, e6]; rfl))
  obtain ⟨y7, e7⟩ : ∃ y, xs[7]? = some y := ⟨_, List.getElem?_eq_getElem (by rw [hx]; decide)⟩
  have g7 : DataW.trod enc Try.prog W base spare held n 3 (([c0, c1, c2, c3, c4, c5, c6, c7, c8].drop 7).take (Try.prog.cellsOf 3)) = xs[7]? := hf 7 _ rfl
  rw [e7, show Try.prog.cellsOf 3 = 1 by kernel_rfl] at g7
  obtain ⟨x7, k7', o7⟩ := (opens_int enc Try.prog W base spare held Try.underlying3) _ [c7] y7 g7 (light_part Try.prog Try.underlying23 hlt (j := 7) (by kernel_rfl) (by rw [List.getElem?_map, e7]; rfl))
  obtain ⟨y8, e8⟩ : ∃ y, xs[8]? = some y := ⟨_, List.getElem?_eq_getElem (by rw [hx]; decide)⟩
  have g8 : DataW.trod enc Try.prog W base spare held n 3 (([c0, c1, c2, c3, c4, c5, c6, c7, c8].drop 8).take (Try.prog.cellsOf 3)) = xs[8]? := hf 8 _ rfl
  rw [e8, show Try.prog.cellsOf 3 = 1 by kernel_rfl] at g8
  obtain ⟨x8, k8', o8⟩ := (opens_int enc Try.prog W base spare held Try.underlying3) _ [c8] y8 g8 (light_part Try.prog Try.underlying23 hlt (j := 8) (by kernel_rfl) (by rw [List.getElem?_map, e8]; rfl))
  obtain rfl : xs = [y0, y1, y2, y3, y4, y5, y6, y7, y8] := by
    apply List.ext_getElem?
    intro i
    have hx' : xs.length = 9 := hx
    match i with
    | 0 => exact e0
    | 1 => exact e1
    | 2 => exact e2
    | 3 => exact e3
    | 4 => exact e4
    | 5 => exact e5
    | 6 => exact e6
    | 7 => exact e7
    | 8 => exact e8
    | i + 9 => rw [List.getElem?_eq_none (by omega), List.getElem?_eq_none (by simp)]
  exact ⟨⟨x0, x1, x2, x3, x4, x5, x6, x7, x8⟩, ⟨[c0], _, rfl, k0', ⟨[c1], _, rfl, k1', ⟨[c2], _, rfl, k2', ⟨[c3], _, rfl, k3', ⟨[c4], _, rfl, k4', ⟨[c5], _, rfl, k5', ⟨[c6], _, rfl, k6', ⟨[c7], _, rfl, k7', k8'⟩⟩⟩⟩⟩⟩⟩⟩, ⟨o0, o1, o2, o3, o4, o5, o6, o7, o8⟩⟩
def ok40 (x : S40) : Prop := ((fun s => s.size ≤ 140737488351232) x.f0) ∧ ((fun x => (Lit.int .i64 x).wf = true) x.f1) ∧ ((fun x => (Lit.int .i64 x).wf = true) x.f2)
theorem cells40 : ∀ {l : List Value}, l.length = 3 → ∃ c0 c1 c2, l = [c0, c1, c2]
  | [c0, c1, c2], _ => ⟨c0, c1, c2, rfl⟩
theorem opens40 {H : Type} (enc : TypeId × Value → H) (W : World) (base : Nat) (spare : Nat → Bool) (held : Bool) : Opens enc Try.prog W base spare held 40 k40 ok40 := by
  intro fuel cs y h hlt
  obtain ⟨xs, n, rfl, rfl, hl, hx, hf⟩ := DataW.trod_struct Try.underlying40 h
  obtain ⟨c0, c1, c2, rfl⟩ := cells40 (hl.trans (by kernel_rfl))
  obtain ⟨y0, e0⟩ : ∃ y, xs[0]? = some y := ⟨_, List.getElem?_eq_getElem (by rw [hx]; decide)⟩
  have g0 : DataW.trod enc Try.prog W base spare held n 9 (([c0, c1, c2].drop 0).take (Try.prog.cellsOf 9)) = xs[0]? := hf 0 _ rfl
  rw [e0, show Try.prog.cellsOf 9 = 1 by kernel_rfl] at g0
  obtain ⟨x0, k0', o0⟩ := (opens_string enc Try.prog W base spare held Try.underlying9) _ [c0] y0 g0 (light_part Try.prog Try.underlying40 hlt (j := 0) (by kernel_rfl) (by rw [List.getElem?_map, e0]; rfl))
  obtain ⟨y1, e1⟩ : ∃ y, xs[1]? = some y := ⟨_, List.getElem?_eq_getElem (by rw [hx]; decide)⟩
  have g1 : DataW.trod enc Try.prog W base spare held n 3 (([c0, c1, c2].drop 1).take (Try.prog.cellsOf 3)) = xs[1]? := hf 1 _ rfl
  rw [e1, show Try.prog.cellsOf 3 = 1 by kernel_rfl] at g1
  obtain ⟨x1, k1', o1⟩ := (opens_int enc Try.prog W base spare held Try.underlying3) _ [c1] y1 g1 (light_part Try.prog Try.underlying40 hlt (j := 1) (by kernel_rfl) (by rw [List.getElem?_map, e1]; rfl))
  obtain ⟨y2, e2⟩ : ∃ y, xs[2]? = some y := ⟨_, List.getElem?_eq_getElem (by rw [hx]; decide)⟩
  have g2 : DataW.trod enc Try.prog W base spare held n 3 (([c0, c1, c2].drop 2).take (Try.prog.cellsOf 3)) = xs[2]? := hf 2 _ rfl
  rw [e2, show Try.prog.cellsOf 3 = 1 by kernel_rfl] at g2
  obtain ⟨x2, k2', o2⟩ := (opens_int enc Try.prog W base spare held Try.underlying3) _ [c2] y2 g2 (light_part Try.prog Try.underlying40 hlt (j := 2) (by kernel_rfl) (by rw [List.getElem?_map, e2]; rfl))
  obtain rfl : xs = [y0, y1, y2] := by
    apply List.ext_getElem?
    intro i
    have hx' : xs.length = 3 := hx
    match i with
    | 0 => exact e0
    | 1 => exact e1
    | 2 => exact e2
    | i + 3 => rw [List.getElem?_eq_none (by omega), List.getElem?_eq_none (by simp)]
  exact ⟨⟨x0, x1, x2⟩, ⟨[c0], _, rfl, k0', ⟨[c1], _, rfl, k1', k2'⟩⟩, ⟨o0, o1, o2⟩⟩
def ok53 (x : S53) : Prop := ((fun s => s.size ≤ 140737488351232) x.f0) ∧ ((fun x => (Lit.int .i64 x).wf = true) x.f1) ∧ ((fun x => (Lit.int .i64 x).wf = true) x.f2) ∧ ((fun x => (Lit.int .i64 x).wf = true) x.f3) ∧ ((fun s => s.size ≤ 140737488351232) x.f4)
theorem cells53 : ∀ {l : List Value}, l.length = 5 → ∃ c0 c1 c2 c3 c4, l = [c0, c1, c2, c3, c4]
  | [c0, c1, c2, c3, c4], _ => ⟨c0, c1, c2, c3, c4, rfl⟩
theorem opens53 {H : Type} (enc : TypeId × Value → H) (W : World) (base : Nat) (spare : Nat → Bool) (held : Bool) : Opens enc Try.prog W base spare held 53 k53 ok53 := by
  intro fuel cs y h hlt
  obtain ⟨xs, n, rfl, rfl, hl, hx, hf⟩ := DataW.trod_struct Try.underlying53 h
  obtain ⟨c0, c1, c2, c3, c4, rfl⟩ := cells53 (hl.trans (by kernel_rfl))
  obtain ⟨y0, e0⟩ : ∃ y, xs[0]? = some y := ⟨_, List.getElem?_eq_getElem (by rw [hx]; decide)⟩
  have g0 : DataW.trod enc Try.prog W base spare held n 9 (([c0, c1, c2, c3, c4].drop 0).take (Try.prog.cellsOf 9)) = xs[0]? := hf 0 _ rfl
  rw [e0, show Try.prog.cellsOf 9 = 1 by kernel_rfl] at g0
  obtain ⟨x0, k0', o0⟩ := (opens_string enc Try.prog W base spare held Try.underlying9) _ [c0] y0 g0 (light_part Try.prog Try.underlying53 hlt (j := 0) (by kernel_rfl) (by rw [List.getElem?_map, e0]; rfl))
  obtain ⟨y1, e1⟩ : ∃ y, xs[1]? = some y := ⟨_, List.getElem?_eq_getElem (by rw [hx]; decide)⟩
  have g1 : DataW.trod enc Try.prog W base spare held n 3 (([c0, c1, c2, c3, c4].drop 1).take (Try.prog.cellsOf 3)) = xs[1]? := hf 1 _ rfl
  rw [e1, show Try.prog.cellsOf 3 = 1 by kernel_rfl] at g1
  obtain ⟨x1, k1', o1⟩ := (opens_int enc Try.prog W base spare held Try.underlying3) _ [c1] y1 g1 (light_part Try.prog Try.underlying53 hlt (j := 1) (by kernel_rfl) (by rw [List.getElem?_map, e1]; rfl))
  obtain ⟨y2, e2⟩ : ∃ y, xs[2]? = some y := ⟨_, List.getElem?_eq_getElem (by rw [hx]; decide)⟩
  have g2 : DataW.trod enc Try.prog W base spare held n 3 (([c0, c1, c2, c3, c4].drop 2).take (Try.prog.cellsOf 3)) = xs[2]? := hf 2 _ rfl
  rw [e2, show Try.prog.cellsOf 3 = 1 by kernel_rfl] at g2
  obtain ⟨x2, k2', o2⟩ := (opens_int enc Try.prog W base spare held Try.underlying3) _ [c2] y2 g2 (light_part Try.prog Try.underlying53 hlt (j := 2) (by kernel_rfl) (by rw [List.getElem?_map, e2]; rfl))
  obtain ⟨y3, e3⟩ : ∃ y, xs[3]? = some y := ⟨_, List.getElem?_eq_getElem (by rw [hx]; decide)⟩
  have g3 : DataW.trod enc Try.prog W base spare held n 3 (([c0, c1, c2, c3, c4].drop 3).take (Try.prog.cellsOf 3)) = xs[3]? := hf 3 _ rfl
  rw [e3, show Try.prog.cellsOf 3 = 1 by kernel_rfl] at g3
  obtain ⟨x3, k3', o3⟩ := (opens_int enc Try.prog W base spare held Try.underlying3) _ [c3] y3 g3 (light_part Try.prog Try.underlying53 hlt (j := 3) (by kernel_rfl) (by rw [List.getElem?_map, e3]; rfl))
  obtain ⟨y4, e4⟩ : ∃ y, xs[4]? = some y := ⟨_, List.getElem?_eq_getElem (by rw [hx]; decide)⟩
  have g4 : DataW.trod enc Try.prog W base spare held n 9 (([c0, c1, c2, c3, c4].drop 4).take (Try.prog.cellsOf 9)) = xs[4]? := hf 4 _ rfl
  rw [e4, show Try.prog.cellsOf 9 = 1 by kernel_rfl] at g4
  obtain ⟨x4, k4', o4⟩ := (opens_string enc Try.prog W base spare held Try.underlying9) _ [c4] y4 g4 (light_part Try.prog Try.underlying53 hlt (j := 4) (by kernel_rfl) (by rw [List.getElem?_map, e4]; rfl))
  obtain rfl : xs = [y0, y1, y2, y3, y4] := by
    apply List.ext_getElem?
    intro i
    have hx' : xs.length = 5 := hx
    match i with
    | 0 => exact e0
    | 1 => exact e1
    | 2 => exact e2
    | 3 => exact e3
    | 4 => exact e4
    | i + 5 => rw [List.getElem?_eq_none (by omega), List.getElem?_eq_none (by simp)]
  exact ⟨⟨x0, x1, x2, x3, x4⟩, ⟨[c0], _, rfl, k0', ⟨[c1], _, rfl, k1', ⟨[c2], _, rfl, k2', ⟨[c3], _, rfl, k3', k4'⟩⟩⟩⟩, ⟨o0, o1, o2, o3, o4⟩⟩
structure S27 where
  f0 : S23
  f1 : List (S40)
  f2 : List (S53)
  f3 : List (S53)
  f4 : List (S53)
def k27 : Kd S27 := Kd.iso (Kd.pair k23 (Kd.pair (Kd.slice 40 k40) (Kd.pair (Kd.slice 53 k53) (Kd.pair (Kd.slice 53 k53) (Kd.slice 53 k53))))) (fun x : S27 => (x.f0, x.f1, x.f2, x.f3, x.f4))
def ok27 (x : S27) : Prop := (ok23 x.f0) ∧ ((fun xs => xs.length * Try.prog.bytesOf 40 ≤ 140737488351232 ∧ ∀ x ∈ xs, ok40 x) x.f1) ∧ ((fun xs => xs.length * Try.prog.bytesOf 53 ≤ 140737488351232 ∧ ∀ x ∈ xs, ok53 x) x.f2) ∧ ((fun xs => xs.length * Try.prog.bytesOf 53 ≤ 140737488351232 ∧ ∀ x ∈ xs, ok53 x) x.f3) ∧ ((fun xs => xs.length * Try.prog.bytesOf 53 ≤ 140737488351232 ∧ ∀ x ∈ xs, ok53 x) x.f4)
theorem cells27 : ∀ {l : List Value}, l.length = 13 → ∃ c0 c1 c2 c3 c4 c5 c6 c7 c8 c9 c10 c11 c12, l = [c0, c1, c2, c3, c4, c5, c6, c7, c8, c9, c10, c11, c12]
  | [c0, c1, c2, c3, c4, c5, c6, c7, c8, c9, c10, c11, c12], _ => ⟨c0, c1, c2, c3, c4, c5, c6, c7, c8, c9, c10, c11, c12, rfl⟩
theorem opens27 {H : Type} (enc : TypeId × Value → H) (W : World) (base : Nat) (spare : Nat → Bool) (held : Bool) : Opens enc Try.prog W base spare held 27 k27 ok27 := by
  intro fuel cs y h hlt
  obtain ⟨xs, n, rfl, rfl, hl, hx, hf⟩ := DataW.trod_struct Try.underlying27 h
  obtain ⟨c0, c1, c2, c3, c4, c5, c6, c7, c8, c9, c10, c11, c12, rfl⟩ := cells27 (hl.trans (by kernel_rfl))
  obtain ⟨y0, e0⟩ : ∃ y, xs[0]? = some y := ⟨_, List.getElem?_eq_getElem (by rw [hx]; decide)⟩
  have g0 : DataW.trod enc Try.prog W base spare held n 23 (([c0, c1, c2, c3, c4, c5, c6, c7, c8, c9, c10, c11, c12].drop 0).take (Try.prog.cellsOf 23)) = xs[0]? := hf 0 _ rfl
  rw [e0, show Try.prog.cellsOf 23 = 9 by kernel_rfl] at g0
  obtain ⟨x0, k0', o0⟩ := (opens23 enc W base spare held) _ [c0, c1, c2, c3, c4, c5, c6, c7, c8] y0 g0 (light_part Try.prog Try.underlying27 hlt (j := 0) (by kernel_rfl) (by rw [List.getElem?_map, e0]; rfl))
  obtain ⟨y1, e1⟩ : ∃ y, xs[1]? = some y := ⟨_, List.getElem?_eq_getElem (by rw [hx]; decide)⟩
  have g1 : DataW.trod enc Try.prog W base spare held n 24 (([c0, c1, c2, c3, c4, c5, c6, c7, c8, c9, c10, c11, c12].drop 9).take (Try.prog.cellsOf 24)) = xs[1]? := hf 1 _ rfl
  rw [e1, show Try.prog.cellsOf 24 = 1 by kernel_rfl] at g1
  obtain ⟨x1, k1', o1⟩ := (opens_slice enc Try.prog W base spare held Try.underlying24 (by kernel_rfl) (opens40 enc W base spare held)) _ [c9] y1 g1 (light_part Try.prog Try.underlying27 hlt (j := 1) (by kernel_rfl) (by rw [List.getElem?_map, e1]; rfl))
  obtain ⟨y2, e2⟩ : ∃ y, xs[2]? = some y := ⟨_, List.getElem?_eq_getElem (by rw [hx]; decide)⟩
  have g2 : DataW.trod enc Try.prog W base spare held n 25 (([c0, c1, c2, c3, c4, c5, c6, c7, c8, c9, c10, c11, c12].drop 10).take (Try.prog.cellsOf 25)) = xs[2]? := hf 2 _ rfl
  rw [e2, show Try.prog.cellsOf 25 = 1 by kernel_rfl] at g2
  obtain ⟨x2, k2', o2⟩ := (opens_slice enc Try.prog W base spare held Try.underlying25 (by kernel_rfl) (opens53 enc W base spare held)) _ [c10] y2 g2 (light_part Try.prog Try.underlying27 hlt (j := 2) (by kernel_rfl) (by rw [List.getElem?_map, e2]; rfl))
  obtain ⟨y3, e3⟩ : ∃ y, xs[3]? = some y := ⟨_, List.getElem?_eq_getElem (by rw [hx]; decide)⟩
  have g3 : DataW.trod enc Try.prog W base spare held n 25 (([c0, c1, c2, c3, c4, c5, c6, c7, c8, c9, c10, c11, c12].drop 11).take (Try.prog.cellsOf 25)) = xs[3]? := hf 3 _ rfl
  rw [e3, show Try.prog.cellsOf 25 = 1 by kernel_rfl] at g3
  obtain ⟨x3, k3', o3⟩ := (opens_slice enc Try.prog W base spare held Try.underlying25 (by kernel_rfl) (opens53 enc W base spare held)) _ [c11] y3 g3 (light_part Try.prog Try.underlying27 hlt (j := 3) (by kernel_rfl) (by rw [List.getElem?_map, e3]; rfl))
  obtain ⟨y4, e4⟩ : ∃ y, xs[4]? = some y := ⟨_, List.getElem?_eq_getElem (by rw [hx]; decide)⟩
  have g4 : DataW.trod enc Try.prog W base spare held n 25 (([c0, c1, c2, c3, c4, c5, c6, c7, c8, c9, c10, c11, c12].drop 12).take (Try.prog.cellsOf 25)) = xs[4]? := hf 4 _ rfl
  rw [e4, show Try.prog.cellsOf 25 = 1 by kernel_rfl] at g4
  obtain ⟨x4, k4', o4⟩ := (opens_slice enc Try.prog W base spare held Try.underlying25 (by kernel_rfl) (opens53 enc W base spare held)) _ [c12] y4 g4 (light_part Try.prog Try.underlying27 hlt (j := 4) (by kernel_rfl) (by rw [List.getElem?_map, e4]; rfl))
  obtain rfl : xs = [y0, y1, y2, y3, y4] := by
    apply List.ext_getElem?
    intro i
    have hx' : xs.length = 5 := hx
    match i with
    | 0 => exact e0
    | 1 => exact e1
    | 2 => exact e2
    | 3 => exact e3
    | 4 => exact e4
    | i + 5 => rw [List.getElem?_eq_none (by omega), List.getElem?_eq_none (by simp)]
  exact ⟨⟨x0, x1, x2, x3, x4⟩, ⟨[c0, c1, c2, c3, c4, c5, c6, c7, c8], _, rfl, k0', ⟨[c9], _, rfl, k1', ⟨[c10], _, rfl, k2', ⟨[c11], _, rfl, k3', k4'⟩⟩⟩⟩, ⟨o0, o1, o2, o3, o4⟩⟩
end Go.Proofs.Ytjklgdpffmaamaa.OkzLs

namespace Go.Proofs.Ytjklgdpffmaamaa.PLs
open Go.RowKit Go.Proofs.YtjklgdpffmaamaaW.PrintWords Go.Proofs.YtjklgdpffmaamaaW.PrintLast Go.Proofs.YtjklgdpffmaamaaW.PrintMore
attribute [local go_sem] max2_int min2_int max_two min_two max_three min_three max_four min_four   -- for this text's walks alone
set_option linter.unusedVariables false
set_option linter.unusedSimpArgs false

theorem eqA23 (d : Nat) (w : World) (x0 y0 : Int) (x1 y1 : Bool) (x2 y2 : Int) (x3 y3 : Bool) (x4 y4 : Bool) (x5 y5 : Bool) (x6 y6 : Bool) (x7 y7 : Int) (x8 y8 : Int) :
    (Op.equalIn (d + 2) 23 (.agg #[.int .i64 x0, .bool x1, .int .i64 x2, .bool x3, .bool x4, .bool x5, .bool x6, .int .i64 x7, .int .i64 x8]) (.agg #[.int .i64 y0, .bool y1, .int .i64 y2, .bool y3, .bool y4, .bool y5, .bool y6, .int .i64 y7, .int .i64 y8])).run Try.prog w = .ok (x0 == y0 && (x1 == y1 && (x2 == y2 && (x3 == y3 && (x4 == y4 && (x5 == y5 && (x6 == y6 && (x7 == y7 && (x8 == y8))))))))) w := by
  refine eqA_of Try.underlying23 (by kernel_rfl) ?_
  refine eqf_cons (by rfl) (by go_simp; rfl) (by go_simp; rfl) (by go_simp) ?_
  refine eqf_cons (by rfl) (by go_simp; rfl) (by go_simp; rfl) (by go_simp) ?_
  refine eqf_cons (by rfl) (by go_simp; rfl) (by go_simp; rfl) (by go_simp) ?_
  refine eqf_cons (by rfl) (by go_simp; rfl) (by go_simp; rfl) (by go_simp) ?_
  refine eqf_cons (by rfl) (by go_simp; rfl) (by go_simp; rfl) (by go_simp) ?_
  refine eqf_cons (by rfl) (by go_simp; rfl) (by go_simp; rfl) (by go_simp) ?_
  refine eqf_cons (by rfl) (by go_simp; rfl) (by go_simp; rfl) (by go_simp) ?_
  refine eqf_cons (by rfl) (by go_simp; rfl) (by go_simp; rfl) (by go_simp) ?_
  exact eqf_last (by rfl) (by go_simp; rfl) (by go_simp; rfl) (by go_simp)
end Go.Proofs.Ytjklgdpffmaamaa.PLs

namespace Go.Proofs.Ytjklgdpffmaamaa.PLs
open Go.RowKit Go.Proofs.YtjklgdpffmaamaaW.PrintWords Go.Proofs.YtjklgdpffmaamaaW.PrintLast Go.Proofs.YtjklgdpffmaamaaW.PrintMore
attribute [local go_sem] max2_int min2_int max_two min_two max_three min_three max_four min_four   -- for this text's walks alone
set_option linter.unusedVariables false
set_option linter.unusedSimpArgs false

theorem eqA40 (d : Nat) (w : World) (x0 y0 : ByteArray) (x1 y1 : Int) (x2 y2 : Int) :
    (Op.equalIn (d + 2) 40 (.agg #[.string x0, .int .i64 x1, .int .i64 x2]) (.agg #[.string y0, .int .i64 y1, .int .i64 y2])).run Try.prog w = .ok (x0.toList == y0.toList && (x1 == y1 && (x2 == y2))) w := by
  refine eqA_of Try.underlying40 (by kernel_rfl) ?_
  refine eqf_cons (by rfl) (by go_simp; rfl) (by go_simp; rfl) (by go_simp) ?_
  refine eqf_cons (by rfl) (by go_simp; rfl) (by go_simp; rfl) (by go_simp) ?_
  exact eqf_last (by rfl) (by go_simp; rfl) (by go_simp; rfl) (by go_simp)
end Go.Proofs.Ytjklgdpffmaamaa.PLs

namespace Go.Proofs.Ytjklgdpffmaamaa.PLs
open Go.RowKit Go.Proofs.YtjklgdpffmaamaaW.PrintWords Go.Proofs.YtjklgdpffmaamaaW.PrintLast Go.Proofs.YtjklgdpffmaamaaW.PrintMore
attribute [local go_sem] max2_int min2_int max_two min_two max_three min_three max_four min_four   -- for this text's walks alone
set_option linter.unusedVariables false
set_option linter.unusedSimpArgs false

theorem eqA53 (d : Nat) (w : World) (x0 y0 : ByteArray) (x1 y1 : Int) (x2 y2 : Int) (x3 y3 : Int) (x4 y4 : ByteArray) :
    (Op.equalIn (d + 2) 53 (.agg #[.string x0, .int .i64 x1, .int .i64 x2, .int .i64 x3, .string x4]) (.agg #[.string y0, .int .i64 y1, .int .i64 y2, .int .i64 y3, .string y4])).run Try.prog w = .ok (x0.toList == y0.toList && (x1 == y1 && (x2 == y2 && (x3 == y3 && (x4.toList == y4.toList))))) w := by
  refine eqA_of Try.underlying53 (by kernel_rfl) ?_
  refine eqf_cons (by rfl) (by go_simp; rfl) (by go_simp; rfl) (by go_simp) ?_
  refine eqf_cons (by rfl) (by go_simp; rfl) (by go_simp; rfl) (by go_simp) ?_
  refine eqf_cons (by rfl) (by go_simp; rfl) (by go_simp; rfl) (by go_simp) ?_
  refine eqf_cons (by rfl) (by go_simp; rfl) (by go_simp; rfl) (by go_simp) ?_
  exact eqf_last (by rfl) (by go_simp; rfl) (by go_simp; rfl) (by go_simp)
end Go.Proofs.Ytjklgdpffmaamaa.PLs

namespace Go.Proofs.Ytjklgdpffmaamaa.PLs
open Go.RowKit Go.Proofs.YtjklgdpffmaamaaW.PrintWords Go.Proofs.YtjklgdpffmaamaaW.PrintLast Go.Proofs.YtjklgdpffmaamaaW.PrintMore
attribute [local go_sem] max2_int min2_int max_two min_two max_three min_three max_four min_four   -- for this text's walks alone
set_option linter.unusedVariables false
set_option linter.unusedSimpArgs false

attribute [local go_sem high] eqA23 eqA40 eqA53
/-! ### wimplelaw0_SameQuestions: function 31 -/
def wimplelaw0_SameQuestions.l0 : Nat → List (S40) → List (S40) → Int → Option (Bool)
  | 0, _, _, _ => none
  | k + 1, x0, x1, x5 => if x5 < (x0.length : Int) then (if 0 ≤ x5 then (if x5 < (x1.length : Int) then (if (!((((rd_T40 x0 x5).f0).toList) == (((rd_T40 x1 x5).f0).toList)) || (!(((rd_T40 x0 x5).f1) == ((rd_T40 x1 x5).f1)) || (!(((rd_T40 x0 x5).f2) == ((rd_T40 x1 x5).f2))))) = true then (some false) else (wimplelaw0_SameQuestions.l0 k x0 x1 (wrap64 (x5 + 1)))) else (none)) else (none)) else (some true)
def wimplelaw0_SameQuestions.f (k : Nat) (l0 : List (S40)) (l1 : List (S40)) : Option (Bool) := if (l0.length : Int) = (l1.length : Int) then (wimplelaw0_SameQuestions.l0 k l0 l1 0) else (some false)
theorem wimplelaw0_SameQuestions.mono_l : ∀ k, (∀ y0 y1 y2, LeO (wimplelaw0_SameQuestions.l0 k y0 y1 y2) (wimplelaw0_SameQuestions.l0 (k + 1) y0 y1 y2))
  | 0 => fun _ _ _ r h => by simp [wimplelaw0_SameQuestions.l0] at h
  | k + 1 => by
    have ih0 := wimplelaw0_SameQuestions.mono_l k
    · intro y0 y1 y2
      unfold wimplelaw0_SameQuestions.l0
      repeat' first
      | (with_reducible exact ih0 _ _ _)
      | (with_reducible exact LeO.refl _)
      | (with_reducible exact LeO.none _)
      | (with_reducible refine LeO.ite ?_ ?_)
      | (with_reducible refine LeO.bind ?_ (fun _ => ?_))
      | exact ih0 _ _ _
      | exact LeO.none _
      | refine LeO.ite ?_ ?_
      | refine LeO.bind ?_ (fun _ => ?_)
theorem wimplelaw0_SameQuestions.mono : ∀ a0 a1 k, LeO (wimplelaw0_SameQuestions.f k a0 a1) (wimplelaw0_SameQuestions.f (k + 1) a0 a1) := by
  intro a0 a1 k
  have ih0 := wimplelaw0_SameQuestions.mono_l k
  unfold wimplelaw0_SameQuestions.f
  repeat' first
      | (with_reducible exact ih0 _ _ _)
      | (with_reducible exact LeO.refl _)
      | (with_reducible exact LeO.none _)
      | (with_reducible refine LeO.ite ?_ ?_)
      | (with_reducible refine LeO.bind ?_ (fun _ => ?_))
      | exact ih0 _ _ _
      | exact LeO.none _
      | refine LeO.ite ?_ ?_
      | refine LeO.bind ?_ (fun _ => ?_)
set_option maxHeartbeats 8000000 in
set_option maxRecDepth 100000 in
theorem wimplelaw0_SameQuestions.calls (k : Nat) (A0 : Option Addr) (c0 : Nat) (l0 : List (S40)) (A1 : Option Addr) (c1 : Nat) (l1 : List (S40)) (r : Bool) (w : World) (hr0 : Kd.C k40 w A0 l0.length l0) (hc0 : l0.length ≤ c0) (hr1 : Kd.C k40 w A1 l1.length l1) (hc1 : l1.length ≤ c1) (h : wimplelaw0_SameQuestions.f k l0 l1 = some r) :
    Calls Try.prog 31 #[.slice A0 l0.length c0, .slice A1 l1.length c1] w fun e w' => e = .returned (.bool r) ∧ Drawn0 w w' := by
  have hu40 := Try.underlying40
  have HR0 := Aside0.mk hr0
  have HC0 := Aside0.mk hc0
  clear hr0 hc0
  have HR1 := Aside0.mk hr1
  have HC1 := Aside0.mk hc1
  clear hr1 hc1
  have H : (if (l0.length : Int) = (l1.length : Int) then (wimplelaw0_SameQuestions.l0 k l0 l1 0) else (some false)) = some r := h
  clear h
  by_cases c3 : (l0.length : Int) = (l1.length : Int)
  · rw [if_pos c3] at H
    have c3b0 : ((l0.length : Int) == (l1.length : Int)) = true := beq_iff_eq.mpr c3
    have c3b1 : ((l0.length : Int) != (l1.length : Int)) = false := bne_eq_false_iff_eq.mpr c3
    have c3b2 : (l0.length == l1.length) = true := by first | simpa using c3 | (simp at c3 ⊢; omega)
    clear c3
    have H' := Aside0.mk H
    clear H
    go_enter Try.func31, Try.ntmps31
    go_wp2
    repeat (go_quiet (fail); try go_wp2)
    go_loopg [5] k (fun kq v5 w' => ∃ (x5_1 : Int), v5 = .int .i64 x5_1 ∧ Aside0 (wimplelaw0_SameQuestions.l0 kq l0 l1 x5_1 = some r) ∧ Aside0 (kq ≤ k) ∧ Drawn0 w w')
    case atStart => exact ⟨(0), (by first | rfl | (simp; done) | (simp [*]; done)), H', ⟨Nat.le_refl _⟩, by repeat (first | exact Drawn0.refl _ | apply Drawn0.step)⟩
    case round =>
      clear H'
      try clear c1
      try clear p2
      try clear c3
      try clear c3b0
      try clear c3b1
      try clear c3b2
      obtain ⟨x5_1, rfl, HA, HK1, ⟨m1, rfl⟩⟩ := hrel
      cases gk with
      | zero => exact absurd HA.out (by simp [wimplelaw0_SameQuestions.l0])
      | succ k1 =>
        have H := HA.out
        clear HA
        simp only [wimplelaw0_SameQuestions.l0] at H
        by_cases c4 : x5_1 < (l0.length : Int)
        · rw [if_pos c4] at H
          have c4b0 : decide (x5_1 < (l0.length : Int)) = true := decide_eq_true c4
          clear c4
          by_cases c5 : 0 ≤ x5_1
          · rw [if_pos c5] at H
            have c5b0 : decide (0 ≤ x5_1) = true := decide_eq_true c5
            clear c5
            by_cases c6 : x5_1 < (l1.length : Int)
            · rw [if_pos c6] at H
              have c6b0 : decide (x5_1 < (l1.length : Int)) = true := decide_eq_true c6
              clear c6
              by_cases c7 : (!((((rd_T40 l0 x5_1).f0).toList) == (((rd_T40 l1 x5_1).f0).toList)) || (!(((rd_T40 l0 x5_1).f1) == ((rd_T40 l1 x5_1).f1)) || (!(((rd_T40 l0 x5_1).f2) == ((rd_T40 l1 x5_1).f2))))) = true
              · rw [if_pos c7] at H
                have c7b0 : (!((((rd_T40 l0 x5_1).f0).toList) == (((rd_T40 l1 x5_1).f0).toList)) || (!(((rd_T40 l0 x5_1).f1) == ((rd_T40 l1 x5_1).f1)) || (!(((rd_T40 l0 x5_1).f2) == ((rd_T40 l1 x5_1).f2))))) = true := c7
                clear c7
                obtain rfl := Option.some.inj H
                have p101 : 0 ≤ (x5_1 : Int) := of_decide_eq_true (by first | (with_reducible assumption) | assumption)
                have q101 : x5_1 < (l0.length : Int) := of_decide_eq_true (by first | (with_reducible assumption) | assumption)
                obtain ⟨ad101, e101, hx101_0, hx101_1, hx101_2⟩ := at_T40 HR0.out x5_1 p101 q101
                cases e101
                replace p101 := eq_true p101
                replace q101 := eq_true q101
                have p102 : 0 ≤ (x5_1 : Int) := of_decide_eq_true (by first | (with_reducible assumption) | assumption)
                have q102 : x5_1 < (l1.length : Int) := of_decide_eq_true (by first | (with_reducible assumption) | assumption)
                obtain ⟨ad102, e102, hx102_0, hx102_1, hx102_2⟩ := at_T40 HR1.out x5_1 p102 q102
                cases e102
                replace p102 := eq_true p102
                replace q102 := eq_true q102
                go_wp2
                repeat (go_quiet (fail); try go_wp2)
                go_ret
                exact ⟨by first | rfl | (simp; done) | (simp [*]; done), by repeat (first | exact Drawn0.refl _ | apply Drawn0.step)⟩
              · rw [if_neg c7] at H
                have c7b0 : (!((((rd_T40 l0 x5_1).f0).toList) == (((rd_T40 l1 x5_1).f0).toList)) || (!(((rd_T40 l0 x5_1).f1) == ((rd_T40 l1 x5_1).f1)) || (!(((rd_T40 l0 x5_1).f2) == ((rd_T40 l1 x5_1).f2))))) = false := by simpa using c7
                clear c7
                have H' := Aside0.mk H
                clear H
                have p101 : 0 ≤ (x5_1 : Int) := of_decide_eq_true (by first | (with_reducible assumption) | assumption)
                have q101 : x5_1 < (l0.length : Int) := of_decide_eq_true (by first | (with_reducible assumption) | assumption)
                obtain ⟨ad101, e101, hx101_0, hx101_1, hx101_2⟩ := at_T40 HR0.out x5_1 p101 q101
                cases e101
                replace p101 := eq_true p101
                replace q101 := eq_true q101
                have p102 : 0 ≤ (x5_1 : Int) := of_decide_eq_true (by first | (with_reducible assumption) | assumption)
                have q102 : x5_1 < (l1.length : Int) := of_decide_eq_true (by first | (with_reducible assumption) | assumption)
                obtain ⟨ad102, e102, hx102_0, hx102_1, hx102_2⟩ := at_T40 HR1.out x5_1 p102 q102
                cases e102
                replace p102 := eq_true p102
                replace q102 := eq_true q102
                go_wp2
                repeat (go_quiet (fail); try go_wp2)
                go_roundg k1
                case measure => have := HK1.out; omega
                case rel => exact ⟨(wrap64 (x5_1 + 1)), (by first | rfl | (simp; done) | (simp [*]; done)), H', ⟨by have := HK1.out; omega⟩, by repeat (first | exact Drawn0.refl _ | apply Drawn0.step)⟩
            · rw [if_neg c6] at H
              exact absurd H (by simp)
          · rw [if_neg c5] at H
            exact absurd H (by simp)
        · rw [if_neg c4] at H
          have c4b0 : decide (x5_1 < (l0.length : Int)) = false := decide_eq_false c4
          clear c4
          obtain rfl := Option.some.inj H
          go_wp2
          repeat (go_quiet (fail); try go_wp2)
          go_ret
          exact ⟨by first | rfl | (simp; done) | (simp [*]; done), by repeat (first | exact Drawn0.refl _ | apply Drawn0.step)⟩
  · rw [if_neg c3] at H
    have c3b0 : ((l0.length : Int) == (l1.length : Int)) = false := beq_eq_false_iff_ne.mpr c3
    have c3b1 : ((l0.length : Int) != (l1.length : Int)) = true := bne_iff_ne.mpr c3
    have c3b2 : (l0.length == l1.length) = false := by first | simpa using c3 | (simp at c3 ⊢; omega)
    obtain rfl := Option.some.inj H
    go_enter Try.func31, Try.ntmps31
    go_wp2
    repeat (go_quiet (fail); try go_wp2)
    go_ret
    exact ⟨by first | rfl | (simp; done) | (simp [*]; done), by repeat (first | exact Drawn0.refl _ | apply Drawn0.step)⟩

/-! ### wimplelaw0_SameRrs: function 44 -/
def wimplelaw0_SameRrs.l0 : Nat → List (S53) → List (S53) → Int → Option (Bool)
  | 0, _, _, _ => none
  | k + 1, x0, x1, x5 => if x5 < (x0.length : Int) then (if 0 ≤ x5 then (if x5 < (x1.length : Int) then (if (!((((rd_T53 x0 x5).f0).toList) == (((rd_T53 x1 x5).f0).toList)) || (!(((rd_T53 x0 x5).f1) == ((rd_T53 x1 x5).f1)) || (!(((rd_T53 x0 x5).f2) == ((rd_T53 x1 x5).f2)) || (!(((rd_T53 x0 x5).f3) == ((rd_T53 x1 x5).f3)) || (!((((rd_T53 x0 x5).f4).toList) == (((rd_T53 x1 x5).f4).toList))))))) = true then (some false) else (wimplelaw0_SameRrs.l0 k x0 x1 (wrap64 (x5 + 1)))) else (none)) else (none)) else (some true)
def wimplelaw0_SameRrs.f (k : Nat) (l0 : List (S53)) (l1 : List (S53)) : Option (Bool) := if (l0.length : Int) = (l1.length : Int) then (wimplelaw0_SameRrs.l0 k l0 l1 0) else (some false)
theorem wimplelaw0_SameRrs.mono_l : ∀ k, (∀ y0 y1 y2, LeO (wimplelaw0_SameRrs.l0 k y0 y1 y2) (wimplelaw0_SameRrs.l0 (k + 1) y0 y1 y2))
  | 0 => fun _ _ _ r h => by simp [wimplelaw0_SameRrs.l0] at h
  | k + 1 => by
    have ih0 := wimplelaw0_SameRrs.mono_l k
    · intro y0 y1 y2
      unfold wimplelaw0_SameRrs.l0
      repeat' first
      | (with_reducible exact ih0 _ _ _)
      | (with_reducible exact LeO.refl _)
      | (with_reducible exact LeO.none _)
      | (with_reducible refine LeO.ite ?_ ?_)
      | (with_reducible refine LeO.bind ?_ (fun _ => ?_))
      | exact ih0 _ _ _
      | exact LeO.none _
      | refine LeO.ite ?_ ?_
      | refine LeO.bind ?_ (fun _ => ?_)
theorem wimplelaw0_SameRrs.mono : ∀ a0 a1 k, LeO (wimplelaw0_SameRrs.f k a0 a1) (wimplelaw0_SameRrs.f (k + 1) a0 a1) := by
  intro a0 a1 k
  have ih0 := wimplelaw0_SameRrs.mono_l k
  unfold wimplelaw0_SameRrs.f
  repeat' first
      | (with_reducible exact ih0 _ _ _)
      | (with_reducible exact LeO.refl _)
      | (with_reducible exact LeO.none _)
      | (with_reducible refine LeO.ite ?_ ?_)
      | (with_reducible refine LeO.bind ?_ (fun _ => ?_))
      | exact ih0 _ _ _
      | exact LeO.none _
      | refine LeO.ite ?_ ?_
      | refine LeO.bind ?_ (fun _ => ?_)
set_option maxHeartbeats 8000000 in
set_option maxRecDepth 100000 in
theorem wimplelaw0_SameRrs.calls (k : Nat) (A0 : Option Addr) (c0 : Nat) (l0 : List (S53)) (A1 : Option Addr) (c1 : Nat) (l1 : List (S53)) (r : Bool) (w : World) (hr0 : Kd.C k53 w A0 l0.length l0) (hc0 : l0.length ≤ c0) (hr1 : Kd.C k53 w A1 l1.length l1) (hc1 : l1.length ≤ c1) (h : wimplelaw0_SameRrs.f k l0 l1 = some r) :
    Calls Try.prog 44 #[.slice A0 l0.length c0, .slice A1 l1.length c1] w fun e w' => e = .returned (.bool r) ∧ Drawn0 w w' := by
  have hu53 := Try.underlying53
  have HR0 := Aside0.mk hr0
  have HC0 := Aside0.mk hc0
  clear hr0 hc0
  have HR1 := Aside0.mk hr1
  have HC1 := Aside0.mk hc1
  clear hr1 hc1
  have H : (if (l0.length : Int) = (l1.length : Int) then (wimplelaw0_SameRrs.l0 k l0 l1 0) else (some false)) = some r := h
  clear h
  by_cases c3 : (l0.length : Int) = (l1.length : Int)
  · rw [if_pos c3] at H
    have c3b0 : ((l0.length : Int) == (l1.length : Int)) = true := beq_iff_eq.mpr c3
    have c3b1 : ((l0.length : Int) != (l1.length : Int)) = false := bne_eq_false_iff_eq.mpr c3
    have c3b2 : (l0.length == l1.length) = true := by first | simpa using c3 | (simp at c3 ⊢; omega)
    clear c3
    have H' := Aside0.mk H
    clear H
    go_enter Try.func44, Try.ntmps44
    go_wp2
    repeat (go_quiet (fail); try go_wp2)
    go_loopg [5] k (fun kq v5 w' => ∃ (x5_1 : Int), v5 = .int .i64 x5_1 ∧ Aside0 (wimplelaw0_SameRrs.l0 kq l0 l1 x5_1 = some r) ∧ Aside0 (kq ≤ k) ∧ Drawn0 w w')
    case atStart => exact ⟨(0), (by first | rfl | (simp; done) | (simp [*]; done)), H', ⟨Nat.le_refl _⟩, by repeat (first | exact Drawn0.refl _ | apply Drawn0.step)⟩
    case round =>
      clear H'
      try clear c1
      try clear p2
      try clear c3
      try clear c3b0
      try clear c3b1
      try clear c3b2
      obtain ⟨x5_1, rfl, HA, HK1, ⟨m1, rfl⟩⟩ := hrel
      cases gk with
      | zero => exact absurd HA.out (by simp [wimplelaw0_SameRrs.l0])
      | succ k1 =>
        have H := HA.out
        clear HA
        simp only [wimplelaw0_SameRrs.l0] at H
        by_cases c4 : x5_1 < (l0.length : Int)
        · rw [if_pos c4] at H
          have c4b0 : decide (x5_1 < (l0.length : Int)) = true := decide_eq_true c4
          clear c4
          by_cases c5 : 0 ≤ x5_1
          · rw [if_pos c5] at H
            have c5b0 : decide (0 ≤ x5_1) = true := decide_eq_true c5
            clear c5
            by_cases c6 : x5_1 < (l1.length : Int)
            · rw [if_pos c6] at H
              have c6b0 : decide (x5_1 < (l1.length : Int)) = true := decide_eq_true c6
              clear c6
              by_cases c7 : (!((((rd_T53 l0 x5_1).f0).toList) == (((rd_T53 l1 x5_1).f0).toList)) || (!(((rd_T53 l0 x5_1).f1) == ((rd_T53 l1 x5_1).f1)) || (!(((rd_T53 l0 x5_1).f2) == ((rd_T53 l1 x5_1).f2)) || (!(((rd_T53 l0 x5_1).f3) == ((rd_T53 l1 x5_1).f3)) || (!((((rd_T53 l0 x5_1).f4).toList) == (((rd_T53 l1 x5_1).f4).toList))))))) = true
              · rw [if_pos c7] at H
                have c7b0 : (!((((rd_T53 l0 x5_1).f0).toList) == (((rd_T53 l1 x5_1).f0).toList)) || (!(((rd_T53 l0 x5_1).f1) == ((rd_T53 l1 x5_1).f1)) || (!(((rd_T53 l0 x5_1).f2) == ((rd_T53 l1 x5_1).f2)) || (!(((rd_T53 l0 x5_1).f3) == ((rd_T53 l1 x5_1).f3)) || (!((((rd_T53 l0 x5_1).f4).toList) == (((rd_T53 l1 x5_1).f4).toList))))))) = true := c7
                clear c7
                obtain rfl := Option.some.inj H
                have p103 : 0 ≤ (x5_1 : Int) := of_decide_eq_true (by first | (with_reducible assumption) | assumption)
                have q103 : x5_1 < (l0.length : Int) := of_decide_eq_true (by first | (with_reducible assumption) | assumption)
                obtain ⟨ad103, e103, hx103_0, hx103_1, hx103_2, hx103_3, hx103_4⟩ := at_T53 HR0.out x5_1 p103 q103
                cases e103
                replace p103 := eq_true p103
                replace q103 := eq_true q103
                have p104 : 0 ≤ (x5_1 : Int) := of_decide_eq_true (by first | (with_reducible assumption) | assumption)
                have q104 : x5_1 < (l1.length : Int) := of_decide_eq_true (by first | (with_reducible assumption) | assumption)
                obtain ⟨ad104, e104, hx104_0, hx104_1, hx104_2, hx104_3, hx104_4⟩ := at_T53 HR1.out x5_1 p104 q104
                cases e104
                replace p104 := eq_true p104
                replace q104 := eq_true q104
                go_wp2
                repeat (go_quiet (fail); try go_wp2)
                go_ret
                exact ⟨by first | rfl | (simp; done) | (simp [*]; done), by repeat (first | exact Drawn0.refl _ | apply Drawn0.step)⟩
              · rw [if_neg c7] at H
                have c7b0 : (!((((rd_T53 l0 x5_1).f0).toList) == (((rd_T53 l1 x5_1).f0).toList)) || (!(((rd_T53 l0 x5_1).f1) == ((rd_T53 l1 x5_1).f1)) || (!(((rd_T53 l0 x5_1).f2) == ((rd_T53 l1 x5_1).f2)) || (!(((rd_T53 l0 x5_1).f3) == ((rd_T53 l1 x5_1).f3)) || (!((((rd_T53 l0 x5_1).f4).toList) == (((rd_T53 l1 x5_1).f4).toList))))))) = false := by simpa using c7
                clear c7
                have H' := Aside0.mk H
                clear H
                have p103 : 0 ≤ (x5_1 : Int) := of_decide_eq_true (by first | (with_reducible assumption) | assumption)
                have q103 : x5_1 < (l0.length : Int) := of_decide_eq_true (by first | (with_reducible assumption) | assumption)
                obtain ⟨ad103, e103, hx103_0, hx103_1, hx103_2, hx103_3, hx103_4⟩ := at_T53 HR0.out x5_1 p103 q103
                cases e103
                replace p103 := eq_true p103
                replace q103 := eq_true q103
                have p104 : 0 ≤ (x5_1 : Int) := of_decide_eq_true (by first | (with_reducible assumption) | assumption)
                have q104 : x5_1 < (l1.length : Int) := of_decide_eq_true (by first | (with_reducible assumption) | assumption)
                obtain ⟨ad104, e104, hx104_0, hx104_1, hx104_2, hx104_3, hx104_4⟩ := at_T53 HR1.out x5_1 p104 q104
                cases e104
                replace p104 := eq_true p104
                replace q104 := eq_true q104
                go_wp2
                repeat (go_quiet (fail); try go_wp2)
                go_roundg k1
                case measure => have := HK1.out; omega
                case rel => exact ⟨(wrap64 (x5_1 + 1)), (by first | rfl | (simp; done) | (simp [*]; done)), H', ⟨by have := HK1.out; omega⟩, by repeat (first | exact Drawn0.refl _ | apply Drawn0.step)⟩
            · rw [if_neg c6] at H
              exact absurd H (by simp)
          · rw [if_neg c5] at H
            exact absurd H (by simp)
        · rw [if_neg c4] at H
          have c4b0 : decide (x5_1 < (l0.length : Int)) = false := decide_eq_false c4
          clear c4
          obtain rfl := Option.some.inj H
          go_wp2
          repeat (go_quiet (fail); try go_wp2)
          go_ret
          exact ⟨by first | rfl | (simp; done) | (simp [*]; done), by repeat (first | exact Drawn0.refl _ | apply Drawn0.step)⟩
  · rw [if_neg c3] at H
    have c3b0 : ((l0.length : Int) == (l1.length : Int)) = false := beq_eq_false_iff_ne.mpr c3
    have c3b1 : ((l0.length : Int) != (l1.length : Int)) = true := bne_iff_ne.mpr c3
    have c3b2 : (l0.length == l1.length) = false := by first | simpa using c3 | (simp at c3 ⊢; omega)
    obtain rfl := Option.some.inj H
    go_enter Try.func44, Try.ntmps44
    go_wp2
    repeat (go_quiet (fail); try go_wp2)
    go_ret
    exact ⟨by first | rfl | (simp; done) | (simp [*]; done), by repeat (first | exact Drawn0.refl _ | apply Drawn0.step)⟩

/-! ### wimplelaw0_SameMsg: function 20 -/
def wimplelaw0_SameMsg.f (k : Nat) (a0_0 : Int) (a0_1 : Bool) (a0_2 : Int) (a0_3 : Bool) (a0_4 : Bool) (a0_5 : Bool) (a0_6 : Bool) (a0_7 : Int) (a0_8 : Int) (l0_9 : List (S40)) (l0_10 : List (S53)) (l0_11 : List (S53)) (l0_12 : List (S53)) (a1_0 : Int) (a1_1 : Bool) (a1_2 : Int) (a1_3 : Bool) (a1_4 : Bool) (a1_5 : Bool) (a1_6 : Bool) (a1_7 : Int) (a1_8 : Int) (l1_9 : List (S40)) (l1_10 : List (S53)) (l1_11 : List (S53)) (l1_12 : List (S53)) : Option (Bool) := if (a0_0 == a1_0 && (a0_1 == a1_1 && (a0_2 == a1_2 && (a0_3 == a1_3 && (a0_4 == a1_4 && (a0_5 == a1_5 && (a0_6 == a1_6 && (a0_7 == a1_7 && (a0_8 == a1_8))))))))) = true then ((wimplelaw0_SameQuestions.f k l0_9 l1_9).bind fun t107 => (if t107 = true then ((wimplelaw0_SameRrs.f k l0_10 l1_10).bind fun t108 => (if t108 = true then ((wimplelaw0_SameRrs.f k l0_11 l1_11).bind fun t109 => (if t109 = true then ((wimplelaw0_SameRrs.f k l0_12 l1_12).bind fun t110 => (some t110)) else (none))) else (none))) else (none))) else (none)
theorem wimplelaw0_SameMsg.mono : ∀ a0 a1 a2 a3 a4 a5 a6 a7 a8 a9 a10 a11 a12 a13 a14 a15 a16 a17 a18 a19 a20 a21 a22 a23 a24 a25 k, LeO (wimplelaw0_SameMsg.f k a0 a1 a2 a3 a4 a5 a6 a7 a8 a9 a10 a11 a12 a13 a14 a15 a16 a17 a18 a19 a20 a21 a22 a23 a24 a25) (wimplelaw0_SameMsg.f (k + 1) a0 a1 a2 a3 a4 a5 a6 a7 a8 a9 a10 a11 a12 a13 a14 a15 a16 a17 a18 a19 a20 a21 a22 a23 a24 a25) := by
  intro a0 a1 a2 a3 a4 a5 a6 a7 a8 a9 a10 a11 a12 a13 a14 a15 a16 a17 a18 a19 a20 a21 a22 a23 a24 a25 k
  unfold wimplelaw0_SameMsg.f
  repeat' first
      | (with_reducible exact wimplelaw0_SameQuestions.mono _ _ _)
      | (with_reducible exact wimplelaw0_SameRrs.mono _ _ _)
      | (with_reducible exact LeO.refl _)
      | (with_reducible exact LeO.none _)
      | (with_reducible refine LeO.ite ?_ ?_)
      | (with_reducible refine LeO.bind ?_ (fun _ => ?_))
      | exact wimplelaw0_SameQuestions.mono _ _ _
      | exact wimplelaw0_SameRrs.mono _ _ _
      | exact LeO.none _
      | refine LeO.ite ?_ ?_
      | refine LeO.bind ?_ (fun _ => ?_)
set_option maxHeartbeats 8000000 in
set_option maxRecDepth 100000 in
theorem wimplelaw0_SameMsg.calls (k : Nat) (a0_0 : Int) (a0_1 : Bool) (a0_2 : Int) (a0_3 : Bool) (a0_4 : Bool) (a0_5 : Bool) (a0_6 : Bool) (a0_7 : Int) (a0_8 : Int) (A0_9 : Option Addr) (c0_9 : Nat) (l0_9 : List (S40)) (A0_10 : Option Addr) (c0_10 : Nat) (l0_10 : List (S53)) (A0_11 : Option Addr) (c0_11 : Nat) (l0_11 : List (S53)) (A0_12 : Option Addr) (c0_12 : Nat) (l0_12 : List (S53)) (a1_0 : Int) (a1_1 : Bool) (a1_2 : Int) (a1_3 : Bool) (a1_4 : Bool) (a1_5 : Bool) (a1_6 : Bool) (a1_7 : Int) (a1_8 : Int) (A1_9 : Option Addr) (c1_9 : Nat) (l1_9 : List (S40)) (A1_10 : Option Addr) (c1_10 : Nat) (l1_10 : List (S53)) (A1_11 : Option Addr) (c1_11 : Nat) (l1_11 : List (S53)) (A1_12 : Option Addr) (c1_12 : Nat) (l1_12 : List (S53)) (r : Bool) (w : World) (hr0_9 : Kd.C k40 w A0_9 l0_9.length l0_9) (hc0_9 : l0_9.length ≤ c0_9) (hr0_10 : Kd.C k53 w A0_10 l0_10.length l0_10) (hc0_10 : l0_10.length ≤ c0_10) (hr0_11 : Kd.C k53 w A0_11 l0_11.length l0_11) (hc0_11 : l0_11.length ≤ c0_11) (hr0_12 : Kd.C k53 w A0_12 l0_12.length l0_12) (hc0_12 : l0_12.length ≤ c0_12) (hr1_9 : Kd.C k40 w A1_9 l1_9.length l1_9) (hc1_9 : l1_9.length ≤ c1_9) (hr1_10 : Kd.C k53 w A1_10 l1_10.length l1_10) (hc1_10 : l1_10.length ≤ c1_10) (hr1_11 : Kd.C k53 w A1_11 l1_11.length l1_11) (hc1_11 : l1_11.length ≤ c1_11) (hr1_12 : Kd.C k53 w A1_12 l1_12.length l1_12) (hc1_12 : l1_12.length ≤ c1_12) (h : wimplelaw0_SameMsg.f k a0_0 a0_1 a0_2 a0_3 a0_4 a0_5 a0_6 a0_7 a0_8 l0_9 l0_10 l0_11 l0_12 a1_0 a1_1 a1_2 a1_3 a1_4 a1_5 a1_6 a1_7 a1_8 l1_9 l1_10 l1_11 l1_12 = some r) :
    Calls Try.prog 20 #[.agg #[.int .i64 a0_0, .bool a0_1, .int .i64 a0_2, .bool a0_3, .bool a0_4, .bool a0_5, .bool a0_6, .int .i64 a0_7, .int .i64 a0_8, .slice A0_9 l0_9.length c0_9, .slice A0_10 l0_10.length c0_10, .slice A0_11 l0_11.length c0_11, .slice A0_12 l0_12.length c0_12], .agg #[.int .i64 a1_0, .bool a1_1, .int .i64 a1_2, .bool a1_3, .bool a1_4, .bool a1_5, .bool a1_6, .int .i64 a1_7, .int .i64 a1_8, .slice A1_9 l1_9.length c1_9, .slice A1_10 l1_10.length c1_10, .slice A1_11 l1_11.length c1_11, .slice A1_12 l1_12.length c1_12]] w fun e w' => e = .returned (.bool r) ∧ Below w.heap.size w w' := by
  have hu27 := Try.underlying27
  have hu23 := Try.underlying23
  have HR0_9 := Aside0.mk hr0_9
  have HC0_9 := Aside0.mk hc0_9
  clear hr0_9 hc0_9
  have HR0_10 := Aside0.mk hr0_10
  have HC0_10 := Aside0.mk hc0_10
  clear hr0_10 hc0_10
  have HR0_11 := Aside0.mk hr0_11
  have HC0_11 := Aside0.mk hc0_11
  clear hr0_11 hc0_11
  have HR0_12 := Aside0.mk hr0_12
  have HC0_12 := Aside0.mk hc0_12
  clear hr0_12 hc0_12
  have HR1_9 := Aside0.mk hr1_9
  have HC1_9 := Aside0.mk hc1_9
  clear hr1_9 hc1_9
  have HR1_10 := Aside0.mk hr1_10
  have HC1_10 := Aside0.mk hc1_10
  clear hr1_10 hc1_10
  have HR1_11 := Aside0.mk hr1_11
  have HC1_11 := Aside0.mk hc1_11
  clear hr1_11 hc1_11
  have HR1_12 := Aside0.mk hr1_12
  have HC1_12 := Aside0.mk hc1_12
  clear hr1_12 hc1_12
  have HB := Aside0.mk (Below.refl w.heap.size w)
  have H : (if (a0_0 == a1_0 && (a0_1 == a1_1 && (a0_2 == a1_2 && (a0_3 == a1_3 && (a0_4 == a1_4 && (a0_5 == a1_5 && (a0_6 == a1_6 && (a0_7 == a1_7 && (a0_8 == a1_8))))))))) = true then ((wimplelaw0_SameQuestions.f k l0_9 l1_9).bind fun t107 => (if t107 = true then ((wimplelaw0_SameRrs.f k l0_10 l1_10).bind fun t108 => (if t108 = true then ((wimplelaw0_SameRrs.f k l0_11 l1_11).bind fun t109 => (if t109 = true then ((wimplelaw0_SameRrs.f k l0_12 l1_12).bind fun t110 => (some t110)) else (none))) else (none))) else (none))) else (none)) = some r := h
  clear h
  by_cases c3 : (a0_0 == a1_0 && (a0_1 == a1_1 && (a0_2 == a1_2 && (a0_3 == a1_3 && (a0_4 == a1_4 && (a0_5 == a1_5 && (a0_6 == a1_6 && (a0_7 == a1_7 && (a0_8 == a1_8))))))))) = true
  · rw [if_pos c3] at H
    (try (have c3b9 := c3; simp only [Bool.and_eq_true, beq_iff_eq] at c3b9; replace c3b9 := eq_true c3b9))
    have c3b0 : (a0_0 == a1_0 && (a0_1 == a1_1 && (a0_2 == a1_2 && (a0_3 == a1_3 && (a0_4 == a1_4 && (a0_5 == a1_5 && (a0_6 == a1_6 && (a0_7 == a1_7 && (a0_8 == a1_8))))))))) = true := c3
    (try (have c3b1 : decide (a0_0 = a1_0 && (a0_1 == a1_1 && (a0_2 == a1_2 && (a0_3 == a1_3 && (a0_4 == a1_4 && (a0_5 == a1_5 && (a0_6 == a1_6 && (a0_7 == a1_7 && (a0_8 == a1_8))))))))) = true := by simpa using c3))
    (try (have c3b2 : (a0_0 == a1_0 && (a0_1 == a1_1 && (a0_2 == a1_2 && (a0_3 == a1_3 && (a0_4 == a1_4 && (a0_5 == a1_5 && (a0_6 == a1_6 && (a0_7 == a1_7 && (a0_8 == a1_8))))))))) = true := by simpa using c3))
    clear c3
    replace H := Option.bind_eq_some_iff.mp H
    obtain ⟨t107, A40, H⟩ := H
    replace H : (if t107 = true then ((wimplelaw0_SameRrs.f k l0_10 l1_10).bind fun t108 => (if t108 = true then ((wimplelaw0_SameRrs.f k l0_11 l1_11).bind fun t109 => (if t109 = true then ((wimplelaw0_SameRrs.f k l0_12 l1_12).bind fun t110 => (some t110)) else (none))) else (none))) else (none)) = some r := H
    have A4 := Aside0.mk A40
    clear A40
    by_cases c5 : t107 = true
    · subst c5
      have H1 : ((wimplelaw0_SameRrs.f k l0_10 l1_10).bind fun t108 => (if t108 = true then ((wimplelaw0_SameRrs.f k l0_11 l1_11).bind fun t109 => (if t109 = true then ((wimplelaw0_SameRrs.f k l0_12 l1_12).bind fun t110 => (some t110)) else (none))) else (none))) = some r := by rw [if_pos rfl] at H; exact H
      clear H
      have H := H1
      clear H1
      replace H := Option.bind_eq_some_iff.mp H
      obtain ⟨t108, A60, H⟩ := H
      replace H : (if t108 = true then ((wimplelaw0_SameRrs.f k l0_11 l1_11).bind fun t109 => (if t109 = true then ((wimplelaw0_SameRrs.f k l0_12 l1_12).bind fun t110 => (some t110)) else (none))) else (none)) = some r := H
      have A6 := Aside0.mk A60
      clear A60
      by_cases c7 : t108 = true
      · subst c7
        have H1 : ((wimplelaw0_SameRrs.f k l0_11 l1_11).bind fun t109 => (if t109 = true then ((wimplelaw0_SameRrs.f k l0_12 l1_12).bind fun t110 => (some t110)) else (none))) = some r := by rw [if_pos rfl] at H; exact H
        clear H
        have H := H1
        clear H1
        replace H := Option.bind_eq_some_iff.mp H
        obtain ⟨t109, A80, H⟩ := H
        replace H : (if t109 = true then ((wimplelaw0_SameRrs.f k l0_12 l1_12).bind fun t110 => (some t110)) else (none)) = some r := H
        have A8 := Aside0.mk A80
        clear A80
        by_cases c9 : t109 = true
        · subst c9
          have H1 : ((wimplelaw0_SameRrs.f k l0_12 l1_12).bind fun t110 => (some t110)) = some r := by rw [if_pos rfl] at H; exact H
          clear H
          have H := H1
          clear H1
          replace H := Option.bind_eq_some_iff.mp H
          obtain ⟨t110, A100, H⟩ := H
          replace H : (some t110) = some r := H
          have A10 := Aside0.mk A100
          clear A100
          obtain rfl := Option.some.inj H
          go_enter Try.func20, Try.ntmps20
          go_wp2_with (first | ((with_reducible refine gate_dst (N := 2) rfl ?_); refine box_event ?hg (N := 2) ?hd (cs := #[.int .i64 a0_0, .bool a0_1, .int .i64 a0_2, .bool a0_3, .bool a0_4, .bool a0_5, .bool a0_6, .int .i64 a0_7, .int .i64 a0_8, .slice A0_9 l0_9.length c0_9, .slice A0_10 l0_10.length c0_10, .slice A0_11 l0_11.length c0_11, .slice A0_12 l0_12.length c0_12]) (t := 27) ?hr ?_; (case hd => rfl); (case hg => rfl); (case hr => first | (go_simp; done) | (go_simp; rfl)); intro gb105 hg w11 hbox hb; have n0_ := Aside0.mk (below_step (by repeat (first | (with_reducible first | exact HB.out | apply below_alloc | apply pw_below_drewN | apply below_drew1) | exact HB.out)) hb); have n1_ := Aside0.mk (hbox); have n2_ := Aside0.mk ((by rw [hg]; exact (below_size (by repeat (first | (with_reducible first | exact HB.out | apply below_alloc | apply pw_below_drewN | apply below_drew1) | exact HB.out))) : w.heap.size ≤ gb105)); have n3_ := Aside0.mk ((by rw [hg]; exact (below_size (by repeat (first | (with_reducible first | exact HB.out | apply below_alloc | apply pw_below_drewN | apply below_drew1) | exact HB.out))) : w.heap.size ≤ gb105)); clear HB; have HB := n0_; have BK105 := n1_; have GW105 := n2_; have GE105 := n3_; clear n0_ n1_ n2_ n3_; clear hb hbox hg) | ((with_reducible refine gate_dst (N := 3) rfl ?_); refine box_event ?hg (N := 3) ?hd (cs := #[.int .i64 a1_0, .bool a1_1, .int .i64 a1_2, .bool a1_3, .bool a1_4, .bool a1_5, .bool a1_6, .int .i64 a1_7, .int .i64 a1_8, .slice A1_9 l1_9.length c1_9, .slice A1_10 l1_10.length c1_10, .slice A1_11 l1_11.length c1_11, .slice A1_12 l1_12.length c1_12]) (t := 27) ?hr ?_; (case hd => rfl); (case hg => rfl); (case hr => first | (go_simp; done) | (go_simp; rfl)); intro gb106 hg w12 hbox hb; have n0_ := Aside0.mk (blk_below (g := gb105) (o := .cells #[.int .i64 a0_0, .bool a0_1, .int .i64 a0_2, .bool a0_3, .bool a0_4, .bool a0_5, .bool a0_6, .int .i64 a0_7, .int .i64 a0_8, .slice A0_9 l0_9.length c0_9, .slice A0_10 l0_10.length c0_10, .slice A0_11 l0_11.length c0_11, .slice A0_12 l0_12.length c0_12] 27 (0, 0)) (by (with_reducible repeat (first | refine blk_drewN ?_ _ | refine blk_drew ?_ | refine blk_alloc ?_ _)); exact BK105.out) hb); have n1_ := Aside0.mk (below_step (by repeat (first | (with_reducible first | exact HB.out | apply below_alloc | apply pw_below_drewN | apply below_drew1 | refine below_set ?_ GE105.out) | exact HB.out)) hb); have n2_ := Aside0.mk (hbox); have n3_ := Aside0.mk ((by rw [hg]; exact (below_size (by repeat (first | (with_reducible first | exact HB.out | apply below_alloc | apply pw_below_drewN | apply below_drew1 | refine below_set ?_ GE105.out) | exact HB.out))) : w.heap.size ≤ gb106)); have n4_ := Aside0.mk ((by rw [hg]; exact (below_size (by repeat (first | (with_reducible first | exact HB.out | apply below_alloc | apply pw_below_drewN | apply below_drew1 | refine below_set ?_ GE105.out) | exact HB.out))) : w.heap.size ≤ gb106)); have n5_ := Aside0.mk ((by rw [hg]; exact Nat.ne_of_lt (blk_lt (g := gb105) (o := .cells #[.int .i64 a0_0, .bool a0_1, .int .i64 a0_2, .bool a0_3, .bool a0_4, .bool a0_5, .bool a0_6, .int .i64 a0_7, .int .i64 a0_8, .slice A0_9 l0_9.length c0_9, .slice A0_10 l0_10.length c0_10, .slice A0_11 l0_11.length c0_11, .slice A0_12 l0_12.length c0_12] 27 (0, 0)) (by (with_reducible repeat (first | refine blk_drewN ?_ _ | refine blk_drew ?_ | refine blk_alloc ?_ _)); exact BK105.out)) : gb105 ≠ gb106)); have n6_ := Aside0.mk ((by rw [hg]; exact Nat.ne_of_gt (blk_lt (g := gb105) (o := .cells #[.int .i64 a0_0, .bool a0_1, .int .i64 a0_2, .bool a0_3, .bool a0_4, .bool a0_5, .bool a0_6, .int .i64 a0_7, .int .i64 a0_8, .slice A0_9 l0_9.length c0_9, .slice A0_10 l0_10.length c0_10, .slice A0_11 l0_11.length c0_11, .slice A0_12 l0_12.length c0_12] 27 (0, 0)) (by (with_reducible repeat (first | refine blk_drewN ?_ _ | refine blk_drew ?_ | refine blk_alloc ?_ _)); exact BK105.out)) : gb106 ≠ gb105)); clear BK105; clear HB; have BK105 := n0_; have HB := n1_; have BK106 := n2_; have GW106 := n3_; have GE106 := n4_; have NB105_106 := n5_; have NB106_105 := n6_; clear n0_ n1_ n2_ n3_ n4_ n5_ n6_; clear hb hbox hg; have hnb13 := NB105_106.out; have hnc13 := NB106_105.out; have hcz14_0 : w12.cell? ⟨gb105, 0, none⟩ = some (.int .i64 a0_0) := (blk_cell BK105.out 0).trans rfl; have hcz14_1 : w12.cell? ⟨gb105, 1, none⟩ = some (.bool a0_1) := (blk_cell BK105.out 1).trans rfl; have hcz14_2 : w12.cell? ⟨gb105, 2, none⟩ = some (.int .i64 a0_2) := (blk_cell BK105.out 2).trans rfl; have hcz14_3 : w12.cell? ⟨gb105, 3, none⟩ = some (.bool a0_3) := (blk_cell BK105.out 3).trans rfl; have hcz14_4 : w12.cell? ⟨gb105, 4, none⟩ = some (.bool a0_4) := (blk_cell BK105.out 4).trans rfl; have hcz14_5 : w12.cell? ⟨gb105, 5, none⟩ = some (.bool a0_5) := (blk_cell BK105.out 5).trans rfl; have hcz14_6 : w12.cell? ⟨gb105, 6, none⟩ = some (.bool a0_6) := (blk_cell BK105.out 6).trans rfl; have hcz14_7 : w12.cell? ⟨gb105, 7, none⟩ = some (.int .i64 a0_7) := (blk_cell BK105.out 7).trans rfl; have hcz14_8 : w12.cell? ⟨gb105, 8, none⟩ = some (.int .i64 a0_8) := (blk_cell BK105.out 8).trans rfl; have hcz14_9 : w12.cell? ⟨gb105, 9, none⟩ = some (.slice A0_9 l0_9.length c0_9) := (blk_cell BK105.out 9).trans rfl; have hcz14_10 : w12.cell? ⟨gb105, 10, none⟩ = some (.slice A0_10 l0_10.length c0_10) := (blk_cell BK105.out 10).trans rfl; have hcz14_11 : w12.cell? ⟨gb105, 11, none⟩ = some (.slice A0_11 l0_11.length c0_11) := (blk_cell BK105.out 11).trans rfl; have hcz14_12 : w12.cell? ⟨gb105, 12, none⟩ = some (.slice A0_12 l0_12.length c0_12) := (blk_cell BK105.out 12).trans rfl; have hfz14_0 := blk_frozen BK105.out 0; have hfz14_1 := blk_frozen BK105.out 1; have hfz14_2 := blk_frozen BK105.out 2; have hfz14_3 := blk_frozen BK105.out 3; have hfz14_4 := blk_frozen BK105.out 4; have hfz14_5 := blk_frozen BK105.out 5; have hfz14_6 := blk_frozen BK105.out 6; have hfz14_7 := blk_frozen BK105.out 7; have hfz14_8 := blk_frozen BK105.out 8; have hfz14_9 := blk_frozen BK105.out 9; have hfz14_10 := blk_frozen BK105.out 10; have hfz14_11 := blk_frozen BK105.out 11; have hfz14_12 := blk_frozen BK105.out 12; have hcz15_0 : w12.cell? ⟨gb106, 0, none⟩ = some (.int .i64 a1_0) := (blk_cell BK106.out 0).trans rfl; have hcz15_1 : w12.cell? ⟨gb106, 1, none⟩ = some (.bool a1_1) := (blk_cell BK106.out 1).trans rfl; have hcz15_2 : w12.cell? ⟨gb106, 2, none⟩ = some (.int .i64 a1_2) := (blk_cell BK106.out 2).trans rfl; have hcz15_3 : w12.cell? ⟨gb106, 3, none⟩ = some (.bool a1_3) := (blk_cell BK106.out 3).trans rfl; have hcz15_4 : w12.cell? ⟨gb106, 4, none⟩ = some (.bool a1_4) := (blk_cell BK106.out 4).trans rfl; have hcz15_5 : w12.cell? ⟨gb106, 5, none⟩ = some (.bool a1_5) := (blk_cell BK106.out 5).trans rfl; have hcz15_6 : w12.cell? ⟨gb106, 6, none⟩ = some (.bool a1_6) := (blk_cell BK106.out 6).trans rfl; have hcz15_7 : w12.cell? ⟨gb106, 7, none⟩ = some (.int .i64 a1_7) := (blk_cell BK106.out 7).trans rfl; have hcz15_8 : w12.cell? ⟨gb106, 8, none⟩ = some (.int .i64 a1_8) := (blk_cell BK106.out 8).trans rfl; have hcz15_9 : w12.cell? ⟨gb106, 9, none⟩ = some (.slice A1_9 l1_9.length c1_9) := (blk_cell BK106.out 9).trans rfl; have hcz15_10 : w12.cell? ⟨gb106, 10, none⟩ = some (.slice A1_10 l1_10.length c1_10) := (blk_cell BK106.out 10).trans rfl; have hcz15_11 : w12.cell? ⟨gb106, 11, none⟩ = some (.slice A1_11 l1_11.length c1_11) := (blk_cell BK106.out 11).trans rfl; have hcz15_12 : w12.cell? ⟨gb106, 12, none⟩ = some (.slice A1_12 l1_12.length c1_12) := (blk_cell BK106.out 12).trans rfl; have hfz15_0 := blk_frozen BK106.out 0; have hfz15_1 := blk_frozen BK106.out 1; have hfz15_2 := blk_frozen BK106.out 2; have hfz15_3 := blk_frozen BK106.out 3; have hfz15_4 := blk_frozen BK106.out 4; have hfz15_5 := blk_frozen BK106.out 5; have hfz15_6 := blk_frozen BK106.out 6; have hfz15_7 := blk_frozen BK106.out 7; have hfz15_8 := blk_frozen BK106.out 8; have hfz15_9 := blk_frozen BK106.out 9; have hfz15_10 := blk_frozen BK106.out 10; have hfz15_11 := blk_frozen BK106.out 11; have hfz15_12 := blk_frozen BK106.out 12) | (go_at_call 31; (with_reducible refine (wimplelaw0_SameQuestions.calls k _ _ l0_9 _ _ l1_9 true _ ?side1 ?side2 ?side3 ?side4 A4.out).mono ?_); (case side1 => repeat (first | exact (Kd.C_below HR0_9.out HB.out) | (with_reducible refine Kd.C_alloc ?_ _) | (with_reducible refine Kd.C_drewN ?_ _) | (with_reducible refine Kd.C_drew ?_))); (case side2 => exact HC0_9.out); (case side3 => repeat (first | exact (Kd.C_below HR1_9.out HB.out) | (with_reducible refine Kd.C_alloc ?_ _) | (with_reducible refine Kd.C_drewN ?_ _) | (with_reducible refine Kd.C_drew ?_))); (case side4 => exact HC1_9.out); rintro e w' ⟨rfl, ⟨nd, rfl⟩⟩) | (go_at_call 44; (with_reducible refine (wimplelaw0_SameRrs.calls k _ _ l0_10 _ _ l1_10 true _ ?side1 ?side2 ?side3 ?side4 A6.out).mono ?_); (case side1 => repeat (first | exact (Kd.C_below HR0_10.out (by repeat (first | (with_reducible first | exact HB.out | apply below_alloc | apply pw_below_drewN | apply below_drew1 | refine below_set ?_ GE105.out | refine below_set ?_ GE106.out) | exact HB.out))) | (with_reducible refine Kd.C_alloc ?_ _) | (with_reducible refine Kd.C_drewN ?_ _) | (with_reducible refine Kd.C_drew ?_))); (case side2 => exact HC0_10.out); (case side3 => repeat (first | exact (Kd.C_below HR1_10.out (by repeat (first | (with_reducible first | exact HB.out | apply below_alloc | apply pw_below_drewN | apply below_drew1 | refine below_set ?_ GE105.out | refine below_set ?_ GE106.out) | exact HB.out))) | (with_reducible refine Kd.C_alloc ?_ _) | (with_reducible refine Kd.C_drewN ?_ _) | (with_reducible refine Kd.C_drew ?_))); (case side4 => exact HC1_10.out); rintro e w' ⟨rfl, ⟨nd, rfl⟩⟩) | (go_at_call 44; (with_reducible refine (wimplelaw0_SameRrs.calls k _ _ l0_11 _ _ l1_11 true _ ?side1 ?side2 ?side3 ?side4 A8.out).mono ?_); (case side1 => repeat (first | exact (Kd.C_below HR0_11.out (by repeat (first | (with_reducible first | exact HB.out | apply below_alloc | apply pw_below_drewN | apply below_drew1 | refine below_set ?_ GE105.out | refine below_set ?_ GE106.out) | exact HB.out))) | (with_reducible refine Kd.C_alloc ?_ _) | (with_reducible refine Kd.C_drewN ?_ _) | (with_reducible refine Kd.C_drew ?_))); (case side2 => exact HC0_11.out); (case side3 => repeat (first | exact (Kd.C_below HR1_11.out (by repeat (first | (with_reducible first | exact HB.out | apply below_alloc | apply pw_below_drewN | apply below_drew1 | refine below_set ?_ GE105.out | refine below_set ?_ GE106.out) | exact HB.out))) | (with_reducible refine Kd.C_alloc ?_ _) | (with_reducible refine Kd.C_drewN ?_ _) | (with_reducible refine Kd.C_drew ?_))); (case side4 => exact HC1_11.out); rintro e w' ⟨rfl, ⟨nd, rfl⟩⟩) | (go_at_call 44; (with_reducible refine (wimplelaw0_SameRrs.calls k _ _ l0_12 _ _ l1_12 t110 _ ?side1 ?side2 ?side3 ?side4 A10.out).mono ?_); (case side1 => repeat (first | exact (Kd.C_below HR0_12.out (by repeat (first | (with_reducible first | exact HB.out | apply below_alloc | apply pw_below_drewN | apply below_drew1 | refine below_set ?_ GE105.out | refine below_set ?_ GE106.out) | exact HB.out))) | (with_reducible refine Kd.C_alloc ?_ _) | (with_reducible refine Kd.C_drewN ?_ _) | (with_reducible refine Kd.C_drew ?_))); (case side2 => exact HC0_12.out); (case side3 => repeat (first | exact (Kd.C_below HR1_12.out (by repeat (first | (with_reducible first | exact HB.out | apply below_alloc | apply pw_below_drewN | apply below_drew1 | refine below_set ?_ GE105.out | refine below_set ?_ GE106.out) | exact HB.out))) | (with_reducible refine Kd.C_alloc ?_ _) | (with_reducible refine Kd.C_drewN ?_ _) | (with_reducible refine Kd.C_drew ?_))); (case side4 => exact HC1_12.out); rintro e w' ⟨rfl, ⟨nd, rfl⟩⟩))
          go_ret
          exact ⟨by first | rfl | (simp [errW_none, errW_some] <;> rfl) | (simp [*, errW_none, errW_some] <;> rfl), by repeat (first | (with_reducible first | exact HB.out | apply below_alloc | apply pw_below_drewN | apply below_drew1 | refine below_set ?_ GE105.out | refine below_set ?_ GE106.out) | exact HB.out)⟩
        · replace c9 := Bool.eq_false_iff.mpr c9
          subst c9
          have H1 : (none) = some r := by rw [if_neg (show ¬ (false = true) by decide)] at H; exact H
          clear H
          have H := H1
          clear H1
          exact absurd H (by simp)
      · replace c7 := Bool.eq_false_iff.mpr c7
        subst c7
        have H1 : (none) = some r := by rw [if_neg (show ¬ (false = true) by decide)] at H; exact H
        clear H
        have H := H1
        clear H1
        exact absurd H (by simp)
    · replace c5 := Bool.eq_false_iff.mpr c5
      subst c5
      have H1 : (none) = some r := by rw [if_neg (show ¬ (false = true) by decide)] at H; exact H
      clear H
      have H := H1
      clear H1
      exact absurd H (by simp)
  · rw [if_neg c3] at H
    exact absurd H (by simp)

/-! ### match_Reply: function 17 -/
def wm_Qm' (x : Go.Proofs.Ytjklgdpffmaamaa.Wm.Qn) : S40 := ⟨x.name, x.type, x.cls⟩
def wm_Rm' (x : Go.Proofs.Ytjklgdpffmaamaa.Wm.Rr) : S53 := ⟨x.name, x.type, x.cls, x.ttl, x.data⟩
def match_Reply.f (k : Nat) (a0 : ByteArray) : Option (Int × Bool × Int × Bool × Bool × Bool × Bool × Int × Int × List (S40) × List (S53) × List (S53) × List (S53) × Int) := (Go.Proofs.Ytjklgdpffmaamaa.Wm.repF k a0).map fun r => (r.h.id, r.h.qr, r.h.op, r.h.aa, r.h.tc, r.h.rd, r.h.ra, r.h.z, r.h.rc, r.qs.map wm_Qm', r.an.map wm_Rm', r.ns.map wm_Rm', r.ar.map wm_Rm', r.e)
theorem match_Reply.mono : ∀ a0 k, LeO (match_Reply.f k a0) (match_Reply.f (k + 1) a0) := fun a0 k => LeO.map _ (Go.Proofs.Ytjklgdpffmaamaa.Wm.repF_mono k a0)
set_option maxHeartbeats 8000000 in
set_option maxRecDepth 100000 in
theorem match_Reply.calls (k : Nat) (a0 : ByteArray) (r1 : Int) (r2 : Bool) (r3 : Int) (r4 : Bool) (r5 : Bool) (r6 : Bool) (r7 : Bool) (r8 : Int) (r9 : Int) (r10 : List (S40)) (r11 : List (S53)) (r12 : List (S53)) (r13 : List (S53)) (r14 : Int) (w : World) (h : match_Reply.f k a0 = some (r1, r2, r3, r4, r5, r6, r7, r8, r9, r10, r11, r12, r13, r14)) :
    Calls Try.prog 17 #[.string a0] w fun e w' => ∃ v9_ v10_ v11_ v12_ : Value, e = .returned (.tuple #[.agg #[.int .i64 r1, .bool r2, .int .i64 r3, .bool r4, .bool r5, .bool r6, .bool r7, .int .i64 r8, .int .i64 r9, v9_, v10_, v11_, v12_], .int .i64 r14]) ∧ Kd.R k40 40 w' w.heap.size (fun _ => True) v9_ r10 ∧ Kd.R k53 53 w' w.heap.size (fun k_ => some k_ ≠ (v11_ : Value).ownBlock ∧ some k_ ≠ (v12_ : Value).ownBlock) v10_ r11 ∧ Kd.R k53 53 w' w.heap.size (fun k_ => some k_ ≠ (v10_ : Value).ownBlock ∧ some k_ ≠ (v12_ : Value).ownBlock) v11_ r12 ∧ Kd.R k53 53 w' w.heap.size (fun k_ => some k_ ≠ (v10_ : Value).ownBlock ∧ some k_ ≠ (v11_ : Value).ownBlock) v12_ r13 ∧ Below w.heap.size w w' := by
  obtain ⟨r, hr, e⟩ := Option.map_eq_some_iff.1 h
  simp only [Prod.mk.injEq] at e
  obtain ⟨rfl, rfl, rfl, rfl, rfl, rfl, rfl, rfl, rfl, rfl, rfl, rfl, rfl, rfl⟩ := e
  refine (Go.Proofs.Ytjklgdpffmaamaa.Wm.replyF hr w).mono ?_
  rintro e w' ⟨vq, va, vn, vr, rfl, hq, ha, hn, hr, k1, k2, k3, hb⟩
  exact ⟨vq, va, vn, vr, rfl, Go.Proofs.Ytjklgdpffmaamaa.Wm.qkd k40 40 wm_Qm' (fun w base ok q => k40_mkM w base ok (wm_Qm' q)) rfl hq (fun _ _ => trivial), Go.Proofs.Ytjklgdpffmaamaa.Wm.rkd k53 53 wm_Rm' (fun w base ok q => k53_mkM w base ok (wm_Rm' q)) rfl ha k1, Go.Proofs.Ytjklgdpffmaamaa.Wm.rkd k53 53 wm_Rm' (fun w base ok q => k53_mkM w base ok (wm_Rm' q)) rfl hn k2, Go.Proofs.Ytjklgdpffmaamaa.Wm.rkd k53 53 wm_Rm' (fun w base ok q => k53_mkM w base ok (wm_Rm' q)) rfl hr k3, hb⟩

end Go.Proofs.Ytjklgdpffmaamaa.PLs
