/- The row of the law PadAnswers, where what it reads weighs no more than the reach, out of its pure statement and the printed walk. -/
import Derived.Deep.RegionHeld3
import Derived.Test.YtjklgdpffmaamaaRows
import Derived.WalkKit
import Derived.ProofKit
import Derived.OpenShut
import Derived.ShutString
import Derived.ChangeOld
import Derived.Below
import Derived.SizedLaws
import Derived.Carry
import Derived.Test.YtjklgdpffmaamaaSx1
import Derived.Test.YtjklgdpffmaamaaSx2
import Derived.Test.YtjklgdpffmaamaaSx3
import Derived.Test.YtjklgdpffmaamaaSx4
import Derived.Test.YtjklgdpffmaamaaSx5
import Derived.Test.YtjklgdpffmaamaaSx6
namespace Go.Proofs.Ytjklgdpffmaamaa.PadAnswers
open Go.RowKit Go.PlainAid Go.Maps Go.Proofs.Ytjklgdpffmaamaa.Base Go.Proofs.Ytjklgdpffmaamaa.Oct Go.Proofs.Ytjklgdpffmaamaa.Nm Go.Proofs.Ytjklgdpffmaamaa.Wm Go.Proofs.Ytjklgdpffmaamaa.Pad Go.Proofs.Ytjklgdpffmaamaa.MsgW Go.Proofs.Ytjklgdpffmaamaa.SameAny
open Go.Proofs.Ytjklgdpffmaamaa.PPa (S40 S53 k40 k53 k40_open k53_open)
open Go.Proofs.Ytjklgdpffmaamaa.OkzPa (S27 ok27)
open Go.Proofs.YtjklgdpffmaamaaW.PrintWords (blk_cell blk_below blk_new blk_alloc blk_lt Ev Kd Kd.C_below)
set_option linter.unusedVariables false
set_option linter.unusedSimpArgs false
theorem small_map {l : List S53} (h : ∀ x ∈ l, x.f4.size ≤ 9223372036854775000) : smallB (l.map mR) = true := by
  unfold smallB
  rw [List.all_eq_true]
  intro r hr
  obtain ⟨x, hx, rfl⟩ := List.mem_map.1 hr
  exact decide_eq_true (h x hx)
set_option maxHeartbeats 8000000 in
set_option maxRecDepth 100000 in
theorem walk (m : MsgV) (most : Int) (w : World) (hm : m.Lies w) (xq : List S40) (xa xn xr : List S53) (eq : m.qs = xq.map mQ) (ea : m.an = xa.map mR) (en : m.ns = xn.map mR) (er : m.ar = xr.map mR)
    (kq : Kd.C k40 w m.Aq xq.length xq) (ka : Kd.C k53 w m.Aa xa.length xa) (kn : Kd.C k53 w m.An xn.length xn) (kr : Kd.C k53 w m.Ar xr.length xr) :
    Calls Try.prog 7 #[.agg m.cells, .int .i64 most] w fun e w' => e = .returned (.bool true) ∧ Below w.heap.size w w' := by
  have kw := awake10
  obtain ⟨c, ⟨i0, i1⟩, hx⟩ : ∃ c : Int, (0 ≤ c ∧ c ≤ 4095) ∧ Go.bits .and .i64 most 4095 = c := ⟨most % 4096, by omega, by rw [show (4095 : Int) = 2 ^ 12 - 1 by decide, Base.and_mask 12 (by decide)]; rfl⟩
  have k1 := fun w hm => answerc m true (12 + c) w hm
  have k2 := fun w hm => answerc m false (12 + c) w hm
  have HX := Lib.hid (AnsThy.ans_opt m (12 + c))
  have HY := Lib.hid (AnsThy.ans_bare m (12 + c))
  have EM := Lib.hid (And.intro eq (And.intro ea (And.intro en er)))
  have KM := Lib.hid (And.intro kq (And.intro ka (And.intro kn kr)))
  have lx : xq.length = m.qs.length ∧ xa.length = m.an.length ∧ xn.length = m.ns.length ∧ xr.length = m.ar.length := by rw [eq, ea, en, er]; simp only [List.length_map, and_self]
  have LX := Lib.hid lx
  clear eq ea en er kq ka kn kr lx
  obtain ⟨s, e, hS⟩ : ∃ s e, ansP m true (12 + c) = (s, e) := ⟨_, _, rfl⟩
  obtain ⟨t, f, hT⟩ : ∃ s e, ansP m false (12 + c) = (s, e) := ⟨_, _, rfl⟩
  rw [hS] at k1 HX
  rw [hT] at k2 HY
  clear hS hT
  have n1 := fun w => Hd.numc e w
  have n2 := fun w => Hd.numc f w
  have Bx : Below w.heap.size w (w.alloc (.cells m.cells 27)) := (Below.refl _ _).alloc (Nat.le_refl _) _
  have b3 := blk_new w (.cells m.cells 27)
  have hw : wrap64 (12 + c) = 12 + c := by unfold wrap64; omega
  have HM := Lib.hid hm
  clear hm
  go_enter Try.func7, Try.ntmps7
  go_upto_region 1 with (fail)
  generalize w.alloc (.cells m.cells 27) = w0 at *
  obtain ⟨gx, hgx⟩ : ∃ g, g = w.heap.size := ⟨_, rfl⟩
  rw [← hgx] at b3 ⊢
  have GX := Lib.hid hgx
  clear hgx
  go_wp2_with fail
  refine (kw _).mono ?_
  rintro e' w1 ⟨rfl, hb⟩
  replace Bx := Bx.trans (hb.mono Bx.size)
  replace b3 := blk_below b3 hb
  have hm1 := HM.out.below Bx
  clear hb kw
  have c0 : w1.cell? ⟨gx, 0, none⟩ = some (.int .i64 m.h.id) := (blk_cell b3 0).trans rfl
  have c1 : w1.cell? ⟨gx, 1, none⟩ = some (.bool m.h.qr) := (blk_cell b3 1).trans rfl
  have c2 : w1.cell? ⟨gx, 2, none⟩ = some (.int .i64 m.h.op) := (blk_cell b3 2).trans rfl
  have c3 : w1.cell? ⟨gx, 3, none⟩ = some (.bool m.h.aa) := (blk_cell b3 3).trans rfl
  have c4 : w1.cell? ⟨gx, 4, none⟩ = some (.bool m.h.tc) := (blk_cell b3 4).trans rfl
  have c5 : w1.cell? ⟨gx, 5, none⟩ = some (.bool m.h.rd) := (blk_cell b3 5).trans rfl
  have c6 : w1.cell? ⟨gx, 6, none⟩ = some (.bool m.h.ra) := (blk_cell b3 6).trans rfl
  have c7 : w1.cell? ⟨gx, 7, none⟩ = some (.int .i64 m.h.z) := (blk_cell b3 7).trans rfl
  have c8 : w1.cell? ⟨gx, 8, none⟩ = some (.int .i64 m.h.rc) := (blk_cell b3 8).trans rfl
  have c9 : w1.cell? ⟨gx, 9, none⟩ = some (.slice m.Aq m.qs.length m.cq) := (blk_cell b3 9).trans rfl
  have c10 : w1.cell? ⟨gx, 10, none⟩ = some (.slice m.Aa m.an.length m.ca) := (blk_cell b3 10).trans rfl
  have c11 : w1.cell? ⟨gx, 11, none⟩ = some (.slice m.An m.ns.length m.cn) := (blk_cell b3 11).trans rfl
  have c12 : w1.cell? ⟨gx, 12, none⟩ = some (.slice m.Ar m.ar.length m.cr) := (blk_cell b3 12).trans rfl
  go_wp2_with fail
  refine (k1 _ hm1).mono ?_
  rintro e' w2 ⟨rfl, hb⟩
  replace Bx := Bx.trans (hb.mono Bx.size)
  replace b3 := blk_below b3 hb
  replace hm1 := hm1.below hb
  clear hb k1
  have c0 : w2.cell? ⟨gx, 0, none⟩ = some (.int .i64 m.h.id) := (blk_cell b3 0).trans rfl
  have c1 : w2.cell? ⟨gx, 1, none⟩ = some (.bool m.h.qr) := (blk_cell b3 1).trans rfl
  have c2 : w2.cell? ⟨gx, 2, none⟩ = some (.int .i64 m.h.op) := (blk_cell b3 2).trans rfl
  have c3 : w2.cell? ⟨gx, 3, none⟩ = some (.bool m.h.aa) := (blk_cell b3 3).trans rfl
  have c4 : w2.cell? ⟨gx, 4, none⟩ = some (.bool m.h.tc) := (blk_cell b3 4).trans rfl
  have c5 : w2.cell? ⟨gx, 5, none⟩ = some (.bool m.h.rd) := (blk_cell b3 5).trans rfl
  have c6 : w2.cell? ⟨gx, 6, none⟩ = some (.bool m.h.ra) := (blk_cell b3 6).trans rfl
  have c7 : w2.cell? ⟨gx, 7, none⟩ = some (.int .i64 m.h.z) := (blk_cell b3 7).trans rfl
  have c8 : w2.cell? ⟨gx, 8, none⟩ = some (.int .i64 m.h.rc) := (blk_cell b3 8).trans rfl
  have c9 : w2.cell? ⟨gx, 9, none⟩ = some (.slice m.Aq m.qs.length m.cq) := (blk_cell b3 9).trans rfl
  have c10 : w2.cell? ⟨gx, 10, none⟩ = some (.slice m.Aa m.an.length m.ca) := (blk_cell b3 10).trans rfl
  have c11 : w2.cell? ⟨gx, 11, none⟩ = some (.slice m.An m.ns.length m.cn) := (blk_cell b3 11).trans rfl
  have c12 : w2.cell? ⟨gx, 12, none⟩ = some (.slice m.Ar m.ar.length m.cr) := (blk_cell b3 12).trans rfl
  go_wp2_with fail
  refine (k2 _ hm1).mono ?_
  rintro e' w3 ⟨rfl, hb⟩
  replace Bx := Bx.trans (hb.mono Bx.size)
  replace b3 := blk_below b3 hb
  clear hb k2 hm1 c0 c1 c2 c3 c4 c5 c6 c7 c8 c9 c10 c11 c12
  go_wp2_with fail
  refine (n1 _).mono ?_
  rintro e' w4 ⟨rfl, rfl⟩
  go_upto_if 35 with (fail)
  go_cut [4] (fun v4 wc => v4 = .bool false ∧ Below w.heap.size w wc ∧ wc.heap[gx]? = some (.cells m.cells 27 (0, 0)))
  case first =>
    rcases HX.out with ⟨e0, h1, h2⟩ | ⟨X, h1, h2, h3, ⟨rs, d, h4⟩, h5⟩
    · obtain ⟨rfl, rfl⟩ := Prod.mk.inj h1
      have q : (e == 0) = false := by rcases h2 with rfl | rfl <;> rfl
      clear h1 h2
      go_wp2_with fail
      go_meet
      case rel => exact ⟨rfl, Bx, b3⟩
    · obtain ⟨rfl, rfl⟩ := Prod.mk.inj h1
      obtain ⟨ev, z1, z2, lq, la, ln, lr, hr⟩ := AnsThy.own h2
      have kg := fun w => rgetVc (by omega) ev w
      have zk : decide (12 + c < ((putS X).size : Int)) = false := decide_eq_false (by omega)
      have H4 := Lib.hid h4
      clear h4
      generalize putS X = s at *
      clear h1 h2 ev h3
      have HR := Lib.hid hr
      clear hr
      go_wp2_with fail
      refine (kg _).mono ?_
      rintro e' w5 hh
      obtain ⟨Aq, Aqc, Aa, Aac, An, Anc, Ar, Arc, rfl, HA, hb⟩ := got_holds hh
      clear hh kg
      have Bx0 := Bx.trans (hb.mono Bx.size)
      have b30 := blk_below b3 hb
      clear hb
      have hb2 : Below w5.heap.size w5 (w5.alloc (.cells #[.int .i64 X.h.id, .bool X.h.qr, .int .i64 X.h.op, .bool X.h.aa, .bool X.h.tc, .bool X.h.rd, .bool X.h.ra, .int .i64 X.h.z, .int .i64 X.h.rc, .slice Aq X.qs.length Aqc, .slice Aa X.an.length Aac, .slice An X.ns.length Anc, .slice Ar X.ar.length Arc] 27)) := (Below.refl _ _).alloc (Nat.le_refl _) _
      have bA := blk_new w5 (.cells #[.int .i64 X.h.id, .bool X.h.qr, .int .i64 X.h.op, .bool X.h.aa, .bool X.h.tc, .bool X.h.rd, .bool X.h.ra, .int .i64 X.h.z, .int .i64 X.h.rc, .slice Aq X.qs.length Aqc, .slice Aa X.an.length Aac, .slice An X.ns.length Anc, .slice Ar X.ar.length Arc] 27)
      go_upto_region 8 with (fail)
      replace Bx0 := Bx0.trans (hb2.mono Bx0.size)
      replace b30 := blk_below b30 hb2
      replace HA := HA.below hb2
      generalize w5.alloc (.cells #[.int .i64 X.h.id, .bool X.h.qr, .int .i64 X.h.op, .bool X.h.aa, .bool X.h.tc, .bool X.h.rd, .bool X.h.ra, .int .i64 X.h.z, .int .i64 X.h.rc, .slice Aq X.qs.length Aqc, .slice Aa X.an.length Aac, .slice An X.ns.length Anc, .slice Ar X.ar.length Arc] 27) = w6 at *
      obtain ⟨gA, hgA⟩ : ∃ k, k = w5.heap.size := ⟨_, rfl⟩
      rw [← hgA] at bA ⊢
      clear hgA hb2
      have a0 : w6.cell? ⟨gA, 0, none⟩ = some (.int .i64 X.h.id) := (blk_cell bA 0).trans rfl
      have a1 : w6.cell? ⟨gA, 1, none⟩ = some (.bool X.h.qr) := (blk_cell bA 1).trans rfl
      have a2 : w6.cell? ⟨gA, 2, none⟩ = some (.int .i64 X.h.op) := (blk_cell bA 2).trans rfl
      have a3 : w6.cell? ⟨gA, 3, none⟩ = some (.bool X.h.aa) := (blk_cell bA 3).trans rfl
      have a4 : w6.cell? ⟨gA, 4, none⟩ = some (.bool X.h.tc) := (blk_cell bA 4).trans rfl
      have a5 : w6.cell? ⟨gA, 5, none⟩ = some (.bool X.h.rd) := (blk_cell bA 5).trans rfl
      have a6 : w6.cell? ⟨gA, 6, none⟩ = some (.bool X.h.ra) := (blk_cell bA 6).trans rfl
      have a7 : w6.cell? ⟨gA, 7, none⟩ = some (.int .i64 X.h.z) := (blk_cell bA 7).trans rfl
      have a8 : w6.cell? ⟨gA, 8, none⟩ = some (.int .i64 X.h.rc) := (blk_cell bA 8).trans rfl
      have a9 : w6.cell? ⟨gA, 9, none⟩ = some (.slice Aq X.qs.length Aqc) := (blk_cell bA 9).trans rfl
      have a10 : w6.cell? ⟨gA, 10, none⟩ = some (.slice Aa X.an.length Aac) := (blk_cell bA 10).trans rfl
      have a11 : w6.cell? ⟨gA, 11, none⟩ = some (.slice An X.ns.length Anc) := (blk_cell bA 11).trans rfl
      have a12 : w6.cell? ⟨gA, 12, none⟩ = some (.slice Ar X.ar.length Arc) := (blk_cell bA 12).trans rfl
      obtain ⟨sz, r2, r3, r4, r5, many, y0, y1, kf⟩ := FindK.findc ⟨lq, la, ln, lr⟩ HA H4.out HR.out
      dsimp only at kf
      go_wp2_with fail
      refine kf.mono ?_
      rintro e' w7 ⟨Ao, no, co, rfl, hb⟩
      replace Bx0 := Bx0.trans (hb.mono Bx0.size)
      replace b30 := blk_below b30 hb
      replace bA := blk_below bA hb
      clear hb kf a0 a1 a2 a3 a4 a5 a6 a7 a8 a9 a10 a11 a12
      have hb2 : Below w7.heap.size w7 (w7.alloc (.cells #[.int .i64 sz, .int .i64 r2, .int .i64 r3, .bool r4, .int .i64 r5, .slice Ao no co] 49)) := (Below.refl _ _).alloc (Nat.le_refl _) _
      have bO := blk_new w7 (.cells #[.int .i64 sz, .int .i64 r2, .int .i64 r3, .bool r4, .int .i64 r5, .slice Ao no co] 49)
      go_upto_region 9 with (fail)
      replace Bx0 := Bx0.trans (hb2.mono Bx0.size)
      replace b30 := blk_below b30 hb2
      replace bA := blk_below bA hb2
      generalize w7.alloc (.cells #[.int .i64 sz, .int .i64 r2, .int .i64 r3, .bool r4, .int .i64 r5, .slice Ao no co] 49) = w8 at *
      obtain ⟨gO, hgO⟩ : ∃ k, k = w7.heap.size := ⟨_, rfl⟩
      rw [← hgO] at bO ⊢
      clear hgO hb2
      have o0 : w8.cell? ⟨gO, 0, none⟩ = some (.int .i64 sz) := (blk_cell bO 0).trans rfl
      have a4 : w8.cell? ⟨gA, 4, none⟩ = some (.bool X.h.tc) := (blk_cell bA 4).trans rfl
      have a10 : w8.cell? ⟨gA, 10, none⟩ = some (.slice Aa X.an.length Aac) := (blk_cell bA 10).trans rfl
      have a11 : w8.cell? ⟨gA, 11, none⟩ = some (.slice An X.ns.length Anc) := (blk_cell bA 11).trans rfl
      have t1 : decide (many < 1) = false := decide_eq_false (by omega)
      have t2 : decide (sz < 0) = false := decide_eq_false (by omega)
      clear HA bA bO lq la ln lr
      by_cases hz : s.size % 468 = 0
      · have hz2 : (s.size : Int) % 468 = 0 := by omega
        go_wp2_with fail
        go_meet
        case rel => exact ⟨rfl, Bx0, b30⟩
      · rcases h5 with h5 | ⟨h5, h6, h7⟩
        · exact absurd h5 hz
        have hz2 : ((s.size : Int) % 468 != 0) = true := by rw [bne_iff_ne]; omega
        rw [h5] at a4
        rw [h6] at a10
        rw [h7] at a11
        go_wp2_with fail
        go_meet
        case rel => exact ⟨rfl, Bx0, b30⟩
  case rest =>
    obtain ⟨rfl, Bw, b4⟩ := hcut
    clear Bx b3
    go_wp2_with fail
    refine (n2 _).mono ?_
    rintro e' w9 ⟨rfl, rfl⟩
    go_upto_if 87 with (fail)
    go_cut [4] (fun v4 wc => v4 = .bool false ∧ Below w.heap.size w wc)
    case first =>
      rcases HY.out with ⟨f0, h1, h2⟩ | ⟨Y, h1, h2, h3, h4⟩
      · obtain ⟨rfl, rfl⟩ := Prod.mk.inj h1
        have q : (f == 0) = false := by rcases h2 with rfl | rfl <;> rfl
        clear h1 h2
        go_wp2_with fail
        go_meet
        case rel => exact ⟨rfl, Bw⟩
      · obtain ⟨rfl, rfl⟩ := Prod.mk.inj h1
        obtain ⟨tc, Ya, ya, an, Yn, yn, ns, Yr, yr, ar, hY, hL⟩ : ∃ tc Ya ya an Yn yn ns Yr yr ar, Y = (⟨⟨m.h.id, m.h.qr, m.h.op, m.h.aa, tc, m.h.rd, m.h.ra, m.h.z, m.h.rc⟩, m.Aq, m.cq, m.qs, Ya, ya, an, Yn, yn, ns, Yr, yr, ar⟩ : MsgV) ∧ ((tc = m.h.tc ∧ an = m.an ∧ ns = m.ns ∧ ar = m.ar) ∨ (tc = true ∧ an = [] ∧ ns = [] ∧ ar = [])) := by
          rcases h4 with rfl | rfl
          · exact ⟨_, _, _, _, _, _, _, _, _, _, rfl, .inl ⟨rfl, rfl, rfl, rfl⟩⟩
          · exact ⟨_, _, _, _, _, _, _, _, _, _, rfl, .inr ⟨rfl, rfl, rfl, rfl⟩⟩
        obtain ⟨ev, z1, z2, lq, la, ln, lr, -⟩ := AnsThy.own h2
        generalize putS Y = t at *
        rw [hY] at ev lq la ln lr
        dsimp only at ev lq la ln lr
        have kg := fun w => rgetVc (by omega) ev w
        have zk : decide (12 + c < (t.size : Int)) = false := decide_eq_false (by omega)
        have HL := Lib.hid hL
        clear h1 h2 ev h3 h4 hY hL
        go_wp2_with fail
        refine (kg _).mono ?_
        rintro e' w10 hh
        obtain ⟨Aq, Aqc, Aa, Aac, An, Anc, Ar, Arc, he, HA, hb⟩ := got_holds hh
        dsimp only at he HA
        subst he
        clear hh kg
        replace Bw := Bw.trans (hb.mono Bw.size)
        replace b4 := blk_below b4 hb
        clear hb
        have hb2 : Below w10.heap.size w10 (w10.alloc (.cells #[.int .i64 m.h.id, .bool m.h.qr, .int .i64 m.h.op, .bool m.h.aa, .bool tc, .bool m.h.rd, .bool m.h.ra, .int .i64 m.h.z, .int .i64 m.h.rc, .slice Aq m.qs.length Aqc, .slice Aa an.length Aac, .slice An ns.length Anc, .slice Ar ar.length Arc] 27)) := (Below.refl _ _).alloc (Nat.le_refl _) _
        have bA := blk_new w10 (.cells #[.int .i64 m.h.id, .bool m.h.qr, .int .i64 m.h.op, .bool m.h.aa, .bool tc, .bool m.h.rd, .bool m.h.ra, .int .i64 m.h.z, .int .i64 m.h.rc, .slice Aq m.qs.length Aqc, .slice Aa an.length Aac, .slice An ns.length Anc, .slice Ar ar.length Arc] 27)
        go_upto_region 13 with (fail)
        replace Bw := Bw.trans (hb2.mono Bw.size)
        replace b4 := blk_below b4 hb2
        replace HA := HA.below hb2
        generalize w10.alloc (.cells #[.int .i64 m.h.id, .bool m.h.qr, .int .i64 m.h.op, .bool m.h.aa, .bool tc, .bool m.h.rd, .bool m.h.ra, .int .i64 m.h.z, .int .i64 m.h.rc, .slice Aq m.qs.length Aqc, .slice Aa an.length Aac, .slice An ns.length Anc, .slice Ar ar.length Arc] 27) = w11 at *
        obtain ⟨gA, hgA⟩ : ∃ k, k = w10.heap.size := ⟨_, rfl⟩
        rw [← hgA] at bA ⊢
        clear hgA hb2
        have a0 : w11.cell? ⟨gA, 0, none⟩ = some (.int .i64 m.h.id) := (blk_cell bA 0).trans rfl
        have a1 : w11.cell? ⟨gA, 1, none⟩ = some (.bool m.h.qr) := (blk_cell bA 1).trans rfl
        have a2 : w11.cell? ⟨gA, 2, none⟩ = some (.int .i64 m.h.op) := (blk_cell bA 2).trans rfl
        have a3 : w11.cell? ⟨gA, 3, none⟩ = some (.bool m.h.aa) := (blk_cell bA 3).trans rfl
        have a4 : w11.cell? ⟨gA, 4, none⟩ = some (.bool tc) := (blk_cell bA 4).trans rfl
        have a5 : w11.cell? ⟨gA, 5, none⟩ = some (.bool m.h.rd) := (blk_cell bA 5).trans rfl
        have a6 : w11.cell? ⟨gA, 6, none⟩ = some (.bool m.h.ra) := (blk_cell bA 6).trans rfl
        have a7 : w11.cell? ⟨gA, 7, none⟩ = some (.int .i64 m.h.z) := (blk_cell bA 7).trans rfl
        have a8 : w11.cell? ⟨gA, 8, none⟩ = some (.int .i64 m.h.rc) := (blk_cell bA 8).trans rfl
        have a9 : w11.cell? ⟨gA, 9, none⟩ = some (.slice Aq m.qs.length Aqc) := (blk_cell bA 9).trans rfl
        have a10 : w11.cell? ⟨gA, 10, none⟩ = some (.slice Aa an.length Aac) := (blk_cell bA 10).trans rfl
        have a11 : w11.cell? ⟨gA, 11, none⟩ = some (.slice An ns.length Anc) := (blk_cell bA 11).trans rfl
        have a12 : w11.cell? ⟨gA, 12, none⟩ = some (.slice Ar ar.length Arc) := (blk_cell bA 12).trans rfl
        have c0 : w11.cell? ⟨gx, 0, none⟩ = some (.int .i64 m.h.id) := (blk_cell b4 0).trans rfl
        have c1 : w11.cell? ⟨gx, 1, none⟩ = some (.bool m.h.qr) := (blk_cell b4 1).trans rfl
        have c2 : w11.cell? ⟨gx, 2, none⟩ = some (.int .i64 m.h.op) := (blk_cell b4 2).trans rfl
        have c3 : w11.cell? ⟨gx, 3, none⟩ = some (.bool m.h.aa) := (blk_cell b4 3).trans rfl
        have c4 : w11.cell? ⟨gx, 4, none⟩ = some (.bool m.h.tc) := (blk_cell b4 4).trans rfl
        have c5 : w11.cell? ⟨gx, 5, none⟩ = some (.bool m.h.rd) := (blk_cell b4 5).trans rfl
        have c6 : w11.cell? ⟨gx, 6, none⟩ = some (.bool m.h.ra) := (blk_cell b4 6).trans rfl
        have c7 : w11.cell? ⟨gx, 7, none⟩ = some (.int .i64 m.h.z) := (blk_cell b4 7).trans rfl
        have c8 : w11.cell? ⟨gx, 8, none⟩ = some (.int .i64 m.h.rc) := (blk_cell b4 8).trans rfl
        have c9 : w11.cell? ⟨gx, 9, none⟩ = some (.slice m.Aq m.qs.length m.cq) := (blk_cell b4 9).trans rfl
        have c10 : w11.cell? ⟨gx, 10, none⟩ = some (.slice m.Aa m.an.length m.ca) := (blk_cell b4 10).trans rfl
        have c11 : w11.cell? ⟨gx, 11, none⟩ = some (.slice m.An m.ns.length m.cn) := (blk_cell b4 11).trans rfl
        have c12 : w11.cell? ⟨gx, 12, none⟩ = some (.slice m.Ar m.ar.length m.cr) := (blk_cell b4 12).trans rfl
        obtain ⟨b, hb0, kc⟩ := sameX (g := ⟨⟨m.h.id, m.h.qr, m.h.op, m.h.aa, tc, m.h.rd, m.h.ra, m.h.z, m.h.rc⟩, m.qs, an, ns, ar, 0⟩) ⟨lq, la, ln, lr⟩ m.h.tc HA (qs := xq) (an := xa) (ns := xn) (ar := xr) EM.out.1
          (by
            rcases HL.out with ⟨h1, h2, h3, h4⟩ | ⟨h1, h2, h3, h4⟩
            · exact .inl ⟨h1, h2.trans EM.out.2.1, h3.trans EM.out.2.2.1, h4.trans EM.out.2.2.2⟩
            · exact .inr ⟨h2, h3, h4⟩)
          (Kd.C_below KM.out.1 Bw) (by rw [LX.out.1]; exact HM.out.lq) (Kd.C_below KM.out.2.1 Bw) (by rw [LX.out.2.1]; exact HM.out.la) (Kd.C_below KM.out.2.2.1 Bw) (by rw [LX.out.2.2.1]; exact HM.out.ln) (Kd.C_below KM.out.2.2.2 Bw) (by rw [LX.out.2.2.2]; exact HM.out.lr)
        dsimp only at hb0 kc
        rw [LX.out.1, LX.out.2.1, LX.out.2.2.1, LX.out.2.2.2] at kc
        cases b with
        | true =>
          clear hb0 HA bA
          go_wp2_with fail
          refine kc.mono ?_
          rintro e' w12 ⟨rfl, hb⟩
          replace Bw := Bw.trans (hb.mono Bw.size)
          clear hb kc a0 a1 a2 a3 a4 a5 a6 a7 a8 a9 a10 a11 a12 c0 c1 c2 c3 c4 c5 c6 c7 c8 c9 c10 c11 c12
          go_wp2_with fail
          go_meet
          case rel => exact ⟨rfl, Bw⟩
        | false =>
          obtain ⟨h1, h2, h3, h4⟩ : tc = true ∧ an = [] ∧ ns = [] ∧ ar = [] := by
            rcases HL.out with ⟨h1, h2, h3, h4⟩ | h
            · exact absurd (hb0 ⟨h1, h2.trans EM.out.2.1, h3.trans EM.out.2.2.1, h4.trans EM.out.2.2.2⟩) (by decide)
            · exact h
          subst h1 h2 h3 h4
          clear hb0
          go_wp2_with fail
          refine kc.mono ?_
          rintro e' w12 ⟨rfl, hb⟩
          replace Bw := Bw.trans (hb.mono Bw.size)
          replace bA := blk_below bA hb
          replace b4 := blk_below b4 hb
          replace HA := HA.below hb
          clear hb kc a0 a1 a2 a3 a4 a5 a6 a7 a8 a9 a10 a11 a12 c0 c1 c2 c3 c4 c5 c6 c7 c8 c9 c10 c11 c12
          have a4 : w12.cell? ⟨gA, 4, none⟩ = some (.bool true) := (blk_cell bA 4).trans rfl
          have a9 : w12.cell? ⟨gA, 9, none⟩ = some (.slice Aq m.qs.length Aqc) := (blk_cell bA 9).trans rfl
          have a10 : w12.cell? ⟨gA, 10, none⟩ = some (.slice Aa 0 Aac) := (blk_cell bA 10).trans rfl
          have a11 : w12.cell? ⟨gA, 11, none⟩ = some (.slice An 0 Anc) := (blk_cell bA 11).trans rfl
          have a12 : w12.cell? ⟨gA, 12, none⟩ = some (.slice Ar 0 Arc) := (blk_cell bA 12).trans rfl
          have c9 : w12.cell? ⟨gx, 9, none⟩ = some (.slice m.Aq m.qs.length m.cq) := (blk_cell b4 9).trans rfl
          have kQ := sameQc (g := ⟨⟨m.h.id, m.h.qr, m.h.op, m.h.aa, true, m.h.rd, m.h.ra, m.h.z, m.h.rc⟩, m.qs, [], [], [], 0⟩) lq EM.out.1 HA.q (Kd.C_below KM.out.1 Bw) (by rw [LX.out.1]; exact HM.out.lq)
          dsimp only at kQ
          rw [LX.out.1] at kQ
          clear HA bA
          go_wp2_with fail
          refine kQ.mono ?_
          rintro e' w13 ⟨rfl, hb⟩
          replace Bw := Bw.trans (hb.mono Bw.size)
          clear hb kQ a4 a9 a10 a11 a12 c9
          go_wp2_with fail
          go_meet
          case rel => exact ⟨rfl, Bw⟩
    case rest =>
      obtain ⟨rfl, Bz⟩ := hcut
      clear Bw b4
      rcases HX.out with ⟨e0, h1, h2⟩ | ⟨X, h1, -⟩
      · obtain ⟨rfl, rfl⟩ := Prod.mk.inj h1
        have q1 : (e == 0) = false := by rcases h2 with rfl | rfl <;> rfl
        clear h1 h2
        rcases HY.out with ⟨f0, h1, h2⟩ | ⟨Y, h1, -⟩
        · obtain ⟨rfl, rfl⟩ := Prod.mk.inj h1
          have q2 : (f == 0) = false := by rcases h2 with rfl | rfl <;> rfl
          clear h1 h2
          go_wp2_with fail
          refine (n1 _).mono ?_
          rintro e' w14 ⟨rfl, rfl⟩
          go_wp2_with fail
          refine (n2 _).mono ?_
          rintro e' w15 ⟨rfl, rfl⟩
          go_wp2_with fail
          go_ret
          exact ⟨rfl, Bz⟩
        · obtain ⟨rfl, rfl⟩ := Prod.mk.inj h1
          generalize putS Y = t at *
          clear h1
          go_wp2_with fail
          refine (n1 _).mono ?_
          rintro e' w14 ⟨rfl, rfl⟩
          go_wp2_with fail
          refine (n2 _).mono ?_
          rintro e' w15 ⟨rfl, rfl⟩
          go_wp2_with fail
          go_ret
          exact ⟨rfl, Bz⟩
      · obtain ⟨rfl, rfl⟩ := Prod.mk.inj h1
        generalize putS X = s at *
        clear h1
        rcases HY.out with ⟨f0, h1, h2⟩ | ⟨Y, h1, -⟩
        · obtain ⟨rfl, rfl⟩ := Prod.mk.inj h1
          have q2 : (f == 0) = false := by rcases h2 with rfl | rfl <;> rfl
          clear h1 h2
          go_wp2_with fail
          refine (n1 _).mono ?_
          rintro e' w14 ⟨rfl, rfl⟩
          go_wp2_with fail
          refine (n2 _).mono ?_
          rintro e' w15 ⟨rfl, rfl⟩
          go_wp2_with fail
          go_ret
          exact ⟨rfl, Bz⟩
        · obtain ⟨rfl, rfl⟩ := Prod.mk.inj h1
          generalize putS Y = t at *
          clear h1
          go_wp2_with fail
          refine (n1 _).mono ?_
          rintro e' w14 ⟨rfl, rfl⟩
          go_wp2_with fail
          refine (n2 _).mono ?_
          rintro e' w15 ⟨rfl, rfl⟩
          go_wp2_with fail
          go_ret
          exact ⟨rfl, Bz⟩
set_option maxRecDepth 100000 in
/-- As the row wants it. -/
theorem hcalls (x : S27) (most : Int) (W : World) (A1 : Option Addr) (c1 : Nat) (A2 : Option Addr) (c2 : Nat) (A3 : Option Addr) (c3 : Nat) (A4 : Option Addr) (c4 : Nat)
    (h1 : Kd.C k40 W A1 x.f1.length x.f1) (l1 : x.f1.length ≤ c1) (h2 : Kd.C k53 W A2 x.f2.length x.f2) (l2 : x.f2.length ≤ c2) (h3 : Kd.C k53 W A3 x.f3.length x.f3) (l3 : x.f3.length ≤ c3) (h4 : Kd.C k53 W A4 x.f4.length x.f4) (l4 : x.f4.length ≤ c4)
    (hx : ok27 x) (ha : (Lit.int .i64 most).wf = true) :
    Calls Try.prog 7 #[.agg #[.int .i64 x.f0.f0, .bool x.f0.f1, .int .i64 x.f0.f2, .bool x.f0.f3, .bool x.f0.f4, .bool x.f0.f5, .bool x.f0.f6, .int .i64 x.f0.f7, .int .i64 x.f0.f8, .slice A1 x.f1.length c1, .slice A2 x.f2.length c2, .slice A3 x.f3.length c3, .slice A4 x.f4.length c4], .int .i64 most] W fun e w' => e = .returned (.bool true) ∧ Below W.heap.size W w' := by
  have e2 : small (x.f2.map mR) := small_of (small_map fun y hy => Nat.le_trans (hx.2.2.1.2 y hy).2.2.2.2 (by decide))
  have e3 : small (x.f3.map mR) := small_of (small_map fun y hy => Nat.le_trans (hx.2.2.2.1.2 y hy).2.2.2.2 (by decide))
  have e4 : small (x.f4.map mR) := small_of (small_map fun y hy => Nat.le_trans (hx.2.2.2.2.2 y hy).2.2.2.2 (by decide))
  have := walk ⟨⟨x.f0.f0, x.f0.f1, x.f0.f2, x.f0.f3, x.f0.f4, x.f0.f5, x.f0.f6, x.f0.f7, x.f0.f8⟩, A1, c1, x.f1.map mQ, A2, c2, x.f2.map mR, A3, c3, x.f3.map mR, A4, c4, x.f4.map mR⟩ most W
    ⟨qcells_of mQ h1 (fun x cs h => k40_open h), rcells_of mR h2 (fun x cs h => k53_open h), rcells_of mR h3 (fun x cs h => k53_open h), rcells_of mR h4 (fun x cs h => k53_open h),
      by rw [List.length_map]; exact l1, by rw [List.length_map]; exact l2, by rw [List.length_map]; exact l3, by rw [List.length_map]; exact l4, e2, e3, e4⟩ x.f1 x.f2 x.f3 x.f4 rfl rfl rfl rfl h1 h2 h3 h4
  simp only [MsgV.cells, List.length_map] at this
  exact this
end Go.Proofs.Ytjklgdpffmaamaa.PadAnswers

namespace Go.Proofs.Ytjklgdpffmaamaa.padAnswers
open Go.ChangeShapes Go.WideShapes Go.ChangeAt Go.RowKit Go.Proofs.YtjklgdpffmaamaaW.PrintWords Go.Proofs.Ytjklgdpffmaamaa.PPa Go.Proofs.Ytjklgdpffmaamaa.OpenZd Go.Proofs.Ytjklgdpffmaamaa.OkzPa
open Go.ChangeMaps (open_string shut_string)
set_option linter.unusedVariables false
theorem own : ownKnob Try.prog.godebug = none := by kernel_rfl
theorem laidOut : laidOutB Try.prog = true := by kernel_rfl
set_option maxRecDepth 100000 in
theorem contract (H : Type) (enc : TypeId × Value → H) (W : World) (base : Nat) (args : Array Value) (ds gs : List (DataW H)) (before : List MemPlace)
    (hval : ∀ (j : Nat) t v, Try.f7.params[j]? = some t → args[j]? = some v → Value.okWide Try.prog W .any base t v)
    (hW : DataW.Whole enc Try.prog Try.f7.params.toList Rows.padAnswersSpec.vars false W args.toList ds gs before) (hsz : (DataW.weightsEach Try.prog (Try.f7.params.toList ++ Rows.padAnswersSpec.plain.varTypes Try.prog) (ds ++ gs)).all (· ≤ reachBytes) = true) :
    Calls Try.prog 7 args W fun e W' => ∃ v, e = .returned v ∧ Rows.padAnswersSpec.post enc Try.prog Try.f7 false true false false W args v W' := by
  have hW' := hW
  obtain ⟨p, q, hA0, hV, rfl, hfz, hnd⟩ := hW
  have hA : DataW.TrodAll enc Try.prog W 0 (fun _ => true) true Try.f7.params.toList args.toList ds p := hA0
  rw [Try.params7] at hA hval hsz
  obtain ⟨v0, vs0, d0, ds0, p0, q0, hargs, rfl, rfl, h0, r0⟩ := trodAll_cons hA
  obtain ⟨v1, vs1, d1, ds1, p1, q1, rfl, rfl, rfl, h1, r1⟩ := trodAll_cons r0
  obtain ⟨rfl, rfl, rfl⟩ := trodAll_nil r1
  obtain rfl : args = #[v0, v1] := by cases args; simp_all
  obtain ⟨rfl, rfl⟩ := trodVars_none hV
  have k0 := h0
  have lt0 : ∀ x ∈ p0, x.block < W.heap.size := by obtain ⟨m, hm⟩ := k0; exact DataW.trod_lt m _ _ _ hm
  obtain ⟨fuel0, hf0⟩ := h0
  have light0 : Light Try.prog 27 d0 := light_each Try.prog hsz (j := 0) rfl rfl
  obtain ⟨cs0, rfl, hs0⟩ := okWide_struct Try.underlying27 (hval 0 27 v0 rfl rfl)
  have hf0' : DataW.trod enc Try.prog W 0 (fun _ => true) true fuel0 27 cs0.toList = some (d0, p0) := by simpa [Value.cells] using hf0
  obtain ⟨x0, e0, o0⟩ := opens27 enc W 0 (fun _ => true) true _ _ _ hf0' light0
  have e0' := e0
  generalize hcs0 : cs0.toList = l0 at e0'
  obtain ⟨z0_0, t0_0, rfl, g0_0, r0_0⟩ := e0'
  obtain ⟨z0_0_0, t0_0_0, rfl, g0_0_0, r0_0_0⟩ := g0_0
  obtain rfl := g0_0_0
  obtain ⟨z0_0_1, t0_0_1, rfl, g0_0_1, r0_0_1⟩ := r0_0_0
  obtain rfl := g0_0_1
  obtain ⟨z0_0_2, t0_0_2, rfl, g0_0_2, r0_0_2⟩ := r0_0_1
  obtain rfl := g0_0_2
  obtain ⟨z0_0_3, t0_0_3, rfl, g0_0_3, r0_0_3⟩ := r0_0_2
  obtain rfl := g0_0_3
  obtain ⟨z0_0_4, t0_0_4, rfl, g0_0_4, r0_0_4⟩ := r0_0_3
  obtain rfl := g0_0_4
  obtain ⟨z0_0_5, t0_0_5, rfl, g0_0_5, r0_0_5⟩ := r0_0_4
  obtain rfl := g0_0_5
  obtain ⟨z0_0_6, t0_0_6, rfl, g0_0_6, r0_0_6⟩ := r0_0_5
  obtain rfl := g0_0_6
  obtain ⟨z0_0_7, t0_0_7, rfl, g0_0_7, r0_0_7⟩ := r0_0_6
  obtain rfl := g0_0_7
  obtain rfl := r0_0_7
  obtain ⟨z0_1, t0_1, rfl, g0_1, r0_1⟩ := r0_0
  obtain ⟨A0_1, c0_1, rfl, hl0_1, hC0_1⟩ := g0_1
  obtain ⟨z0_2, t0_2, rfl, g0_2, r0_2⟩ := r0_1
  obtain ⟨A0_2, c0_2, rfl, hl0_2, hC0_2⟩ := g0_2
  obtain ⟨z0_3, t0_3, rfl, g0_3, r0_3⟩ := r0_2
  obtain ⟨A0_3, c0_3, rfl, hl0_3, hC0_3⟩ := g0_3
  obtain ⟨A0_4, c0_4, rfl, hl0_4, hC0_4⟩ := r0_3
  obtain rfl : cs0 = #[.int .i64 x0.f0.f0, .bool x0.f0.f1, .int .i64 x0.f0.f2, .bool x0.f0.f3, .bool x0.f0.f4, .bool x0.f0.f5, .bool x0.f0.f6, .int .i64 x0.f0.f7, .int .i64 x0.f0.f8, .slice A0_1 x0.f1.length c0_1, .slice A0_2 x0.f2.length c0_2, .slice A0_3 x0.f3.length c0_3, .slice A0_4 x0.f4.length c0_4] := by apply Array.ext'; simpa using hcs0
  have k1 := h1
  have lt1 : ∀ x ∈ p1, x.block < W.heap.size := by obtain ⟨m, hm⟩ := k1; exact DataW.trod_lt m _ _ _ hm
  obtain ⟨fuel1, hf1⟩ := h1
  have light1 : Light Try.prog 3 d1 := light_each Try.prog hsz (j := 1) rfl rfl
  obtain ⟨a1, rfl, _, _, wa1⟩ := open_int Try.underlying3 (hval 1 3 v1 rfl rfl) k1
  obtain ⟨x1, e1, o1⟩ := (opens_int enc Try.prog W 0 (fun _ => true) true Try.underlying3) _ _ _ hf1 light1
  obtain rfl : a1 = x1 := by have e' := List.cons.inj e1; simpa using e'.1
  clear hA0
  refine (PadAnswers.hcalls x0 a1 W A0_1 c0_1 A0_2 c0_2 A0_3 c0_3 A0_4 c0_4 hC0_1 hl0_1 hC0_2 hl0_2 hC0_3 hl0_3 hC0_4 hl0_4 o0 o1).mono fun e W' ⟨he, hd⟩ => ?_
  have bel : Below W.heap.size W W' := hd
  subst he
  exact ⟨_, rfl, _, _, _, [], _, [], hW', trodAll_mk1 (shut_bool Try.underlying4 _), (trodAll_cons_mk (Below.trod laidOut (by kernel_rfl) (of_decide_eq_true (by kernel_rfl)) k0 bel lt0) (trodAll_cons_mk (Below.trod laidOut (by kernel_rfl) (of_decide_eq_true (by kernel_rfl)) k1 bel lt1) trodAll_mk0)), rfl, bel.frame _, fun h => by cases h⟩
set_option maxRecDepth 100000 in
theorem lifted (os : Os) (started : os.Started) (H : Type) (enc : TypeId × Value → H) :
    ReturnsInHanded {} Try.checked os 7 .any (Rows.padAnswersSpec.pre6 enc Try.prog Try.f7 Rows.padAnswersRow.domain false) (Rows.padAnswersSpec.post enc Try.prog Try.f7 false true false false) := by
  refine returnsInHanded_of_change_sized (C := Try.checked) own started (by kernel_rfl) Try.func7
    (ChangeSpec.witness6 (enc := enc) (C := Try.checked) false ⟨#[], #[.agg #[.int .i64 0, .bool false, .int .i64 0, .bool false, .bool false, .bool false, .bool false, .int .i64 0, .int .i64 0, .slice none 0 0, .slice none 0 0, .slice none 0 0, .slice none 0 0], .int .i64 0], []⟩ 8 (by kernel_rfl) (by kernel_rfl) (by kernel_rfl) (by kernel_rfl)) ?_
  intro W base args ds gs before hval hW _ hsz _
  exact contract H enc W base args ds gs before hval hW hsz
theorem over : Rows.padAnswersRow.holds Try.pinned (OpenSpec.ofChange Rows.padAnswersSpec) :=
  OpenClaim.holds_of_wide 7 Try.f7 rfl rfl rfl rfl rfl rfl rfl ⟨rfl, rfl, rfl, rfl, rfl⟩ rfl rfl rfl rfl rfl (by kernel_rfl) Try.func7 (by kernel_rfl)
    (of_decide_eq_true (by kernel_rfl)) (by unfold Func.isWrapper; first | (rw [if_pos (by decide +kernel)]; kernel_rfl) | (rw [if_neg (by decide +kernel)]; exact ⟨rfl, rfl⟩))
    (fun os started H enc _ => lifted os started H enc)
end Go.Proofs.Ytjklgdpffmaamaa.padAnswers
namespace Go.Proofs.Ytjklgdpffmaamaa
theorem padAnswers_holds : Rows.PadAnswersSaid := padAnswers.over
end Go.Proofs.Ytjklgdpffmaamaa
