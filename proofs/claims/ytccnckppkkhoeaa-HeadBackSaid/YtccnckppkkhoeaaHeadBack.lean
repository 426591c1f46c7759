/- wimplelaw6.HeadBack answers true, for every header, counts and string. -/
import Derived.Test.YtccnckppkkhoeaaHeadAwake
import Derived.Test.YtccnckppkkhoeaaHeadPure
import Derived.Lib.Hide
namespace Go.Proofs.Ytccnckppkkhoeaa.Hd
open Go.RowKit Go.PlainAid Go.Proofs.Ytccnckppkkhoeaa.Base Go.Proofs.Ytccnckppkkhoeaa.Oct
set_option linter.unusedVariables false

theorem putY (h : Head) (a b c d : Int) (w : World) (hm : mayB h a b c d = true) :
    Calls Try.prog 24 #[.agg #[.int .i64 h.id, .bool h.qr, .int .i64 h.op, .bool h.aa, .bool h.tc, .bool h.rd, .bool h.ra, .int .i64 h.z, .int .i64 h.rc], .agg #[.int .i64 a, .int .i64 b, .int .i64 c, .int .i64 d]] w fun e w' => e = .returned (.tuple #[.string (h.putS a b c d), .int .i64 0]) ∧ Below w.heap.size w w' := put_yes h a b c d w hm
theorem putN (h : Head) (a b c d : Int) (w : World) (hm : mayB h a b c d = false) :
    Calls Try.prog 24 #[.agg #[.int .i64 h.id, .bool h.qr, .int .i64 h.op, .bool h.aa, .bool h.tc, .bool h.rd, .bool h.ra, .int .i64 h.z, .int .i64 h.rc], .agg #[.int .i64 a, .int .i64 b, .int .i64 c, .int .i64 d]] w fun e w' => e = .returned (.tuple #[.string ⟨#[]⟩, .int .i64 600]) ∧ Below w.heap.size w w' := put_no h a b c d w hm
theorem getB (h : Head) (a b c d : Int) (s : ByteArray) (w : World) (hs : s.size ≤ 140737488351232) (hm : mayB h a b c d = true) :
    Calls Try.prog 26 #[.string (h.putS a b c d ++ s)] w fun e w' => e = .returned (.tuple #[.agg #[.int .i64 h.id, .bool h.qr, .int .i64 h.op, .bool h.aa, .bool h.tc, .bool h.rd, .bool h.ra, .int .i64 h.z, .int .i64 h.rc], .agg #[.int .i64 a, .int .i64 b, .int .i64 c, .int .i64 d], .int .i64 0]) ∧ Below w.heap.size w w' := by
  obtain ⟨e0, e1, e2, e3, e4, e5⟩ := back h a b c d s hm
  have := got (h.putS a b c d ++ s) w (by rw [ByteArray.size_append, putS_size]; omega)
  rw [e0, e1, e2, e3, e4, e5] at this
  exact this
theorem getY (s : ByteArray) (w : World) (hs : s.size ≤ 140737488351232) (h : 12 ≤ s.size) :
    Calls Try.prog 26 #[.string s] w fun e w' => e = .returned (.tuple #[.agg #[.int .i64 (getH s).id, .bool (getH s).qr, .int .i64 (getH s).op, .bool (getH s).aa, .bool (getH s).tc, .bool (getH s).rd, .bool (getH s).ra, .int .i64 (getH s).z, .int .i64 (getH s).rc], .agg #[.int .i64 (be2 s 4), .int .i64 (be2 s 6), .int .i64 (be2 s 8), .int .i64 (be2 s 10)], .int .i64 0]) ∧ Below w.heap.size w w' := get_yes s w (by omega) h
theorem getN (s : ByteArray) (w : World) (h : s.size < 12) :
    Calls Try.prog 26 #[.string s] w fun e w' => e = .returned (.tuple #[.agg #[.int .i64 0, .bool false, .int .i64 0, .bool false, .bool false, .bool false, .bool false, .int .i64 0, .int .i64 0], .agg #[.int .i64 0, .int .i64 0, .int .i64 0, .int .i64 0], .int .i64 600]) ∧ Below w.heap.size w w' := get_no s w h
theorem putG (s : ByteArray) (w : World) (h : 12 ≤ s.size) :
    Calls Try.prog 24 #[.agg #[.int .i64 (getH s).id, .bool (getH s).qr, .int .i64 (getH s).op, .bool (getH s).aa, .bool (getH s).tc, .bool (getH s).rd, .bool (getH s).ra, .int .i64 (getH s).z, .int .i64 (getH s).rc], .agg #[.int .i64 (be2 s 4), .int .i64 (be2 s 6), .int .i64 (be2 s 8), .int .i64 (be2 s 10)]] w fun e w' => e = .returned (.tuple #[.string (s.extract 0 12), .int .i64 0]) ∧ Below w.heap.size w w' := by
  have := put_yes (getH s) (be2 s 4) (be2 s 6) (be2 s 8) (be2 s 10) w (getH_may s)
  rw [putS_getH s h] at this
  exact this
set_option maxHeartbeats 4000000 in
theorem back_yl (h : Head) (a b : Int) (s : ByteArray) (w : World) (hs : s.size ≤ 140737488351232) (hm : mayB h (Go.bits .and .i64 a 65535) (Go.bits .and .i64 b 65535) (Go.bits .and .i64 (a / 65536) 65535) (Go.bits .and .i64 (b / 65536) 65535) = true) (hl : 12 ≤ s.size) :
    Calls Try.prog 8 #[.agg #[.int .i64 h.id, .bool h.qr, .int .i64 h.op, .bool h.aa, .bool h.tc, .bool h.rd, .bool h.ra, .int .i64 h.z, .int .i64 h.rc], .int .i64 a, .int .i64 b, .string s] w fun e w' => e = .returned (.bool true) ∧ Below w.heap.size w w' := by
  have q1 := eqHead h h
  rw [eqB_self] at q1
  have q2 := eqArr (Go.bits .and .i64 a 65535) (Go.bits .and .i64 b 65535) (Go.bits .and .i64 (a / 65536) 65535) (Go.bits .and .i64 (b / 65536) 65535)
  have z0 := putS_size h (Go.bits .and .i64 a 65535) (Go.bits .and .i64 b 65535) (Go.bits .and .i64 (a / 65536) 65535) (Go.bits .and .i64 (b / 65536) 65535)
  have ql : decide ((s.size : Int) < 12) = false := by simp; omega
  have qe : ((s.extract 0 12).toList == (s.extract 0 12).toList) = true := beq_self_eq_true _
  have HM := Lib.hid hm
  clear hm
  go_enter Try.func8, Try.ntmps8
  go_wp2_with fail
  refine (awake6 _).mono ?_
  rintro e w1 ⟨rfl, hb1⟩
  have x0 : w1.cell? ⟨w.heap.size, 0, none⟩ = some (.int .i64 h.id) := bcell hb1 (by go_simp)
  have x1 : w1.cell? ⟨w.heap.size, 1, none⟩ = some (.bool h.qr) := bcell hb1 (by go_simp)
  have x2 : w1.cell? ⟨w.heap.size, 2, none⟩ = some (.int .i64 h.op) := bcell hb1 (by go_simp)
  have x3 : w1.cell? ⟨w.heap.size, 3, none⟩ = some (.bool h.aa) := bcell hb1 (by go_simp)
  have x4 : w1.cell? ⟨w.heap.size, 4, none⟩ = some (.bool h.tc) := bcell hb1 (by go_simp)
  have x5 : w1.cell? ⟨w.heap.size, 5, none⟩ = some (.bool h.rd) := bcell hb1 (by go_simp)
  have x6 : w1.cell? ⟨w.heap.size, 6, none⟩ = some (.bool h.ra) := bcell hb1 (by go_simp)
  have x7 : w1.cell? ⟨w.heap.size, 7, none⟩ = some (.int .i64 h.z) := bcell hb1 (by go_simp)
  have x8 : w1.cell? ⟨w.heap.size, 8, none⟩ = some (.int .i64 h.rc) := bcell hb1 (by go_simp)
  have z1 : w.heap.size < w1.heap.size := by have := hb1.size; simp at this; omega
  go_wp2_with fail
  refine (putY h _ _ _ _ _ HM.out).mono ?_
  rintro e w2 ⟨rfl, hb2⟩
  have u0 : w2.cell? ⟨w.heap.size, 0, none⟩ = some (.int .i64 h.id) := bcell hb2 (by go_simp)
  have u1 : w2.cell? ⟨w.heap.size, 1, none⟩ = some (.bool h.qr) := bcell hb2 (by go_simp)
  have u2 : w2.cell? ⟨w.heap.size, 2, none⟩ = some (.int .i64 h.op) := bcell hb2 (by go_simp)
  have u3 : w2.cell? ⟨w.heap.size, 3, none⟩ = some (.bool h.aa) := bcell hb2 (by go_simp)
  have u4 : w2.cell? ⟨w.heap.size, 4, none⟩ = some (.bool h.tc) := bcell hb2 (by go_simp)
  have u5 : w2.cell? ⟨w.heap.size, 5, none⟩ = some (.bool h.rd) := bcell hb2 (by go_simp)
  have u6 : w2.cell? ⟨w.heap.size, 6, none⟩ = some (.bool h.ra) := bcell hb2 (by go_simp)
  have u7 : w2.cell? ⟨w.heap.size, 7, none⟩ = some (.int .i64 h.z) := bcell hb2 (by go_simp)
  have u8 : w2.cell? ⟨w.heap.size, 8, none⟩ = some (.int .i64 h.rc) := bcell hb2 (by go_simp)
  have v0 : w2.cell? ⟨w1.heap.size, 0, none⟩ = some (.int .i64 (Go.bits .and .i64 a 65535)) := bcell hb2 (by go_simp)
  have v1 : w2.cell? ⟨w1.heap.size, 1, none⟩ = some (.int .i64 (Go.bits .and .i64 b 65535)) := bcell hb2 (by go_simp)
  have v2 : w2.cell? ⟨w1.heap.size, 2, none⟩ = some (.int .i64 (Go.bits .and .i64 (a / 65536) 65535)) := bcell hb2 (by go_simp)
  have v3 : w2.cell? ⟨w1.heap.size, 3, none⟩ = some (.int .i64 (Go.bits .and .i64 (b / 65536) 65535)) := bcell hb2 (by go_simp)
  have z2 : w1.heap.size < w2.heap.size := by have := hb2.size; simp at this; omega
  have z3 : w.heap.size < w2.heap.size := by omega
  clear x0 x1 x2 x3 x4 x5 x6 x7 x8
  go_wp2_with (go_at_call 19; refine (numc _ _).mono ?_; rintro e w' ⟨rfl, rfl⟩)
  refine (getB h _ _ _ _ s _ hs HM.out).mono ?_
  rintro e w3 ⟨rfl, hb3⟩
  have x0 := bcell hb3 u0
  have x1 := bcell hb3 u1
  have x2 := bcell hb3 u2
  have x3 := bcell hb3 u3
  have x4 := bcell hb3 u4
  have x5 := bcell hb3 u5
  have x6 := bcell hb3 u6
  have x7 := bcell hb3 u7
  have x8 := bcell hb3 u8
  have y0 := bcell hb3 v0
  have y1 := bcell hb3 v1
  have y2 := bcell hb3 v2
  have y3 := bcell hb3 v3
  clear u0 u1 u2 u3 u4 u5 u6 u7 u8
  clear v0 v1 v2 v3
  have z4 : w1.heap.size < w3.heap.size := by have := hb3.size; omega
  have z5 : w.heap.size < w3.heap.size := by omega
  have z6 : w1.heap.size < w3.heap.size + 1 := by omega
  have z7 : w.heap.size < w3.heap.size + 1 := by omega
  go_wp2_with (go_at_call 19; refine (numc _ _).mono ?_; rintro e w' ⟨rfl, rfl⟩)
  refine (getY s _ hs hl).mono ?_
  rintro e w4 ⟨rfl, hb4⟩
  go_wp2_with (go_at_call 19; refine (numc _ _).mono ?_; rintro e w' ⟨rfl, rfl⟩)
  refine (putG s _ hl).mono ?_
  rintro e w5 ⟨rfl, hb5⟩
  go_wp2_with (go_at_call 19; refine (numc _ _).mono ?_; rintro e w' ⟨rfl, rfl⟩)
  go_ret
  exact ⟨rfl, (below_next (below_alloc (below_alloc (below_next (below_alloc (below_alloc (below_next (below_next (below_alloc (below_next (below_alloc (Below.refl _ _) _) hb1) _) hb2) hb3) _) _) hb4) _) _) hb5)⟩
set_option maxHeartbeats 4000000 in
theorem back_ys (h : Head) (a b : Int) (s : ByteArray) (w : World) (hs : s.size ≤ 140737488351232) (hm : mayB h (Go.bits .and .i64 a 65535) (Go.bits .and .i64 b 65535) (Go.bits .and .i64 (a / 65536) 65535) (Go.bits .and .i64 (b / 65536) 65535) = true) (hl : s.size < 12) :
    Calls Try.prog 8 #[.agg #[.int .i64 h.id, .bool h.qr, .int .i64 h.op, .bool h.aa, .bool h.tc, .bool h.rd, .bool h.ra, .int .i64 h.z, .int .i64 h.rc], .int .i64 a, .int .i64 b, .string s] w fun e w' => e = .returned (.bool true) ∧ Below w.heap.size w w' := by
  have q1 := eqHead h h
  rw [eqB_self] at q1
  have q2 := eqArr (Go.bits .and .i64 a 65535) (Go.bits .and .i64 b 65535) (Go.bits .and .i64 (a / 65536) 65535) (Go.bits .and .i64 (b / 65536) 65535)
  have z0 := putS_size h (Go.bits .and .i64 a 65535) (Go.bits .and .i64 b 65535) (Go.bits .and .i64 (a / 65536) 65535) (Go.bits .and .i64 (b / 65536) 65535)
  have ql : decide ((s.size : Int) < 12) = true := by simp; omega
  have qe : ((s.extract 0 12).toList == (s.extract 0 12).toList) = true := beq_self_eq_true _
  have HM := Lib.hid hm
  clear hm
  go_enter Try.func8, Try.ntmps8
  go_wp2_with fail
  refine (awake6 _).mono ?_
  rintro e w1 ⟨rfl, hb1⟩
  have x0 : w1.cell? ⟨w.heap.size, 0, none⟩ = some (.int .i64 h.id) := bcell hb1 (by go_simp)
  have x1 : w1.cell? ⟨w.heap.size, 1, none⟩ = some (.bool h.qr) := bcell hb1 (by go_simp)
  have x2 : w1.cell? ⟨w.heap.size, 2, none⟩ = some (.int .i64 h.op) := bcell hb1 (by go_simp)
  have x3 : w1.cell? ⟨w.heap.size, 3, none⟩ = some (.bool h.aa) := bcell hb1 (by go_simp)
  have x4 : w1.cell? ⟨w.heap.size, 4, none⟩ = some (.bool h.tc) := bcell hb1 (by go_simp)
  have x5 : w1.cell? ⟨w.heap.size, 5, none⟩ = some (.bool h.rd) := bcell hb1 (by go_simp)
  have x6 : w1.cell? ⟨w.heap.size, 6, none⟩ = some (.bool h.ra) := bcell hb1 (by go_simp)
  have x7 : w1.cell? ⟨w.heap.size, 7, none⟩ = some (.int .i64 h.z) := bcell hb1 (by go_simp)
  have x8 : w1.cell? ⟨w.heap.size, 8, none⟩ = some (.int .i64 h.rc) := bcell hb1 (by go_simp)
  have z1 : w.heap.size < w1.heap.size := by have := hb1.size; simp at this; omega
  go_wp2_with fail
  refine (putY h _ _ _ _ _ HM.out).mono ?_
  rintro e w2 ⟨rfl, hb2⟩
  have u0 : w2.cell? ⟨w.heap.size, 0, none⟩ = some (.int .i64 h.id) := bcell hb2 (by go_simp)
  have u1 : w2.cell? ⟨w.heap.size, 1, none⟩ = some (.bool h.qr) := bcell hb2 (by go_simp)
  have u2 : w2.cell? ⟨w.heap.size, 2, none⟩ = some (.int .i64 h.op) := bcell hb2 (by go_simp)
  have u3 : w2.cell? ⟨w.heap.size, 3, none⟩ = some (.bool h.aa) := bcell hb2 (by go_simp)
  have u4 : w2.cell? ⟨w.heap.size, 4, none⟩ = some (.bool h.tc) := bcell hb2 (by go_simp)
  have u5 : w2.cell? ⟨w.heap.size, 5, none⟩ = some (.bool h.rd) := bcell hb2 (by go_simp)
  have u6 : w2.cell? ⟨w.heap.size, 6, none⟩ = some (.bool h.ra) := bcell hb2 (by go_simp)
  have u7 : w2.cell? ⟨w.heap.size, 7, none⟩ = some (.int .i64 h.z) := bcell hb2 (by go_simp)
  have u8 : w2.cell? ⟨w.heap.size, 8, none⟩ = some (.int .i64 h.rc) := bcell hb2 (by go_simp)
  have v0 : w2.cell? ⟨w1.heap.size, 0, none⟩ = some (.int .i64 (Go.bits .and .i64 a 65535)) := bcell hb2 (by go_simp)
  have v1 : w2.cell? ⟨w1.heap.size, 1, none⟩ = some (.int .i64 (Go.bits .and .i64 b 65535)) := bcell hb2 (by go_simp)
  have v2 : w2.cell? ⟨w1.heap.size, 2, none⟩ = some (.int .i64 (Go.bits .and .i64 (a / 65536) 65535)) := bcell hb2 (by go_simp)
  have v3 : w2.cell? ⟨w1.heap.size, 3, none⟩ = some (.int .i64 (Go.bits .and .i64 (b / 65536) 65535)) := bcell hb2 (by go_simp)
  have z2 : w1.heap.size < w2.heap.size := by have := hb2.size; simp at this; omega
  have z3 : w.heap.size < w2.heap.size := by omega
  clear x0 x1 x2 x3 x4 x5 x6 x7 x8
  go_wp2_with (go_at_call 19; refine (numc _ _).mono ?_; rintro e w' ⟨rfl, rfl⟩)
  refine (getB h _ _ _ _ s _ hs HM.out).mono ?_
  rintro e w3 ⟨rfl, hb3⟩
  have x0 := bcell hb3 u0
  have x1 := bcell hb3 u1
  have x2 := bcell hb3 u2
  have x3 := bcell hb3 u3
  have x4 := bcell hb3 u4
  have x5 := bcell hb3 u5
  have x6 := bcell hb3 u6
  have x7 := bcell hb3 u7
  have x8 := bcell hb3 u8
  have y0 := bcell hb3 v0
  have y1 := bcell hb3 v1
  have y2 := bcell hb3 v2
  have y3 := bcell hb3 v3
  clear u0 u1 u2 u3 u4 u5 u6 u7 u8
  clear v0 v1 v2 v3
  have z4 : w1.heap.size < w3.heap.size := by have := hb3.size; omega
  have z5 : w.heap.size < w3.heap.size := by omega
  have z6 : w1.heap.size < w3.heap.size + 1 := by omega
  have z7 : w.heap.size < w3.heap.size + 1 := by omega
  go_wp2_with (go_at_call 19; refine (numc _ _).mono ?_; rintro e w' ⟨rfl, rfl⟩)
  refine (getN s _ hl).mono ?_
  rintro e w4 ⟨rfl, hb4⟩
  go_wp2_with (go_at_call 19; refine (numc _ _).mono ?_; rintro e w' ⟨rfl, rfl⟩)
  go_ret
  exact ⟨rfl, (below_alloc (below_alloc (below_next (below_alloc (below_alloc (below_next (below_next (below_alloc (below_next (below_alloc (Below.refl _ _) _) hb1) _) hb2) hb3) _) _) hb4) _) _)⟩
set_option maxHeartbeats 4000000 in
theorem back_nl (h : Head) (a b : Int) (s : ByteArray) (w : World) (hs : s.size ≤ 140737488351232) (hm : mayB h (Go.bits .and .i64 a 65535) (Go.bits .and .i64 b 65535) (Go.bits .and .i64 (a / 65536) 65535) (Go.bits .and .i64 (b / 65536) 65535) = false) (hl : 12 ≤ s.size) :
    Calls Try.prog 8 #[.agg #[.int .i64 h.id, .bool h.qr, .int .i64 h.op, .bool h.aa, .bool h.tc, .bool h.rd, .bool h.ra, .int .i64 h.z, .int .i64 h.rc], .int .i64 a, .int .i64 b, .string s] w fun e w' => e = .returned (.bool true) ∧ Below w.heap.size w w' := by
  have q1 := eqHead h h
  rw [eqB_self] at q1
  have q2 := eqArr (Go.bits .and .i64 a 65535) (Go.bits .and .i64 b 65535) (Go.bits .and .i64 (a / 65536) 65535) (Go.bits .and .i64 (b / 65536) 65535)
  have z0 := putS_size h (Go.bits .and .i64 a 65535) (Go.bits .and .i64 b 65535) (Go.bits .and .i64 (a / 65536) 65535) (Go.bits .and .i64 (b / 65536) 65535)
  have ql : decide ((s.size : Int) < 12) = false := by simp; omega
  have qe : ((s.extract 0 12).toList == (s.extract 0 12).toList) = true := beq_self_eq_true _
  have HM := Lib.hid hm
  clear hm
  go_enter Try.func8, Try.ntmps8
  go_wp2_with fail
  refine (awake6 _).mono ?_
  rintro e w1 ⟨rfl, hb1⟩
  have x0 : w1.cell? ⟨w.heap.size, 0, none⟩ = some (.int .i64 h.id) := bcell hb1 (by go_simp)
  have x1 : w1.cell? ⟨w.heap.size, 1, none⟩ = some (.bool h.qr) := bcell hb1 (by go_simp)
  have x2 : w1.cell? ⟨w.heap.size, 2, none⟩ = some (.int .i64 h.op) := bcell hb1 (by go_simp)
  have x3 : w1.cell? ⟨w.heap.size, 3, none⟩ = some (.bool h.aa) := bcell hb1 (by go_simp)
  have x4 : w1.cell? ⟨w.heap.size, 4, none⟩ = some (.bool h.tc) := bcell hb1 (by go_simp)
  have x5 : w1.cell? ⟨w.heap.size, 5, none⟩ = some (.bool h.rd) := bcell hb1 (by go_simp)
  have x6 : w1.cell? ⟨w.heap.size, 6, none⟩ = some (.bool h.ra) := bcell hb1 (by go_simp)
  have x7 : w1.cell? ⟨w.heap.size, 7, none⟩ = some (.int .i64 h.z) := bcell hb1 (by go_simp)
  have x8 : w1.cell? ⟨w.heap.size, 8, none⟩ = some (.int .i64 h.rc) := bcell hb1 (by go_simp)
  have z1 : w.heap.size < w1.heap.size := by have := hb1.size; simp at this; omega
  go_wp2_with fail
  refine (putN h _ _ _ _ _ HM.out).mono ?_
  rintro e w2 ⟨rfl, hb2⟩
  have u0 : w2.cell? ⟨w.heap.size, 0, none⟩ = some (.int .i64 h.id) := bcell hb2 (by go_simp)
  have u1 : w2.cell? ⟨w.heap.size, 1, none⟩ = some (.bool h.qr) := bcell hb2 (by go_simp)
  have u2 : w2.cell? ⟨w.heap.size, 2, none⟩ = some (.int .i64 h.op) := bcell hb2 (by go_simp)
  have u3 : w2.cell? ⟨w.heap.size, 3, none⟩ = some (.bool h.aa) := bcell hb2 (by go_simp)
  have u4 : w2.cell? ⟨w.heap.size, 4, none⟩ = some (.bool h.tc) := bcell hb2 (by go_simp)
  have u5 : w2.cell? ⟨w.heap.size, 5, none⟩ = some (.bool h.rd) := bcell hb2 (by go_simp)
  have u6 : w2.cell? ⟨w.heap.size, 6, none⟩ = some (.bool h.ra) := bcell hb2 (by go_simp)
  have u7 : w2.cell? ⟨w.heap.size, 7, none⟩ = some (.int .i64 h.z) := bcell hb2 (by go_simp)
  have u8 : w2.cell? ⟨w.heap.size, 8, none⟩ = some (.int .i64 h.rc) := bcell hb2 (by go_simp)
  have v0 : w2.cell? ⟨w1.heap.size, 0, none⟩ = some (.int .i64 (Go.bits .and .i64 a 65535)) := bcell hb2 (by go_simp)
  have v1 : w2.cell? ⟨w1.heap.size, 1, none⟩ = some (.int .i64 (Go.bits .and .i64 b 65535)) := bcell hb2 (by go_simp)
  have v2 : w2.cell? ⟨w1.heap.size, 2, none⟩ = some (.int .i64 (Go.bits .and .i64 (a / 65536) 65535)) := bcell hb2 (by go_simp)
  have v3 : w2.cell? ⟨w1.heap.size, 3, none⟩ = some (.int .i64 (Go.bits .and .i64 (b / 65536) 65535)) := bcell hb2 (by go_simp)
  have z2 : w1.heap.size < w2.heap.size := by have := hb2.size; simp at this; omega
  have z3 : w.heap.size < w2.heap.size := by omega
  clear x0 x1 x2 x3 x4 x5 x6 x7 x8
  go_wp2_with (go_at_call 19; refine (numc _ _).mono ?_; rintro e w' ⟨rfl, rfl⟩)
  refine (getY s _ hs hl).mono ?_
  rintro e w4 ⟨rfl, hb4⟩
  go_wp2_with (go_at_call 19; refine (numc _ _).mono ?_; rintro e w' ⟨rfl, rfl⟩)
  refine (putG s _ hl).mono ?_
  rintro e w5 ⟨rfl, hb5⟩
  go_wp2_with (go_at_call 19; refine (numc _ _).mono ?_; rintro e w' ⟨rfl, rfl⟩)
  go_ret
  exact ⟨rfl, (below_next (below_alloc (below_alloc (below_next (below_next (below_alloc (below_next (below_alloc (Below.refl _ _) _) hb1) _) hb2) hb4) _) _) hb5)⟩
set_option maxHeartbeats 4000000 in
theorem back_ns (h : Head) (a b : Int) (s : ByteArray) (w : World) (hs : s.size ≤ 140737488351232) (hm : mayB h (Go.bits .and .i64 a 65535) (Go.bits .and .i64 b 65535) (Go.bits .and .i64 (a / 65536) 65535) (Go.bits .and .i64 (b / 65536) 65535) = false) (hl : s.size < 12) :
    Calls Try.prog 8 #[.agg #[.int .i64 h.id, .bool h.qr, .int .i64 h.op, .bool h.aa, .bool h.tc, .bool h.rd, .bool h.ra, .int .i64 h.z, .int .i64 h.rc], .int .i64 a, .int .i64 b, .string s] w fun e w' => e = .returned (.bool true) ∧ Below w.heap.size w w' := by
  have q1 := eqHead h h
  rw [eqB_self] at q1
  have q2 := eqArr (Go.bits .and .i64 a 65535) (Go.bits .and .i64 b 65535) (Go.bits .and .i64 (a / 65536) 65535) (Go.bits .and .i64 (b / 65536) 65535)
  have z0 := putS_size h (Go.bits .and .i64 a 65535) (Go.bits .and .i64 b 65535) (Go.bits .and .i64 (a / 65536) 65535) (Go.bits .and .i64 (b / 65536) 65535)
  have ql : decide ((s.size : Int) < 12) = true := by simp; omega
  have qe : ((s.extract 0 12).toList == (s.extract 0 12).toList) = true := beq_self_eq_true _
  have HM := Lib.hid hm
  clear hm
  go_enter Try.func8, Try.ntmps8
  go_wp2_with fail
  refine (awake6 _).mono ?_
  rintro e w1 ⟨rfl, hb1⟩
  have x0 : w1.cell? ⟨w.heap.size, 0, none⟩ = some (.int .i64 h.id) := bcell hb1 (by go_simp)
  have x1 : w1.cell? ⟨w.heap.size, 1, none⟩ = some (.bool h.qr) := bcell hb1 (by go_simp)
  have x2 : w1.cell? ⟨w.heap.size, 2, none⟩ = some (.int .i64 h.op) := bcell hb1 (by go_simp)
  have x3 : w1.cell? ⟨w.heap.size, 3, none⟩ = some (.bool h.aa) := bcell hb1 (by go_simp)
  have x4 : w1.cell? ⟨w.heap.size, 4, none⟩ = some (.bool h.tc) := bcell hb1 (by go_simp)
  have x5 : w1.cell? ⟨w.heap.size, 5, none⟩ = some (.bool h.rd) := bcell hb1 (by go_simp)
  have x6 : w1.cell? ⟨w.heap.size, 6, none⟩ = some (.bool h.ra) := bcell hb1 (by go_simp)
  have x7 : w1.cell? ⟨w.heap.size, 7, none⟩ = some (.int .i64 h.z) := bcell hb1 (by go_simp)
  have x8 : w1.cell? ⟨w.heap.size, 8, none⟩ = some (.int .i64 h.rc) := bcell hb1 (by go_simp)
  have z1 : w.heap.size < w1.heap.size := by have := hb1.size; simp at this; omega
  go_wp2_with fail
  refine (putN h _ _ _ _ _ HM.out).mono ?_
  rintro e w2 ⟨rfl, hb2⟩
  have u0 : w2.cell? ⟨w.heap.size, 0, none⟩ = some (.int .i64 h.id) := bcell hb2 (by go_simp)
  have u1 : w2.cell? ⟨w.heap.size, 1, none⟩ = some (.bool h.qr) := bcell hb2 (by go_simp)
  have u2 : w2.cell? ⟨w.heap.size, 2, none⟩ = some (.int .i64 h.op) := bcell hb2 (by go_simp)
  have u3 : w2.cell? ⟨w.heap.size, 3, none⟩ = some (.bool h.aa) := bcell hb2 (by go_simp)
  have u4 : w2.cell? ⟨w.heap.size, 4, none⟩ = some (.bool h.tc) := bcell hb2 (by go_simp)
  have u5 : w2.cell? ⟨w.heap.size, 5, none⟩ = some (.bool h.rd) := bcell hb2 (by go_simp)
  have u6 : w2.cell? ⟨w.heap.size, 6, none⟩ = some (.bool h.ra) := bcell hb2 (by go_simp)
  have u7 : w2.cell? ⟨w.heap.size, 7, none⟩ = some (.int .i64 h.z) := bcell hb2 (by go_simp)
  have u8 : w2.cell? ⟨w.heap.size, 8, none⟩ = some (.int .i64 h.rc) := bcell hb2 (by go_simp)
  have v0 : w2.cell? ⟨w1.heap.size, 0, none⟩ = some (.int .i64 (Go.bits .and .i64 a 65535)) := bcell hb2 (by go_simp)
  have v1 : w2.cell? ⟨w1.heap.size, 1, none⟩ = some (.int .i64 (Go.bits .and .i64 b 65535)) := bcell hb2 (by go_simp)
  have v2 : w2.cell? ⟨w1.heap.size, 2, none⟩ = some (.int .i64 (Go.bits .and .i64 (a / 65536) 65535)) := bcell hb2 (by go_simp)
  have v3 : w2.cell? ⟨w1.heap.size, 3, none⟩ = some (.int .i64 (Go.bits .and .i64 (b / 65536) 65535)) := bcell hb2 (by go_simp)
  have z2 : w1.heap.size < w2.heap.size := by have := hb2.size; simp at this; omega
  have z3 : w.heap.size < w2.heap.size := by omega
  clear x0 x1 x2 x3 x4 x5 x6 x7 x8
  go_wp2_with (go_at_call 19; refine (numc _ _).mono ?_; rintro e w' ⟨rfl, rfl⟩)
  refine (getN s _ hl).mono ?_
  rintro e w4 ⟨rfl, hb4⟩
  go_wp2_with (go_at_call 19; refine (numc _ _).mono ?_; rintro e w' ⟨rfl, rfl⟩)
  go_ret
  exact ⟨rfl, (below_alloc (below_alloc (below_next (below_next (below_alloc (below_next (below_alloc (Below.refl _ _) _) hb1) _) hb2) hb4) _) _)⟩
theorem back_walk (h : Head) (a b : Int) (s : ByteArray) (w : World) (_ : (Lit.int .i64 a).wf = true) (_ : (Lit.int .i64 b).wf = true) (hs : s.size ≤ 140737488351232) :
    Calls Try.prog 8 #[.agg #[.int .i64 h.id, .bool h.qr, .int .i64 h.op, .bool h.aa, .bool h.tc, .bool h.rd, .bool h.ra, .int .i64 h.z, .int .i64 h.rc], .int .i64 a, .int .i64 b, .string s] w fun e w' => e = .returned (.bool true) ∧ Below w.heap.size w w' := by
  cases hm : mayB h (Go.bits .and .i64 a 65535) (Go.bits .and .i64 b 65535) (Go.bits .and .i64 (a / 65536) 65535) (Go.bits .and .i64 (b / 65536) 65535)
  · by_cases hl : 12 ≤ s.size
    · exact back_nl h a b s w hs hm hl
    · exact back_ns h a b s w hs hm (by omega)
  · by_cases hl : 12 ≤ s.size
    · exact back_yl h a b s w hs hm hl
    · exact back_ys h a b s w hs hm (by omega)
end Go.Proofs.Ytccnckppkkhoeaa.Hd
