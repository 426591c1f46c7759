/- The contract of rdata.Soa: what the call answers, for any parts. -/
import Derived.Test.YtndcjleadggibaaSoa
namespace Go.Proofs.Ytndcjleadggibaa.Rd
open Go.RowKit Go.PlainAid Go.Proofs.Ytndcjleadggibaa.Base Go.Proofs.Ytndcjleadggibaa.Oct Go.Proofs.Ytndcjleadggibaa.Sl Go.Proofs.Ytndcjleadggibaa.Nm
set_option linter.unusedVariables false

theorem wideB_iff {x : Int} : wideB x = true ↔ 0 ≤ x ∧ x ≤ 4294967295 := by unfold wideB; simp
theorem idx0 (a b c d e : Option Addr) (w : World) : (Instr.index 100 (.agg #[.pointer a, .pointer b, .pointer c, .pointer d, .pointer e]) (.int .i64 0)).run Try.prog w = .ok (.pointer a) w := by
  simp [Instr.index, run_underlying Try.underlying100, asIntOf, go_sem]
theorem idx1 (a b c d e : Option Addr) (w : World) : (Instr.index 100 (.agg #[.pointer a, .pointer b, .pointer c, .pointer d, .pointer e]) (.int .i64 1)).run Try.prog w = .ok (.pointer b) w := by
  simp [Instr.index, run_underlying Try.underlying100, asIntOf, go_sem]
theorem idx2 (a b c d e : Option Addr) (w : World) : (Instr.index 100 (.agg #[.pointer a, .pointer b, .pointer c, .pointer d, .pointer e]) (.int .i64 2)).run Try.prog w = .ok (.pointer c) w := by
  simp [Instr.index, run_underlying Try.underlying100, asIntOf, go_sem]
theorem idx3 (a b c d e : Option Addr) (w : World) : (Instr.index 100 (.agg #[.pointer a, .pointer b, .pointer c, .pointer d, .pointer e]) (.int .i64 3)).run Try.prog w = .ok (.pointer d) w := by
  simp [Instr.index, run_underlying Try.underlying100, asIntOf, go_sem]
theorem idx4 (a b c d e : Option Addr) (w : World) : (Instr.index 100 (.agg #[.pointer a, .pointer b, .pointer c, .pointer d, .pointer e]) (.int .i64 4)).run Try.prog w = .ok (.pointer e) w := by
  simp [Instr.index, run_underlying Try.underlying100, asIntOf, go_sem]

set_option maxRecDepth 100000 in
set_option maxHeartbeats 2000000 in
theorem soaYes (x : Soa) (w : World) (hn : nameB x.host = true) (hm : nameB x.mail = true) (g0 : wideB x.s0 = true) (g1 : wideB x.s1 = true) (g2 : wideB x.s2 = true) (g3 : wideB x.s3 = true) (g4 : wideB x.s4 = true) : Calls Try.prog 35 #[x.val] w fun e w' => e = ans x.S x.E ∧ Below w.heap.size w w' := by
  have e1 : x.ok = true := by unfold Soa.ok; rw [hn, hm, g0, g1, g2, g3, g4]; rfl
  have e2 : x.S = x.out := by unfold Soa.S; rw [e1]; rfl
  have e3 : x.E = 0 := by unfold Soa.E; rw [e1]; rfl
  unfold ans
  rw [e2, e3]
  have a0 : decide (x.s0 < 0) = false := decide_eq_false (by have := wideB_iff.1 g0; omega)
  have b0 : decide (4294967295 < x.s0) = false := decide_eq_false (by have := wideB_iff.1 g0; omega)
  have a1 : decide (x.s1 < 0) = false := decide_eq_false (by have := wideB_iff.1 g1; omega)
  have b1 : decide (4294967295 < x.s1) = false := decide_eq_false (by have := wideB_iff.1 g1; omega)
  have a2 : decide (x.s2 < 0) = false := decide_eq_false (by have := wideB_iff.1 g2; omega)
  have b2 : decide (4294967295 < x.s2) = false := decide_eq_false (by have := wideB_iff.1 g2; omega)
  have a3 : decide (x.s3 < 0) = false := decide_eq_false (by have := wideB_iff.1 g3; omega)
  have b3 : decide (4294967295 < x.s3) = false := decide_eq_false (by have := wideB_iff.1 g3; omega)
  have a4 : decide (x.s4 < 0) = false := decide_eq_false (by have := wideB_iff.1 g4; omega)
  have b4 : decide (4294967295 < x.s4) = false := decide_eq_false (by have := wideB_iff.1 g4; omega)
  have hz := nameB_size hn
  have hy := nameB_size hm
  have l0 : ¬ 9223372036854775807 < (x.host).size + x.mail.size := by (try simp only [ByteArray.size_append, p32_size]); omega
  have l1 : ¬ 9223372036854775807 < (x.host ++ x.mail).size + (p32 x.s0).size := by (try simp only [ByteArray.size_append, p32_size]); omega
  have l2 : ¬ 9223372036854775807 < (x.host ++ x.mail ++ (p32 x.s0)).size + (p32 x.s1).size := by (try simp only [ByteArray.size_append, p32_size]); omega
  have l3 : ¬ 9223372036854775807 < (x.host ++ x.mail ++ (p32 x.s0) ++ (p32 x.s1)).size + (p32 x.s2).size := by (try simp only [ByteArray.size_append, p32_size]); omega
  have l4 : ¬ 9223372036854775807 < (x.host ++ x.mail ++ (p32 x.s0) ++ (p32 x.s1) ++ (p32 x.s2)).size + (p32 x.s3).size := by (try simp only [ByteArray.size_append, p32_size]); omega
  have l5 : ¬ 9223372036854775807 < (x.host ++ x.mail ++ (p32 x.s0) ++ (p32 x.s1) ++ (p32 x.s2) ++ (p32 x.s3)).size + (p32 x.s4).size := by (try simp only [ByteArray.size_append, p32_size]); omega
  clear g0 g1 g2 g3 g4 e1 e2 e3 hz hy
  unfold Soa.val
  go_enter Try.func35, Try.ntmps35
  go_wp2_with fail
  refine (may x.host _).mono ?_
  rintro e w1 ⟨rfl, hb1⟩
  rw [hn]
  have c0 : w1.cell? ⟨w.heap.size, 0, none⟩ = some (.string x.host) := bcell hb1 (by go_simp)
  have c1 : w1.cell? ⟨w.heap.size, 1, none⟩ = some (.string x.mail) := bcell hb1 (by go_simp)
  have c2 : w1.cell? ⟨w.heap.size, 2, none⟩ = some (.int .i64 x.s0) := bcell hb1 (by go_simp)
  have c3 : w1.cell? ⟨w.heap.size, 3, none⟩ = some (.int .i64 x.s1) := bcell hb1 (by go_simp)
  have c4 : w1.cell? ⟨w.heap.size, 4, none⟩ = some (.int .i64 x.s2) := bcell hb1 (by go_simp)
  have c5 : w1.cell? ⟨w.heap.size, 5, none⟩ = some (.int .i64 x.s3) := bcell hb1 (by go_simp)
  have c6 : w1.cell? ⟨w.heap.size, 6, none⟩ = some (.int .i64 x.s4) := bcell hb1 (by go_simp)
  have B1 := below_next (below_alloc (Below.refl w.heap.size w) _) hb1
  go_wp2_with fail
  refine (may x.mail _).mono ?_
  rintro e w2 ⟨rfl, hb2⟩
  rw [hm]
  replace c0 := bcell hb2 c0
  replace c1 := bcell hb2 c1
  replace c2 := bcell hb2 c2
  replace c3 := bcell hb2 c3
  replace c4 := bcell hb2 c4
  replace c5 := bcell hb2 c5
  replace c6 := bcell hb2 c6
  have B2 := below_next B1 hb2
  go_wp2_with fail
  refine (words w.heap.size _).mono ?_
  rintro e w3 ⟨rfl, hb3⟩
  replace c0 := bcell hb3 c0
  replace c1 := bcell hb3 c1
  replace c2 := bcell hb3 c2
  replace c3 := bcell hb3 c3
  replace c4 := bcell hb3 c4
  replace c5 := bcell hb3 c5
  replace c6 := bcell hb3 c6
  have B3 := below_next B2 hb3
  simp only [plc]
  have i0 := idx0
  have i1 := idx1
  have i2 := idx2
  have i3 := idx3
  have i4 := idx4
  go_wp2
  refine wp_loop_rounds 6 ?_
  rw [rounds_succ]
  go_wp2_with fail
  refine (put32 x.s0 _).mono ?_
  rintro e w4 ⟨rfl, hb4⟩
  replace c2 := bcell hb4 c2
  replace c3 := bcell hb4 c3
  replace c4 := bcell hb4 c4
  replace c5 := bcell hb4 c5
  replace c6 := bcell hb4 c6
  have B4 := below_next B3 hb4
  go_wp2
  rw [rounds_succ]
  go_wp2_with fail
  refine (put32 x.s1 _).mono ?_
  rintro e w5 ⟨rfl, hb5⟩
  replace c2 := bcell hb5 c2
  replace c3 := bcell hb5 c3
  replace c4 := bcell hb5 c4
  replace c5 := bcell hb5 c5
  replace c6 := bcell hb5 c6
  have B5 := below_next B4 hb5
  go_wp2
  rw [rounds_succ]
  go_wp2_with fail
  refine (put32 x.s2 _).mono ?_
  rintro e w6 ⟨rfl, hb6⟩
  replace c2 := bcell hb6 c2
  replace c3 := bcell hb6 c3
  replace c4 := bcell hb6 c4
  replace c5 := bcell hb6 c5
  replace c6 := bcell hb6 c6
  have B6 := below_next B5 hb6
  go_wp2
  rw [rounds_succ]
  go_wp2_with fail
  refine (put32 x.s3 _).mono ?_
  rintro e w7 ⟨rfl, hb7⟩
  replace c2 := bcell hb7 c2
  replace c3 := bcell hb7 c3
  replace c4 := bcell hb7 c4
  replace c5 := bcell hb7 c5
  replace c6 := bcell hb7 c6
  have B7 := below_next B6 hb7
  go_wp2
  rw [rounds_succ]
  go_wp2_with fail
  refine (put32 x.s4 _).mono ?_
  rintro e w8 ⟨rfl, hb8⟩
  replace c2 := bcell hb8 c2
  replace c3 := bcell hb8 c3
  replace c4 := bcell hb8 c4
  replace c5 := bcell hb8 c5
  replace c6 := bcell hb8 c6
  have B8 := below_next B7 hb8
  go_wp2
  rw [rounds_succ]
  go_wp2
  go_ret2
  exact ⟨rfl, B8⟩

set_option maxRecDepth 100000 in
set_option maxHeartbeats 2000000 in
theorem soaLo0 (x : Soa) (w : World) (hn : nameB x.host = true) (hm : nameB x.mail = true)  (gb : wideB x.s0 = false) (hx : x.s0 < 0) : Calls Try.prog 35 #[x.val] w fun e w' => e = ans x.S x.E ∧ Below w.heap.size w w' := by
  have e1 : x.ok = false := by unfold Soa.ok; rw [hn, hm, gb]; simp
  have e2 : x.S = emp := by unfold Soa.S; rw [e1]; rfl
  have e3 : x.E = 400 := by unfold Soa.E; rw [e1]; rfl
  unfold ans
  rw [e2, e3]
  have a0 : decide (x.s0 < 0) = true := decide_eq_true hx
  have hz := nameB_size hn
  have hy := nameB_size hm
  have l0 : ¬ 9223372036854775807 < (x.host).size + x.mail.size := by (try simp only [ByteArray.size_append, p32_size]); omega
  clear hx gb e1 e2 e3 hz hy
  unfold Soa.val
  go_enter Try.func35, Try.ntmps35
  go_wp2_with fail
  refine (may x.host _).mono ?_
  rintro e w1 ⟨rfl, hb1⟩
  rw [hn]
  have c0 : w1.cell? ⟨w.heap.size, 0, none⟩ = some (.string x.host) := bcell hb1 (by go_simp)
  have c1 : w1.cell? ⟨w.heap.size, 1, none⟩ = some (.string x.mail) := bcell hb1 (by go_simp)
  have c2 : w1.cell? ⟨w.heap.size, 2, none⟩ = some (.int .i64 x.s0) := bcell hb1 (by go_simp)
  have c3 : w1.cell? ⟨w.heap.size, 3, none⟩ = some (.int .i64 x.s1) := bcell hb1 (by go_simp)
  have c4 : w1.cell? ⟨w.heap.size, 4, none⟩ = some (.int .i64 x.s2) := bcell hb1 (by go_simp)
  have c5 : w1.cell? ⟨w.heap.size, 5, none⟩ = some (.int .i64 x.s3) := bcell hb1 (by go_simp)
  have c6 : w1.cell? ⟨w.heap.size, 6, none⟩ = some (.int .i64 x.s4) := bcell hb1 (by go_simp)
  have B1 := below_next (below_alloc (Below.refl w.heap.size w) _) hb1
  go_wp2_with fail
  refine (may x.mail _).mono ?_
  rintro e w2 ⟨rfl, hb2⟩
  rw [hm]
  replace c0 := bcell hb2 c0
  replace c1 := bcell hb2 c1
  replace c2 := bcell hb2 c2
  replace c3 := bcell hb2 c3
  replace c4 := bcell hb2 c4
  replace c5 := bcell hb2 c5
  replace c6 := bcell hb2 c6
  have B2 := below_next B1 hb2
  go_wp2_with fail
  refine (words w.heap.size _).mono ?_
  rintro e w3 ⟨rfl, hb3⟩
  replace c0 := bcell hb3 c0
  replace c1 := bcell hb3 c1
  replace c2 := bcell hb3 c2
  replace c3 := bcell hb3 c3
  replace c4 := bcell hb3 c4
  replace c5 := bcell hb3 c5
  replace c6 := bcell hb3 c6
  have B3 := below_next B2 hb3
  simp only [plc]
  have i0 := idx0
  have i1 := idx1
  have i2 := idx2
  have i3 := idx3
  have i4 := idx4
  go_wp2
  refine wp_loop_rounds 6 ?_
  rw [rounds_succ]
  go_wp2
  go_ret2
  exact ⟨rfl, B3⟩

set_option maxRecDepth 100000 in
set_option maxHeartbeats 2000000 in
theorem soaHi0 (x : Soa) (w : World) (hn : nameB x.host = true) (hm : nameB x.mail = true)  (gb : wideB x.s0 = false) (hx : 4294967295 < x.s0) : Calls Try.prog 35 #[x.val] w fun e w' => e = ans x.S x.E ∧ Below w.heap.size w w' := by
  have e1 : x.ok = false := by unfold Soa.ok; rw [hn, hm, gb]; simp
  have e2 : x.S = emp := by unfold Soa.S; rw [e1]; rfl
  have e3 : x.E = 400 := by unfold Soa.E; rw [e1]; rfl
  unfold ans
  rw [e2, e3]
  have a0 : decide (x.s0 < 0) = false := decide_eq_false (by omega)
  have b0 : decide (4294967295 < x.s0) = true := decide_eq_true hx
  have hz := nameB_size hn
  have hy := nameB_size hm
  have l0 : ¬ 9223372036854775807 < (x.host).size + x.mail.size := by (try simp only [ByteArray.size_append, p32_size]); omega
  clear hx gb e1 e2 e3 hz hy
  unfold Soa.val
  go_enter Try.func35, Try.ntmps35
  go_wp2_with fail
  refine (may x.host _).mono ?_
  rintro e w1 ⟨rfl, hb1⟩
  rw [hn]
  have c0 : w1.cell? ⟨w.heap.size, 0, none⟩ = some (.string x.host) := bcell hb1 (by go_simp)
  have c1 : w1.cell? ⟨w.heap.size, 1, none⟩ = some (.string x.mail) := bcell hb1 (by go_simp)
  have c2 : w1.cell? ⟨w.heap.size, 2, none⟩ = some (.int .i64 x.s0) := bcell hb1 (by go_simp)
  have c3 : w1.cell? ⟨w.heap.size, 3, none⟩ = some (.int .i64 x.s1) := bcell hb1 (by go_simp)
  have c4 : w1.cell? ⟨w.heap.size, 4, none⟩ = some (.int .i64 x.s2) := bcell hb1 (by go_simp)
  have c5 : w1.cell? ⟨w.heap.size, 5, none⟩ = some (.int .i64 x.s3) := bcell hb1 (by go_simp)
  have c6 : w1.cell? ⟨w.heap.size, 6, none⟩ = some (.int .i64 x.s4) := bcell hb1 (by go_simp)
  have B1 := below_next (below_alloc (Below.refl w.heap.size w) _) hb1
  go_wp2_with fail
  refine (may x.mail _).mono ?_
  rintro e w2 ⟨rfl, hb2⟩
  rw [hm]
  replace c0 := bcell hb2 c0
  replace c1 := bcell hb2 c1
  replace c2 := bcell hb2 c2
  replace c3 := bcell hb2 c3
  replace c4 := bcell hb2 c4
  replace c5 := bcell hb2 c5
  replace c6 := bcell hb2 c6
  have B2 := below_next B1 hb2
  go_wp2_with fail
  refine (words w.heap.size _).mono ?_
  rintro e w3 ⟨rfl, hb3⟩
  replace c0 := bcell hb3 c0
  replace c1 := bcell hb3 c1
  replace c2 := bcell hb3 c2
  replace c3 := bcell hb3 c3
  replace c4 := bcell hb3 c4
  replace c5 := bcell hb3 c5
  replace c6 := bcell hb3 c6
  have B3 := below_next B2 hb3
  simp only [plc]
  have i0 := idx0
  have i1 := idx1
  have i2 := idx2
  have i3 := idx3
  have i4 := idx4
  go_wp2
  refine wp_loop_rounds 6 ?_
  rw [rounds_succ]
  go_wp2
  go_ret2
  exact ⟨rfl, B3⟩

set_option maxRecDepth 100000 in
set_option maxHeartbeats 2000000 in
theorem soaLo1 (x : Soa) (w : World) (hn : nameB x.host = true) (hm : nameB x.mail = true) (g0 : wideB x.s0 = true) (gb : wideB x.s1 = false) (hx : x.s1 < 0) : Calls Try.prog 35 #[x.val] w fun e w' => e = ans x.S x.E ∧ Below w.heap.size w w' := by
  have e1 : x.ok = false := by unfold Soa.ok; rw [hn, hm, g0, gb]; simp
  have e2 : x.S = emp := by unfold Soa.S; rw [e1]; rfl
  have e3 : x.E = 400 := by unfold Soa.E; rw [e1]; rfl
  unfold ans
  rw [e2, e3]
  have a0 : decide (x.s0 < 0) = false := decide_eq_false (by have := wideB_iff.1 g0; omega)
  have b0 : decide (4294967295 < x.s0) = false := decide_eq_false (by have := wideB_iff.1 g0; omega)
  have a1 : decide (x.s1 < 0) = true := decide_eq_true hx
  have hz := nameB_size hn
  have hy := nameB_size hm
  have l0 : ¬ 9223372036854775807 < (x.host).size + x.mail.size := by (try simp only [ByteArray.size_append, p32_size]); omega
  have l1 : ¬ 9223372036854775807 < (x.host ++ x.mail).size + (p32 x.s0).size := by (try simp only [ByteArray.size_append, p32_size]); omega
  clear g0 hx gb e1 e2 e3 hz hy
  unfold Soa.val
  go_enter Try.func35, Try.ntmps35
  go_wp2_with fail
  refine (may x.host _).mono ?_
  rintro e w1 ⟨rfl, hb1⟩
  rw [hn]
  have c0 : w1.cell? ⟨w.heap.size, 0, none⟩ = some (.string x.host) := bcell hb1 (by go_simp)
  have c1 : w1.cell? ⟨w.heap.size, 1, none⟩ = some (.string x.mail) := bcell hb1 (by go_simp)
  have c2 : w1.cell? ⟨w.heap.size, 2, none⟩ = some (.int .i64 x.s0) := bcell hb1 (by go_simp)
  have c3 : w1.cell? ⟨w.heap.size, 3, none⟩ = some (.int .i64 x.s1) := bcell hb1 (by go_simp)
  have c4 : w1.cell? ⟨w.heap.size, 4, none⟩ = some (.int .i64 x.s2) := bcell hb1 (by go_simp)
  have c5 : w1.cell? ⟨w.heap.size, 5, none⟩ = some (.int .i64 x.s3) := bcell hb1 (by go_simp)
  have c6 : w1.cell? ⟨w.heap.size, 6, none⟩ = some (.int .i64 x.s4) := bcell hb1 (by go_simp)
  have B1 := below_next (below_alloc (Below.refl w.heap.size w) _) hb1
  go_wp2_with fail
  refine (may x.mail _).mono ?_
  rintro e w2 ⟨rfl, hb2⟩
  rw [hm]
  replace c0 := bcell hb2 c0
  replace c1 := bcell hb2 c1
  replace c2 := bcell hb2 c2
  replace c3 := bcell hb2 c3
  replace c4 := bcell hb2 c4
  replace c5 := bcell hb2 c5
  replace c6 := bcell hb2 c6
  have B2 := below_next B1 hb2
  go_wp2_with fail
  refine (words w.heap.size _).mono ?_
  rintro e w3 ⟨rfl, hb3⟩
  replace c0 := bcell hb3 c0
  replace c1 := bcell hb3 c1
  replace c2 := bcell hb3 c2
  replace c3 := bcell hb3 c3
  replace c4 := bcell hb3 c4
  replace c5 := bcell hb3 c5
  replace c6 := bcell hb3 c6
  have B3 := below_next B2 hb3
  simp only [plc]
  have i0 := idx0
  have i1 := idx1
  have i2 := idx2
  have i3 := idx3
  have i4 := idx4
  go_wp2
  refine wp_loop_rounds 6 ?_
  rw [rounds_succ]
  go_wp2_with fail
  refine (put32 x.s0 _).mono ?_
  rintro e w4 ⟨rfl, hb4⟩
  replace c2 := bcell hb4 c2
  replace c3 := bcell hb4 c3
  replace c4 := bcell hb4 c4
  replace c5 := bcell hb4 c5
  replace c6 := bcell hb4 c6
  have B4 := below_next B3 hb4
  go_wp2
  rw [rounds_succ]
  go_wp2
  go_ret2
  exact ⟨rfl, B4⟩

set_option maxRecDepth 100000 in
set_option maxHeartbeats 2000000 in
theorem soaHi1 (x : Soa) (w : World) (hn : nameB x.host = true) (hm : nameB x.mail = true) (g0 : wideB x.s0 = true) (gb : wideB x.s1 = false) (hx : 4294967295 < x.s1) : Calls Try.prog 35 #[x.val] w fun e w' => e = ans x.S x.E ∧ Below w.heap.size w w' := by
  have e1 : x.ok = false := by unfold Soa.ok; rw [hn, hm, g0, gb]; simp
  have e2 : x.S = emp := by unfold Soa.S; rw [e1]; rfl
  have e3 : x.E = 400 := by unfold Soa.E; rw [e1]; rfl
  unfold ans
  rw [e2, e3]
  have a0 : decide (x.s0 < 0) = false := decide_eq_false (by have := wideB_iff.1 g0; omega)
  have b0 : decide (4294967295 < x.s0) = false := decide_eq_false (by have := wideB_iff.1 g0; omega)
  have a1 : decide (x.s1 < 0) = false := decide_eq_false (by omega)
  have b1 : decide (4294967295 < x.s1) = true := decide_eq_true hx
  have hz := nameB_size hn
  have hy := nameB_size hm
  have l0 : ¬ 9223372036854775807 < (x.host).size + x.mail.size := by (try simp only [ByteArray.size_append, p32_size]); omega
  have l1 : ¬ 9223372036854775807 < (x.host ++ x.mail).size + (p32 x.s0).size := by (try simp only [ByteArray.size_append, p32_size]); omega
  clear g0 hx gb e1 e2 e3 hz hy
  unfold Soa.val
  go_enter Try.func35, Try.ntmps35
  go_wp2_with fail
  refine (may x.host _).mono ?_
  rintro e w1 ⟨rfl, hb1⟩
  rw [hn]
  have c0 : w1.cell? ⟨w.heap.size, 0, none⟩ = some (.string x.host) := bcell hb1 (by go_simp)
  have c1 : w1.cell? ⟨w.heap.size, 1, none⟩ = some (.string x.mail) := bcell hb1 (by go_simp)
  have c2 : w1.cell? ⟨w.heap.size, 2, none⟩ = some (.int .i64 x.s0) := bcell hb1 (by go_simp)
  have c3 : w1.cell? ⟨w.heap.size, 3, none⟩ = some (.int .i64 x.s1) := bcell hb1 (by go_simp)
  have c4 : w1.cell? ⟨w.heap.size, 4, none⟩ = some (.int .i64 x.s2) := bcell hb1 (by go_simp)
  have c5 : w1.cell? ⟨w.heap.size, 5, none⟩ = some (.int .i64 x.s3) := bcell hb1 (by go_simp)
  have c6 : w1.cell? ⟨w.heap.size, 6, none⟩ = some (.int .i64 x.s4) := bcell hb1 (by go_simp)
  have B1 := below_next (below_alloc (Below.refl w.heap.size w) _) hb1
  go_wp2_with fail
  refine (may x.mail _).mono ?_
  rintro e w2 ⟨rfl, hb2⟩
  rw [hm]
  replace c0 := bcell hb2 c0
  replace c1 := bcell hb2 c1
  replace c2 := bcell hb2 c2
  replace c3 := bcell hb2 c3
  replace c4 := bcell hb2 c4
  replace c5 := bcell hb2 c5
  replace c6 := bcell hb2 c6
  have B2 := below_next B1 hb2
  go_wp2_with fail
  refine (words w.heap.size _).mono ?_
  rintro e w3 ⟨rfl, hb3⟩
  replace c0 := bcell hb3 c0
  replace c1 := bcell hb3 c1
  replace c2 := bcell hb3 c2
  replace c3 := bcell hb3 c3
  replace c4 := bcell hb3 c4
  replace c5 := bcell hb3 c5
  replace c6 := bcell hb3 c6
  have B3 := below_next B2 hb3
  simp only [plc]
  have i0 := idx0
  have i1 := idx1
  have i2 := idx2
  have i3 := idx3
  have i4 := idx4
  go_wp2
  refine wp_loop_rounds 6 ?_
  rw [rounds_succ]
  go_wp2_with fail
  refine (put32 x.s0 _).mono ?_
  rintro e w4 ⟨rfl, hb4⟩
  replace c2 := bcell hb4 c2
  replace c3 := bcell hb4 c3
  replace c4 := bcell hb4 c4
  replace c5 := bcell hb4 c5
  replace c6 := bcell hb4 c6
  have B4 := below_next B3 hb4
  go_wp2
  rw [rounds_succ]
  go_wp2
  go_ret2
  exact ⟨rfl, B4⟩

set_option maxRecDepth 100000 in
set_option maxHeartbeats 2000000 in
theorem soaLo2 (x : Soa) (w : World) (hn : nameB x.host = true) (hm : nameB x.mail = true) (g0 : wideB x.s0 = true) (g1 : wideB x.s1 = true) (gb : wideB x.s2 = false) (hx : x.s2 < 0) : Calls Try.prog 35 #[x.val] w fun e w' => e = ans x.S x.E ∧ Below w.heap.size w w' := by
  have e1 : x.ok = false := by unfold Soa.ok; rw [hn, hm, g0, g1, gb]; simp
  have e2 : x.S = emp := by unfold Soa.S; rw [e1]; rfl
  have e3 : x.E = 400 := by unfold Soa.E; rw [e1]; rfl
  unfold ans
  rw [e2, e3]
  have a0 : decide (x.s0 < 0) = false := decide_eq_false (by have := wideB_iff.1 g0; omega)
  have b0 : decide (4294967295 < x.s0) = false := decide_eq_false (by have := wideB_iff.1 g0; omega)
  have a1 : decide (x.s1 < 0) = false := decide_eq_false (by have := wideB_iff.1 g1; omega)
  have b1 : decide (4294967295 < x.s1) = false := decide_eq_false (by have := wideB_iff.1 g1; omega)
  have a2 : decide (x.s2 < 0) = true := decide_eq_true hx
  have hz := nameB_size hn
  have hy := nameB_size hm
  have l0 : ¬ 9223372036854775807 < (x.host).size + x.mail.size := by (try simp only [ByteArray.size_append, p32_size]); omega
  have l1 : ¬ 9223372036854775807 < (x.host ++ x.mail).size + (p32 x.s0).size := by (try simp only [ByteArray.size_append, p32_size]); omega
  have l2 : ¬ 9223372036854775807 < (x.host ++ x.mail ++ (p32 x.s0)).size + (p32 x.s1).size := by (try simp only [ByteArray.size_append, p32_size]); omega
  clear g0 g1 hx gb e1 e2 e3 hz hy
  unfold Soa.val
  go_enter Try.func35, Try.ntmps35
  go_wp2_with fail
  refine (may x.host _).mono ?_
  rintro e w1 ⟨rfl, hb1⟩
  rw [hn]
  have c0 : w1.cell? ⟨w.heap.size, 0, none⟩ = some (.string x.host) := bcell hb1 (by go_simp)
  have c1 : w1.cell? ⟨w.heap.size, 1, none⟩ = some (.string x.mail) := bcell hb1 (by go_simp)
  have c2 : w1.cell? ⟨w.heap.size, 2, none⟩ = some (.int .i64 x.s0) := bcell hb1 (by go_simp)
  have c3 : w1.cell? ⟨w.heap.size, 3, none⟩ = some (.int .i64 x.s1) := bcell hb1 (by go_simp)
  have c4 : w1.cell? ⟨w.heap.size, 4, none⟩ = some (.int .i64 x.s2) := bcell hb1 (by go_simp)
  have c5 : w1.cell? ⟨w.heap.size, 5, none⟩ = some (.int .i64 x.s3) := bcell hb1 (by go_simp)
  have c6 : w1.cell? ⟨w.heap.size, 6, none⟩ = some (.int .i64 x.s4) := bcell hb1 (by go_simp)
  have B1 := below_next (below_alloc (Below.refl w.heap.size w) _) hb1
  go_wp2_with fail
  refine (may x.mail _).mono ?_
  rintro e w2 ⟨rfl, hb2⟩
  rw [hm]
  replace c0 := bcell hb2 c0
  replace c1 := bcell hb2 c1
  replace c2 := bcell hb2 c2
  replace c3 := bcell hb2 c3
  replace c4 := bcell hb2 c4
  replace c5 := bcell hb2 c5
  replace c6 := bcell hb2 c6
  have B2 := below_next B1 hb2
  go_wp2_with fail
  refine (words w.heap.size _).mono ?_
  rintro e w3 ⟨rfl, hb3⟩
  replace c0 := bcell hb3 c0
  replace c1 := bcell hb3 c1
  replace c2 := bcell hb3 c2
  replace c3 := bcell hb3 c3
  replace c4 := bcell hb3 c4
  replace c5 := bcell hb3 c5
  replace c6 := bcell hb3 c6
  have B3 := below_next B2 hb3
  simp only [plc]
  have i0 := idx0
  have i1 := idx1
  have i2 := idx2
  have i3 := idx3
  have i4 := idx4
  go_wp2
  refine wp_loop_rounds 6 ?_
  rw [rounds_succ]
  go_wp2_with fail
  refine (put32 x.s0 _).mono ?_
  rintro e w4 ⟨rfl, hb4⟩
  replace c2 := bcell hb4 c2
  replace c3 := bcell hb4 c3
  replace c4 := bcell hb4 c4
  replace c5 := bcell hb4 c5
  replace c6 := bcell hb4 c6
  have B4 := below_next B3 hb4
  go_wp2
  rw [rounds_succ]
  go_wp2_with fail
  refine (put32 x.s1 _).mono ?_
  rintro e w5 ⟨rfl, hb5⟩
  replace c2 := bcell hb5 c2
  replace c3 := bcell hb5 c3
  replace c4 := bcell hb5 c4
  replace c5 := bcell hb5 c5
  replace c6 := bcell hb5 c6
  have B5 := below_next B4 hb5
  go_wp2
  rw [rounds_succ]
  go_wp2
  go_ret2
  exact ⟨rfl, B5⟩

set_option maxRecDepth 100000 in
set_option maxHeartbeats 2000000 in
theorem soaHi2 (x : Soa) (w : World) (hn : nameB x.host = true) (hm : nameB x.mail = true) (g0 : wideB x.s0 = true) (g1 : wideB x.s1 = true) (gb : wideB x.s2 = false) (hx : 4294967295 < x.s2) : Calls Try.prog 35 #[x.val] w fun e w' => e = ans x.S x.E ∧ Below w.heap.size w w' := by
  have e1 : x.ok = false := by unfold Soa.ok; rw [hn, hm, g0, g1, gb]; simp
  have e2 : x.S = emp := by unfold Soa.S; rw [e1]; rfl
  have e3 : x.E = 400 := by unfold Soa.E; rw [e1]; rfl
  unfold ans
  rw [e2, e3]
  have a0 : decide (x.s0 < 0) = false := decide_eq_false (by have := wideB_iff.1 g0; omega)
  have b0 : decide (4294967295 < x.s0) = false := decide_eq_false (by have := wideB_iff.1 g0; omega)
  have a1 : decide (x.s1 < 0) = false := decide_eq_false (by have := wideB_iff.1 g1; omega)
  have b1 : decide (4294967295 < x.s1) = false := decide_eq_false (by have := wideB_iff.1 g1; omega)
  have a2 : decide (x.s2 < 0) = false := decide_eq_false (by omega)
  have b2 : decide (4294967295 < x.s2) = true := decide_eq_true hx
  have hz := nameB_size hn
  have hy := nameB_size hm
  have l0 : ¬ 9223372036854775807 < (x.host).size + x.mail.size := by (try simp only [ByteArray.size_append, p32_size]); omega
  have l1 : ¬ 9223372036854775807 < (x.host ++ x.mail).size + (p32 x.s0).size := by (try simp only [ByteArray.size_append, p32_size]); omega
  have l2 : ¬ 9223372036854775807 < (x.host ++ x.mail ++ (p32 x.s0)).size + (p32 x.s1).size := by (try simp only [ByteArray.size_append, p32_size]); omega
  clear g0 g1 hx gb e1 e2 e3 hz hy
  unfold Soa.val
  go_enter Try.func35, Try.ntmps35
  go_wp2_with fail
  refine (may x.host _).mono ?_
  rintro e w1 ⟨rfl, hb1⟩
  rw [hn]
  have c0 : w1.cell? ⟨w.heap.size, 0, none⟩ = some (.string x.host) := bcell hb1 (by go_simp)
  have c1 : w1.cell? ⟨w.heap.size, 1, none⟩ = some (.string x.mail) := bcell hb1 (by go_simp)
  have c2 : w1.cell? ⟨w.heap.size, 2, none⟩ = some (.int .i64 x.s0) := bcell hb1 (by go_simp)
  have c3 : w1.cell? ⟨w.heap.size, 3, none⟩ = some (.int .i64 x.s1) := bcell hb1 (by go_simp)
  have c4 : w1.cell? ⟨w.heap.size, 4, none⟩ = some (.int .i64 x.s2) := bcell hb1 (by go_simp)
  have c5 : w1.cell? ⟨w.heap.size, 5, none⟩ = some (.int .i64 x.s3) := bcell hb1 (by go_simp)
  have c6 : w1.cell? ⟨w.heap.size, 6, none⟩ = some (.int .i64 x.s4) := bcell hb1 (by go_simp)
  have B1 := below_next (below_alloc (Below.refl w.heap.size w) _) hb1
  go_wp2_with fail
  refine (may x.mail _).mono ?_
  rintro e w2 ⟨rfl, hb2⟩
  rw [hm]
  replace c0 := bcell hb2 c0
  replace c1 := bcell hb2 c1
  replace c2 := bcell hb2 c2
  replace c3 := bcell hb2 c3
  replace c4 := bcell hb2 c4
  replace c5 := bcell hb2 c5
  replace c6 := bcell hb2 c6
  have B2 := below_next B1 hb2
  go_wp2_with fail
  refine (words w.heap.size _).mono ?_
  rintro e w3 ⟨rfl, hb3⟩
  replace c0 := bcell hb3 c0
  replace c1 := bcell hb3 c1
  replace c2 := bcell hb3 c2
  replace c3 := bcell hb3 c3
  replace c4 := bcell hb3 c4
  replace c5 := bcell hb3 c5
  replace c6 := bcell hb3 c6
  have B3 := below_next B2 hb3
  simp only [plc]
  have i0 := idx0
  have i1 := idx1
  have i2 := idx2
  have i3 := idx3
  have i4 := idx4
  go_wp2
  refine wp_loop_rounds 6 ?_
  rw [rounds_succ]
  go_wp2_with fail
  refine (put32 x.s0 _).mono ?_
  rintro e w4 ⟨rfl, hb4⟩
  replace c2 := bcell hb4 c2
  replace c3 := bcell hb4 c3
  replace c4 := bcell hb4 c4
  replace c5 := bcell hb4 c5
  replace c6 := bcell hb4 c6
  have B4 := below_next B3 hb4
  go_wp2
  rw [rounds_succ]
  go_wp2_with fail
  refine (put32 x.s1 _).mono ?_
  rintro e w5 ⟨rfl, hb5⟩
  replace c2 := bcell hb5 c2
  replace c3 := bcell hb5 c3
  replace c4 := bcell hb5 c4
  replace c5 := bcell hb5 c5
  replace c6 := bcell hb5 c6
  have B5 := below_next B4 hb5
  go_wp2
  rw [rounds_succ]
  go_wp2
  go_ret2
  exact ⟨rfl, B5⟩

set_option maxRecDepth 100000 in
set_option maxHeartbeats 2000000 in
theorem soaLo3 (x : Soa) (w : World) (hn : nameB x.host = true) (hm : nameB x.mail = true) (g0 : wideB x.s0 = true) (g1 : wideB x.s1 = true) (g2 : wideB x.s2 = true) (gb : wideB x.s3 = false) (hx : x.s3 < 0) : Calls Try.prog 35 #[x.val] w fun e w' => e = ans x.S x.E ∧ Below w.heap.size w w' := by
  have e1 : x.ok = false := by unfold Soa.ok; rw [hn, hm, g0, g1, g2, gb]; simp
  have e2 : x.S = emp := by unfold Soa.S; rw [e1]; rfl
  have e3 : x.E = 400 := by unfold Soa.E; rw [e1]; rfl
  unfold ans
  rw [e2, e3]
  have a0 : decide (x.s0 < 0) = false := decide_eq_false (by have := wideB_iff.1 g0; omega)
  have b0 : decide (4294967295 < x.s0) = false := decide_eq_false (by have := wideB_iff.1 g0; omega)
  have a1 : decide (x.s1 < 0) = false := decide_eq_false (by have := wideB_iff.1 g1; omega)
  have b1 : decide (4294967295 < x.s1) = false := decide_eq_false (by have := wideB_iff.1 g1; omega)
  have a2 : decide (x.s2 < 0) = false := decide_eq_false (by have := wideB_iff.1 g2; omega)
  have b2 : decide (4294967295 < x.s2) = false := decide_eq_false (by have := wideB_iff.1 g2; omega)
  have a3 : decide (x.s3 < 0) = true := decide_eq_true hx
  have hz := nameB_size hn
  have hy := nameB_size hm
  have l0 : ¬ 9223372036854775807 < (x.host).size + x.mail.size := by (try simp only [ByteArray.size_append, p32_size]); omega
  have l1 : ¬ 9223372036854775807 < (x.host ++ x.mail).size + (p32 x.s0).size := by (try simp only [ByteArray.size_append, p32_size]); omega
  have l2 : ¬ 9223372036854775807 < (x.host ++ x.mail ++ (p32 x.s0)).size + (p32 x.s1).size := by (try simp only [ByteArray.size_append, p32_size]); omega
  have l3 : ¬ 9223372036854775807 < (x.host ++ x.mail ++ (p32 x.s0) ++ (p32 x.s1)).size + (p32 x.s2).size := by (try simp only [ByteArray.size_append, p32_size]); omega
  clear g0 g1 g2 hx gb e1 e2 e3 hz hy
  unfold Soa.val
  go_enter Try.func35, Try.ntmps35
  go_wp2_with fail
  refine (may x.host _).mono ?_
  rintro e w1 ⟨rfl, hb1⟩
  rw [hn]
  have c0 : w1.cell? ⟨w.heap.size, 0, none⟩ = some (.string x.host) := bcell hb1 (by go_simp)
  have c1 : w1.cell? ⟨w.heap.size, 1, none⟩ = some (.string x.mail) := bcell hb1 (by go_simp)
  have c2 : w1.cell? ⟨w.heap.size, 2, none⟩ = some (.int .i64 x.s0) := bcell hb1 (by go_simp)
  have c3 : w1.cell? ⟨w.heap.size, 3, none⟩ = some (.int .i64 x.s1) := bcell hb1 (by go_simp)
  have c4 : w1.cell? ⟨w.heap.size, 4, none⟩ = some (.int .i64 x.s2) := bcell hb1 (by go_simp)
  have c5 : w1.cell? ⟨w.heap.size, 5, none⟩ = some (.int .i64 x.s3) := bcell hb1 (by go_simp)
  have c6 : w1.cell? ⟨w.heap.size, 6, none⟩ = some (.int .i64 x.s4) := bcell hb1 (by go_simp)
  have B1 := below_next (below_alloc (Below.refl w.heap.size w) _) hb1
  go_wp2_with fail
  refine (may x.mail _).mono ?_
  rintro e w2 ⟨rfl, hb2⟩
  rw [hm]
  replace c0 := bcell hb2 c0
  replace c1 := bcell hb2 c1
  replace c2 := bcell hb2 c2
  replace c3 := bcell hb2 c3
  replace c4 := bcell hb2 c4
  replace c5 := bcell hb2 c5
  replace c6 := bcell hb2 c6
  have B2 := below_next B1 hb2
  go_wp2_with fail
  refine (words w.heap.size _).mono ?_
  rintro e w3 ⟨rfl, hb3⟩
  replace c0 := bcell hb3 c0
  replace c1 := bcell hb3 c1
  replace c2 := bcell hb3 c2
  replace c3 := bcell hb3 c3
  replace c4 := bcell hb3 c4
  replace c5 := bcell hb3 c5
  replace c6 := bcell hb3 c6
  have B3 := below_next B2 hb3
  simp only [plc]
  have i0 := idx0
  have i1 := idx1
  have i2 := idx2
  have i3 := idx3
  have i4 := idx4
  go_wp2
  refine wp_loop_rounds 6 ?_
  rw [rounds_succ]
  go_wp2_with fail
  refine (put32 x.s0 _).mono ?_
  rintro e w4 ⟨rfl, hb4⟩
  replace c2 := bcell hb4 c2
  replace c3 := bcell hb4 c3
  replace c4 := bcell hb4 c4
  replace c5 := bcell hb4 c5
  replace c6 := bcell hb4 c6
  have B4 := below_next B3 hb4
  go_wp2
  rw [rounds_succ]
  go_wp2_with fail
  refine (put32 x.s1 _).mono ?_
  rintro e w5 ⟨rfl, hb5⟩
  replace c2 := bcell hb5 c2
  replace c3 := bcell hb5 c3
  replace c4 := bcell hb5 c4
  replace c5 := bcell hb5 c5
  replace c6 := bcell hb5 c6
  have B5 := below_next B4 hb5
  go_wp2
  rw [rounds_succ]
  go_wp2_with fail
  refine (put32 x.s2 _).mono ?_
  rintro e w6 ⟨rfl, hb6⟩
  replace c2 := bcell hb6 c2
  replace c3 := bcell hb6 c3
  replace c4 := bcell hb6 c4
  replace c5 := bcell hb6 c5
  replace c6 := bcell hb6 c6
  have B6 := below_next B5 hb6
  go_wp2
  rw [rounds_succ]
  go_wp2
  go_ret2
  exact ⟨rfl, B6⟩

set_option maxRecDepth 100000 in
set_option maxHeartbeats 2000000 in
theorem soaHi3 (x : Soa) (w : World) (hn : nameB x.host = true) (hm : nameB x.mail = true) (g0 : wideB x.s0 = true) (g1 : wideB x.s1 = true) (g2 : wideB x.s2 = true) (gb : wideB x.s3 = false) (hx : 4294967295 < x.s3) : Calls Try.prog 35 #[x.val] w fun e w' => e = ans x.S x.E ∧ Below w.heap.size w w' := by
  have e1 : x.ok = false := by unfold Soa.ok; rw [hn, hm, g0, g1, g2, gb]; simp
  have e2 : x.S = emp := by unfold Soa.S; rw [e1]; rfl
  have e3 : x.E = 400 := by unfold Soa.E; rw [e1]; rfl
  unfold ans
  rw [e2, e3]
  have a0 : decide (x.s0 < 0) = false := decide_eq_false (by have := wideB_iff.1 g0; omega)
  have b0 : decide (4294967295 < x.s0) = false := decide_eq_false (by have := wideB_iff.1 g0; omega)
  have a1 : decide (x.s1 < 0) = false := decide_eq_false (by have := wideB_iff.1 g1; omega)
  have b1 : decide (4294967295 < x.s1) = false := decide_eq_false (by have := wideB_iff.1 g1; omega)
  have a2 : decide (x.s2 < 0) = false := decide_eq_false (by have := wideB_iff.1 g2; omega)
  have b2 : decide (4294967295 < x.s2) = false := decide_eq_false (by have := wideB_iff.1 g2; omega)
  have a3 : decide (x.s3 < 0) = false := decide_eq_false (by omega)
  have b3 : decide (4294967295 < x.s3) = true := decide_eq_true hx
  have hz := nameB_size hn
  have hy := nameB_size hm
  have l0 : ¬ 9223372036854775807 < (x.host).size + x.mail.size := by (try simp only [ByteArray.size_append, p32_size]); omega
  have l1 : ¬ 9223372036854775807 < (x.host ++ x.mail).size + (p32 x.s0).size := by (try simp only [ByteArray.size_append, p32_size]); omega
  have l2 : ¬ 9223372036854775807 < (x.host ++ x.mail ++ (p32 x.s0)).size + (p32 x.s1).size := by (try simp only [ByteArray.size_append, p32_size]); omega
  have l3 : ¬ 9223372036854775807 < (x.host ++ x.mail ++ (p32 x.s0) ++ (p32 x.s1)).size + (p32 x.s2).size := by (try simp only [ByteArray.size_append, p32_size]); omega
  clear g0 g1 g2 hx gb e1 e2 e3 hz hy
  unfold Soa.val
  go_enter Try.func35, Try.ntmps35
  go_wp2_with fail
  refine (may x.host _).mono ?_
  rintro e w1 ⟨rfl, hb1⟩
  rw [hn]
  have c0 : w1.cell? ⟨w.heap.size, 0, none⟩ = some (.string x.host) := bcell hb1 (by go_simp)
  have c1 : w1.cell? ⟨w.heap.size, 1, none⟩ = some (.string x.mail) := bcell hb1 (by go_simp)
  have c2 : w1.cell? ⟨w.heap.size, 2, none⟩ = some (.int .i64 x.s0) := bcell hb1 (by go_simp)
  have c3 : w1.cell? ⟨w.heap.size, 3, none⟩ = some (.int .i64 x.s1) := bcell hb1 (by go_simp)
  have c4 : w1.cell? ⟨w.heap.size, 4, none⟩ = some (.int .i64 x.s2) := bcell hb1 (by go_simp)
  have c5 : w1.cell? ⟨w.heap.size, 5, none⟩ = some (.int .i64 x.s3) := bcell hb1 (by go_simp)
  have c6 : w1.cell? ⟨w.heap.size, 6, none⟩ = some (.int .i64 x.s4) := bcell hb1 (by go_simp)
  have B1 := below_next (below_alloc (Below.refl w.heap.size w) _) hb1
  go_wp2_with fail
  refine (may x.mail _).mono ?_
  rintro e w2 ⟨rfl, hb2⟩
  rw [hm]
  replace c0 := bcell hb2 c0
  replace c1 := bcell hb2 c1
  replace c2 := bcell hb2 c2
  replace c3 := bcell hb2 c3
  replace c4 := bcell hb2 c4
  replace c5 := bcell hb2 c5
  replace c6 := bcell hb2 c6
  have B2 := below_next B1 hb2
  go_wp2_with fail
  refine (words w.heap.size _).mono ?_
  rintro e w3 ⟨rfl, hb3⟩
  replace c0 := bcell hb3 c0
  replace c1 := bcell hb3 c1
  replace c2 := bcell hb3 c2
  replace c3 := bcell hb3 c3
  replace c4 := bcell hb3 c4
  replace c5 := bcell hb3 c5
  replace c6 := bcell hb3 c6
  have B3 := below_next B2 hb3
  simp only [plc]
  have i0 := idx0
  have i1 := idx1
  have i2 := idx2
  have i3 := idx3
  have i4 := idx4
  go_wp2
  refine wp_loop_rounds 6 ?_
  rw [rounds_succ]
  go_wp2_with fail
  refine (put32 x.s0 _).mono ?_
  rintro e w4 ⟨rfl, hb4⟩
  replace c2 := bcell hb4 c2
  replace c3 := bcell hb4 c3
  replace c4 := bcell hb4 c4
  replace c5 := bcell hb4 c5
  replace c6 := bcell hb4 c6
  have B4 := below_next B3 hb4
  go_wp2
  rw [rounds_succ]
  go_wp2_with fail
  refine (put32 x.s1 _).mono ?_
  rintro e w5 ⟨rfl, hb5⟩
  replace c2 := bcell hb5 c2
  replace c3 := bcell hb5 c3
  replace c4 := bcell hb5 c4
  replace c5 := bcell hb5 c5
  replace c6 := bcell hb5 c6
  have B5 := below_next B4 hb5
  go_wp2
  rw [rounds_succ]
  go_wp2_with fail
  refine (put32 x.s2 _).mono ?_
  rintro e w6 ⟨rfl, hb6⟩
  replace c2 := bcell hb6 c2
  replace c3 := bcell hb6 c3
  replace c4 := bcell hb6 c4
  replace c5 := bcell hb6 c5
  replace c6 := bcell hb6 c6
  have B6 := below_next B5 hb6
  go_wp2
  rw [rounds_succ]
  go_wp2
  go_ret2
  exact ⟨rfl, B6⟩

set_option maxRecDepth 100000 in
set_option maxHeartbeats 2000000 in
theorem soaLo4 (x : Soa) (w : World) (hn : nameB x.host = true) (hm : nameB x.mail = true) (g0 : wideB x.s0 = true) (g1 : wideB x.s1 = true) (g2 : wideB x.s2 = true) (g3 : wideB x.s3 = true) (gb : wideB x.s4 = false) (hx : x.s4 < 0) : Calls Try.prog 35 #[x.val] w fun e w' => e = ans x.S x.E ∧ Below w.heap.size w w' := by
  have e1 : x.ok = false := by unfold Soa.ok; rw [hn, hm, g0, g1, g2, g3, gb]; simp
  have e2 : x.S = emp := by unfold Soa.S; rw [e1]; rfl
  have e3 : x.E = 400 := by unfold Soa.E; rw [e1]; rfl
  unfold ans
  rw [e2, e3]
  have a0 : decide (x.s0 < 0) = false := decide_eq_false (by have := wideB_iff.1 g0; omega)
  have b0 : decide (4294967295 < x.s0) = false := decide_eq_false (by have := wideB_iff.1 g0; omega)
  have a1 : decide (x.s1 < 0) = false := decide_eq_false (by have := wideB_iff.1 g1; omega)
  have b1 : decide (4294967295 < x.s1) = false := decide_eq_false (by have := wideB_iff.1 g1; omega)
  have a2 : decide (x.s2 < 0) = false := decide_eq_false (by have := wideB_iff.1 g2; omega)
  have b2 : decide (4294967295 < x.s2) = false := decide_eq_false (by have := wideB_iff.1 g2; omega)
  have a3 : decide (x.s3 < 0) = false := decide_eq_false (by have := wideB_iff.1 g3; omega)
  have b3 : decide (4294967295 < x.s3) = false := decide_eq_false (by have := wideB_iff.1 g3; omega)
  have a4 : decide (x.s4 < 0) = true := decide_eq_true hx
  have hz := nameB_size hn
  have hy := nameB_size hm
  have l0 : ¬ 9223372036854775807 < (x.host).size + x.mail.size := by (try simp only [ByteArray.size_append, p32_size]); omega
  have l1 : ¬ 9223372036854775807 < (x.host ++ x.mail).size + (p32 x.s0).size := by (try simp only [ByteArray.size_append, p32_size]); omega
  have l2 : ¬ 9223372036854775807 < (x.host ++ x.mail ++ (p32 x.s0)).size + (p32 x.s1).size := by (try simp only [ByteArray.size_append, p32_size]); omega
  have l3 : ¬ 9223372036854775807 < (x.host ++ x.mail ++ (p32 x.s0) ++ (p32 x.s1)).size + (p32 x.s2).size := by (try simp only [ByteArray.size_append, p32_size]); omega
  have l4 : ¬ 9223372036854775807 < (x.host ++ x.mail ++ (p32 x.s0) ++ (p32 x.s1) ++ (p32 x.s2)).size + (p32 x.s3).size := by (try simp only [ByteArray.size_append, p32_size]); omega
  clear g0 g1 g2 g3 hx gb e1 e2 e3 hz hy
  unfold Soa.val
  go_enter Try.func35, Try.ntmps35
  go_wp2_with fail
  refine (may x.host _).mono ?_
  rintro e w1 ⟨rfl, hb1⟩
  rw [hn]
  have c0 : w1.cell? ⟨w.heap.size, 0, none⟩ = some (.string x.host) := bcell hb1 (by go_simp)
  have c1 : w1.cell? ⟨w.heap.size, 1, none⟩ = some (.string x.mail) := bcell hb1 (by go_simp)
  have c2 : w1.cell? ⟨w.heap.size, 2, none⟩ = some (.int .i64 x.s0) := bcell hb1 (by go_simp)
  have c3 : w1.cell? ⟨w.heap.size, 3, none⟩ = some (.int .i64 x.s1) := bcell hb1 (by go_simp)
  have c4 : w1.cell? ⟨w.heap.size, 4, none⟩ = some (.int .i64 x.s2) := bcell hb1 (by go_simp)
  have c5 : w1.cell? ⟨w.heap.size, 5, none⟩ = some (.int .i64 x.s3) := bcell hb1 (by go_simp)
  have c6 : w1.cell? ⟨w.heap.size, 6, none⟩ = some (.int .i64 x.s4) := bcell hb1 (by go_simp)
  have B1 := below_next (below_alloc (Below.refl w.heap.size w) _) hb1
  go_wp2_with fail
  refine (may x.mail _).mono ?_
  rintro e w2 ⟨rfl, hb2⟩
  rw [hm]
  replace c0 := bcell hb2 c0
  replace c1 := bcell hb2 c1
  replace c2 := bcell hb2 c2
  replace c3 := bcell hb2 c3
  replace c4 := bcell hb2 c4
  replace c5 := bcell hb2 c5
  replace c6 := bcell hb2 c6
  have B2 := below_next B1 hb2
  go_wp2_with fail
  refine (words w.heap.size _).mono ?_
  rintro e w3 ⟨rfl, hb3⟩
  replace c0 := bcell hb3 c0
  replace c1 := bcell hb3 c1
  replace c2 := bcell hb3 c2
  replace c3 := bcell hb3 c3
  replace c4 := bcell hb3 c4
  replace c5 := bcell hb3 c5
  replace c6 := bcell hb3 c6
  have B3 := below_next B2 hb3
  simp only [plc]
  have i0 := idx0
  have i1 := idx1
  have i2 := idx2
  have i3 := idx3
  have i4 := idx4
  go_wp2
  refine wp_loop_rounds 6 ?_
  rw [rounds_succ]
  go_wp2_with fail
  refine (put32 x.s0 _).mono ?_
  rintro e w4 ⟨rfl, hb4⟩
  replace c2 := bcell hb4 c2
  replace c3 := bcell hb4 c3
  replace c4 := bcell hb4 c4
  replace c5 := bcell hb4 c5
  replace c6 := bcell hb4 c6
  have B4 := below_next B3 hb4
  go_wp2
  rw [rounds_succ]
  go_wp2_with fail
  refine (put32 x.s1 _).mono ?_
  rintro e w5 ⟨rfl, hb5⟩
  replace c2 := bcell hb5 c2
  replace c3 := bcell hb5 c3
  replace c4 := bcell hb5 c4
  replace c5 := bcell hb5 c5
  replace c6 := bcell hb5 c6
  have B5 := below_next B4 hb5
  go_wp2
  rw [rounds_succ]
  go_wp2_with fail
  refine (put32 x.s2 _).mono ?_
  rintro e w6 ⟨rfl, hb6⟩
  replace c2 := bcell hb6 c2
  replace c3 := bcell hb6 c3
  replace c4 := bcell hb6 c4
  replace c5 := bcell hb6 c5
  replace c6 := bcell hb6 c6
  have B6 := below_next B5 hb6
  go_wp2
  rw [rounds_succ]
  go_wp2_with fail
  refine (put32 x.s3 _).mono ?_
  rintro e w7 ⟨rfl, hb7⟩
  replace c2 := bcell hb7 c2
  replace c3 := bcell hb7 c3
  replace c4 := bcell hb7 c4
  replace c5 := bcell hb7 c5
  replace c6 := bcell hb7 c6
  have B7 := below_next B6 hb7
  go_wp2
  rw [rounds_succ]
  go_wp2
  go_ret2
  exact ⟨rfl, B7⟩

set_option maxRecDepth 100000 in
set_option maxHeartbeats 2000000 in
theorem soaHi4 (x : Soa) (w : World) (hn : nameB x.host = true) (hm : nameB x.mail = true) (g0 : wideB x.s0 = true) (g1 : wideB x.s1 = true) (g2 : wideB x.s2 = true) (g3 : wideB x.s3 = true) (gb : wideB x.s4 = false) (hx : 4294967295 < x.s4) : Calls Try.prog 35 #[x.val] w fun e w' => e = ans x.S x.E ∧ Below w.heap.size w w' := by
  have e1 : x.ok = false := by unfold Soa.ok; rw [hn, hm, g0, g1, g2, g3, gb]; simp
  have e2 : x.S = emp := by unfold Soa.S; rw [e1]; rfl
  have e3 : x.E = 400 := by unfold Soa.E; rw [e1]; rfl
  unfold ans
  rw [e2, e3]
  have a0 : decide (x.s0 < 0) = false := decide_eq_false (by have := wideB_iff.1 g0; omega)
  have b0 : decide (4294967295 < x.s0) = false := decide_eq_false (by have := wideB_iff.1 g0; omega)
  have a1 : decide (x.s1 < 0) = false := decide_eq_false (by have := wideB_iff.1 g1; omega)
  have b1 : decide (4294967295 < x.s1) = false := decide_eq_false (by have := wideB_iff.1 g1; omega)
  have a2 : decide (x.s2 < 0) = false := decide_eq_false (by have := wideB_iff.1 g2; omega)
  have b2 : decide (4294967295 < x.s2) = false := decide_eq_false (by have := wideB_iff.1 g2; omega)
  have a3 : decide (x.s3 < 0) = false := decide_eq_false (by have := wideB_iff.1 g3; omega)
  have b3 : decide (4294967295 < x.s3) = false := decide_eq_false (by have := wideB_iff.1 g3; omega)
  have a4 : decide (x.s4 < 0) = false := decide_eq_false (by omega)
  have b4 : decide (4294967295 < x.s4) = true := decide_eq_true hx
  have hz := nameB_size hn
  have hy := nameB_size hm
  have l0 : ¬ 9223372036854775807 < (x.host).size + x.mail.size := by (try simp only [ByteArray.size_append, p32_size]); omega
  have l1 : ¬ 9223372036854775807 < (x.host ++ x.mail).size + (p32 x.s0).size := by (try simp only [ByteArray.size_append, p32_size]); omega
  have l2 : ¬ 9223372036854775807 < (x.host ++ x.mail ++ (p32 x.s0)).size + (p32 x.s1).size := by (try simp only [ByteArray.size_append, p32_size]); omega
  have l3 : ¬ 9223372036854775807 < (x.host ++ x.mail ++ (p32 x.s0) ++ (p32 x.s1)).size + (p32 x.s2).size := by (try simp only [ByteArray.size_append, p32_size]); omega
  have l4 : ¬ 9223372036854775807 < (x.host ++ x.mail ++ (p32 x.s0) ++ (p32 x.s1) ++ (p32 x.s2)).size + (p32 x.s3).size := by (try simp only [ByteArray.size_append, p32_size]); omega
  clear g0 g1 g2 g3 hx gb e1 e2 e3 hz hy
  unfold Soa.val
  go_enter Try.func35, Try.ntmps35
  go_wp2_with fail
  refine (may x.host _).mono ?_
  rintro e w1 ⟨rfl, hb1⟩
  rw [hn]
  have c0 : w1.cell? ⟨w.heap.size, 0, none⟩ = some (.string x.host) := bcell hb1 (by go_simp)
  have c1 : w1.cell? ⟨w.heap.size, 1, none⟩ = some (.string x.mail) := bcell hb1 (by go_simp)
  have c2 : w1.cell? ⟨w.heap.size, 2, none⟩ = some (.int .i64 x.s0) := bcell hb1 (by go_simp)
  have c3 : w1.cell? ⟨w.heap.size, 3, none⟩ = some (.int .i64 x.s1) := bcell hb1 (by go_simp)
  have c4 : w1.cell? ⟨w.heap.size, 4, none⟩ = some (.int .i64 x.s2) := bcell hb1 (by go_simp)
  have c5 : w1.cell? ⟨w.heap.size, 5, none⟩ = some (.int .i64 x.s3) := bcell hb1 (by go_simp)
  have c6 : w1.cell? ⟨w.heap.size, 6, none⟩ = some (.int .i64 x.s4) := bcell hb1 (by go_simp)
  have B1 := below_next (below_alloc (Below.refl w.heap.size w) _) hb1
  go_wp2_with fail
  refine (may x.mail _).mono ?_
  rintro e w2 ⟨rfl, hb2⟩
  rw [hm]
  replace c0 := bcell hb2 c0
  replace c1 := bcell hb2 c1
  replace c2 := bcell hb2 c2
  replace c3 := bcell hb2 c3
  replace c4 := bcell hb2 c4
  replace c5 := bcell hb2 c5
  replace c6 := bcell hb2 c6
  have B2 := below_next B1 hb2
  go_wp2_with fail
  refine (words w.heap.size _).mono ?_
  rintro e w3 ⟨rfl, hb3⟩
  replace c0 := bcell hb3 c0
  replace c1 := bcell hb3 c1
  replace c2 := bcell hb3 c2
  replace c3 := bcell hb3 c3
  replace c4 := bcell hb3 c4
  replace c5 := bcell hb3 c5
  replace c6 := bcell hb3 c6
  have B3 := below_next B2 hb3
  simp only [plc]
  have i0 := idx0
  have i1 := idx1
  have i2 := idx2
  have i3 := idx3
  have i4 := idx4
  go_wp2
  refine wp_loop_rounds 6 ?_
  rw [rounds_succ]
  go_wp2_with fail
  refine (put32 x.s0 _).mono ?_
  rintro e w4 ⟨rfl, hb4⟩
  replace c2 := bcell hb4 c2
  replace c3 := bcell hb4 c3
  replace c4 := bcell hb4 c4
  replace c5 := bcell hb4 c5
  replace c6 := bcell hb4 c6
  have B4 := below_next B3 hb4
  go_wp2
  rw [rounds_succ]
  go_wp2_with fail
  refine (put32 x.s1 _).mono ?_
  rintro e w5 ⟨rfl, hb5⟩
  replace c2 := bcell hb5 c2
  replace c3 := bcell hb5 c3
  replace c4 := bcell hb5 c4
  replace c5 := bcell hb5 c5
  replace c6 := bcell hb5 c6
  have B5 := below_next B4 hb5
  go_wp2
  rw [rounds_succ]
  go_wp2_with fail
  refine (put32 x.s2 _).mono ?_
  rintro e w6 ⟨rfl, hb6⟩
  replace c2 := bcell hb6 c2
  replace c3 := bcell hb6 c3
  replace c4 := bcell hb6 c4
  replace c5 := bcell hb6 c5
  replace c6 := bcell hb6 c6
  have B6 := below_next B5 hb6
  go_wp2
  rw [rounds_succ]
  go_wp2_with fail
  refine (put32 x.s3 _).mono ?_
  rintro e w7 ⟨rfl, hb7⟩
  replace c2 := bcell hb7 c2
  replace c3 := bcell hb7 c3
  replace c4 := bcell hb7 c4
  replace c5 := bcell hb7 c5
  replace c6 := bcell hb7 c6
  have B7 := below_next B6 hb7
  go_wp2
  rw [rounds_succ]
  go_wp2
  go_ret2
  exact ⟨rfl, B7⟩

set_option maxRecDepth 100000 in
set_option maxHeartbeats 2000000 in
theorem soaNoHost (x : Soa) (w : World) (hn : nameB x.host = false) : Calls Try.prog 35 #[x.val] w fun e w' => e = ans x.S x.E ∧ Below w.heap.size w w' := by
  have e1 : x.ok = false := by unfold Soa.ok; rw [hn]; rfl
  have e2 : x.S = emp := by unfold Soa.S; rw [e1]; rfl
  have e3 : x.E = 400 := by unfold Soa.E; rw [e1]; rfl
  unfold ans
  rw [e2, e3]
  unfold Soa.val
  clear e1 e2 e3
  go_enter Try.func35, Try.ntmps35
  go_wp2_with fail
  refine (may x.host _).mono ?_
  rintro e w1 ⟨rfl, hb1⟩
  rw [hn]
  have B1 := below_next (below_alloc (Below.refl w.heap.size w) _) hb1
  go_wp2
  go_ret2
  exact ⟨rfl, B1⟩

set_option maxRecDepth 100000 in
set_option maxHeartbeats 2000000 in
theorem soaNoMail (x : Soa) (w : World) (hn : nameB x.host = true) (hm : nameB x.mail = false) : Calls Try.prog 35 #[x.val] w fun e w' => e = ans x.S x.E ∧ Below w.heap.size w w' := by
  have e1 : x.ok = false := by unfold Soa.ok; rw [hn, hm]; rfl
  have e2 : x.S = emp := by unfold Soa.S; rw [e1]; rfl
  have e3 : x.E = 400 := by unfold Soa.E; rw [e1]; rfl
  unfold ans
  rw [e2, e3]
  unfold Soa.val
  clear e1 e2 e3
  go_enter Try.func35, Try.ntmps35
  go_wp2_with fail
  refine (may x.host _).mono ?_
  rintro e w1 ⟨rfl, hb1⟩
  rw [hn]
  have c0 : w1.cell? ⟨w.heap.size, 0, none⟩ = some (.string x.host) := bcell hb1 (by go_simp)
  have c1 : w1.cell? ⟨w.heap.size, 1, none⟩ = some (.string x.mail) := bcell hb1 (by go_simp)
  have c2 : w1.cell? ⟨w.heap.size, 2, none⟩ = some (.int .i64 x.s0) := bcell hb1 (by go_simp)
  have c3 : w1.cell? ⟨w.heap.size, 3, none⟩ = some (.int .i64 x.s1) := bcell hb1 (by go_simp)
  have c4 : w1.cell? ⟨w.heap.size, 4, none⟩ = some (.int .i64 x.s2) := bcell hb1 (by go_simp)
  have c5 : w1.cell? ⟨w.heap.size, 5, none⟩ = some (.int .i64 x.s3) := bcell hb1 (by go_simp)
  have c6 : w1.cell? ⟨w.heap.size, 6, none⟩ = some (.int .i64 x.s4) := bcell hb1 (by go_simp)
  have B1 := below_next (below_alloc (Below.refl w.heap.size w) _) hb1
  go_wp2_with fail
  refine (may x.mail _).mono ?_
  rintro e w2 ⟨rfl, hb2⟩
  rw [hm]
  have B2 := below_next B1 hb2
  go_wp2
  go_ret2
  exact ⟨rfl, B2⟩

theorem soac (x : Soa) (w : World) : Calls Try.prog 35 #[x.val] w fun e w' => e = ans x.S x.E ∧ Below w.heap.size w w' := by
  cases hn : nameB x.host with
  | false => exact soaNoHost x w hn
  | true =>
  cases hm : nameB x.mail with
  | false => exact soaNoMail x w hn hm
  | true =>
  cases g0 : wideB x.s0 with
  | false =>
    by_cases hx : x.s0 < 0
    · exact soaLo0 x w hn hm  g0 hx
    · exact soaHi0 x w hn hm  g0 (by have := mt wideB_iff.2 (by rw [g0]; simp); omega)
  | true =>
  cases g1 : wideB x.s1 with
  | false =>
    by_cases hx : x.s1 < 0
    · exact soaLo1 x w hn hm g0 g1 hx
    · exact soaHi1 x w hn hm g0 g1 (by have := mt wideB_iff.2 (by rw [g1]; simp); omega)
  | true =>
  cases g2 : wideB x.s2 with
  | false =>
    by_cases hx : x.s2 < 0
    · exact soaLo2 x w hn hm g0 g1 g2 hx
    · exact soaHi2 x w hn hm g0 g1 g2 (by have := mt wideB_iff.2 (by rw [g2]; simp); omega)
  | true =>
  cases g3 : wideB x.s3 with
  | false =>
    by_cases hx : x.s3 < 0
    · exact soaLo3 x w hn hm g0 g1 g2 g3 hx
    · exact soaHi3 x w hn hm g0 g1 g2 g3 (by have := mt wideB_iff.2 (by rw [g3]; simp); omega)
  | true =>
  cases g4 : wideB x.s4 with
  | false =>
    by_cases hx : x.s4 < 0
    · exact soaLo4 x w hn hm g0 g1 g2 g3 g4 hx
    · exact soaHi4 x w hn hm g0 g1 g2 g3 g4 (by have := mt wideB_iff.2 (by rw [g4]; simp); omega)
  | true =>
  exact soaYes x w hn hm g0 g1 g2 g3 g4
end Go.Proofs.Ytndcjleadggibaa.Rd
