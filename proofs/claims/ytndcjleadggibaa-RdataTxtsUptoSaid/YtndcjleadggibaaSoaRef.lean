/- The contract of the document's Soa: what the call answers, for any parts. -/
import Derived.Test.YtndcjleadggibaaSoaPut
namespace Go.Proofs.Ytndcjleadggibaa.Rd
open Go.RowKit Go.PlainAid Go.Proofs.Ytndcjleadggibaa.Base Go.Proofs.Ytndcjleadggibaa.Oct Go.Proofs.Ytndcjleadggibaa.Sl Go.Proofs.Ytndcjleadggibaa.Nm
set_option linter.unusedVariables false

set_option maxRecDepth 100000 in
set_option maxHeartbeats 2000000 in
theorem rsoaNo0 (x : Soa) (w : World)  (hn : nameB x.host = false) : Calls Try.prog 36 #[x.val] w fun e w' => e = ans x.S x.E ∧ Below w.heap.size w w' := by
  have e1 : x.ok = false := by unfold Soa.ok; rw [hn]; rfl
  have e2 : x.S = emp := by unfold Soa.S; rw [e1]; rfl
  have e3 : x.E = 400 := by unfold Soa.E; rw [e1]; rfl
  unfold ans
  rw [e2, e3]
  clear e1 e2 e3
  unfold Soa.val
  go_enter Try.func36, Try.ntmps36
  go_wp2_with fail
  refine (rmay x.host _).mono ?_
  rintro e w1 ⟨rfl, hb1⟩
  rw [hn]
  have c0 : w1.cell? ⟨w.heap.size, 0, none⟩ = some (.string x.host) := bcell hb1 (by go_simp)
  have c1 : w1.cell? ⟨w.heap.size, 1, none⟩ = some (.string x.mail) := bcell hb1 (by go_simp)
  have c2 : w1.cell? ⟨w.heap.size, 2, none⟩ = some (.int .i64 x.s0) := bcell hb1 (by go_simp)
  have c3 : w1.cell? ⟨w.heap.size, 3, none⟩ = some (.int .i64 x.s1) := bcell hb1 (by go_simp)
  have c4 : w1.cell? ⟨w.heap.size, 4, none⟩ = some (.int .i64 x.s2) := bcell hb1 (by go_simp)
  have c5 : w1.cell? ⟨w.heap.size, 5, none⟩ = some (.int .i64 x.s3) := bcell hb1 (by go_simp)
  have c6 : w1.cell? ⟨w.heap.size, 6, none⟩ = some (.int .i64 x.s4) := bcell hb1 (by go_simp)
  have B1 := below_next (below_alloc (Below.refl w.heap.size w) _) hb1
  go_wp2
  go_ret2
  exact ⟨rfl, B1⟩

set_option maxRecDepth 100000 in
set_option maxHeartbeats 2000000 in
theorem rsoaNo1 (x : Soa) (w : World) (hn : nameB x.host = true) (hm : nameB x.mail = false) : Calls Try.prog 36 #[x.val] w fun e w' => e = ans x.S x.E ∧ Below w.heap.size w w' := by
  have e1 : x.ok = false := by unfold Soa.ok; rw [hn, hm]; rfl
  have e2 : x.S = emp := by unfold Soa.S; rw [e1]; rfl
  have e3 : x.E = 400 := by unfold Soa.E; rw [e1]; rfl
  unfold ans
  rw [e2, e3]
  clear e1 e2 e3
  unfold Soa.val
  go_enter Try.func36, Try.ntmps36
  go_wp2_with fail
  refine (rmay x.host _).mono ?_
  rintro e w1 ⟨rfl, hb1⟩
  rw [hn]
  have c0 : w1.cell? ⟨w.heap.size, 0, none⟩ = some (.string x.host) := bcell hb1 (by go_simp)
  have c1 : w1.cell? ⟨w.heap.size, 1, none⟩ = some (.string x.mail) := bcell hb1 (by go_simp)
  have c2 : w1.cell? ⟨w.heap.size, 2, none⟩ = some (.int .i64 x.s0) := bcell hb1 (by go_simp)
  have c3 : w1.cell? ⟨w.heap.size, 3, none⟩ = some (.int .i64 x.s1) := bcell hb1 (by go_simp)
  have c4 : w1.cell? ⟨w.heap.size, 4, none⟩ = some (.int .i64 x.s2) := bcell hb1 (by go_simp)
  have c5 : w1.cell? ⟨w.heap.size, 5, none⟩ = some (.int .i64 x.s3) := bcell hb1 (by go_simp)
  have c6 : w1.cell? ⟨w.heap.size, 6, none⟩ = some (.int .i64 x.s4) := bcell hb1 (by go_simp)
  have B1 := below_next (below_alloc (Below.refl w.heap.size w) _) hb1
  go_wp2_with fail
  refine (rmay x.mail _).mono ?_
  rintro e w2 ⟨rfl, hb2⟩
  rw [hm]
  replace c0 := bcell hb2 c0
  replace c1 := bcell hb2 c1
  replace c2 := bcell hb2 c2
  replace c3 := bcell hb2 c3
  replace c4 := bcell hb2 c4
  replace c5 := bcell hb2 c5
  replace c6 := bcell hb2 c6
  have B2 := below_next B1 hb2
  go_wp2
  go_ret2
  exact ⟨rfl, B2⟩

set_option maxRecDepth 100000 in
set_option maxHeartbeats 2000000 in
theorem rsoaNo2 (x : Soa) (w : World) (hn : nameB x.host = true) (hm : nameB x.mail = true) (g0 : wideB x.s0 = false) : Calls Try.prog 36 #[x.val] w fun e w' => e = ans x.S x.E ∧ Below w.heap.size w w' := by
  have e1 : x.ok = false := by unfold Soa.ok; rw [hn, hm, g0]; rfl
  have e2 : x.S = emp := by unfold Soa.S; rw [e1]; rfl
  have e3 : x.E = 400 := by unfold Soa.E; rw [e1]; rfl
  unfold ans
  rw [e2, e3]
  clear e1 e2 e3
  unfold Soa.val
  go_enter Try.func36, Try.ntmps36
  go_wp2_with fail
  refine (rmay x.host _).mono ?_
  rintro e w1 ⟨rfl, hb1⟩
  rw [hn]
  have c0 : w1.cell? ⟨w.heap.size, 0, none⟩ = some (.string x.host) := bcell hb1 (by go_simp)
  have c1 : w1.cell? ⟨w.heap.size, 1, none⟩ = some (.string x.mail) := bcell hb1 (by go_simp)
  have c2 : w1.cell? ⟨w.heap.size, 2, none⟩ = some (.int .i64 x.s0) := bcell hb1 (by go_simp)
  have c3 : w1.cell? ⟨w.heap.size, 3, none⟩ = some (.int .i64 x.s1) := bcell hb1 (by go_simp)
  have c4 : w1.cell? ⟨w.heap.size, 4, none⟩ = some (.int .i64 x.s2) := bcell hb1 (by go_simp)
  have c5 : w1.cell? ⟨w.heap.size, 5, none⟩ = some (.int .i64 x.s3) := bcell hb1 (by go_simp)
  have c6 : w1.cell? ⟨w.heap.size, 6, none⟩ = some (.int .i64 x.s4) := bcell hb1 (by go_simp)
  have B1 := below_next (below_alloc (Below.refl w.heap.size w) _) hb1
  go_wp2_with fail
  refine (rmay x.mail _).mono ?_
  rintro e w2 ⟨rfl, hb2⟩
  rw [hm]
  replace c0 := bcell hb2 c0
  replace c1 := bcell hb2 c1
  replace c2 := bcell hb2 c2
  replace c3 := bcell hb2 c3
  replace c4 := bcell hb2 c4
  replace c5 := bcell hb2 c5
  replace c6 := bcell hb2 c6
  have B2 := below_next B1 hb2
  go_wp2_with fail
  refine (rwide x.s0 _).mono ?_
  rintro e w3 ⟨rfl, hb3⟩
  rw [g0]
  replace c0 := bcell hb3 c0
  replace c1 := bcell hb3 c1
  replace c2 := bcell hb3 c2
  replace c3 := bcell hb3 c3
  replace c4 := bcell hb3 c4
  replace c5 := bcell hb3 c5
  replace c6 := bcell hb3 c6
  have B3 := below_next B2 hb3
  go_wp2
  go_ret2
  exact ⟨rfl, B3⟩

set_option maxRecDepth 100000 in
set_option maxHeartbeats 2000000 in
theorem rsoaNo3 (x : Soa) (w : World) (hn : nameB x.host = true) (hm : nameB x.mail = true) (g0 : wideB x.s0 = true) (g1 : wideB x.s1 = false) : Calls Try.prog 36 #[x.val] w fun e w' => e = ans x.S x.E ∧ Below w.heap.size w w' := by
  have e1 : x.ok = false := by unfold Soa.ok; rw [hn, hm, g0, g1]; rfl
  have e2 : x.S = emp := by unfold Soa.S; rw [e1]; rfl
  have e3 : x.E = 400 := by unfold Soa.E; rw [e1]; rfl
  unfold ans
  rw [e2, e3]
  clear e1 e2 e3
  unfold Soa.val
  go_enter Try.func36, Try.ntmps36
  go_wp2_with fail
  refine (rmay x.host _).mono ?_
  rintro e w1 ⟨rfl, hb1⟩
  rw [hn]
  have c0 : w1.cell? ⟨w.heap.size, 0, none⟩ = some (.string x.host) := bcell hb1 (by go_simp)
  have c1 : w1.cell? ⟨w.heap.size, 1, none⟩ = some (.string x.mail) := bcell hb1 (by go_simp)
  have c2 : w1.cell? ⟨w.heap.size, 2, none⟩ = some (.int .i64 x.s0) := bcell hb1 (by go_simp)
  have c3 : w1.cell? ⟨w.heap.size, 3, none⟩ = some (.int .i64 x.s1) := bcell hb1 (by go_simp)
  have c4 : w1.cell? ⟨w.heap.size, 4, none⟩ = some (.int .i64 x.s2) := bcell hb1 (by go_simp)
  have c5 : w1.cell? ⟨w.heap.size, 5, none⟩ = some (.int .i64 x.s3) := bcell hb1 (by go_simp)
  have c6 : w1.cell? ⟨w.heap.size, 6, none⟩ = some (.int .i64 x.s4) := bcell hb1 (by go_simp)
  have B1 := below_next (below_alloc (Below.refl w.heap.size w) _) hb1
  go_wp2_with fail
  refine (rmay x.mail _).mono ?_
  rintro e w2 ⟨rfl, hb2⟩
  rw [hm]
  replace c0 := bcell hb2 c0
  replace c1 := bcell hb2 c1
  replace c2 := bcell hb2 c2
  replace c3 := bcell hb2 c3
  replace c4 := bcell hb2 c4
  replace c5 := bcell hb2 c5
  replace c6 := bcell hb2 c6
  have B2 := below_next B1 hb2
  go_wp2_with fail
  refine (rwide x.s0 _).mono ?_
  rintro e w3 ⟨rfl, hb3⟩
  rw [g0]
  replace c0 := bcell hb3 c0
  replace c1 := bcell hb3 c1
  replace c2 := bcell hb3 c2
  replace c3 := bcell hb3 c3
  replace c4 := bcell hb3 c4
  replace c5 := bcell hb3 c5
  replace c6 := bcell hb3 c6
  have B3 := below_next B2 hb3
  go_wp2_with fail
  refine (rwide x.s1 _).mono ?_
  rintro e w4 ⟨rfl, hb4⟩
  rw [g1]
  replace c0 := bcell hb4 c0
  replace c1 := bcell hb4 c1
  replace c2 := bcell hb4 c2
  replace c3 := bcell hb4 c3
  replace c4 := bcell hb4 c4
  replace c5 := bcell hb4 c5
  replace c6 := bcell hb4 c6
  have B4 := below_next B3 hb4
  go_wp2
  go_ret2
  exact ⟨rfl, B4⟩

set_option maxRecDepth 100000 in
set_option maxHeartbeats 2000000 in
theorem rsoaNo4 (x : Soa) (w : World) (hn : nameB x.host = true) (hm : nameB x.mail = true) (g0 : wideB x.s0 = true) (g1 : wideB x.s1 = true) (g2 : wideB x.s2 = false) : Calls Try.prog 36 #[x.val] w fun e w' => e = ans x.S x.E ∧ Below w.heap.size w w' := by
  have e1 : x.ok = false := by unfold Soa.ok; rw [hn, hm, g0, g1, g2]; rfl
  have e2 : x.S = emp := by unfold Soa.S; rw [e1]; rfl
  have e3 : x.E = 400 := by unfold Soa.E; rw [e1]; rfl
  unfold ans
  rw [e2, e3]
  clear e1 e2 e3
  unfold Soa.val
  go_enter Try.func36, Try.ntmps36
  go_wp2_with fail
  refine (rmay x.host _).mono ?_
  rintro e w1 ⟨rfl, hb1⟩
  rw [hn]
  have c0 : w1.cell? ⟨w.heap.size, 0, none⟩ = some (.string x.host) := bcell hb1 (by go_simp)
  have c1 : w1.cell? ⟨w.heap.size, 1, none⟩ = some (.string x.mail) := bcell hb1 (by go_simp)
  have c2 : w1.cell? ⟨w.heap.size, 2, none⟩ = some (.int .i64 x.s0) := bcell hb1 (by go_simp)
  have c3 : w1.cell? ⟨w.heap.size, 3, none⟩ = some (.int .i64 x.s1) := bcell hb1 (by go_simp)
  have c4 : w1.cell? ⟨w.heap.size, 4, none⟩ = some (.int .i64 x.s2) := bcell hb1 (by go_simp)
  have c5 : w1.cell? ⟨w.heap.size, 5, none⟩ = some (.int .i64 x.s3) := bcell hb1 (by go_simp)
  have c6 : w1.cell? ⟨w.heap.size, 6, none⟩ = some (.int .i64 x.s4) := bcell hb1 (by go_simp)
  have B1 := below_next (below_alloc (Below.refl w.heap.size w) _) hb1
  go_wp2_with fail
  refine (rmay x.mail _).mono ?_
  rintro e w2 ⟨rfl, hb2⟩
  rw [hm]
  replace c0 := bcell hb2 c0
  replace c1 := bcell hb2 c1
  replace c2 := bcell hb2 c2
  replace c3 := bcell hb2 c3
  replace c4 := bcell hb2 c4
  replace c5 := bcell hb2 c5
  replace c6 := bcell hb2 c6
  have B2 := below_next B1 hb2
  go_wp2_with fail
  refine (rwide x.s0 _).mono ?_
  rintro e w3 ⟨rfl, hb3⟩
  rw [g0]
  replace c0 := bcell hb3 c0
  replace c1 := bcell hb3 c1
  replace c2 := bcell hb3 c2
  replace c3 := bcell hb3 c3
  replace c4 := bcell hb3 c4
  replace c5 := bcell hb3 c5
  replace c6 := bcell hb3 c6
  have B3 := below_next B2 hb3
  go_wp2_with fail
  refine (rwide x.s1 _).mono ?_
  rintro e w4 ⟨rfl, hb4⟩
  rw [g1]
  replace c0 := bcell hb4 c0
  replace c1 := bcell hb4 c1
  replace c2 := bcell hb4 c2
  replace c3 := bcell hb4 c3
  replace c4 := bcell hb4 c4
  replace c5 := bcell hb4 c5
  replace c6 := bcell hb4 c6
  have B4 := below_next B3 hb4
  go_wp2_with fail
  refine (rwide x.s2 _).mono ?_
  rintro e w5 ⟨rfl, hb5⟩
  rw [g2]
  replace c0 := bcell hb5 c0
  replace c1 := bcell hb5 c1
  replace c2 := bcell hb5 c2
  replace c3 := bcell hb5 c3
  replace c4 := bcell hb5 c4
  replace c5 := bcell hb5 c5
  replace c6 := bcell hb5 c6
  have B5 := below_next B4 hb5
  go_wp2
  go_ret2
  exact ⟨rfl, B5⟩

set_option maxRecDepth 100000 in
set_option maxHeartbeats 2000000 in
theorem rsoaNo5 (x : Soa) (w : World) (hn : nameB x.host = true) (hm : nameB x.mail = true) (g0 : wideB x.s0 = true) (g1 : wideB x.s1 = true) (g2 : wideB x.s2 = true) (g3 : wideB x.s3 = false) : Calls Try.prog 36 #[x.val] w fun e w' => e = ans x.S x.E ∧ Below w.heap.size w w' := by
  have e1 : x.ok = false := by unfold Soa.ok; rw [hn, hm, g0, g1, g2, g3]; rfl
  have e2 : x.S = emp := by unfold Soa.S; rw [e1]; rfl
  have e3 : x.E = 400 := by unfold Soa.E; rw [e1]; rfl
  unfold ans
  rw [e2, e3]
  clear e1 e2 e3
  unfold Soa.val
  go_enter Try.func36, Try.ntmps36
  go_wp2_with fail
  refine (rmay x.host _).mono ?_
  rintro e w1 ⟨rfl, hb1⟩
  rw [hn]
  have c0 : w1.cell? ⟨w.heap.size, 0, none⟩ = some (.string x.host) := bcell hb1 (by go_simp)
  have c1 : w1.cell? ⟨w.heap.size, 1, none⟩ = some (.string x.mail) := bcell hb1 (by go_simp)
  have c2 : w1.cell? ⟨w.heap.size, 2, none⟩ = some (.int .i64 x.s0) := bcell hb1 (by go_simp)
  have c3 : w1.cell? ⟨w.heap.size, 3, none⟩ = some (.int .i64 x.s1) := bcell hb1 (by go_simp)
  have c4 : w1.cell? ⟨w.heap.size, 4, none⟩ = some (.int .i64 x.s2) := bcell hb1 (by go_simp)
  have c5 : w1.cell? ⟨w.heap.size, 5, none⟩ = some (.int .i64 x.s3) := bcell hb1 (by go_simp)
  have c6 : w1.cell? ⟨w.heap.size, 6, none⟩ = some (.int .i64 x.s4) := bcell hb1 (by go_simp)
  have B1 := below_next (below_alloc (Below.refl w.heap.size w) _) hb1
  go_wp2_with fail
  refine (rmay x.mail _).mono ?_
  rintro e w2 ⟨rfl, hb2⟩
  rw [hm]
  replace c0 := bcell hb2 c0
  replace c1 := bcell hb2 c1
  replace c2 := bcell hb2 c2
  replace c3 := bcell hb2 c3
  replace c4 := bcell hb2 c4
  replace c5 := bcell hb2 c5
  replace c6 := bcell hb2 c6
  have B2 := below_next B1 hb2
  go_wp2_with fail
  refine (rwide x.s0 _).mono ?_
  rintro e w3 ⟨rfl, hb3⟩
  rw [g0]
  replace c0 := bcell hb3 c0
  replace c1 := bcell hb3 c1
  replace c2 := bcell hb3 c2
  replace c3 := bcell hb3 c3
  replace c4 := bcell hb3 c4
  replace c5 := bcell hb3 c5
  replace c6 := bcell hb3 c6
  have B3 := below_next B2 hb3
  go_wp2_with fail
  refine (rwide x.s1 _).mono ?_
  rintro e w4 ⟨rfl, hb4⟩
  rw [g1]
  replace c0 := bcell hb4 c0
  replace c1 := bcell hb4 c1
  replace c2 := bcell hb4 c2
  replace c3 := bcell hb4 c3
  replace c4 := bcell hb4 c4
  replace c5 := bcell hb4 c5
  replace c6 := bcell hb4 c6
  have B4 := below_next B3 hb4
  go_wp2_with fail
  refine (rwide x.s2 _).mono ?_
  rintro e w5 ⟨rfl, hb5⟩
  rw [g2]
  replace c0 := bcell hb5 c0
  replace c1 := bcell hb5 c1
  replace c2 := bcell hb5 c2
  replace c3 := bcell hb5 c3
  replace c4 := bcell hb5 c4
  replace c5 := bcell hb5 c5
  replace c6 := bcell hb5 c6
  have B5 := below_next B4 hb5
  go_wp2_with fail
  refine (rwide x.s3 _).mono ?_
  rintro e w6 ⟨rfl, hb6⟩
  rw [g3]
  replace c0 := bcell hb6 c0
  replace c1 := bcell hb6 c1
  replace c2 := bcell hb6 c2
  replace c3 := bcell hb6 c3
  replace c4 := bcell hb6 c4
  replace c5 := bcell hb6 c5
  replace c6 := bcell hb6 c6
  have B6 := below_next B5 hb6
  go_wp2
  go_ret2
  exact ⟨rfl, B6⟩

set_option maxRecDepth 100000 in
set_option maxHeartbeats 2000000 in
theorem rsoaNo6 (x : Soa) (w : World) (hn : nameB x.host = true) (hm : nameB x.mail = true) (g0 : wideB x.s0 = true) (g1 : wideB x.s1 = true) (g2 : wideB x.s2 = true) (g3 : wideB x.s3 = true) (g4 : wideB x.s4 = false) : Calls Try.prog 36 #[x.val] w fun e w' => e = ans x.S x.E ∧ Below w.heap.size w w' := by
  have e1 : x.ok = false := by unfold Soa.ok; rw [hn, hm, g0, g1, g2, g3, g4]; rfl
  have e2 : x.S = emp := by unfold Soa.S; rw [e1]; rfl
  have e3 : x.E = 400 := by unfold Soa.E; rw [e1]; rfl
  unfold ans
  rw [e2, e3]
  clear e1 e2 e3
  unfold Soa.val
  go_enter Try.func36, Try.ntmps36
  go_wp2_with fail
  refine (rmay x.host _).mono ?_
  rintro e w1 ⟨rfl, hb1⟩
  rw [hn]
  have c0 : w1.cell? ⟨w.heap.size, 0, none⟩ = some (.string x.host) := bcell hb1 (by go_simp)
  have c1 : w1.cell? ⟨w.heap.size, 1, none⟩ = some (.string x.mail) := bcell hb1 (by go_simp)
  have c2 : w1.cell? ⟨w.heap.size, 2, none⟩ = some (.int .i64 x.s0) := bcell hb1 (by go_simp)
  have c3 : w1.cell? ⟨w.heap.size, 3, none⟩ = some (.int .i64 x.s1) := bcell hb1 (by go_simp)
  have c4 : w1.cell? ⟨w.heap.size, 4, none⟩ = some (.int .i64 x.s2) := bcell hb1 (by go_simp)
  have c5 : w1.cell? ⟨w.heap.size, 5, none⟩ = some (.int .i64 x.s3) := bcell hb1 (by go_simp)
  have c6 : w1.cell? ⟨w.heap.size, 6, none⟩ = some (.int .i64 x.s4) := bcell hb1 (by go_simp)
  have B1 := below_next (below_alloc (Below.refl w.heap.size w) _) hb1
  go_wp2_with fail
  refine (rmay x.mail _).mono ?_
  rintro e w2 ⟨rfl, hb2⟩
  rw [hm]
  replace c0 := bcell hb2 c0
  replace c1 := bcell hb2 c1
  replace c2 := bcell hb2 c2
  replace c3 := bcell hb2 c3
  replace c4 := bcell hb2 c4
  replace c5 := bcell hb2 c5
  replace c6 := bcell hb2 c6
  have B2 := below_next B1 hb2
  go_wp2_with fail
  refine (rwide x.s0 _).mono ?_
  rintro e w3 ⟨rfl, hb3⟩
  rw [g0]
  replace c0 := bcell hb3 c0
  replace c1 := bcell hb3 c1
  replace c2 := bcell hb3 c2
  replace c3 := bcell hb3 c3
  replace c4 := bcell hb3 c4
  replace c5 := bcell hb3 c5
  replace c6 := bcell hb3 c6
  have B3 := below_next B2 hb3
  go_wp2_with fail
  refine (rwide x.s1 _).mono ?_
  rintro e w4 ⟨rfl, hb4⟩
  rw [g1]
  replace c0 := bcell hb4 c0
  replace c1 := bcell hb4 c1
  replace c2 := bcell hb4 c2
  replace c3 := bcell hb4 c3
  replace c4 := bcell hb4 c4
  replace c5 := bcell hb4 c5
  replace c6 := bcell hb4 c6
  have B4 := below_next B3 hb4
  go_wp2_with fail
  refine (rwide x.s2 _).mono ?_
  rintro e w5 ⟨rfl, hb5⟩
  rw [g2]
  replace c0 := bcell hb5 c0
  replace c1 := bcell hb5 c1
  replace c2 := bcell hb5 c2
  replace c3 := bcell hb5 c3
  replace c4 := bcell hb5 c4
  replace c5 := bcell hb5 c5
  replace c6 := bcell hb5 c6
  have B5 := below_next B4 hb5
  go_wp2_with fail
  refine (rwide x.s3 _).mono ?_
  rintro e w6 ⟨rfl, hb6⟩
  rw [g3]
  replace c0 := bcell hb6 c0
  replace c1 := bcell hb6 c1
  replace c2 := bcell hb6 c2
  replace c3 := bcell hb6 c3
  replace c4 := bcell hb6 c4
  replace c5 := bcell hb6 c5
  replace c6 := bcell hb6 c6
  have B6 := below_next B5 hb6
  go_wp2_with fail
  refine (rwide x.s4 _).mono ?_
  rintro e w7 ⟨rfl, hb7⟩
  rw [g4]
  replace c0 := bcell hb7 c0
  replace c1 := bcell hb7 c1
  replace c2 := bcell hb7 c2
  replace c3 := bcell hb7 c3
  replace c4 := bcell hb7 c4
  replace c5 := bcell hb7 c5
  replace c6 := bcell hb7 c6
  have B7 := below_next B6 hb7
  go_wp2
  go_ret2
  exact ⟨rfl, B7⟩

set_option maxRecDepth 100000 in
set_option maxHeartbeats 2000000 in
theorem rsoaYes (x : Soa) (w : World) (hn : nameB x.host = true) (hm : nameB x.mail = true) (g0 : wideB x.s0 = true) (g1 : wideB x.s1 = true) (g2 : wideB x.s2 = true) (g3 : wideB x.s3 = true) (g4 : wideB x.s4 = true) : Calls Try.prog 36 #[x.val] w fun e w' => e = ans x.S x.E ∧ Below w.heap.size w w' := by
  have e1 : x.ok = true := by unfold Soa.ok; rw [hn, hm, g0, g1, g2, g3, g4]; rfl
  have e2 : x.S = x.out := by unfold Soa.S; rw [e1]; rfl
  have e3 : x.E = 0 := by unfold Soa.E; rw [e1]; rfl
  unfold ans
  rw [e2, e3]
  have hz := nameB_size hn
  have hy := nameB_size hm
  have l0 : ¬ 9223372036854775807 < (x.host).size + x.mail.size := by (try simp only [ByteArray.size_append, p32_size]); omega
  have l1 : ¬ 9223372036854775807 < (x.host ++ x.mail).size + (p32 x.s0).size := by (try simp only [ByteArray.size_append, p32_size]); omega
  have l2 : ¬ 9223372036854775807 < (x.host ++ x.mail ++ (p32 x.s0)).size + (p32 x.s1).size := by (try simp only [ByteArray.size_append, p32_size]); omega
  have l3 : ¬ 9223372036854775807 < (x.host ++ x.mail ++ (p32 x.s0) ++ (p32 x.s1)).size + (p32 x.s2).size := by (try simp only [ByteArray.size_append, p32_size]); omega
  have l4 : ¬ 9223372036854775807 < (x.host ++ x.mail ++ (p32 x.s0) ++ (p32 x.s1) ++ (p32 x.s2)).size + (p32 x.s3).size := by (try simp only [ByteArray.size_append, p32_size]); omega
  have l5 : ¬ 9223372036854775807 < (x.host ++ x.mail ++ (p32 x.s0) ++ (p32 x.s1) ++ (p32 x.s2) ++ (p32 x.s3)).size + (p32 x.s4).size := by (try simp only [ByteArray.size_append, p32_size]); omega
  clear hz hy
  clear e1 e2 e3
  unfold Soa.val
  go_enter Try.func36, Try.ntmps36
  go_wp2_with fail
  refine (rmay x.host _).mono ?_
  rintro e w1 ⟨rfl, hb1⟩
  rw [hn]
  have c0 : w1.cell? ⟨w.heap.size, 0, none⟩ = some (.string x.host) := bcell hb1 (by go_simp)
  have c1 : w1.cell? ⟨w.heap.size, 1, none⟩ = some (.string x.mail) := bcell hb1 (by go_simp)
  have c2 : w1.cell? ⟨w.heap.size, 2, none⟩ = some (.int .i64 x.s0) := bcell hb1 (by go_simp)
  have c3 : w1.cell? ⟨w.heap.size, 3, none⟩ = some (.int .i64 x.s1) := bcell hb1 (by go_simp)
  have c4 : w1.cell? ⟨w.heap.size, 4, none⟩ = some (.int .i64 x.s2) := bcell hb1 (by go_simp)
  have c5 : w1.cell? ⟨w.heap.size, 5, none⟩ = some (.int .i64 x.s3) := bcell hb1 (by go_simp)
  have c6 : w1.cell? ⟨w.heap.size, 6, none⟩ = some (.int .i64 x.s4) := bcell hb1 (by go_simp)
  have B1 := below_next (below_alloc (Below.refl w.heap.size w) _) hb1
  go_wp2_with fail
  refine (rmay x.mail _).mono ?_
  rintro e w2 ⟨rfl, hb2⟩
  rw [hm]
  replace c0 := bcell hb2 c0
  replace c1 := bcell hb2 c1
  replace c2 := bcell hb2 c2
  replace c3 := bcell hb2 c3
  replace c4 := bcell hb2 c4
  replace c5 := bcell hb2 c5
  replace c6 := bcell hb2 c6
  have B2 := below_next B1 hb2
  go_wp2_with fail
  refine (rwide x.s0 _).mono ?_
  rintro e w3 ⟨rfl, hb3⟩
  rw [g0]
  replace c0 := bcell hb3 c0
  replace c1 := bcell hb3 c1
  replace c2 := bcell hb3 c2
  replace c3 := bcell hb3 c3
  replace c4 := bcell hb3 c4
  replace c5 := bcell hb3 c5
  replace c6 := bcell hb3 c6
  have B3 := below_next B2 hb3
  go_wp2_with fail
  refine (rwide x.s1 _).mono ?_
  rintro e w4 ⟨rfl, hb4⟩
  rw [g1]
  replace c0 := bcell hb4 c0
  replace c1 := bcell hb4 c1
  replace c2 := bcell hb4 c2
  replace c3 := bcell hb4 c3
  replace c4 := bcell hb4 c4
  replace c5 := bcell hb4 c5
  replace c6 := bcell hb4 c6
  have B4 := below_next B3 hb4
  go_wp2_with fail
  refine (rwide x.s2 _).mono ?_
  rintro e w5 ⟨rfl, hb5⟩
  rw [g2]
  replace c0 := bcell hb5 c0
  replace c1 := bcell hb5 c1
  replace c2 := bcell hb5 c2
  replace c3 := bcell hb5 c3
  replace c4 := bcell hb5 c4
  replace c5 := bcell hb5 c5
  replace c6 := bcell hb5 c6
  have B5 := below_next B4 hb5
  go_wp2_with fail
  refine (rwide x.s3 _).mono ?_
  rintro e w6 ⟨rfl, hb6⟩
  rw [g3]
  replace c0 := bcell hb6 c0
  replace c1 := bcell hb6 c1
  replace c2 := bcell hb6 c2
  replace c3 := bcell hb6 c3
  replace c4 := bcell hb6 c4
  replace c5 := bcell hb6 c5
  replace c6 := bcell hb6 c6
  have B6 := below_next B5 hb6
  go_wp2_with fail
  refine (rwide x.s4 _).mono ?_
  rintro e w7 ⟨rfl, hb7⟩
  rw [g4]
  replace c0 := bcell hb7 c0
  replace c1 := bcell hb7 c1
  replace c2 := bcell hb7 c2
  replace c3 := bcell hb7 c3
  replace c4 := bcell hb7 c4
  replace c5 := bcell hb7 c5
  replace c6 := bcell hb7 c6
  have B7 := below_next B6 hb7
  go_wp2
  have r0 := cell_regrown c0
  have r1 := cell_regrown c1
  have r2 := cell_regrown c2
  have r3 := cell_regrown c3
  have r4 := cell_regrown c4
  have r5 := cell_regrown c5
  have r6 := cell_regrown c6
  refine wp_region_quiet_below (by kernel_rfl) (by kernel_rfl) ?_
  repeat (go_big_quiet_step (exact Calls.regrown_of (rbe4 _ _)))
  refine wpQuiet_nil ?_
  intro _ hw'
  obtain ⟨⟨dq, osq⟩, hw''⟩ := hw'
  subst hw''
  have hb8 := below_regrown w7 dq osq
  generalize Go.Sort.grow (redrawn w7 dq) osq = w8 at hb8 ⊢
  have B8 := below_next B7 hb8
  go_wp2
  go_ret2
  exact ⟨rfl, B8⟩

theorem rsoac (x : Soa) (w : World) : Calls Try.prog 36 #[x.val] w fun e w' => e = ans x.S x.E ∧ Below w.heap.size w w' := by
  cases hn : nameB x.host with
  | false => exact rsoaNo0 x w hn
  | true =>
  cases hm : nameB x.mail with
  | false => exact rsoaNo1 x w hn hm
  | true =>
  cases g0 : wideB x.s0 with
  | false => exact rsoaNo2 x w hn hm g0
  | true =>
  cases g1 : wideB x.s1 with
  | false => exact rsoaNo3 x w hn hm g0 g1
  | true =>
  cases g2 : wideB x.s2 with
  | false => exact rsoaNo4 x w hn hm g0 g1 g2
  | true =>
  cases g3 : wideB x.s3 with
  | false => exact rsoaNo5 x w hn hm g0 g1 g2 g3
  | true =>
  cases g4 : wideB x.s4 with
  | false => exact rsoaNo6 x w hn hm g0 g1 g2 g3 g4
  | true =>
  exact rsoaYes x w hn hm g0 g1 g2 g3 g4 
end Go.Proofs.Ytndcjleadggibaa.Rd
