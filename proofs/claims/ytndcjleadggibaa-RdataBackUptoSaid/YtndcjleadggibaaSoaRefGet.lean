/- The contract of the document's Unsoa: what the call answers, for any data. -/
import Derived.Test.YtndcjleadggibaaSoaGet
namespace Go.Proofs.Ytndcjleadggibaa.Rd
open Go.RowKit Go.PlainAid Go.Proofs.Ytndcjleadggibaa.Base Go.Proofs.Ytndcjleadggibaa.Oct Go.Proofs.Ytndcjleadggibaa.Sl Go.Proofs.Ytndcjleadggibaa.Nm
set_option linter.unusedVariables false

theorem rnum4e (s : ByteArray) (i : Nat) (j : Int) (hj : j = i) (w : World) (hs : s.size ≤ 9223372036854775000) (h : i + 4 ≤ s.size) : Calls Try.prog 53 #[.string s, .int .i64 j, .int .i64 4] w fun e w' => e = .returned (.tuple #[.int .i64 (be4 s i), .int .i64 ((i + 4 : Nat) : Int), .int .i64 0]) ∧ w = w' := by
  subst hj
  have := rnum4 s i w hs h
  simpa using this

set_option maxRecDepth 100000 in
set_option maxHeartbeats 4000000 in
theorem runsoaNo (s : ByteArray) (w : World) (hs : s.size ≤ 9223372036854775000) (h : mayD 6 s = false) : Calls Try.prog 38 #[.string s] w fun e w' => e = .returned (.tuple #[soa0.val, .int .i64 400]) ∧ Below w.heap.size w w' := by
  go_enter Try.func38, Try.ntmps38
  go_wp2_with fail
  refine (rdmay 6 s _ hs).mono ?_
  rintro e w1 ⟨rfl, hb1⟩
  rw [h]
  have c0 : w1.cell? ⟨w.heap.size, 0, none⟩ = some (.string ⟨#[]⟩) := bcell hb1 (by go_simp)
  have cf0 : w1.frozen? ⟨w.heap.size, 0, none⟩ = false := bfroz (v := .string ⟨#[]⟩) hb1 (by go_simp) (by go_simp)
  have c1 : w1.cell? ⟨w.heap.size, 1, none⟩ = some (.string ⟨#[]⟩) := bcell hb1 (by go_simp)
  have cf1 : w1.frozen? ⟨w.heap.size, 1, none⟩ = false := bfroz (v := .string ⟨#[]⟩) hb1 (by go_simp) (by go_simp)
  have c2 : w1.cell? ⟨w.heap.size, 2, none⟩ = some (.int .i64 0) := bcell hb1 (by go_simp)
  have cf2 : w1.frozen? ⟨w.heap.size, 2, none⟩ = false := bfroz (v := .int .i64 0) hb1 (by go_simp) (by go_simp)
  have c3 : w1.cell? ⟨w.heap.size, 3, none⟩ = some (.int .i64 0) := bcell hb1 (by go_simp)
  have cf3 : w1.frozen? ⟨w.heap.size, 3, none⟩ = false := bfroz (v := .int .i64 0) hb1 (by go_simp) (by go_simp)
  have c4 : w1.cell? ⟨w.heap.size, 4, none⟩ = some (.int .i64 0) := bcell hb1 (by go_simp)
  have cf4 : w1.frozen? ⟨w.heap.size, 4, none⟩ = false := bfroz (v := .int .i64 0) hb1 (by go_simp) (by go_simp)
  have c5 : w1.cell? ⟨w.heap.size, 5, none⟩ = some (.int .i64 0) := bcell hb1 (by go_simp)
  have cf5 : w1.frozen? ⟨w.heap.size, 5, none⟩ = false := bfroz (v := .int .i64 0) hb1 (by go_simp) (by go_simp)
  have c6 : w1.cell? ⟨w.heap.size, 6, none⟩ = some (.int .i64 0) := bcell hb1 (by go_simp)
  have cf6 : w1.frozen? ⟨w.heap.size, 6, none⟩ = false := bfroz (v := .int .i64 0) hb1 (by go_simp) (by go_simp)
  have B1 := below_next (below_alloc (Below.refl w.heap.size w) _) hb1
  go_wp2
  exact bodyPost_ret (v := .tuple #[soa0.val, .int .i64 400]) (by simp [results, Try.results38, go_sem, soa0, Soa.val, emp, c0, c1, c2, c3, c4, c5, c6]) rfl ⟨rfl, (by with_reducible repeat (first | exact B1 | refine below_set ?_ (Nat.le_refl _)))⟩

set_option maxRecDepth 100000 in
set_option maxHeartbeats 4000000 in
theorem runsoaYes (s : ByteArray) (w : World) (hs : s.size ≤ 9223372036854775000) (h : mayD 6 s = true) : Calls Try.prog 38 #[.string s] w fun e w' => e = .returned (.tuple #[(soaOf s).val, .int .i64 0]) ∧ Below w.heap.size w w' := by
  obtain ⟨hA, hB, hz, hAB, h6⟩ := may6 h
  have hle : eA s ≤ s.size := by omega
  have HZ := Lib.hid hz
  have HA := Lib.hid hAB
  have hlb : eB s ≤ s.size := by omega
  have k4 : wrap64 ((eB s : Int) + 4) = (eB s : Int) + 4 := w64 (by omega) (by omega)
  have k8 : wrap64 ((eB s : Int) + 8) = (eB s : Int) + 8 := w64 (by omega) (by omega)
  have k12 : wrap64 ((eB s : Int) + 12) = (eB s : Int) + 12 := w64 (by omega) (by omega)
  have k16 : wrap64 ((eB s : Int) + 16) = (eB s : Int) + 16 := w64 (by omega) (by omega)
  clear h6 hz
  go_enter Try.func38, Try.ntmps38
  go_wp2_with fail
  refine (rdmay 6 s _ hs).mono ?_
  rintro e w1 ⟨rfl, hb1⟩
  rw [h]
  have c0 : w1.cell? ⟨w.heap.size, 0, none⟩ = some (.string ⟨#[]⟩) := bcell hb1 (by go_simp)
  have cf0 : w1.frozen? ⟨w.heap.size, 0, none⟩ = false := bfroz (v := .string ⟨#[]⟩) hb1 (by go_simp) (by go_simp)
  have c1 : w1.cell? ⟨w.heap.size, 1, none⟩ = some (.string ⟨#[]⟩) := bcell hb1 (by go_simp)
  have cf1 : w1.frozen? ⟨w.heap.size, 1, none⟩ = false := bfroz (v := .string ⟨#[]⟩) hb1 (by go_simp) (by go_simp)
  have c2 : w1.cell? ⟨w.heap.size, 2, none⟩ = some (.int .i64 0) := bcell hb1 (by go_simp)
  have cf2 : w1.frozen? ⟨w.heap.size, 2, none⟩ = false := bfroz (v := .int .i64 0) hb1 (by go_simp) (by go_simp)
  have c3 : w1.cell? ⟨w.heap.size, 3, none⟩ = some (.int .i64 0) := bcell hb1 (by go_simp)
  have cf3 : w1.frozen? ⟨w.heap.size, 3, none⟩ = false := bfroz (v := .int .i64 0) hb1 (by go_simp) (by go_simp)
  have c4 : w1.cell? ⟨w.heap.size, 4, none⟩ = some (.int .i64 0) := bcell hb1 (by go_simp)
  have cf4 : w1.frozen? ⟨w.heap.size, 4, none⟩ = false := bfroz (v := .int .i64 0) hb1 (by go_simp) (by go_simp)
  have c5 : w1.cell? ⟨w.heap.size, 5, none⟩ = some (.int .i64 0) := bcell hb1 (by go_simp)
  have cf5 : w1.frozen? ⟨w.heap.size, 5, none⟩ = false := bfroz (v := .int .i64 0) hb1 (by go_simp) (by go_simp)
  have c6 : w1.cell? ⟨w.heap.size, 6, none⟩ = some (.int .i64 0) := bcell hb1 (by go_simp)
  have cf6 : w1.frozen? ⟨w.heap.size, 6, none⟩ = false := bfroz (v := .int .i64 0) hb1 (by go_simp) (by go_simp)
  have B1 := below_next (below_alloc (Below.refl w.heap.size w) _) hb1
  have G1 : w.heap.size < w1.heap.size := World.block_lt_of_cell? w1 _ c0
  go_wp2_with fail
  refine (whole s 0 _ hs (by omega)).mono ?_
  rintro e w2 ⟨rfl, hb2⟩
  rw [hA]
  replace cf0 := bfroz hb2 c0 cf0
  replace c0 := bcell hb2 c0
  replace cf1 := bfroz hb2 c1 cf1
  replace c1 := bcell hb2 c1
  replace cf2 := bfroz hb2 c2 cf2
  replace c2 := bcell hb2 c2
  replace cf3 := bfroz hb2 c3 cf3
  replace c3 := bcell hb2 c3
  replace cf4 := bfroz hb2 c4 cf4
  replace c4 := bcell hb2 c4
  replace cf5 := bfroz hb2 c5 cf5
  replace c5 := bcell hb2 c5
  replace cf6 := bfroz hb2 c6 cf6
  replace c6 := bcell hb2 c6
  have B2 := below_next B1 hb2
  go_wp2_with fail
  refine (whole s (eA s) _ hs hle).mono ?_
  rintro e w3 ⟨rfl, hb3⟩
  rw [hB]
  replace cf0 := bfroz hb3 c0 cf0
  replace c0 := bcell hb3 c0
  replace cf1 := bfroz hb3 c1 cf1
  replace c1 := bcell hb3 c1
  replace cf2 := bfroz hb3 c2 cf2
  replace c2 := bcell hb3 c2
  replace cf3 := bfroz hb3 c3 cf3
  replace c3 := bcell hb3 c3
  replace cf4 := bfroz hb3 c4 cf4
  replace c4 := bcell hb3 c4
  replace cf5 := bfroz hb3 c5 cf5
  replace c5 := bcell hb3 c5
  replace cf6 := bfroz hb3 c6 cf6
  replace c6 := bcell hb3 c6
  have B3 := below_next B2 hb3
  have G3 : w.heap.size < w3.heap.size := World.block_lt_of_cell? w3 _ c0
  have hs2 := slice_ab s (eA s) (eB s) hAB hlb
  have hs3 := slice_ab s 0 (eA s) (by omega) hle
  go_wp2
  go_region
  clear hs2 hs3
  go_wp2_with fail
  refine (rnum4e s (eB s + 0) _ (by first | rfl | omega) _ hs (by have := HZ.out; omega)).mono ?_
  rintro e w' ⟨rfl, rfl⟩
  go_wp2_with fail
  refine (rnum4e s (eB s + 4) _ (by first | rfl | omega) _ hs (by have := HZ.out; omega)).mono ?_
  rintro e w' ⟨rfl, rfl⟩
  go_wp2_with fail
  refine (rnum4e s (eB s + 8) _ (by first | rfl | omega) _ hs (by have := HZ.out; omega)).mono ?_
  rintro e w' ⟨rfl, rfl⟩
  go_wp2_with fail
  refine (rnum4e s (eB s + 12) _ (by first | rfl | omega) _ hs (by have := HZ.out; omega)).mono ?_
  rintro e w' ⟨rfl, rfl⟩
  go_wp2_with fail
  refine (rnum4e s (eB s + 16) _ (by first | rfl | omega) _ hs (by have := HZ.out; omega)).mono ?_
  rintro e w' ⟨rfl, rfl⟩
  go_wp2
  refine world_abs (P := fun W => bodyPost _ _ _ _ _ W) ?_
  intro W hW
  have x0 : W.cell? ⟨w.heap.size, 0, none⟩ = some (.string (s.extract 0 (eA s))) := by rw [hW]; go_simp
  have x1 : W.cell? ⟨w.heap.size, 1, none⟩ = some (.string (s.extract (eA s) (eB s))) := by rw [hW]; go_simp
  have x2 : W.cell? ⟨w.heap.size, 2, none⟩ = some (.int .i64 (be4 s (eB s))) := by rw [hW]; go_simp
  have x3 : W.cell? ⟨w.heap.size, 3, none⟩ = some (.int .i64 (be4 s (eB s + 4))) := by rw [hW]; go_simp
  have x4 : W.cell? ⟨w.heap.size, 4, none⟩ = some (.int .i64 (be4 s (eB s + 8))) := by rw [hW]; go_simp
  have x5 : W.cell? ⟨w.heap.size, 5, none⟩ = some (.int .i64 (be4 s (eB s + 12))) := by rw [hW]; go_simp
  have x6 : W.cell? ⟨w.heap.size, 6, none⟩ = some (.int .i64 (be4 s (eB s + 16))) := by rw [hW]; go_simp
  have BW : Below w.heap.size w W := by rw [hW]; with_reducible repeat (first | exact B3 | refine below_set ?_ (Nat.le_refl _) | refine below_set ?_ (Nat.le_of_lt G3) | refine below_drew ?_ | refine below_alloc ?_ _)
  clear hW
  exact bodyPost_ret (v := .tuple #[(soaOf s).val, .int .i64 0]) (by simp [results, Try.results38, go_sem, soaOf, Soa.val, x0, x1, x2, x3, x4, x5, x6]) rfl ⟨rfl, BW⟩
theorem unsoac (s : ByteArray) (w : World) (hs : s.size ≤ 9223372036854775000) : Calls Try.prog 37 #[.string s] w fun e w' => e = .returned (.tuple #[(unX s).val, .int .i64 (unE s)]) ∧ Below w.heap.size w w' := by
  unfold unX unE
  cases h : mayD 6 s with
  | true => exact unsoaYes s w hs h
  | false => exact unsoaNo s w hs h
theorem runsoac (s : ByteArray) (w : World) (hs : s.size ≤ 9223372036854775000) : Calls Try.prog 38 #[.string s] w fun e w' => e = .returned (.tuple #[(unX s).val, .int .i64 (unE s)]) ∧ Below w.heap.size w w' := by
  unfold unX unE
  cases h : mayD 6 s with
  | true => exact runsoaYes s w hs h
  | false => exact runsoaNo s w hs h
end Go.Proofs.Ytndcjleadggibaa.Rd
