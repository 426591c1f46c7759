/- The contract of rdata.Unsoa: what the call answers, for any data. -/
import Derived.Test.YtndcjleadggibaaSoaRef
namespace Go.Proofs.Ytndcjleadggibaa.Rd
open Go.RowKit Go.PlainAid Go.Proofs.Ytndcjleadggibaa.Base Go.Proofs.Ytndcjleadggibaa.Oct Go.Proofs.Ytndcjleadggibaa.Sl Go.Proofs.Ytndcjleadggibaa.Nm
set_option linter.unusedVariables false

def soa0 : Soa := ⟨emp, emp, 0, 0, 0, 0, 0⟩
/-- Where the two names end. -/
def eA (s : ByteArray) : Nat := (endN s 0).toNat
def eB (s : ByteArray) : Nat := (endN s (eA s)).toNat
def soaOf (s : ByteArray) : Soa := ⟨s.extract 0 (eA s), s.extract (eA s) (eB s), be4 s (eB s), be4 s (eB s + 4), be4 s (eB s + 8), be4 s (eB s + 12), be4 s (eB s + 16)⟩
def unX (s : ByteArray) : Soa := if mayD 6 s then soaOf s else soa0
def unE (s : ByteArray) : Int := if mayD 6 s then 0 else 400
theorem may6 {s : ByteArray} (h : mayD 6 s = true) : endN s 0 = eA s ∧ endN s (eA s) = eB s ∧ s.size = eB s + 20 ∧ eA s ≤ eB s ∧ s.size ≤ 65535 := by
  by_cases h3 : 65535 < s.size
  · unfold mayD at h; rw [if_neg (by decide), if_neg (by decide), if_pos h3] at h; cases h
  · rw [mayD_body (by decide) (by decide) h3] at h
    simp [soaB] at h
    obtain ⟨h0, h1, h2⟩ := h
    have := @endN_bd s _ h1
    unfold eB eA
    omega

theorem bfroz {w w1 : World} (h : Below w.heap.size w w1) {a : Addr} {v : Value} (hc : w.cell? a = some v) (hf : w.frozen? a = false) : w1.frozen? a = false := (h.frozen (World.block_lt_of_cell? w a hc)).trans hf

theorem below_set {B b k : Nat} {w W : World} {u : Value} (h : Below B w W) (hb : B ≤ b) : Below B w (W.setCell ⟨b, k, none⟩ u) := h.setCell (p := ⟨b, k, none⟩) hb u

theorem u32e (s : ByteArray) (i : Nat) (j : Int) (hj : j = i) (w : World) (hs : s.size ≤ 9223372036854775000) (h : i + 4 ≤ s.size) : Calls Try.prog 56 #[.string s, .int .i64 j] w fun e w' => e = .returned (.tuple #[.int .i64 (be4 s i), .int .i64 ((i + 4 : Nat) : Int), .int .i64 0]) ∧ w = w' := by
  subst hj
  have := u32 s i w hs h
  simpa using this

set_option maxRecDepth 100000 in
set_option maxHeartbeats 4000000 in
theorem unsoaNo (s : ByteArray) (w : World) (hs : s.size ≤ 9223372036854775000) (h : mayD 6 s = false) : Calls Try.prog 37 #[.string s] w fun e w' => e = .returned (.tuple #[soa0.val, .int .i64 400]) ∧ Below w.heap.size w w' := by
  go_enter Try.func37, Try.ntmps37
  go_wp2_with fail
  refine (dmay 6 s _ hs).mono ?_
  rintro e w1 ⟨rfl, hb1⟩
  rw [h]
  have c0 : w1.cell? ⟨w.heap.size, 0, none⟩ = some (.string ⟨#[]⟩) := bcell hb1 (by go_simp)
  have cf0 : w1.frozen? ⟨w.heap.size, 0, none⟩ = false := bfroz (v := .string ⟨#[]⟩) hb1 (by go_simp) (by go_simp)
  have c1 : w1.cell? ⟨w.heap.size, 1, none⟩ = some (.string ⟨#[]⟩) := bcell hb1 (by go_simp)
  have cf1 : w1.frozen? ⟨w.heap.size, 1, none⟩ = false := bfroz (v := .string ⟨#[]⟩) hb1 (by go_simp) (by go_simp)
  have c2 : w1.cell? ⟨w.heap.size, 2, none⟩ = some (.int .i64 0) := bcell hb1 (by go_simp)
  have cf2 : w1.frozen? ⟨w.heap.size, 2, none⟩ = false := bfroz (v := .int .i64 0) hb1 (by go_simp) (by go_simp)
  have c3 : w1.cell? ⟨w.heap.size, 3, none⟩ = some (.int .i64 0) := bcell hb1 (by go_simp)
  have cf3 : w1.frozen? ⟨w.heap.size, 3, none⟩ = false := bfroz (v := .int .i64 0) hb1 (by go_simp) (by go_simp)
  have c4 : w1.cell? ⟨w.heap.size, 4, none⟩ = some (.int .i64 0) := bcell hb1 (by go_simp)
  have cf4 : w1.frozen? ⟨w.heap.size, 4, none⟩ = false := bfroz (v := .int .i64 0) hb1 (by go_simp) (by go_simp)
  have c5 : w1.cell? ⟨w.heap.size, 5, none⟩ = some (.int .i64 0) := bcell hb1 (by go_simp)
  have cf5 : w1.frozen? ⟨w.heap.size, 5, none⟩ = false := bfroz (v := .int .i64 0) hb1 (by go_simp) (by go_simp)
  have c6 : w1.cell? ⟨w.heap.size, 6, none⟩ = some (.int .i64 0) := bcell hb1 (by go_simp)
  have cf6 : w1.frozen? ⟨w.heap.size, 6, none⟩ = false := bfroz (v := .int .i64 0) hb1 (by go_simp) (by go_simp)
  have B1 := below_next (below_alloc (Below.refl w.heap.size w) _) hb1
  go_wp2
  exact bodyPost_ret (v := .tuple #[soa0.val, .int .i64 400]) (by simp [results, Try.results37, go_sem, soa0, Soa.val, emp, c0, c1, c2, c3, c4, c5, c6]) rfl ⟨rfl, (by with_reducible repeat (first | exact B1 | refine below_set ?_ (Nat.le_refl _)))⟩

set_option maxRecDepth 100000 in
set_option maxHeartbeats 4000000 in
theorem unsoaYes (s : ByteArray) (w : World) (hs : s.size ≤ 9223372036854775000) (h : mayD 6 s = true) : Calls Try.prog 37 #[.string s] w fun e w' => e = .returned (.tuple #[(soaOf s).val, .int .i64 0]) ∧ Below w.heap.size w w' := by
  obtain ⟨hA, hB, hz, hAB, h6⟩ := may6 h
  have hsh := endN_shift s (eA s) (by omega)
  rw [if_neg (by omega), hB] at hsh
  obtain ⟨d, hd⟩ : ∃ d : Nat, (eB s : Int) - eA s = d := ⟨eB s - eA s, by omega⟩
  rw [hd] at hsh
  have hw : wrap64 ((eA s : Int) + d) = (eB s : Int) := by rw [w64 (by omega) (by omega)]; omega
  have hw2 : (eA s : Int) + d = (eB s : Int) := by omega
  have hle : eA s ≤ s.size := by omega
  have hsz : (s.extract (eA s) s.size).size ≤ 9223372036854775000 := by rw [ByteArray.size_extract]; omega
  have HZ := Lib.hid hz
  have HA := Lib.hid hAB
  have hlb : eB s ≤ s.size := by omega
  have e4 : ∀ k : Nat, k ≤ 16 → wrap64 ((eB s : Int) + k) = (eB s : Int) + k := fun k hk => w64 (by omega) (by omega)
  clear h6 hz hd
  go_enter Try.func37, Try.ntmps37
  go_wp2_with fail
  refine (dmay 6 s _ hs).mono ?_
  rintro e w1 ⟨rfl, hb1⟩
  rw [h]
  have c0 : w1.cell? ⟨w.heap.size, 0, none⟩ = some (.string ⟨#[]⟩) := bcell hb1 (by go_simp)
  have cf0 : w1.frozen? ⟨w.heap.size, 0, none⟩ = false := bfroz (v := .string ⟨#[]⟩) hb1 (by go_simp) (by go_simp)
  have c1 : w1.cell? ⟨w.heap.size, 1, none⟩ = some (.string ⟨#[]⟩) := bcell hb1 (by go_simp)
  have cf1 : w1.frozen? ⟨w.heap.size, 1, none⟩ = false := bfroz (v := .string ⟨#[]⟩) hb1 (by go_simp) (by go_simp)
  have c2 : w1.cell? ⟨w.heap.size, 2, none⟩ = some (.int .i64 0) := bcell hb1 (by go_simp)
  have cf2 : w1.frozen? ⟨w.heap.size, 2, none⟩ = false := bfroz (v := .int .i64 0) hb1 (by go_simp) (by go_simp)
  have c3 : w1.cell? ⟨w.heap.size, 3, none⟩ = some (.int .i64 0) := bcell hb1 (by go_simp)
  have cf3 : w1.frozen? ⟨w.heap.size, 3, none⟩ = false := bfroz (v := .int .i64 0) hb1 (by go_simp) (by go_simp)
  have c4 : w1.cell? ⟨w.heap.size, 4, none⟩ = some (.int .i64 0) := bcell hb1 (by go_simp)
  have cf4 : w1.frozen? ⟨w.heap.size, 4, none⟩ = false := bfroz (v := .int .i64 0) hb1 (by go_simp) (by go_simp)
  have c5 : w1.cell? ⟨w.heap.size, 5, none⟩ = some (.int .i64 0) := bcell hb1 (by go_simp)
  have cf5 : w1.frozen? ⟨w.heap.size, 5, none⟩ = false := bfroz (v := .int .i64 0) hb1 (by go_simp) (by go_simp)
  have c6 : w1.cell? ⟨w.heap.size, 6, none⟩ = some (.int .i64 0) := bcell hb1 (by go_simp)
  have cf6 : w1.frozen? ⟨w.heap.size, 6, none⟩ = false := bfroz (v := .int .i64 0) hb1 (by go_simp) (by go_simp)
  have B1 := below_next (below_alloc (Below.refl w.heap.size w) _) hb1
  have G1 : w.heap.size < w1.heap.size := World.block_lt_of_cell? w1 _ c0
  go_wp2_with fail
  refine (ends s _ hs).mono ?_
  rintro e w2 ⟨rfl, hb2⟩
  rw [hA]
  replace cf0 := bfroz hb2 c0 cf0
  replace c0 := bcell hb2 c0
  replace cf1 := bfroz hb2 c1 cf1
  replace c1 := bcell hb2 c1
  replace cf2 := bfroz hb2 c2 cf2
  replace c2 := bcell hb2 c2
  replace cf3 := bfroz hb2 c3 cf3
  replace c3 := bcell hb2 c3
  replace cf4 := bfroz hb2 c4 cf4
  replace c4 := bcell hb2 c4
  replace cf5 := bfroz hb2 c5 cf5
  replace c5 := bcell hb2 c5
  replace cf6 := bfroz hb2 c6 cf6
  replace c6 := bcell hb2 c6
  have B2 := below_next B1 hb2
  have hsl := slice_a s (eA s) hle w2
  go_wp2_with fail
  refine (ends _ _ hsz).mono ?_
  rintro e w3 ⟨rfl, hb3⟩
  rw [hsh]
  replace cf0 := bfroz hb3 c0 cf0
  replace c0 := bcell hb3 c0
  replace cf1 := bfroz hb3 c1 cf1
  replace c1 := bcell hb3 c1
  replace cf2 := bfroz hb3 c2 cf2
  replace c2 := bcell hb3 c2
  replace cf3 := bfroz hb3 c3 cf3
  replace c3 := bcell hb3 c3
  replace cf4 := bfroz hb3 c4 cf4
  replace c4 := bcell hb3 c4
  replace cf5 := bfroz hb3 c5 cf5
  replace c5 := bcell hb3 c5
  replace cf6 := bfroz hb3 c6 cf6
  replace c6 := bcell hb3 c6
  have B3 := below_next B2 hb3
  have G3 : w.heap.size < w3.heap.size := World.block_lt_of_cell? w3 _ c0
  have hs2 := slice_ab s (eA s) (eB s) hAB hlb
  have hs3 := slice_ab s 0 (eA s) (by omega) hle
  go_wp2
  go_region
  clear hs2 hs3 hsl
  go_wp2_with fail
  refine (words w3.heap.size _).mono ?_
  rintro e w4 ⟨rfl, hb4⟩
  have hb45 := below_next (below_drew (below_alloc (Below.refl w3.heap.size w3) _)) hb4
  replace cf0 := bfroz hb45 c0 cf0
  replace c0 := bcell hb45 c0
  replace cf1 := bfroz hb45 c1 cf1
  replace c1 := bcell hb45 c1
  replace cf2 := bfroz hb45 c2 cf2
  replace c2 := bcell hb45 c2
  replace cf3 := bfroz hb45 c3 cf3
  replace c3 := bcell hb45 c3
  replace cf4 := bfroz hb45 c4 cf4
  replace c4 := bcell hb45 c4
  replace cf5 := bfroz hb45 c5 cf5
  replace c5 := bcell hb45 c5
  replace cf6 := bfroz hb45 c6 cf6
  replace c6 := bcell hb45 c6
  have d0 : w4.cell? ⟨w3.heap.size, 0, none⟩ = some (.string (s.extract 0 (eA s))) := bcell hb4 (by go_simp)
  have df0 : w4.frozen? ⟨w3.heap.size, 0, none⟩ = false := bfroz (v := .string (s.extract 0 (eA s))) hb4 (by go_simp) (by go_simp)
  have d1 : w4.cell? ⟨w3.heap.size, 1, none⟩ = some (.string (s.extract (eA s) (eB s))) := bcell hb4 (by go_simp)
  have df1 : w4.frozen? ⟨w3.heap.size, 1, none⟩ = false := bfroz (v := .string (s.extract (eA s) (eB s))) hb4 (by go_simp) (by go_simp)
  have d2 : w4.cell? ⟨w3.heap.size, 2, none⟩ = some (.int .i64 0) := bcell hb4 (by go_simp)
  have df2 : w4.frozen? ⟨w3.heap.size, 2, none⟩ = false := bfroz (v := .int .i64 0) hb4 (by go_simp) (by go_simp)
  have d3 : w4.cell? ⟨w3.heap.size, 3, none⟩ = some (.int .i64 0) := bcell hb4 (by go_simp)
  have df3 : w4.frozen? ⟨w3.heap.size, 3, none⟩ = false := bfroz (v := .int .i64 0) hb4 (by go_simp) (by go_simp)
  have d4 : w4.cell? ⟨w3.heap.size, 4, none⟩ = some (.int .i64 0) := bcell hb4 (by go_simp)
  have df4 : w4.frozen? ⟨w3.heap.size, 4, none⟩ = false := bfroz (v := .int .i64 0) hb4 (by go_simp) (by go_simp)
  have d5 : w4.cell? ⟨w3.heap.size, 5, none⟩ = some (.int .i64 0) := bcell hb4 (by go_simp)
  have df5 : w4.frozen? ⟨w3.heap.size, 5, none⟩ = false := bfroz (v := .int .i64 0) hb4 (by go_simp) (by go_simp)
  have d6 : w4.cell? ⟨w3.heap.size, 6, none⟩ = some (.int .i64 0) := bcell hb4 (by go_simp)
  have df6 : w4.frozen? ⟨w3.heap.size, 6, none⟩ = false := bfroz (v := .int .i64 0) hb4 (by go_simp) (by go_simp)
  have B4 := below_next B3 hb45
  have G4 : w3.heap.size < w4.heap.size := World.block_lt_of_cell? w4 _ d0
  simp only [plc]
  have i0 := idx0
  have i1 := idx1
  have i2 := idx2
  have i3 := idx3
  have i4 := idx4
  go_wp2
  refine wp_loop_rounds 6 ?_
  rw [rounds_succ]
  go_wp2_with fail
  refine (u32e s (eB s + 0) _ (by first | rfl | omega) _ hs (by have := HZ.out; omega)).mono ?_
  rintro e w' ⟨rfl, rfl⟩
  go_wp2
  rw [rounds_succ]
  go_wp2_with fail
  refine (u32e s (eB s + 4) _ (by first | rfl | omega) _ hs (by have := HZ.out; omega)).mono ?_
  rintro e w' ⟨rfl, rfl⟩
  go_wp2
  rw [rounds_succ]
  go_wp2_with fail
  refine (u32e s (eB s + 8) _ (by first | rfl | omega) _ hs (by have := HZ.out; omega)).mono ?_
  rintro e w' ⟨rfl, rfl⟩
  go_wp2
  rw [rounds_succ]
  go_wp2_with fail
  refine (u32e s (eB s + 12) _ (by first | rfl | omega) _ hs (by have := HZ.out; omega)).mono ?_
  rintro e w' ⟨rfl, rfl⟩
  go_wp2
  rw [rounds_succ]
  go_wp2_with fail
  refine (u32e s (eB s + 16) _ (by first | rfl | omega) _ hs (by have := HZ.out; omega)).mono ?_
  rintro e w' ⟨rfl, rfl⟩
  go_wp2
  rw [rounds_succ]
  go_wp2
  exact bodyPost_ret (v := .tuple #[(soaOf s).val, .int .i64 0]) (by simp [results, Try.results37, go_sem, soaOf, Soa.val, c0, c1, c2, c3, c4, c5, c6]) rfl ⟨rfl, (by with_reducible repeat (first | exact B4 | refine below_set ?_ (Nat.le_refl _) | refine below_set ?_ (Nat.le_of_lt G3)))⟩
end Go.Proofs.Ytndcjleadggibaa.Rd
