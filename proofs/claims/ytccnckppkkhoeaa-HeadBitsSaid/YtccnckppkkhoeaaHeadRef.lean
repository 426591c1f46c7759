/- Contracts of the document's PutHead: what each call answers, for every header and counts. -/
import Derived.Test.YtccnckppkkhoeaaHead
import Derived.Lib.QuietBelow
import Derived.BigQuiet
namespace Go.Proofs.Ytccnckppkkhoeaa.Hd
open Go.RowKit Go.PlainAid Go.Proofs.Ytccnckppkkhoeaa.Base Go.Proofs.Ytccnckppkkhoeaa.Oct
set_option linter.unusedVariables false

set_option maxHeartbeats 400000 in
theorem rbit15 (b : Bool) (w : World) : Calls Try.prog 43 #[.bool b, .int .i64 15] w fun e w' => e = .returned (.int .i64 (bif b then 32768 else 0)) ∧ w = w' := by
  cases b <;> (go_enter Try.func43, Try.ntmps43; go_wp2; go_ret; exact ⟨rfl, rfl⟩)
set_option maxHeartbeats 400000 in
theorem rbit10 (b : Bool) (w : World) : Calls Try.prog 43 #[.bool b, .int .i64 10] w fun e w' => e = .returned (.int .i64 (bif b then 1024 else 0)) ∧ w = w' := by
  cases b <;> (go_enter Try.func43, Try.ntmps43; go_wp2; go_ret; exact ⟨rfl, rfl⟩)
set_option maxHeartbeats 400000 in
theorem rbit9 (b : Bool) (w : World) : Calls Try.prog 43 #[.bool b, .int .i64 9] w fun e w' => e = .returned (.int .i64 (bif b then 512 else 0)) ∧ w = w' := by
  cases b <;> (go_enter Try.func43, Try.ntmps43; go_wp2; go_ret; exact ⟨rfl, rfl⟩)
set_option maxHeartbeats 400000 in
theorem rbit8 (b : Bool) (w : World) : Calls Try.prog 43 #[.bool b, .int .i64 8] w fun e w' => e = .returned (.int .i64 (bif b then 256 else 0)) ∧ w = w' := by
  cases b <;> (go_enter Try.func43, Try.ntmps43; go_wp2; go_ret; exact ⟨rfl, rfl⟩)
set_option maxHeartbeats 400000 in
theorem rbit7 (b : Bool) (w : World) : Calls Try.prog 43 #[.bool b, .int .i64 7] w fun e w' => e = .returned (.int .i64 (bif b then 128 else 0)) ∧ w = w' := by
  cases b <;> (go_enter Try.func43, Try.ntmps43; go_wp2; go_ret; exact ⟨rfl, rfl⟩)
theorem rbit_any (b : Bool) (k : Int) (w : World) (hk : k = 15 ∨ k = 10 ∨ k = 9 ∨ k = 8 ∨ k = 7) : Calls Try.prog 43 #[.bool b, .int .i64 k] w fun e w' => e = .returned (.int .i64 (bitW b k)) ∧ Below w.heap.size w w' := by
  rcases hk with rfl | rfl | rfl | rfl | rfl
  · exact (rbit15 b w).mono fun _ _ h => ⟨h.1, h.2 ▸ Below.refl _ _⟩
  · exact (rbit10 b w).mono fun _ _ h => ⟨h.1, h.2 ▸ Below.refl _ _⟩
  · exact (rbit9 b w).mono fun _ _ h => ⟨h.1, h.2 ▸ Below.refl _ _⟩
  · exact (rbit8 b w).mono fun _ _ h => ⟨h.1, h.2 ▸ Below.refl _ _⟩
  · exact (rbit7 b w).mono fun _ _ h => ⟨h.1, h.2 ▸ Below.refl _ _⟩
set_option maxHeartbeats 1000000 in
theorem rput_t0 (h : Head) (a b c d : Int) (w : World)  (hx : h.id < 0) :
    Calls Try.prog 25 #[h.val, arr4 a b c d] w fun e w' => e = .returned (.tuple #[.string ⟨#[]⟩, .int .i64 600]) ∧ Below w.heap.size w w' := by
  unfold Head.val arr4
  have q0 : decide (h.id < 0) = true := by simp; omega
  go_enter Try.func25, Try.ntmps25
  go_wp2
  go_ret2
  exact ⟨rfl, below_alloc (below_alloc (Below.refl _ _) _) _⟩
set_option maxHeartbeats 1000000 in
theorem rput_t1 (h : Head) (a b c d : Int) (w : World) (x0 : ¬ h.id < 0) (hx : 65535 < h.id) :
    Calls Try.prog 25 #[h.val, arr4 a b c d] w fun e w' => e = .returned (.tuple #[.string ⟨#[]⟩, .int .i64 600]) ∧ Below w.heap.size w w' := by
  unfold Head.val arr4
  have q0 : decide (h.id < 0) = false := by simp; omega
  have q1 : decide (65535 < h.id) = true := by simp; omega
  go_enter Try.func25, Try.ntmps25
  go_wp2
  go_ret2
  exact ⟨rfl, below_alloc (below_alloc (Below.refl _ _) _) _⟩
set_option maxHeartbeats 1000000 in
theorem rput_t2 (h : Head) (a b c d : Int) (w : World) (x0 : ¬ h.id < 0) (x1 : ¬ 65535 < h.id) (hx : h.op < 0) :
    Calls Try.prog 25 #[h.val, arr4 a b c d] w fun e w' => e = .returned (.tuple #[.string ⟨#[]⟩, .int .i64 600]) ∧ Below w.heap.size w w' := by
  unfold Head.val arr4
  have q0 : decide (h.id < 0) = false := by simp; omega
  have q1 : decide (65535 < h.id) = false := by simp; omega
  have q2 : decide (h.op < 0) = true := by simp; omega
  go_enter Try.func25, Try.ntmps25
  go_wp2
  go_ret2
  exact ⟨rfl, below_alloc (below_alloc (Below.refl _ _) _) _⟩
set_option maxHeartbeats 1000000 in
theorem rput_t3 (h : Head) (a b c d : Int) (w : World) (x0 : ¬ h.id < 0) (x1 : ¬ 65535 < h.id) (x2 : ¬ h.op < 0) (hx : 15 < h.op) :
    Calls Try.prog 25 #[h.val, arr4 a b c d] w fun e w' => e = .returned (.tuple #[.string ⟨#[]⟩, .int .i64 600]) ∧ Below w.heap.size w w' := by
  unfold Head.val arr4
  have q0 : decide (h.id < 0) = false := by simp; omega
  have q1 : decide (65535 < h.id) = false := by simp; omega
  have q2 : decide (h.op < 0) = false := by simp; omega
  have q3 : decide (15 < h.op) = true := by simp; omega
  go_enter Try.func25, Try.ntmps25
  go_wp2
  go_ret2
  exact ⟨rfl, below_alloc (below_alloc (Below.refl _ _) _) _⟩
set_option maxHeartbeats 1000000 in
theorem rput_t4 (h : Head) (a b c d : Int) (w : World) (x0 : ¬ h.id < 0) (x1 : ¬ 65535 < h.id) (x2 : ¬ h.op < 0) (x3 : ¬ 15 < h.op) (hx : h.rc < 0) :
    Calls Try.prog 25 #[h.val, arr4 a b c d] w fun e w' => e = .returned (.tuple #[.string ⟨#[]⟩, .int .i64 600]) ∧ Below w.heap.size w w' := by
  unfold Head.val arr4
  have q0 : decide (h.id < 0) = false := by simp; omega
  have q1 : decide (65535 < h.id) = false := by simp; omega
  have q2 : decide (h.op < 0) = false := by simp; omega
  have q3 : decide (15 < h.op) = false := by simp; omega
  have q4 : decide (h.rc < 0) = true := by simp; omega
  go_enter Try.func25, Try.ntmps25
  go_wp2
  go_ret2
  exact ⟨rfl, below_alloc (below_alloc (Below.refl _ _) _) _⟩
set_option maxHeartbeats 1000000 in
theorem rput_t5 (h : Head) (a b c d : Int) (w : World) (x0 : ¬ h.id < 0) (x1 : ¬ 65535 < h.id) (x2 : ¬ h.op < 0) (x3 : ¬ 15 < h.op) (x4 : ¬ h.rc < 0) (hx : 15 < h.rc) :
    Calls Try.prog 25 #[h.val, arr4 a b c d] w fun e w' => e = .returned (.tuple #[.string ⟨#[]⟩, .int .i64 600]) ∧ Below w.heap.size w w' := by
  unfold Head.val arr4
  have q0 : decide (h.id < 0) = false := by simp; omega
  have q1 : decide (65535 < h.id) = false := by simp; omega
  have q2 : decide (h.op < 0) = false := by simp; omega
  have q3 : decide (15 < h.op) = false := by simp; omega
  have q4 : decide (h.rc < 0) = false := by simp; omega
  have q5 : decide (15 < h.rc) = true := by simp; omega
  go_enter Try.func25, Try.ntmps25
  go_wp2
  go_ret2
  exact ⟨rfl, below_alloc (below_alloc (Below.refl _ _) _) _⟩
set_option maxHeartbeats 1000000 in
theorem rput_t6 (h : Head) (a b c d : Int) (w : World) (x0 : ¬ h.id < 0) (x1 : ¬ 65535 < h.id) (x2 : ¬ h.op < 0) (x3 : ¬ 15 < h.op) (x4 : ¬ h.rc < 0) (x5 : ¬ 15 < h.rc) (hx : h.z < 0) :
    Calls Try.prog 25 #[h.val, arr4 a b c d] w fun e w' => e = .returned (.tuple #[.string ⟨#[]⟩, .int .i64 600]) ∧ Below w.heap.size w w' := by
  unfold Head.val arr4
  have q0 : decide (h.id < 0) = false := by simp; omega
  have q1 : decide (65535 < h.id) = false := by simp; omega
  have q2 : decide (h.op < 0) = false := by simp; omega
  have q3 : decide (15 < h.op) = false := by simp; omega
  have q4 : decide (h.rc < 0) = false := by simp; omega
  have q5 : decide (15 < h.rc) = false := by simp; omega
  have q6 : decide (h.z < 0) = true := by simp; omega
  go_enter Try.func25, Try.ntmps25
  go_wp2
  go_ret2
  exact ⟨rfl, below_alloc (below_alloc (Below.refl _ _) _) _⟩
set_option maxHeartbeats 1000000 in
theorem rput_t7 (h : Head) (a b c d : Int) (w : World) (x0 : ¬ h.id < 0) (x1 : ¬ 65535 < h.id) (x2 : ¬ h.op < 0) (x3 : ¬ 15 < h.op) (x4 : ¬ h.rc < 0) (x5 : ¬ 15 < h.rc) (x6 : ¬ h.z < 0) (hx : 7 < h.z) :
    Calls Try.prog 25 #[h.val, arr4 a b c d] w fun e w' => e = .returned (.tuple #[.string ⟨#[]⟩, .int .i64 600]) ∧ Below w.heap.size w w' := by
  unfold Head.val arr4
  have q0 : decide (h.id < 0) = false := by simp; omega
  have q1 : decide (65535 < h.id) = false := by simp; omega
  have q2 : decide (h.op < 0) = false := by simp; omega
  have q3 : decide (15 < h.op) = false := by simp; omega
  have q4 : decide (h.rc < 0) = false := by simp; omega
  have q5 : decide (15 < h.rc) = false := by simp; omega
  have q6 : decide (h.z < 0) = false := by simp; omega
  have q7 : decide (7 < h.z) = true := by simp; omega
  go_enter Try.func25, Try.ntmps25
  go_wp2
  go_ret2
  exact ⟨rfl, below_alloc (below_alloc (Below.refl _ _) _) _⟩
set_option maxHeartbeats 2000000 in
theorem rput_ok (h : Head) (a b c d : Int) (w : World) (x0 : ¬ h.id < 0) (x1 : ¬ 65535 < h.id) (x2 : ¬ h.op < 0) (x3 : ¬ 15 < h.op) (x4 : ¬ h.rc < 0) (x5 : ¬ 15 < h.rc) (x6 : ¬ h.z < 0) (x7 : ¬ 7 < h.z) (h0 : sh a) (h1 : sh b) (h2 : sh c) (h3 : sh d) :
    Calls Try.prog 25 #[h.val, arr4 a b c d] w fun e w' => e = .returned (.tuple #[.string (h.putS a b c d), .int .i64 0]) ∧ Below w.heap.size w w' := by
  unfold Head.val arr4
  unfold sh at h0
  unfold sh at h1
  unfold sh at h2
  unfold sh at h3
  have q0 : decide (h.id < 0) = false := by simp; omega
  have q1 : decide (65535 < h.id) = false := by simp; omega
  have q2 : decide (h.op < 0) = false := by simp; omega
  have q3 : decide (15 < h.op) = false := by simp; omega
  have q4 : decide (h.rc < 0) = false := by simp; omega
  have q5 : decide (15 < h.rc) = false := by simp; omega
  have q6 : decide (h.z < 0) = false := by simp; omega
  have q7 : decide (7 < h.z) = false := by simp; omega
  have q8 : decide (a < 0) = false := by simp; omega
  have q9 : decide ((65535 : Int) < a) = false := by simp; omega
  have q10 : decide (b < 0) = false := by simp; omega
  have q11 : decide ((65535 : Int) < b) = false := by simp; omega
  have q12 : decide (c < 0) = false := by simp; omega
  have q13 : decide ((65535 : Int) < c) = false := by simp; omega
  have q14 : decide (d < 0) = false := by simp; omega
  have q15 : decide ((65535 : Int) < d) = false := by simp; omega
  have z := p16_size
  go_enter Try.func25, Try.ntmps25
  go_wp2_with fail
  refine world_abs (P := fun W => Code.wp _ _ _ _ W) ?_
  intro w1 hw1
  have k0 : w1.cell? ⟨w.heap.size, 0, none⟩ = some (.int .i64 h.id) := by rw [hw1]; go_simp
  have k1 : w1.cell? ⟨w.heap.size, 1, none⟩ = some (.bool h.qr) := by rw [hw1]; go_simp
  have k2 : w1.cell? ⟨w.heap.size, 2, none⟩ = some (.int .i64 h.op) := by rw [hw1]; go_simp
  have k3 : w1.cell? ⟨w.heap.size, 3, none⟩ = some (.bool h.aa) := by rw [hw1]; go_simp
  have k4 : w1.cell? ⟨w.heap.size, 4, none⟩ = some (.bool h.tc) := by rw [hw1]; go_simp
  have k5 : w1.cell? ⟨w.heap.size, 5, none⟩ = some (.bool h.rd) := by rw [hw1]; go_simp
  have k6 : w1.cell? ⟨w.heap.size, 6, none⟩ = some (.bool h.ra) := by rw [hw1]; go_simp
  have k7 : w1.cell? ⟨w.heap.size, 7, none⟩ = some (.int .i64 h.z) := by rw [hw1]; go_simp
  have k8 : w1.cell? ⟨w.heap.size, 8, none⟩ = some (.int .i64 h.rc) := by rw [hw1]; go_simp
  have m0 : w1.cell? ⟨w.heap.size + 1, 0, none⟩ = some (.int .i64 a) := by rw [hw1]; go_simp
  have m1 : w1.cell? ⟨w.heap.size + 1, 1, none⟩ = some (.int .i64 b) := by rw [hw1]; go_simp
  have m2 : w1.cell? ⟨w.heap.size + 1, 2, none⟩ = some (.int .i64 c) := by rw [hw1]; go_simp
  have m3 : w1.cell? ⟨w.heap.size + 1, 3, none⟩ = some (.int .i64 d) := by rw [hw1]; go_simp
  have hb1 : Below w.heap.size w w1 := by rw [hw1]; exact below_alloc (below_alloc (Below.refl _ _) _) _
  clear hw1
  have r0 := cell_regrown k0
  have r1 := cell_regrown k1
  have r2 := cell_regrown k2
  have r3 := cell_regrown k3
  have r4 := cell_regrown k4
  have r5 := cell_regrown k5
  have r6 := cell_regrown k6
  have r7 := cell_regrown k7
  have r8 := cell_regrown k8
  refine wp_region_quiet_below (by kernel_rfl) (by kernel_rfl) ?_
  repeat (go_big_quiet_step (exact Calls.regrown_of (rbit_any _ _ _ (by decide))))
  refine wpQuiet_nil ?_
  intro _ hw'
  obtain ⟨⟨dq, osq⟩, hw''⟩ := hw'
  subst hw''
  have hb2 := below_regrown w1 dq osq
  generalize Go.Sort.grow (redrawn w1 dq) osq = w2 at hb2 ⊢
  have n0 := bcell hb2 k0
  have o0 := bcell hb2 m0
  have o1 := bcell hb2 m1
  have o2 := bcell hb2 m2
  have o3 := bcell hb2 m3
  clear r0 r1 r2 r3 r4 r5 r6 r7 r8 k0 k1 k2 k3 k4 k5 k6 k7 k8 m0 m1 m2 m3
  go_wp2_with fail
  refine (rbe2 _ _).mono ?_
  rintro e w3 ⟨rfl, hb3⟩
  have p0 := bcell hb3 o0
  have p1 := bcell hb3 o1
  have p2 := bcell hb3 o2
  have p3 := bcell hb3 o3
  clear o0 o1 o2 o3 n0
  go_wp2_with fail
  refine (rbe2 _ _).mono ?_
  rintro e w4 ⟨rfl, hb4⟩
  have o0 := bcell hb4 p0
  have o1 := bcell hb4 p1
  have o2 := bcell hb4 p2
  have o3 := bcell hb4 p3
  clear p0 p1 p2 p3
  go_wp2_with fail
  refine wp_loop_rounds 5 ?_
  rw [rounds_succ]
  go_wp2_with fail
  refine (rbe2 _ _).mono ?_
  rintro e w5 ⟨rfl, hb5⟩
  have p0 := bcell hb5 o0
  have p1 := bcell hb5 o1
  have p2 := bcell hb5 o2
  have p3 := bcell hb5 o3
  clear o0 o1 o2 o3
  go_wp2_with fail
  rw [rounds_succ]
  go_wp2_with fail
  refine (rbe2 _ _).mono ?_
  rintro e w6 ⟨rfl, hb6⟩
  have o0 := bcell hb6 p0
  have o1 := bcell hb6 p1
  have o2 := bcell hb6 p2
  have o3 := bcell hb6 p3
  clear p0 p1 p2 p3
  go_wp2_with fail
  rw [rounds_succ]
  go_wp2_with fail
  refine (rbe2 _ _).mono ?_
  rintro e w7 ⟨rfl, hb7⟩
  have p0 := bcell hb7 o0
  have p1 := bcell hb7 o1
  have p2 := bcell hb7 o2
  have p3 := bcell hb7 o3
  clear o0 o1 o2 o3
  go_wp2_with fail
  rw [rounds_succ]
  go_wp2_with fail
  refine (rbe2 _ _).mono ?_
  rintro e w8 ⟨rfl, hb8⟩
  have o0 := bcell hb8 p0
  have o1 := bcell hb8 p1
  have o2 := bcell hb8 p2
  have o3 := bcell hb8 p3
  clear p0 p1 p2 p3
  go_wp2_with fail
  rw [rounds_succ]
  go_wp2
  go_ret2
  exact ⟨by unfold Head.putS; rw [flags_eq h (by omega) (by omega) (by omega) (by omega)]; rfl, (below_next (below_next (below_next (below_next (below_next (below_next (below_next hb1 hb2) hb3) hb4) hb5) hb6) hb7) hb8)⟩
set_option maxHeartbeats 2000000 in
theorem rput_lo0 (h : Head) (a b c d : Int) (w : World) (x0 : ¬ h.id < 0) (x1 : ¬ 65535 < h.id) (x2 : ¬ h.op < 0) (x3 : ¬ 15 < h.op) (x4 : ¬ h.rc < 0) (x5 : ¬ 15 < h.rc) (x6 : ¬ h.z < 0) (x7 : ¬ 7 < h.z)  (hx : a < 0) :
    Calls Try.prog 25 #[h.val, arr4 a b c d] w fun e w' => e = .returned (.tuple #[.string ⟨#[]⟩, .int .i64 600]) ∧ Below w.heap.size w w' := by
  unfold Head.val arr4
  have q0 : decide (h.id < 0) = false := by simp; omega
  have q1 : decide (65535 < h.id) = false := by simp; omega
  have q2 : decide (h.op < 0) = false := by simp; omega
  have q3 : decide (15 < h.op) = false := by simp; omega
  have q4 : decide (h.rc < 0) = false := by simp; omega
  have q5 : decide (15 < h.rc) = false := by simp; omega
  have q6 : decide (h.z < 0) = false := by simp; omega
  have q7 : decide (7 < h.z) = false := by simp; omega
  have q8 : decide (a < 0) = true := by simp; omega
  have z := p16_size
  go_enter Try.func25, Try.ntmps25
  go_wp2_with fail
  refine world_abs (P := fun W => Code.wp _ _ _ _ W) ?_
  intro w1 hw1
  have k0 : w1.cell? ⟨w.heap.size, 0, none⟩ = some (.int .i64 h.id) := by rw [hw1]; go_simp
  have k1 : w1.cell? ⟨w.heap.size, 1, none⟩ = some (.bool h.qr) := by rw [hw1]; go_simp
  have k2 : w1.cell? ⟨w.heap.size, 2, none⟩ = some (.int .i64 h.op) := by rw [hw1]; go_simp
  have k3 : w1.cell? ⟨w.heap.size, 3, none⟩ = some (.bool h.aa) := by rw [hw1]; go_simp
  have k4 : w1.cell? ⟨w.heap.size, 4, none⟩ = some (.bool h.tc) := by rw [hw1]; go_simp
  have k5 : w1.cell? ⟨w.heap.size, 5, none⟩ = some (.bool h.rd) := by rw [hw1]; go_simp
  have k6 : w1.cell? ⟨w.heap.size, 6, none⟩ = some (.bool h.ra) := by rw [hw1]; go_simp
  have k7 : w1.cell? ⟨w.heap.size, 7, none⟩ = some (.int .i64 h.z) := by rw [hw1]; go_simp
  have k8 : w1.cell? ⟨w.heap.size, 8, none⟩ = some (.int .i64 h.rc) := by rw [hw1]; go_simp
  have m0 : w1.cell? ⟨w.heap.size + 1, 0, none⟩ = some (.int .i64 a) := by rw [hw1]; go_simp
  have m1 : w1.cell? ⟨w.heap.size + 1, 1, none⟩ = some (.int .i64 b) := by rw [hw1]; go_simp
  have m2 : w1.cell? ⟨w.heap.size + 1, 2, none⟩ = some (.int .i64 c) := by rw [hw1]; go_simp
  have m3 : w1.cell? ⟨w.heap.size + 1, 3, none⟩ = some (.int .i64 d) := by rw [hw1]; go_simp
  have hb1 : Below w.heap.size w w1 := by rw [hw1]; exact below_alloc (below_alloc (Below.refl _ _) _) _
  clear hw1
  have r0 := cell_regrown k0
  have r1 := cell_regrown k1
  have r2 := cell_regrown k2
  have r3 := cell_regrown k3
  have r4 := cell_regrown k4
  have r5 := cell_regrown k5
  have r6 := cell_regrown k6
  have r7 := cell_regrown k7
  have r8 := cell_regrown k8
  refine wp_region_quiet_below (by kernel_rfl) (by kernel_rfl) ?_
  repeat (go_big_quiet_step (exact Calls.regrown_of (rbit_any _ _ _ (by decide))))
  refine wpQuiet_nil ?_
  intro _ hw'
  obtain ⟨⟨dq, osq⟩, hw''⟩ := hw'
  subst hw''
  have hb2 := below_regrown w1 dq osq
  generalize Go.Sort.grow (redrawn w1 dq) osq = w2 at hb2 ⊢
  have n0 := bcell hb2 k0
  have o0 := bcell hb2 m0
  have o1 := bcell hb2 m1
  have o2 := bcell hb2 m2
  have o3 := bcell hb2 m3
  clear r0 r1 r2 r3 r4 r5 r6 r7 r8 k0 k1 k2 k3 k4 k5 k6 k7 k8 m0 m1 m2 m3
  go_wp2_with fail
  refine (rbe2 _ _).mono ?_
  rintro e w3 ⟨rfl, hb3⟩
  have p0 := bcell hb3 o0
  have p1 := bcell hb3 o1
  have p2 := bcell hb3 o2
  have p3 := bcell hb3 o3
  clear o0 o1 o2 o3 n0
  go_wp2_with fail
  refine (rbe2 _ _).mono ?_
  rintro e w4 ⟨rfl, hb4⟩
  have o0 := bcell hb4 p0
  have o1 := bcell hb4 p1
  have o2 := bcell hb4 p2
  have o3 := bcell hb4 p3
  clear p0 p1 p2 p3
  go_wp2_with fail
  refine wp_loop_rounds 1 ?_
  rw [rounds_succ]
  go_wp2
  go_ret2
  exact ⟨rfl, (below_next (below_next (below_next hb1 hb2) hb3) hb4)⟩
set_option maxHeartbeats 2000000 in
theorem rput_hi0 (h : Head) (a b c d : Int) (w : World) (x0 : ¬ h.id < 0) (x1 : ¬ 65535 < h.id) (x2 : ¬ h.op < 0) (x3 : ¬ 15 < h.op) (x4 : ¬ h.rc < 0) (x5 : ¬ 15 < h.rc) (x6 : ¬ h.z < 0) (x7 : ¬ 7 < h.z)  (hx : 65535 < a) :
    Calls Try.prog 25 #[h.val, arr4 a b c d] w fun e w' => e = .returned (.tuple #[.string ⟨#[]⟩, .int .i64 600]) ∧ Below w.heap.size w w' := by
  unfold Head.val arr4
  have q0 : decide (h.id < 0) = false := by simp; omega
  have q1 : decide (65535 < h.id) = false := by simp; omega
  have q2 : decide (h.op < 0) = false := by simp; omega
  have q3 : decide (15 < h.op) = false := by simp; omega
  have q4 : decide (h.rc < 0) = false := by simp; omega
  have q5 : decide (15 < h.rc) = false := by simp; omega
  have q6 : decide (h.z < 0) = false := by simp; omega
  have q7 : decide (7 < h.z) = false := by simp; omega
  have q8 : decide (a < 0) = false := by simp; omega
  have q9 : decide ((65535 : Int) < a) = true := by simp; omega
  have z := p16_size
  go_enter Try.func25, Try.ntmps25
  go_wp2_with fail
  refine world_abs (P := fun W => Code.wp _ _ _ _ W) ?_
  intro w1 hw1
  have k0 : w1.cell? ⟨w.heap.size, 0, none⟩ = some (.int .i64 h.id) := by rw [hw1]; go_simp
  have k1 : w1.cell? ⟨w.heap.size, 1, none⟩ = some (.bool h.qr) := by rw [hw1]; go_simp
  have k2 : w1.cell? ⟨w.heap.size, 2, none⟩ = some (.int .i64 h.op) := by rw [hw1]; go_simp
  have k3 : w1.cell? ⟨w.heap.size, 3, none⟩ = some (.bool h.aa) := by rw [hw1]; go_simp
  have k4 : w1.cell? ⟨w.heap.size, 4, none⟩ = some (.bool h.tc) := by rw [hw1]; go_simp
  have k5 : w1.cell? ⟨w.heap.size, 5, none⟩ = some (.bool h.rd) := by rw [hw1]; go_simp
  have k6 : w1.cell? ⟨w.heap.size, 6, none⟩ = some (.bool h.ra) := by rw [hw1]; go_simp
  have k7 : w1.cell? ⟨w.heap.size, 7, none⟩ = some (.int .i64 h.z) := by rw [hw1]; go_simp
  have k8 : w1.cell? ⟨w.heap.size, 8, none⟩ = some (.int .i64 h.rc) := by rw [hw1]; go_simp
  have m0 : w1.cell? ⟨w.heap.size + 1, 0, none⟩ = some (.int .i64 a) := by rw [hw1]; go_simp
  have m1 : w1.cell? ⟨w.heap.size + 1, 1, none⟩ = some (.int .i64 b) := by rw [hw1]; go_simp
  have m2 : w1.cell? ⟨w.heap.size + 1, 2, none⟩ = some (.int .i64 c) := by rw [hw1]; go_simp
  have m3 : w1.cell? ⟨w.heap.size + 1, 3, none⟩ = some (.int .i64 d) := by rw [hw1]; go_simp
  have hb1 : Below w.heap.size w w1 := by rw [hw1]; exact below_alloc (below_alloc (Below.refl _ _) _) _
  clear hw1
  have r0 := cell_regrown k0
  have r1 := cell_regrown k1
  have r2 := cell_regrown k2
  have r3 := cell_regrown k3
  have r4 := cell_regrown k4
  have r5 := cell_regrown k5
  have r6 := cell_regrown k6
  have r7 := cell_regrown k7
  have r8 := cell_regrown k8
  refine wp_region_quiet_below (by kernel_rfl) (by kernel_rfl) ?_
  repeat (go_big_quiet_step (exact Calls.regrown_of (rbit_any _ _ _ (by decide))))
  refine wpQuiet_nil ?_
  intro _ hw'
  obtain ⟨⟨dq, osq⟩, hw''⟩ := hw'
  subst hw''
  have hb2 := below_regrown w1 dq osq
  generalize Go.Sort.grow (redrawn w1 dq) osq = w2 at hb2 ⊢
  have n0 := bcell hb2 k0
  have o0 := bcell hb2 m0
  have o1 := bcell hb2 m1
  have o2 := bcell hb2 m2
  have o3 := bcell hb2 m3
  clear r0 r1 r2 r3 r4 r5 r6 r7 r8 k0 k1 k2 k3 k4 k5 k6 k7 k8 m0 m1 m2 m3
  go_wp2_with fail
  refine (rbe2 _ _).mono ?_
  rintro e w3 ⟨rfl, hb3⟩
  have p0 := bcell hb3 o0
  have p1 := bcell hb3 o1
  have p2 := bcell hb3 o2
  have p3 := bcell hb3 o3
  clear o0 o1 o2 o3 n0
  go_wp2_with fail
  refine (rbe2 _ _).mono ?_
  rintro e w4 ⟨rfl, hb4⟩
  have o0 := bcell hb4 p0
  have o1 := bcell hb4 p1
  have o2 := bcell hb4 p2
  have o3 := bcell hb4 p3
  clear p0 p1 p2 p3
  go_wp2_with fail
  refine wp_loop_rounds 1 ?_
  rw [rounds_succ]
  go_wp2
  go_ret2
  exact ⟨rfl, (below_next (below_next (below_next hb1 hb2) hb3) hb4)⟩
set_option maxHeartbeats 2000000 in
theorem rput_lo1 (h : Head) (a b c d : Int) (w : World) (x0 : ¬ h.id < 0) (x1 : ¬ 65535 < h.id) (x2 : ¬ h.op < 0) (x3 : ¬ 15 < h.op) (x4 : ¬ h.rc < 0) (x5 : ¬ 15 < h.rc) (x6 : ¬ h.z < 0) (x7 : ¬ 7 < h.z) (h0 : sh a) (hx : b < 0) :
    Calls Try.prog 25 #[h.val, arr4 a b c d] w fun e w' => e = .returned (.tuple #[.string ⟨#[]⟩, .int .i64 600]) ∧ Below w.heap.size w w' := by
  unfold Head.val arr4
  unfold sh at h0
  have q0 : decide (h.id < 0) = false := by simp; omega
  have q1 : decide (65535 < h.id) = false := by simp; omega
  have q2 : decide (h.op < 0) = false := by simp; omega
  have q3 : decide (15 < h.op) = false := by simp; omega
  have q4 : decide (h.rc < 0) = false := by simp; omega
  have q5 : decide (15 < h.rc) = false := by simp; omega
  have q6 : decide (h.z < 0) = false := by simp; omega
  have q7 : decide (7 < h.z) = false := by simp; omega
  have q8 : decide (a < 0) = false := by simp; omega
  have q9 : decide ((65535 : Int) < a) = false := by simp; omega
  have q10 : decide (b < 0) = true := by simp; omega
  have z := p16_size
  go_enter Try.func25, Try.ntmps25
  go_wp2_with fail
  refine world_abs (P := fun W => Code.wp _ _ _ _ W) ?_
  intro w1 hw1
  have k0 : w1.cell? ⟨w.heap.size, 0, none⟩ = some (.int .i64 h.id) := by rw [hw1]; go_simp
  have k1 : w1.cell? ⟨w.heap.size, 1, none⟩ = some (.bool h.qr) := by rw [hw1]; go_simp
  have k2 : w1.cell? ⟨w.heap.size, 2, none⟩ = some (.int .i64 h.op) := by rw [hw1]; go_simp
  have k3 : w1.cell? ⟨w.heap.size, 3, none⟩ = some (.bool h.aa) := by rw [hw1]; go_simp
  have k4 : w1.cell? ⟨w.heap.size, 4, none⟩ = some (.bool h.tc) := by rw [hw1]; go_simp
  have k5 : w1.cell? ⟨w.heap.size, 5, none⟩ = some (.bool h.rd) := by rw [hw1]; go_simp
  have k6 : w1.cell? ⟨w.heap.size, 6, none⟩ = some (.bool h.ra) := by rw [hw1]; go_simp
  have k7 : w1.cell? ⟨w.heap.size, 7, none⟩ = some (.int .i64 h.z) := by rw [hw1]; go_simp
  have k8 : w1.cell? ⟨w.heap.size, 8, none⟩ = some (.int .i64 h.rc) := by rw [hw1]; go_simp
  have m0 : w1.cell? ⟨w.heap.size + 1, 0, none⟩ = some (.int .i64 a) := by rw [hw1]; go_simp
  have m1 : w1.cell? ⟨w.heap.size + 1, 1, none⟩ = some (.int .i64 b) := by rw [hw1]; go_simp
  have m2 : w1.cell? ⟨w.heap.size + 1, 2, none⟩ = some (.int .i64 c) := by rw [hw1]; go_simp
  have m3 : w1.cell? ⟨w.heap.size + 1, 3, none⟩ = some (.int .i64 d) := by rw [hw1]; go_simp
  have hb1 : Below w.heap.size w w1 := by rw [hw1]; exact below_alloc (below_alloc (Below.refl _ _) _) _
  clear hw1
  have r0 := cell_regrown k0
  have r1 := cell_regrown k1
  have r2 := cell_regrown k2
  have r3 := cell_regrown k3
  have r4 := cell_regrown k4
  have r5 := cell_regrown k5
  have r6 := cell_regrown k6
  have r7 := cell_regrown k7
  have r8 := cell_regrown k8
  refine wp_region_quiet_below (by kernel_rfl) (by kernel_rfl) ?_
  repeat (go_big_quiet_step (exact Calls.regrown_of (rbit_any _ _ _ (by decide))))
  refine wpQuiet_nil ?_
  intro _ hw'
  obtain ⟨⟨dq, osq⟩, hw''⟩ := hw'
  subst hw''
  have hb2 := below_regrown w1 dq osq
  generalize Go.Sort.grow (redrawn w1 dq) osq = w2 at hb2 ⊢
  have n0 := bcell hb2 k0
  have o0 := bcell hb2 m0
  have o1 := bcell hb2 m1
  have o2 := bcell hb2 m2
  have o3 := bcell hb2 m3
  clear r0 r1 r2 r3 r4 r5 r6 r7 r8 k0 k1 k2 k3 k4 k5 k6 k7 k8 m0 m1 m2 m3
  go_wp2_with fail
  refine (rbe2 _ _).mono ?_
  rintro e w3 ⟨rfl, hb3⟩
  have p0 := bcell hb3 o0
  have p1 := bcell hb3 o1
  have p2 := bcell hb3 o2
  have p3 := bcell hb3 o3
  clear o0 o1 o2 o3 n0
  go_wp2_with fail
  refine (rbe2 _ _).mono ?_
  rintro e w4 ⟨rfl, hb4⟩
  have o0 := bcell hb4 p0
  have o1 := bcell hb4 p1
  have o2 := bcell hb4 p2
  have o3 := bcell hb4 p3
  clear p0 p1 p2 p3
  go_wp2_with fail
  refine wp_loop_rounds 2 ?_
  rw [rounds_succ]
  go_wp2_with fail
  refine (rbe2 _ _).mono ?_
  rintro e w5 ⟨rfl, hb5⟩
  have p0 := bcell hb5 o0
  have p1 := bcell hb5 o1
  have p2 := bcell hb5 o2
  have p3 := bcell hb5 o3
  clear o0 o1 o2 o3
  go_wp2_with fail
  rw [rounds_succ]
  go_wp2
  go_ret2
  exact ⟨rfl, (below_next (below_next (below_next (below_next hb1 hb2) hb3) hb4) hb5)⟩
set_option maxHeartbeats 2000000 in
theorem rput_hi1 (h : Head) (a b c d : Int) (w : World) (x0 : ¬ h.id < 0) (x1 : ¬ 65535 < h.id) (x2 : ¬ h.op < 0) (x3 : ¬ 15 < h.op) (x4 : ¬ h.rc < 0) (x5 : ¬ 15 < h.rc) (x6 : ¬ h.z < 0) (x7 : ¬ 7 < h.z) (h0 : sh a) (hx : 65535 < b) :
    Calls Try.prog 25 #[h.val, arr4 a b c d] w fun e w' => e = .returned (.tuple #[.string ⟨#[]⟩, .int .i64 600]) ∧ Below w.heap.size w w' := by
  unfold Head.val arr4
  unfold sh at h0
  have q0 : decide (h.id < 0) = false := by simp; omega
  have q1 : decide (65535 < h.id) = false := by simp; omega
  have q2 : decide (h.op < 0) = false := by simp; omega
  have q3 : decide (15 < h.op) = false := by simp; omega
  have q4 : decide (h.rc < 0) = false := by simp; omega
  have q5 : decide (15 < h.rc) = false := by simp; omega
  have q6 : decide (h.z < 0) = false := by simp; omega
  have q7 : decide (7 < h.z) = false := by simp; omega
  have q8 : decide (a < 0) = false := by simp; omega
  have q9 : decide ((65535 : Int) < a) = false := by simp; omega
  have q10 : decide (b < 0) = false := by simp; omega
  have q11 : decide ((65535 : Int) < b) = true := by simp; omega
  have z := p16_size
  go_enter Try.func25, Try.ntmps25
  go_wp2_with fail
  refine world_abs (P := fun W => Code.wp _ _ _ _ W) ?_
  intro w1 hw1
  have k0 : w1.cell? ⟨w.heap.size, 0, none⟩ = some (.int .i64 h.id) := by rw [hw1]; go_simp
  have k1 : w1.cell? ⟨w.heap.size, 1, none⟩ = some (.bool h.qr) := by rw [hw1]; go_simp
  have k2 : w1.cell? ⟨w.heap.size, 2, none⟩ = some (.int .i64 h.op) := by rw [hw1]; go_simp
  have k3 : w1.cell? ⟨w.heap.size, 3, none⟩ = some (.bool h.aa) := by rw [hw1]; go_simp
  have k4 : w1.cell? ⟨w.heap.size, 4, none⟩ = some (.bool h.tc) := by rw [hw1]; go_simp
  have k5 : w1.cell? ⟨w.heap.size, 5, none⟩ = some (.bool h.rd) := by rw [hw1]; go_simp
  have k6 : w1.cell? ⟨w.heap.size, 6, none⟩ = some (.bool h.ra) := by rw [hw1]; go_simp
  have k7 : w1.cell? ⟨w.heap.size, 7, none⟩ = some (.int .i64 h.z) := by rw [hw1]; go_simp
  have k8 : w1.cell? ⟨w.heap.size, 8, none⟩ = some (.int .i64 h.rc) := by rw [hw1]; go_simp
  have m0 : w1.cell? ⟨w.heap.size + 1, 0, none⟩ = some (.int .i64 a) := by rw [hw1]; go_simp
  have m1 : w1.cell? ⟨w.heap.size + 1, 1, none⟩ = some (.int .i64 b) := by rw [hw1]; go_simp
  have m2 : w1.cell? ⟨w.heap.size + 1, 2, none⟩ = some (.int .i64 c) := by rw [hw1]; go_simp
  have m3 : w1.cell? ⟨w.heap.size + 1, 3, none⟩ = some (.int .i64 d) := by rw [hw1]; go_simp
  have hb1 : Below w.heap.size w w1 := by rw [hw1]; exact below_alloc (below_alloc (Below.refl _ _) _) _
  clear hw1
  have r0 := cell_regrown k0
  have r1 := cell_regrown k1
  have r2 := cell_regrown k2
  have r3 := cell_regrown k3
  have r4 := cell_regrown k4
  have r5 := cell_regrown k5
  have r6 := cell_regrown k6
  have r7 := cell_regrown k7
  have r8 := cell_regrown k8
  refine wp_region_quiet_below (by kernel_rfl) (by kernel_rfl) ?_
  repeat (go_big_quiet_step (exact Calls.regrown_of (rbit_any _ _ _ (by decide))))
  refine wpQuiet_nil ?_
  intro _ hw'
  obtain ⟨⟨dq, osq⟩, hw''⟩ := hw'
  subst hw''
  have hb2 := below_regrown w1 dq osq
  generalize Go.Sort.grow (redrawn w1 dq) osq = w2 at hb2 ⊢
  have n0 := bcell hb2 k0
  have o0 := bcell hb2 m0
  have o1 := bcell hb2 m1
  have o2 := bcell hb2 m2
  have o3 := bcell hb2 m3
  clear r0 r1 r2 r3 r4 r5 r6 r7 r8 k0 k1 k2 k3 k4 k5 k6 k7 k8 m0 m1 m2 m3
  go_wp2_with fail
  refine (rbe2 _ _).mono ?_
  rintro e w3 ⟨rfl, hb3⟩
  have p0 := bcell hb3 o0
  have p1 := bcell hb3 o1
  have p2 := bcell hb3 o2
  have p3 := bcell hb3 o3
  clear o0 o1 o2 o3 n0
  go_wp2_with fail
  refine (rbe2 _ _).mono ?_
  rintro e w4 ⟨rfl, hb4⟩
  have o0 := bcell hb4 p0
  have o1 := bcell hb4 p1
  have o2 := bcell hb4 p2
  have o3 := bcell hb4 p3
  clear p0 p1 p2 p3
  go_wp2_with fail
  refine wp_loop_rounds 2 ?_
  rw [rounds_succ]
  go_wp2_with fail
  refine (rbe2 _ _).mono ?_
  rintro e w5 ⟨rfl, hb5⟩
  have p0 := bcell hb5 o0
  have p1 := bcell hb5 o1
  have p2 := bcell hb5 o2
  have p3 := bcell hb5 o3
  clear o0 o1 o2 o3
  go_wp2_with fail
  rw [rounds_succ]
  go_wp2
  go_ret2
  exact ⟨rfl, (below_next (below_next (below_next (below_next hb1 hb2) hb3) hb4) hb5)⟩
set_option maxHeartbeats 2000000 in
theorem rput_lo2 (h : Head) (a b c d : Int) (w : World) (x0 : ¬ h.id < 0) (x1 : ¬ 65535 < h.id) (x2 : ¬ h.op < 0) (x3 : ¬ 15 < h.op) (x4 : ¬ h.rc < 0) (x5 : ¬ 15 < h.rc) (x6 : ¬ h.z < 0) (x7 : ¬ 7 < h.z) (h0 : sh a) (h1 : sh b) (hx : c < 0) :
    Calls Try.prog 25 #[h.val, arr4 a b c d] w fun e w' => e = .returned (.tuple #[.string ⟨#[]⟩, .int .i64 600]) ∧ Below w.heap.size w w' := by
  unfold Head.val arr4
  unfold sh at h0
  unfold sh at h1
  have q0 : decide (h.id < 0) = false := by simp; omega
  have q1 : decide (65535 < h.id) = false := by simp; omega
  have q2 : decide (h.op < 0) = false := by simp; omega
  have q3 : decide (15 < h.op) = false := by simp; omega
  have q4 : decide (h.rc < 0) = false := by simp; omega
  have q5 : decide (15 < h.rc) = false := by simp; omega
  have q6 : decide (h.z < 0) = false := by simp; omega
  have q7 : decide (7 < h.z) = false := by simp; omega
  have q8 : decide (a < 0) = false := by simp; omega
  have q9 : decide ((65535 : Int) < a) = false := by simp; omega
  have q10 : decide (b < 0) = false := by simp; omega
  have q11 : decide ((65535 : Int) < b) = false := by simp; omega
  have q12 : decide (c < 0) = true := by simp; omega
  have z := p16_size
  go_enter Try.func25, Try.ntmps25
  go_wp2_with fail
  refine world_abs (P := fun W => Code.wp _ _ _ _ W) ?_
  intro w1 hw1
  have k0 : w1.cell? ⟨w.heap.size, 0, none⟩ = some (.int .i64 h.id) := by rw [hw1]; go_simp
  have k1 : w1.cell? ⟨w.heap.size, 1, none⟩ = some (.bool h.qr) := by rw [hw1]; go_simp
  have k2 : w1.cell? ⟨w.heap.size, 2, none⟩ = some (.int .i64 h.op) := by rw [hw1]; go_simp
  have k3 : w1.cell? ⟨w.heap.size, 3, none⟩ = some (.bool h.aa) := by rw [hw1]; go_simp
  have k4 : w1.cell? ⟨w.heap.size, 4, none⟩ = some (.bool h.tc) := by rw [hw1]; go_simp
  have k5 : w1.cell? ⟨w.heap.size, 5, none⟩ = some (.bool h.rd) := by rw [hw1]; go_simp
  have k6 : w1.cell? ⟨w.heap.size, 6, none⟩ = some (.bool h.ra) := by rw [hw1]; go_simp
  have k7 : w1.cell? ⟨w.heap.size, 7, none⟩ = some (.int .i64 h.z) := by rw [hw1]; go_simp
  have k8 : w1.cell? ⟨w.heap.size, 8, none⟩ = some (.int .i64 h.rc) := by rw [hw1]; go_simp
  have m0 : w1.cell? ⟨w.heap.size + 1, 0, none⟩ = some (.int .i64 a) := by rw [hw1]; go_simp
  have m1 : w1.cell? ⟨w.heap.size + 1, 1, none⟩ = some (.int .i64 b) := by rw [hw1]; go_simp
  have m2 : w1.cell? ⟨w.heap.size + 1, 2, none⟩ = some (.int .i64 c) := by rw [hw1]; go_simp
  have m3 : w1.cell? ⟨w.heap.size + 1, 3, none⟩ = some (.int .i64 d) := by rw [hw1]; go_simp
  have hb1 : Below w.heap.size w w1 := by rw [hw1]; exact below_alloc (below_alloc (Below.refl _ _) _) _
  clear hw1
  have r0 := cell_regrown k0
  have r1 := cell_regrown k1
  have r2 := cell_regrown k2
  have r3 := cell_regrown k3
  have r4 := cell_regrown k4
  have r5 := cell_regrown k5
  have r6 := cell_regrown k6
  have r7 := cell_regrown k7
  have r8 := cell_regrown k8
  refine wp_region_quiet_below (by kernel_rfl) (by kernel_rfl) ?_
  repeat (go_big_quiet_step (exact Calls.regrown_of (rbit_any _ _ _ (by decide))))
  refine wpQuiet_nil ?_
  intro _ hw'
  obtain ⟨⟨dq, osq⟩, hw''⟩ := hw'
  subst hw''
  have hb2 := below_regrown w1 dq osq
  generalize Go.Sort.grow (redrawn w1 dq) osq = w2 at hb2 ⊢
  have n0 := bcell hb2 k0
  have o0 := bcell hb2 m0
  have o1 := bcell hb2 m1
  have o2 := bcell hb2 m2
  have o3 := bcell hb2 m3
  clear r0 r1 r2 r3 r4 r5 r6 r7 r8 k0 k1 k2 k3 k4 k5 k6 k7 k8 m0 m1 m2 m3
  go_wp2_with fail
  refine (rbe2 _ _).mono ?_
  rintro e w3 ⟨rfl, hb3⟩
  have p0 := bcell hb3 o0
  have p1 := bcell hb3 o1
  have p2 := bcell hb3 o2
  have p3 := bcell hb3 o3
  clear o0 o1 o2 o3 n0
  go_wp2_with fail
  refine (rbe2 _ _).mono ?_
  rintro e w4 ⟨rfl, hb4⟩
  have o0 := bcell hb4 p0
  have o1 := bcell hb4 p1
  have o2 := bcell hb4 p2
  have o3 := bcell hb4 p3
  clear p0 p1 p2 p3
  go_wp2_with fail
  refine wp_loop_rounds 3 ?_
  rw [rounds_succ]
  go_wp2_with fail
  refine (rbe2 _ _).mono ?_
  rintro e w5 ⟨rfl, hb5⟩
  have p0 := bcell hb5 o0
  have p1 := bcell hb5 o1
  have p2 := bcell hb5 o2
  have p3 := bcell hb5 o3
  clear o0 o1 o2 o3
  go_wp2_with fail
  rw [rounds_succ]
  go_wp2_with fail
  refine (rbe2 _ _).mono ?_
  rintro e w6 ⟨rfl, hb6⟩
  have o0 := bcell hb6 p0
  have o1 := bcell hb6 p1
  have o2 := bcell hb6 p2
  have o3 := bcell hb6 p3
  clear p0 p1 p2 p3
  go_wp2_with fail
  rw [rounds_succ]
  go_wp2
  go_ret2
  exact ⟨rfl, (below_next (below_next (below_next (below_next (below_next hb1 hb2) hb3) hb4) hb5) hb6)⟩
set_option maxHeartbeats 2000000 in
theorem rput_hi2 (h : Head) (a b c d : Int) (w : World) (x0 : ¬ h.id < 0) (x1 : ¬ 65535 < h.id) (x2 : ¬ h.op < 0) (x3 : ¬ 15 < h.op) (x4 : ¬ h.rc < 0) (x5 : ¬ 15 < h.rc) (x6 : ¬ h.z < 0) (x7 : ¬ 7 < h.z) (h0 : sh a) (h1 : sh b) (hx : 65535 < c) :
    Calls Try.prog 25 #[h.val, arr4 a b c d] w fun e w' => e = .returned (.tuple #[.string ⟨#[]⟩, .int .i64 600]) ∧ Below w.heap.size w w' := by
  unfold Head.val arr4
  unfold sh at h0
  unfold sh at h1
  have q0 : decide (h.id < 0) = false := by simp; omega
  have q1 : decide (65535 < h.id) = false := by simp; omega
  have q2 : decide (h.op < 0) = false := by simp; omega
  have q3 : decide (15 < h.op) = false := by simp; omega
  have q4 : decide (h.rc < 0) = false := by simp; omega
  have q5 : decide (15 < h.rc) = false := by simp; omega
  have q6 : decide (h.z < 0) = false := by simp; omega
  have q7 : decide (7 < h.z) = false := by simp; omega
  have q8 : decide (a < 0) = false := by simp; omega
  have q9 : decide ((65535 : Int) < a) = false := by simp; omega
  have q10 : decide (b < 0) = false := by simp; omega
  have q11 : decide ((65535 : Int) < b) = false := by simp; omega
  have q12 : decide (c < 0) = false := by simp; omega
  have q13 : decide ((65535 : Int) < c) = true := by simp; omega
  have z := p16_size
  go_enter Try.func25, Try.ntmps25
  go_wp2_with fail
  refine world_abs (P := fun W => Code.wp _ _ _ _ W) ?_
  intro w1 hw1
  have k0 : w1.cell? ⟨w.heap.size, 0, none⟩ = some (.int .i64 h.id) := by rw [hw1]; go_simp
  have k1 : w1.cell? ⟨w.heap.size, 1, none⟩ = some (.bool h.qr) := by rw [hw1]; go_simp
  have k2 : w1.cell? ⟨w.heap.size, 2, none⟩ = some (.int .i64 h.op) := by rw [hw1]; go_simp
  have k3 : w1.cell? ⟨w.heap.size, 3, none⟩ = some (.bool h.aa) := by rw [hw1]; go_simp
  have k4 : w1.cell? ⟨w.heap.size, 4, none⟩ = some (.bool h.tc) := by rw [hw1]; go_simp
  have k5 : w1.cell? ⟨w.heap.size, 5, none⟩ = some (.bool h.rd) := by rw [hw1]; go_simp
  have k6 : w1.cell? ⟨w.heap.size, 6, none⟩ = some (.bool h.ra) := by rw [hw1]; go_simp
  have k7 : w1.cell? ⟨w.heap.size, 7, none⟩ = some (.int .i64 h.z) := by rw [hw1]; go_simp
  have k8 : w1.cell? ⟨w.heap.size, 8, none⟩ = some (.int .i64 h.rc) := by rw [hw1]; go_simp
  have m0 : w1.cell? ⟨w.heap.size + 1, 0, none⟩ = some (.int .i64 a) := by rw [hw1]; go_simp
  have m1 : w1.cell? ⟨w.heap.size + 1, 1, none⟩ = some (.int .i64 b) := by rw [hw1]; go_simp
  have m2 : w1.cell? ⟨w.heap.size + 1, 2, none⟩ = some (.int .i64 c) := by rw [hw1]; go_simp
  have m3 : w1.cell? ⟨w.heap.size + 1, 3, none⟩ = some (.int .i64 d) := by rw [hw1]; go_simp
  have hb1 : Below w.heap.size w w1 := by rw [hw1]; exact below_alloc (below_alloc (Below.refl _ _) _) _
  clear hw1
  have r0 := cell_regrown k0
  have r1 := cell_regrown k1
  have r2 := cell_regrown k2
  have r3 := cell_regrown k3
  have r4 := cell_regrown k4
  have r5 := cell_regrown k5
  have r6 := cell_regrown k6
  have r7 := cell_regrown k7
  have r8 := cell_regrown k8
  refine wp_region_quiet_below (by kernel_rfl) (by kernel_rfl) ?_
  repeat (go_big_quiet_step (exact Calls.regrown_of (rbit_any _ _ _ (by decide))))
  refine wpQuiet_nil ?_
  intro _ hw'
  obtain ⟨⟨dq, osq⟩, hw''⟩ := hw'
  subst hw''
  have hb2 := below_regrown w1 dq osq
  generalize Go.Sort.grow (redrawn w1 dq) osq = w2 at hb2 ⊢
  have n0 := bcell hb2 k0
  have o0 := bcell hb2 m0
  have o1 := bcell hb2 m1
  have o2 := bcell hb2 m2
  have o3 := bcell hb2 m3
  clear r0 r1 r2 r3 r4 r5 r6 r7 r8 k0 k1 k2 k3 k4 k5 k6 k7 k8 m0 m1 m2 m3
  go_wp2_with fail
  refine (rbe2 _ _).mono ?_
  rintro e w3 ⟨rfl, hb3⟩
  have p0 := bcell hb3 o0
  have p1 := bcell hb3 o1
  have p2 := bcell hb3 o2
  have p3 := bcell hb3 o3
  clear o0 o1 o2 o3 n0
  go_wp2_with fail
  refine (rbe2 _ _).mono ?_
  rintro e w4 ⟨rfl, hb4⟩
  have o0 := bcell hb4 p0
  have o1 := bcell hb4 p1
  have o2 := bcell hb4 p2
  have o3 := bcell hb4 p3
  clear p0 p1 p2 p3
  go_wp2_with fail
  refine wp_loop_rounds 3 ?_
  rw [rounds_succ]
  go_wp2_with fail
  refine (rbe2 _ _).mono ?_
  rintro e w5 ⟨rfl, hb5⟩
  have p0 := bcell hb5 o0
  have p1 := bcell hb5 o1
  have p2 := bcell hb5 o2
  have p3 := bcell hb5 o3
  clear o0 o1 o2 o3
  go_wp2_with fail
  rw [rounds_succ]
  go_wp2_with fail
  refine (rbe2 _ _).mono ?_
  rintro e w6 ⟨rfl, hb6⟩
  have o0 := bcell hb6 p0
  have o1 := bcell hb6 p1
  have o2 := bcell hb6 p2
  have o3 := bcell hb6 p3
  clear p0 p1 p2 p3
  go_wp2_with fail
  rw [rounds_succ]
  go_wp2
  go_ret2
  exact ⟨rfl, (below_next (below_next (below_next (below_next (below_next hb1 hb2) hb3) hb4) hb5) hb6)⟩
set_option maxHeartbeats 2000000 in
theorem rput_lo3 (h : Head) (a b c d : Int) (w : World) (x0 : ¬ h.id < 0) (x1 : ¬ 65535 < h.id) (x2 : ¬ h.op < 0) (x3 : ¬ 15 < h.op) (x4 : ¬ h.rc < 0) (x5 : ¬ 15 < h.rc) (x6 : ¬ h.z < 0) (x7 : ¬ 7 < h.z) (h0 : sh a) (h1 : sh b) (h2 : sh c) (hx : d < 0) :
    Calls Try.prog 25 #[h.val, arr4 a b c d] w fun e w' => e = .returned (.tuple #[.string ⟨#[]⟩, .int .i64 600]) ∧ Below w.heap.size w w' := by
  unfold Head.val arr4
  unfold sh at h0
  unfold sh at h1
  unfold sh at h2
  have q0 : decide (h.id < 0) = false := by simp; omega
  have q1 : decide (65535 < h.id) = false := by simp; omega
  have q2 : decide (h.op < 0) = false := by simp; omega
  have q3 : decide (15 < h.op) = false := by simp; omega
  have q4 : decide (h.rc < 0) = false := by simp; omega
  have q5 : decide (15 < h.rc) = false := by simp; omega
  have q6 : decide (h.z < 0) = false := by simp; omega
  have q7 : decide (7 < h.z) = false := by simp; omega
  have q8 : decide (a < 0) = false := by simp; omega
  have q9 : decide ((65535 : Int) < a) = false := by simp; omega
  have q10 : decide (b < 0) = false := by simp; omega
  have q11 : decide ((65535 : Int) < b) = false := by simp; omega
  have q12 : decide (c < 0) = false := by simp; omega
  have q13 : decide ((65535 : Int) < c) = false := by simp; omega
  have q14 : decide (d < 0) = true := by simp; omega
  have z := p16_size
  go_enter Try.func25, Try.ntmps25
  go_wp2_with fail
  refine world_abs (P := fun W => Code.wp _ _ _ _ W) ?_
  intro w1 hw1
  have k0 : w1.cell? ⟨w.heap.size, 0, none⟩ = some (.int .i64 h.id) := by rw [hw1]; go_simp
  have k1 : w1.cell? ⟨w.heap.size, 1, none⟩ = some (.bool h.qr) := by rw [hw1]; go_simp
  have k2 : w1.cell? ⟨w.heap.size, 2, none⟩ = some (.int .i64 h.op) := by rw [hw1]; go_simp
  have k3 : w1.cell? ⟨w.heap.size, 3, none⟩ = some (.bool h.aa) := by rw [hw1]; go_simp
  have k4 : w1.cell? ⟨w.heap.size, 4, none⟩ = some (.bool h.tc) := by rw [hw1]; go_simp
  have k5 : w1.cell? ⟨w.heap.size, 5, none⟩ = some (.bool h.rd) := by rw [hw1]; go_simp
  have k6 : w1.cell? ⟨w.heap.size, 6, none⟩ = some (.bool h.ra) := by rw [hw1]; go_simp
  have k7 : w1.cell? ⟨w.heap.size, 7, none⟩ = some (.int .i64 h.z) := by rw [hw1]; go_simp
  have k8 : w1.cell? ⟨w.heap.size, 8, none⟩ = some (.int .i64 h.rc) := by rw [hw1]; go_simp
  have m0 : w1.cell? ⟨w.heap.size + 1, 0, none⟩ = some (.int .i64 a) := by rw [hw1]; go_simp
  have m1 : w1.cell? ⟨w.heap.size + 1, 1, none⟩ = some (.int .i64 b) := by rw [hw1]; go_simp
  have m2 : w1.cell? ⟨w.heap.size + 1, 2, none⟩ = some (.int .i64 c) := by rw [hw1]; go_simp
  have m3 : w1.cell? ⟨w.heap.size + 1, 3, none⟩ = some (.int .i64 d) := by rw [hw1]; go_simp
  have hb1 : Below w.heap.size w w1 := by rw [hw1]; exact below_alloc (below_alloc (Below.refl _ _) _) _
  clear hw1
  have r0 := cell_regrown k0
  have r1 := cell_regrown k1
  have r2 := cell_regrown k2
  have r3 := cell_regrown k3
  have r4 := cell_regrown k4
  have r5 := cell_regrown k5
  have r6 := cell_regrown k6
  have r7 := cell_regrown k7
  have r8 := cell_regrown k8
  refine wp_region_quiet_below (by kernel_rfl) (by kernel_rfl) ?_
  repeat (go_big_quiet_step (exact Calls.regrown_of (rbit_any _ _ _ (by decide))))
  refine wpQuiet_nil ?_
  intro _ hw'
  obtain ⟨⟨dq, osq⟩, hw''⟩ := hw'
  subst hw''
  have hb2 := below_regrown w1 dq osq
  generalize Go.Sort.grow (redrawn w1 dq) osq = w2 at hb2 ⊢
  have n0 := bcell hb2 k0
  have o0 := bcell hb2 m0
  have o1 := bcell hb2 m1
  have o2 := bcell hb2 m2
  have o3 := bcell hb2 m3
  clear r0 r1 r2 r3 r4 r5 r6 r7 r8 k0 k1 k2 k3 k4 k5 k6 k7 k8 m0 m1 m2 m3
  go_wp2_with fail
  refine (rbe2 _ _).mono ?_
  rintro e w3 ⟨rfl, hb3⟩
  have p0 := bcell hb3 o0
  have p1 := bcell hb3 o1
  have p2 := bcell hb3 o2
  have p3 := bcell hb3 o3
  clear o0 o1 o2 o3 n0
  go_wp2_with fail
  refine (rbe2 _ _).mono ?_
  rintro e w4 ⟨rfl, hb4⟩
  have o0 := bcell hb4 p0
  have o1 := bcell hb4 p1
  have o2 := bcell hb4 p2
  have o3 := bcell hb4 p3
  clear p0 p1 p2 p3
  go_wp2_with fail
  refine wp_loop_rounds 4 ?_
  rw [rounds_succ]
  go_wp2_with fail
  refine (rbe2 _ _).mono ?_
  rintro e w5 ⟨rfl, hb5⟩
  have p0 := bcell hb5 o0
  have p1 := bcell hb5 o1
  have p2 := bcell hb5 o2
  have p3 := bcell hb5 o3
  clear o0 o1 o2 o3
  go_wp2_with fail
  rw [rounds_succ]
  go_wp2_with fail
  refine (rbe2 _ _).mono ?_
  rintro e w6 ⟨rfl, hb6⟩
  have o0 := bcell hb6 p0
  have o1 := bcell hb6 p1
  have o2 := bcell hb6 p2
  have o3 := bcell hb6 p3
  clear p0 p1 p2 p3
  go_wp2_with fail
  rw [rounds_succ]
  go_wp2_with fail
  refine (rbe2 _ _).mono ?_
  rintro e w7 ⟨rfl, hb7⟩
  have p0 := bcell hb7 o0
  have p1 := bcell hb7 o1
  have p2 := bcell hb7 o2
  have p3 := bcell hb7 o3
  clear o0 o1 o2 o3
  go_wp2_with fail
  rw [rounds_succ]
  go_wp2
  go_ret2
  exact ⟨rfl, (below_next (below_next (below_next (below_next (below_next (below_next hb1 hb2) hb3) hb4) hb5) hb6) hb7)⟩
set_option maxHeartbeats 2000000 in
theorem rput_hi3 (h : Head) (a b c d : Int) (w : World) (x0 : ¬ h.id < 0) (x1 : ¬ 65535 < h.id) (x2 : ¬ h.op < 0) (x3 : ¬ 15 < h.op) (x4 : ¬ h.rc < 0) (x5 : ¬ 15 < h.rc) (x6 : ¬ h.z < 0) (x7 : ¬ 7 < h.z) (h0 : sh a) (h1 : sh b) (h2 : sh c) (hx : 65535 < d) :
    Calls Try.prog 25 #[h.val, arr4 a b c d] w fun e w' => e = .returned (.tuple #[.string ⟨#[]⟩, .int .i64 600]) ∧ Below w.heap.size w w' := by
  unfold Head.val arr4
  unfold sh at h0
  unfold sh at h1
  unfold sh at h2
  have q0 : decide (h.id < 0) = false := by simp; omega
  have q1 : decide (65535 < h.id) = false := by simp; omega
  have q2 : decide (h.op < 0) = false := by simp; omega
  have q3 : decide (15 < h.op) = false := by simp; omega
  have q4 : decide (h.rc < 0) = false := by simp; omega
  have q5 : decide (15 < h.rc) = false := by simp; omega
  have q6 : decide (h.z < 0) = false := by simp; omega
  have q7 : decide (7 < h.z) = false := by simp; omega
  have q8 : decide (a < 0) = false := by simp; omega
  have q9 : decide ((65535 : Int) < a) = false := by simp; omega
  have q10 : decide (b < 0) = false := by simp; omega
  have q11 : decide ((65535 : Int) < b) = false := by simp; omega
  have q12 : decide (c < 0) = false := by simp; omega
  have q13 : decide ((65535 : Int) < c) = false := by simp; omega
  have q14 : decide (d < 0) = false := by simp; omega
  have q15 : decide ((65535 : Int) < d) = true := by simp; omega
  have z := p16_size
  go_enter Try.func25, Try.ntmps25
  go_wp2_with fail
  refine world_abs (P := fun W => Code.wp _ _ _ _ W) ?_
  intro w1 hw1
  have k0 : w1.cell? ⟨w.heap.size, 0, none⟩ = some (.int .i64 h.id) := by rw [hw1]; go_simp
  have k1 : w1.cell? ⟨w.heap.size, 1, none⟩ = some (.bool h.qr) := by rw [hw1]; go_simp
  have k2 : w1.cell? ⟨w.heap.size, 2, none⟩ = some (.int .i64 h.op) := by rw [hw1]; go_simp
  have k3 : w1.cell? ⟨w.heap.size, 3, none⟩ = some (.bool h.aa) := by rw [hw1]; go_simp
  have k4 : w1.cell? ⟨w.heap.size, 4, none⟩ = some (.bool h.tc) := by rw [hw1]; go_simp
  have k5 : w1.cell? ⟨w.heap.size, 5, none⟩ = some (.bool h.rd) := by rw [hw1]; go_simp
  have k6 : w1.cell? ⟨w.heap.size, 6, none⟩ = some (.bool h.ra) := by rw [hw1]; go_simp
  have k7 : w1.cell? ⟨w.heap.size, 7, none⟩ = some (.int .i64 h.z) := by rw [hw1]; go_simp
  have k8 : w1.cell? ⟨w.heap.size, 8, none⟩ = some (.int .i64 h.rc) := by rw [hw1]; go_simp
  have m0 : w1.cell? ⟨w.heap.size + 1, 0, none⟩ = some (.int .i64 a) := by rw [hw1]; go_simp
  have m1 : w1.cell? ⟨w.heap.size + 1, 1, none⟩ = some (.int .i64 b) := by rw [hw1]; go_simp
  have m2 : w1.cell? ⟨w.heap.size + 1, 2, none⟩ = some (.int .i64 c) := by rw [hw1]; go_simp
  have m3 : w1.cell? ⟨w.heap.size + 1, 3, none⟩ = some (.int .i64 d) := by rw [hw1]; go_simp
  have hb1 : Below w.heap.size w w1 := by rw [hw1]; exact below_alloc (below_alloc (Below.refl _ _) _) _
  clear hw1
  have r0 := cell_regrown k0
  have r1 := cell_regrown k1
  have r2 := cell_regrown k2
  have r3 := cell_regrown k3
  have r4 := cell_regrown k4
  have r5 := cell_regrown k5
  have r6 := cell_regrown k6
  have r7 := cell_regrown k7
  have r8 := cell_regrown k8
  refine wp_region_quiet_below (by kernel_rfl) (by kernel_rfl) ?_
  repeat (go_big_quiet_step (exact Calls.regrown_of (rbit_any _ _ _ (by decide))))
  refine wpQuiet_nil ?_
  intro _ hw'
  obtain ⟨⟨dq, osq⟩, hw''⟩ := hw'
  subst hw''
  have hb2 := below_regrown w1 dq osq
  generalize Go.Sort.grow (redrawn w1 dq) osq = w2 at hb2 ⊢
  have n0 := bcell hb2 k0
  have o0 := bcell hb2 m0
  have o1 := bcell hb2 m1
  have o2 := bcell hb2 m2
  have o3 := bcell hb2 m3
  clear r0 r1 r2 r3 r4 r5 r6 r7 r8 k0 k1 k2 k3 k4 k5 k6 k7 k8 m0 m1 m2 m3
  go_wp2_with fail
  refine (rbe2 _ _).mono ?_
  rintro e w3 ⟨rfl, hb3⟩
  have p0 := bcell hb3 o0
  have p1 := bcell hb3 o1
  have p2 := bcell hb3 o2
  have p3 := bcell hb3 o3
  clear o0 o1 o2 o3 n0
  go_wp2_with fail
  refine (rbe2 _ _).mono ?_
  rintro e w4 ⟨rfl, hb4⟩
  have o0 := bcell hb4 p0
  have o1 := bcell hb4 p1
  have o2 := bcell hb4 p2
  have o3 := bcell hb4 p3
  clear p0 p1 p2 p3
  go_wp2_with fail
  refine wp_loop_rounds 4 ?_
  rw [rounds_succ]
  go_wp2_with fail
  refine (rbe2 _ _).mono ?_
  rintro e w5 ⟨rfl, hb5⟩
  have p0 := bcell hb5 o0
  have p1 := bcell hb5 o1
  have p2 := bcell hb5 o2
  have p3 := bcell hb5 o3
  clear o0 o1 o2 o3
  go_wp2_with fail
  rw [rounds_succ]
  go_wp2_with fail
  refine (rbe2 _ _).mono ?_
  rintro e w6 ⟨rfl, hb6⟩
  have o0 := bcell hb6 p0
  have o1 := bcell hb6 p1
  have o2 := bcell hb6 p2
  have o3 := bcell hb6 p3
  clear p0 p1 p2 p3
  go_wp2_with fail
  rw [rounds_succ]
  go_wp2_with fail
  refine (rbe2 _ _).mono ?_
  rintro e w7 ⟨rfl, hb7⟩
  have p0 := bcell hb7 o0
  have p1 := bcell hb7 o1
  have p2 := bcell hb7 o2
  have p3 := bcell hb7 o3
  clear o0 o1 o2 o3
  go_wp2_with fail
  rw [rounds_succ]
  go_wp2
  go_ret2
  exact ⟨rfl, (below_next (below_next (below_next (below_next (below_next (below_next hb1 hb2) hb3) hb4) hb5) hb6) hb7)⟩
theorem rput_yes (h : Head) (a b c d : Int) (w : World) (hm : mayB h a b c d = true) :
    Calls Try.prog 25 #[h.val, arr4 a b c d] w fun e w' => e = .returned (.tuple #[.string (h.putS a b c d), .int .i64 0]) ∧ Below w.heap.size w w' := by
  obtain ⟨⟨h0, h1, h2, h3⟩, ⟨k0, k1⟩, ⟨k2, k3⟩, ⟨k4, k5⟩, k6, k7⟩ := of_decide_eq_true hm
  exact rput_ok h a b c d w (by omega) (by omega) (by omega) (by omega) (by omega) (by omega) (by omega) (by omega) h0 h1 h2 h3
theorem rput_no (h : Head) (a b c d : Int) (w : World) (hm : mayB h a b c d = false) :
    Calls Try.prog 25 #[h.val, arr4 a b c d] w fun e w' => e = .returned (.tuple #[.string ⟨#[]⟩, .int .i64 600]) ∧ Below w.heap.size w w' := by
  have hm' := of_decide_eq_false hm
  unfold Head.ok sh at hm'
  by_cases x0 : h.id < 0
  · exact rput_t0 h a b c d w  x0
  by_cases x1 : 65535 < h.id
  · exact rput_t1 h a b c d w x0 x1
  by_cases x2 : h.op < 0
  · exact rput_t2 h a b c d w x0 x1 x2
  by_cases x3 : 15 < h.op
  · exact rput_t3 h a b c d w x0 x1 x2 x3
  by_cases x4 : h.rc < 0
  · exact rput_t4 h a b c d w x0 x1 x2 x3 x4
  by_cases x5 : 15 < h.rc
  · exact rput_t5 h a b c d w x0 x1 x2 x3 x4 x5
  by_cases x6 : h.z < 0
  · exact rput_t6 h a b c d w x0 x1 x2 x3 x4 x5 x6
  by_cases x7 : 7 < h.z
  · exact rput_t7 h a b c d w x0 x1 x2 x3 x4 x5 x6 x7
  by_cases l0 : a < 0
  · exact rput_lo0 h a b c d w x0 x1 x2 x3 x4 x5 x6 x7  l0
  by_cases u0 : 65535 < a
  · exact rput_hi0 h a b c d w x0 x1 x2 x3 x4 x5 x6 x7  u0
  have h0 : sh a := ⟨by omega, by omega⟩
  by_cases l1 : b < 0
  · exact rput_lo1 h a b c d w x0 x1 x2 x3 x4 x5 x6 x7 h0 l1
  by_cases u1 : 65535 < b
  · exact rput_hi1 h a b c d w x0 x1 x2 x3 x4 x5 x6 x7 h0 u1
  have h1 : sh b := ⟨by omega, by omega⟩
  by_cases l2 : c < 0
  · exact rput_lo2 h a b c d w x0 x1 x2 x3 x4 x5 x6 x7 h0 h1 l2
  by_cases u2 : 65535 < c
  · exact rput_hi2 h a b c d w x0 x1 x2 x3 x4 x5 x6 x7 h0 h1 u2
  have h2 : sh c := ⟨by omega, by omega⟩
  by_cases l3 : d < 0
  · exact rput_lo3 h a b c d w x0 x1 x2 x3 x4 x5 x6 x7 h0 h1 h2 l3
  by_cases u3 : 65535 < d
  · exact rput_hi3 h a b c d w x0 x1 x2 x3 x4 x5 x6 x7 h0 h1 h2 u3
  have h3 : sh d := ⟨by omega, by omega⟩
  unfold sh at h0 h1 h2 h3
  exact absurd ⟨⟨h0, h1, h2, h3⟩, ⟨by omega, by omega⟩, ⟨by omega, by omega⟩, ⟨by omega, by omega⟩, by omega, by omega⟩ hm'
set_option maxHeartbeats 1000000 in
theorem put_no (h : Head) (a b c d : Int) (w : World) (hm : mayB h a b c d = false) :
    Calls Try.prog 24 #[h.val, arr4 a b c d] w fun e w' => e = .returned (.tuple #[.string ⟨#[]⟩, .int .i64 600]) ∧ Below w.heap.size w w' := by
  unfold Head.val arr4
  go_enter Try.func24, Try.ntmps24
  go_wp2_with fail
  refine (may_no h a b c d w.heap.size 0 _ ⟨by go_simp, by go_simp, by go_simp, by go_simp, by go_simp, by go_simp, by go_simp, by go_simp, by go_simp⟩ hm).mono ?_
  rintro e w1 ⟨rfl, hb1⟩
  go_wp2
  go_ret2
  exact ⟨rfl, below_next (below_alloc (below_alloc (Below.refl _ _) _) _) hb1⟩
end Go.Proofs.Ytccnckppkkhoeaa.Hd
