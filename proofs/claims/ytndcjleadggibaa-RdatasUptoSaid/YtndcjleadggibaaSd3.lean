/- The row of the law Rdatas, where what it reads is of bulk at most 1048576, out of its pure statement and the printed walk. -/
import Derived.Laws.BitsLemmas
import Derived.Laws.StructEq
import Derived.Lib.Hide
import Derived.Lib.AppendStr
import Derived.Test.YtndcjleadggibaaRows
import Derived.WalkKit
import Derived.ProofKit
import Derived.OpenShut
import Derived.ShutString
import Derived.ChangeOld
import Derived.Below
import Derived.JoinedCond
import Derived.Carry
import Derived.Test.YtndcjleadggibaaSd1
import Derived.Test.YtndcjleadggibaaSd2
namespace Go.Proofs.Ytndcjleadggibaa.PRz
open Go.RowKit Go.Proofs.YtndcjleadggibaaW.PrintWords Go.Proofs.YtndcjleadggibaaW.PrintLast Go.Proofs.YtndcjleadggibaaW.PrintMore
attribute [local go_sem] max2_int min2_int max_two min_two max_three min_three max_four min_four   -- for this text's walks alone
set_option linter.unusedVariables false
set_option linter.unusedSimpArgs false

/-! ### wimpleref4_DataMay: function 34 -/
def wimpleref4_DataMay.f (a0 : Int) (a1 : ByteArray) : Option (Bool) := if a1.size ≤ 9223372036854775000 then some (Go.Proofs.Ytndcjleadggibaa.Rd.mayD a0 a1) else none
set_option maxHeartbeats 8000000 in
set_option maxRecDepth 100000 in
theorem wimpleref4_DataMay.calls (a0 : Int) (a1 : ByteArray) (r : Bool) (w : World) (h : wimpleref4_DataMay.f a0 a1 = some r) :
    Calls Try.prog 34 #[.int .i64 a0, .string a1] w fun e w' => e = .returned (.bool r) ∧ Below w.heap.size w w' := by
  unfold wimpleref4_DataMay.f at h
  split at h
  · rename_i hs
    simp only [Option.some.injEq] at h
    subst h
    exact Go.Proofs.Ytndcjleadggibaa.Rd.rdmay a0 a1 w hs
  · cases h

/-! ### wimpleref4_Host: function 32 -/
def wimpleref4_Host.f (a0 : Int) (a1 : ByteArray) : Option (ByteArray × Int) := if a1.size ≤ 9223372036854775000 then some (Go.Proofs.Ytndcjleadggibaa.Rd.hostS a0 a1, Go.Proofs.Ytndcjleadggibaa.Rd.hostE a0 a1) else none
set_option maxHeartbeats 8000000 in
set_option maxRecDepth 100000 in
theorem wimpleref4_Host.calls (a0 : Int) (a1 : ByteArray) (r1 : ByteArray) (r2 : Int) (w : World) (h : wimpleref4_Host.f a0 a1 = some (r1, r2)) :
    Calls Try.prog 32 #[.int .i64 a0, .string a1] w fun e w' => e = .returned (.tuple #[.string r1, .int .i64 r2]) ∧ Below w.heap.size w w' := by
  unfold wimpleref4_Host.f at h
  split at h
  · rename_i hs
    simp only [Option.some.injEq, Prod.mk.injEq] at h
    obtain ⟨rfl, rfl⟩ := h
    exact Go.Proofs.Ytndcjleadggibaa.Rd.rhostc a0 a1 w hs
  · cases h

-- NOT PRINTED: function 62 (rdata_words)

/-! ### rdata_Soa: function 35 -/
def rdata_Soa.f (a0_0 : ByteArray) (a0_1 : ByteArray) (a0_2 : Int) (a0_3 : Int) (a0_4 : Int) (a0_5 : Int) (a0_6 : Int) : Option (ByteArray × Int) := some ((⟨a0_0, a0_1, a0_2, a0_3, a0_4, a0_5, a0_6⟩ : Go.Proofs.Ytndcjleadggibaa.Rd.Soa).S, (⟨a0_0, a0_1, a0_2, a0_3, a0_4, a0_5, a0_6⟩ : Go.Proofs.Ytndcjleadggibaa.Rd.Soa).E)
set_option maxHeartbeats 8000000 in
set_option maxRecDepth 100000 in
theorem rdata_Soa.calls (a0_0 : ByteArray) (a0_1 : ByteArray) (a0_2 : Int) (a0_3 : Int) (a0_4 : Int) (a0_5 : Int) (a0_6 : Int) (r1 : ByteArray) (r2 : Int) (w : World) (h : rdata_Soa.f a0_0 a0_1 a0_2 a0_3 a0_4 a0_5 a0_6 = some (r1, r2)) :
    Calls Try.prog 35 #[.agg #[.string a0_0, .string a0_1, .int .i64 a0_2, .int .i64 a0_3, .int .i64 a0_4, .int .i64 a0_5, .int .i64 a0_6]] w fun e w' => e = .returned (.tuple #[.string r1, .int .i64 r2]) ∧ Below w.heap.size w w' := by
  unfold rdata_Soa.f at h
  simp only [Option.some.injEq, Prod.mk.injEq] at h
  obtain ⟨rfl, rfl⟩ := h
  exact Go.Proofs.Ytndcjleadggibaa.Rd.soac (⟨a0_0, a0_1, a0_2, a0_3, a0_4, a0_5, a0_6⟩ : Go.Proofs.Ytndcjleadggibaa.Rd.Soa) w

/-! ### wimpleref4_Soa: function 36 -/
def wimpleref4_Soa.f (a0_0 : ByteArray) (a0_1 : ByteArray) (a0_2 : Int) (a0_3 : Int) (a0_4 : Int) (a0_5 : Int) (a0_6 : Int) : Option (ByteArray × Int) := some ((⟨a0_0, a0_1, a0_2, a0_3, a0_4, a0_5, a0_6⟩ : Go.Proofs.Ytndcjleadggibaa.Rd.Soa).S, (⟨a0_0, a0_1, a0_2, a0_3, a0_4, a0_5, a0_6⟩ : Go.Proofs.Ytndcjleadggibaa.Rd.Soa).E)
set_option maxHeartbeats 8000000 in
set_option maxRecDepth 100000 in
theorem wimpleref4_Soa.calls (a0_0 : ByteArray) (a0_1 : ByteArray) (a0_2 : Int) (a0_3 : Int) (a0_4 : Int) (a0_5 : Int) (a0_6 : Int) (r1 : ByteArray) (r2 : Int) (w : World) (h : wimpleref4_Soa.f a0_0 a0_1 a0_2 a0_3 a0_4 a0_5 a0_6 = some (r1, r2)) :
    Calls Try.prog 36 #[.agg #[.string a0_0, .string a0_1, .int .i64 a0_2, .int .i64 a0_3, .int .i64 a0_4, .int .i64 a0_5, .int .i64 a0_6]] w fun e w' => e = .returned (.tuple #[.string r1, .int .i64 r2]) ∧ Below w.heap.size w w' := by
  unfold wimpleref4_Soa.f at h
  simp only [Option.some.injEq, Prod.mk.injEq] at h
  obtain ⟨rfl, rfl⟩ := h
  exact Go.Proofs.Ytndcjleadggibaa.Rd.rsoac (⟨a0_0, a0_1, a0_2, a0_3, a0_4, a0_5, a0_6⟩ : Go.Proofs.Ytndcjleadggibaa.Rd.Soa) w

/-! ### rdata_Unsoa: function 37 -/
def rdata_Unsoa.f (a0 : ByteArray) : Option (ByteArray × ByteArray × Int × Int × Int × Int × Int × Int) := if a0.size ≤ 9223372036854775000 then some ((Go.Proofs.Ytndcjleadggibaa.Rd.unX a0).host, (Go.Proofs.Ytndcjleadggibaa.Rd.unX a0).mail, (Go.Proofs.Ytndcjleadggibaa.Rd.unX a0).s0, (Go.Proofs.Ytndcjleadggibaa.Rd.unX a0).s1, (Go.Proofs.Ytndcjleadggibaa.Rd.unX a0).s2, (Go.Proofs.Ytndcjleadggibaa.Rd.unX a0).s3, (Go.Proofs.Ytndcjleadggibaa.Rd.unX a0).s4, Go.Proofs.Ytndcjleadggibaa.Rd.unE a0) else none
set_option maxHeartbeats 8000000 in
set_option maxRecDepth 100000 in
theorem rdata_Unsoa.calls (a0 : ByteArray) (r1 : ByteArray) (r2 : ByteArray) (r3 : Int) (r4 : Int) (r5 : Int) (r6 : Int) (r7 : Int) (r8 : Int) (w : World) (h : rdata_Unsoa.f a0 = some (r1, r2, r3, r4, r5, r6, r7, r8)) :
    Calls Try.prog 37 #[.string a0] w fun e w' => e = .returned (.tuple #[.agg #[.string r1, .string r2, .int .i64 r3, .int .i64 r4, .int .i64 r5, .int .i64 r6, .int .i64 r7], .int .i64 r8]) ∧ Below w.heap.size w w' := by
  unfold rdata_Unsoa.f at h
  split at h
  · rename_i hs
    simp only [Option.some.injEq, Prod.mk.injEq] at h
    obtain ⟨rfl, rfl, rfl, rfl, rfl, rfl, rfl, rfl⟩ := h
    exact Go.Proofs.Ytndcjleadggibaa.Rd.unsoac a0 w hs
  · cases h

/-! ### wimpleref4_Unsoa: function 38 -/
def wimpleref4_Unsoa.f (a0 : ByteArray) : Option (ByteArray × ByteArray × Int × Int × Int × Int × Int × Int) := if a0.size ≤ 9223372036854775000 then some ((Go.Proofs.Ytndcjleadggibaa.Rd.unX a0).host, (Go.Proofs.Ytndcjleadggibaa.Rd.unX a0).mail, (Go.Proofs.Ytndcjleadggibaa.Rd.unX a0).s0, (Go.Proofs.Ytndcjleadggibaa.Rd.unX a0).s1, (Go.Proofs.Ytndcjleadggibaa.Rd.unX a0).s2, (Go.Proofs.Ytndcjleadggibaa.Rd.unX a0).s3, (Go.Proofs.Ytndcjleadggibaa.Rd.unX a0).s4, Go.Proofs.Ytndcjleadggibaa.Rd.unE a0) else none
set_option maxHeartbeats 8000000 in
set_option maxRecDepth 100000 in
theorem wimpleref4_Unsoa.calls (a0 : ByteArray) (r1 : ByteArray) (r2 : ByteArray) (r3 : Int) (r4 : Int) (r5 : Int) (r6 : Int) (r7 : Int) (r8 : Int) (w : World) (h : wimpleref4_Unsoa.f a0 = some (r1, r2, r3, r4, r5, r6, r7, r8)) :
    Calls Try.prog 38 #[.string a0] w fun e w' => e = .returned (.tuple #[.agg #[.string r1, .string r2, .int .i64 r3, .int .i64 r4, .int .i64 r5, .int .i64 r6, .int .i64 r7], .int .i64 r8]) ∧ Below w.heap.size w w' := by
  unfold wimpleref4_Unsoa.f at h
  split at h
  · rename_i hs
    simp only [Option.some.injEq, Prod.mk.injEq] at h
    obtain ⟨rfl, rfl, rfl, rfl, rfl, rfl, rfl, rfl⟩ := h
    exact Go.Proofs.Ytndcjleadggibaa.Rd.runsoac a0 w hs
  · cases h

/-! ### wimplelaw0_CopyTexts: function 64 -/
def wimplelaw0_CopyTexts.f (l0 : List ByteArray) : Option (List ByteArray) := (some (([] : List ByteArray) : List ByteArray)).bind fun y120 => (if y120.length + l0.length < 8796093022208 then (some (y120 ++ l0)) else (none))
set_option maxHeartbeats 8000000 in
set_option maxRecDepth 100000 in
theorem wimplelaw0_CopyTexts.calls (A0 : Option Addr) (c0 : Nat) (l0 : List ByteArray) (r : List ByteArray) (w : World) (hr0 : Kd.C Kd.string w A0 l0.length l0) (hc0 : l0.length ≤ c0) (h : wimplelaw0_CopyTexts.f l0 = some r) :
    Calls Try.prog 64 #[.slice A0 l0.length c0] w fun e w' => ∃ v0_ : Value, e = .returned (v0_) ∧ Kd.R Kd.string 9 w' w.heap.size (fun _ => True) v0_ r ∧ Below w.heap.size w w' := by
  have HR0 := Aside0.mk hr0
  have HC0 := Aside0.mk hc0
  clear hr0 hc0
  have HB := Aside0.mk (Below.refl w.heap.size w)
  have H : ((some (([] : List ByteArray) : List ByteArray)).bind fun y120 => (if y120.length + l0.length < 8796093022208 then (some (y120 ++ l0)) else (none))) = some r := h
  clear h
  obtain ⟨y120, hy120⟩ : ∃ y_ : List ByteArray, y_ = (([] : List ByteArray)) := ⟨_, rfl⟩
  replace H : (if y120.length + l0.length < 8796093022208 then (some (y120 ++ l0)) else (none)) = some r := by first | (rw [hy120]; with_reducible exact H) | (have H2_ := (Option.bind_some _ _).symm.trans H; rw [hy120]; with_reducible exact H2_) | (have H2_ := (Option.bind_some _ _).symm.trans H; with_reducible exact H2_) | with_reducible exact H | (rw [hy120]; exact H) | exact H
  have Ny120 := Aside0.mk hy120
  clear hy120
  by_cases c2 : y120.length + l0.length < 8796093022208
  · rw [if_pos c2] at H
    have LMc2 := Aside0.mk c2
    clear c2
    obtain ⟨y123, hy123⟩ : ∃ y_ : List ByteArray, y_ = (y120 ++ l0) := ⟨_, rfl⟩
    replace H : (some y123) = some r := by first | (rw [hy123]; with_reducible exact H) | (have H2_ := (Option.bind_some _ _).symm.trans H; rw [hy123]; with_reducible exact H2_) | (have H2_ := (Option.bind_some _ _).symm.trans H; with_reducible exact H2_) | with_reducible exact H | (rw [hy123]; exact H) | exact H
    have Ny123 := Aside0.mk hy123
    clear hy123
    obtain rfl := Option.some.inj H
    go_enter Try.func64, Try.ntmps64
    go_wp2_with (first | ((with_reducible refine gate_dst (N := 3) rfl ?_); refine Kd.R_lit Kd.string _ 9 ?hg (N := 3) ?hd (xs := ([] : List ByteArray)) (inner := []) (ok := fun _ => True) (okp := fun _ => True) ?hr ?hp (fun _ hk => hk) trivial (Below.refl _ _) (Nat.le_refl _) (by simp) ?_; (case hd => rfl); (case hg => rfl); (case hr => first | (go_simp; done) | (go_simp; rfl)); (case hp => exact (Reps.none _ _)); intro v121 w3 ho4 hb hg_ hnew_; clear hg_ hnew_; (first | rw [← Ny120.out] at ho4 | (simp only [Int.reduceToNat] at ho4; rw [← Ny120.out] at ho4)); have n0_ := Aside0.mk (Kd.R_lower ho4 (below_size (by repeat (first | (with_reducible first | exact HB.out | apply below_alloc | apply pw_below_drewN | apply below_drew1) | exact HB.out)))); have n1_ := Aside0.mk (below_step (by repeat (first | (with_reducible first | exact HB.out | apply below_alloc | apply pw_below_drewN | apply below_drew1) | exact HB.out)) hb); clear HB; have HO122 := n0_; have HB := n1_; clear n0_ n1_; clear hb ho4) | ((with_reducible refine gate_builtin (b := .append) (xs := #[.tmp 3, .tmp 4]) rfl ?_); at_builtin; refine Kd.R_append_rows Kd.string (w0 := w) w.heap.size rfl (.tmp 3) (.tmp 4) 60 9 (.string ⟨#[]⟩) 16 rfl Try.underlying60 info9 rfl (by decide) (by omega) v121 y120 l0 _ _ _ (fun _ => True) (fun _ => False) rfl rfl ?aO ?aR (fun _ _ h => h) (fun _ h => h.elim) ?aF ?aB ?aS ?aL ?_; (case aR => repeat (first | exact (Kd.C_below HR0.out HB.out) | (with_reducible refine Kd.C_alloc ?_ _) | (with_reducible refine Kd.C_drewN ?_ _) | (with_reducible refine Kd.C_drew ?_))); (case aB => exact (by repeat (first | (with_reducible first | exact HB.out | apply below_alloc | apply pw_below_drewN | apply below_drew1) | exact HB.out))); (case aF => exact (fun _ _ => trivial)); (case aO => exact (by (with_reducible repeat (first | apply Kd.R_alloc | apply Kd.R_drewN | apply Kd.R_drew)); exact HO122.out)); (case aS => exact (below_size (by repeat (first | (with_reducible first | exact HB.out | apply below_alloc | apply pw_below_drewN | apply below_drew1) | exact HB.out)))); (case aL => have := LMc2.out; omega); intro v124 w5 ho hb hg hat; rw [← Ny123.out] at ho; have n0_ := Aside0.mk (hb); have n1_ := Aside0.mk (ho); clear HB; clear HO122; have HB := n0_; have HO125 := n1_; clear n0_ n1_; clear ho hb hg hat))
    go_ret
    exact ⟨_, by first | rfl | (simp [errW_none, errW_some] <;> rfl) | (simp [*, errW_none, errW_some] <;> rfl), by (with_reducible repeat (first | apply Kd.R_alloc | apply Kd.R_drewN | apply Kd.R_drew)); exact HO125.out, by repeat (first | (with_reducible first | exact HB.out | apply below_alloc | apply pw_below_drewN | apply below_drew1) | exact HB.out)⟩
  · rw [if_neg c2] at H
    exact absurd H (by simp)

/-! ### wimplelaw0_LendTexts: function 39 -/
def wimplelaw0_LendTexts.f (l0 : List ByteArray) : Option (List ByteArray) := (wimplelaw0_CopyTexts.f l0).bind fun t126 => ((some (([(⟨#[126, 114, 111, 111, 109]⟩ : ByteArray), (⟨#[126, 98, 101, 104, 105, 110, 100]⟩ : ByteArray)] : List ByteArray) : List ByteArray)).bind fun y129 => (if t126.length + y129.length < 8796093022208 then ((some (t126 ++ y129 : List ByteArray)).bind fun y132 => (if 0 ≤ (l0.length : Int) then (if (l0.length : Int) ≤ (y132.length : Int) then (some (y132.take ((l0.length : Int) : Int).toNat)) else (none)) else (none))) else (none)))
/-! ### rdata_Txt: function 40 -/
def rdata_Txt.l0 : Nat → List ByteArray → List Int → List ByteArray → Int → Int → Option (ByteArray × Int)
  | 0, _, _, _, _, _ => none
  | k + 1, x0, x4, x7, x8, x9 => if x9 < x8 then (if 0 ≤ x9 then (if x9 < (x7.length : Int) then (if ((rdOf ByteArray.empty x7 x9).size : Int) > 255 then (some ((⟨#[]⟩ : ByteArray), 400)) else (if x4.length < 140737488355328 then ((some (x4 ++ [(((rdOf ByteArray.empty x7 x9).size : Int)) % 256] : List Int)).bind fun y139 => (if y139.length + (rdOf ByteArray.empty x7 x9).size < 140737488355328 then (rdata_Txt.l0 k x0 (y139 ++ bytesOf (rdOf ByteArray.empty x7 x9)) x7 x8 (wrap64 (x9 + 1))) else (none))) else (none))) else (none)) else (none)) else (if (x0.length : Int) = 0 then (some ((⟨#[]⟩ : ByteArray), 400)) else (if (x4.length : Int) > 65535 then (some ((⟨#[]⟩ : ByteArray), 400)) else (some (strOfNums x4, 0))))
def rdata_Txt.f (k : Nat) (l0 : List ByteArray) : Option (ByteArray × Int) := rdata_Txt.l0 k l0 ([] : List Int) l0 (l0.length : Int) 0
theorem rdata_Txt.mono_l : ∀ k, (∀ y0 y1 y2 y3 y4, LeO (rdata_Txt.l0 k y0 y1 y2 y3 y4) (rdata_Txt.l0 (k + 1) y0 y1 y2 y3 y4))
  | 0 => fun _ _ _ _ _ r h => by simp [rdata_Txt.l0] at h
  | k + 1 => by
    have ih0 := rdata_Txt.mono_l k
    · intro y0 y1 y2 y3 y4
      unfold rdata_Txt.l0
      repeat' first
      | (with_reducible exact ih0 _ _ _ _ _)
      | (with_reducible exact LeO.refl _)
      | (with_reducible exact LeO.none _)
      | (with_reducible refine LeO.ite ?_ ?_)
      | (with_reducible refine LeO.bind ?_ (fun _ => ?_))
      | exact ih0 _ _ _ _ _
      | exact LeO.none _
      | refine LeO.ite ?_ ?_
      | refine LeO.bind ?_ (fun _ => ?_)
theorem rdata_Txt.mono : ∀ a0 k, LeO (rdata_Txt.f k a0) (rdata_Txt.f (k + 1) a0) := by
  intro a0 k
  have ih0 := rdata_Txt.mono_l k
  unfold rdata_Txt.f
  repeat' first
      | (with_reducible exact ih0 _ _ _ _ _)
      | (with_reducible exact LeO.refl _)
      | (with_reducible exact LeO.none _)
      | (with_reducible refine LeO.ite ?_ ?_)
      | (with_reducible refine LeO.bind ?_ (fun _ => ?_))
      | exact ih0 _ _ _ _ _
      | exact LeO.none _
      | refine LeO.ite ?_ ?_
      | refine LeO.bind ?_ (fun _ => ?_)
set_option maxHeartbeats 8000000 in
set_option maxRecDepth 100000 in
theorem rdata_Txt.calls (k : Nat) (A0 : Option Addr) (c0 : Nat) (l0 : List ByteArray) (r1 : ByteArray) (r2 : Int) (w : World) (hr0 : Kd.C Kd.string w A0 l0.length l0) (hc0 : l0.length ≤ c0) (h : rdata_Txt.f k l0 = some (r1, r2)) :
    Calls Try.prog 40 #[.slice A0 l0.length c0] w fun e w' => e = .returned (.tuple #[.string r1, .int .i64 r2]) ∧ Below w.heap.size w w' := by
  have HR0 := Aside0.mk hr0
  have HC0 := Aside0.mk hc0
  clear hr0 hc0
  have HB := Aside0.mk (Below.refl w.heap.size w)
  have H : (rdata_Txt.l0 k l0 ([] : List Int) l0 (l0.length : Int) 0) = some (r1, r2) := h
  clear h
  have H' := Aside0.mk H
  clear H
  go_enter Try.func40, Try.ntmps40
  go_wp2
  go_loopg [4, 9] k (fun kq v4 v9 w' => ∃ (x4_1 : List Int) (x9_1 : Int), v9 = .int .i64 x9_1 ∧ Aside0 (rdata_Txt.l0 kq l0 x4_1 l0 (l0.length : Int) x9_1 = some (r1, r2)) ∧ Aside0 (kq ≤ k) ∧ Aside0 (Kd.R (Kd.int .u8) 5 w' w.heap.size (fun _ => True) v4 x4_1) ∧ Aside0 (Below w.heap.size w w'))
  case atStart => exact ⟨(([] : List Int)), (0), (by first | rfl | (simp; done) | (simp [*]; done)), H', ⟨Nat.le_refl _⟩, ⟨by first | exact Kd.R_nil _ _ _ _ _ | exact Kd.N_nil _ _ _ _ _ | exact Kd.V_nil _ _ _ _ _ | exact Kd.Q_nil _ _ _ _ _ | exact Kd.S_nil _ _ _ _ _⟩, ⟨by repeat (first | (with_reducible first | exact HB.out | apply below_alloc | apply pw_below_drewN | apply below_drew1) | exact HB.out)⟩⟩
  case round =>
    clear H'
    obtain ⟨x4_1, x9_1, rfl, HA, HK1, HO_4, HB⟩ := hrel
    cases gk with
    | zero => exact absurd HA.out (by simp [rdata_Txt.l0])
    | succ k1 =>
      have H := HA.out
      clear HA
      simp only [rdata_Txt.l0] at H
      by_cases c2 : x9_1 < (l0.length : Int)
      · rw [if_pos c2] at H
        have c2b0 : decide (x9_1 < (l0.length : Int)) = true := decide_eq_true c2
        clear c2
        by_cases c3 : 0 ≤ x9_1
        · rw [if_pos c3] at H
          have c3b0 : decide (0 ≤ x9_1) = true := decide_eq_true c3
          clear c3
          by_cases c4 : x9_1 < (l0.length : Int)
          · rw [if_pos c4] at H
            have c4b0 : decide (x9_1 < (l0.length : Int)) = true := decide_eq_true c4
            clear c4
            by_cases c5 : ((rdOf ByteArray.empty l0 x9_1).size : Int) > 255
            · rw [if_pos c5] at H
              have c5b0 : decide (255 < ((rdOf ByteArray.empty l0 x9_1).size : Int)) = true := decide_eq_true c5
              have c5b1 : decide (255 < (rdOf ByteArray.empty l0 x9_1).size) = true := decide_eq_true (by omega)
              clear c5
              simp only [Option.some.injEq, Prod.mk.injEq] at H
              obtain ⟨rfl, rfl⟩ := H
              have p138 : 0 ≤ (x9_1 : Int) := of_decide_eq_true (by first | (with_reducible assumption) | assumption)
              have q138 : x9_1 < (l0.length : Int) := of_decide_eq_true (by first | (with_reducible assumption) | assumption)
              obtain ⟨ad138, e138, hx138_0⟩ := Kd.at_string HR0.out x9_1 p138 q138
              cases e138
              replace hx138_0 := (HB.out.cell (World.block_lt_of_cell? w _ hx138_0)).trans hx138_0
              replace p138 := eq_true p138
              replace q138 := eq_true q138
              go_wp2
              go_ret2
              exact ⟨by first | rfl | (simp [errW_none, errW_some] <;> rfl) | (simp [*, errW_none, errW_some] <;> rfl), by repeat (first | (with_reducible first | exact HB.out | apply below_alloc | apply pw_below_drewN | apply below_drew1) | exact HB.out)⟩
            · rw [if_neg c5] at H
              have c5b0 : decide (255 < ((rdOf ByteArray.empty l0 x9_1).size : Int)) = false := decide_eq_false c5
              have c5b1 : decide (255 < (rdOf ByteArray.empty l0 x9_1).size) = false := decide_eq_false (by omega)
              clear c5
              by_cases c6 : x4_1.length < 140737488355328
              · rw [if_pos c6] at H
                have LMc6 := Aside0.mk c6
                clear c6
                obtain ⟨y139, hy139⟩ : ∃ y_ : List Int, y_ = (x4_1 ++ [(((rdOf ByteArray.empty l0 x9_1).size : Int)) % 256]) := ⟨_, rfl⟩
                replace H : (if y139.length + (rdOf ByteArray.empty l0 x9_1).size < 140737488355328 then (rdata_Txt.l0 k1 l0 (y139 ++ bytesOf (rdOf ByteArray.empty l0 x9_1)) l0 (l0.length : Int) (wrap64 (x9_1 + 1))) else (none)) = some (r1, r2) := by first | (rw [hy139]; with_reducible exact H) | (have H2_ := (Option.bind_some _ _).symm.trans H; rw [hy139]; with_reducible exact H2_) | (have H2_ := (Option.bind_some _ _).symm.trans H; with_reducible exact H2_) | with_reducible exact H | (rw [hy139]; exact H) | exact H
                have Ny139 := Aside0.mk hy139
                clear hy139
                by_cases c7 : y139.length + (rdOf ByteArray.empty l0 x9_1).size < 140737488355328
                · rw [if_pos c7] at H
                  have LMc7 := Aside0.mk c7
                  clear c7
                  obtain ⟨y142, hy142⟩ : ∃ y_ : List Int, y_ = (y139 ++ bytesOf (rdOf ByteArray.empty l0 x9_1)) := ⟨_, rfl⟩
                  replace H : (rdata_Txt.l0 k1 l0 y142 l0 (l0.length : Int) (wrap64 (x9_1 + 1))) = some (r1, r2) := by first | (rw [hy142]; with_reducible exact H) | (have H2_ := (Option.bind_some _ _).symm.trans H; rw [hy142]; with_reducible exact H2_) | (have H2_ := (Option.bind_some _ _).symm.trans H; with_reducible exact H2_) | with_reducible exact H | (rw [hy142]; exact H) | exact H
                  have Ny142 := Aside0.mk hy142
                  clear hy142
                  have H' := Aside0.mk H
                  clear H
                  have p138 : 0 ≤ (x9_1 : Int) := of_decide_eq_true (by first | (with_reducible assumption) | assumption)
                  have q138 : x9_1 < (l0.length : Int) := of_decide_eq_true (by first | (with_reducible assumption) | assumption)
                  obtain ⟨ad138, e138, hx138_0⟩ := Kd.at_string HR0.out x9_1 p138 q138
                  cases e138
                  replace hx138_0 := (HB.out.cell (World.block_lt_of_cell? w _ hx138_0)).trans hx138_0
                  replace p138 := eq_true p138
                  replace q138 := eq_true q138
                  go_wp2_with (first | ((with_reducible refine gate_builtin (b := .append) (xs := #[.tmp 16, .tmp 20]) rfl ?_); (try (refine gate_guard (by rfl) ?_; dsimp only)); at_builtin; refine Kd.R_append (Kd.int .u8) (w0 := w) w.heap.size rfl (.tmp 16) (.tmp 20) 54 5 (.int .u8 0) 1 rfl Try.underlying54 info5 rfl (by decide) (by omega) u4 x4_1 ((((rdOf ByteArray.empty l0 x9_1).size : Int)) % 256) [.int .u8 ((((rdOf ByteArray.empty l0 x9_1).size : Int)) % 256)] (fun _ => True) (fun _ => False) rfl rfl ?aP (fun _ hk => hk.elim) ?aF ?aO ?aB ?aS ?aL ?_; (case aP => exact rfl); (case aB => exact (by repeat (first | (with_reducible first | exact HB.out | apply below_alloc | apply pw_below_drewN | apply below_drew1) | exact HB.out))); (case aF => exact (fun _ _ => trivial)); (case aO => exact (by (with_reducible repeat (first | apply Kd.R_alloc | apply Kd.R_drewN | apply Kd.R_drew)); exact HO_4.out)); (case aS => exact (below_size (by repeat (first | (with_reducible first | exact HB.out | apply below_alloc | apply pw_below_drewN | apply below_drew1) | exact HB.out)))); (case aL => have := LMc6.out; omega); intro v140 w8 ho hb hg hat; rw [← Ny139.out] at ho; have n0_ := Aside0.mk (hb); have n1_ := Aside0.mk (ho); clear HB; clear HO_4; have HB := n0_; have HO141 := n1_; clear n0_ n1_; clear ho hb hg hat) | (at_builtin; refine print_append_str (w0 := w) w.heap.size rfl (.tmp 21) _ 54 9 5 rfl Try.underlying54 Try.underlying9 info5 v140 y139 (rdOf ByteArray.empty l0 x9_1) rfl rfl ?aO ?aB ?aS ?aL ?_; (case aB => exact (by repeat (first | (with_reducible first | exact HB.out | apply below_alloc | apply pw_below_drewN | apply below_drew1) | exact HB.out))); (case aO => exact (Kd.own_of_R (by (with_reducible repeat (first | apply Kd.R_alloc | apply Kd.R_drewN | apply Kd.R_drew)); exact HO141.out))); (case aS => exact (below_size (by repeat (first | (with_reducible first | exact HB.out | apply below_alloc | apply pw_below_drewN | apply below_drew1) | exact HB.out)))); (case aL => have := LMc7.out; omega); intro v143 w9 ho0 hb hg; have ho := Kd.R_of_own (h1 := fun _ => rfl) (ok := fun _ => True) ho0 (fun _ _ => trivial); clear ho0; have hat := True.intro; rw [← Ny142.out] at ho; change Kd.R (Kd.int .u8) 5 w9 w.heap.size (fun _ => True) v143 y142 at ho; have n0_ := Aside0.mk (hb); have n1_ := Aside0.mk (ho); clear HB; clear HO141; have HB := n0_; have HO144 := n1_; clear n0_ n1_; clear ho hb hg hat))
                  go_roundg k1
                  case measure => have := HK1.out; omega
                  case rel => exact ⟨(y142), (wrap64 (x9_1 + 1)), (by first | rfl | (simp; done) | (simp [*]; done)), H', ⟨by have := HK1.out; omega⟩, ⟨by (with_reducible repeat (first | apply Kd.R_alloc | apply Kd.R_drewN | apply Kd.R_drew)); exact HO144.out⟩, ⟨by repeat (first | (with_reducible first | exact HB.out | apply below_alloc | apply pw_below_drewN | apply below_drew1) | exact HB.out)⟩⟩
                · rw [if_neg c7] at H
                  exact absurd H (by simp)
              · rw [if_neg c6] at H
                exact absurd H (by simp)
          · rw [if_neg c4] at H
            exact absurd H (by simp)
        · rw [if_neg c3] at H
          exact absurd H (by simp)
      · rw [if_neg c2] at H
        have c2b0 : decide (x9_1 < (l0.length : Int)) = false := decide_eq_false c2
        clear c2
        by_cases c10 : (l0.length : Int) = 0
        · rw [if_pos c10] at H
          have c10b0 : ((l0.length : Int) == 0) = true := beq_iff_eq.mpr c10
          have c10b1 : ((l0.length : Int) != 0) = false := bne_eq_false_iff_eq.mpr c10
          clear c10
          simp only [Option.some.injEq, Prod.mk.injEq] at H
          obtain ⟨rfl, rfl⟩ := H
          go_wp2
          go_ret2
          exact ⟨by first | rfl | (simp [errW_none, errW_some] <;> rfl) | (simp [*, errW_none, errW_some] <;> rfl), by repeat (first | (with_reducible first | exact HB.out | apply below_alloc | apply pw_below_drewN | apply below_drew1) | exact HB.out)⟩
        · rw [if_neg c10] at H
          have c10b0 : ((l0.length : Int) == 0) = false := beq_eq_false_iff_ne.mpr c10
          have c10b1 : ((l0.length : Int) != 0) = true := bne_iff_ne.mpr c10
          have c10b2 : ¬ (l0 = []) := fun h_ => c10 (by rw [h_]; rfl)
          by_cases c11 : (x4_1.length : Int) > 65535
          · rw [if_pos c11] at H
            have c11b0 : decide (65535 < (x4_1.length : Int)) = true := decide_eq_true c11
            have c11b1 : decide (65535 < x4_1.length) = true := decide_eq_true (by omega)
            clear c11
            simp only [Option.some.injEq, Prod.mk.injEq] at H
            obtain ⟨rfl, rfl⟩ := H
            obtain ⟨Ao12, co12, eo12⟩ := Kd.R_slice HO_4.out
            subst eo12
            go_wp2
            go_ret2
            exact ⟨by first | rfl | (simp [errW_none, errW_some] <;> rfl) | (simp [*, errW_none, errW_some] <;> rfl), by repeat (first | (with_reducible first | exact HB.out | apply below_alloc | apply pw_below_drewN | apply below_drew1) | exact HB.out)⟩
          · rw [if_neg c11] at H
            have c11b0 : decide (65535 < (x4_1.length : Int)) = false := decide_eq_false c11
            have c11b1 : decide (65535 < x4_1.length) = false := decide_eq_false (by omega)
            clear c11
            simp only [Option.some.injEq, Prod.mk.injEq] at H
            obtain ⟨rfl, rfl⟩ := H
            obtain ⟨Ao13, co13, eo13⟩ := Kd.R_slice HO_4.out
            subst eo13
            have hcv14 := own_string (P := Try.prog) Try.underlying54 Try.underlying5 Try.underlying9 (Kd.own_of_R HO_4.out)
            go_wp2
            go_ret2
            exact ⟨by first | rfl | (simp [errW_none, errW_some] <;> rfl) | (simp [*, errW_none, errW_some] <;> rfl), by repeat (first | (with_reducible first | exact HB.out | apply below_alloc | apply pw_below_drewN | apply below_drew1) | exact HB.out)⟩

/-! ### wimpleref4_Txt: function 41 -/
def wimpleref4_Txt.l0 : Nat → List ByteArray → ByteArray → Int → Option (ByteArray × Int)
  | 0, _, _, _ => none
  | k + 1, x0, x4, x5 => if x5 < (x0.length : Int) then (if 0 ≤ x5 then (if ((rdOf ByteArray.empty x0 x5).size : Int) > 255 then (some ((⟨#[]⟩ : ByteArray), 400)) else (if (x4.size : Int) > 65535 then (some ((⟨#[]⟩ : ByteArray), 400)) else ((some (([(((rdOf ByteArray.empty x0 x5).size : Int)) % 256] : List Int) : List Int)).bind fun y147 => (if x4.size + (strOfNums y147).size ≤ 9223372036854775807 then (if (x4 ++ (strOfNums y147)).size + (rdOf ByteArray.empty x0 x5).size ≤ 9223372036854775807 then (wimpleref4_Txt.l0 k x0 ((x4 ++ (strOfNums y147)) ++ (rdOf ByteArray.empty x0 x5)) (wrap64 (x5 + 1))) else (none)) else (none))))) else (none)) else (if (x0.length : Int) = 0 then (some ((⟨#[]⟩ : ByteArray), 400)) else (if (x4.size : Int) > 65535 then (some ((⟨#[]⟩ : ByteArray), 400)) else (some (x4, 0))))
def wimpleref4_Txt.f (k : Nat) (l0 : List ByteArray) : Option (ByteArray × Int) := wimpleref4_Txt.l0 k l0 (⟨#[]⟩ : ByteArray) 0
def wimpleref4_Txt.T7 : Bool × List (List Nat × List Nat) := (true, [([], []), ([], []), ([], []), ([1, 2], [1, 2]), ([3], [3]), ([4], [4]), ([5], [5]), ([6], [6]), ([7], [7]), ([0, 8], [0, 8]), ([], []), ([], []), ([10, 11], [10, 11]), ([12], [12]), ([9, 13], [9, 13]), ([14, 0, 1, 2, 3, 4, 5, 6, 7, 8, 9, 10, 11, 12, 13, 14], [0, 14])])
def wimpleref4_Txt.B7 : List Nat := [0, 0, 0, 6, 14, 30, 62, 126, 254, 511, 0, 0, 3072, 7168, 16383, 32767]
theorem wimpleref4_Txt.tab7 : rtab .any (opsOf Try.f41 7) = wimpleref4_Txt.T7 := by kernel_rfl
theorem wimpleref4_Txt.bits7 : waitsOk wimpleref4_Txt.T7.2 wimpleref4_Txt.B7 = true := by kernel_rfl
set_option maxHeartbeats 8000000 in
set_option maxRecDepth 100000 in
theorem wimpleref4_Txt.calls (k : Nat) (A0 : Option Addr) (c0 : Nat) (l0 : List ByteArray) (r1 : ByteArray) (r2 : Int) (w : World) (hr0 : Kd.C Kd.string w A0 l0.length l0) (hc0 : l0.length ≤ c0) (h : wimpleref4_Txt.f k l0 = some (r1, r2)) :
    Calls Try.prog 41 #[.slice A0 l0.length c0] w fun e w' => e = .returned (.tuple #[.string r1, .int .i64 r2]) ∧ Below w.heap.size w w' := by
  have HR0 := Aside0.mk hr0
  have HC0 := Aside0.mk hc0
  clear hr0 hc0
  have HB := Aside0.mk (Below.refl w.heap.size w)
  have H : (wimpleref4_Txt.l0 k l0 (⟨#[]⟩ : ByteArray) 0) = some (r1, r2) := h
  clear h
  have H' := Aside0.mk H
  clear H
  go_enter Try.func41, Try.ntmps41
  go_wp2
  go_loopg [4, 5] k (fun kq v4 v5 w' => ∃ (x4_1 : ByteArray) (x5_1 : Int), v4 = .string x4_1 ∧ v5 = .int .i64 x5_1 ∧ Aside0 (wimpleref4_Txt.l0 kq l0 x4_1 x5_1 = some (r1, r2)) ∧ Aside0 (kq ≤ k) ∧ Aside0 (Below w.heap.size w w'))
  case atStart => exact ⟨((⟨#[]⟩ : ByteArray)), (0), (by first | rfl | (simp; done) | (simp [*]; done)), (by first | rfl | (simp; done) | (simp [*]; done)), H', ⟨Nat.le_refl _⟩, ⟨by repeat (first | (with_reducible first | exact HB.out | apply below_alloc | apply pw_below_drewN | apply below_drew1) | exact HB.out)⟩⟩
  case round =>
    clear H'
    obtain ⟨x4_1, x5_1, rfl, rfl, HA, HK1, HB⟩ := hrel
    cases gk with
    | zero => exact absurd HA.out (by simp [wimpleref4_Txt.l0])
    | succ k1 =>
      have H := HA.out
      clear HA
      simp only [wimpleref4_Txt.l0] at H
      by_cases c2 : x5_1 < (l0.length : Int)
      · rw [if_pos c2] at H
        have c2b0 : decide (x5_1 < (l0.length : Int)) = true := decide_eq_true c2
        clear c2
        by_cases c3 : 0 ≤ x5_1
        · rw [if_pos c3] at H
          have c3b0 : decide (0 ≤ x5_1) = true := decide_eq_true c3
          clear c3
          by_cases c4 : ((rdOf ByteArray.empty l0 x5_1).size : Int) > 255
          · rw [if_pos c4] at H
            have c4b0 : decide (255 < ((rdOf ByteArray.empty l0 x5_1).size : Int)) = true := decide_eq_true c4
            have c4b1 : decide (255 < (rdOf ByteArray.empty l0 x5_1).size) = true := decide_eq_true (by omega)
            clear c4
            simp only [Option.some.injEq, Prod.mk.injEq] at H
            obtain ⟨rfl, rfl⟩ := H
            have p145 : 0 ≤ (x5_1 : Int) := of_decide_eq_true (by first | (with_reducible assumption) | assumption)
            have q145 : x5_1 < (l0.length : Int) := of_decide_eq_true (by first | (with_reducible assumption) | assumption)
            obtain ⟨ad145, e145, hx145_0⟩ := Kd.at_string HR0.out x5_1 p145 q145
            cases e145
            replace hx145_0 := (HB.out.cell (World.block_lt_of_cell? w _ hx145_0)).trans hx145_0
            replace p145 := eq_true p145
            replace q145 := eq_true q145
            go_wp2
            go_ret2
            exact ⟨by first | rfl | (simp [errW_none, errW_some] <;> rfl) | (simp [*, errW_none, errW_some] <;> rfl), by repeat (first | (with_reducible first | exact HB.out | apply below_alloc | apply pw_below_drewN | apply below_drew1) | exact HB.out)⟩
          · rw [if_neg c4] at H
            have c4b0 : decide (255 < ((rdOf ByteArray.empty l0 x5_1).size : Int)) = false := decide_eq_false c4
            have c4b1 : decide (255 < (rdOf ByteArray.empty l0 x5_1).size) = false := decide_eq_false (by omega)
            clear c4
            by_cases c5 : (x4_1.size : Int) > 65535
            · rw [if_pos c5] at H
              have c5b0 : decide (65535 < (x4_1.size : Int)) = true := decide_eq_true c5
              have c5b1 : decide (65535 < x4_1.size) = true := decide_eq_true (by omega)
              clear c5
              simp only [Option.some.injEq, Prod.mk.injEq] at H
              obtain ⟨rfl, rfl⟩ := H
              have p145 : 0 ≤ (x5_1 : Int) := of_decide_eq_true (by first | (with_reducible assumption) | assumption)
              have q145 : x5_1 < (l0.length : Int) := of_decide_eq_true (by first | (with_reducible assumption) | assumption)
              obtain ⟨ad145, e145, hx145_0⟩ := Kd.at_string HR0.out x5_1 p145 q145
              cases e145
              replace hx145_0 := (HB.out.cell (World.block_lt_of_cell? w _ hx145_0)).trans hx145_0
              replace p145 := eq_true p145
              replace q145 := eq_true q145
              go_wp2
              go_ret2
              exact ⟨by first | rfl | (simp [errW_none, errW_some] <;> rfl) | (simp [*, errW_none, errW_some] <;> rfl), by repeat (first | (with_reducible first | exact HB.out | apply below_alloc | apply pw_below_drewN | apply below_drew1) | exact HB.out)⟩
            · rw [if_neg c5] at H
              have c5b0 : decide (65535 < (x4_1.size : Int)) = false := decide_eq_false c5
              have c5b1 : decide (65535 < x4_1.size) = false := decide_eq_false (by omega)
              clear c5
              obtain ⟨y147, hy147⟩ : ∃ y_ : List Int, y_ = (([(((rdOf ByteArray.empty l0 x5_1).size : Int)) % 256] : List Int)) := ⟨_, rfl⟩
              replace H : (if x4_1.size + (strOfNums y147).size ≤ 9223372036854775807 then (if (x4_1 ++ (strOfNums y147)).size + (rdOf ByteArray.empty l0 x5_1).size ≤ 9223372036854775807 then (wimpleref4_Txt.l0 k1 l0 ((x4_1 ++ (strOfNums y147)) ++ (rdOf ByteArray.empty l0 x5_1)) (wrap64 (x5_1 + 1))) else (none)) else (none)) = some (r1, r2) := by first | (rw [hy147]; with_reducible exact H) | (have H2_ := (Option.bind_some _ _).symm.trans H; rw [hy147]; with_reducible exact H2_) | (have H2_ := (Option.bind_some _ _).symm.trans H; with_reducible exact H2_) | with_reducible exact H | (rw [hy147]; exact H) | exact H
              have Ny147 := Aside0.mk hy147
              clear hy147
              by_cases c6 : x4_1.size + (strOfNums y147).size ≤ 9223372036854775807
              · rw [if_pos c6] at H
                have c6b0 := eq_true c6
                have c6b1 : decide (x4_1.size + (strOfNums y147).size ≤ 9223372036854775807) = true := decide_eq_true c6
                try have c6b2 : (9223372036854775807 < x4_1.size + (strOfNums y147).size) = False := eq_false (Nat.not_lt.2 c6)
                by_cases c7 : (x4_1 ++ (strOfNums y147)).size + (rdOf ByteArray.empty l0 x5_1).size ≤ 9223372036854775807
                · rw [if_pos c7] at H
                  have c7b0 := eq_true c7
                  have c7b1 : decide ((x4_1 ++ (strOfNums y147)).size + (rdOf ByteArray.empty l0 x5_1).size ≤ 9223372036854775807) = true := decide_eq_true c7
                  try have c7b2 : (9223372036854775807 < (x4_1 ++ (strOfNums y147)).size + (rdOf ByteArray.empty l0 x5_1).size) = False := eq_false (Nat.not_lt.2 c7)
                  try (have c7b3 := c7; simp only [ByteArray.size_append] at c7b3; replace c7b3 := eq_false (Nat.not_lt.2 c7b3))
                  have H' := Aside0.mk H
                  clear H
                  have p145 : 0 ≤ (x5_1 : Int) := of_decide_eq_true (by first | (with_reducible assumption) | assumption)
                  have q145 : x5_1 < (l0.length : Int) := of_decide_eq_true (by first | (with_reducible assumption) | assumption)
                  obtain ⟨ad145, e145, hx145_0⟩ := Kd.at_string HR0.out x5_1 p145 q145
                  cases e145
                  replace hx145_0 := (HB.out.cell (World.block_lt_of_cell? w _ hx145_0)).trans hx145_0
                  replace p145 := eq_true p145
                  replace q145 := eq_true q145
                  try go_wp2
                  have n0_ := Aside0.mk (below_drew1 HB.out)
                  clear HB
                  have HB := n0_
                  clear n0_
                  have p146 : 0 ≤ (x5_1 : Int) := of_decide_eq_true (by first | (with_reducible assumption) | assumption)
                  have q146 : x5_1 < (l0.length : Int) := of_decide_eq_true (by first | (with_reducible assumption) | assumption)
                  obtain ⟨ad146, e146, hx146_0⟩ := Kd.at_string HR0.out x5_1 p146 q146
                  have hw146_0 := hx146_0
                  obtain rfl : ad145 = ad146 := (by injection e146)
                  replace hx146_0 := (HB.out.cell (World.block_lt_of_cell? w _ hx146_0)).trans hx146_0
                  replace p146 := eq_true p146
                  replace q146 := eq_true q146
                  have p150 : 0 ≤ (x5_1 : Int) := of_decide_eq_true (by first | (with_reducible assumption) | assumption)
                  have q150 : x5_1 < (l0.length : Int) := of_decide_eq_true (by first | (with_reducible assumption) | assumption)
                  obtain ⟨ad150, e150, hx150_0⟩ := Kd.at_string HR0.out x5_1 p150 q150
                  have hw150_0 := hx150_0
                  obtain rfl : ad145 = ad150 := (by injection e150)
                  replace hx150_0 := (HB.out.cell (World.block_lt_of_cell? w _ hx150_0)).trans hx150_0
                  replace p150 := eq_true p150
                  replace q150 := eq_true q150
                  refine start_ (n := 16) (S := fun w' => w'.cell? (ad145.add (x5_1).toNat) = some (.string (rdOf ByteArray.empty l0 x5_1)) ∧ w'.cell? (ad145.add (x5_1).toNat) = some (.string (rdOf ByteArray.empty l0 x5_1))) (ds := []) #[false, false, false, false, false, false, false, false, false, false, false, false, false, false, false, false] (by kernel_rfl) rfl rfl ⟨((HB.out.cell (World.block_lt_of_cell? w _ hw146_0)).trans hw146_0), ((HB.out.cell (World.block_lt_of_cell? w _ hw150_0)).trans hw150_0)⟩ (fun hHeld => ?_); refine with_tabW wimpleref4_Txt.tab7 wimpleref4_Txt.bits7 (fun HT_ HW_ => ?_)
                  generalize wr.drew = w8 at HB hx146_0 hx150_0 hHeld ⊢
                  refine pure_ (i := 0) (N := some 23) (v := ?_) (a' := ?_) #[true, false, false, false, false, false, false, false, false, false, false, false, false, false, false, false] rfl rfl (any_of HT_.out (by kernel_rfl)) (fun _ _ _ h => h) (Or.inl ⟨by rfl, ?_⟩) ?_ ?_
                  rotate_left
                  · intro w'
                    go_simp
                    with_reducible rfl
                  rotate_left
                  · simp only [Act.put, List.setIfInBounds_toArray, List.set_cons_zero, List.set_cons_succ, i64_w, i32_w]
                    rfl
                  refine pure_ (i := 1) (N := some 24) (v := ?_) (a' := ?_) #[true, true, false, false, false, false, false, false, false, false, false, false, false, false, false, false] rfl rfl (any_of HT_.out (by kernel_rfl)) (fun _ _ _ h => h) (Or.inl ⟨by rfl, ?_⟩) ?_ ?_
                  rotate_left
                  · intro w'
                    go_simp
                    with_reducible rfl
                  rotate_left
                  · simp only [Act.put, List.setIfInBounds_toArray, List.set_cons_zero, List.set_cons_succ, i64_w, i32_w]
                    rfl
                  refine pure_ (i := 2) (N := some 25) (v := ?_) (a' := ?_) #[true, true, true, false, false, false, false, false, false, false, false, false, false, false, false, false] rfl rfl (any_of HT_.out (by kernel_rfl)) (fun _ _ _ h => h) (Or.inl ⟨by rfl, ?_⟩) ?_ ?_
                  rotate_left
                  · intro w'
                    go_simp
                    with_reducible rfl
                  rotate_left
                  · simp only [Act.put, List.setIfInBounds_toArray, List.set_cons_zero, List.set_cons_succ, i64_w, i32_w]
                    rfl
                  refine pure_ (i := 3) (N := some 26) (v := ?_) (a' := ?_) #[true, true, true, true, false, false, false, false, false, false, false, false, false, false, false, false] rfl rfl (any_of HT_.out (by kernel_rfl)) (fun _ _ _ h => h) (Or.inl ⟨by rfl, ?_⟩) ?_ ?_
                  rotate_left
                  · intro w'
                    go_simp
                    with_reducible rfl
                  rotate_left
                  · simp only [Act.put, List.setIfInBounds_toArray, List.set_cons_zero, List.set_cons_succ, i64_w, i32_w]
                    rfl
                  refine pure_ (i := 10) (N := some 33) (v := ?_) (a' := ?_) #[true, true, true, true, false, false, false, false, false, false, true, false, false, false, false, false] rfl rfl (any_of HT_.out (by kernel_rfl)) (fun _ _ _ h => h) (Or.inl ⟨by rfl, ?_⟩) ?_ ?_
                  rotate_left
                  · intro w'
                    go_simp
                    with_reducible rfl
                  rotate_left
                  · simp only [Act.put, List.setIfInBounds_toArray, List.set_cons_zero, List.set_cons_succ, i64_w, i32_w]
                    rfl
                  refine pure_ (i := 11) (N := some 34) (v := ?_) (a' := ?_) #[true, true, true, true, false, false, false, false, false, false, true, true, false, false, false, false] rfl rfl (any_of HT_.out (by kernel_rfl)) (fun _ _ _ h => h) (Or.inl ⟨by rfl, ?_⟩) ?_ ?_
                  rotate_left
                  · intro w'
                    go_simp
                    with_reducible rfl
                  rotate_left
                  · simp only [Act.put, List.setIfInBounds_toArray, List.set_cons_zero, List.set_cons_succ, i64_w, i32_w]
                    rfl
                  refine pure_ (i := 12) (N := some 35) (v := ?_) (a' := ?_) #[true, true, true, true, false, false, false, false, false, false, true, true, true, false, false, false] rfl rfl (any_of HT_.out (by kernel_rfl)) (fun _ _ _ h => h) (Or.inl ⟨by rfl, ?_⟩) ?_ ?_
                  rotate_left
                  · intro w'
                    go_simp
                    with_reducible rfl
                  rotate_left
                  · simp only [Act.put, List.setIfInBounds_toArray, List.set_cons_zero, List.set_cons_succ, i64_w, i32_w]
                    rfl
                  refine take_ (i := 4) (N := some 27) (v := ?_) (a' := ?_) #[true, true, true, true, true, false, false, false, false, false, true, true, true, false, false, false] rfl rfl (take_ofW HT_.out HW_.out (by kernel_rfl)) (fun _ _ _ h => h) (Or.inl ⟨by rfl, ?_⟩) hHeld ?_ ?_
                  rotate_left
                  · rintro w' ⟨s0, s1⟩
                    go_simp
                    with_reducible rfl
                  rotate_left
                  · simp only [Act.put, List.setIfInBounds_toArray, List.set_cons_zero, List.set_cons_succ, i64_w, i32_w]
                    rfl
                  refine pure_ (i := 5) (N := some 28) (v := ?_) (a' := ?_) #[true, true, true, true, true, true, false, false, false, false, true, true, true, false, false, false] rfl rfl (any_of HT_.out (by kernel_rfl)) (fun _ _ _ h => h) (Or.inl ⟨by rfl, ?_⟩) ?_ ?_
                  rotate_left
                  · intro w'
                    go_simp
                    with_reducible rfl
                  rotate_left
                  · simp only [Act.put, List.setIfInBounds_toArray, List.set_cons_zero, List.set_cons_succ, i64_w, i32_w]
                    rfl
                  refine pure_ (i := 6) (N := some 29) (v := ?_) (a' := ?_) #[true, true, true, true, true, true, true, false, false, false, true, true, true, false, false, false] rfl rfl (any_of HT_.out (by kernel_rfl)) (fun _ _ _ h => h) (Or.inl ⟨by rfl, ?_⟩) ?_ ?_
                  rotate_left
                  · intro w'
                    go_simp
                    with_reducible rfl
                  rotate_left
                  · simp only [Act.put, List.setIfInBounds_toArray, List.set_cons_zero, List.set_cons_succ, i64_w, i32_w]
                    rfl
                  refine take_ (i := 13) (N := some 36) (v := ?_) (a' := ?_) #[true, true, true, true, true, true, true, false, false, false, true, true, true, true, false, false] rfl rfl (take_ofW HT_.out HW_.out (by kernel_rfl)) (fun _ _ _ h => h) (Or.inl ⟨by rfl, ?_⟩) hHeld ?_ ?_
                  rotate_left
                  · rintro w' ⟨s0, s1⟩
                    go_simp
                    with_reducible rfl
                  rotate_left
                  · simp only [Act.put, List.setIfInBounds_toArray, List.set_cons_zero, List.set_cons_succ, i64_w, i32_w]
                    rfl
                  refine one_ (i := 7) (N := some 30) #[true, true, true, true, true, true, true, true, false, false, true, true, true, true, false, false] rfl rfl (one_of HT_.out (by kernel_rfl)) (by decide) (fun K hK => ?_)
                  refine Kd.R_lit_step (Kd.int .u8) _ 5 ?hg (N := 30) ?hd (xs := ([(((rdOf ByteArray.empty l0 x5_1).size : Int)) % 256] : List Int)) (inner := [.int .u8 ((((rdOf ByteArray.empty l0 x5_1).size : Int)) % 256)]) (ok := fun _ => True) (okp := fun _ => True) ?hr ?hp (fun _ hk => hk) trivial (Below.refl _ _) (Nat.le_refl _) (by simp) ?_; (case hd => rfl); (case hg => rfl); (case hr => first | (go_simp; done) | (go_simp; rfl)); (case hp => exact (Reps.one (show Kd.M (Kd.int .u8) _ _ _ ((((rdOf ByteArray.empty l0 x5_1).size : Int)) % 256) [.int .u8 ((((rdOf ByteArray.empty l0 x5_1).size : Int)) % 256)] from rfl) (Reps.none _ _)))
                  intro v148 w9 ho10 hb hg_ hnew_
                  clear hg_ hnew_
                  (first | rw [← Ny147.out] at ho10 | (simp only [Int.reduceToNat] at ho10; rw [← Ny147.out] at ho10))
                  have n0_ := Aside0.mk (Kd.R_lower ho10 (below_size (by repeat (first | (with_reducible first | exact HB.out | apply below_alloc | apply pw_below_drewN | apply below_drew1) | exact HB.out))))
                  have n1_ := Aside0.mk (below_step (by repeat (first | (with_reducible first | exact HB.out | apply below_alloc | apply pw_below_drewN | apply below_drew1) | exact HB.out)) hb)
                  clear HB
                  have HO149 := n0_
                  have HB := n1_
                  clear n0_ n1_
                  clear hb ho10
                  refine hK.out _ _ ⟨((HB.out.cell (World.block_lt_of_cell? w _ hw146_0)).trans hw146_0), ((HB.out.cell (World.block_lt_of_cell? w _ hw150_0)).trans hw150_0)⟩ (fun hHeld => ?_)
                  clear hK K
                  refine norm_ (a' := ?_) ?_ ?_
                  rotate_left
                  · show Act.put _ (some 30) _ = _
                    simp only [Act.put, List.setIfInBounds_toArray, List.set_cons_zero, List.set_cons_succ, i64_w, i32_w]
                    rfl
                  refine one_ (i := 8) (N := some 31) #[true, true, true, true, true, true, true, true, true, false, true, true, true, true, false, false] rfl rfl (one_of HT_.out (by kernel_rfl)) (by decide) (fun K hK => ?_)
                  have hcv11 := own_string (P := Try.prog) Try.underlying54 Try.underlying5 Try.underlying9 (Kd.own_of_R HO149.out)
                  refine value_ (w1 := ?_) (v := ?_) (by rfl) rfl ?_ ?_
                  rotate_left 2
                  · go_simp
                    constructor
                    · rfl
                    · rfl
                  clear hcv11
                  refine hK.out _ _ ⟨((HB.out.cell (World.block_lt_of_cell? w _ hw146_0)).trans hw146_0), ((HB.out.cell (World.block_lt_of_cell? w _ hw150_0)).trans hw150_0)⟩ (fun hHeld => ?_)
                  clear hK K
                  refine norm_ (a' := ?_) ?_ ?_
                  rotate_left
                  · show Act.put _ (some 31) _ = _
                    simp only [Act.put, List.setIfInBounds_toArray, List.set_cons_zero, List.set_cons_succ, i64_w, i32_w]
                    rfl
                  refine pure_ (i := 9) (N := some 32) (v := ?_) (a' := ?_) #[true, true, true, true, true, true, true, true, true, true, true, true, true, true, false, false] rfl rfl (any_of HT_.out (by kernel_rfl)) (fun _ _ _ h => h) (Or.inl ⟨by rfl, ?_⟩) ?_ ?_
                  rotate_left
                  · intro w'
                    go_simp
                    with_reducible rfl
                  rotate_left
                  · simp only [Act.put, List.setIfInBounds_toArray, List.set_cons_zero, List.set_cons_succ, i64_w, i32_w]
                    rfl
                  refine pure_ (i := 14) (N := some 37) (v := ?_) (a' := ?_) #[true, true, true, true, true, true, true, true, true, true, true, true, true, true, true, false] rfl rfl (any_of HT_.out (by kernel_rfl)) (fun _ _ _ h => h) (Or.inl ⟨by rfl, ?_⟩) ?_ ?_
                  rotate_left
                  · intro w'
                    go_simp
                    with_reducible rfl
                  rotate_left
                  · simp only [Act.put, List.setIfInBounds_toArray, List.set_cons_zero, List.set_cons_succ, i64_w, i32_w]
                    rfl
                  refine pure_ (i := 15) (N := some 4) (v := ?_) (a' := ?_) #[true, true, true, true, true, true, true, true, true, true, true, true, true, true, true, true] rfl rfl (any_of HT_.out (by kernel_rfl)) (fun _ _ _ h => h) (Or.inl ⟨by rfl, ?_⟩) ?_ ?_
                  rotate_left
                  · intro w'
                    go_simp
                    with_reducible rfl
                  rotate_left
                  · simp only [Act.put, List.setIfInBounds_toArray, List.set_cons_zero, List.set_cons_succ, i64_w, i32_w]
                    rfl
                  refine done_ (done_of HT_.out (by kernel_rfl)) ?_
                  try go_wp2
                  go_roundg k1
                  case measure => have := HK1.out; omega
                  case rel => exact ⟨((x4_1 ++ (strOfNums y147)) ++ (rdOf ByteArray.empty l0 x5_1)), (wrap64 (x5_1 + 1)), (by first | rfl | (simp; done) | (simp [*]; done)), (by first | rfl | (simp; done) | (simp [*]; done)), H', ⟨by have := HK1.out; omega⟩, ⟨by repeat (first | (with_reducible first | exact HB.out | apply below_alloc | apply pw_below_drewN | apply below_drew1) | exact HB.out)⟩⟩
                · rw [if_neg c7] at H
                  exact absurd H (by simp)
              · rw [if_neg c6] at H
                exact absurd H (by simp)
        · rw [if_neg c3] at H
          exact absurd H (by simp)
      · rw [if_neg c2] at H
        have c2b0 : decide (x5_1 < (l0.length : Int)) = false := decide_eq_false c2
        clear c2
        by_cases c12 : (l0.length : Int) = 0
        · rw [if_pos c12] at H
          have c12b0 : ((l0.length : Int) == 0) = true := beq_iff_eq.mpr c12
          have c12b1 : ((l0.length : Int) != 0) = false := bne_eq_false_iff_eq.mpr c12
          clear c12
          simp only [Option.some.injEq, Prod.mk.injEq] at H
          obtain ⟨rfl, rfl⟩ := H
          go_wp2
          go_ret2
          exact ⟨by first | rfl | (simp [errW_none, errW_some] <;> rfl) | (simp [*, errW_none, errW_some] <;> rfl), by repeat (first | (with_reducible first | exact HB.out | apply below_alloc | apply pw_below_drewN | apply below_drew1) | exact HB.out)⟩
        · rw [if_neg c12] at H
          have c12b0 : ((l0.length : Int) == 0) = false := beq_eq_false_iff_ne.mpr c12
          have c12b1 : ((l0.length : Int) != 0) = true := bne_iff_ne.mpr c12
          have c12b2 : ¬ (l0 = []) := fun h_ => c12 (by rw [h_]; rfl)
          by_cases c13 : (x4_1.size : Int) > 65535
          · rw [if_pos c13] at H
            have c13b0 : decide (65535 < (x4_1.size : Int)) = true := decide_eq_true c13
            have c13b1 : decide (65535 < x4_1.size) = true := decide_eq_true (by omega)
            clear c13
            simp only [Option.some.injEq, Prod.mk.injEq] at H
            obtain ⟨rfl, rfl⟩ := H
            go_wp2
            go_ret2
            exact ⟨by first | rfl | (simp [errW_none, errW_some] <;> rfl) | (simp [*, errW_none, errW_some] <;> rfl), by repeat (first | (with_reducible first | exact HB.out | apply below_alloc | apply pw_below_drewN | apply below_drew1) | exact HB.out)⟩
          · rw [if_neg c13] at H
            have c13b0 : decide (65535 < (x4_1.size : Int)) = false := decide_eq_false c13
            have c13b1 : decide (65535 < x4_1.size) = false := decide_eq_false (by omega)
            clear c13
            simp only [Option.some.injEq, Prod.mk.injEq] at H
            obtain ⟨rfl, rfl⟩ := H
            go_wp2
            go_ret2
            exact ⟨by first | rfl | (simp [errW_none, errW_some] <;> rfl) | (simp [*, errW_none, errW_some] <;> rfl), by repeat (first | (with_reducible first | exact HB.out | apply below_alloc | apply pw_below_drewN | apply below_drew1) | exact HB.out)⟩

/-! ### wimplelaw0_SameTexts: function 65 -/
def wimplelaw0_SameTexts.l0 : Nat → List ByteArray → List ByteArray → Int → Option (Bool)
  | 0, _, _, _ => none
  | k + 1, x0, x1, x5 => if x5 < (x0.length : Int) then (if 0 ≤ x5 then (if x5 < (x1.length : Int) then (if (rdOf ByteArray.empty x0 x5).toList = (rdOf ByteArray.empty x1 x5).toList then (wimplelaw0_SameTexts.l0 k x0 x1 (wrap64 (x5 + 1))) else (some false)) else (none)) else (none)) else (some true)
def wimplelaw0_SameTexts.f (k : Nat) (l0 : List ByteArray) (l1 : List ByteArray) : Option (Bool) := if (l0.length : Int) = (l1.length : Int) then (wimplelaw0_SameTexts.l0 k l0 l1 0) else (some false)
set_option maxHeartbeats 8000000 in
set_option maxRecDepth 100000 in
theorem wimplelaw0_SameTexts.calls (k : Nat) (A0 : Option Addr) (c0 : Nat) (l0 : List ByteArray) (A1 : Option Addr) (c1 : Nat) (l1 : List ByteArray) (r : Bool) (w : World) (hr0 : Kd.C Kd.string w A0 l0.length l0) (hc0 : l0.length ≤ c0) (hr1 : Kd.C Kd.string w A1 l1.length l1) (hc1 : l1.length ≤ c1) (h : wimplelaw0_SameTexts.f k l0 l1 = some r) :
    Calls Try.prog 65 #[.slice A0 l0.length c0, .slice A1 l1.length c1] w fun e w' => e = .returned (.bool r) ∧ Drawn0 w w' := by
  have HR0 := Aside0.mk hr0
  have HC0 := Aside0.mk hc0
  clear hr0 hc0
  have HR1 := Aside0.mk hr1
  have HC1 := Aside0.mk hc1
  clear hr1 hc1
  have H : (if (l0.length : Int) = (l1.length : Int) then (wimplelaw0_SameTexts.l0 k l0 l1 0) else (some false)) = some r := h
  clear h
  by_cases c3 : (l0.length : Int) = (l1.length : Int)
  · rw [if_pos c3] at H
    have c3b0 : ((l0.length : Int) == (l1.length : Int)) = true := beq_iff_eq.mpr c3
    have c3b1 : ((l0.length : Int) != (l1.length : Int)) = false := bne_eq_false_iff_eq.mpr c3
    have c3b2 : (l0.length == l1.length) = true := by first | simpa using c3 | (simp at c3 ⊢; omega)
    clear c3
    have H' := Aside0.mk H
    clear H
    go_enter Try.func65, Try.ntmps65
    go_wp2
    repeat (go_quiet (fail); try go_wp2)
    go_loopg [5] k (fun kq v5 w' => ∃ (x5_1 : Int), v5 = .int .i64 x5_1 ∧ Aside0 (wimplelaw0_SameTexts.l0 kq l0 l1 x5_1 = some r) ∧ Aside0 (kq ≤ k) ∧ Drawn0 w w')
    case atStart => exact ⟨(0), (by first | rfl | (simp; done) | (simp [*]; done)), H', ⟨Nat.le_refl _⟩, by repeat (first | exact Drawn0.refl _ | apply Drawn0.step)⟩
    case round =>
      clear H'
      try clear c1
      try clear p2
      try clear c3
      try clear c3b0
      try clear c3b1
      try clear c3b2
      obtain ⟨x5_1, rfl, HA, HK1, ⟨m1, rfl⟩⟩ := hrel
      cases gk with
      | zero => exact absurd HA.out (by simp [wimplelaw0_SameTexts.l0])
      | succ k1 =>
        have H := HA.out
        clear HA
        simp only [wimplelaw0_SameTexts.l0] at H
        by_cases c4 : x5_1 < (l0.length : Int)
        · rw [if_pos c4] at H
          have c4b0 : decide (x5_1 < (l0.length : Int)) = true := decide_eq_true c4
          clear c4
          by_cases c5 : 0 ≤ x5_1
          · rw [if_pos c5] at H
            have c5b0 : decide (0 ≤ x5_1) = true := decide_eq_true c5
            clear c5
            by_cases c6 : x5_1 < (l1.length : Int)
            · rw [if_pos c6] at H
              have c6b0 : decide (x5_1 < (l1.length : Int)) = true := decide_eq_true c6
              clear c6
              by_cases c7 : (rdOf ByteArray.empty l0 x5_1).toList = (rdOf ByteArray.empty l1 x5_1).toList
              · rw [if_pos c7] at H
                have c7b0 : ((rdOf ByteArray.empty l0 x5_1).toList == (rdOf ByteArray.empty l1 x5_1).toList) = true := beq_iff_eq.mpr c7
                have c7b1 : ((rdOf ByteArray.empty l0 x5_1).toList != (rdOf ByteArray.empty l1 x5_1).toList) = false := bne_eq_false_iff_eq.mpr c7
                clear c7
                have H' := Aside0.mk H
                clear H
                have p151 : 0 ≤ (x5_1 : Int) := of_decide_eq_true (by first | (with_reducible assumption) | assumption)
                have q151 : x5_1 < (l0.length : Int) := of_decide_eq_true (by first | (with_reducible assumption) | assumption)
                obtain ⟨ad151, e151, hx151_0⟩ := Kd.at_string HR0.out x5_1 p151 q151
                cases e151
                replace p151 := eq_true p151
                replace q151 := eq_true q151
                have p152 : 0 ≤ (x5_1 : Int) := of_decide_eq_true (by first | (with_reducible assumption) | assumption)
                have q152 : x5_1 < (l1.length : Int) := of_decide_eq_true (by first | (with_reducible assumption) | assumption)
                obtain ⟨ad152, e152, hx152_0⟩ := Kd.at_string HR1.out x5_1 p152 q152
                cases e152
                replace p152 := eq_true p152
                replace q152 := eq_true q152
                go_wp2
                repeat (go_quiet (fail); try go_wp2)
                go_roundg k1
                case measure => have := HK1.out; omega
                case rel => exact ⟨(wrap64 (x5_1 + 1)), (by first | rfl | (simp; done) | (simp [*]; done)), H', ⟨by have := HK1.out; omega⟩, by repeat (first | exact Drawn0.refl _ | apply Drawn0.step)⟩
              · rw [if_neg c7] at H
                have c7b0 : ((rdOf ByteArray.empty l0 x5_1).toList == (rdOf ByteArray.empty l1 x5_1).toList) = false := beq_eq_false_iff_ne.mpr c7
                have c7b1 : ((rdOf ByteArray.empty l0 x5_1).toList != (rdOf ByteArray.empty l1 x5_1).toList) = true := bne_iff_ne.mpr c7
                obtain rfl := Option.some.inj H
                have p151 : 0 ≤ (x5_1 : Int) := of_decide_eq_true (by first | (with_reducible assumption) | assumption)
                have q151 : x5_1 < (l0.length : Int) := of_decide_eq_true (by first | (with_reducible assumption) | assumption)
                obtain ⟨ad151, e151, hx151_0⟩ := Kd.at_string HR0.out x5_1 p151 q151
                cases e151
                replace p151 := eq_true p151
                replace q151 := eq_true q151
                have p152 : 0 ≤ (x5_1 : Int) := of_decide_eq_true (by first | (with_reducible assumption) | assumption)
                have q152 : x5_1 < (l1.length : Int) := of_decide_eq_true (by first | (with_reducible assumption) | assumption)
                obtain ⟨ad152, e152, hx152_0⟩ := Kd.at_string HR1.out x5_1 p152 q152
                cases e152
                replace p152 := eq_true p152
                replace q152 := eq_true q152
                go_wp2
                repeat (go_quiet (fail); try go_wp2)
                go_ret
                exact ⟨by first | rfl | (simp; done) | (simp [*]; done), by repeat (first | exact Drawn0.refl _ | apply Drawn0.step)⟩
            · rw [if_neg c6] at H
              exact absurd H (by simp)
          · rw [if_neg c5] at H
            exact absurd H (by simp)
        · rw [if_neg c4] at H
          have c4b0 : decide (x5_1 < (l0.length : Int)) = false := decide_eq_false c4
          clear c4
          obtain rfl := Option.some.inj H
          go_wp2
          repeat (go_quiet (fail); try go_wp2)
          go_ret
          exact ⟨by first | rfl | (simp; done) | (simp [*]; done), by repeat (first | exact Drawn0.refl _ | apply Drawn0.step)⟩
  · rw [if_neg c3] at H
    have c3b0 : ((l0.length : Int) == (l1.length : Int)) = false := beq_eq_false_iff_ne.mpr c3
    have c3b1 : ((l0.length : Int) != (l1.length : Int)) = true := bne_iff_ne.mpr c3
    have c3b2 : (l0.length == l1.length) = false := by first | simpa using c3 | (simp at c3 ⊢; omega)
    obtain rfl := Option.some.inj H
    go_enter Try.func65, Try.ntmps65
    go_wp2
    repeat (go_quiet (fail); try go_wp2)
    go_ret
    exact ⟨by first | rfl | (simp; done) | (simp [*]; done), by repeat (first | exact Drawn0.refl _ | apply Drawn0.step)⟩

end Go.Proofs.Ytndcjleadggibaa.PRz

namespace Go.Proofs.Ytndcjleadggibaa.LendT
open Go.RowKit Go.Proofs.YtndcjleadggibaaW.PrintWords Go.Proofs.YtndcjleadggibaaW.PrintLast Go.Proofs.YtndcjleadggibaaW.PrintMore
set_option linter.unusedVariables false
set_option linter.unusedSimpArgs false
open Go.Proofs.Ytndcjleadggibaa.PRz
def Lent (w w' : World) (l0 r : List ByteArray) (e : Ending) : Prop := ∃ (Af : Option Addr) (cf : Nat) (t full : List ByteArray), e = .returned (.slice Af r.length cf) ∧ wimplelaw0_CopyTexts.f l0 = some t ∧ full = t ++ ([(⟨#[126, 114, 111, 111, 109]⟩ : ByteArray), (⟨#[126, 98, 101, 104, 105, 110, 100]⟩ : ByteArray)] : List ByteArray) ∧ Kd.R Kd.string 9 w' w.heap.size (fun _ => True) (.slice Af full.length cf) full ∧ Below w.heap.size w w'
set_option maxHeartbeats 8000000 in
set_option maxRecDepth 100000 in
theorem lendc (A0 : Option Addr) (c0 : Nat) (l0 : List ByteArray) (r : List ByteArray) (w : World) (hr0 : Kd.C Kd.string w A0 l0.length l0) (hc0 : l0.length ≤ c0) (h : wimplelaw0_LendTexts.f l0 = some r) :
    Calls Try.prog 39 #[.slice A0 l0.length c0] w fun e w' => Lent w w' l0 r e := by
  have HR0 := Aside0.mk hr0
  have HC0 := Aside0.mk hc0
  clear hr0 hc0
  have HB := Aside0.mk (Below.refl w.heap.size w)
  have H : ((wimplelaw0_CopyTexts.f l0).bind fun t126 => ((some (([(⟨#[126, 114, 111, 111, 109]⟩ : ByteArray), (⟨#[126, 98, 101, 104, 105, 110, 100]⟩ : ByteArray)] : List ByteArray) : List ByteArray)).bind fun y129 => (if t126.length + y129.length < 8796093022208 then ((some (t126 ++ y129 : List ByteArray)).bind fun y132 => (if 0 ≤ (l0.length : Int) then (if (l0.length : Int) ≤ (y132.length : Int) then (some (y132.take ((l0.length : Int) : Int).toNat)) else (none)) else (none))) else (none)))) = some r := h
  clear h
  replace H := Option.bind_eq_some_iff.mp H
  obtain ⟨t126, A20, H⟩ := H
  replace H : ((some (([(⟨#[126, 114, 111, 111, 109]⟩ : ByteArray), (⟨#[126, 98, 101, 104, 105, 110, 100]⟩ : ByteArray)] : List ByteArray) : List ByteArray)).bind fun y129 => (if t126.length + y129.length < 8796093022208 then ((some (t126 ++ y129 : List ByteArray)).bind fun y132 => (if 0 ≤ (l0.length : Int) then (if (l0.length : Int) ≤ (y132.length : Int) then (some (y132.take ((l0.length : Int) : Int).toNat)) else (none)) else (none))) else (none))) = some r := H
  have A2 := Aside0.mk A20
  clear A20
  obtain ⟨y129, hy129⟩ : ∃ y_ : List ByteArray, y_ = (([(⟨#[126, 114, 111, 111, 109]⟩ : ByteArray), (⟨#[126, 98, 101, 104, 105, 110, 100]⟩ : ByteArray)] : List ByteArray)) := ⟨_, rfl⟩
  replace H : (if t126.length + y129.length < 8796093022208 then ((some (t126 ++ y129 : List ByteArray)).bind fun y132 => (if 0 ≤ (l0.length : Int) then (if (l0.length : Int) ≤ (y132.length : Int) then (some (y132.take ((l0.length : Int) : Int).toNat)) else (none)) else (none))) else (none)) = some r := by first | (rw [hy129]; with_reducible exact H) | (have H2_ := (Option.bind_some _ _).symm.trans H; rw [hy129]; with_reducible exact H2_) | (have H2_ := (Option.bind_some _ _).symm.trans H; with_reducible exact H2_) | with_reducible exact H | (rw [hy129]; exact H) | exact H
  have Ny129 := Aside0.mk hy129
  clear hy129
  by_cases c3 : t126.length + y129.length < 8796093022208
  · rw [if_pos c3] at H
    have LMc3 := Aside0.mk c3
    clear c3
    obtain ⟨y132, hy132⟩ : ∃ y_ : List ByteArray, y_ = (t126 ++ y129) := ⟨_, rfl⟩
    replace H : (if 0 ≤ (l0.length : Int) then (if (l0.length : Int) ≤ (y132.length : Int) then (some (y132.take ((l0.length : Int) : Int).toNat)) else (none)) else (none)) = some r := by first | (rw [hy132]; with_reducible exact H) | (have H2_ := (Option.bind_some _ _).symm.trans H; rw [hy132]; with_reducible exact H2_) | (have H2_ := (Option.bind_some _ _).symm.trans H; with_reducible exact H2_) | with_reducible exact H | (rw [hy132]; exact H) | exact H
    have Ny132 := Aside0.mk hy132
    clear hy132
    by_cases c4 : 0 ≤ (l0.length : Int)
    · rw [if_pos c4] at H
      have c4b0 := eq_true c4
      have c4b1 : decide (0 ≤ (l0.length : Int)) = true := decide_eq_true c4
      clear c4
      by_cases c5 : (l0.length : Int) ≤ (y132.length : Int)
      · rw [if_pos c5] at H
        have c5b0 := eq_true c5
        have c5b1 : decide ((l0.length : Int) ≤ (y132.length : Int)) = true := decide_eq_true c5
        clear c5
        obtain ⟨y135, hy135⟩ : ∃ y_ : List ByteArray, y_ = (y132.take ((l0.length : Int) : Int).toNat) := ⟨_, rfl⟩
        replace H : (some y135) = some r := by first | (rw [hy135]; with_reducible exact H) | (have H2_ := (Option.bind_some _ _).symm.trans H; rw [hy135]; with_reducible exact H2_) | (have H2_ := (Option.bind_some _ _).symm.trans H; with_reducible exact H2_) | with_reducible exact H | (rw [hy135]; exact H) | exact H
        have Ny135 := Aside0.mk hy135
        clear hy135
        obtain rfl := Option.some.inj H
        go_enter Try.func39, Try.ntmps39
        go_wp2_with (first | ((with_reducible refine gate_dst (N := 5) rfl ?_); (with_reducible refine gate_callee (f := 64) rfl ?_); refine goesL_ (some 5) rfl rfl Try.func64 (by kernel_rfl) rfl #[.slice A0 l0.length c0] rfl (by (try simp only [List.map_toArray, List.map_cons, List.map_nil]); first | done | rfl | (simp only [List.length_drop, List.length_take]; rfl)) ?_; (with_reducible refine (wimplelaw0_CopyTexts.calls _ _ l0 t126 _ ?side1 ?side2 A2.out).mono ?_); (case side1 => repeat (first | exact HR0.out | (with_reducible refine Kd.C_alloc ?_ _) | (with_reducible refine Kd.C_drewN ?_ _) | (with_reducible refine Kd.C_drew ?_))); (case side2 => exact HC0.out); rintro e w6 ⟨v127, rfl, ho0, hb⟩; refine ⟨_, rfl, ?_⟩; have n0_ := Aside0.mk (Kd.R_lower ho0 (below_size (by repeat (first | (with_reducible first | exact HB.out | apply below_alloc | apply pw_below_drewN | apply below_drew1) | exact HB.out)))); have n1_ := Aside0.mk (below_step (by repeat (first | (with_reducible first | exact HB.out | apply below_alloc | apply pw_below_drewN | apply below_drew1) | exact HB.out)) hb); clear HB; have HO128 := n0_; have HB := n1_; clear n0_ n1_; (try clear hb); (try clear hb2); (try clear hk); (try clear hi); (try clear ho0)) | ((with_reducible refine gate_dst (N := 6) rfl ?_); refine Kd.R_lit Kd.string _ 9 ?hg (N := 6) ?hd (xs := ([(⟨#[126, 114, 111, 111, 109]⟩ : ByteArray), (⟨#[126, 98, 101, 104, 105, 110, 100]⟩ : ByteArray)] : List ByteArray)) (inner := [.string (⟨#[126, 114, 111, 111, 109]⟩ : ByteArray), .string (⟨#[126, 98, 101, 104, 105, 110, 100]⟩ : ByteArray)]) (ok := fun _ => True) (okp := fun _ => True) ?hr ?hp (fun _ hk => hk) trivial (Below.refl _ _) (Nat.le_refl _) (by simp) ?_; (case hd => rfl); (case hg => rfl); (case hr => first | (go_simp; done) | (go_simp; rfl)); (case hp => exact (Reps.one (show Kd.M Kd.string _ _ _ (⟨#[126, 114, 111, 111, 109]⟩ : ByteArray) [.string (⟨#[126, 114, 111, 111, 109]⟩ : ByteArray)] from rfl) (Reps.one (show Kd.M Kd.string _ _ _ (⟨#[126, 98, 101, 104, 105, 110, 100]⟩ : ByteArray) [.string (⟨#[126, 98, 101, 104, 105, 110, 100]⟩ : ByteArray)] from rfl) (Reps.none _ _)))); intro v130 w7 ho8 hb hg_ hnew_; clear hg_ hnew_; (first | rw [← Ny129.out] at ho8 | (simp only [Int.reduceToNat] at ho8; rw [← Ny129.out] at ho8)); have n0_ := Aside0.mk (Kd.R_elder' (by (with_reducible repeat (first | apply Kd.R_alloc | apply Kd.R_drewN | apply Kd.R_drew)); exact HO128.out) (Kd.R_base ho8) hb); have n1_ := Aside0.mk (Kd.R_lower (Kd.R_new' ho8 (Kd.R_lt (by (with_reducible repeat (first | apply Kd.R_alloc | apply Kd.R_drewN | apply Kd.R_drew)); exact HO128.out))) (below_size (by repeat (first | (with_reducible first | exact HB.out | apply below_alloc | apply pw_below_drewN | apply below_drew1) | exact HB.out)))); have n2_ := Aside0.mk (below_step (by repeat (first | (with_reducible first | exact HB.out | apply below_alloc | apply pw_below_drewN | apply below_drew1) | exact HB.out)) hb); clear HO128; clear HB; have HO128 := n0_; have HO131 := n1_; have HB := n2_; clear n0_ n1_ n2_; clear hb ho8; obtain ⟨Ao10, co10, eo10⟩ := Kd.R_slice HO131.out; subst eo10) | ((with_reducible refine gate_builtin (b := .append) (xs := #[.tmp 5, .tmp 6]) rfl ?_); at_builtin; refine Kd.R_append_rows Kd.string (w0 := w) w.heap.size rfl (.tmp 5) (.tmp 6) 60 9 (.string ⟨#[]⟩) 16 rfl Try.underlying60 info9 rfl (by decide) (by omega) v127 t126 y129 _ _ _ (fun k_ => some k_ ≠ (.slice Ao10 y129.length co10 : Value).ownBlock) (fun _ => False) rfl rfl ?aO ?aR (fun _ _ h => h) (fun _ h => h.elim) ?aF ?aB ?aS ?aL ?_; (case aR => repeat (first | exact (Kd.R_reads' HO131.out).2.2 | (with_reducible refine Kd.C_alloc ?_ _) | (with_reducible refine Kd.C_drewN ?_ _) | (with_reducible refine Kd.C_drew ?_))); (case aB => exact (by repeat (first | (with_reducible first | exact HB.out | apply below_alloc | apply pw_below_drewN | apply below_drew1) | exact HB.out))); (case aF => exact (fun k_ hk => Kd.fresh' (Kd.R_lt (by (with_reducible repeat (first | apply Kd.R_alloc | apply Kd.R_drewN | apply Kd.R_drew)); exact HO131.out)) k_ hk)); (case aO => exact (by (with_reducible repeat (first | apply Kd.R_alloc | apply Kd.R_drewN | apply Kd.R_drew)); exact Kd.R_mono HO128.out (fun _ hk => hk.2))); (case aS => exact (below_size (by repeat (first | (with_reducible first | exact HB.out | apply below_alloc | apply pw_below_drewN | apply below_drew1) | exact HB.out)))); (case aL => have := LMc3.out; omega); intro v133 w9 ho hb hg hat; rw [← Ny132.out] at ho; have n0_ := Aside0.mk (Kd.R_after (ok := (fun _ => True)) (by (with_reducible repeat (first | apply Kd.R_alloc | apply Kd.R_drewN | apply Kd.R_drew)); exact HO131.out) hg hat); have n1_ := Aside0.mk (hb); have n2_ := Aside0.mk (ho); clear HO131; clear HB; clear HO128; have HO131 := n0_; have HB := n1_; have HO134 := n2_; clear n0_ n1_ n2_; clear ho hb hg hat; obtain ⟨Ao11, co11, eo11⟩ := Kd.R_slice HO134.out; subst eo11; have q12 : ((l0.length : Int) : Int) ≤ ((y132.length : Int) : Int) := of_decide_eq_true (by first | (with_reducible assumption) | assumption); obtain ⟨i012, hi012, _, hsz12, _⟩ := info_parts info9; have hcut12 := cut_to (P := Try.prog) 60 9 .i64 Try.underlying60 hi012 Ao11 y132.length co11 (l0.length : Int) (of_decide_eq_true (by first | (with_reducible assumption) | assumption)) q12 (Kd.R_reads' HO134.out).2.1; have hr12 := Kd.R_take (m := ((l0.length : Int) : Int).toNat) HO134.out (by omega); have hy12 : y135.length = ((l0.length : Int) : Int).toNat := (by rw [Ny135.out, List.length_take]; omega); rw [← Ny135.out] at hr12; rw [← hy12] at hr12 hcut12; clear hy12 hi012 hsz12; have HOF := HO134; clear HO134; have HO137 := Aside0.mk hr12; clear hr12; replace q12 := eq_true q12))
        go_ret
        exact ⟨_, _, _, _, rfl, A2.out, Ny132.out.trans (by rw [Ny129.out]), by (with_reducible repeat (first | apply Kd.R_alloc | apply Kd.R_drewN | apply Kd.R_drew)); exact Kd.R_mono HOF.out (fun _ hk => trivial), by repeat (first | (with_reducible first | exact HB.out | apply below_alloc | apply pw_below_drewN | apply below_drew1) | exact HB.out)⟩
      · rw [if_neg c5] at H
        exact absurd H (by simp)
    · rw [if_neg c4] at H
      exact absurd H (by simp)
  · rw [if_neg c3] at H
    exact absurd H (by simp)
end Go.Proofs.Ytndcjleadggibaa.LendT

namespace Go.Proofs.Ytndcjleadggibaa.Pu
open Go.RowKit Go.Proofs.YtndcjleadggibaaW.PrintWords
set_option linter.unusedVariables false

/-! ### whole numbers -/
theorem w64 {x : Int} (h0 : -9223372036854775808 ≤ x) (h1 : x ≤ 9223372036854775807) : wrap64 x = x := by unfold wrap64; omega
/-! ### lists -/
theorem getD_lt {α : Type} {l : List α} {d : α} {i : Nat} (h : i < l.length) : l.getD i d = l[i] := by
  rw [List.getD_eq_getElem?_getD, List.getElem?_eq_getElem h]; rfl
/-! ### strings as bytes -/
theorem ext_data {a b : ByteArray} (h : a.data.toList = b.data.toList) : a = b := ByteArray.ext (Array.ext' h)
theorem bytesOf_inj {a b : ByteArray} (h : bytesOf a = bytesOf b) : a = b := by
  apply ext_data
  unfold bytesOf at h
  refine List.map_inj_right (f := fun b : UInt8 => (b.toNat : Int)) (fun x y e => ?_) |>.1 h
  exact UInt8.toNat_inj.1 (by exact_mod_cast e)
theorem byte_range {s : ByteArray} {x : Int} (h : x ∈ bytesOf s) : 0 ≤ x ∧ x ≤ 255 := by
  unfold bytesOf at h
  obtain ⟨b, _, rfl⟩ := List.mem_map.1 h
  have := b.toNat_lt
  omega
theorem bytesOf_nums {xs : List Int} (h : ∀ x ∈ xs, 0 ≤ x ∧ x ≤ 255) : bytesOf (strOfNums xs) = xs := by
  unfold bytesOf
  rw [Go.strOfNums_data, List.map_map]
  conv => rhs; rw [← List.map_id xs]
  refine List.map_congr_left fun x hx => ?_
  have := h x hx
  simp only [Function.comp_apply, UInt8.toNat_ofNat', id]
  omega
theorem nums_bytesOf (s : ByteArray) : strOfNums (bytesOf s) = s := bytesOf_inj (bytesOf_nums fun _ h => byte_range h)
theorem nums_append (xs ys : List Int) : strOfNums xs ++ strOfNums ys = strOfNums (xs ++ ys) := by
  apply ext_data; simp [strOfNums, ByteArray.data_append]
theorem toList_data (s : ByteArray) : s.toList = s.data.toList := ByteArray.toList_eq s
/-! ### from some number of rounds on -/
section
variable {α β : Type} {r : α}
theorem Ev.pos {c : Prop} [Decidable c] {f g : Nat → Option α} (h : c) (k : Ev f r) : Ev (fun n => if c then f n else g n) r := by
  simp only [if_pos h]; exact k
theorem Ev.neg {c : Prop} [Decidable c] {f g : Nat → Option α} (h : ¬ c) (k : Ev g r) : Ev (fun n => if c then f n else g n) r := by
  simp only [if_neg h]; exact k
theorem Ev.some (f : Nat → Option α) (h : ∀ n, f n = some r) : Ev f r := ⟨0, fun n _ => h n⟩
/-- A call that needs no rounds. -/
theorem Ev.call {g : Option β} {f : Nat → β → Option α} {a : β} (h : g = Option.some a) (k : Ev (fun n => f n a) r) : Ev (fun n => g.bind (f n)) r := by
  subst h; exact k
end
end Go.Proofs.Ytndcjleadggibaa.Pu

namespace Go.Proofs.Ytndcjleadggibaa.KeptT
open Go.RowKit Go.Proofs.YtndcjleadggibaaW.PrintWords Go.Proofs.YtndcjleadggibaaW.PrintLast Go.Proofs.YtndcjleadggibaaW.PrintMore Go.Proofs.Ytndcjleadggibaa.PRz Go.Proofs.Ytndcjleadggibaa.Pu
set_option linter.unusedVariables false
set_option linter.unusedSimpArgs false
theorem cut_over {P : Program} (t e : TypeId) (kh : IntKind) {i : TypeInfo} (ht : P.underlying t = some (.slice e)) (hi : P.info? e = some i) (A : Option Addr) (n c : Nat) (j : Int) (h0 : 0 ≤ j) (hc : j ≤ c) :
    ∀ W : World, (Instr.slice t (.slice A n c) none (some (.int kh j)) none).run P W = .ok (.slice A j.toNat c) W := by
  intro W
  have hel : P.elem t = e := by simp [Program.elem, ht]
  have hu : P.underlying t = some (.slice (P.elem t)) := by rw [hel]; exact ht
  have ha : (A.map fun x => x.add 0) = A := by cases A <;> simp [Addr.add]
  rw [run_slice_h W t A n c hu kh j h0 hc, hel]
  simp [sizeOf, typeInfo, hi, sliced, Result.andThen, ha]
abbrev r0 : ByteArray := ⟨#[126, 114, 111, 111, 109]⟩
abbrev r1 : ByteArray := ⟨#[126, 98, 101, 104, 105, 110, 100]⟩
def mark : List ByteArray := [r0, r1]
theorem copy_pure (l : List ByteArray) (hl : l.length ≤ 1048576) : wimplelaw0_CopyTexts.f l = some l := by
  unfold wimplelaw0_CopyTexts.f
  simp
  omega
theorem lend_pure (l : List ByteArray) (hl : l.length ≤ 1048576) : wimplelaw0_LendTexts.f l = some l := by
  unfold wimplelaw0_LendTexts.f
  rw [copy_pure l hl]
  simp only [Option.bind_some]
  rw [if_pos (by simp; omega), if_pos (by omega), if_pos (by simp; omega)]
  simp
theorem lend (A0 : Option Addr) (c0 : Nat) (l0 : List ByteArray) (hl : l0.length ≤ 1048576) (w : World) (hr0 : Kd.C Kd.string w A0 l0.length l0) (hc0 : l0.length ≤ c0) :
    Calls Try.prog 39 #[.slice A0 l0.length c0] w fun e w' => ∃ (Af : Option Addr) (cf : Nat), e = .returned (.slice Af l0.length cf) ∧ Kd.R Kd.string 9 w' w.heap.size (fun _ => True) (.slice Af (l0.length + 2) cf) (l0 ++ mark) ∧ Below w.heap.size w w' := by
  refine (LendT.lendc A0 c0 l0 l0 w hr0 hc0 (lend_pure l0 hl)).mono ?_
  rintro e w' ⟨Af, cf, t, full, h1, h2, h3, h4, h5⟩
  rw [copy_pure l0 hl] at h2
  obtain rfl := Option.some.inj h2
  subst h3
  refine ⟨Af, cf, h1, ?_, h5⟩
  have e : (l0 ++ mark).length = l0.length + 2 := by simp [mark]
  rw [← e]
  exact h4
theorem full_len (l : List ByteArray) : (l ++ mark).length = l.length + 2 := by simp [mark]
theorem same_l0 (l : List ByteArray) (hl : l.length ≤ 4611686018427387904) : ∀ (m i : Nat), i + m = l.length → Ev (fun k => wimplelaw0_SameTexts.l0 k l l (i : Int)) true
  | 0, i, h => Ev.step (fun k => by rw [wimplelaw0_SameTexts.l0]) (Ev.neg (by omega) (Ev.some _ fun _ => rfl))
  | m + 1, i, h => by
    refine Ev.step (fun k => by rw [wimplelaw0_SameTexts.l0]) (Ev.pos (by omega) (Ev.pos (by omega) (Ev.pos (by omega) (Ev.pos rfl ?_))))
    rw [Pu.w64 (by omega) (by omega)]
    exact same_l0 l hl m (i + 1) (by omega)
theorem cell_at {w : World} {ad : Addr} {n : Nat} {xs : List ByteArray} (h : Kd.C Kd.string w (some ad) n xs) (i : Nat) (h1 : i < n) (s : ByteArray) (hs : xs.getD i ByteArray.empty = s) : w.cell? (ad.add i) = some (.string s) := by
  obtain ⟨ad', c, e, _, hK, hc⟩ := Kd.C_get h ByteArray.empty (i : Int) (by omega) (by omega)
  obtain rfl := Option.some.inj e
  have hK' : c = [.string (xs.getD (i : Int).toNat ByteArray.empty)] := hK
  subst hK'
  have := hc 0 _ rfl
  rw [Int.toNat_natCast, hs] at this
  have e2 : i * Kd.string.sz + 0 = i := by show i * 1 + 0 = i; omega
  rw [e2] at this
  exact this
set_option maxHeartbeats 4000000 in
set_option maxRecDepth 100000 in
theorem kept (l0 : List ByteArray) (hl : l0.length ≤ 1048576) (A A1 : Option Addr) (c c1 : Nat) (w : World) (base : Nat) (ok : Nat → Prop) (hF : Kd.R Kd.string 9 w base ok (.slice A (l0.length + 2) c) (l0 ++ mark)) (h1 : Kd.C Kd.string w A1 l0.length l0) (hc1 : l0.length ≤ c1) :
    Calls Try.prog 42 #[.slice A l0.length c, .slice A1 l0.length c1] w fun e w' => e = .returned (.bool true) ∧ Below w.heap.size w w' := by
  obtain ⟨-, hc, hC0⟩ := Kd.R_reads' hF
  have hL := full_len l0
  have ht : (l0 ++ mark).take l0.length = l0 := by simp
  have hC2 := Kd.C_take (m := l0.length) hC0 (by omega)
  rw [ht] at hC2
  obtain ⟨K, hK⟩ : Ev (fun k => wimplelaw0_SameTexts.f k l0 l0) true := Ev.pos rfl (same_l0 l0 (by omega) l0.length 0 (by omega))
  have kS := fun W (B : Below w.heap.size w W) => (wimplelaw0_SameTexts.calls K A c l0 A1 c1 l0 true W (Kd.C_below hC2 B) (by omega) (Kd.C_below h1 B) hc1 (hK K (Nat.le_refl _))).mono fun e w' ⟨h1, h2⟩ => And.intro h1 h2.below
  obtain ⟨i0, hi0, -⟩ := info_parts info9
  have hw2 : wrap64 ((l0.length : Int) + 2) = (l0.length : Int) + 2 := by unfold wrap64; omega
  have hw1 : wrap64 ((l0.length : Int) + 1) = (l0.length : Int) + 1 := by unfold wrap64; omega
  have hcut := cut_over (P := Try.prog) 60 9 .i64 Try.underlying60 hi0 A l0.length c ((l0.length : Int) + 2) (by omega) (by omega)
  rw [show ((l0.length : Int) + 2).toNat = l0.length + 2 by omega] at hcut
  rw [hL] at hC0
  obtain ⟨ad, rfl⟩ : ∃ ad, A = some ad := by
    obtain ⟨ad, _, e, _⟩ := Kd.C_get hC0 ByteArray.empty (l0.length : Int) (by omega) (by omega)
    exact ⟨ad, e⟩
  have x0 := cell_at hC0 l0.length (by omega) r0 (by rw [List.getD_eq_getElem?_getD, List.getElem?_append_right (Nat.le_refl _)]; simp [mark])
  have y0 := cell_at hC0 (l0.length + 1) (by omega) r1 (by rw [List.getD_eq_getElem?_getD, List.getElem?_append_right (by omega)]; simp [mark])
  have KS := Lib.hid kS
  have d1 : decide ((l0.length : Int) < (l0.length : Int) + 2) = true := decide_eq_true (by omega)
  have d2 : decide ((l0.length : Int) + 1 < (l0.length : Int) + 2) = true := decide_eq_true (by omega)
  have d3 : decide (0 ≤ (l0.length : Int)) = true := decide_eq_true (by omega)
  have d4 : decide (0 ≤ (l0.length : Int) + 1) = true := decide_eq_true (by omega)
  have d5 : decide (l0.length < l0.length + 2) = true := decide_eq_true (by omega)
  have d6 : decide (l0.length + 1 < l0.length + 2) = true := decide_eq_true (by omega)
  have HC := Lib.hid hc
  clear hK kS hF h1 hC0 hC2 ht hL hi0 hc
  generalize hm : l0.length = n at *
  go_enter Try.func42, Try.ntmps42
  go_wp2_with fail
  refine (KS.out _ (Below.refl _ _)).mono ?_
  rintro e w1 ⟨rfl, hb⟩
  have z0 := (hb.cell (World.block_lt_of_cell? w _ x0)).trans x0
  have u0 := (hb.cell (World.block_lt_of_cell? w _ y0)).trans y0
  have u1 : w1.cell? ⟨ad.block, ad.off + (n + 1), none⟩ = some (.string r1) := u0
  clear x0 y0
  go_wp2_with fail
  go_ret
  exact ⟨rfl, hb⟩
end Go.Proofs.Ytndcjleadggibaa.KeptT

namespace Go.Proofs.Ytndcjleadggibaa.Rd
open Go.RowKit Go.PlainAid Go.Proofs.Ytndcjleadggibaa.Base Go.Proofs.Ytndcjleadggibaa.Oct Go.Proofs.Ytndcjleadggibaa.Sl Go.Proofs.Ytndcjleadggibaa.Nm Go.Lib
set_option linter.unusedVariables false

/-- A row of strings, read. -/
def Reads (w : World) (b off : Nat) (ps : List ByteArray) : Prop := ∀ k (h : k < ps.length), w.cell? ⟨b, off + k, none⟩ = some (.string ps[k])
theorem Reads.below {w w1 : World} {b off : Nat} {ps : List ByteArray} (h : Reads w b off ps) (hb : Below w.heap.size w w1) : Reads w1 b off ps := fun k hk => bcell hb (h k hk)
/-- The texts' bytes. -/
def numsOf (s : ByteArray) : List Int := s.data.toList.map fun b => (b.toNat : Int)
def outN (ps : List ByteArray) : List Int := ps.flatMap fun p => (p.size : Int) :: numsOf p
def okT (ps : List ByteArray) : Bool := ps.all fun p => decide (p.size ≤ 255)
def txB (ps : List ByteArray) : Bool := okT ps && (decide (0 < ps.length) && decide ((outN ps).length ≤ 65535))
def txS (ps : List ByteArray) : ByteArray := if txB ps then strOfNums (outN ps) else emp
def txE (ps : List ByteArray) : Int := if txB ps then 0 else 400
def u8cells (l : List Int) : List Value := l.map (Value.int .u8)
theorem numsOf_length (s : ByteArray) : (numsOf s).length = s.size := by simp [numsOf]
structure TR (ps : List ByteArray) (w : World) (i : Nat) (v : Value) (wr : World) : Prop where
  own : wr.ownsRow w.heap.size 5 1 v (outN (ps.take i)).length (u8cells (outN (ps.take i)))
  bel : Below w.heap.size w wr
  ok : okT (ps.take i) = true
theorem outN_next (ps : List ByteArray) (i : Nat) (h : i < ps.length) : outN (ps.take (i + 1)) = outN (ps.take i) ++ (ps[i].size : Int) :: numsOf ps[i] := by
  unfold outN
  rw [List.take_succ_eq_append_getElem h, List.flatMap_append, List.flatMap_cons, List.flatMap_nil, List.append_nil]
theorem okT_next (ps : List ByteArray) (i : Nat) (h : i < ps.length) (hk : okT (ps.take i) = true) (hs : ps[i].size ≤ 255) : okT (ps.take (i + 1)) = true := by
  rw [List.take_succ_eq_append_getElem h]
  simp only [okT, List.all_append, List.all_cons, List.all_nil] at hk ⊢
  rw [hk]; simp; exact hs
theorem okT_bad (ps : List ByteArray) (i : Nat) (h : i < ps.length) (hs : 255 < ps[i].size) : okT ps = false := by
  unfold okT
  rw [List.all_eq_false]
  exact ⟨ps[i], List.getElem_mem h, by simp; omega⟩
theorem outN_le (ps : List ByteArray) (i : Nat) : (outN (ps.take i)).length ≤ (outN ps).length := by
  have : outN ps = outN (ps.take i) ++ outN (ps.drop i) := by unfold outN; rw [← List.flatMap_append, List.take_append_drop]
  rw [this]; simp
section
variable {P : Program} {ops : Array Oper} {rest : List Oper} {o : Oper} {a : Act} {Q : Exit → Act → World → Prop}
end

end Go.Proofs.Ytndcjleadggibaa.Rd

namespace Go.Proofs.Ytndcjleadggibaa.Rd
open Go.RowKit Go.PlainAid Go.Proofs.Ytndcjleadggibaa.Base Go.Proofs.Ytndcjleadggibaa.Oct Go.Proofs.Ytndcjleadggibaa.Sl Go.Proofs.Ytndcjleadggibaa.Nm Go.Lib
set_option linter.unusedVariables false

def sA : ByteArray := ⟨#[0, 0, 1, 2]⟩
def sM : ByteArray := ⟨#[0, 5, 1, 109, 0]⟩
def sH : ByteArray := ⟨#[1, 109, 0]⟩
def s0 : ByteArray := ⟨#[0]⟩
def sS : ByteArray := ⟨#[0, 0, 0, 0, 0, 0, 0, 0, 0, 0, 0, 0, 0, 0, 0, 0, 0, 0, 0, 0, 0, 7]⟩
def sT : ByteArray := ⟨#[2, 97, 98, 0]⟩
def xS : Soa := ⟨s0, s0, 0, 0, 0, 0, 7⟩
theorem aw_a : aS 258 = sA := by kernel_rfl
theorem aw_ae : aE 258 = 0 := by kernel_rfl
theorem aw_x : addrX sA = 258 := by kernel_rfl
theorem aw_xe : addrE sA = 0 := by kernel_rfl
theorem aw_n1 : nameB sH = true := by
  have b0 : bt sH 0 = 1 := by kernel_rfl
  have b2 : bt sH 2 = 0 := by kernel_rfl
  have z : sH.size = 3 := by kernel_rfl
  unfold nameB
  rw [nameAt_next (by omega) (by rw [b0]; decide) (by rw [b0]; decide), b0]
  rw [show 0 + 1 + (1 : Int).toNat = 2 from rfl, nameAt_end (by omega) b2, z]
  rfl
theorem aw_n0 : nameB s0 = true := by
  have b0 : bt s0 0 = 0 := by kernel_rfl
  have z : s0.size = 1 := by kernel_rfl
  unfold nameB
  rw [nameAt_end (by omega) b0, z]
  rfl
theorem aw_mb : mxB 5 sH = true := by unfold mxB; rw [aw_n1]; rfl
theorem aw_m : mxS 5 sH = sM := by unfold mxS; rw [aw_mb]; kernel_rfl
theorem aw_me : mxE 5 sH = 0 := by unfold mxE; rw [aw_mb]; rfl
theorem aw_e2 : sM.extract 2 sM.size = sH := by kernel_rfl
theorem aw_hm : mayD 15 sM = true := by
  rw [mayD_body (by decide) (by decide) (by decide), aw_e2, aw_n1]; kernel_rfl
theorem aw_hb : hostB 15 sM = true := by unfold hostB; rw [aw_hm]; rfl
theorem aw_h : hostS 15 sM = sH := by unfold hostS; rw [aw_hb, aw_e2]; rfl
theorem aw_he : hostE 15 sM = 0 := by unfold hostE; rw [aw_hb]; rfl
theorem aw_so : xS.ok = true := by
  unfold Soa.ok xS
  simp only
  rw [aw_n0]; kernel_rfl
theorem aw_s : xS.S = sS := by unfold Soa.S; rw [aw_so]; kernel_rfl
theorem aw_se : xS.E = 0 := by unfold Soa.E; rw [aw_so]; rfl
theorem aw_ea : endN sS 0 = 1 := by
  have b0 : bt sS 0 = 0 := by kernel_rfl
  rw [endN_of (i := 0) rfl (by decide) b0, show sS.extract 0 (0 + 1) = s0 by kernel_rfl, aw_n0]; rfl
theorem aw_eb : endN sS 1 = 2 := by
  have b0 : bt sS 1 = 0 := by kernel_rfl
  rw [endN_of (i := 1) rfl (by decide) b0, show sS.extract 1 (1 + 1) = s0 by kernel_rfl, aw_n0]; rfl
theorem aw_um : mayD 6 sS = true := by
  rw [mayD_body (by decide) (by decide) (by decide)]
  have : soaB sS = true := by unfold soaB; rw [aw_ea]; rw [show (1 : Int).toNat = 1 from rfl, aw_eb]; rfl
  rw [this]; rfl
theorem aw_u : unX sS = ⟨s0, s0, 0, 0, 0, 0, 7⟩ := by
  unfold unX
  rw [aw_um, if_pos rfl]
  unfold soaOf eB eA
  rw [aw_ea]
  rw [show (1 : Int).toNat = 1 from rfl, aw_eb]
  kernel_rfl
theorem aw_ue : unE sS = 0 := by unfold unE; rw [aw_um]; rfl
theorem aw_b : aS (-1) = emp := by kernel_rfl
theorem aw_be : aE (-1) = 400 := by kernel_rfl
theorem aw_m1 : mayD 1 sA = true := by rw [mayD_body (by decide) (by decide) (by decide)]; rfl
theorem aw_m2 : mayD 1 emp = false := by rw [mayD_body (by decide) (by decide) (by decide)]; rfl
theorem aw_m3 : mayD 0 emp = false := by unfold mayD; rfl

end Go.Proofs.Ytndcjleadggibaa.Rd

namespace Go.Proofs.Ytndcjleadggibaa.RdS
open Go.RowKit Go.Proofs.Ytndcjleadggibaa.PRz Go.Proofs.Ytndcjleadggibaa.Pu Go.Proofs.Ytndcjleadggibaa.Rd
open Go.Proofs.YtndcjleadggibaaW.PrintWords (Ev Ev.of Ev.bind Ev.step Ev.rounds rdOf bytesOf bytesOf_length)
set_option linter.unusedVariables false
theorem rdOf_get (l : List ByteArray) (i : Nat) (h : i < l.length) : rdOf ByteArray.empty l (i : Int) = l[i] := by
  unfold rdOf; rw [Int.toNat_natCast, getD_lt h]
theorem txB_no {l : List ByteArray} (h : okT l = false) : (txS l, txE l) = ((⟨#[]⟩ : ByteArray), (400 : Int)) := by
  have : txB l = false := by unfold txB; rw [h]; rfl
  unfold txS txE; rw [this]; rfl
theorem txt_l0 (l : List ByteArray) (hl : l.length ≤ 70368744177664) (hT : (outN l).length < 140737488355328) : ∀ (m i : Nat), i + m = l.length → okT (l.take i) = true →
    Ev (fun k => rdata_Txt.l0 k l (outN (l.take i)) l (l.length : Int) (i : Int)) (txS l, txE l)
  | 0, i, h, ho => by
    have hi : l.take i = l := List.take_of_length_le (by omega)
    rw [hi] at ho ⊢
    refine Ev.step (fun k => by rw [rdata_Txt.l0]) (Ev.neg (by omega) ?_)
    by_cases h0 : l.length = 0
    · refine Ev.pos (by omega) (Ev.some _ fun _ => ?_)
      have : txB l = false := by unfold txB; rw [decide_eq_false (show ¬ 0 < l.length by omega)]; simp
      unfold txS txE; rw [this]; rfl
    · refine Ev.neg (by omega) ?_
      by_cases h1 : 65535 < (outN l).length
      · refine Ev.pos (by omega) (Ev.some _ fun _ => ?_)
        have : txB l = false := by unfold txB; rw [decide_eq_false (show ¬ (outN l).length ≤ 65535 by omega)]; simp
        unfold txS txE; rw [this]; rfl
      · refine Ev.neg (by omega) (Ev.some _ fun _ => ?_)
        have : txB l = true := by unfold txB; rw [ho, decide_eq_true (show (outN l).length ≤ 65535 by omega), decide_eq_true (show 0 < l.length by omega)]; rfl
        unfold txS txE; rw [this]; rfl
  | m + 1, i, h, ho => by
    have hi : i < l.length := by omega
    refine Ev.step (fun k => by rw [rdata_Txt.l0]) (Ev.pos (by omega) (Ev.pos (by omega) (Ev.pos (by omega) ?_)))
    rw [rdOf_get l i hi]
    by_cases hs : 255 < l[i].size
    · rw [txB_no (okT_bad l i hi hs)]
      exact Ev.pos (by omega) (Ev.some _ fun _ => rfl)
    · have hle := outN_le l (i + 1)
      have hn := outN_next l i hi
      rw [hn, List.length_append, List.length_cons, numsOf_length] at hle
      refine Ev.neg (by omega) (Ev.pos (by omega) (Ev.call rfl (Ev.pos (by rw [List.length_append]; simp only [List.length_cons, List.length_nil]; omega) ?_)))
      rw [w64 (x := (i : Int) + 1) (by omega) (by omega), show ((l[i].size : Int) % 256) = (l[i].size : Int) by omega]
      have ih := txt_l0 l hl hT m (i + 1) (by omega) (okT_next l i hi ho (by omega))
      rw [hn] at ih
      rw [List.append_assoc]
      exact ih
theorem txt_ev (l : List ByteArray) (hl : l.length ≤ 70368744177664) (hT : (outN l).length < 140737488355328) : Ev (fun k => rdata_Txt.f k l) (txS l, txE l) := by
  unfold rdata_Txt.f
  exact txt_l0 l hl hT l.length 0 (by omega) rfl
end Go.Proofs.Ytndcjleadggibaa.RdS

namespace Go.Proofs.Ytndcjleadggibaa.RdS
open Go.RowKit Go.Proofs.Ytndcjleadggibaa.PRz Go.Proofs.Ytndcjleadggibaa.Pu Go.Proofs.Ytndcjleadggibaa.Rd
open Go.Proofs.YtndcjleadggibaaW.PrintWords (Ev Ev.of Ev.bind Ev.step Ev.rounds rdOf bytesOf bytesOf_length)
set_option linter.unusedVariables false
theorem numsOf_back (s : ByteArray) : strOfNums (numsOf s) = s := by
  have : numsOf s = bytesOf s := rfl
  rw [this]; exact nums_bytesOf s
theorem nsize (xs : List Int) : (strOfNums xs).size = xs.length := Go.strOfNums_size xs
theorem rtxt_l0 (l : List ByteArray) (hl : l.length ≤ 70368744177664) : ∀ (m i : Nat), i + m = l.length → okT (l.take i) = true → (outN (l.take i)).length ≤ 66000 →
    Ev (fun k => wimpleref4_Txt.l0 k l (strOfNums (outN (l.take i))) (i : Int)) (txS l, txE l)
  | 0, i, h, ho, hz => by
    have hi : l.take i = l := List.take_of_length_le (by omega)
    rw [hi] at ho hz ⊢
    refine Ev.step (fun k => by rw [wimpleref4_Txt.l0]) (Ev.neg (by omega) ?_)
    by_cases h0 : l.length = 0
    · refine Ev.pos (by omega) (Ev.some _ fun _ => ?_)
      have : txB l = false := by unfold txB; rw [decide_eq_false (show ¬ 0 < l.length by omega)]; simp
      unfold txS txE; rw [this]; rfl
    · refine Ev.neg (by omega) ?_
      by_cases h1 : 65535 < (outN l).length
      · refine Ev.pos (by rw [nsize]; omega) (Ev.some _ fun _ => ?_)
        have : txB l = false := by unfold txB; rw [decide_eq_false (show ¬ (outN l).length ≤ 65535 by omega)]; simp
        unfold txS txE; rw [this]; rfl
      · refine Ev.neg (by rw [nsize]; omega) (Ev.some _ fun _ => ?_)
        have : txB l = true := by unfold txB; rw [ho, decide_eq_true (show (outN l).length ≤ 65535 by omega), decide_eq_true (show 0 < l.length by omega)]; rfl
        unfold txS txE; rw [this]; rfl
  | m + 1, i, h, ho, hz => by
    have hi : i < l.length := by omega
    refine Ev.step (fun k => by rw [wimpleref4_Txt.l0]) (Ev.pos (by omega) (Ev.pos (by omega) ?_))
    rw [rdOf_get l i hi]
    by_cases hs : 255 < l[i].size
    · rw [txB_no (okT_bad l i hi hs)]
      exact Ev.pos (by omega) (Ev.some _ fun _ => rfl)
    · refine Ev.neg (by omega) ?_
      by_cases h1 : 65535 < (outN (l.take i)).length
      · have hle := outN_le l i
        have : txB l = false := by unfold txB; rw [decide_eq_false (show ¬ (outN l).length ≤ 65535 by omega)]; simp
        refine Ev.pos (by rw [nsize]; omega) (Ev.some _ fun _ => ?_)
        unfold txS txE; rw [this]; rfl
      · have hn := outN_next l i hi
        refine Ev.neg (by rw [nsize]; omega) (Ev.call rfl ?_)
        refine Ev.pos (by rw [nsize, nsize]; simp only [List.length_cons, List.length_nil]; omega) (Ev.pos (by rw [ByteArray.size_append, nsize, nsize]; simp only [List.length_cons, List.length_nil]; omega) ?_)
        have ih := rtxt_l0 l hl m (i + 1) (by omega) (okT_next l i hi ho (by omega)) (by rw [hn, List.length_append, List.length_cons, numsOf_length]; omega)
        have e : strOfNums (outN (l.take i)) ++ strOfNums [(l[i].size : Int) % 256] ++ l[i] = strOfNums (outN (l.take (i + 1))) := by
          rw [hn, show ((l[i].size : Int) % 256) = (l[i].size : Int) by omega, nums_append]
          conv => lhs; rw [← numsOf_back l[i]]
          rw [nums_append, List.append_assoc, numsOf_back]; rfl
        rw [e, w64 (x := (i : Int) + 1) (by omega) (by omega)]
        exact ih
theorem rtxt_ev (l : List ByteArray) (hl : l.length ≤ 70368744177664) : Ev (fun k => wimpleref4_Txt.f k l) (txS l, txE l) := by
  unfold wimpleref4_Txt.f
  exact rtxt_l0 l hl l.length 0 (by omega) rfl (by simp [outN])
end Go.Proofs.Ytndcjleadggibaa.RdS

namespace Go.Proofs.Ytndcjleadggibaa.PRz
open Go.RowKit Go.Proofs.YtndcjleadggibaaW.PrintWords Go.Proofs.YtndcjleadggibaaW.PrintLast Go.Proofs.YtndcjleadggibaaW.PrintMore
attribute [local go_sem] max2_int min2_int max_two min_two max_three min_three max_four min_four   -- for this text's walks alone
set_option linter.unusedVariables false
set_option linter.unusedSimpArgs false

/-! ### wimplelaw0_Num: function 20 -/
def wimplelaw0_Num.f (a0 : Int) : Option (Int) := some a0
set_option maxHeartbeats 8000000 in
set_option maxRecDepth 100000 in
theorem wimplelaw0_Num.calls (a0 : Int) (r : Int) (w : World) (h : wimplelaw0_Num.f a0 = some r) :
    Calls Try.prog 20 #[.int .i64 a0] w fun e w' => e = .returned (.int .i64 r) ∧ Drawn0 w w' := by
  have H : (some a0) = some r := h
  clear h
  obtain rfl := Option.some.inj H
  go_enter Try.func20, Try.ntmps20
  go_wp2
  go_ret
  exact ⟨by first | rfl | (simp; done) | (simp [*]; done), by repeat (first | exact Drawn0.refl _ | apply Drawn0.step)⟩

/-! ### rdata_A: function 25 -/
def rdata_A.f (a0 : Int) : Option (ByteArray × Int) := some (Go.Proofs.Ytndcjleadggibaa.Rd.aS a0, Go.Proofs.Ytndcjleadggibaa.Rd.aE a0)
set_option maxHeartbeats 8000000 in
set_option maxRecDepth 100000 in
theorem rdata_A.calls (a0 : Int) (r1 : ByteArray) (r2 : Int) (w : World) (h : rdata_A.f a0 = some (r1, r2)) :
    Calls Try.prog 25 #[.int .i64 a0] w fun e w' => e = .returned (.tuple #[.string r1, .int .i64 r2]) ∧ Below w.heap.size w w' := by
  unfold rdata_A.f at h
  simp only [Option.some.injEq, Prod.mk.injEq] at h
  obtain ⟨rfl, rfl⟩ := h
  exact Go.Proofs.Ytndcjleadggibaa.Rd.ac a0 w

/-! ### wimpleref4_A: function 26 -/
def wimpleref4_A.f (a0 : Int) : Option (ByteArray × Int) := some (Go.Proofs.Ytndcjleadggibaa.Rd.aS a0, Go.Proofs.Ytndcjleadggibaa.Rd.aE a0)
set_option maxHeartbeats 8000000 in
set_option maxRecDepth 100000 in
theorem wimpleref4_A.calls (a0 : Int) (r1 : ByteArray) (r2 : Int) (w : World) (h : wimpleref4_A.f a0 = some (r1, r2)) :
    Calls Try.prog 26 #[.int .i64 a0] w fun e w' => e = .returned (.tuple #[.string r1, .int .i64 r2]) ∧ Below w.heap.size w w' := by
  unfold wimpleref4_A.f at h
  simp only [Option.some.injEq, Prod.mk.injEq] at h
  obtain ⟨rfl, rfl⟩ := h
  exact Go.Proofs.Ytndcjleadggibaa.Rd.rac a0 w

/-! ### rdata_Addr: function 27 -/
def rdata_Addr.f (a0 : ByteArray) : Option (Int × Int) := if a0.size ≤ 9223372036854775000 then some (Go.Proofs.Ytndcjleadggibaa.Rd.addrX a0, Go.Proofs.Ytndcjleadggibaa.Rd.addrE a0) else none
set_option maxHeartbeats 8000000 in
set_option maxRecDepth 100000 in
theorem rdata_Addr.calls (a0 : ByteArray) (r1 : Int) (r2 : Int) (w : World) (h : rdata_Addr.f a0 = some (r1, r2)) :
    Calls Try.prog 27 #[.string a0] w fun e w' => e = .returned (.tuple #[.int .i64 r1, .int .i64 r2]) ∧ Below w.heap.size w w' := by
  unfold rdata_Addr.f at h
  split at h
  · rename_i hs
    simp only [Option.some.injEq, Prod.mk.injEq] at h
    obtain ⟨rfl, rfl⟩ := h
    exact Go.Proofs.Ytndcjleadggibaa.Rd.addrc a0 w hs
  · cases h

/-! ### wimpleref4_Addr: function 28 -/
def wimpleref4_Addr.f (a0 : ByteArray) : Option (Int × Int) := if a0.size ≤ 9223372036854775000 then some (Go.Proofs.Ytndcjleadggibaa.Rd.addrX a0, Go.Proofs.Ytndcjleadggibaa.Rd.addrE a0) else none
set_option maxHeartbeats 8000000 in
set_option maxRecDepth 100000 in
theorem wimpleref4_Addr.calls (a0 : ByteArray) (r1 : Int) (r2 : Int) (w : World) (h : wimpleref4_Addr.f a0 = some (r1, r2)) :
    Calls Try.prog 28 #[.string a0] w fun e w' => e = .returned (.tuple #[.int .i64 r1, .int .i64 r2]) ∧ Below w.heap.size w w' := by
  unfold wimpleref4_Addr.f at h
  split at h
  · rename_i hs
    simp only [Option.some.injEq, Prod.mk.injEq] at h
    obtain ⟨rfl, rfl⟩ := h
    exact Go.Proofs.Ytndcjleadggibaa.Rd.raddrc a0 w hs
  · cases h

-- NOT PRINTED: function 69 (name_Places)

/-! ### rdata_Mx: function 29 -/
def rdata_Mx.f (a0 : Int) (a1 : ByteArray) : Option (ByteArray × Int) := some (Go.Proofs.Ytndcjleadggibaa.Rd.mxS a0 a1, Go.Proofs.Ytndcjleadggibaa.Rd.mxE a0 a1)
set_option maxHeartbeats 8000000 in
set_option maxRecDepth 100000 in
theorem rdata_Mx.calls (a0 : Int) (a1 : ByteArray) (r1 : ByteArray) (r2 : Int) (w : World) (h : rdata_Mx.f a0 a1 = some (r1, r2)) :
    Calls Try.prog 29 #[.int .i64 a0, .string a1] w fun e w' => e = .returned (.tuple #[.string r1, .int .i64 r2]) ∧ Below w.heap.size w w' := by
  unfold rdata_Mx.f at h
  simp only [Option.some.injEq, Prod.mk.injEq] at h
  obtain ⟨rfl, rfl⟩ := h
  exact Go.Proofs.Ytndcjleadggibaa.Rd.mxc a0 a1 w

end Go.Proofs.Ytndcjleadggibaa.PRz

namespace Go.Proofs.Ytndcjleadggibaa.PRz
open Go.RowKit Go.Proofs.YtndcjleadggibaaW.PrintWords Go.Proofs.YtndcjleadggibaaW.PrintLast Go.Proofs.YtndcjleadggibaaW.PrintMore
attribute [local go_sem] max2_int min2_int max_two min_two max_three min_three max_four min_four   -- for this text's walks alone
set_option linter.unusedVariables false
set_option linter.unusedSimpArgs false

/-! ### wimpleref4_Mx: function 30 -/
def wimpleref4_Mx.f (a0 : Int) (a1 : ByteArray) : Option (ByteArray × Int) := some (Go.Proofs.Ytndcjleadggibaa.Rd.mxS a0 a1, Go.Proofs.Ytndcjleadggibaa.Rd.mxE a0 a1)
set_option maxHeartbeats 8000000 in
set_option maxRecDepth 100000 in
theorem wimpleref4_Mx.calls (a0 : Int) (a1 : ByteArray) (r1 : ByteArray) (r2 : Int) (w : World) (h : wimpleref4_Mx.f a0 a1 = some (r1, r2)) :
    Calls Try.prog 30 #[.int .i64 a0, .string a1] w fun e w' => e = .returned (.tuple #[.string r1, .int .i64 r2]) ∧ Below w.heap.size w w' := by
  unfold wimpleref4_Mx.f at h
  simp only [Option.some.injEq, Prod.mk.injEq] at h
  obtain ⟨rfl, rfl⟩ := h
  exact Go.Proofs.Ytndcjleadggibaa.Rd.rmxc a0 a1 w

/-! ### rdata_May: function 33 -/
def rdata_May.f (a0 : Int) (a1 : ByteArray) : Option (Bool) := if a1.size ≤ 9223372036854775000 then some (Go.Proofs.Ytndcjleadggibaa.Rd.mayD a0 a1) else none
set_option maxHeartbeats 8000000 in
set_option maxRecDepth 100000 in
theorem rdata_May.calls (a0 : Int) (a1 : ByteArray) (r : Bool) (w : World) (h : rdata_May.f a0 a1 = some r) :
    Calls Try.prog 33 #[.int .i64 a0, .string a1] w fun e w' => e = .returned (.bool r) ∧ Below w.heap.size w w' := by
  unfold rdata_May.f at h
  split at h
  · rename_i hs
    simp only [Option.some.injEq] at h
    subst h
    exact Go.Proofs.Ytndcjleadggibaa.Rd.dmay a0 a1 w hs
  · cases h

/-! ### rdata_Host: function 31 -/
def rdata_Host.f (a0 : Int) (a1 : ByteArray) : Option (ByteArray × Int) := if a1.size ≤ 9223372036854775000 then some (Go.Proofs.Ytndcjleadggibaa.Rd.hostS a0 a1, Go.Proofs.Ytndcjleadggibaa.Rd.hostE a0 a1) else none
set_option maxHeartbeats 8000000 in
set_option maxRecDepth 100000 in
theorem rdata_Host.calls (a0 : Int) (a1 : ByteArray) (r1 : ByteArray) (r2 : Int) (w : World) (h : rdata_Host.f a0 a1 = some (r1, r2)) :
    Calls Try.prog 31 #[.int .i64 a0, .string a1] w fun e w' => e = .returned (.tuple #[.string r1, .int .i64 r2]) ∧ Below w.heap.size w w' := by
  unfold rdata_Host.f at h
  split at h
  · rename_i hs
    simp only [Option.some.injEq, Prod.mk.injEq] at h
    obtain ⟨rfl, rfl⟩ := h
    exact Go.Proofs.Ytndcjleadggibaa.Rd.hostc a0 a1 w hs
  · cases h

end Go.Proofs.Ytndcjleadggibaa.PRz

namespace Go.Proofs.Ytndcjleadggibaa.PRz
open Go.RowKit Go.Proofs.YtndcjleadggibaaW.PrintWords Go.Proofs.YtndcjleadggibaaW.PrintLast Go.Proofs.YtndcjleadggibaaW.PrintMore
attribute [local go_sem] max2_int min2_int max_two min_two max_three min_three max_four min_four   -- for this text's walks alone
set_option linter.unusedVariables false
set_option linter.unusedSimpArgs false

theorem eqA59 (d : Nat) (w : World) (x0 y0 : ByteArray) (x1 y1 : ByteArray) (x2 y2 : Int) (x3 y3 : Int) (x4 y4 : Int) (x5 y5 : Int) (x6 y6 : Int) :
    (Op.equalIn (d + 2) 59 (.agg #[.string x0, .string x1, .int .i64 x2, .int .i64 x3, .int .i64 x4, .int .i64 x5, .int .i64 x6]) (.agg #[.string y0, .string y1, .int .i64 y2, .int .i64 y3, .int .i64 y4, .int .i64 y5, .int .i64 y6])).run Try.prog w = .ok (x0.toList == y0.toList && (x1.toList == y1.toList && (x2 == y2 && (x3 == y3 && (x4 == y4 && (x5 == y5 && (x6 == y6))))))) w := by
  refine eqA_of Try.underlying59 (by kernel_rfl) ?_
  refine eqf_cons (by rfl) (by go_simp; rfl) (by go_simp; rfl) (by go_simp) ?_
  refine eqf_cons (by rfl) (by go_simp; rfl) (by go_simp; rfl) (by go_simp) ?_
  refine eqf_cons (by rfl) (by go_simp; rfl) (by go_simp; rfl) (by go_simp) ?_
  refine eqf_cons (by rfl) (by go_simp; rfl) (by go_simp; rfl) (by go_simp) ?_
  refine eqf_cons (by rfl) (by go_simp; rfl) (by go_simp; rfl) (by go_simp) ?_
  refine eqf_cons (by rfl) (by go_simp; rfl) (by go_simp; rfl) (by go_simp) ?_
  exact eqf_last (by rfl) (by go_simp; rfl) (by go_simp; rfl) (by go_simp)
end Go.Proofs.Ytndcjleadggibaa.PRz

namespace Go.Proofs.Ytndcjleadggibaa.PRz
open Go.RowKit Go.Proofs.YtndcjleadggibaaW.PrintWords Go.Proofs.YtndcjleadggibaaW.PrintLast Go.Proofs.YtndcjleadggibaaW.PrintMore
attribute [local go_sem] max2_int min2_int max_two min_two max_three min_three max_four min_four   -- for this text's walks alone
set_option linter.unusedVariables false
set_option linter.unusedSimpArgs false

attribute [local go_sem high] eqA59
/-! ### wimplelaw4_awake: function 43 -/
def wimplelaw4_awake.f (k : Nat)  : Option (Bool) := (rdata_A.f 258).bind fun bt157 => ((rdata_Addr.f bt157.1).bind fun bt159 => ((rdata_Mx.f 5 (⟨#[1, 109, 0]⟩ : ByteArray)).bind fun bt161 => ((rdata_Host.f 15 bt161.1).bind fun bt163 => ((rdata_Soa.f (⟨#[0]⟩ : ByteArray) (⟨#[0]⟩ : ByteArray) 0 0 0 0 7).bind fun bt165 => ((rdata_Unsoa.f bt165.1).bind fun bt167 => ((rdata_Txt.f k (([(⟨#[97, 98]⟩ : ByteArray), (⟨#[]⟩ : ByteArray)] : List ByteArray))).bind fun bt179 => ((rdata_A.f (-1)).bind fun bt181 => (if bt157.1.toList = ([0, 0, 1, 2] : List UInt8) then ((wimplelaw0_Num.f bt157.2).bind fun t183 => (if t183 = 0 then (if bt159.1 = 258 then ((wimplelaw0_Num.f bt159.2).bind fun t184 => (if t184 = 0 then (if bt161.1.toList = ([0, 5, 1, 109, 0] : List UInt8) then ((wimplelaw0_Num.f bt161.2).bind fun t185 => (if t185 = 0 then (if bt163.1.toList = ([1, 109, 0] : List UInt8) then ((wimplelaw0_Num.f bt163.2).bind fun t186 => (if t186 = 0 then (if (bt165.1.size : Int) = 22 then ((wimplelaw0_Num.f bt165.2).bind fun t187 => (if t187 = 0 then (if bt167.2.2.2.2.2.2.1 = 7 then ((wimplelaw0_Num.f bt167.2.2.2.2.2.2.2).bind fun t188 => (if t188 = 0 then (if bt179.1.toList = ([2, 97, 98, 0] : List UInt8) then ((wimplelaw0_Num.f bt179.2).bind fun t189 => (if t189 = 0 then ((wimplelaw0_Num.f bt181.2).bind fun t190 => (if t190 = 400 then ((rdata_May.f 1 bt157.1).bind fun t191 => (if t191 = true then ((rdata_May.f 1 (⟨#[]⟩ : ByteArray)).bind fun t192 => (if t192 = true then (none) else ((rdata_May.f 0 (⟨#[]⟩ : ByteArray)).bind fun t193 => (some (!t193))))) else (none))) else (none))) else (none))) else (none)) else (none))) else (none)) else (none))) else (none)) else (none))) else (none)) else (none))) else (none)) else (none))) else (none)) else (none))) else (none)))))))))
set_option maxHeartbeats 8000000 in
set_option maxRecDepth 100000 in
theorem wimplelaw4_awake.calls (k : Nat)  (r : Bool) (w : World) (h : wimplelaw4_awake.f k  = some r) :
    Calls Try.prog 43 #[] w fun e w' => e = .returned (.bool r) ∧ Below w.heap.size w w' := by
  have hu59 := Try.underlying59
  have HB := Aside0.mk (Below.refl w.heap.size w)
  have H : ((rdata_A.f 258).bind fun bt157 => ((rdata_Addr.f bt157.1).bind fun bt159 => ((rdata_Mx.f 5 (⟨#[1, 109, 0]⟩ : ByteArray)).bind fun bt161 => ((rdata_Host.f 15 bt161.1).bind fun bt163 => ((rdata_Soa.f (⟨#[0]⟩ : ByteArray) (⟨#[0]⟩ : ByteArray) 0 0 0 0 7).bind fun bt165 => ((rdata_Unsoa.f bt165.1).bind fun bt167 => ((rdata_Txt.f k (([(⟨#[97, 98]⟩ : ByteArray), (⟨#[]⟩ : ByteArray)] : List ByteArray))).bind fun bt179 => ((rdata_A.f (-1)).bind fun bt181 => (if bt157.1.toList = ([0, 0, 1, 2] : List UInt8) then ((wimplelaw0_Num.f bt157.2).bind fun t183 => (if t183 = 0 then (if bt159.1 = 258 then ((wimplelaw0_Num.f bt159.2).bind fun t184 => (if t184 = 0 then (if bt161.1.toList = ([0, 5, 1, 109, 0] : List UInt8) then ((wimplelaw0_Num.f bt161.2).bind fun t185 => (if t185 = 0 then (if bt163.1.toList = ([1, 109, 0] : List UInt8) then ((wimplelaw0_Num.f bt163.2).bind fun t186 => (if t186 = 0 then (if (bt165.1.size : Int) = 22 then ((wimplelaw0_Num.f bt165.2).bind fun t187 => (if t187 = 0 then (if bt167.2.2.2.2.2.2.1 = 7 then ((wimplelaw0_Num.f bt167.2.2.2.2.2.2.2).bind fun t188 => (if t188 = 0 then (if bt179.1.toList = ([2, 97, 98, 0] : List UInt8) then ((wimplelaw0_Num.f bt179.2).bind fun t189 => (if t189 = 0 then ((wimplelaw0_Num.f bt181.2).bind fun t190 => (if t190 = 400 then ((rdata_May.f 1 bt157.1).bind fun t191 => (if t191 = true then ((rdata_May.f 1 (⟨#[]⟩ : ByteArray)).bind fun t192 => (if t192 = true then (none) else ((rdata_May.f 0 (⟨#[]⟩ : ByteArray)).bind fun t193 => (some (!t193))))) else (none))) else (none))) else (none))) else (none)) else (none))) else (none)) else (none))) else (none)) else (none))) else (none)) else (none))) else (none)) else (none))) else (none)) else (none))) else (none)))))))))) = some r := h
  clear h
  replace H := Option.bind_eq_some_iff.mp H
  obtain ⟨⟨t157, t158⟩, A10, H⟩ := H
  replace H : ((rdata_Addr.f t157).bind fun bt159 => ((rdata_Mx.f 5 (⟨#[1, 109, 0]⟩ : ByteArray)).bind fun bt161 => ((rdata_Host.f 15 bt161.1).bind fun bt163 => ((rdata_Soa.f (⟨#[0]⟩ : ByteArray) (⟨#[0]⟩ : ByteArray) 0 0 0 0 7).bind fun bt165 => ((rdata_Unsoa.f bt165.1).bind fun bt167 => ((rdata_Txt.f k (([(⟨#[97, 98]⟩ : ByteArray), (⟨#[]⟩ : ByteArray)] : List ByteArray))).bind fun bt179 => ((rdata_A.f (-1)).bind fun bt181 => (if t157.toList = ([0, 0, 1, 2] : List UInt8) then ((wimplelaw0_Num.f t158).bind fun t183 => (if t183 = 0 then (if bt159.1 = 258 then ((wimplelaw0_Num.f bt159.2).bind fun t184 => (if t184 = 0 then (if bt161.1.toList = ([0, 5, 1, 109, 0] : List UInt8) then ((wimplelaw0_Num.f bt161.2).bind fun t185 => (if t185 = 0 then (if bt163.1.toList = ([1, 109, 0] : List UInt8) then ((wimplelaw0_Num.f bt163.2).bind fun t186 => (if t186 = 0 then (if (bt165.1.size : Int) = 22 then ((wimplelaw0_Num.f bt165.2).bind fun t187 => (if t187 = 0 then (if bt167.2.2.2.2.2.2.1 = 7 then ((wimplelaw0_Num.f bt167.2.2.2.2.2.2.2).bind fun t188 => (if t188 = 0 then (if bt179.1.toList = ([2, 97, 98, 0] : List UInt8) then ((wimplelaw0_Num.f bt179.2).bind fun t189 => (if t189 = 0 then ((wimplelaw0_Num.f bt181.2).bind fun t190 => (if t190 = 400 then ((rdata_May.f 1 t157).bind fun t191 => (if t191 = true then ((rdata_May.f 1 (⟨#[]⟩ : ByteArray)).bind fun t192 => (if t192 = true then (none) else ((rdata_May.f 0 (⟨#[]⟩ : ByteArray)).bind fun t193 => (some (!t193))))) else (none))) else (none))) else (none))) else (none)) else (none))) else (none)) else (none))) else (none)) else (none))) else (none)) else (none))) else (none)) else (none))) else (none)) else (none))) else (none))))))))) = some r := H
  have A1 := Aside0.mk A10
  clear A10
  replace H := Option.bind_eq_some_iff.mp H
  obtain ⟨⟨t159, t160⟩, A20, H⟩ := H
  replace H : ((rdata_Mx.f 5 (⟨#[1, 109, 0]⟩ : ByteArray)).bind fun bt161 => ((rdata_Host.f 15 bt161.1).bind fun bt163 => ((rdata_Soa.f (⟨#[0]⟩ : ByteArray) (⟨#[0]⟩ : ByteArray) 0 0 0 0 7).bind fun bt165 => ((rdata_Unsoa.f bt165.1).bind fun bt167 => ((rdata_Txt.f k (([(⟨#[97, 98]⟩ : ByteArray), (⟨#[]⟩ : ByteArray)] : List ByteArray))).bind fun bt179 => ((rdata_A.f (-1)).bind fun bt181 => (if t157.toList = ([0, 0, 1, 2] : List UInt8) then ((wimplelaw0_Num.f t158).bind fun t183 => (if t183 = 0 then (if t159 = 258 then ((wimplelaw0_Num.f t160).bind fun t184 => (if t184 = 0 then (if bt161.1.toList = ([0, 5, 1, 109, 0] : List UInt8) then ((wimplelaw0_Num.f bt161.2).bind fun t185 => (if t185 = 0 then (if bt163.1.toList = ([1, 109, 0] : List UInt8) then ((wimplelaw0_Num.f bt163.2).bind fun t186 => (if t186 = 0 then (if (bt165.1.size : Int) = 22 then ((wimplelaw0_Num.f bt165.2).bind fun t187 => (if t187 = 0 then (if bt167.2.2.2.2.2.2.1 = 7 then ((wimplelaw0_Num.f bt167.2.2.2.2.2.2.2).bind fun t188 => (if t188 = 0 then (if bt179.1.toList = ([2, 97, 98, 0] : List UInt8) then ((wimplelaw0_Num.f bt179.2).bind fun t189 => (if t189 = 0 then ((wimplelaw0_Num.f bt181.2).bind fun t190 => (if t190 = 400 then ((rdata_May.f 1 t157).bind fun t191 => (if t191 = true then ((rdata_May.f 1 (⟨#[]⟩ : ByteArray)).bind fun t192 => (if t192 = true then (none) else ((rdata_May.f 0 (⟨#[]⟩ : ByteArray)).bind fun t193 => (some (!t193))))) else (none))) else (none))) else (none))) else (none)) else (none))) else (none)) else (none))) else (none)) else (none))) else (none)) else (none))) else (none)) else (none))) else (none)) else (none))) else (none)))))))) = some r := H
  have A2 := Aside0.mk A20
  clear A20
  replace H := Option.bind_eq_some_iff.mp H
  obtain ⟨⟨t161, t162⟩, A30, H⟩ := H
  replace H : ((rdata_Host.f 15 t161).bind fun bt163 => ((rdata_Soa.f (⟨#[0]⟩ : ByteArray) (⟨#[0]⟩ : ByteArray) 0 0 0 0 7).bind fun bt165 => ((rdata_Unsoa.f bt165.1).bind fun bt167 => ((rdata_Txt.f k (([(⟨#[97, 98]⟩ : ByteArray), (⟨#[]⟩ : ByteArray)] : List ByteArray))).bind fun bt179 => ((rdata_A.f (-1)).bind fun bt181 => (if t157.toList = ([0, 0, 1, 2] : List UInt8) then ((wimplelaw0_Num.f t158).bind fun t183 => (if t183 = 0 then (if t159 = 258 then ((wimplelaw0_Num.f t160).bind fun t184 => (if t184 = 0 then (if t161.toList = ([0, 5, 1, 109, 0] : List UInt8) then ((wimplelaw0_Num.f t162).bind fun t185 => (if t185 = 0 then (if bt163.1.toList = ([1, 109, 0] : List UInt8) then ((wimplelaw0_Num.f bt163.2).bind fun t186 => (if t186 = 0 then (if (bt165.1.size : Int) = 22 then ((wimplelaw0_Num.f bt165.2).bind fun t187 => (if t187 = 0 then (if bt167.2.2.2.2.2.2.1 = 7 then ((wimplelaw0_Num.f bt167.2.2.2.2.2.2.2).bind fun t188 => (if t188 = 0 then (if bt179.1.toList = ([2, 97, 98, 0] : List UInt8) then ((wimplelaw0_Num.f bt179.2).bind fun t189 => (if t189 = 0 then ((wimplelaw0_Num.f bt181.2).bind fun t190 => (if t190 = 400 then ((rdata_May.f 1 t157).bind fun t191 => (if t191 = true then ((rdata_May.f 1 (⟨#[]⟩ : ByteArray)).bind fun t192 => (if t192 = true then (none) else ((rdata_May.f 0 (⟨#[]⟩ : ByteArray)).bind fun t193 => (some (!t193))))) else (none))) else (none))) else (none))) else (none)) else (none))) else (none)) else (none))) else (none)) else (none))) else (none)) else (none))) else (none)) else (none))) else (none)) else (none))) else (none))))))) = some r := H
  have A3 := Aside0.mk A30
  clear A30
  replace H := Option.bind_eq_some_iff.mp H
  obtain ⟨⟨t163, t164⟩, A40, H⟩ := H
  replace H : ((rdata_Soa.f (⟨#[0]⟩ : ByteArray) (⟨#[0]⟩ : ByteArray) 0 0 0 0 7).bind fun bt165 => ((rdata_Unsoa.f bt165.1).bind fun bt167 => ((rdata_Txt.f k (([(⟨#[97, 98]⟩ : ByteArray), (⟨#[]⟩ : ByteArray)] : List ByteArray))).bind fun bt179 => ((rdata_A.f (-1)).bind fun bt181 => (if t157.toList = ([0, 0, 1, 2] : List UInt8) then ((wimplelaw0_Num.f t158).bind fun t183 => (if t183 = 0 then (if t159 = 258 then ((wimplelaw0_Num.f t160).bind fun t184 => (if t184 = 0 then (if t161.toList = ([0, 5, 1, 109, 0] : List UInt8) then ((wimplelaw0_Num.f t162).bind fun t185 => (if t185 = 0 then (if t163.toList = ([1, 109, 0] : List UInt8) then ((wimplelaw0_Num.f t164).bind fun t186 => (if t186 = 0 then (if (bt165.1.size : Int) = 22 then ((wimplelaw0_Num.f bt165.2).bind fun t187 => (if t187 = 0 then (if bt167.2.2.2.2.2.2.1 = 7 then ((wimplelaw0_Num.f bt167.2.2.2.2.2.2.2).bind fun t188 => (if t188 = 0 then (if bt179.1.toList = ([2, 97, 98, 0] : List UInt8) then ((wimplelaw0_Num.f bt179.2).bind fun t189 => (if t189 = 0 then ((wimplelaw0_Num.f bt181.2).bind fun t190 => (if t190 = 400 then ((rdata_May.f 1 t157).bind fun t191 => (if t191 = true then ((rdata_May.f 1 (⟨#[]⟩ : ByteArray)).bind fun t192 => (if t192 = true then (none) else ((rdata_May.f 0 (⟨#[]⟩ : ByteArray)).bind fun t193 => (some (!t193))))) else (none))) else (none))) else (none))) else (none)) else (none))) else (none)) else (none))) else (none)) else (none))) else (none)) else (none))) else (none)) else (none))) else (none)) else (none))) else (none)))))) = some r := H
  have A4 := Aside0.mk A40
  clear A40
  replace H := Option.bind_eq_some_iff.mp H
  obtain ⟨⟨t165, t166⟩, A50, H⟩ := H
  replace H : ((rdata_Unsoa.f t165).bind fun bt167 => ((rdata_Txt.f k (([(⟨#[97, 98]⟩ : ByteArray), (⟨#[]⟩ : ByteArray)] : List ByteArray))).bind fun bt179 => ((rdata_A.f (-1)).bind fun bt181 => (if t157.toList = ([0, 0, 1, 2] : List UInt8) then ((wimplelaw0_Num.f t158).bind fun t183 => (if t183 = 0 then (if t159 = 258 then ((wimplelaw0_Num.f t160).bind fun t184 => (if t184 = 0 then (if t161.toList = ([0, 5, 1, 109, 0] : List UInt8) then ((wimplelaw0_Num.f t162).bind fun t185 => (if t185 = 0 then (if t163.toList = ([1, 109, 0] : List UInt8) then ((wimplelaw0_Num.f t164).bind fun t186 => (if t186 = 0 then (if (t165.size : Int) = 22 then ((wimplelaw0_Num.f t166).bind fun t187 => (if t187 = 0 then (if bt167.2.2.2.2.2.2.1 = 7 then ((wimplelaw0_Num.f bt167.2.2.2.2.2.2.2).bind fun t188 => (if t188 = 0 then (if bt179.1.toList = ([2, 97, 98, 0] : List UInt8) then ((wimplelaw0_Num.f bt179.2).bind fun t189 => (if t189 = 0 then ((wimplelaw0_Num.f bt181.2).bind fun t190 => (if t190 = 400 then ((rdata_May.f 1 t157).bind fun t191 => (if t191 = true then ((rdata_May.f 1 (⟨#[]⟩ : ByteArray)).bind fun t192 => (if t192 = true then (none) else ((rdata_May.f 0 (⟨#[]⟩ : ByteArray)).bind fun t193 => (some (!t193))))) else (none))) else (none))) else (none))) else (none)) else (none))) else (none)) else (none))) else (none)) else (none))) else (none)) else (none))) else (none)) else (none))) else (none)) else (none))) else (none))))) = some r := H
  have A5 := Aside0.mk A50
  clear A50
  replace H := Option.bind_eq_some_iff.mp H
  obtain ⟨⟨t167, t168, t169, t170, t171, t172, t173, t174⟩, A60, H⟩ := H
  replace H : ((rdata_Txt.f k (([(⟨#[97, 98]⟩ : ByteArray), (⟨#[]⟩ : ByteArray)] : List ByteArray))).bind fun bt179 => ((rdata_A.f (-1)).bind fun bt181 => (if t157.toList = ([0, 0, 1, 2] : List UInt8) then ((wimplelaw0_Num.f t158).bind fun t183 => (if t183 = 0 then (if t159 = 258 then ((wimplelaw0_Num.f t160).bind fun t184 => (if t184 = 0 then (if t161.toList = ([0, 5, 1, 109, 0] : List UInt8) then ((wimplelaw0_Num.f t162).bind fun t185 => (if t185 = 0 then (if t163.toList = ([1, 109, 0] : List UInt8) then ((wimplelaw0_Num.f t164).bind fun t186 => (if t186 = 0 then (if (t165.size : Int) = 22 then ((wimplelaw0_Num.f t166).bind fun t187 => (if t187 = 0 then (if t173 = 7 then ((wimplelaw0_Num.f t174).bind fun t188 => (if t188 = 0 then (if bt179.1.toList = ([2, 97, 98, 0] : List UInt8) then ((wimplelaw0_Num.f bt179.2).bind fun t189 => (if t189 = 0 then ((wimplelaw0_Num.f bt181.2).bind fun t190 => (if t190 = 400 then ((rdata_May.f 1 t157).bind fun t191 => (if t191 = true then ((rdata_May.f 1 (⟨#[]⟩ : ByteArray)).bind fun t192 => (if t192 = true then (none) else ((rdata_May.f 0 (⟨#[]⟩ : ByteArray)).bind fun t193 => (some (!t193))))) else (none))) else (none))) else (none))) else (none)) else (none))) else (none)) else (none))) else (none)) else (none))) else (none)) else (none))) else (none)) else (none))) else (none)) else (none))) else (none)))) = some r := H
  have A6 := Aside0.mk A60
  clear A60
  obtain ⟨y176, hy176⟩ : ∃ y_ : List ByteArray, y_ = (([(⟨#[97, 98]⟩ : ByteArray), (⟨#[]⟩ : ByteArray)] : List ByteArray)) := ⟨_, rfl⟩
  replace H : ((rdata_Txt.f k y176).bind fun bt179 => ((rdata_A.f (-1)).bind fun bt181 => (if t157.toList = ([0, 0, 1, 2] : List UInt8) then ((wimplelaw0_Num.f t158).bind fun t183 => (if t183 = 0 then (if t159 = 258 then ((wimplelaw0_Num.f t160).bind fun t184 => (if t184 = 0 then (if t161.toList = ([0, 5, 1, 109, 0] : List UInt8) then ((wimplelaw0_Num.f t162).bind fun t185 => (if t185 = 0 then (if t163.toList = ([1, 109, 0] : List UInt8) then ((wimplelaw0_Num.f t164).bind fun t186 => (if t186 = 0 then (if (t165.size : Int) = 22 then ((wimplelaw0_Num.f t166).bind fun t187 => (if t187 = 0 then (if t173 = 7 then ((wimplelaw0_Num.f t174).bind fun t188 => (if t188 = 0 then (if bt179.1.toList = ([2, 97, 98, 0] : List UInt8) then ((wimplelaw0_Num.f bt179.2).bind fun t189 => (if t189 = 0 then ((wimplelaw0_Num.f bt181.2).bind fun t190 => (if t190 = 400 then ((rdata_May.f 1 t157).bind fun t191 => (if t191 = true then ((rdata_May.f 1 (⟨#[]⟩ : ByteArray)).bind fun t192 => (if t192 = true then (none) else ((rdata_May.f 0 (⟨#[]⟩ : ByteArray)).bind fun t193 => (some (!t193))))) else (none))) else (none))) else (none))) else (none)) else (none))) else (none)) else (none))) else (none)) else (none))) else (none)) else (none))) else (none)) else (none))) else (none)) else (none))) else (none)))) = some r := by first | (rw [hy176]; with_reducible exact H) | (have H2_ := (Option.bind_some _ _).symm.trans H; rw [hy176]; with_reducible exact H2_) | (have H2_ := (Option.bind_some _ _).symm.trans H; with_reducible exact H2_) | with_reducible exact H | (rw [hy176]; exact H) | exact H
  have Ny176 := Aside0.mk hy176
  clear hy176
  replace H := Option.bind_eq_some_iff.mp H
  obtain ⟨⟨t179, t180⟩, A70, H⟩ := H
  replace H : ((rdata_A.f (-1)).bind fun bt181 => (if t157.toList = ([0, 0, 1, 2] : List UInt8) then ((wimplelaw0_Num.f t158).bind fun t183 => (if t183 = 0 then (if t159 = 258 then ((wimplelaw0_Num.f t160).bind fun t184 => (if t184 = 0 then (if t161.toList = ([0, 5, 1, 109, 0] : List UInt8) then ((wimplelaw0_Num.f t162).bind fun t185 => (if t185 = 0 then (if t163.toList = ([1, 109, 0] : List UInt8) then ((wimplelaw0_Num.f t164).bind fun t186 => (if t186 = 0 then (if (t165.size : Int) = 22 then ((wimplelaw0_Num.f t166).bind fun t187 => (if t187 = 0 then (if t173 = 7 then ((wimplelaw0_Num.f t174).bind fun t188 => (if t188 = 0 then (if t179.toList = ([2, 97, 98, 0] : List UInt8) then ((wimplelaw0_Num.f t180).bind fun t189 => (if t189 = 0 then ((wimplelaw0_Num.f bt181.2).bind fun t190 => (if t190 = 400 then ((rdata_May.f 1 t157).bind fun t191 => (if t191 = true then ((rdata_May.f 1 (⟨#[]⟩ : ByteArray)).bind fun t192 => (if t192 = true then (none) else ((rdata_May.f 0 (⟨#[]⟩ : ByteArray)).bind fun t193 => (some (!t193))))) else (none))) else (none))) else (none))) else (none)) else (none))) else (none)) else (none))) else (none)) else (none))) else (none)) else (none))) else (none)) else (none))) else (none)) else (none))) else (none))) = some r := H
  have A7 := Aside0.mk A70
  clear A70
  replace H := Option.bind_eq_some_iff.mp H
  obtain ⟨⟨t181, t182⟩, A80, H⟩ := H
  replace H : (if t157.toList = ([0, 0, 1, 2] : List UInt8) then ((wimplelaw0_Num.f t158).bind fun t183 => (if t183 = 0 then (if t159 = 258 then ((wimplelaw0_Num.f t160).bind fun t184 => (if t184 = 0 then (if t161.toList = ([0, 5, 1, 109, 0] : List UInt8) then ((wimplelaw0_Num.f t162).bind fun t185 => (if t185 = 0 then (if t163.toList = ([1, 109, 0] : List UInt8) then ((wimplelaw0_Num.f t164).bind fun t186 => (if t186 = 0 then (if (t165.size : Int) = 22 then ((wimplelaw0_Num.f t166).bind fun t187 => (if t187 = 0 then (if t173 = 7 then ((wimplelaw0_Num.f t174).bind fun t188 => (if t188 = 0 then (if t179.toList = ([2, 97, 98, 0] : List UInt8) then ((wimplelaw0_Num.f t180).bind fun t189 => (if t189 = 0 then ((wimplelaw0_Num.f t182).bind fun t190 => (if t190 = 400 then ((rdata_May.f 1 t157).bind fun t191 => (if t191 = true then ((rdata_May.f 1 (⟨#[]⟩ : ByteArray)).bind fun t192 => (if t192 = true then (none) else ((rdata_May.f 0 (⟨#[]⟩ : ByteArray)).bind fun t193 => (some (!t193))))) else (none))) else (none))) else (none))) else (none)) else (none))) else (none)) else (none))) else (none)) else (none))) else (none)) else (none))) else (none)) else (none))) else (none)) else (none))) else (none)) = some r := H
  have A8 := Aside0.mk A80
  clear A80
  by_cases c9 : t157.toList = ([0, 0, 1, 2] : List UInt8)
  · rw [if_pos c9] at H
    have c9b0 : (t157.toList == ([0, 0, 1, 2] : List UInt8)) = true := beq_iff_eq.mpr c9
    have c9b1 : (t157.toList != ([0, 0, 1, 2] : List UInt8)) = false := bne_eq_false_iff_eq.mpr c9
    clear c9
    replace H := Option.bind_eq_some_iff.mp H
    obtain ⟨t183, A100, H⟩ := H
    replace H : (if t183 = 0 then (if t159 = 258 then ((wimplelaw0_Num.f t160).bind fun t184 => (if t184 = 0 then (if t161.toList = ([0, 5, 1, 109, 0] : List UInt8) then ((wimplelaw0_Num.f t162).bind fun t185 => (if t185 = 0 then (if t163.toList = ([1, 109, 0] : List UInt8) then ((wimplelaw0_Num.f t164).bind fun t186 => (if t186 = 0 then (if (t165.size : Int) = 22 then ((wimplelaw0_Num.f t166).bind fun t187 => (if t187 = 0 then (if t173 = 7 then ((wimplelaw0_Num.f t174).bind fun t188 => (if t188 = 0 then (if t179.toList = ([2, 97, 98, 0] : List UInt8) then ((wimplelaw0_Num.f t180).bind fun t189 => (if t189 = 0 then ((wimplelaw0_Num.f t182).bind fun t190 => (if t190 = 400 then ((rdata_May.f 1 t157).bind fun t191 => (if t191 = true then ((rdata_May.f 1 (⟨#[]⟩ : ByteArray)).bind fun t192 => (if t192 = true then (none) else ((rdata_May.f 0 (⟨#[]⟩ : ByteArray)).bind fun t193 => (some (!t193))))) else (none))) else (none))) else (none))) else (none)) else (none))) else (none)) else (none))) else (none)) else (none))) else (none)) else (none))) else (none)) else (none))) else (none)) else (none)) = some r := H
    have A10 := Aside0.mk A100
    clear A100
    by_cases c11 : t183 = 0
    · rw [if_pos c11] at H
      have c11b0 : (t183 == 0) = true := beq_iff_eq.mpr c11
      have c11b1 : (t183 != 0) = false := bne_eq_false_iff_eq.mpr c11
      clear c11
      by_cases c12 : t159 = 258
      · rw [if_pos c12] at H
        have c12b0 : (t159 == 258) = true := beq_iff_eq.mpr c12
        have c12b1 : (t159 != 258) = false := bne_eq_false_iff_eq.mpr c12
        clear c12
        replace H := Option.bind_eq_some_iff.mp H
        obtain ⟨t184, A130, H⟩ := H
        replace H : (if t184 = 0 then (if t161.toList = ([0, 5, 1, 109, 0] : List UInt8) then ((wimplelaw0_Num.f t162).bind fun t185 => (if t185 = 0 then (if t163.toList = ([1, 109, 0] : List UInt8) then ((wimplelaw0_Num.f t164).bind fun t186 => (if t186 = 0 then (if (t165.size : Int) = 22 then ((wimplelaw0_Num.f t166).bind fun t187 => (if t187 = 0 then (if t173 = 7 then ((wimplelaw0_Num.f t174).bind fun t188 => (if t188 = 0 then (if t179.toList = ([2, 97, 98, 0] : List UInt8) then ((wimplelaw0_Num.f t180).bind fun t189 => (if t189 = 0 then ((wimplelaw0_Num.f t182).bind fun t190 => (if t190 = 400 then ((rdata_May.f 1 t157).bind fun t191 => (if t191 = true then ((rdata_May.f 1 (⟨#[]⟩ : ByteArray)).bind fun t192 => (if t192 = true then (none) else ((rdata_May.f 0 (⟨#[]⟩ : ByteArray)).bind fun t193 => (some (!t193))))) else (none))) else (none))) else (none))) else (none)) else (none))) else (none)) else (none))) else (none)) else (none))) else (none)) else (none))) else (none)) else (none)) = some r := H
        have A13 := Aside0.mk A130
        clear A130
        by_cases c14 : t184 = 0
        · rw [if_pos c14] at H
          have c14b0 : (t184 == 0) = true := beq_iff_eq.mpr c14
          have c14b1 : (t184 != 0) = false := bne_eq_false_iff_eq.mpr c14
          clear c14
          by_cases c15 : t161.toList = ([0, 5, 1, 109, 0] : List UInt8)
          · rw [if_pos c15] at H
            have c15b0 : (t161.toList == ([0, 5, 1, 109, 0] : List UInt8)) = true := beq_iff_eq.mpr c15
            have c15b1 : (t161.toList != ([0, 5, 1, 109, 0] : List UInt8)) = false := bne_eq_false_iff_eq.mpr c15
            clear c15
            replace H := Option.bind_eq_some_iff.mp H
            obtain ⟨t185, A160, H⟩ := H
            replace H : (if t185 = 0 then (if t163.toList = ([1, 109, 0] : List UInt8) then ((wimplelaw0_Num.f t164).bind fun t186 => (if t186 = 0 then (if (t165.size : Int) = 22 then ((wimplelaw0_Num.f t166).bind fun t187 => (if t187 = 0 then (if t173 = 7 then ((wimplelaw0_Num.f t174).bind fun t188 => (if t188 = 0 then (if t179.toList = ([2, 97, 98, 0] : List UInt8) then ((wimplelaw0_Num.f t180).bind fun t189 => (if t189 = 0 then ((wimplelaw0_Num.f t182).bind fun t190 => (if t190 = 400 then ((rdata_May.f 1 t157).bind fun t191 => (if t191 = true then ((rdata_May.f 1 (⟨#[]⟩ : ByteArray)).bind fun t192 => (if t192 = true then (none) else ((rdata_May.f 0 (⟨#[]⟩ : ByteArray)).bind fun t193 => (some (!t193))))) else (none))) else (none))) else (none))) else (none)) else (none))) else (none)) else (none))) else (none)) else (none))) else (none)) else (none)) = some r := H
            have A16 := Aside0.mk A160
            clear A160
            by_cases c17 : t185 = 0
            · rw [if_pos c17] at H
              have c17b0 : (t185 == 0) = true := beq_iff_eq.mpr c17
              have c17b1 : (t185 != 0) = false := bne_eq_false_iff_eq.mpr c17
              clear c17
              by_cases c18 : t163.toList = ([1, 109, 0] : List UInt8)
              · rw [if_pos c18] at H
                have c18b0 : (t163.toList == ([1, 109, 0] : List UInt8)) = true := beq_iff_eq.mpr c18
                have c18b1 : (t163.toList != ([1, 109, 0] : List UInt8)) = false := bne_eq_false_iff_eq.mpr c18
                clear c18
                replace H := Option.bind_eq_some_iff.mp H
                obtain ⟨t186, A190, H⟩ := H
                replace H : (if t186 = 0 then (if (t165.size : Int) = 22 then ((wimplelaw0_Num.f t166).bind fun t187 => (if t187 = 0 then (if t173 = 7 then ((wimplelaw0_Num.f t174).bind fun t188 => (if t188 = 0 then (if t179.toList = ([2, 97, 98, 0] : List UInt8) then ((wimplelaw0_Num.f t180).bind fun t189 => (if t189 = 0 then ((wimplelaw0_Num.f t182).bind fun t190 => (if t190 = 400 then ((rdata_May.f 1 t157).bind fun t191 => (if t191 = true then ((rdata_May.f 1 (⟨#[]⟩ : ByteArray)).bind fun t192 => (if t192 = true then (none) else ((rdata_May.f 0 (⟨#[]⟩ : ByteArray)).bind fun t193 => (some (!t193))))) else (none))) else (none))) else (none))) else (none)) else (none))) else (none)) else (none))) else (none)) else (none)) = some r := H
                have A19 := Aside0.mk A190
                clear A190
                by_cases c20 : t186 = 0
                · rw [if_pos c20] at H
                  have c20b0 : (t186 == 0) = true := beq_iff_eq.mpr c20
                  have c20b1 : (t186 != 0) = false := bne_eq_false_iff_eq.mpr c20
                  clear c20
                  by_cases c21 : (t165.size : Int) = 22
                  · rw [if_pos c21] at H
                    have c21b0 : ((t165.size : Int) == 22) = true := beq_iff_eq.mpr c21
                    have c21b1 : ((t165.size : Int) != 22) = false := bne_eq_false_iff_eq.mpr c21
                    clear c21
                    replace H := Option.bind_eq_some_iff.mp H
                    obtain ⟨t187, A220, H⟩ := H
                    replace H : (if t187 = 0 then (if t173 = 7 then ((wimplelaw0_Num.f t174).bind fun t188 => (if t188 = 0 then (if t179.toList = ([2, 97, 98, 0] : List UInt8) then ((wimplelaw0_Num.f t180).bind fun t189 => (if t189 = 0 then ((wimplelaw0_Num.f t182).bind fun t190 => (if t190 = 400 then ((rdata_May.f 1 t157).bind fun t191 => (if t191 = true then ((rdata_May.f 1 (⟨#[]⟩ : ByteArray)).bind fun t192 => (if t192 = true then (none) else ((rdata_May.f 0 (⟨#[]⟩ : ByteArray)).bind fun t193 => (some (!t193))))) else (none))) else (none))) else (none))) else (none)) else (none))) else (none)) else (none)) = some r := H
                    have A22 := Aside0.mk A220
                    clear A220
                    by_cases c23 : t187 = 0
                    · rw [if_pos c23] at H
                      have c23b0 : (t187 == 0) = true := beq_iff_eq.mpr c23
                      have c23b1 : (t187 != 0) = false := bne_eq_false_iff_eq.mpr c23
                      clear c23
                      by_cases c24 : t173 = 7
                      · rw [if_pos c24] at H
                        have c24b0 : (t173 == 7) = true := beq_iff_eq.mpr c24
                        have c24b1 : (t173 != 7) = false := bne_eq_false_iff_eq.mpr c24
                        clear c24
                        replace H := Option.bind_eq_some_iff.mp H
                        obtain ⟨t188, A250, H⟩ := H
                        replace H : (if t188 = 0 then (if t179.toList = ([2, 97, 98, 0] : List UInt8) then ((wimplelaw0_Num.f t180).bind fun t189 => (if t189 = 0 then ((wimplelaw0_Num.f t182).bind fun t190 => (if t190 = 400 then ((rdata_May.f 1 t157).bind fun t191 => (if t191 = true then ((rdata_May.f 1 (⟨#[]⟩ : ByteArray)).bind fun t192 => (if t192 = true then (none) else ((rdata_May.f 0 (⟨#[]⟩ : ByteArray)).bind fun t193 => (some (!t193))))) else (none))) else (none))) else (none))) else (none)) else (none)) = some r := H
                        have A25 := Aside0.mk A250
                        clear A250
                        by_cases c26 : t188 = 0
                        · rw [if_pos c26] at H
                          have c26b0 : (t188 == 0) = true := beq_iff_eq.mpr c26
                          have c26b1 : (t188 != 0) = false := bne_eq_false_iff_eq.mpr c26
                          clear c26
                          by_cases c27 : t179.toList = ([2, 97, 98, 0] : List UInt8)
                          · rw [if_pos c27] at H
                            have c27b0 : (t179.toList == ([2, 97, 98, 0] : List UInt8)) = true := beq_iff_eq.mpr c27
                            have c27b1 : (t179.toList != ([2, 97, 98, 0] : List UInt8)) = false := bne_eq_false_iff_eq.mpr c27
                            clear c27
                            replace H := Option.bind_eq_some_iff.mp H
                            obtain ⟨t189, A280, H⟩ := H
                            replace H : (if t189 = 0 then ((wimplelaw0_Num.f t182).bind fun t190 => (if t190 = 400 then ((rdata_May.f 1 t157).bind fun t191 => (if t191 = true then ((rdata_May.f 1 (⟨#[]⟩ : ByteArray)).bind fun t192 => (if t192 = true then (none) else ((rdata_May.f 0 (⟨#[]⟩ : ByteArray)).bind fun t193 => (some (!t193))))) else (none))) else (none))) else (none)) = some r := H
                            have A28 := Aside0.mk A280
                            clear A280
                            by_cases c29 : t189 = 0
                            · rw [if_pos c29] at H
                              have c29b0 : (t189 == 0) = true := beq_iff_eq.mpr c29
                              have c29b1 : (t189 != 0) = false := bne_eq_false_iff_eq.mpr c29
                              clear c29
                              replace H := Option.bind_eq_some_iff.mp H
                              obtain ⟨t190, A300, H⟩ := H
                              replace H : (if t190 = 400 then ((rdata_May.f 1 t157).bind fun t191 => (if t191 = true then ((rdata_May.f 1 (⟨#[]⟩ : ByteArray)).bind fun t192 => (if t192 = true then (none) else ((rdata_May.f 0 (⟨#[]⟩ : ByteArray)).bind fun t193 => (some (!t193))))) else (none))) else (none)) = some r := H
                              have A30 := Aside0.mk A300
                              clear A300
                              by_cases c31 : t190 = 400
                              · rw [if_pos c31] at H
                                have c31b0 : (t190 == 400) = true := beq_iff_eq.mpr c31
                                have c31b1 : (t190 != 400) = false := bne_eq_false_iff_eq.mpr c31
                                clear c31
                                replace H := Option.bind_eq_some_iff.mp H
                                obtain ⟨t191, A320, H⟩ := H
                                replace H : (if t191 = true then ((rdata_May.f 1 (⟨#[]⟩ : ByteArray)).bind fun t192 => (if t192 = true then (none) else ((rdata_May.f 0 (⟨#[]⟩ : ByteArray)).bind fun t193 => (some (!t193))))) else (none)) = some r := H
                                have A32 := Aside0.mk A320
                                clear A320
                                by_cases c33 : t191 = true
                                · subst c33
                                  have H1 : ((rdata_May.f 1 (⟨#[]⟩ : ByteArray)).bind fun t192 => (if t192 = true then (none) else ((rdata_May.f 0 (⟨#[]⟩ : ByteArray)).bind fun t193 => (some (!t193))))) = some r := by rw [if_pos rfl] at H; exact H
                                  clear H
                                  have H := H1
                                  clear H1
                                  replace H := Option.bind_eq_some_iff.mp H
                                  obtain ⟨t192, A340, H⟩ := H
                                  replace H : (if t192 = true then (none) else ((rdata_May.f 0 (⟨#[]⟩ : ByteArray)).bind fun t193 => (some (!t193)))) = some r := H
                                  have A34 := Aside0.mk A340
                                  clear A340
                                  by_cases c35 : t192 = true
                                  · subst c35
                                    have H1 : (none) = some r := by rw [if_pos rfl] at H; exact H
                                    clear H
                                    have H := H1
                                    clear H1
                                    exact absurd H (by simp)
                                  · replace c35 := Bool.eq_false_iff.mpr c35
                                    subst c35
                                    have H1 : ((rdata_May.f 0 (⟨#[]⟩ : ByteArray)).bind fun t193 => (some (!t193))) = some r := by rw [if_neg (show ¬ (false = true) by decide)] at H; exact H
                                    clear H
                                    have H := H1
                                    clear H1
                                    replace H := Option.bind_eq_some_iff.mp H
                                    obtain ⟨t193, A360, H⟩ := H
                                    replace H : (some (!t193)) = some r := H
                                    have A36 := Aside0.mk A360
                                    clear A360
                                    obtain rfl := Option.some.inj H
                                    go_enter Try.func43, Try.ntmps43
                                    go_wp2_with (first | ((with_reducible refine gate_dst (N := 18) rfl ?_); (try (refine gate_guard (by rfl) ?_; dsimp only)); (with_reducible refine gate_callee (f := 25) rfl ?_); refine goesL_ (some 18) rfl rfl Try.func25 (by kernel_rfl) rfl #[.int .i64 258] rfl (by (try simp only [List.map_toArray, List.map_cons, List.map_nil]); first | done | rfl | (simp only [List.length_drop, List.length_take]; rfl)) ?_; (with_reducible refine (rdata_A.calls 258 t157 t158 _ A1.out).mono ?_); rintro e w37 ⟨rfl, hb⟩; refine ⟨_, rfl, ?_⟩; have n0_ := Aside0.mk (below_step (by repeat (first | (with_reducible first | exact HB.out | apply below_alloc | apply pw_below_drewN | apply below_drew1) | exact HB.out)) hb); clear HB; have HB := n0_; clear n0_; (try clear hb); (try clear hb2); (try clear hk); (try clear hi)) | ((with_reducible refine gate_dst (N := 23) rfl ?_); (try (refine gate_guard (by rfl) ?_; dsimp only)); (with_reducible refine gate_callee (f := 27) rfl ?_); refine goesL_ (some 23) rfl rfl Try.func27 (by kernel_rfl) rfl #[.string t157] rfl (by (try simp only [List.map_toArray, List.map_cons, List.map_nil]); first | done | rfl | (simp only [List.length_drop, List.length_take]; rfl)) ?_; (with_reducible refine (rdata_Addr.calls t157 t159 t160 _ A2.out).mono ?_); rintro e w38 ⟨rfl, hb⟩; refine ⟨_, rfl, ?_⟩; have n0_ := Aside0.mk (below_step (by repeat (first | (with_reducible first | exact HB.out | apply below_alloc | apply pw_below_drewN | apply below_drew1) | exact HB.out)) hb); clear HB; have HB := n0_; clear n0_; (try clear hb); (try clear hb2); (try clear hk); (try clear hi)) | ((with_reducible refine gate_dst (N := 27) rfl ?_); (try (refine gate_guard (by rfl) ?_; dsimp only)); (with_reducible refine gate_callee (f := 29) rfl ?_); refine goesL_ (some 27) rfl rfl Try.func29 (by kernel_rfl) rfl #[.int .i64 5, .string (⟨#[1, 109, 0]⟩ : ByteArray)] rfl (by (try simp only [List.map_toArray, List.map_cons, List.map_nil]); first | done | rfl | (simp only [List.length_drop, List.length_take]; rfl)) ?_; (with_reducible refine (rdata_Mx.calls 5 (⟨#[1, 109, 0]⟩ : ByteArray) t161 t162 _ A3.out).mono ?_); rintro e w39 ⟨rfl, hb⟩; refine ⟨_, rfl, ?_⟩; have n0_ := Aside0.mk (below_step (by repeat (first | (with_reducible first | exact HB.out | apply below_alloc | apply pw_below_drewN | apply below_drew1) | exact HB.out)) hb); clear HB; have HB := n0_; clear n0_; (try clear hb); (try clear hb2); (try clear hk); (try clear hi)) | ((with_reducible refine gate_dst (N := 32) rfl ?_); (try (refine gate_guard (by rfl) ?_; dsimp only)); (with_reducible refine gate_callee (f := 31) rfl ?_); refine goesL_ (some 32) rfl rfl Try.func31 (by kernel_rfl) rfl #[.int .i64 15, .string t161] rfl (by (try simp only [List.map_toArray, List.map_cons, List.map_nil]); first | done | rfl | (simp only [List.length_drop, List.length_take]; rfl)) ?_; (with_reducible refine (rdata_Host.calls 15 t161 t163 t164 _ A4.out).mono ?_); rintro e w40 ⟨rfl, hb⟩; refine ⟨_, rfl, ?_⟩; have n0_ := Aside0.mk (below_step (by repeat (first | (with_reducible first | exact HB.out | apply below_alloc | apply pw_below_drewN | apply below_drew1) | exact HB.out)) hb); clear HB; have HB := n0_; clear n0_; (try clear hb); (try clear hb2); (try clear hk); (try clear hi)) | ((with_reducible refine gate_dst (N := 37) rfl ?_); (try (refine gate_guard (by rfl) ?_; dsimp only)); (with_reducible refine gate_callee (f := 35) rfl ?_); refine goesL_ (some 37) rfl rfl Try.func35 (by kernel_rfl) rfl #[.agg #[.string (⟨#[0]⟩ : ByteArray), .string (⟨#[0]⟩ : ByteArray), .int .i64 0, .int .i64 0, .int .i64 0, .int .i64 0, .int .i64 7]] rfl (by (try simp only [List.map_toArray, List.map_cons, List.map_nil]); first | done | rfl | (simp only [List.length_drop, List.length_take]; rfl)) ?_; (with_reducible refine (rdata_Soa.calls (⟨#[0]⟩ : ByteArray) (⟨#[0]⟩ : ByteArray) 0 0 0 0 7 t165 t166 _ A5.out).mono ?_); rintro e w41 ⟨rfl, hb⟩; refine ⟨_, rfl, ?_⟩; have n0_ := Aside0.mk (below_step (by repeat (first | (with_reducible first | exact HB.out | apply below_alloc | apply pw_below_drewN | apply below_drew1) | exact HB.out)) hb); clear HB; have HB := n0_; clear n0_; (try clear hb); (try clear hb2); (try clear hk); (try clear hi)) | ((with_reducible refine gate_dst (N := 42) rfl ?_); (try (refine gate_guard (by rfl) ?_; dsimp only)); (with_reducible refine gate_callee (f := 37) rfl ?_); refine goesL_ (some 42) rfl rfl Try.func37 (by kernel_rfl) rfl #[.string t165] rfl (by (try simp only [List.map_toArray, List.map_cons, List.map_nil]); first | done | rfl | (simp only [List.length_drop, List.length_take]; rfl)) ?_; (with_reducible refine (rdata_Unsoa.calls t165 t167 t168 t169 t170 t171 t172 t173 t174 _ A6.out).mono ?_); rintro e w42 ⟨rfl, hb⟩; refine ⟨_, rfl, ?_⟩; have n0_ := Aside0.mk (below_step (by repeat (first | (with_reducible first | exact HB.out | apply below_alloc | apply pw_below_drewN | apply below_drew1) | exact HB.out)) hb); clear HB; have HB := n0_; clear n0_; (try clear hb); (try clear hb2); (try clear hk); (try clear hi)) | ((with_reducible refine gate_dst (N := 11) rfl ?_); (try (refine gate_guard (by rfl) ?_; dsimp only)); refine box_event ?hg (N := 11) ?hd (cs := #[.string (⟨#[]⟩ : ByteArray), .string (⟨#[]⟩ : ByteArray), .int .i64 0, .int .i64 0, .int .i64 0, .int .i64 0, .int .i64 0]) (t := 59) ?hr ?_; (case hd => rfl); (case hg => rfl); (case hr => first | (go_simp; done) | (go_simp; rfl)); intro gb175 hg w43 hbox hb; have n0_ := Aside0.mk (below_step (by repeat (first | (with_reducible first | exact HB.out | apply below_alloc | apply pw_below_drewN | apply below_drew1) | exact HB.out)) hb); have n1_ := Aside0.mk (hbox); have n2_ := Aside0.mk ((by rw [hg]; exact (below_size (by repeat (first | (with_reducible first | exact HB.out | apply below_alloc | apply pw_below_drewN | apply below_drew1) | exact HB.out))) : w.heap.size ≤ gb175)); have n3_ := Aside0.mk ((by rw [hg]; exact (below_size (by repeat (first | (with_reducible first | exact HB.out | apply below_alloc | apply pw_below_drewN | apply below_drew1) | exact HB.out))) : w.heap.size ≤ gb175)); clear HB; have HB := n0_; have BK175 := n1_; have GW175 := n2_; have GE175 := n3_; clear n0_ n1_ n2_ n3_; clear hb hbox hg; have hcz44_0 : w43.cell? ⟨gb175, 0, none⟩ = some (.string (⟨#[]⟩ : ByteArray)) := (blk_cell BK175.out 0).trans rfl; have hcz44_1 : w43.cell? ⟨gb175, 1, none⟩ = some (.string (⟨#[]⟩ : ByteArray)) := (blk_cell BK175.out 1).trans rfl; have hcz44_2 : w43.cell? ⟨gb175, 2, none⟩ = some (.int .i64 0) := (blk_cell BK175.out 2).trans rfl; have hcz44_3 : w43.cell? ⟨gb175, 3, none⟩ = some (.int .i64 0) := (blk_cell BK175.out 3).trans rfl; have hcz44_4 : w43.cell? ⟨gb175, 4, none⟩ = some (.int .i64 0) := (blk_cell BK175.out 4).trans rfl; have hcz44_5 : w43.cell? ⟨gb175, 5, none⟩ = some (.int .i64 0) := (blk_cell BK175.out 5).trans rfl; have hcz44_6 : w43.cell? ⟨gb175, 6, none⟩ = some (.int .i64 0) := (blk_cell BK175.out 6).trans rfl; have hfz44_0 := blk_frozen BK175.out 0; have hfz44_1 := blk_frozen BK175.out 1; have hfz44_2 := blk_frozen BK175.out 2; have hfz44_3 := blk_frozen BK175.out 3; have hfz44_4 := blk_frozen BK175.out 4; have hfz44_5 := blk_frozen BK175.out 5; have hfz44_6 := blk_frozen BK175.out 6) | ((with_reducible refine gate_dst (N := 46) rfl ?_); (try (refine gate_guard (by rfl) ?_; dsimp only)); refine Kd.R_lit Kd.string _ 9 ?hg (N := 46) ?hd (xs := ([(⟨#[97, 98]⟩ : ByteArray), (⟨#[]⟩ : ByteArray)] : List ByteArray)) (inner := [.string (⟨#[97, 98]⟩ : ByteArray), .string (⟨#[]⟩ : ByteArray)]) (ok := fun _ => True) (okp := fun _ => True) ?hr ?hp (fun _ hk => hk) trivial (Below.refl _ _) (Nat.le_refl _) (by simp) ?_; (case hd => rfl); (case hg => rfl); (case hr => first | (go_simp; done) | (go_simp; rfl)); (case hp => exact (Reps.one (show Kd.M Kd.string _ _ _ (⟨#[97, 98]⟩ : ByteArray) [.string (⟨#[97, 98]⟩ : ByteArray)] from rfl) (Reps.one (show Kd.M Kd.string _ _ _ (⟨#[]⟩ : ByteArray) [.string (⟨#[]⟩ : ByteArray)] from rfl) (Reps.none _ _)))); intro v177 w45 ho46 hb hg_ hnew_; clear hg_ hnew_; (first | rw [← Ny176.out] at ho46 | (simp only [Int.reduceToNat] at ho46; rw [← Ny176.out] at ho46)); have n0_ := Aside0.mk (Kd.R_lower ho46 (below_size (by repeat (first | (with_reducible first | exact HB.out | apply below_alloc | apply pw_below_drewN | apply below_drew1 | refine below_set ?_ GE175.out) | exact HB.out)))); have n1_ := Aside0.mk (blk_below (g := gb175) (o := .cells #[.string t167, .string t168, .int .i64 t169, .int .i64 t170, .int .i64 t171, .int .i64 t172, .int .i64 t173] 59 (0, 0)) (by (with_reducible repeat (first | refine blk_drewN ?_ _ | refine blk_drew ?_ | refine blk_alloc ?_ _)); refine blk_put (cs := #[.string t167, .string t168, .int .i64 t169, .int .i64 t170, .int .i64 t171, .int .i64 t172, .int .i64 0]) ?_ 6 _ rfl; (with_reducible repeat (first | refine blk_drewN ?_ _ | refine blk_drew ?_ | refine blk_alloc ?_ _)); refine blk_put (cs := #[.string t167, .string t168, .int .i64 t169, .int .i64 t170, .int .i64 t171, .int .i64 0, .int .i64 0]) ?_ 5 _ rfl; (with_reducible repeat (first | refine blk_drewN ?_ _ | refine blk_drew ?_ | refine blk_alloc ?_ _)); refine blk_put (cs := #[.string t167, .string t168, .int .i64 t169, .int .i64 t170, .int .i64 0, .int .i64 0, .int .i64 0]) ?_ 4 _ rfl; (with_reducible repeat (first | refine blk_drewN ?_ _ | refine blk_drew ?_ | refine blk_alloc ?_ _)); refine blk_put (cs := #[.string t167, .string t168, .int .i64 t169, .int .i64 0, .int .i64 0, .int .i64 0, .int .i64 0]) ?_ 3 _ rfl; (with_reducible repeat (first | refine blk_drewN ?_ _ | refine blk_drew ?_ | refine blk_alloc ?_ _)); refine blk_put (cs := #[.string t167, .string t168, .int .i64 0, .int .i64 0, .int .i64 0, .int .i64 0, .int .i64 0]) ?_ 2 _ rfl; (with_reducible repeat (first | refine blk_drewN ?_ _ | refine blk_drew ?_ | refine blk_alloc ?_ _)); refine blk_put (cs := #[.string t167, .string (⟨#[]⟩ : ByteArray), .int .i64 0, .int .i64 0, .int .i64 0, .int .i64 0, .int .i64 0]) ?_ 1 _ rfl; (with_reducible repeat (first | refine blk_drewN ?_ _ | refine blk_drew ?_ | refine blk_alloc ?_ _)); refine blk_put (cs := #[.string (⟨#[]⟩ : ByteArray), .string (⟨#[]⟩ : ByteArray), .int .i64 0, .int .i64 0, .int .i64 0, .int .i64 0, .int .i64 0]) ?_ 0 _ rfl; (with_reducible repeat (first | refine blk_drewN ?_ _ | refine blk_drew ?_ | refine blk_alloc ?_ _)); exact BK175.out) hb); have n2_ := Aside0.mk (below_step (by repeat (first | (with_reducible first | exact HB.out | apply below_alloc | apply pw_below_drewN | apply below_drew1 | refine below_set ?_ GE175.out) | exact HB.out)) hb); clear BK175; clear HB; have HO178 := n0_; have BK175 := n1_; have HB := n2_; clear n0_ n1_ n2_; clear hb ho46; obtain ⟨Ao47, co47, eo47⟩ := Kd.R_slice HO178.out; subst eo47) | ((with_reducible refine gate_dst (N := 47) rfl ?_); (try (refine gate_guard (by rfl) ?_; dsimp only)); (with_reducible refine gate_callee (f := 40) rfl ?_); refine goesL_ (some 47) rfl rfl Try.func40 (by kernel_rfl) rfl #[.slice Ao47 y176.length co47] rfl (by (try simp only [List.map_toArray, List.map_cons, List.map_nil]); first | done | rfl | (simp only [List.length_drop, List.length_take]; rfl)) ?_; (with_reducible refine (rdata_Txt.calls k _ _ y176 t179 t180 _ ?side1 ?side2 A7.out).mono ?_); (case side1 => repeat (first | exact (Kd.R_reads' HO178.out).2.2 | (with_reducible refine Kd.C_alloc ?_ _) | (with_reducible refine Kd.C_drewN ?_ _) | (with_reducible refine Kd.C_drew ?_))); (case side2 => exact (Kd.R_reads' HO178.out).2.1); rintro e w48 ⟨rfl, hb⟩; refine ⟨_, rfl, ?_⟩; have n0_ := Aside0.mk (Kd.R_below (by (with_reducible repeat (first | apply Kd.R_alloc | apply Kd.R_drewN | apply Kd.R_drew)); exact HO178.out) hb); have n1_ := Aside0.mk (blk_below (g := gb175) (o := .cells #[.string t167, .string t168, .int .i64 t169, .int .i64 t170, .int .i64 t171, .int .i64 t172, .int .i64 t173] 59 (0, 0)) (by (with_reducible repeat (first | refine blk_drewN ?_ _ | refine blk_drew ?_ | refine blk_alloc ?_ _)); exact BK175.out) hb); have n2_ := Aside0.mk (below_step (by repeat (first | (with_reducible first | exact HB.out | apply below_alloc | apply pw_below_drewN | apply below_drew1 | refine below_set ?_ GE175.out) | exact HB.out)) hb); clear HO178; clear BK175; clear HB; have HO178 := n0_; have BK175 := n1_; have HB := n2_; clear n0_ n1_ n2_; (try clear hb); (try clear hb2); (try clear hk); (try clear hi)) | ((with_reducible refine gate_dst (N := 51) rfl ?_); (try (refine gate_guard (by rfl) ?_; dsimp only)); (with_reducible refine gate_callee (f := 25) rfl ?_); refine goesL_ (some 51) rfl rfl Try.func25 (by kernel_rfl) rfl #[.int .i64 (-1)] rfl (by (try simp only [List.map_toArray, List.map_cons, List.map_nil]); first | done | rfl | (simp only [List.length_drop, List.length_take]; rfl)) ?_; (with_reducible refine (rdata_A.calls (-1) t181 t182 _ A8.out).mono ?_); rintro e w49 ⟨rfl, hb⟩; refine ⟨_, rfl, ?_⟩; have n0_ := Aside0.mk (Kd.R_below (by (with_reducible repeat (first | apply Kd.R_alloc | apply Kd.R_drewN | apply Kd.R_drew)); exact HO178.out) hb); have n1_ := Aside0.mk (blk_below (g := gb175) (o := .cells #[.string t167, .string t168, .int .i64 t169, .int .i64 t170, .int .i64 t171, .int .i64 t172, .int .i64 t173] 59 (0, 0)) (by (with_reducible repeat (first | refine blk_drewN ?_ _ | refine blk_drew ?_ | refine blk_alloc ?_ _)); exact BK175.out) hb); have n2_ := Aside0.mk (below_step (by repeat (first | (with_reducible first | exact HB.out | apply below_alloc | apply pw_below_drewN | apply below_drew1 | refine below_set ?_ GE175.out) | exact HB.out)) hb); clear HO178; clear BK175; clear HB; have HO178 := n0_; have BK175 := n1_; have HB := n2_; clear n0_ n1_ n2_; (try clear hb); (try clear hb2); (try clear hk); (try clear hi)) | (go_at_call 20; (with_reducible refine (wimplelaw0_Num.calls t158 t183 _ A10.out).mono ?_); rintro e w' ⟨rfl, ⟨nd, rfl⟩⟩) | (go_at_call 20; (with_reducible refine (wimplelaw0_Num.calls t160 t184 _ A13.out).mono ?_); rintro e w' ⟨rfl, ⟨nd, rfl⟩⟩) | (go_at_call 20; (with_reducible refine (wimplelaw0_Num.calls t162 t185 _ A16.out).mono ?_); rintro e w' ⟨rfl, ⟨nd, rfl⟩⟩) | (go_at_call 20; (with_reducible refine (wimplelaw0_Num.calls t164 t186 _ A19.out).mono ?_); rintro e w' ⟨rfl, ⟨nd, rfl⟩⟩) | (go_at_call 20; (with_reducible refine (wimplelaw0_Num.calls t166 t187 _ A22.out).mono ?_); rintro e w' ⟨rfl, ⟨nd, rfl⟩⟩; (try clear hcz44_0 hcz44_1 hcz44_2 hcz44_3 hcz44_4 hcz44_5 hcz44_6 hfz44_0 hfz44_1 hfz44_2 hfz44_3 hfz44_4 hfz44_5 hfz44_6); have hcz50_0 : w49.cell? ⟨gb175, 0, none⟩ = some (.string t167) := (blk_cell BK175.out 0).trans rfl; have hcz50_1 : w49.cell? ⟨gb175, 1, none⟩ = some (.string t168) := (blk_cell BK175.out 1).trans rfl; have hcz50_2 : w49.cell? ⟨gb175, 2, none⟩ = some (.int .i64 t169) := (blk_cell BK175.out 2).trans rfl; have hcz50_3 : w49.cell? ⟨gb175, 3, none⟩ = some (.int .i64 t170) := (blk_cell BK175.out 3).trans rfl; have hcz50_4 : w49.cell? ⟨gb175, 4, none⟩ = some (.int .i64 t171) := (blk_cell BK175.out 4).trans rfl; have hcz50_5 : w49.cell? ⟨gb175, 5, none⟩ = some (.int .i64 t172) := (blk_cell BK175.out 5).trans rfl; have hcz50_6 : w49.cell? ⟨gb175, 6, none⟩ = some (.int .i64 t173) := (blk_cell BK175.out 6).trans rfl; have hfz50_0 := blk_frozen BK175.out 0; have hfz50_1 := blk_frozen BK175.out 1; have hfz50_2 := blk_frozen BK175.out 2; have hfz50_3 := blk_frozen BK175.out 3; have hfz50_4 := blk_frozen BK175.out 4; have hfz50_5 := blk_frozen BK175.out 5; have hfz50_6 := blk_frozen BK175.out 6) | (go_at_call 20; (with_reducible refine (wimplelaw0_Num.calls t174 t188 _ A25.out).mono ?_); rintro e w' ⟨rfl, ⟨nd, rfl⟩⟩) | (go_at_call 20; (with_reducible refine (wimplelaw0_Num.calls t180 t189 _ A28.out).mono ?_); rintro e w' ⟨rfl, ⟨nd, rfl⟩⟩) | (go_at_call 20; (with_reducible refine (wimplelaw0_Num.calls t182 t190 _ A30.out).mono ?_); rintro e w' ⟨rfl, ⟨nd, rfl⟩⟩) | (go_at_call 33; (with_reducible refine (rdata_May.calls 1 t157 true _ A32.out).mono ?_); rintro e w51 ⟨rfl, hb⟩; have n0_ := Aside0.mk (Kd.R_below (by (with_reducible repeat (first | apply Kd.R_alloc | apply Kd.R_drewN | apply Kd.R_drew)); exact HO178.out) hb); have n1_ := Aside0.mk (blk_below (g := gb175) (o := .cells #[.string t167, .string t168, .int .i64 t169, .int .i64 t170, .int .i64 t171, .int .i64 t172, .int .i64 t173] 59 (0, 0)) (by (with_reducible repeat (first | refine blk_drewN ?_ _ | refine blk_drew ?_ | refine blk_alloc ?_ _)); exact BK175.out) hb); have n2_ := Aside0.mk (below_step (by repeat (first | (with_reducible first | exact HB.out | apply below_alloc | apply pw_below_drewN | apply below_drew1 | refine below_set ?_ GE175.out) | exact HB.out)) hb); clear HO178; clear BK175; clear HB; have HO178 := n0_; have BK175 := n1_; have HB := n2_; clear n0_ n1_ n2_; (try clear hb); (try clear hb2); (try clear hk); (try clear hi)) | (go_at_call 33; (with_reducible refine (rdata_May.calls 1 (⟨#[]⟩ : ByteArray) false _ A34.out).mono ?_); rintro e w52 ⟨rfl, hb⟩; have n0_ := Aside0.mk (Kd.R_below (by (with_reducible repeat (first | apply Kd.R_alloc | apply Kd.R_drewN | apply Kd.R_drew)); exact HO178.out) hb); have n1_ := Aside0.mk (blk_below (g := gb175) (o := .cells #[.string t167, .string t168, .int .i64 t169, .int .i64 t170, .int .i64 t171, .int .i64 t172, .int .i64 t173] 59 (0, 0)) (by (with_reducible repeat (first | refine blk_drewN ?_ _ | refine blk_drew ?_ | refine blk_alloc ?_ _)); exact BK175.out) hb); have n2_ := Aside0.mk (below_step (by repeat (first | (with_reducible first | exact HB.out | apply below_alloc | apply pw_below_drewN | apply below_drew1 | refine below_set ?_ GE175.out) | exact HB.out)) hb); clear HO178; clear BK175; clear HB; have HO178 := n0_; have BK175 := n1_; have HB := n2_; clear n0_ n1_ n2_; (try clear hb); (try clear hb2); (try clear hk); (try clear hi)) | (go_at_call 33; (with_reducible refine (rdata_May.calls 0 (⟨#[]⟩ : ByteArray) t193 _ A36.out).mono ?_); rintro e w53 ⟨rfl, hb⟩; have n0_ := Aside0.mk (Kd.R_below (by (with_reducible repeat (first | apply Kd.R_alloc | apply Kd.R_drewN | apply Kd.R_drew)); exact HO178.out) hb); have n1_ := Aside0.mk (blk_below (g := gb175) (o := .cells #[.string t167, .string t168, .int .i64 t169, .int .i64 t170, .int .i64 t171, .int .i64 t172, .int .i64 t173] 59 (0, 0)) (by (with_reducible repeat (first | refine blk_drewN ?_ _ | refine blk_drew ?_ | refine blk_alloc ?_ _)); exact BK175.out) hb); have n2_ := Aside0.mk (below_step (by repeat (first | (with_reducible first | exact HB.out | apply below_alloc | apply pw_below_drewN | apply below_drew1 | refine below_set ?_ GE175.out) | exact HB.out)) hb); clear HO178; clear BK175; clear HB; have HO178 := n0_; have BK175 := n1_; have HB := n2_; clear n0_ n1_ n2_; (try clear hb); (try clear hb2); (try clear hk); (try clear hi)))
                                    go_ret
                                    exact ⟨by first | rfl | (simp [errW_none, errW_some] <;> rfl) | (simp [*, errW_none, errW_some] <;> rfl), by repeat (first | (with_reducible first | exact HB.out | apply below_alloc | apply pw_below_drewN | apply below_drew1 | refine below_set ?_ GE175.out) | exact HB.out)⟩
                                · replace c33 := Bool.eq_false_iff.mpr c33
                                  subst c33
                                  have H1 : (none) = some r := by rw [if_neg (show ¬ (false = true) by decide)] at H; exact H
                                  clear H
                                  have H := H1
                                  clear H1
                                  exact absurd H (by simp)
                              · rw [if_neg c31] at H
                                exact absurd H (by simp)
                            · rw [if_neg c29] at H
                              exact absurd H (by simp)
                          · rw [if_neg c27] at H
                            exact absurd H (by simp)
                        · rw [if_neg c26] at H
                          exact absurd H (by simp)
                      · rw [if_neg c24] at H
                        exact absurd H (by simp)
                    · rw [if_neg c23] at H
                      exact absurd H (by simp)
                  · rw [if_neg c21] at H
                    exact absurd H (by simp)
                · rw [if_neg c20] at H
                  exact absurd H (by simp)
              · rw [if_neg c18] at H
                exact absurd H (by simp)
            · rw [if_neg c17] at H
              exact absurd H (by simp)
          · rw [if_neg c15] at H
            exact absurd H (by simp)
        · rw [if_neg c14] at H
          exact absurd H (by simp)
      · rw [if_neg c12] at H
        exact absurd H (by simp)
    · rw [if_neg c11] at H
      exact absurd H (by simp)
  · rw [if_neg c9] at H
    exact absurd H (by simp)

end Go.Proofs.Ytndcjleadggibaa.PRz

namespace Go.Proofs.Ytndcjleadggibaa.RdS
open Go.RowKit Go.Proofs.Ytndcjleadggibaa.PRz Go.Proofs.Ytndcjleadggibaa.Pu Go.Proofs.Ytndcjleadggibaa.Rd
open Go.Proofs.YtndcjleadggibaaW.PrintWords (Ev Ev.of Ev.bind Ev.step Ev.rounds)
set_option linter.unusedVariables false
theorem num_eq (x : Int) : wimplelaw0_Num.f x = some x := rfl
theorem isB (s : ByteArray) (l : List UInt8) (h : s.data.toList = l) : s.toList = l := by rw [toList_data]; exact h
theorem may_eq (t : Int) (s : ByteArray) (h : s.size ≤ 9223372036854775000) : rdata_May.f t s = some (mayD t s) := by unfold rdata_May.f; rw [if_pos h]
theorem host_eq (t : Int) (s : ByteArray) (h : s.size ≤ 9223372036854775000) : rdata_Host.f t s = some (hostS t s, hostE t s) := by unfold rdata_Host.f; rw [if_pos h]
theorem unsoa_eq (s : ByteArray) (h : s.size ≤ 9223372036854775000) : rdata_Unsoa.f s = some ((unX s).host, (unX s).mail, (unX s).s0, (unX s).s1, (unX s).s2, (unX s).s3, (unX s).s4, unE s) := by unfold rdata_Unsoa.f; rw [if_pos h]
theorem txt2 : Ev (fun k => rdata_Txt.f k [(⟨#[97, 98]⟩ : ByteArray), (⟨#[]⟩ : ByteArray)]) (sT, 0) := Ev.of (rdata_Txt.mono _) (k := 6) (by decide +kernel)
theorem awake_ev : Ev (fun k => wimplelaw4_awake.f k) true := by
  unfold wimplelaw4_awake.f
  refine Ev.call (a := (sA, 0)) (by show some (aS 258, aE 258) = _; rw [aw_a, aw_ae]) ?_
  refine Ev.call (a := (258, 0)) (by unfold rdata_Addr.f; rw [if_pos (by decide), aw_x, aw_xe]) ?_
  refine Ev.call (a := (sM, 0)) (by show some (mxS 5 sH, mxE 5 sH) = _; rw [aw_m, aw_me]) ?_
  refine Ev.call (a := (sH, 0)) (by rw [host_eq _ _ (by decide), aw_h, aw_he]) ?_
  refine Ev.call (a := (sS, 0)) (by show some (xS.S, xS.E) = _; rw [aw_s, aw_se]) ?_
  refine Ev.call (a := (s0, s0, 0, 0, 0, 0, 7, 0)) (by rw [unsoa_eq _ (by decide), aw_u, aw_ue]) ?_
  refine Ev.bind txt2 ?_
  refine Ev.call (a := (emp, 400)) (by show some (aS (-1), aE (-1)) = _; rw [aw_b, aw_be]) ?_
  refine Ev.pos (isB _ _ rfl) (Ev.call (num_eq _) (Ev.pos rfl (Ev.pos rfl (Ev.call (num_eq _) (Ev.pos rfl ?_)))))
  refine Ev.pos (isB _ _ rfl) (Ev.call (num_eq _) (Ev.pos rfl ?_))
  refine Ev.pos (isB _ _ rfl) (Ev.call (num_eq _) (Ev.pos rfl ?_))
  refine Ev.pos (by decide) (Ev.call (num_eq _) (Ev.pos rfl (Ev.pos rfl (Ev.call (num_eq _) (Ev.pos rfl ?_)))))
  refine Ev.pos (isB _ _ rfl) (Ev.call (num_eq _) (Ev.pos rfl (Ev.call (num_eq _) (Ev.pos rfl ?_))))
  refine Ev.call (a := true) (by rw [may_eq _ _ (by decide), aw_m1]) (Ev.pos rfl ?_)
  refine Ev.call (a := false) (by rw [may_eq _ _ (by decide)]; exact congrArg some aw_m2) (Ev.neg (by simp) ?_)
  refine Ev.call (a := false) (by rw [may_eq _ _ (by decide)]; exact congrArg some aw_m3) (Ev.some _ fun _ => rfl)
end Go.Proofs.Ytndcjleadggibaa.RdS

namespace Go.Proofs.Ytndcjleadggibaa.RdatasW
open Go.RowKit Go.Proofs.YtndcjleadggibaaW.PrintWords Go.Proofs.YtndcjleadggibaaW.PrintLast Go.Proofs.YtndcjleadggibaaW.PrintMore Go.Proofs.Ytndcjleadggibaa.PRz Go.Proofs.Ytndcjleadggibaa.Rd Go.Proofs.Ytndcjleadggibaa.KeptT
open Go.Proofs.Ytndcjleadggibaa.RdS (txt_ev rtxt_ev awake_ev num_eq)
set_option linter.unusedVariables false
set_option linter.unusedSimpArgs false
theorem eqf_cons {P : Program} {d : Nat} {xs ys : Array Value} {f : Field} {fs : List Field} {a b : Value} {r s : Bool} {w : World} (hn : (f.name == "_") = false) (ha : (part f.type xs f.offset).run P w = .ok a w) (hb : (part f.type ys f.offset).run P w = .ok b w) (he : (Op.equalIn d f.type a b).run P w = .ok r w) (hr : (Op.eqFields d xs ys fs).run P w = .ok s w) : (Op.eqFields d xs ys (f :: fs)).run P w = .ok (r && s) w := by
  have hn' : f.name ≠ "_" := by simpa using hn
  rw [Op.eqFields]
  simp only [if_pos hn', Sem.run_bind, ha, hb, he, Result.andThen_ok]
  cases r
  · simp
  · simpa using hr
theorem eqf_nil {P : Program} {d : Nat} {xs ys : Array Value} {w : World} : (Op.eqFields d xs ys []).run P w = .ok true w := by simp [Op.eqFields]
theorem eqA_of {P : Program} {d : Nat} {xs ys : Array Value} {r : Bool} {w : World} {t : TypeId} {fs : Array Field} (hu : P.underlying t = some (.struct fs)) (hp : P.stoodInHeld t = false) (h : (Op.eqFields d xs ys fs.toList).run P w = .ok r w) : (Op.equalIn (d + 1) t (.agg xs) (.agg ys)).run P w = .ok r w := by
  have hf : P.fieldsOf t = fs := by simp [Program.fieldsOf, hu]
  rw [run_equalIn_struct (P := P) w d t xs ys (by rw [hf]; exact hu) hp, hf]
  exact h
theorem eqS (uh um : ByteArray) (u0 u1 u2 u3 u4 : Int) (w : World) : (Op.equalIn 10000 59 (.agg #[.string uh, .string um, .int .i64 u0, .int .i64 u1, .int .i64 u2, .int .i64 u3, .int .i64 u4]) (.agg #[.string uh, .string um, .int .i64 u0, .int .i64 u1, .int .i64 u2, .int .i64 u3, .int .i64 u4])).run Try.prog w = .ok true w := by
  have h : (true && (true && (true && (true && (true && (true && (true && true))))))) = true := rfl
  rw [← h]
  refine RdatasW.eqA_of Try.underlying59 (by kernel_rfl) ?_
  refine RdatasW.eqf_cons (by rfl) (by go_simp; rfl) (by go_simp; rfl) (by go_simp) ?_
  refine RdatasW.eqf_cons (by rfl) (by go_simp; rfl) (by go_simp; rfl) (by go_simp) ?_
  refine RdatasW.eqf_cons (by rfl) (by go_simp; rfl) (by go_simp; rfl) (by go_simp) ?_
  refine RdatasW.eqf_cons (by rfl) (by go_simp; rfl) (by go_simp; rfl) (by go_simp) ?_
  refine RdatasW.eqf_cons (by rfl) (by go_simp; rfl) (by go_simp; rfl) (by go_simp) ?_
  refine RdatasW.eqf_cons (by rfl) (by go_simp; rfl) (by go_simp; rfl) (by go_simp) ?_
  refine RdatasW.eqf_cons (by rfl) (by go_simp; rfl) (by go_simp; rfl) (by go_simp) ?_
  exact RdatasW.eqf_nil
set_option maxHeartbeats 8000000 in
set_option maxRecDepth 100000 in
theorem walk (t : Int) (d : ByteArray) (x : Int) (h : ByteArray) (sh sm : ByteArray) (s0 s1 s2 s3 s4 : Int) (A : Option Addr) (c : Nat) (l : List ByteArray) (w : World) (hd : d.size ≤ 1048576) (hl : l.length ≤ 1048576) (hT : (outN l).length ≤ 16777216)
    (k0 : Kd.C Kd.string w A l.length l) (l0 : l.length ≤ c) :
    Calls Try.prog 8 #[.int .i64 t, .string d, .int .i64 x, .string h, .agg #[.string sh, .string sm, .int .i64 s0, .int .i64 s1, .int .i64 s2, .int .i64 s3, .int .i64 s4], .slice A l.length c] w fun e w' => e = .returned (.bool true) ∧ Below w.heap.size w w' := by
  obtain ⟨a1, a2, ha, hA⟩ : ∃ p q, rdata_A.f x = some (p, q) ∧ wimpleref4_A.f x = some (p, q) := ⟨_, _, rfl, rfl⟩
  obtain ⟨b1, b2, hb, hB⟩ : ∃ p q, rdata_Addr.f d = some (p, q) ∧ wimpleref4_Addr.f d = some (p, q) := ⟨_, _, if_pos (by omega), if_pos (by omega)⟩
  obtain ⟨c1, c2, hc, hC⟩ : ∃ p q, rdata_Mx.f x h = some (p, q) ∧ wimpleref4_Mx.f x h = some (p, q) := ⟨_, _, rfl, rfl⟩
  obtain ⟨d1, d2, hd1, hD⟩ : ∃ p q, rdata_Host.f t d = some (p, q) ∧ wimpleref4_Host.f t d = some (p, q) := ⟨_, _, if_pos (by omega), if_pos (by omega)⟩
  obtain ⟨m, hm, hM⟩ : ∃ p, rdata_May.f t d = some p ∧ wimpleref4_DataMay.f t d = some p := ⟨_, if_pos (by omega), if_pos (by omega)⟩
  obtain ⟨e1, e2, he, hE⟩ : ∃ p q, rdata_Soa.f sh sm s0 s1 s2 s3 s4 = some (p, q) ∧ wimpleref4_Soa.f sh sm s0 s1 s2 s3 s4 = some (p, q) := ⟨_, _, rfl, rfl⟩
  obtain ⟨uh, um, u0, u1, u2, u3, u4, u5, hu, hU⟩ : ∃ p1 p2 p3 p4 p5 p6 p7 p8, rdata_Unsoa.f d = some (p1, p2, p3, p4, p5, p6, p7, p8) ∧ wimpleref4_Unsoa.f d = some (p1, p2, p3, p4, p5, p6, p7, p8) := ⟨_, _, _, _, _, _, _, _, if_pos (by omega), if_pos (by omega)⟩
  obtain ⟨g1, g2, hg, hG⟩ : ∃ p q, Ev (fun k => rdata_Txt.f k l) (p, q) ∧ Ev (fun k => wimpleref4_Txt.f k l) (p, q) := ⟨_, _, txt_ev l (by omega) (by omega), rtxt_ev l (by omega)⟩
  obtain ⟨K1, x1⟩ := hg
  obtain ⟨K2, x2⟩ := hG
  obtain ⟨K3, x3⟩ := awake_ev
  have kA := fun w => rdata_A.calls x a1 a2 w ha
  have kA' := fun w => wimpleref4_A.calls x a1 a2 w hA
  have kB := fun w => rdata_Addr.calls d b1 b2 w hb
  have kB' := fun w => wimpleref4_Addr.calls d b1 b2 w hB
  have kC := fun w => rdata_Mx.calls x h c1 c2 w hc
  have kC' := fun w => wimpleref4_Mx.calls x h c1 c2 w hC
  have kD := fun w => rdata_Host.calls t d d1 d2 w hd1
  have kD' := fun w => wimpleref4_Host.calls t d d1 d2 w hD
  have kM := fun w => rdata_May.calls t d m w hm
  have kM' := fun w => wimpleref4_DataMay.calls t d m w hM
  have kE := fun w => rdata_Soa.calls sh sm s0 s1 s2 s3 s4 e1 e2 w he
  have kE' := fun w => wimpleref4_Soa.calls sh sm s0 s1 s2 s3 s4 e1 e2 w hE
  have kU := fun w => rdata_Unsoa.calls d uh um u0 u1 u2 u3 u4 u5 w hu
  have kU' := fun w => wimpleref4_Unsoa.calls d uh um u0 u1 u2 u3 u4 u5 w hU
  have kW := fun w => wimplelaw4_awake.calls K3 true w (x3 K3 (Nat.le_refl _))
  have kN := fun (x : Int) (w : World) => (wimplelaw0_Num.calls x x w (num_eq x)).mono fun e w' ⟨h1, h2⟩ => And.intro h1 h2.below
  have X1 := Lib.hid (And.intro (x1 K1 (Nat.le_refl _)) (x2 K2 (Nat.le_refl _)))
  have KM := Lib.hid k0
  have LM := Lib.hid l0
  have HL := Lib.hid hl
  clear ha hA hb hB hc hC hd1 hD hm hM he hE hu hU x1 x2 x3 k0 l0 hl hT hd
  have hER := fun w => eqS uh um u0 u1 u2 u3 u4 w
  have q1 : (a1.toList == a1.toList) = true := beq_self_eq_true _
  have q2 : (c1.toList == c1.toList) = true := beq_self_eq_true _
  have q3 : (d1.toList == d1.toList) = true := beq_self_eq_true _
  have q4 : (e1.toList == e1.toList) = true := beq_self_eq_true _
  have q5 : (g1.toList == g1.toList) = true := beq_self_eq_true _
  have q6 : (a2 != a2) = false := by simp
  have q7 : (b1 != b1) = false := by simp
  have q8 : (b2 != b2) = false := by simp
  have q9 : (c2 != c2) = false := by simp
  have q10 : (d2 != d2) = false := by simp
  have q11 : (m != m) = false := by simp
  have q12 : (e2 == e2) = true := by simp
  have q13 : (u5 == u5) = true := by simp
  have q14 : (g2 == g2) = true := by simp
  have Bx : Below w.heap.size w (w.alloc (.cells #[.string sh, .string sm, .int .i64 s0, .int .i64 s1, .int .i64 s2, .int .i64 s3, .int .i64 s4] 59)) := (Below.refl _ _).alloc (Nat.le_refl _) _
  have bs := blk_new w (.cells #[.string sh, .string sm, .int .i64 s0, .int .i64 s1, .int .i64 s2, .int .i64 s3, .int .i64 s4] 59)
  go_enter Try.func8, Try.ntmps8
  go_upto_region 1 with (fail)
  generalize w.alloc (.cells #[.string sh, .string sm, .int .i64 s0, .int .i64 s1, .int .i64 s2, .int .i64 s3, .int .i64 s4] 59) = w0 at *
  obtain ⟨gs, hgs⟩ : ∃ g, g = w.heap.size := ⟨_, rfl⟩
  rw [← hgs] at bs ⊢
  have GS := Lib.hid hgs
  clear hgs
  go_wp2_with fail
  refine (kA _).mono ?_
  rintro e' w1 ⟨rfl, hb⟩
  replace Bx := Bx.trans (hb.mono Bx.size)
  replace bs := blk_below bs hb
  clear hb
  go_wp2_with fail
  refine (kA' _).mono ?_
  rintro e' w2 ⟨rfl, hb⟩
  replace Bx := Bx.trans (hb.mono Bx.size)
  replace bs := blk_below bs hb
  clear hb
  go_wp2_with fail
  refine (kB _).mono ?_
  rintro e' w3 ⟨rfl, hb⟩
  replace Bx := Bx.trans (hb.mono Bx.size)
  replace bs := blk_below bs hb
  clear hb
  go_wp2_with fail
  refine (kB' _).mono ?_
  rintro e' w4 ⟨rfl, hb⟩
  replace Bx := Bx.trans (hb.mono Bx.size)
  replace bs := blk_below bs hb
  clear hb
  go_wp2_with fail
  refine (kC _).mono ?_
  rintro e' w5 ⟨rfl, hb⟩
  replace Bx := Bx.trans (hb.mono Bx.size)
  replace bs := blk_below bs hb
  clear hb
  go_wp2_with fail
  refine (kC' _).mono ?_
  rintro e' w6 ⟨rfl, hb⟩
  replace Bx := Bx.trans (hb.mono Bx.size)
  replace bs := blk_below bs hb
  clear hb
  go_wp2_with fail
  refine (kD _).mono ?_
  rintro e' w7 ⟨rfl, hb⟩
  replace Bx := Bx.trans (hb.mono Bx.size)
  replace bs := blk_below bs hb
  clear hb
  go_wp2_with fail
  refine (kD' _).mono ?_
  rintro e' w8 ⟨rfl, hb⟩
  replace Bx := Bx.trans (hb.mono Bx.size)
  replace bs := blk_below bs hb
  clear hb
  go_wp2_with fail
  refine (kN _ _).mono ?_
  rintro e' w9 ⟨rfl, hb⟩
  replace Bx := Bx.trans (hb.mono Bx.size)
  replace bs := blk_below bs hb
  clear hb
  go_wp2_with fail
  refine (kN _ _).mono ?_
  rintro e' w10 ⟨rfl, hb⟩
  replace Bx := Bx.trans (hb.mono Bx.size)
  replace bs := blk_below bs hb
  clear hb
  go_wp2_with fail
  refine (kN _ _).mono ?_
  rintro e' w11 ⟨rfl, hb⟩
  replace Bx := Bx.trans (hb.mono Bx.size)
  replace bs := blk_below bs hb
  clear hb
  go_wp2_with fail
  refine (kN _ _).mono ?_
  rintro e' w12 ⟨rfl, hb⟩
  replace Bx := Bx.trans (hb.mono Bx.size)
  replace bs := blk_below bs hb
  clear hb
  go_wp2_with fail
  refine (kM _).mono ?_
  rintro e' w13 ⟨rfl, hb⟩
  replace Bx := Bx.trans (hb.mono Bx.size)
  replace bs := blk_below bs hb
  clear hb
  go_wp2_with fail
  refine (kM' _).mono ?_
  rintro e' w14 ⟨rfl, hb⟩
  replace Bx := Bx.trans (hb.mono Bx.size)
  replace bs := blk_below bs hb
  clear hb
  clear kA kA' kB kB' kC kC' kD kD' kM kM' q1 q2 q3 q6 q7 q8 q9 q10 q11
  have y0 : w14.cell? ⟨gs, 0, none⟩ = some (.string sh) := (blk_cell bs 0).trans rfl
  have y1 : w14.cell? ⟨gs, 1, none⟩ = some (.string sm) := (blk_cell bs 1).trans rfl
  have y2 : w14.cell? ⟨gs, 2, none⟩ = some (.int .i64 s0) := (blk_cell bs 2).trans rfl
  have y3 : w14.cell? ⟨gs, 3, none⟩ = some (.int .i64 s1) := (blk_cell bs 3).trans rfl
  have y4 : w14.cell? ⟨gs, 4, none⟩ = some (.int .i64 s2) := (blk_cell bs 4).trans rfl
  have y5 : w14.cell? ⟨gs, 5, none⟩ = some (.int .i64 s3) := (blk_cell bs 5).trans rfl
  have y6 : w14.cell? ⟨gs, 6, none⟩ = some (.int .i64 s4) := (blk_cell bs 6).trans rfl
  go_wp2_with fail
  refine (kE _).mono ?_
  rintro e' w15 ⟨rfl, hb⟩
  replace Bx := Bx.trans (hb.mono Bx.size)
  replace bs := blk_below bs hb
  clear hb
  clear y0 y1 y2 y3 y4 y5 y6
  have y0 : w15.cell? ⟨gs, 0, none⟩ = some (.string sh) := (blk_cell bs 0).trans rfl
  have y1 : w15.cell? ⟨gs, 1, none⟩ = some (.string sm) := (blk_cell bs 1).trans rfl
  have y2 : w15.cell? ⟨gs, 2, none⟩ = some (.int .i64 s0) := (blk_cell bs 2).trans rfl
  have y3 : w15.cell? ⟨gs, 3, none⟩ = some (.int .i64 s1) := (blk_cell bs 3).trans rfl
  have y4 : w15.cell? ⟨gs, 4, none⟩ = some (.int .i64 s2) := (blk_cell bs 4).trans rfl
  have y5 : w15.cell? ⟨gs, 5, none⟩ = some (.int .i64 s3) := (blk_cell bs 5).trans rfl
  have y6 : w15.cell? ⟨gs, 6, none⟩ = some (.int .i64 s4) := (blk_cell bs 6).trans rfl
  go_wp2_with fail
  refine (kE' _).mono ?_
  rintro e' w16 ⟨rfl, hb⟩
  replace Bx := Bx.trans (hb.mono Bx.size)
  replace bs := blk_below bs hb
  clear hb
  clear y0 y1 y2 y3 y4 y5 y6
  go_wp2_with fail
  refine (kU _).mono ?_
  rintro e' w17 ⟨rfl, hb⟩
  replace Bx := Bx.trans (hb.mono Bx.size)
  clear hb
  have hb : Below w17.heap.size w17 (w17.alloc (.cells #[.string uh, .string um, .int .i64 u0, .int .i64 u1, .int .i64 u2, .int .i64 u3, .int .i64 u4] 59)) := (Below.refl _ _).alloc (Nat.le_refl _) _
  have ba := blk_new w17 (.cells #[.string uh, .string um, .int .i64 u0, .int .i64 u1, .int .i64 u2, .int .i64 u3, .int .i64 u4] 59)
  go_upto_region 14 with (fail)
  replace Bx := Bx.trans (hb.mono Bx.size)
  generalize w17.alloc (.cells #[.string uh, .string um, .int .i64 u0, .int .i64 u1, .int .i64 u2, .int .i64 u3, .int .i64 u4] 59) = w18 at *
  obtain ⟨ga, hg⟩ : ∃ k, k = w17.heap.size := ⟨_, rfl⟩
  rw [← hg] at ba ⊢
  clear hg hb
  go_wp2_with fail
  refine (kU' _).mono ?_
  rintro e' w19 ⟨rfl, hb⟩
  replace Bx := Bx.trans (hb.mono Bx.size)
  replace ba := blk_below ba hb
  clear hb
  have hb : Below w19.heap.size w19 (w19.alloc (.cells #[.string uh, .string um, .int .i64 u0, .int .i64 u1, .int .i64 u2, .int .i64 u3, .int .i64 u4] 59)) := (Below.refl _ _).alloc (Nat.le_refl _) _
  have bb := blk_new w19 (.cells #[.string uh, .string um, .int .i64 u0, .int .i64 u1, .int .i64 u2, .int .i64 u3, .int .i64 u4] 59)
  go_upto_region 15 with (fail)
  replace Bx := Bx.trans (hb.mono Bx.size)
  replace ba := blk_below ba hb
  generalize w19.alloc (.cells #[.string uh, .string um, .int .i64 u0, .int .i64 u1, .int .i64 u2, .int .i64 u3, .int .i64 u4] 59) = w20 at *
  obtain ⟨gb, hg⟩ : ∃ k, k = w19.heap.size := ⟨_, rfl⟩
  rw [← hg] at bb ⊢
  clear hg hb
  have kL := lend A c l HL.out w20 (Kd.C_below KM.out Bx) LM.out
  go_wp2_with fail
  refine kL.mono ?_
  rintro e' w21 ⟨Af, cf, rfl, RL, hb⟩
  replace Bx := Bx.trans (hb.mono Bx.size)
  replace ba := blk_below ba hb
  replace bb := blk_below bb hb
  clear hb
  clear kL
  have kT := rdata_Txt.calls K1 Af cf l g1 g2 w21 (by have h := Kd.C_take (m := l.length) (Kd.R_reads' RL).2.2 (by rw [full_len]; omega); simpa using h) (by have := (Kd.R_reads' RL).2.1; omega) X1.out.1
  go_wp2_with fail
  refine kT.mono ?_
  rintro e' w22 ⟨rfl, hb⟩
  replace Bx := Bx.trans (hb.mono Bx.size)
  replace ba := blk_below ba hb
  replace bb := blk_below bb hb
  replace RL := Kd.R_below RL hb
  clear hb
  clear kT
  have kT := wimpleref4_Txt.calls K2 A c l g1 g2 w22 (Kd.C_below KM.out Bx) LM.out X1.out.2
  go_wp2_with fail
  refine kT.mono ?_
  rintro e' w23 ⟨rfl, hb⟩
  replace Bx := Bx.trans (hb.mono Bx.size)
  replace ba := blk_below ba hb
  replace bb := blk_below bb hb
  replace RL := Kd.R_below RL hb
  clear hb
  clear kT
  go_wp2_with fail
  refine (kN _ _).mono ?_
  rintro e' w24 ⟨rfl, hb⟩
  replace Bx := Bx.trans (hb.mono Bx.size)
  replace ba := blk_below ba hb
  replace bb := blk_below bb hb
  replace RL := Kd.R_below RL hb
  clear hb
  have y0 : w24.cell? ⟨ga, 0, none⟩ = some (.string uh) := (blk_cell ba 0).trans rfl
  have y1 : w24.cell? ⟨ga, 1, none⟩ = some (.string um) := (blk_cell ba 1).trans rfl
  have y2 : w24.cell? ⟨ga, 2, none⟩ = some (.int .i64 u0) := (blk_cell ba 2).trans rfl
  have y3 : w24.cell? ⟨ga, 3, none⟩ = some (.int .i64 u1) := (blk_cell ba 3).trans rfl
  have y4 : w24.cell? ⟨ga, 4, none⟩ = some (.int .i64 u2) := (blk_cell ba 4).trans rfl
  have y5 : w24.cell? ⟨ga, 5, none⟩ = some (.int .i64 u3) := (blk_cell ba 5).trans rfl
  have y6 : w24.cell? ⟨ga, 6, none⟩ = some (.int .i64 u4) := (blk_cell ba 6).trans rfl
  have z0 : w24.cell? ⟨gb, 0, none⟩ = some (.string uh) := (blk_cell bb 0).trans rfl
  have z1 : w24.cell? ⟨gb, 1, none⟩ = some (.string um) := (blk_cell bb 1).trans rfl
  have z2 : w24.cell? ⟨gb, 2, none⟩ = some (.int .i64 u0) := (blk_cell bb 2).trans rfl
  have z3 : w24.cell? ⟨gb, 3, none⟩ = some (.int .i64 u1) := (blk_cell bb 3).trans rfl
  have z4 : w24.cell? ⟨gb, 4, none⟩ = some (.int .i64 u2) := (blk_cell bb 4).trans rfl
  have z5 : w24.cell? ⟨gb, 5, none⟩ = some (.int .i64 u3) := (blk_cell bb 5).trans rfl
  have z6 : w24.cell? ⟨gb, 6, none⟩ = some (.int .i64 u4) := (blk_cell bb 6).trans rfl
  go_wp2_with fail
  refine (kN _ _).mono ?_
  rintro e' w25 ⟨rfl, hb⟩
  replace Bx := Bx.trans (hb.mono Bx.size)
  replace ba := blk_below ba hb
  replace bb := blk_below bb hb
  replace RL := Kd.R_below RL hb
  clear hb
  clear y0 y1 y2 y3 y4 y5 y6
  clear z0 z1 z2 z3 z4 z5 z6
  go_wp2_with fail
  refine (kN _ _).mono ?_
  rintro e' w26 ⟨rfl, hb⟩
  replace Bx := Bx.trans (hb.mono Bx.size)
  replace ba := blk_below ba hb
  replace bb := blk_below bb hb
  replace RL := Kd.R_below RL hb
  clear hb
  have kK := kept l HL.out Af A cf c w26 _ _ RL (Kd.C_below KM.out Bx) LM.out
  go_wp2_with fail
  refine kK.mono ?_
  rintro e' w27 ⟨rfl, hb⟩
  replace Bx := Bx.trans (hb.mono Bx.size)
  replace ba := blk_below ba hb
  replace bb := blk_below bb hb
  replace RL := Kd.R_below RL hb
  clear hb
  go_wp2_with fail
  refine (kW _).mono ?_
  rintro e' w28 ⟨rfl, hb⟩
  replace Bx := Bx.trans (hb.mono Bx.size)
  replace ba := blk_below ba hb
  replace bb := blk_below bb hb
  replace RL := Kd.R_below RL hb
  clear hb
  go_wp2_with fail
  go_ret
  exact ⟨rfl, Bx⟩
end Go.Proofs.Ytndcjleadggibaa.RdatasW

namespace Go.Proofs.Ytndcjleadggibaa.RdatasH
open Go.RowKit Go.Proofs.YtndcjleadggibaaW.PrintWords Go.Proofs.Ytndcjleadggibaa.PRz Go.Proofs.Ytndcjleadggibaa.OpenKd Go.Proofs.Ytndcjleadggibaa.OkRz Go.Proofs.Ytndcjleadggibaa.Rd
set_option linter.unusedVariables false
theorem bulk (l : List ByteArray) : l.length ≤ bks (fun s : ByteArray => s.size + 1) l ∧ (outN l).length ≤ bks (fun s : ByteArray => s.size + 1) l := by
  have h1 : (outN l).length = (l.map (fun s : ByteArray => s.size + 1)).sum := by
    induction l with
    | nil => rfl
    | cons x l ih =>
      rw [List.map_cons, List.sum_cons, ← ih]
      unfold outN
      rw [List.flatMap_cons, List.length_append, List.length_cons, numsOf_length]
  have h2 : l.length ≤ (l.map (fun s : ByteArray => s.size + 1)).sum := by
    clear h1
    induction l with
    | nil => simp
    | cons x l ih => rw [List.map_cons, List.sum_cons, List.length_cons]; omega
  unfold bks; omega
theorem hcalls (t : Int) (d : ByteArray) (x : Int) (h : ByteArray) (s : S59) (l : List ByteArray) (W : World) (A : Option Addr) (c : Nat) (k0 : Kd.C Kd.string W A l.length l) (l0 : l.length ≤ c)
    (o0 : (Lit.int .i64 t).wf = true) (o1 : d.size ≤ maxLen) (o2 : (Lit.int .i64 x).wf = true) (o3 : h.size ≤ maxLen) (o4 : ok59 s) (o5 : ∀ y ∈ l, y.size ≤ maxLen)
    (hb : 1 + (d.size + 1) + 1 + (h.size + 1) + bk59 s + bks (fun s => s.size + 1) l ≤ 1048576) :
    Calls Try.prog 8 #[.int .i64 t, .string d, .int .i64 x, .string h, .agg #[.string s.f0, .string s.f1, .int .i64 s.f2, .int .i64 s.f3, .int .i64 s.f4, .int .i64 s.f5, .int .i64 s.f6], .slice A l.length c] W fun e w' => e = .returned (.bool true) ∧ Below W.heap.size W w' := by
  obtain ⟨h1, h2⟩ := bulk l
  exact RdatasW.walk t d x h s.f0 s.f1 s.f2 s.f3 s.f4 s.f5 s.f6 A c l W (by omega) (by omega) (by omega) k0 l0
end Go.Proofs.Ytndcjleadggibaa.RdatasH

namespace Go.Proofs.Ytndcjleadggibaa.rdatas
open Go.ChangeShapes Go.WideShapes Go.ChangeAt Go.RowKit Go.Proofs.YtndcjleadggibaaW.PrintWords Go.Proofs.Ytndcjleadggibaa.PRz Go.Proofs.Ytndcjleadggibaa.OpenKd Go.Proofs.Ytndcjleadggibaa.OkRz
open Go.ChangeMaps (open_string shut_string)
set_option linter.unusedVariables false
theorem own : ownKnob Try.prog.godebug = none := by kernel_rfl
theorem laidOut : laidOutB Try.prog = true := by kernel_rfl
set_option maxRecDepth 100000 in
theorem contract (H : Type) (enc : TypeId × Value → H) (W : World) (base : Nat) (args : Array Value) (ds gs : List (DataW H)) (before : List MemPlace)
    (hval : ∀ (j : Nat) t v, Try.f8.params[j]? = some t → args[j]? = some v → Value.okWide Try.prog W .any base t v)
    (hW : DataW.Whole enc Try.prog Try.f8.params.toList Rows.rdatasSpec.vars false W args.toList ds gs before) (hk : Rows.uptoSmall H (ds ++ gs) = true) :
    Calls Try.prog 8 args W fun e W' => ∃ v, e = .returned v ∧ Rows.rdatasSpec.post enc Try.prog Try.f8 false true false false W args v W' := by
  have hW' := hW
  obtain ⟨p, q, hA0, hV, rfl, hfz, hnd⟩ := hW
  have hA : DataW.TrodAll enc Try.prog W 0 (fun _ => true) true Try.f8.params.toList args.toList ds p := hA0
  rw [Try.params8] at hA hval
  obtain ⟨v0, vs0, d0, ds0, p0, q0, hargs, rfl, rfl, h0, r0⟩ := trodAll_cons hA
  obtain ⟨v1, vs1, d1, ds1, p1, q1, rfl, rfl, rfl, h1, r1⟩ := trodAll_cons r0
  obtain ⟨v2, vs2, d2, ds2, p2, q2, rfl, rfl, rfl, h2, r2⟩ := trodAll_cons r1
  obtain ⟨v3, vs3, d3, ds3, p3, q3, rfl, rfl, rfl, h3, r3⟩ := trodAll_cons r2
  obtain ⟨v4, vs4, d4, ds4, p4, q4, rfl, rfl, rfl, h4, r4⟩ := trodAll_cons r3
  obtain ⟨v5, vs5, d5, ds5, p5, q5, rfl, rfl, rfl, h5, r5⟩ := trodAll_cons r4
  obtain ⟨rfl, rfl, rfl⟩ := trodAll_nil r5
  obtain rfl : args = #[v0, v1, v2, v3, v4, v5] := by cases args; simp_all
  obtain ⟨rfl, rfl⟩ := trodVars_none hV
  have k0 := h0
  have lt0 : ∀ x ∈ p0, x.block < W.heap.size := by obtain ⟨m, hm⟩ := k0; exact DataW.trod_lt m _ _ _ hm
  obtain ⟨fuel0, hf0⟩ := h0
  obtain ⟨a0, rfl, _, _, wa0⟩ := open_int Try.underlying3 (hval 0 3 v0 rfl rfl) k0
  obtain ⟨x0, e0, o0, b0⟩ := (opens_int enc Try.prog W 0 (fun _ => true) true Try.underlying3) _ _ _ hf0
  obtain rfl : a0 = x0 := by have e' := List.cons.inj e0; simpa using e'.1
  have k1 := h1
  have lt1 : ∀ x ∈ p1, x.block < W.heap.size := by obtain ⟨m, hm⟩ := k1; exact DataW.trod_lt m _ _ _ hm
  obtain ⟨fuel1, hf1⟩ := h1
  obtain ⟨a1, rfl, _, _, wa1⟩ := open_string Try.underlying9 (hval 1 9 v1 rfl rfl) k1
  obtain ⟨x1, e1, o1, b1⟩ := (opens_string enc Try.prog W 0 (fun _ => true) true Try.underlying9) _ _ _ hf1
  obtain rfl : a1 = x1 := by have e' := List.cons.inj e1; simpa using e'.1
  have k2 := h2
  have lt2 : ∀ x ∈ p2, x.block < W.heap.size := by obtain ⟨m, hm⟩ := k2; exact DataW.trod_lt m _ _ _ hm
  obtain ⟨fuel2, hf2⟩ := h2
  obtain ⟨a2, rfl, _, _, wa2⟩ := open_int Try.underlying3 (hval 2 3 v2 rfl rfl) k2
  obtain ⟨x2, e2, o2, b2⟩ := (opens_int enc Try.prog W 0 (fun _ => true) true Try.underlying3) _ _ _ hf2
  obtain rfl : a2 = x2 := by have e' := List.cons.inj e2; simpa using e'.1
  have k3 := h3
  have lt3 : ∀ x ∈ p3, x.block < W.heap.size := by obtain ⟨m, hm⟩ := k3; exact DataW.trod_lt m _ _ _ hm
  obtain ⟨fuel3, hf3⟩ := h3
  obtain ⟨a3, rfl, _, _, wa3⟩ := open_string Try.underlying9 (hval 3 9 v3 rfl rfl) k3
  obtain ⟨x3, e3, o3, b3⟩ := (opens_string enc Try.prog W 0 (fun _ => true) true Try.underlying9) _ _ _ hf3
  obtain rfl : a3 = x3 := by have e' := List.cons.inj e3; simpa using e'.1
  have k4 := h4
  have lt4 : ∀ x ∈ p4, x.block < W.heap.size := by obtain ⟨m, hm⟩ := k4; exact DataW.trod_lt m _ _ _ hm
  obtain ⟨fuel4, hf4⟩ := h4
  obtain ⟨cs4, rfl, hs4⟩ := okWide_struct Try.underlying59 (hval 4 59 v4 rfl rfl)
  have hf4' : DataW.trod enc Try.prog W 0 (fun _ => true) true fuel4 59 cs4.toList = some (d4, p4) := by simpa [Value.cells] using hf4
  obtain ⟨x4, e4, o4, b4⟩ := opens59 enc W 0 (fun _ => true) true _ _ _ hf4'
  have e4' := e4
  generalize hcs4 : cs4.toList = l4 at e4'
  obtain ⟨z4_0, t4_0, rfl, g4_0, r4_0⟩ := e4'
  obtain rfl := g4_0
  obtain ⟨z4_1, t4_1, rfl, g4_1, r4_1⟩ := r4_0
  obtain rfl := g4_1
  obtain ⟨z4_2, t4_2, rfl, g4_2, r4_2⟩ := r4_1
  obtain rfl := g4_2
  obtain ⟨z4_3, t4_3, rfl, g4_3, r4_3⟩ := r4_2
  obtain rfl := g4_3
  obtain ⟨z4_4, t4_4, rfl, g4_4, r4_4⟩ := r4_3
  obtain rfl := g4_4
  obtain ⟨z4_5, t4_5, rfl, g4_5, r4_5⟩ := r4_4
  obtain rfl := g4_5
  obtain rfl := r4_5
  obtain rfl : cs4 = #[.string x4.f0, .string x4.f1, .int .i64 x4.f2, .int .i64 x4.f3, .int .i64 x4.f4, .int .i64 x4.f5, .int .i64 x4.f6] := by apply Array.ext'; simpa using hcs4
  have k5 := h5
  have lt5 : ∀ x ∈ p5, x.block < W.heap.size := by obtain ⟨m, hm⟩ := k5; exact DataW.trod_lt m _ _ _ hm
  obtain ⟨fuel5, hf5⟩ := h5
  obtain ⟨A5', n5', c5', rfl⟩ := okWide_slice Try.underlying60 (hval 5 60 v5 rfl rfl)
  obtain ⟨A5, x5, c5, e5, hl5, hC5, o5, b5⟩ := open_slice Try.underlying60 (by kernel_rfl) (opens_string enc Try.prog W 0 (fun _ => true) true Try.underlying9) hf5
  obtain ⟨rfl, rfl, rfl⟩ : A5' = A5 ∧ n5' = x5.length ∧ c5' = c5 := by have e' := List.cons.inj e5; simpa using e'.1
  have hbulk : 1 + (a1.size + 1) + 1 + (a3.size + 1) + bk59 x4 + bks (fun s => s.size + 1) x5 ≤ 1048576 := by
    have hk' : Rows.uptoBulkAll ([d0, d1, d2, d3, d4, d5] : List (DataW H)) ≤ 1048576 := by simpa using (of_decide_eq_true hk : Rows.uptoBulkAll _ ≤ 1048576)
    simp only [Rows.uptoBulkAll] at hk'
    skip
    have b0' : 1 ≤ Rows.uptoBulk d0 := b0; have b1' : (a1.size + 1) ≤ Rows.uptoBulk d1 := b1; have b2' : 1 ≤ Rows.uptoBulk d2 := b2; have b3' : (a3.size + 1) ≤ Rows.uptoBulk d3 := b3; have b4' : bk59 x4 ≤ Rows.uptoBulk d4 := b4; have b5' : bks (fun s => s.size + 1) x5 ≤ Rows.uptoBulk d5 := b5
    omega
  clear hA0
  refine (RdatasH.hcalls a0 a1 a2 a3 x4 x5 W A5' c5' hC5 hl5 o0 o1 o2 o3 o4 o5 hbulk).mono fun e W' ⟨he, hd⟩ => ?_
  have bel : Below W.heap.size W W' := hd
  subst he
  exact ⟨_, rfl, _, _, _, [], _, [], hW', trodAll_mk1 (shut_bool Try.underlying4 _), (trodAll_cons_mk (Below.trod laidOut (by kernel_rfl) (of_decide_eq_true (by kernel_rfl)) k0 bel lt0) (trodAll_cons_mk (Below.trod laidOut (by kernel_rfl) (of_decide_eq_true (by kernel_rfl)) k1 bel lt1) (trodAll_cons_mk (Below.trod laidOut (by kernel_rfl) (of_decide_eq_true (by kernel_rfl)) k2 bel lt2) (trodAll_cons_mk (Below.trod laidOut (by kernel_rfl) (of_decide_eq_true (by kernel_rfl)) k3 bel lt3) (trodAll_cons_mk (Below.trod laidOut (by kernel_rfl) (of_decide_eq_true (by kernel_rfl)) k4 bel lt4) (trodAll_cons_mk (Below.trod laidOut (by kernel_rfl) (of_decide_eq_true (by kernel_rfl)) k5 bel lt5) trodAll_mk0)))))), rfl, bel.frame _, fun h => by cases h⟩
set_option maxRecDepth 100000 in
theorem lifted (os : Os) (started : os.Started) (H : Type) (enc : TypeId × Value → H) (F : Stop.Interp) :
    ReturnsInHanded {} Try.checked os 8 .any ((Rows.OpenSpec.upto Rows.rdatasSpec).pre6 enc Try.prog Try.f8 Rows.rdatasUptoRow.domain false) (((Rows.OpenSpec.upto Rows.rdatasSpec).at F).post enc Try.prog Try.f8 false true false false) := by
  refine returnsInHanded_of_cond (C := Try.checked) (s := Rows.OpenSpec.upto Rows.rdatasSpec) (k := Rows.uptoSmall) rfl own started (by kernel_rfl) Try.func8
    (OpenSpec.witness (enc := enc) (C := Try.checked) (s := Rows.OpenSpec.upto Rows.rdatasSpec) (k := Rows.uptoSmall) rfl false ⟨#[], #[.int .i64 0, .string ByteArray.empty, .int .i64 0, .string ByteArray.empty, .agg #[.string ByteArray.empty, .string ByteArray.empty, .int .i64 0, .int .i64 0, .int .i64 0, .int .i64 0, .int .i64 0], .slice none 0 0], []⟩ 8 (by kernel_rfl) (by kernel_rfl) (by kernel_rfl)
      (x := ([.lit (.int .i64 0), .lit (.string []), .lit (.int .i64 0), .lit (.string []), .agg [.lit (.string []), .lit (.string []), .lit (.int .i64 0), .lit (.int .i64 0), .lit (.int .i64 0), .lit (.int .i64 0), .lit (.int .i64 0)], .nil], [], [])) (by kernel_rfl) rfl (by kernel_rfl)) ?_
  intro W base args ds gs before hval hW _ hk _
  exact contract H enc W base args ds gs before hval hW hk
theorem proved : Rows.RdatasUptoSaid :=
  OpenClaim.holds_of_cond 8 Try.f8 rfl rfl rfl rfl rfl rfl rfl ⟨rfl, rfl, rfl, rfl, rfl⟩ rfl rfl rfl rfl rfl (by kernel_rfl) Try.func8 (by kernel_rfl)
    (of_decide_eq_true (by kernel_rfl)) (by unfold Func.isWrapper; first | (rw [if_pos (by decide +kernel)]; kernel_rfl) | (rw [if_neg (by decide +kernel)]; exact ⟨rfl, rfl⟩))
    (fun os started H enc _ F => lifted os started H enc F)
end Go.Proofs.Ytndcjleadggibaa.rdatas
namespace Go.Proofs.Ytndcjleadggibaa
theorem rdatas_holds : Rows.RdatasUptoSaid := rdatas.proved
end Go.Proofs.Ytndcjleadggibaa
