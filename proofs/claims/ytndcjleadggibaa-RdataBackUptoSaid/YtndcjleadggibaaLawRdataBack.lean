/- The row of the law RdataBack, where what it reads is of bulk at most 1048576, out of its pure statement and the printed walk. -/
import Derived.Test.YtndcjleadggibaaRows
import Derived.Test.YtndcjleadggibaaPRdTx5
import Derived.Test.YtndcjleadggibaaOkRdT
import Derived.Test.YtndcjleadggibaaEvRdataBack
import Derived.WalkKit
import Derived.ProofKit
import Derived.OpenShut
import Derived.ShutString
import Derived.ChangeOld
import Derived.Below
import Derived.JoinedCond
import Derived.Carry
namespace Go.Proofs.Ytndcjleadggibaa.rdataBack
open Go.ChangeShapes Go.WideShapes Go.ChangeAt Go.RowKit Go.Proofs.YtndcjleadggibaaW.PrintWords Go.Proofs.Ytndcjleadggibaa.PRdT Go.Proofs.Ytndcjleadggibaa.OpenKd Go.Proofs.Ytndcjleadggibaa.OkRdT
open Go.ChangeMaps (open_string shut_string)
set_option linter.unusedVariables false
theorem own : ownKnob Try.prog.godebug = none := by kernel_rfl
theorem laidOut : laidOutB Try.prog = true := by kernel_rfl
set_option maxRecDepth 100000 in
theorem contract (H : Type) (enc : TypeId × Value → H) (W : World) (base : Nat) (args : Array Value) (ds gs : List (DataW H)) (before : List MemPlace)
    (hval : ∀ (j : Nat) t v, Try.f9.params[j]? = some t → args[j]? = some v → Value.okWide Try.prog W .any base t v)
    (hW : DataW.Whole enc Try.prog Try.f9.params.toList Rows.rdataBackSpec.vars false W args.toList ds gs before) (hk : Rows.uptoSmall H (ds ++ gs) = true) :
    Calls Try.prog 9 args W fun e W' => ∃ v, e = .returned v ∧ Rows.rdataBackSpec.post enc Try.prog Try.f9 false true false false W args v W' := by
  have hW' := hW
  obtain ⟨p, q, hA0, hV, rfl, hfz, hnd⟩ := hW
  have hA : DataW.TrodAll enc Try.prog W 0 (fun _ => true) true Try.f9.params.toList args.toList ds p := hA0
  rw [Try.params9] at hA hval
  obtain ⟨v0, vs0, d0, ds0, p0, q0, hargs, rfl, rfl, h0, r0⟩ := trodAll_cons hA
  obtain ⟨v1, vs1, d1, ds1, p1, q1, rfl, rfl, rfl, h1, r1⟩ := trodAll_cons r0
  obtain ⟨v2, vs2, d2, ds2, p2, q2, rfl, rfl, rfl, h2, r2⟩ := trodAll_cons r1
  obtain ⟨v3, vs3, d3, ds3, p3, q3, rfl, rfl, rfl, h3, r3⟩ := trodAll_cons r2
  obtain ⟨rfl, rfl, rfl⟩ := trodAll_nil r3
  obtain rfl : args = #[v0, v1, v2, v3] := by cases args; simp_all
  obtain ⟨rfl, rfl⟩ := trodVars_none hV
  have k0 := h0
  have lt0 : ∀ x ∈ p0, x.block < W.heap.size := by obtain ⟨m, hm⟩ := k0; exact DataW.trod_lt m _ _ _ hm
  obtain ⟨fuel0, hf0⟩ := h0
  obtain ⟨a0, rfl, _, _, wa0⟩ := open_int Try.underlying3 (hval 0 3 v0 rfl rfl) k0
  obtain ⟨x0, e0, o0, b0⟩ := (opens_int enc Try.prog W 0 (fun _ => true) true Try.underlying3) _ _ _ hf0
  obtain rfl : a0 = x0 := by have e' := List.cons.inj e0; simpa using e'.1
  have k1 := h1
  have lt1 : ∀ x ∈ p1, x.block < W.heap.size := by obtain ⟨m, hm⟩ := k1; exact DataW.trod_lt m _ _ _ hm
  obtain ⟨fuel1, hf1⟩ := h1
  obtain ⟨a1, rfl, _, _, wa1⟩ := open_string Try.underlying9 (hval 1 9 v1 rfl rfl) k1
  obtain ⟨x1, e1, o1, b1⟩ := (opens_string enc Try.prog W 0 (fun _ => true) true Try.underlying9) _ _ _ hf1
  obtain rfl : a1 = x1 := by have e' := List.cons.inj e1; simpa using e'.1
  have k2 := h2
  have lt2 : ∀ x ∈ p2, x.block < W.heap.size := by obtain ⟨m, hm⟩ := k2; exact DataW.trod_lt m _ _ _ hm
  obtain ⟨fuel2, hf2⟩ := h2
  obtain ⟨cs2, rfl, hs2⟩ := okWide_struct Try.underlying59 (hval 2 59 v2 rfl rfl)
  have hf2' : DataW.trod enc Try.prog W 0 (fun _ => true) true fuel2 59 cs2.toList = some (d2, p2) := by simpa [Value.cells] using hf2
  obtain ⟨x2, e2, o2, b2⟩ := opens59 enc W 0 (fun _ => true) true _ _ _ hf2'
  have e2' := e2
  generalize hcs2 : cs2.toList = l2 at e2'
  obtain ⟨z2_0, t2_0, rfl, g2_0, r2_0⟩ := e2'
  obtain rfl := g2_0
  obtain ⟨z2_1, t2_1, rfl, g2_1, r2_1⟩ := r2_0
  obtain rfl := g2_1
  obtain ⟨z2_2, t2_2, rfl, g2_2, r2_2⟩ := r2_1
  obtain rfl := g2_2
  obtain ⟨z2_3, t2_3, rfl, g2_3, r2_3⟩ := r2_2
  obtain rfl := g2_3
  obtain ⟨z2_4, t2_4, rfl, g2_4, r2_4⟩ := r2_3
  obtain rfl := g2_4
  obtain ⟨z2_5, t2_5, rfl, g2_5, r2_5⟩ := r2_4
  obtain rfl := g2_5
  obtain rfl := r2_5
  obtain rfl : cs2 = #[.string x2.f0, .string x2.f1, .int .i64 x2.f2, .int .i64 x2.f3, .int .i64 x2.f4, .int .i64 x2.f5, .int .i64 x2.f6] := by apply Array.ext'; simpa using hcs2
  have k3 := h3
  have lt3 : ∀ x ∈ p3, x.block < W.heap.size := by obtain ⟨m, hm⟩ := k3; exact DataW.trod_lt m _ _ _ hm
  obtain ⟨fuel3, hf3⟩ := h3
  obtain ⟨A3', n3', c3', rfl⟩ := okWide_slice Try.underlying60 (hval 3 60 v3 rfl rfl)
  obtain ⟨A3, x3, c3, e3, hl3, hC3, o3, b3⟩ := open_slice Try.underlying60 (by kernel_rfl) (opens_string enc Try.prog W 0 (fun _ => true) true Try.underlying9) hf3
  obtain ⟨rfl, rfl, rfl⟩ : A3' = A3 ∧ n3' = x3.length ∧ c3' = c3 := by have e' := List.cons.inj e3; simpa using e'.1
  have hbulk : 1 + (a1.size + 1) + bk59 x2 + bks (fun s => s.size + 1) x3 ≤ 1048576 := by
    have hk' : Rows.uptoBulkAll ([d0, d1, d2, d3] : List (DataW H)) ≤ 1048576 := by simpa using (of_decide_eq_true hk : Rows.uptoBulkAll _ ≤ 1048576)
    simp only [Rows.uptoBulkAll] at hk'
    skip
    have b0' : 1 ≤ Rows.uptoBulk d0 := b0; have b1' : (a1.size + 1) ≤ Rows.uptoBulk d1 := b1; have b2' : bk59 x2 ≤ Rows.uptoBulk d2 := b2; have b3' : bks (fun s => s.size + 1) x3 ≤ Rows.uptoBulk d3 := b3
    omega
  obtain ⟨k, h⟩ := Ev.rounds (Pure.rdataBack_ev a0 a1 x2 x3 o0 o1 o2 o3 hbulk)
  clear hA0
  refine (wimplelaw4_RdataBack.calls k a0 a1 x2.f0 x2.f1 x2.f2 x2.f3 x2.f4 x2.f5 x2.f6 A3' c3' x3 true W hC3 hl3 h).mono fun e W' ⟨he, hd⟩ => ?_
  have bel : Below W.heap.size W W' := hd
  subst he
  exact ⟨_, rfl, _, _, _, [], _, [], hW', trodAll_mk1 (shut_bool Try.underlying4 _), (trodAll_cons_mk (Below.trod laidOut (by kernel_rfl) (of_decide_eq_true (by kernel_rfl)) k0 bel lt0) (trodAll_cons_mk (Below.trod laidOut (by kernel_rfl) (of_decide_eq_true (by kernel_rfl)) k1 bel lt1) (trodAll_cons_mk (Below.trod laidOut (by kernel_rfl) (of_decide_eq_true (by kernel_rfl)) k2 bel lt2) (trodAll_cons_mk (Below.trod laidOut (by kernel_rfl) (of_decide_eq_true (by kernel_rfl)) k3 bel lt3) trodAll_mk0)))), rfl, bel.frame _, fun h => by cases h⟩
set_option maxRecDepth 100000 in
theorem lifted (os : Os) (started : os.Started) (H : Type) (enc : TypeId × Value → H) (F : Stop.Interp) :
    ReturnsInHanded {} Try.checked os 9 .any ((Rows.OpenSpec.upto Rows.rdataBackSpec).pre6 enc Try.prog Try.f9 Rows.rdataBackUptoRow.domain false) (((Rows.OpenSpec.upto Rows.rdataBackSpec).at F).post enc Try.prog Try.f9 false true false false) := by
  refine returnsInHanded_of_cond (C := Try.checked) (s := Rows.OpenSpec.upto Rows.rdataBackSpec) (k := Rows.uptoSmall) rfl own started (by kernel_rfl) Try.func9
    (OpenSpec.witness (enc := enc) (C := Try.checked) (s := Rows.OpenSpec.upto Rows.rdataBackSpec) (k := Rows.uptoSmall) rfl false ⟨#[], #[.int .i64 0, .string ByteArray.empty, .agg #[.string ByteArray.empty, .string ByteArray.empty, .int .i64 0, .int .i64 0, .int .i64 0, .int .i64 0, .int .i64 0], .slice none 0 0], []⟩ 8 (by kernel_rfl) (by kernel_rfl) (by kernel_rfl)
      (x := ([.lit (.int .i64 0), .lit (.string []), .agg [.lit (.string []), .lit (.string []), .lit (.int .i64 0), .lit (.int .i64 0), .lit (.int .i64 0), .lit (.int .i64 0), .lit (.int .i64 0)], .nil], [], [])) (by kernel_rfl) rfl (by kernel_rfl)) ?_
  intro W base args ds gs before hval hW _ hk _
  exact contract H enc W base args ds gs before hval hW hk
theorem proved : Rows.RdataBackUptoSaid :=
  OpenClaim.holds_of_cond 9 Try.f9 rfl rfl rfl rfl rfl rfl rfl ⟨rfl, rfl, rfl, rfl, rfl⟩ rfl rfl rfl rfl rfl (by kernel_rfl) Try.func9 (by kernel_rfl)
    (of_decide_eq_true (by kernel_rfl)) (by unfold Func.isWrapper; first | (rw [if_pos (by decide +kernel)]; kernel_rfl) | (rw [if_neg (by decide +kernel)]; exact ⟨rfl, rfl⟩))
    (fun os started H enc _ F => lifted os started H enc F)
end Go.Proofs.Ytndcjleadggibaa.rdataBack
namespace Go.Proofs.Ytndcjleadggibaa
theorem rdataBack_holds : Rows.RdataBackUptoSaid := rdataBack.proved
end Go.Proofs.Ytndcjleadggibaa
