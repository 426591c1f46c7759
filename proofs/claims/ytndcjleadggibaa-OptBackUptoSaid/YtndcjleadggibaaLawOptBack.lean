/- The row of the law OptBack, where what it reads is of bulk at most 1048576, out of its pure statement and the printed walk. -/
import Derived.Test.YtndcjleadggibaaRows
import Derived.Test.YtndcjleadggibaaPOptx7
import Derived.Test.YtndcjleadggibaaOkOpt
import Derived.Test.YtndcjleadggibaaEvOptBack
import Derived.WalkKit
import Derived.ProofKit
import Derived.OpenShut
import Derived.ShutString
import Derived.ChangeOld
import Derived.Below
import Derived.JoinedCond
import Derived.Carry
namespace Go.Proofs.Ytndcjleadggibaa.optBack
open Go.ChangeShapes Go.WideShapes Go.ChangeAt Go.RowKit Go.Proofs.YtndcjleadggibaaW.PrintWords Go.Proofs.Ytndcjleadggibaa.POpt Go.Proofs.Ytndcjleadggibaa.OpenKd Go.Proofs.Ytndcjleadggibaa.OkOpt
open Go.ChangeMaps (open_string shut_string)
set_option linter.unusedVariables false
theorem own : ownKnob Try.prog.godebug = none := by kernel_rfl
theorem laidOut : laidOutB Try.prog = true := by kernel_rfl
set_option maxRecDepth 100000 in
theorem contract (H : Type) (enc : TypeId × Value → H) (W : World) (base : Nat) (args : Array Value) (ds gs : List (DataW H)) (before : List MemPlace)
    (hval : ∀ (j : Nat) t v, Try.f4.params[j]? = some t → args[j]? = some v → Value.okWide Try.prog W .any base t v)
    (hW : DataW.Whole enc Try.prog Try.f4.params.toList Rows.optBackSpec.vars false W args.toList ds gs before) (hk : Rows.uptoSmall H (ds ++ gs) = true) :
    Calls Try.prog 4 args W fun e W' => ∃ v, e = .returned v ∧ Rows.optBackSpec.post enc Try.prog Try.f4 false true false false W args v W' := by
  have hW' := hW
  obtain ⟨p, q, hA0, hV, rfl, hfz, hnd⟩ := hW
  have hA : DataW.TrodAll enc Try.prog W 0 (fun _ => true) true Try.f4.params.toList args.toList ds p := hA0
  rw [Try.params4] at hA hval
  obtain ⟨v0, vs0, d0, ds0, p0, q0, hargs, rfl, rfl, h0, r0⟩ := trodAll_cons hA
  obtain ⟨v1, vs1, d1, ds1, p1, q1, rfl, rfl, rfl, h1, r1⟩ := trodAll_cons r0
  obtain ⟨rfl, rfl, rfl⟩ := trodAll_nil r1
  obtain rfl : args = #[v0, v1] := by cases args; simp_all
  obtain ⟨rfl, rfl⟩ := trodVars_none hV
  have k0 := h0
  have lt0 : ∀ x ∈ p0, x.block < W.heap.size := by obtain ⟨m, hm⟩ := k0; exact DataW.trod_lt m _ _ _ hm
  obtain ⟨fuel0, hf0⟩ := h0
  obtain ⟨cs0, rfl, hs0⟩ := okWide_struct Try.underlying24 (hval 0 24 v0 rfl rfl)
  have hf0' : DataW.trod enc Try.prog W 0 (fun _ => true) true fuel0 24 cs0.toList = some (d0, p0) := by simpa [Value.cells] using hf0
  obtain ⟨x0, e0, o0, b0⟩ := opens24 enc W 0 (fun _ => true) true _ _ _ hf0'
  have e0' := e0
  generalize hcs0 : cs0.toList = l0 at e0'
  obtain ⟨z0_0, t0_0, rfl, g0_0, r0_0⟩ := e0'
  obtain rfl := g0_0
  obtain ⟨z0_1, t0_1, rfl, g0_1, r0_1⟩ := r0_0
  obtain rfl := g0_1
  obtain ⟨z0_2, t0_2, rfl, g0_2, r0_2⟩ := r0_1
  obtain rfl := g0_2
  obtain ⟨z0_3, t0_3, rfl, g0_3, r0_3⟩ := r0_2
  obtain rfl := g0_3
  obtain ⟨z0_4, t0_4, rfl, g0_4, r0_4⟩ := r0_3
  obtain rfl := g0_4
  obtain ⟨A0_5, c0_5, rfl, hl0_5, hC0_5⟩ := r0_4
  obtain rfl : cs0 = #[.int .i64 x0.f0, .int .i64 x0.f1, .int .i64 x0.f2, .bool x0.f3, .int .i64 x0.f4, .slice A0_5 x0.f5.length c0_5] := by apply Array.ext'; simpa using hcs0
  have k1 := h1
  have lt1 : ∀ x ∈ p1, x.block < W.heap.size := by obtain ⟨m, hm⟩ := k1; exact DataW.trod_lt m _ _ _ hm
  obtain ⟨fuel1, hf1⟩ := h1
  obtain ⟨cs1, rfl, hs1⟩ := okWide_struct Try.underlying26 (hval 1 26 v1 rfl rfl)
  have hf1' : DataW.trod enc Try.prog W 0 (fun _ => true) true fuel1 26 cs1.toList = some (d1, p1) := by simpa [Value.cells] using hf1
  obtain ⟨x1, e1, o1, b1⟩ := opens26 enc W 0 (fun _ => true) true _ _ _ hf1'
  have e1' := e1
  generalize hcs1 : cs1.toList = l1 at e1'
  obtain ⟨z1_0, t1_0, rfl, g1_0, r1_0⟩ := e1'
  obtain rfl := g1_0
  obtain ⟨z1_1, t1_1, rfl, g1_1, r1_1⟩ := r1_0
  obtain rfl := g1_1
  obtain ⟨z1_2, t1_2, rfl, g1_2, r1_2⟩ := r1_1
  obtain rfl := g1_2
  obtain ⟨z1_3, t1_3, rfl, g1_3, r1_3⟩ := r1_2
  obtain rfl := g1_3
  obtain rfl := r1_3
  obtain rfl : cs1 = #[.string x1.f0, .int .i64 x1.f1, .int .i64 x1.f2, .int .i64 x1.f3, .string x1.f4] := by apply Array.ext'; simpa using hcs1
  have hbulk : bk24 x0 + bk26 x1 ≤ 1048576 := by
    have hk' : Rows.uptoBulkAll ([d0, d1] : List (DataW H)) ≤ 1048576 := by simpa using (of_decide_eq_true hk : Rows.uptoBulkAll _ ≤ 1048576)
    simp only [Rows.uptoBulkAll] at hk'
    skip
    have b0' : bk24 x0 ≤ Rows.uptoBulk d0 := b0; have b1' : bk26 x1 ≤ Rows.uptoBulk d1 := b1
    omega
  obtain ⟨k, h⟩ := Ev.rounds (Pure.optBack_ev x0 x1 o0 o1 hbulk)
  clear hA0
  refine (wimplelaw8_OptBack.calls k x0.f0 x0.f1 x0.f2 x0.f3 x0.f4 A0_5 c0_5 x0.f5 x1.f0 x1.f1 x1.f2 x1.f3 x1.f4 true W hC0_5 hl0_5 h).mono fun e W' ⟨he, hd⟩ => ?_
  have bel : Below W.heap.size W W' := hd
  subst he
  exact ⟨_, rfl, _, _, _, [], _, [], hW', trodAll_mk1 (shut_bool Try.underlying4 _), (trodAll_cons_mk (Below.trod laidOut (by kernel_rfl) (of_decide_eq_true (by kernel_rfl)) k0 bel lt0) (trodAll_cons_mk (Below.trod laidOut (by kernel_rfl) (of_decide_eq_true (by kernel_rfl)) k1 bel lt1) trodAll_mk0)), rfl, bel.frame _, fun h => by cases h⟩
set_option maxRecDepth 100000 in
theorem lifted (os : Os) (started : os.Started) (H : Type) (enc : TypeId × Value → H) (F : Stop.Interp) :
    ReturnsInHanded {} Try.checked os 4 .any ((Rows.OpenSpec.upto Rows.optBackSpec).pre6 enc Try.prog Try.f4 Rows.optBackUptoRow.domain false) (((Rows.OpenSpec.upto Rows.optBackSpec).at F).post enc Try.prog Try.f4 false true false false) := by
  refine returnsInHanded_of_cond (C := Try.checked) (s := Rows.OpenSpec.upto Rows.optBackSpec) (k := Rows.uptoSmall) rfl own started (by kernel_rfl) Try.func4
    (OpenSpec.witness (enc := enc) (C := Try.checked) (s := Rows.OpenSpec.upto Rows.optBackSpec) (k := Rows.uptoSmall) rfl false ⟨#[], #[.agg #[.int .i64 0, .int .i64 0, .int .i64 0, .bool false, .int .i64 0, .slice none 0 0], .agg #[.string ByteArray.empty, .int .i64 0, .int .i64 0, .int .i64 0, .string ByteArray.empty]], []⟩ 8 (by kernel_rfl) (by kernel_rfl) (by kernel_rfl)
      (x := ([.agg [.lit (.int .i64 0), .lit (.int .i64 0), .lit (.int .i64 0), .lit (.bool false), .lit (.int .i64 0), .nil], .agg [.lit (.string []), .lit (.int .i64 0), .lit (.int .i64 0), .lit (.int .i64 0), .lit (.string [])]], [], [])) (by kernel_rfl) rfl (by kernel_rfl)) ?_
  intro W base args ds gs before hval hW _ hk _
  exact contract H enc W base args ds gs before hval hW hk
theorem proved : Rows.OptBackUptoSaid :=
  OpenClaim.holds_of_cond 4 Try.f4 rfl rfl rfl rfl rfl rfl rfl ⟨rfl, rfl, rfl, rfl, rfl⟩ rfl rfl rfl rfl rfl (by kernel_rfl) Try.func4 (by kernel_rfl)
    (of_decide_eq_true (by kernel_rfl)) (by unfold Func.isWrapper; first | (rw [if_pos (by decide +kernel)]; kernel_rfl) | (rw [if_neg (by decide +kernel)]; exact ⟨rfl, rfl⟩))
    (fun os started H enc _ F => lifted os started H enc F)
end Go.Proofs.Ytndcjleadggibaa.optBack
namespace Go.Proofs.Ytndcjleadggibaa
theorem optBack_holds : Rows.OptBackUptoSaid := optBack.proved
end Go.Proofs.Ytndcjleadggibaa
