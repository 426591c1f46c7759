/- The row of the law PadQueries, where what it reads weighs no more than the reach, out of its pure statement and the printed walk. -/
import Derived.Test.YtjklgdpffmaamaaRows
import Derived.WalkKit
import Derived.ProofKit
import Derived.OpenShut
import Derived.ShutString
import Derived.ChangeOld
import Derived.Below
import Derived.SizedLaws
import Derived.Carry
import Derived.Test.YtjklgdpffmaamaaSq1
import Derived.Test.YtjklgdpffmaamaaSq2
import Derived.Test.YtjklgdpffmaamaaSq3
import Derived.Test.YtjklgdpffmaamaaSq4
import Derived.Test.YtjklgdpffmaamaaSq5
import Derived.Test.YtjklgdpffmaamaaSq6
namespace Go.Proofs.Ytjklgdpffmaamaa.padQueries
open Go.ChangeShapes Go.WideShapes Go.ChangeAt Go.RowKit Go.Proofs.YtjklgdpffmaamaaW.PrintWords Go.Proofs.Ytjklgdpffmaamaa.PGo Go.Proofs.Ytjklgdpffmaamaa.OpenZd Go.Proofs.Ytjklgdpffmaamaa.OkzGo
open Go.ChangeMaps (open_string shut_string)
set_option linter.unusedVariables false
theorem own : ownKnob Try.prog.godebug = none := by kernel_rfl
theorem laidOut : laidOutB Try.prog = true := by kernel_rfl
set_option maxRecDepth 100000 in
theorem contract (H : Type) (enc : TypeId × Value → H) (W : World) (base : Nat) (args : Array Value) (ds gs : List (DataW H)) (before : List MemPlace)
    (hval : ∀ (j : Nat) t v, Try.f5.params[j]? = some t → args[j]? = some v → Value.okWide Try.prog W .any base t v)
    (hW : DataW.Whole enc Try.prog Try.f5.params.toList Rows.padQueriesSpec.vars false W args.toList ds gs before) (hsz : (DataW.weightsEach Try.prog (Try.f5.params.toList ++ Rows.padQueriesSpec.plain.varTypes Try.prog) (ds ++ gs)).all (· ≤ reachBytes) = true) :
    Calls Try.prog 5 args W fun e W' => ∃ v, e = .returned v ∧ Rows.padQueriesSpec.post enc Try.prog Try.f5 false true false false W args v W' := by
  have hW' := hW
  obtain ⟨p, q, hA0, hV, rfl, hfz, hnd⟩ := hW
  have hA : DataW.TrodAll enc Try.prog W 0 (fun _ => true) true Try.f5.params.toList args.toList ds p := hA0
  rw [Try.params5] at hA hval hsz
  obtain ⟨v0, vs0, d0, ds0, p0, q0, hargs, rfl, rfl, h0, r0⟩ := trodAll_cons hA
  obtain ⟨v1, vs1, d1, ds1, p1, q1, rfl, rfl, rfl, h1, r1⟩ := trodAll_cons r0
  obtain ⟨v2, vs2, d2, ds2, p2, q2, rfl, rfl, rfl, h2, r2⟩ := trodAll_cons r1
  obtain ⟨rfl, rfl, rfl⟩ := trodAll_nil r2
  obtain rfl : args = #[v0, v1, v2] := by cases args; simp_all
  obtain ⟨rfl, rfl⟩ := trodVars_none hV
  have k0 := h0
  have lt0 : ∀ x ∈ p0, x.block < W.heap.size := by obtain ⟨m, hm⟩ := k0; exact DataW.trod_lt m _ _ _ hm
  obtain ⟨fuel0, hf0⟩ := h0
  have light0 : Light Try.prog 3 d0 := light_each Try.prog hsz (j := 0) rfl rfl
  obtain ⟨a0, rfl, _, _, wa0⟩ := open_int Try.underlying3 (hval 0 3 v0 rfl rfl) k0
  obtain ⟨x0, e0, o0⟩ := (opens_int enc Try.prog W 0 (fun _ => true) true Try.underlying3) _ _ _ hf0 light0
  obtain rfl : a0 = x0 := by have e' := List.cons.inj e0; simpa using e'.1
  have k1 := h1
  have lt1 : ∀ x ∈ p1, x.block < W.heap.size := by obtain ⟨m, hm⟩ := k1; exact DataW.trod_lt m _ _ _ hm
  obtain ⟨fuel1, hf1⟩ := h1
  have light1 : Light Try.prog 43 d1 := light_each Try.prog hsz (j := 1) rfl rfl
  obtain ⟨cs1, rfl, hs1⟩ := okWide_struct Try.underlying43 (hval 1 43 v1 rfl rfl)
  have hf1' : DataW.trod enc Try.prog W 0 (fun _ => true) true fuel1 43 cs1.toList = some (d1, p1) := by simpa [Value.cells] using hf1
  obtain ⟨x1, e1, o1⟩ := opens43 enc W 0 (fun _ => true) true _ _ _ hf1' light1
  have e1' := e1
  generalize hcs1 : cs1.toList = l1 at e1'
  obtain ⟨z1_0, t1_0, rfl, g1_0, r1_0⟩ := e1'
  obtain rfl := g1_0
  obtain rfl := r1_0
  obtain rfl : cs1 = #[.string x1.f0, .int .i64 x1.f1] := by apply Array.ext'; simpa using hcs1
  have k2 := h2
  have lt2 : ∀ x ∈ p2, x.block < W.heap.size := by obtain ⟨m, hm⟩ := k2; exact DataW.trod_lt m _ _ _ hm
  obtain ⟨fuel2, hf2⟩ := h2
  have light2 : Light Try.prog 43 d2 := light_each Try.prog hsz (j := 2) rfl rfl
  obtain ⟨cs2, rfl, hs2⟩ := okWide_struct Try.underlying43 (hval 2 43 v2 rfl rfl)
  have hf2' : DataW.trod enc Try.prog W 0 (fun _ => true) true fuel2 43 cs2.toList = some (d2, p2) := by simpa [Value.cells] using hf2
  obtain ⟨x2, e2, o2⟩ := opens43 enc W 0 (fun _ => true) true _ _ _ hf2' light2
  have e2' := e2
  generalize hcs2 : cs2.toList = l2 at e2'
  obtain ⟨z2_0, t2_0, rfl, g2_0, r2_0⟩ := e2'
  obtain rfl := g2_0
  obtain rfl := r2_0
  obtain rfl : cs2 = #[.string x2.f0, .int .i64 x2.f1] := by apply Array.ext'; simpa using hcs2
  clear hA0
  refine (PadQ.hcalls a0 x1 x2 W   o0 o1 o2).mono fun e W' ⟨he, hd⟩ => ?_
  have bel : Below W.heap.size W W' := hd
  subst he
  exact ⟨_, rfl, _, _, _, [], _, [], hW', trodAll_mk1 (shut_bool Try.underlying4 _), (trodAll_cons_mk (Below.trod laidOut (by kernel_rfl) (of_decide_eq_true (by kernel_rfl)) k0 bel lt0) (trodAll_cons_mk (Below.trod laidOut (by kernel_rfl) (of_decide_eq_true (by kernel_rfl)) k1 bel lt1) (trodAll_cons_mk (Below.trod laidOut (by kernel_rfl) (of_decide_eq_true (by kernel_rfl)) k2 bel lt2) trodAll_mk0))), rfl, bel.frame _, fun h => by cases h⟩
set_option maxRecDepth 100000 in
theorem lifted (os : Os) (started : os.Started) (H : Type) (enc : TypeId × Value → H) :
    ReturnsInHanded {} Try.checked os 5 .any (Rows.padQueriesSpec.pre6 enc Try.prog Try.f5 Rows.padQueriesRow.domain false) (Rows.padQueriesSpec.post enc Try.prog Try.f5 false true false false) := by
  refine returnsInHanded_of_change_sized (C := Try.checked) own started (by kernel_rfl) Try.func5
    (ChangeSpec.witness6 (enc := enc) (C := Try.checked) false ⟨#[], #[.int .i64 0, .agg #[.string ByteArray.empty, .int .i64 0], .agg #[.string ByteArray.empty, .int .i64 0]], []⟩ 8 (by kernel_rfl) (by kernel_rfl) (by kernel_rfl) (by kernel_rfl)) ?_
  intro W base args ds gs before hval hW _ hsz _
  exact contract H enc W base args ds gs before hval hW hsz
theorem over : Rows.padQueriesRow.holds Try.pinned (OpenSpec.ofChange Rows.padQueriesSpec) :=
  OpenClaim.holds_of_wide 5 Try.f5 rfl rfl rfl rfl rfl rfl rfl ⟨rfl, rfl, rfl, rfl, rfl⟩ rfl rfl rfl rfl rfl (by kernel_rfl) Try.func5 (by kernel_rfl)
    (of_decide_eq_true (by kernel_rfl)) (by unfold Func.isWrapper; first | (rw [if_pos (by decide +kernel)]; kernel_rfl) | (rw [if_neg (by decide +kernel)]; exact ⟨rfl, rfl⟩))
    (fun os started H enc _ => lifted os started H enc)
end Go.Proofs.Ytjklgdpffmaamaa.padQueries
namespace Go.Proofs.Ytjklgdpffmaamaa
theorem padQueries_holds : Rows.PadQueriesSaid := padQueries.over
end Go.Proofs.Ytjklgdpffmaamaa
