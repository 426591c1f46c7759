/- Headers that head.Put writes are read back by head.Get, and any twelve bytes are one header's: for all headers, counts and strings; no condition. -/
import Derived.Test.YtccnckppkkhoeaaRows
import Derived.Test.YtccnckppkkhoeaaHeadBack
import Derived.WalkKit
import Derived.ProofKit
import Derived.OpenShut
import Derived.ShutString
import Derived.ChangeOld
import Derived.Below
import Derived.SizedLaws
import Derived.Test.YtccnckppkkhoeaaOpen
import Derived.Carry
namespace Go.Proofs.Ytccnckppkkhoeaa.headBack
open Go.ChangeShapes Go.WideShapes Go.ChangeAt Go.RowKit
open Go.ChangeMaps (open_string shut_string)
set_option linter.unusedVariables false
open Go.Proofs.Ytccnckppkkhoeaa.Open
theorem laidOut : laidOutB Try.prog = true := by kernel_rfl
theorem own : ownKnob Try.prog.godebug = none := by kernel_rfl
set_option maxRecDepth 100000 in
theorem lifted (os : Os) (started : os.Started) (H : Type) (enc : TypeId × Value → H) :
    ReturnsInHanded {} Try.checked os 8 .any (Rows.headBackSpec.pre6 enc Try.prog Try.f8 Rows.headBackRow.domain false) (Rows.headBackSpec.post enc Try.prog Try.f8 false true false false) := by
  refine returnsInHanded_of_change_sized (C := Try.checked) own started (by kernel_rfl) Try.func8
    (ChangeSpec.witness6 (enc := enc) (C := Try.checked) false ⟨#[], #[.agg #[.int .i64 0, .bool false, .int .i64 0, .bool false, .bool false, .bool false, .bool false, .int .i64 0, .int .i64 0], .int .i64 0, .int .i64 0, .string ByteArray.empty], []⟩ 8 (by kernel_rfl) (by kernel_rfl) (by kernel_rfl) (by kernel_rfl)) ?_
  intro W base args ds gs before hval0 hW hcnd hsz0 _
  have hsz : (DataW.weightsEach Try.prog (Try.f8.params.toList ++ Rows.headBackSpec.plain.varTypes Try.prog) (ds ++ gs)).all (· ≤ reachBytes) = true := hsz0
  have hval : ∀ (j : Nat) t v, Try.f8.params[j]? = some t → args[j]? = some v → Value.okWide Try.prog W .any base t v := hval0
  have hW' := hW
  obtain ⟨p, q, hA0, hV, rfl, hfz, hnd⟩ := hW
  have hA : DataW.TrodAll enc Try.prog W 0 (fun _ => true) true Try.f8.params.toList args.toList ds p := hA0
  rw [Try.params8] at hA hval hsz
  obtain ⟨v0, vs0, d0, ds0, p0, q0, hargs, rfl, rfl, h0, r0⟩ := trodAll_cons hA
  obtain ⟨v1, vs1, d1, ds1, p1, q1, rfl, rfl, rfl, h1, r1⟩ := trodAll_cons r0
  obtain ⟨v2, vs2, d2, ds2, p2, q2, rfl, rfl, rfl, h2, r2⟩ := trodAll_cons r1
  obtain ⟨v3, vs3, d3, ds3, p3, q3, rfl, rfl, rfl, h3, r3⟩ := trodAll_cons r2
  obtain ⟨rfl, rfl, rfl⟩ := trodAll_nil r3
  obtain rfl : args = #[v0, v1, v2, v3] := by cases args; simp_all
  obtain ⟨rfl, rfl⟩ := trodVars_none hV
  have k0 := h0
  have lt0 : ∀ x ∈ p0, x.block < W.heap.size := by obtain ⟨m, hm⟩ := k0; exact DataW.trod_lt m _ _ _ hm
  obtain ⟨l0, n0, rfl, hl0, hf0⟩ := open_fields Try.underlying36 (hval 0 36 v0 rfl rfl) h0
  have hl0' : l0.length = 9 := hl0.trans (by kernel_rfl)
  obtain ⟨c0, c1, c2, c3, c4, c5, c6, c7, c8, rfl⟩ := list9 hl0'
  obtain ⟨y0_0, e0_0⟩ := hf0 0 _ rfl
  obtain ⟨x0, rfl, _⟩ := field_int Try.underlying3 (c := c0) e0_0
  obtain ⟨y0_1, e0_1⟩ := hf0 1 _ rfl
  obtain ⟨x1, rfl⟩ := field_bool Try.underlying4 (c := c1) e0_1
  obtain ⟨y0_2, e0_2⟩ := hf0 2 _ rfl
  obtain ⟨x2, rfl, _⟩ := field_int Try.underlying3 (c := c2) e0_2
  obtain ⟨y0_3, e0_3⟩ := hf0 3 _ rfl
  obtain ⟨x3, rfl⟩ := field_bool Try.underlying4 (c := c3) e0_3
  obtain ⟨y0_4, e0_4⟩ := hf0 4 _ rfl
  obtain ⟨x4, rfl⟩ := field_bool Try.underlying4 (c := c4) e0_4
  obtain ⟨y0_5, e0_5⟩ := hf0 5 _ rfl
  obtain ⟨x5, rfl⟩ := field_bool Try.underlying4 (c := c5) e0_5
  obtain ⟨y0_6, e0_6⟩ := hf0 6 _ rfl
  obtain ⟨x6, rfl⟩ := field_bool Try.underlying4 (c := c6) e0_6
  obtain ⟨y0_7, e0_7⟩ := hf0 7 _ rfl
  obtain ⟨x7, rfl, _⟩ := field_int Try.underlying3 (c := c7) e0_7
  obtain ⟨y0_8, e0_8⟩ := hf0 8 _ rfl
  obtain ⟨x8, rfl, _⟩ := field_int Try.underlying3 (c := c8) e0_8
  obtain ⟨a1, rfl, rfl, rfl, w1⟩ := open_int Try.underlying3 (hval 1 3 v1 rfl rfl) h1
  obtain ⟨a2, rfl, rfl, rfl, w2⟩ := open_int Try.underlying3 (hval 2 3 v2 rfl rfl) h2
  obtain ⟨a3, rfl, rfl, rfl, y3⟩ := open_string Try.underlying9 (hval 3 9 v3 rfl rfl) h3
  have w3 : a3.size ≤ 140737488351232 := by
    have z := sized_string hsz (j := 3) (t := 9) rfl rfl
    rw [Array.length_toList] at z
    exact z
  clear hA0 hval0 hsz0 hsz
  refine (Hd.back_walk ⟨x0, x1, x2, x3, x4, x5, x6, x7, x8⟩ a1 a2 a3 W w1 w2 w3).mono fun e W' ⟨he, bel⟩ => ?_
  subst he
  exact ⟨_, rfl, _, _, _, [], _, [], hW', trodAll_mk1 (shut_bool Try.underlying4 _), (trodAll_cons_mk (Below.trod laidOut (by kernel_rfl) (of_decide_eq_true (by kernel_rfl)) k0 bel lt0) (trodAll_cons_mk (shut_int Try.underlying3 w1) (trodAll_cons_mk (shut_int Try.underlying3 w2) (trodAll_cons_mk (shut_string Try.underlying9 y3) trodAll_mk0)))), rfl, bel.frame _, fun h => by cases h⟩
theorem over : Rows.headBackRow.holds Try.pinned (OpenSpec.ofChange Rows.headBackSpec) :=
  OpenClaim.holds_of_wide 8 Try.f8 rfl rfl rfl rfl rfl rfl rfl ⟨rfl, rfl, rfl, rfl, rfl⟩ rfl rfl rfl rfl rfl (by kernel_rfl) Try.func8 (by kernel_rfl)
    (of_decide_eq_true (by kernel_rfl)) (by unfold Func.isWrapper; first | (rw [if_pos (by decide +kernel)]; kernel_rfl) | (rw [if_neg (by decide +kernel)]; exact ⟨rfl, rfl⟩))
    (fun os started H enc _ => lifted os started H enc)
end Go.Proofs.Ytccnckppkkhoeaa.headBack
namespace Go.Proofs.Ytccnckppkkhoeaa
theorem headBack_holds : Rows.HeadBackSaid := headBack.over
end Go.Proofs.Ytccnckppkkhoeaa
