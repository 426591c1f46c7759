-- Written by a program of this session out of the translation (the kit's print, changed: ppatch.py); not the kit's own print.
import Derived.Test.YtndcjleadggibaaPRdax0
import Derived.Test.YtndcjleadggibaaPRdax2
import Derived.Test.YtndcjleadggibaaPRdax3
namespace Go.Proofs.Ytndcjleadggibaa.PRda
open Go.RowKit Go.Proofs.YtndcjleadggibaaW.PrintWords Go.Proofs.YtndcjleadggibaaW.PrintLast Go.Proofs.YtndcjleadggibaaW.PrintMore
attribute [local go_sem] max2_int min2_int max_two min_two max_three min_three max_four min_four   -- for this text's walks alone
set_option linter.unusedVariables false
set_option linter.unusedSimpArgs false

/-! ### wimplelaw4_RdataNumbers: function 12 -/
def wimplelaw4_RdataNumbers.j0 : Nat → Int → ByteArray → Int → Int → ByteArray → ByteArray → Int → Int → Int → Int → Int → Option (Bool)
  | 0, _, _, _, _, _, _, _, _, _, _, _ => none
  | k + 1, x1, x6, x7, x8, x273000, x273001, x273002, x273003, x273004, x273005, x273006 => (rdata_Soa.f x273000 x273001 x273002 x273003 x273004 x273005 x273006).bind fun bt279 => ((rdata_A.f x8).bind fun bt281 => ((rdata_Mx.f (wrap64 (65536 + (Go.bits .and .i64 x1 1023))) (⟨#[0]⟩ : ByteArray)).bind fun bt283 => ((rdata_Host.f 16 (⟨#[0]⟩ : ByteArray)).bind fun bt285 => ((wimplelaw0_Num.f x7).bind fun t287 => (if t287 = 0 then (if (x6.size : Int) = 24 then (if bt279.1.toList = ([] : List UInt8) then ((wimplelaw0_Num.f bt279.2).bind fun t288 => (if t288 = 400 then ((wimplelaw0_Num.f bt281.2).bind fun t289 => (if t289 = 400 then ((wimplelaw0_Num.f bt283.2).bind fun t290 => (if t290 = 400 then ((wimplelaw0_Num.f bt285.2).bind fun t291 => (some (t291 == 400))) else (none))) else (none))) else (none))) else (none)) else (none)) else (none))))))
def wimplelaw4_RdataNumbers.f (k : Nat) (a0 : Int) (a1 : Int) : Option (Bool) := (wimplelaw4_awake.f k).bind fun t271 => (if t271 = true then ((rdata_Soa.f (⟨#[0]⟩ : ByteArray) (⟨#[1, 97, 0]⟩ : ByteArray) 1 2 3 4 5).bind fun bt273 => ((some (([wrap64 ((-1) - (Go.bits .and .i64 a1 1023)), wrap64 (4294967296 + (Go.bits .and .i64 a1 1023))] : List Int) : List Int)).bind fun y275 => (if 0 ≤ (Go.bits .and .i64 (a1 / 1024) 1) then (if (Go.bits .and .i64 (a1 / 1024) 1) < (y275.length : Int) then (if (Int.tmod (IntKind.u64.wrap (a0)) 7) = 0 then (wimplelaw4_RdataNumbers.j0 k a1 bt273.1 bt273.2 (rd y275 (Go.bits .and .i64 (a1 / 1024) 1)) (⟨#[0]⟩ : ByteArray) (⟨#[1, 97, 0]⟩ : ByteArray) (rd y275 (Go.bits .and .i64 (a1 / 1024) 1)) 2 3 4 5) else (if (Int.tmod (IntKind.u64.wrap (a0)) 7) = 1 then (wimplelaw4_RdataNumbers.j0 k a1 bt273.1 bt273.2 (rd y275 (Go.bits .and .i64 (a1 / 1024) 1)) (⟨#[0]⟩ : ByteArray) (⟨#[1, 97, 0]⟩ : ByteArray) 1 (rd y275 (Go.bits .and .i64 (a1 / 1024) 1)) 3 4 5) else (if (Int.tmod (IntKind.u64.wrap (a0)) 7) = 2 then (wimplelaw4_RdataNumbers.j0 k a1 bt273.1 bt273.2 (rd y275 (Go.bits .and .i64 (a1 / 1024) 1)) (⟨#[0]⟩ : ByteArray) (⟨#[1, 97, 0]⟩ : ByteArray) 1 2 (rd y275 (Go.bits .and .i64 (a1 / 1024) 1)) 4 5) else (if (Int.tmod (IntKind.u64.wrap (a0)) 7) = 3 then (wimplelaw4_RdataNumbers.j0 k a1 bt273.1 bt273.2 (rd y275 (Go.bits .and .i64 (a1 / 1024) 1)) (⟨#[0]⟩ : ByteArray) (⟨#[1, 97, 0]⟩ : ByteArray) 1 2 3 (rd y275 (Go.bits .and .i64 (a1 / 1024) 1)) 5) else (if (Int.tmod (IntKind.u64.wrap (a0)) 7) = 4 then (wimplelaw4_RdataNumbers.j0 k a1 bt273.1 bt273.2 (rd y275 (Go.bits .and .i64 (a1 / 1024) 1)) (⟨#[0]⟩ : ByteArray) (⟨#[1, 97, 0]⟩ : ByteArray) 1 2 3 4 (rd y275 (Go.bits .and .i64 (a1 / 1024) 1))) else (if (Int.tmod (IntKind.u64.wrap (a0)) 7) = 5 then (wimplelaw4_RdataNumbers.j0 k a1 bt273.1 bt273.2 (rd y275 (Go.bits .and .i64 (a1 / 1024) 1)) (⟨#[97]⟩ : ByteArray) (⟨#[1, 97, 0]⟩ : ByteArray) 1 2 3 4 5) else (wimplelaw4_RdataNumbers.j0 k a1 bt273.1 bt273.2 (rd y275 (Go.bits .and .i64 (a1 / 1024) 1)) (⟨#[0]⟩ : ByteArray) (⟨#[]⟩ : ByteArray) 1 2 3 4 5))))))) else (none)) else (none)))) else (none))
theorem wimplelaw4_RdataNumbers.mono_l : ∀ k, (∀ y0 y1 y2 y3 y4 y5 y6 y7 y8 y9 y10, LeO (wimplelaw4_RdataNumbers.j0 k y0 y1 y2 y3 y4 y5 y6 y7 y8 y9 y10) (wimplelaw4_RdataNumbers.j0 (k + 1) y0 y1 y2 y3 y4 y5 y6 y7 y8 y9 y10))
  | 0 => fun _ _ _ _ _ _ _ _ _ _ _ r h => by simp [wimplelaw4_RdataNumbers.j0] at h
  | k + 1 => by
    have ih0 := wimplelaw4_RdataNumbers.mono_l k
    · intro y0 y1 y2 y3 y4 y5 y6 y7 y8 y9 y10
      unfold wimplelaw4_RdataNumbers.j0
      repeat' first
      | (with_reducible exact ih0 _ _ _ _ _ _ _ _ _ _ _)
      | (with_reducible exact wimplelaw4_awake.mono _)
      | (with_reducible exact LeO.refl _)
      | (with_reducible exact LeO.none _)
      | (with_reducible refine LeO.ite ?_ ?_)
      | (with_reducible refine LeO.bind ?_ (fun _ => ?_))
      | exact ih0 _ _ _ _ _ _ _ _ _ _ _
      | exact wimplelaw4_awake.mono _
      | exact LeO.none _
      | refine LeO.ite ?_ ?_
      | refine LeO.bind ?_ (fun _ => ?_)
theorem wimplelaw4_RdataNumbers.mono : ∀ a0 a1 k, LeO (wimplelaw4_RdataNumbers.f k a0 a1) (wimplelaw4_RdataNumbers.f (k + 1) a0 a1) := by
  intro a0 a1 k
  have ih0 := wimplelaw4_RdataNumbers.mono_l k
  unfold wimplelaw4_RdataNumbers.f
  repeat' first
      | (with_reducible exact ih0 _ _ _ _ _ _ _ _ _ _ _)
      | (with_reducible exact wimplelaw4_awake.mono _)
      | (with_reducible exact LeO.refl _)
      | (with_reducible exact LeO.none _)
      | (with_reducible refine LeO.ite ?_ ?_)
      | (with_reducible refine LeO.bind ?_ (fun _ => ?_))
      | exact ih0 _ _ _ _ _ _ _ _ _ _ _
      | exact wimplelaw4_awake.mono _
      | exact LeO.none _
      | refine LeO.ite ?_ ?_
      | refine LeO.bind ?_ (fun _ => ?_)
set_option maxHeartbeats 8000000 in
set_option maxRecDepth 100000 in
theorem wimplelaw4_RdataNumbers.calls (k : Nat) (a0 : Int) (a1 : Int) (r : Bool) (w : World) (h : wimplelaw4_RdataNumbers.f k a0 a1 = some r) :
    Calls Try.prog 12 #[.int .i64 a0, .int .i64 a1] w fun e w' => e = .returned (.bool r) ∧ Below w.heap.size w w' := by
  have hu59 := Try.underlying59
  have HB := Aside0.mk (Below.refl w.heap.size w)
  have H : ((wimplelaw4_awake.f k).bind fun t271 => (if t271 = true then ((rdata_Soa.f (⟨#[0]⟩ : ByteArray) (⟨#[1, 97, 0]⟩ : ByteArray) 1 2 3 4 5).bind fun bt273 => ((some (([wrap64 ((-1) - (Go.bits .and .i64 a1 1023)), wrap64 (4294967296 + (Go.bits .and .i64 a1 1023))] : List Int) : List Int)).bind fun y275 => (if 0 ≤ (Go.bits .and .i64 (a1 / 1024) 1) then (if (Go.bits .and .i64 (a1 / 1024) 1) < (y275.length : Int) then (if (Int.tmod (IntKind.u64.wrap (a0)) 7) = 0 then (wimplelaw4_RdataNumbers.j0 k a1 bt273.1 bt273.2 (rd y275 (Go.bits .and .i64 (a1 / 1024) 1)) (⟨#[0]⟩ : ByteArray) (⟨#[1, 97, 0]⟩ : ByteArray) (rd y275 (Go.bits .and .i64 (a1 / 1024) 1)) 2 3 4 5) else (if (Int.tmod (IntKind.u64.wrap (a0)) 7) = 1 then (wimplelaw4_RdataNumbers.j0 k a1 bt273.1 bt273.2 (rd y275 (Go.bits .and .i64 (a1 / 1024) 1)) (⟨#[0]⟩ : ByteArray) (⟨#[1, 97, 0]⟩ : ByteArray) 1 (rd y275 (Go.bits .and .i64 (a1 / 1024) 1)) 3 4 5) else (if (Int.tmod (IntKind.u64.wrap (a0)) 7) = 2 then (wimplelaw4_RdataNumbers.j0 k a1 bt273.1 bt273.2 (rd y275 (Go.bits .and .i64 (a1 / 1024) 1)) (⟨#[0]⟩ : ByteArray) (⟨#[1, 97, 0]⟩ : ByteArray) 1 2 (rd y275 (Go.bits .and .i64 (a1 / 1024) 1)) 4 5) else (if (Int.tmod (IntKind.u64.wrap (a0)) 7) = 3 then (wimplelaw4_RdataNumbers.j0 k a1 bt273.1 bt273.2 (rd y275 (Go.bits .and .i64 (a1 / 1024) 1)) (⟨#[0]⟩ : ByteArray) (⟨#[1, 97, 0]⟩ : ByteArray) 1 2 3 (rd y275 (Go.bits .and .i64 (a1 / 1024) 1)) 5) else (if (Int.tmod (IntKind.u64.wrap (a0)) 7) = 4 then (wimplelaw4_RdataNumbers.j0 k a1 bt273.1 bt273.2 (rd y275 (Go.bits .and .i64 (a1 / 1024) 1)) (⟨#[0]⟩ : ByteArray) (⟨#[1, 97, 0]⟩ : ByteArray) 1 2 3 4 (rd y275 (Go.bits .and .i64 (a1 / 1024) 1))) else (if (Int.tmod (IntKind.u64.wrap (a0)) 7) = 5 then (wimplelaw4_RdataNumbers.j0 k a1 bt273.1 bt273.2 (rd y275 (Go.bits .and .i64 (a1 / 1024) 1)) (⟨#[97]⟩ : ByteArray) (⟨#[1, 97, 0]⟩ : ByteArray) 1 2 3 4 5) else (wimplelaw4_RdataNumbers.j0 k a1 bt273.1 bt273.2 (rd y275 (Go.bits .and .i64 (a1 / 1024) 1)) (⟨#[0]⟩ : ByteArray) (⟨#[]⟩ : ByteArray) 1 2 3 4 5))))))) else (none)) else (none)))) else (none))) = some r := h
  clear h
  replace H := Option.bind_eq_some_iff.mp H
  obtain ⟨t271, A30, H⟩ := H
  replace H : (if t271 = true then ((rdata_Soa.f (⟨#[0]⟩ : ByteArray) (⟨#[1, 97, 0]⟩ : ByteArray) 1 2 3 4 5).bind fun bt273 => ((some (([wrap64 ((-1) - (Go.bits .and .i64 a1 1023)), wrap64 (4294967296 + (Go.bits .and .i64 a1 1023))] : List Int) : List Int)).bind fun y275 => (if 0 ≤ (Go.bits .and .i64 (a1 / 1024) 1) then (if (Go.bits .and .i64 (a1 / 1024) 1) < (y275.length : Int) then (if (Int.tmod (IntKind.u64.wrap (a0)) 7) = 0 then (wimplelaw4_RdataNumbers.j0 k a1 bt273.1 bt273.2 (rd y275 (Go.bits .and .i64 (a1 / 1024) 1)) (⟨#[0]⟩ : ByteArray) (⟨#[1, 97, 0]⟩ : ByteArray) (rd y275 (Go.bits .and .i64 (a1 / 1024) 1)) 2 3 4 5) else (if (Int.tmod (IntKind.u64.wrap (a0)) 7) = 1 then (wimplelaw4_RdataNumbers.j0 k a1 bt273.1 bt273.2 (rd y275 (Go.bits .and .i64 (a1 / 1024) 1)) (⟨#[0]⟩ : ByteArray) (⟨#[1, 97, 0]⟩ : ByteArray) 1 (rd y275 (Go.bits .and .i64 (a1 / 1024) 1)) 3 4 5) else (if (Int.tmod (IntKind.u64.wrap (a0)) 7) = 2 then (wimplelaw4_RdataNumbers.j0 k a1 bt273.1 bt273.2 (rd y275 (Go.bits .and .i64 (a1 / 1024) 1)) (⟨#[0]⟩ : ByteArray) (⟨#[1, 97, 0]⟩ : ByteArray) 1 2 (rd y275 (Go.bits .and .i64 (a1 / 1024) 1)) 4 5) else (if (Int.tmod (IntKind.u64.wrap (a0)) 7) = 3 then (wimplelaw4_RdataNumbers.j0 k a1 bt273.1 bt273.2 (rd y275 (Go.bits .and .i64 (a1 / 1024) 1)) (⟨#[0]⟩ : ByteArray) (⟨#[1, 97, 0]⟩ : ByteArray) 1 2 3 (rd y275 (Go.bits .and .i64 (a1 / 1024) 1)) 5) else (if (Int.tmod (IntKind.u64.wrap (a0)) 7) = 4 then (wimplelaw4_RdataNumbers.j0 k a1 bt273.1 bt273.2 (rd y275 (Go.bits .and .i64 (a1 / 1024) 1)) (⟨#[0]⟩ : ByteArray) (⟨#[1, 97, 0]⟩ : ByteArray) 1 2 3 4 (rd y275 (Go.bits .and .i64 (a1 / 1024) 1))) else (if (Int.tmod (IntKind.u64.wrap (a0)) 7) = 5 then (wimplelaw4_RdataNumbers.j0 k a1 bt273.1 bt273.2 (rd y275 (Go.bits .and .i64 (a1 / 1024) 1)) (⟨#[97]⟩ : ByteArray) (⟨#[1, 97, 0]⟩ : ByteArray) 1 2 3 4 5) else (wimplelaw4_RdataNumbers.j0 k a1 bt273.1 bt273.2 (rd y275 (Go.bits .and .i64 (a1 / 1024) 1)) (⟨#[0]⟩ : ByteArray) (⟨#[]⟩ : ByteArray) 1 2 3 4 5))))))) else (none)) else (none)))) else (none)) = some r := H
  have A3 := Aside0.mk A30
  clear A30
  by_cases c4 : t271 = true
  · subst c4
    have H1 : ((rdata_Soa.f (⟨#[0]⟩ : ByteArray) (⟨#[1, 97, 0]⟩ : ByteArray) 1 2 3 4 5).bind fun bt273 => ((some (([wrap64 ((-1) - (Go.bits .and .i64 a1 1023)), wrap64 (4294967296 + (Go.bits .and .i64 a1 1023))] : List Int) : List Int)).bind fun y275 => (if 0 ≤ (Go.bits .and .i64 (a1 / 1024) 1) then (if (Go.bits .and .i64 (a1 / 1024) 1) < (y275.length : Int) then (if (Int.tmod (IntKind.u64.wrap (a0)) 7) = 0 then (wimplelaw4_RdataNumbers.j0 k a1 bt273.1 bt273.2 (rd y275 (Go.bits .and .i64 (a1 / 1024) 1)) (⟨#[0]⟩ : ByteArray) (⟨#[1, 97, 0]⟩ : ByteArray) (rd y275 (Go.bits .and .i64 (a1 / 1024) 1)) 2 3 4 5) else (if (Int.tmod (IntKind.u64.wrap (a0)) 7) = 1 then (wimplelaw4_RdataNumbers.j0 k a1 bt273.1 bt273.2 (rd y275 (Go.bits .and .i64 (a1 / 1024) 1)) (⟨#[0]⟩ : ByteArray) (⟨#[1, 97, 0]⟩ : ByteArray) 1 (rd y275 (Go.bits .and .i64 (a1 / 1024) 1)) 3 4 5) else (if (Int.tmod (IntKind.u64.wrap (a0)) 7) = 2 then (wimplelaw4_RdataNumbers.j0 k a1 bt273.1 bt273.2 (rd y275 (Go.bits .and .i64 (a1 / 1024) 1)) (⟨#[0]⟩ : ByteArray) (⟨#[1, 97, 0]⟩ : ByteArray) 1 2 (rd y275 (Go.bits .and .i64 (a1 / 1024) 1)) 4 5) else (if (Int.tmod (IntKind.u64.wrap (a0)) 7) = 3 then (wimplelaw4_RdataNumbers.j0 k a1 bt273.1 bt273.2 (rd y275 (Go.bits .and .i64 (a1 / 1024) 1)) (⟨#[0]⟩ : ByteArray) (⟨#[1, 97, 0]⟩ : ByteArray) 1 2 3 (rd y275 (Go.bits .and .i64 (a1 / 1024) 1)) 5) else (if (Int.tmod (IntKind.u64.wrap (a0)) 7) = 4 then (wimplelaw4_RdataNumbers.j0 k a1 bt273.1 bt273.2 (rd y275 (Go.bits .and .i64 (a1 / 1024) 1)) (⟨#[0]⟩ : ByteArray) (⟨#[1, 97, 0]⟩ : ByteArray) 1 2 3 4 (rd y275 (Go.bits .and .i64 (a1 / 1024) 1))) else (if (Int.tmod (IntKind.u64.wrap (a0)) 7) = 5 then (wimplelaw4_RdataNumbers.j0 k a1 bt273.1 bt273.2 (rd y275 (Go.bits .and .i64 (a1 / 1024) 1)) (⟨#[97]⟩ : ByteArray) (⟨#[1, 97, 0]⟩ : ByteArray) 1 2 3 4 5) else (wimplelaw4_RdataNumbers.j0 k a1 bt273.1 bt273.2 (rd y275 (Go.bits .and .i64 (a1 / 1024) 1)) (⟨#[0]⟩ : ByteArray) (⟨#[]⟩ : ByteArray) 1 2 3 4 5))))))) else (none)) else (none)))) = some r := by rw [if_pos rfl] at H; exact H
    clear H
    have H := H1
    clear H1
    replace H := Option.bind_eq_some_iff.mp H
    obtain ⟨⟨t273, t274⟩, A50, H⟩ := H
    replace H : ((some (([wrap64 ((-1) - (Go.bits .and .i64 a1 1023)), wrap64 (4294967296 + (Go.bits .and .i64 a1 1023))] : List Int) : List Int)).bind fun y275 => (if 0 ≤ (Go.bits .and .i64 (a1 / 1024) 1) then (if (Go.bits .and .i64 (a1 / 1024) 1) < (y275.length : Int) then (if (Int.tmod (IntKind.u64.wrap (a0)) 7) = 0 then (wimplelaw4_RdataNumbers.j0 k a1 t273 t274 (rd y275 (Go.bits .and .i64 (a1 / 1024) 1)) (⟨#[0]⟩ : ByteArray) (⟨#[1, 97, 0]⟩ : ByteArray) (rd y275 (Go.bits .and .i64 (a1 / 1024) 1)) 2 3 4 5) else (if (Int.tmod (IntKind.u64.wrap (a0)) 7) = 1 then (wimplelaw4_RdataNumbers.j0 k a1 t273 t274 (rd y275 (Go.bits .and .i64 (a1 / 1024) 1)) (⟨#[0]⟩ : ByteArray) (⟨#[1, 97, 0]⟩ : ByteArray) 1 (rd y275 (Go.bits .and .i64 (a1 / 1024) 1)) 3 4 5) else (if (Int.tmod (IntKind.u64.wrap (a0)) 7) = 2 then (wimplelaw4_RdataNumbers.j0 k a1 t273 t274 (rd y275 (Go.bits .and .i64 (a1 / 1024) 1)) (⟨#[0]⟩ : ByteArray) (⟨#[1, 97, 0]⟩ : ByteArray) 1 2 (rd y275 (Go.bits .and .i64 (a1 / 1024) 1)) 4 5) else (if (Int.tmod (IntKind.u64.wrap (a0)) 7) = 3 then (wimplelaw4_RdataNumbers.j0 k a1 t273 t274 (rd y275 (Go.bits .and .i64 (a1 / 1024) 1)) (⟨#[0]⟩ : ByteArray) (⟨#[1, 97, 0]⟩ : ByteArray) 1 2 3 (rd y275 (Go.bits .and .i64 (a1 / 1024) 1)) 5) else (if (Int.tmod (IntKind.u64.wrap (a0)) 7) = 4 then (wimplelaw4_RdataNumbers.j0 k a1 t273 t274 (rd y275 (Go.bits .and .i64 (a1 / 1024) 1)) (⟨#[0]⟩ : ByteArray) (⟨#[1, 97, 0]⟩ : ByteArray) 1 2 3 4 (rd y275 (Go.bits .and .i64 (a1 / 1024) 1))) else (if (Int.tmod (IntKind.u64.wrap (a0)) 7) = 5 then (wimplelaw4_RdataNumbers.j0 k a1 t273 t274 (rd y275 (Go.bits .and .i64 (a1 / 1024) 1)) (⟨#[97]⟩ : ByteArray) (⟨#[1, 97, 0]⟩ : ByteArray) 1 2 3 4 5) else (wimplelaw4_RdataNumbers.j0 k a1 t273 t274 (rd y275 (Go.bits .and .i64 (a1 / 1024) 1)) (⟨#[0]⟩ : ByteArray) (⟨#[]⟩ : ByteArray) 1 2 3 4 5))))))) else (none)) else (none))) = some r := H
    have A5 := Aside0.mk A50
    clear A50
    obtain ⟨y275, hy275⟩ : ∃ y_ : List Int, y_ = (([wrap64 ((-1) - (Go.bits .and .i64 a1 1023)), wrap64 (4294967296 + (Go.bits .and .i64 a1 1023))] : List Int)) := ⟨_, rfl⟩
    replace H : (if 0 ≤ (Go.bits .and .i64 (a1 / 1024) 1) then (if (Go.bits .and .i64 (a1 / 1024) 1) < (y275.length : Int) then (if (Int.tmod (IntKind.u64.wrap (a0)) 7) = 0 then (wimplelaw4_RdataNumbers.j0 k a1 t273 t274 (rd y275 (Go.bits .and .i64 (a1 / 1024) 1)) (⟨#[0]⟩ : ByteArray) (⟨#[1, 97, 0]⟩ : ByteArray) (rd y275 (Go.bits .and .i64 (a1 / 1024) 1)) 2 3 4 5) else (if (Int.tmod (IntKind.u64.wrap (a0)) 7) = 1 then (wimplelaw4_RdataNumbers.j0 k a1 t273 t274 (rd y275 (Go.bits .and .i64 (a1 / 1024) 1)) (⟨#[0]⟩ : ByteArray) (⟨#[1, 97, 0]⟩ : ByteArray) 1 (rd y275 (Go.bits .and .i64 (a1 / 1024) 1)) 3 4 5) else (if (Int.tmod (IntKind.u64.wrap (a0)) 7) = 2 then (wimplelaw4_RdataNumbers.j0 k a1 t273 t274 (rd y275 (Go.bits .and .i64 (a1 / 1024) 1)) (⟨#[0]⟩ : ByteArray) (⟨#[1, 97, 0]⟩ : ByteArray) 1 2 (rd y275 (Go.bits .and .i64 (a1 / 1024) 1)) 4 5) else (if (Int.tmod (IntKind.u64.wrap (a0)) 7) = 3 then (wimplelaw4_RdataNumbers.j0 k a1 t273 t274 (rd y275 (Go.bits .and .i64 (a1 / 1024) 1)) (⟨#[0]⟩ : ByteArray) (⟨#[1, 97, 0]⟩ : ByteArray) 1 2 3 (rd y275 (Go.bits .and .i64 (a1 / 1024) 1)) 5) else (if (Int.tmod (IntKind.u64.wrap (a0)) 7) = 4 then (wimplelaw4_RdataNumbers.j0 k a1 t273 t274 (rd y275 (Go.bits .and .i64 (a1 / 1024) 1)) (⟨#[0]⟩ : ByteArray) (⟨#[1, 97, 0]⟩ : ByteArray) 1 2 3 4 (rd y275 (Go.bits .and .i64 (a1 / 1024) 1))) else (if (Int.tmod (IntKind.u64.wrap (a0)) 7) = 5 then (wimplelaw4_RdataNumbers.j0 k a1 t273 t274 (rd y275 (Go.bits .and .i64 (a1 / 1024) 1)) (⟨#[97]⟩ : ByteArray) (⟨#[1, 97, 0]⟩ : ByteArray) 1 2 3 4 5) else (wimplelaw4_RdataNumbers.j0 k a1 t273 t274 (rd y275 (Go.bits .and .i64 (a1 / 1024) 1)) (⟨#[0]⟩ : ByteArray) (⟨#[]⟩ : ByteArray) 1 2 3 4 5))))))) else (none)) else (none)) = some r := by first | (rw [hy275]; with_reducible exact H) | (have H2_ := (Option.bind_some _ _).symm.trans H; rw [hy275]; with_reducible exact H2_) | (have H2_ := (Option.bind_some _ _).symm.trans H; with_reducible exact H2_) | with_reducible exact H | (rw [hy275]; exact H) | exact H
    have Ny275 := Aside0.mk hy275
    clear hy275
    obtain ⟨ji6, hji6⟩ : ∃ j_ : Int, (Go.bits .and .i64 (a1 / 1024) 1) = j_ := ⟨_, rfl⟩
    replace H : (if 0 ≤ (ji6) then (if (ji6) < (y275.length : Int) then (if (Int.tmod (IntKind.u64.wrap (a0)) 7) = 0 then (wimplelaw4_RdataNumbers.j0 k a1 t273 t274 (rd y275 (ji6)) (⟨#[0]⟩ : ByteArray) (⟨#[1, 97, 0]⟩ : ByteArray) (rd y275 (ji6)) 2 3 4 5) else (if (Int.tmod (IntKind.u64.wrap (a0)) 7) = 1 then (wimplelaw4_RdataNumbers.j0 k a1 t273 t274 (rd y275 (ji6)) (⟨#[0]⟩ : ByteArray) (⟨#[1, 97, 0]⟩ : ByteArray) 1 (rd y275 (ji6)) 3 4 5) else (if (Int.tmod (IntKind.u64.wrap (a0)) 7) = 2 then (wimplelaw4_RdataNumbers.j0 k a1 t273 t274 (rd y275 (ji6)) (⟨#[0]⟩ : ByteArray) (⟨#[1, 97, 0]⟩ : ByteArray) 1 2 (rd y275 (ji6)) 4 5) else (if (Int.tmod (IntKind.u64.wrap (a0)) 7) = 3 then (wimplelaw4_RdataNumbers.j0 k a1 t273 t274 (rd y275 (ji6)) (⟨#[0]⟩ : ByteArray) (⟨#[1, 97, 0]⟩ : ByteArray) 1 2 3 (rd y275 (ji6)) 5) else (if (Int.tmod (IntKind.u64.wrap (a0)) 7) = 4 then (wimplelaw4_RdataNumbers.j0 k a1 t273 t274 (rd y275 (ji6)) (⟨#[0]⟩ : ByteArray) (⟨#[1, 97, 0]⟩ : ByteArray) 1 2 3 4 (rd y275 (ji6))) else (if (Int.tmod (IntKind.u64.wrap (a0)) 7) = 5 then (wimplelaw4_RdataNumbers.j0 k a1 t273 t274 (rd y275 (ji6)) (⟨#[97]⟩ : ByteArray) (⟨#[1, 97, 0]⟩ : ByteArray) 1 2 3 4 5) else (wimplelaw4_RdataNumbers.j0 k a1 t273 t274 (rd y275 (ji6)) (⟨#[0]⟩ : ByteArray) (⟨#[]⟩ : ByteArray) 1 2 3 4 5))))))) else (none)) else (none)) = some r := by first | (rw [hji6] at H; exact H) | (simp only [hji6] at H ⊢; exact H)
    (try rw [hji6] at A3)
    (try rw [hji6] at A5)
    by_cases c7 : 0 ≤ (ji6)
    · rw [if_pos c7] at H
      have c7b0 : decide (0 ≤ (ji6)) = true := decide_eq_true c7
      clear c7
      by_cases c8 : (ji6) < (y275.length : Int)
      · rw [if_pos c8] at H
        have c8b0 : decide ((ji6) < (y275.length : Int)) = true := decide_eq_true c8
        clear c8
        have HC9 := Aside0.mk H
        clear H
        go_enter Try.func12, Try.ntmps12
        go_upto_block 0 with (first | ((with_reducible refine gate_dst (N := 17) rfl ?_); (try (refine gate_guard (by rfl) ?_; dsimp only)); (with_reducible refine gate_callee (f := 43) rfl ?_); refine goesL_ (some 17) rfl rfl Try.func43 (by kernel_rfl) rfl #[] rfl (by (try simp only [List.map_toArray, List.map_cons, List.map_nil]); first | done | rfl | (simp only [List.length_drop, List.length_take]; rfl)) ?_; (with_reducible refine (wimplelaw4_awake.calls k  true _ A3.out).mono ?_); rintro e w10 ⟨rfl, hb⟩; refine ⟨_, rfl, ?_⟩; have n0_ := Aside0.mk (below_step (by repeat (first | (with_reducible first | exact HB.out | apply below_alloc | apply pw_below_drewN | apply below_drew1) | exact HB.out)) hb); clear HB; have HB := n0_; clear n0_; (try clear hb); (try clear hb2); (try clear hk); (try clear hi)) | ((with_reducible refine gate_dst (N := 5) rfl ?_); (try (refine gate_guard (by rfl) ?_; dsimp only)); refine box_event ?hg (N := 5) ?hd (cs := #[.string (⟨#[]⟩ : ByteArray), .string (⟨#[]⟩ : ByteArray), .int .i64 0, .int .i64 0, .int .i64 0, .int .i64 0, .int .i64 0]) (t := 59) ?hr ?_; (case hd => rfl); (case hg => rfl); (case hr => first | (go_simp; done) | (go_simp; rfl)); intro gb272 hg w11 hbox hb; have n0_ := Aside0.mk (below_step (by repeat (first | (with_reducible first | exact HB.out | apply below_alloc | apply pw_below_drewN | apply below_drew1) | exact HB.out)) hb); have n1_ := Aside0.mk (hbox); have n2_ := Aside0.mk ((by rw [hg]; exact (below_size (by repeat (first | (with_reducible first | exact HB.out | apply below_alloc | apply pw_below_drewN | apply below_drew1) | exact HB.out))) : w.heap.size ≤ gb272)); have n3_ := Aside0.mk ((by rw [hg]; exact (below_size (by repeat (first | (with_reducible first | exact HB.out | apply below_alloc | apply pw_below_drewN | apply below_drew1) | exact HB.out))) : w.heap.size ≤ gb272)); clear HB; have HB := n0_; have BK272 := n1_; have GW272 := n2_; have GE272 := n3_; clear n0_ n1_ n2_ n3_; clear hb hbox hg; (try clear hcz44_0 hcz44_1 hcz44_2 hcz44_3 hcz44_4 hcz44_5 hcz44_6 hfz44_0 hfz44_1 hfz44_2 hfz44_3 hfz44_4 hfz44_5 hfz44_6); (try clear hcz50_0 hcz50_1 hcz50_2 hcz50_3 hcz50_4 hcz50_5 hcz50_6 hfz50_0 hfz50_1 hfz50_2 hfz50_3 hfz50_4 hfz50_5 hfz50_6); (try clear hcz65_0 hcz65_1 hcz65_2 hcz65_3 hcz65_4 hcz65_5 hcz65_6 hfz65_0 hfz65_1 hfz65_2 hfz65_3 hfz65_4 hfz65_5 hfz65_6); (try clear hcz66_0 hcz66_1 hcz66_2 hcz66_3 hcz66_4 hcz66_5 hcz66_6 hfz66_0 hfz66_1 hfz66_2 hfz66_3 hfz66_4 hfz66_5 hfz66_6); have hcz12_0 : w11.cell? ⟨gb272, 0, none⟩ = some (.string (⟨#[]⟩ : ByteArray)) := (blk_cell BK272.out 0).trans rfl; have hcz12_1 : w11.cell? ⟨gb272, 1, none⟩ = some (.string (⟨#[]⟩ : ByteArray)) := (blk_cell BK272.out 1).trans rfl; have hcz12_2 : w11.cell? ⟨gb272, 2, none⟩ = some (.int .i64 0) := (blk_cell BK272.out 2).trans rfl; have hcz12_3 : w11.cell? ⟨gb272, 3, none⟩ = some (.int .i64 0) := (blk_cell BK272.out 3).trans rfl; have hcz12_4 : w11.cell? ⟨gb272, 4, none⟩ = some (.int .i64 0) := (blk_cell BK272.out 4).trans rfl; have hcz12_5 : w11.cell? ⟨gb272, 5, none⟩ = some (.int .i64 0) := (blk_cell BK272.out 5).trans rfl; have hcz12_6 : w11.cell? ⟨gb272, 6, none⟩ = some (.int .i64 0) := (blk_cell BK272.out 6).trans rfl; have hfz12_0 := blk_frozen BK272.out 0; have hfz12_1 := blk_frozen BK272.out 1; have hfz12_2 := blk_frozen BK272.out 2; have hfz12_3 := blk_frozen BK272.out 3; have hfz12_4 := blk_frozen BK272.out 4; have hfz12_5 := blk_frozen BK272.out 5; have hfz12_6 := blk_frozen BK272.out 6) | ((with_reducible refine gate_dst (N := 22) rfl ?_); (try (refine gate_guard (by rfl) ?_; dsimp only)); (with_reducible refine gate_callee (f := 35) rfl ?_); refine goesL_ (some 22) rfl rfl Try.func35 (by kernel_rfl) rfl #[.agg #[.string (⟨#[0]⟩ : ByteArray), .string (⟨#[1, 97, 0]⟩ : ByteArray), .int .i64 1, .int .i64 2, .int .i64 3, .int .i64 4, .int .i64 5]] rfl (by (try simp only [List.map_toArray, List.map_cons, List.map_nil]); first | done | rfl | (simp only [List.length_drop, List.length_take]; rfl)) ?_; (with_reducible refine (rdata_Soa.calls (⟨#[0]⟩ : ByteArray) (⟨#[1, 97, 0]⟩ : ByteArray) 1 2 3 4 5 t273 t274 _ A5.out).mono ?_); rintro e w13 ⟨rfl, hb⟩; refine ⟨_, rfl, ?_⟩; have n0_ := Aside0.mk (blk_below (g := gb272) (o := .cells #[.string (⟨#[0]⟩ : ByteArray), .string (⟨#[1, 97, 0]⟩ : ByteArray), .int .i64 1, .int .i64 2, .int .i64 3, .int .i64 4, .int .i64 5] 59 (0, 0)) (by (with_reducible repeat (first | refine blk_drewN ?_ _ | refine blk_drew ?_ | refine blk_alloc ?_ _)); refine blk_put (cs := #[.string (⟨#[0]⟩ : ByteArray), .string (⟨#[1, 97, 0]⟩ : ByteArray), .int .i64 1, .int .i64 2, .int .i64 3, .int .i64 4, .int .i64 0]) ?_ 6 _ rfl; (with_reducible repeat (first | refine blk_drewN ?_ _ | refine blk_drew ?_ | refine blk_alloc ?_ _)); refine blk_put (cs := #[.string (⟨#[0]⟩ : ByteArray), .string (⟨#[1, 97, 0]⟩ : ByteArray), .int .i64 1, .int .i64 2, .int .i64 3, .int .i64 0, .int .i64 0]) ?_ 5 _ rfl; (with_reducible repeat (first | refine blk_drewN ?_ _ | refine blk_drew ?_ | refine blk_alloc ?_ _)); refine blk_put (cs := #[.string (⟨#[0]⟩ : ByteArray), .string (⟨#[1, 97, 0]⟩ : ByteArray), .int .i64 1, .int .i64 2, .int .i64 0, .int .i64 0, .int .i64 0]) ?_ 4 _ rfl; (with_reducible repeat (first | refine blk_drewN ?_ _ | refine blk_drew ?_ | refine blk_alloc ?_ _)); refine blk_put (cs := #[.string (⟨#[0]⟩ : ByteArray), .string (⟨#[1, 97, 0]⟩ : ByteArray), .int .i64 1, .int .i64 0, .int .i64 0, .int .i64 0, .int .i64 0]) ?_ 3 _ rfl; (with_reducible repeat (first | refine blk_drewN ?_ _ | refine blk_drew ?_ | refine blk_alloc ?_ _)); refine blk_put (cs := #[.string (⟨#[0]⟩ : ByteArray), .string (⟨#[1, 97, 0]⟩ : ByteArray), .int .i64 0, .int .i64 0, .int .i64 0, .int .i64 0, .int .i64 0]) ?_ 2 _ rfl; (with_reducible repeat (first | refine blk_drewN ?_ _ | refine blk_drew ?_ | refine blk_alloc ?_ _)); refine blk_put (cs := #[.string (⟨#[0]⟩ : ByteArray), .string (⟨#[]⟩ : ByteArray), .int .i64 0, .int .i64 0, .int .i64 0, .int .i64 0, .int .i64 0]) ?_ 1 _ rfl; (with_reducible repeat (first | refine blk_drewN ?_ _ | refine blk_drew ?_ | refine blk_alloc ?_ _)); refine blk_put (cs := #[.string (⟨#[]⟩ : ByteArray), .string (⟨#[]⟩ : ByteArray), .int .i64 0, .int .i64 0, .int .i64 0, .int .i64 0, .int .i64 0]) ?_ 0 _ rfl; (with_reducible repeat (first | refine blk_drewN ?_ _ | refine blk_drew ?_ | refine blk_alloc ?_ _)); exact BK272.out) hb); have n1_ := Aside0.mk (below_step (by repeat (first | (with_reducible first | exact HB.out | apply below_alloc | apply pw_below_drewN | apply below_drew1 | refine below_set ?_ GE272.out) | exact HB.out)) hb); clear BK272; clear HB; have BK272 := n0_; have HB := n1_; clear n0_ n1_; (try clear hb); (try clear hb2); (try clear hk); (try clear hi)) | ((with_reducible refine gate_dst (N := 31) rfl ?_); (try (refine gate_guard (by rfl) ?_; dsimp only)); refine Kd.R_lit (Kd.int .i64) _ 3 ?hg (N := 31) ?hd (xs := ([wrap64 ((-1) - (Go.bits .and .i64 a1 1023)), wrap64 (4294967296 + (Go.bits .and .i64 a1 1023))] : List Int)) (inner := [.int .i64 (wrap64 ((-1) - (Go.bits .and .i64 a1 1023))), .int .i64 (wrap64 (4294967296 + (Go.bits .and .i64 a1 1023)))]) (ok := fun _ => True) (okp := fun _ => True) ?hr ?hp (fun _ hk => hk) trivial (Below.refl _ _) (Nat.le_refl _) (by simp) ?_; (case hd => rfl); (case hg => rfl); (case hr => first | (go_simp; done) | (go_simp; rfl)); (case hp => exact (Reps.one (show Kd.M (Kd.int .i64) _ _ _ (wrap64 ((-1) - (Go.bits .and .i64 a1 1023))) [.int .i64 (wrap64 ((-1) - (Go.bits .and .i64 a1 1023)))] from rfl) (Reps.one (show Kd.M (Kd.int .i64) _ _ _ (wrap64 (4294967296 + (Go.bits .and .i64 a1 1023))) [.int .i64 (wrap64 (4294967296 + (Go.bits .and .i64 a1 1023)))] from rfl) (Reps.none _ _)))); intro v276 w14 ho15 hb hg_ hnew_; clear hg_ hnew_; (first | rw [← Ny275.out] at ho15 | (simp only [Int.reduceToNat] at ho15; rw [← Ny275.out] at ho15)); have n0_ := Aside0.mk (Kd.R_lower ho15 (below_size (by repeat (first | (with_reducible first | exact HB.out | apply below_alloc | apply pw_below_drewN | apply below_drew1 | refine below_set ?_ GE272.out) | exact HB.out)))); have n1_ := Aside0.mk (blk_below (g := gb272) (o := .cells #[.string (⟨#[0]⟩ : ByteArray), .string (⟨#[1, 97, 0]⟩ : ByteArray), .int .i64 1, .int .i64 2, .int .i64 3, .int .i64 4, .int .i64 5] 59 (0, 0)) (by (with_reducible repeat (first | refine blk_drewN ?_ _ | refine blk_drew ?_ | refine blk_alloc ?_ _)); exact BK272.out) hb); have n2_ := Aside0.mk (below_step (by repeat (first | (with_reducible first | exact HB.out | apply below_alloc | apply pw_below_drewN | apply below_drew1 | refine below_set ?_ GE272.out) | exact HB.out)) hb); clear BK272; clear HB; have HO277 := n0_; have BK272 := n1_; have HB := n2_; clear n0_ n1_ n2_; clear hb ho15; obtain ⟨Ao16, co16, eo16⟩ := Kd.R_slice HO277.out; subst eo16; have p278 : 0 ≤ ((ji6) : Int) := of_decide_eq_true (by first | (with_reducible assumption) | assumption); have q278 : (ji6) < (y275.length : Int) := of_decide_eq_true (by first | (with_reducible assumption) | assumption); obtain ⟨ad278, e278, hx278_0⟩ := Kd.at_int (Kd.R_reads' HO277.out).2.2 (ji6) p278 q278; cases e278; replace p278 := eq_true p278; replace q278 := eq_true q278))
        (try simp only [Act.put, List.setIfInBounds_toArray, List.set_cons_zero, List.set_cons_succ])
        go_cut [] (fun wc => ∃ (kq : Nat) (x273000_8 : ByteArray) (x273001_8 : ByteArray) (x273002_8 : Int) (x273003_8 : Int) (x273004_8 : Int) (x273005_8 : Int) (x273006_8 : Int), Aside0 (wimplelaw4_RdataNumbers.j0 kq a1 t273 t274 (rd y275 (ji6)) x273000_8 x273001_8 x273002_8 x273003_8 x273004_8 x273005_8 x273006_8 = some r) ∧ Aside0 (kq ≤ k) ∧ Aside0 (wc.heap[gb272]? = some (.cells #[.string x273000_8, .string x273001_8, .int .i64 x273002_8, .int .i64 x273003_8, .int .i64 x273004_8, .int .i64 x273005_8, .int .i64 x273006_8] 59 (0, 0))) ∧ Aside0 (Below w.heap.size w wc))
        case first =>
          have H := HC9.out
          clear HC9
          by_cases c17 : (Int.tmod (IntKind.u64.wrap (a0)) 7) = 0
          · rw [if_pos c17] at H
            have c17b0 : ((Int.tmod (IntKind.u64.wrap (a0)) 7) == 0) = true := beq_iff_eq.mpr c17
            have c17b1 : ((Int.tmod (IntKind.u64.wrap (a0)) 7) != 0) = false := bne_eq_false_iff_eq.mpr c17
            clear c17
            (first | rw [c17b0] | (simp only [i64_w, i32_w]; rw [c17b0]) | skip)
            have H' := Aside0.mk H
            clear H
            (try clear hcz44_0 hcz44_1 hcz44_2 hcz44_3 hcz44_4 hcz44_5 hcz44_6 hfz44_0 hfz44_1 hfz44_2 hfz44_3 hfz44_4 hfz44_5 hfz44_6)
            (try clear hcz50_0 hcz50_1 hcz50_2 hcz50_3 hcz50_4 hcz50_5 hcz50_6 hfz50_0 hfz50_1 hfz50_2 hfz50_3 hfz50_4 hfz50_5 hfz50_6)
            (try clear hcz65_0 hcz65_1 hcz65_2 hcz65_3 hcz65_4 hcz65_5 hcz65_6 hfz65_0 hfz65_1 hfz65_2 hfz65_3 hfz65_4 hfz65_5 hfz65_6)
            (try clear hcz66_0 hcz66_1 hcz66_2 hcz66_3 hcz66_4 hcz66_5 hcz66_6 hfz66_0 hfz66_1 hfz66_2 hfz66_3 hfz66_4 hfz66_5 hfz66_6)
            (try clear hcz12_0 hcz12_1 hcz12_2 hcz12_3 hcz12_4 hcz12_5 hcz12_6 hfz12_0 hfz12_1 hfz12_2 hfz12_3 hfz12_4 hfz12_5 hfz12_6)
            have hcz18_0 : w14.cell? ⟨gb272, 0, none⟩ = some (.string (⟨#[0]⟩ : ByteArray)) := (blk_cell BK272.out 0).trans rfl
            have hcz18_1 : w14.cell? ⟨gb272, 1, none⟩ = some (.string (⟨#[1, 97, 0]⟩ : ByteArray)) := (blk_cell BK272.out 1).trans rfl
            have hcz18_2 : w14.cell? ⟨gb272, 2, none⟩ = some (.int .i64 1) := (blk_cell BK272.out 2).trans rfl
            have hcz18_3 : w14.cell? ⟨gb272, 3, none⟩ = some (.int .i64 2) := (blk_cell BK272.out 3).trans rfl
            have hcz18_4 : w14.cell? ⟨gb272, 4, none⟩ = some (.int .i64 3) := (blk_cell BK272.out 4).trans rfl
            have hcz18_5 : w14.cell? ⟨gb272, 5, none⟩ = some (.int .i64 4) := (blk_cell BK272.out 5).trans rfl
            have hcz18_6 : w14.cell? ⟨gb272, 6, none⟩ = some (.int .i64 5) := (blk_cell BK272.out 6).trans rfl
            have hfz18_0 := blk_frozen BK272.out 0
            have hfz18_1 := blk_frozen BK272.out 1
            have hfz18_2 := blk_frozen BK272.out 2
            have hfz18_3 := blk_frozen BK272.out 3
            have hfz18_4 := blk_frozen BK272.out 4
            have hfz18_5 := blk_frozen BK272.out 5
            have hfz18_6 := blk_frozen BK272.out 6
            go_wp2
            go_meet
            case rel => exact ⟨_, ((⟨#[0]⟩ : ByteArray)), ((⟨#[1, 97, 0]⟩ : ByteArray)), (rd y275 (ji6)), (2), (3), (4), (5), H', ⟨by first | omega | exact Nat.le_refl _⟩, ⟨by (with_reducible repeat (first | refine blk_drewN ?_ _ | refine blk_drew ?_ | refine blk_alloc ?_ _)); refine blk_put (cs := #[.string (⟨#[0]⟩ : ByteArray), .string (⟨#[1, 97, 0]⟩ : ByteArray), .int .i64 1, .int .i64 2, .int .i64 3, .int .i64 4, .int .i64 5]) ?_ 2 _ rfl; (with_reducible repeat (first | refine blk_drewN ?_ _ | refine blk_drew ?_ | refine blk_alloc ?_ _)); exact BK272.out⟩, ⟨by repeat (first | (with_reducible first | exact HB.out | apply below_alloc | apply pw_below_drewN | apply below_drew1 | refine below_set ?_ GE272.out) | exact HB.out)⟩⟩
          · rw [if_neg c17] at H
            have c17b0 : ((Int.tmod (IntKind.u64.wrap (a0)) 7) == 0) = false := beq_eq_false_iff_ne.mpr c17
            have c17b1 : ((Int.tmod (IntKind.u64.wrap (a0)) 7) != 0) = true := bne_iff_ne.mpr c17
            (first | rw [c17b0] | (simp only [i64_w, i32_w]; rw [c17b0]) | skip)
            by_cases c19 : (Int.tmod (IntKind.u64.wrap (a0)) 7) = 1
            · rw [if_pos c19] at H
              have c19b0 : ((Int.tmod (IntKind.u64.wrap (a0)) 7) == 1) = true := beq_iff_eq.mpr c19
              have c19b1 : ((Int.tmod (IntKind.u64.wrap (a0)) 7) != 1) = false := bne_eq_false_iff_eq.mpr c19
              clear c19
              have H' := Aside0.mk H
              clear H
              (try clear hcz44_0 hcz44_1 hcz44_2 hcz44_3 hcz44_4 hcz44_5 hcz44_6 hfz44_0 hfz44_1 hfz44_2 hfz44_3 hfz44_4 hfz44_5 hfz44_6)
              (try clear hcz50_0 hcz50_1 hcz50_2 hcz50_3 hcz50_4 hcz50_5 hcz50_6 hfz50_0 hfz50_1 hfz50_2 hfz50_3 hfz50_4 hfz50_5 hfz50_6)
              (try clear hcz65_0 hcz65_1 hcz65_2 hcz65_3 hcz65_4 hcz65_5 hcz65_6 hfz65_0 hfz65_1 hfz65_2 hfz65_3 hfz65_4 hfz65_5 hfz65_6)
              (try clear hcz66_0 hcz66_1 hcz66_2 hcz66_3 hcz66_4 hcz66_5 hcz66_6 hfz66_0 hfz66_1 hfz66_2 hfz66_3 hfz66_4 hfz66_5 hfz66_6)
              (try clear hcz12_0 hcz12_1 hcz12_2 hcz12_3 hcz12_4 hcz12_5 hcz12_6 hfz12_0 hfz12_1 hfz12_2 hfz12_3 hfz12_4 hfz12_5 hfz12_6)
              have hcz20_0 : w14.cell? ⟨gb272, 0, none⟩ = some (.string (⟨#[0]⟩ : ByteArray)) := (blk_cell BK272.out 0).trans rfl
              have hcz20_1 : w14.cell? ⟨gb272, 1, none⟩ = some (.string (⟨#[1, 97, 0]⟩ : ByteArray)) := (blk_cell BK272.out 1).trans rfl
              have hcz20_2 : w14.cell? ⟨gb272, 2, none⟩ = some (.int .i64 1) := (blk_cell BK272.out 2).trans rfl
              have hcz20_3 : w14.cell? ⟨gb272, 3, none⟩ = some (.int .i64 2) := (blk_cell BK272.out 3).trans rfl
              have hcz20_4 : w14.cell? ⟨gb272, 4, none⟩ = some (.int .i64 3) := (blk_cell BK272.out 4).trans rfl
              have hcz20_5 : w14.cell? ⟨gb272, 5, none⟩ = some (.int .i64 4) := (blk_cell BK272.out 5).trans rfl
              have hcz20_6 : w14.cell? ⟨gb272, 6, none⟩ = some (.int .i64 5) := (blk_cell BK272.out 6).trans rfl
              have hfz20_0 := blk_frozen BK272.out 0
              have hfz20_1 := blk_frozen BK272.out 1
              have hfz20_2 := blk_frozen BK272.out 2
              have hfz20_3 := blk_frozen BK272.out 3
              have hfz20_4 := blk_frozen BK272.out 4
              have hfz20_5 := blk_frozen BK272.out 5
              have hfz20_6 := blk_frozen BK272.out 6
              go_wp2
              go_meet
              case rel => exact ⟨_, ((⟨#[0]⟩ : ByteArray)), ((⟨#[1, 97, 0]⟩ : ByteArray)), (1), (rd y275 (ji6)), (3), (4), (5), H', ⟨by first | omega | exact Nat.le_refl _⟩, ⟨by (with_reducible repeat (first | refine blk_drewN ?_ _ | refine blk_drew ?_ | refine blk_alloc ?_ _)); refine blk_put (cs := #[.string (⟨#[0]⟩ : ByteArray), .string (⟨#[1, 97, 0]⟩ : ByteArray), .int .i64 1, .int .i64 2, .int .i64 3, .int .i64 4, .int .i64 5]) ?_ 3 _ rfl; (with_reducible repeat (first | refine blk_drewN ?_ _ | refine blk_drew ?_ | refine blk_alloc ?_ _)); exact BK272.out⟩, ⟨by repeat (first | (with_reducible first | exact HB.out | apply below_alloc | apply pw_below_drewN | apply below_drew1 | refine below_set ?_ GE272.out) | exact HB.out)⟩⟩
            · rw [if_neg c19] at H
              have c19b0 : ((Int.tmod (IntKind.u64.wrap (a0)) 7) == 1) = false := beq_eq_false_iff_ne.mpr c19
              have c19b1 : ((Int.tmod (IntKind.u64.wrap (a0)) 7) != 1) = true := bne_iff_ne.mpr c19
              by_cases c21 : (Int.tmod (IntKind.u64.wrap (a0)) 7) = 2
              · rw [if_pos c21] at H
                have c21b0 : ((Int.tmod (IntKind.u64.wrap (a0)) 7) == 2) = true := beq_iff_eq.mpr c21
                have c21b1 : ((Int.tmod (IntKind.u64.wrap (a0)) 7) != 2) = false := bne_eq_false_iff_eq.mpr c21
                clear c21
                have H' := Aside0.mk H
                clear H
                (try clear hcz50_0 hcz50_1 hcz50_2 hcz50_3 hcz50_4 hcz50_5 hcz50_6 hfz50_0 hfz50_1 hfz50_2 hfz50_3 hfz50_4 hfz50_5 hfz50_6)
                (try clear hcz65_0 hcz65_1 hcz65_2 hcz65_3 hcz65_4 hcz65_5 hcz65_6 hfz65_0 hfz65_1 hfz65_2 hfz65_3 hfz65_4 hfz65_5 hfz65_6)
                (try clear hcz66_0 hcz66_1 hcz66_2 hcz66_3 hcz66_4 hcz66_5 hcz66_6 hfz66_0 hfz66_1 hfz66_2 hfz66_3 hfz66_4 hfz66_5 hfz66_6)
                (try clear hcz12_0 hcz12_1 hcz12_2 hcz12_3 hcz12_4 hcz12_5 hcz12_6 hfz12_0 hfz12_1 hfz12_2 hfz12_3 hfz12_4 hfz12_5 hfz12_6)
                have hcz22_0 : w14.cell? ⟨gb272, 0, none⟩ = some (.string (⟨#[0]⟩ : ByteArray)) := (blk_cell BK272.out 0).trans rfl
                have hcz22_1 : w14.cell? ⟨gb272, 1, none⟩ = some (.string (⟨#[1, 97, 0]⟩ : ByteArray)) := (blk_cell BK272.out 1).trans rfl
                have hcz22_2 : w14.cell? ⟨gb272, 2, none⟩ = some (.int .i64 1) := (blk_cell BK272.out 2).trans rfl
                have hcz22_3 : w14.cell? ⟨gb272, 3, none⟩ = some (.int .i64 2) := (blk_cell BK272.out 3).trans rfl
                have hcz22_4 : w14.cell? ⟨gb272, 4, none⟩ = some (.int .i64 3) := (blk_cell BK272.out 4).trans rfl
                have hcz22_5 : w14.cell? ⟨gb272, 5, none⟩ = some (.int .i64 4) := (blk_cell BK272.out 5).trans rfl
                have hcz22_6 : w14.cell? ⟨gb272, 6, none⟩ = some (.int .i64 5) := (blk_cell BK272.out 6).trans rfl
                have hfz22_0 := blk_frozen BK272.out 0
                have hfz22_1 := blk_frozen BK272.out 1
                have hfz22_2 := blk_frozen BK272.out 2
                have hfz22_3 := blk_frozen BK272.out 3
                have hfz22_4 := blk_frozen BK272.out 4
                have hfz22_5 := blk_frozen BK272.out 5
                have hfz22_6 := blk_frozen BK272.out 6
                go_wp2
                go_meet
                case rel => exact ⟨_, ((⟨#[0]⟩ : ByteArray)), ((⟨#[1, 97, 0]⟩ : ByteArray)), (1), (2), (rd y275 (ji6)), (4), (5), H', ⟨by first | omega | exact Nat.le_refl _⟩, ⟨by (with_reducible repeat (first | refine blk_drewN ?_ _ | refine blk_drew ?_ | refine blk_alloc ?_ _)); refine blk_put (cs := #[.string (⟨#[0]⟩ : ByteArray), .string (⟨#[1, 97, 0]⟩ : ByteArray), .int .i64 1, .int .i64 2, .int .i64 3, .int .i64 4, .int .i64 5]) ?_ 4 _ rfl; (with_reducible repeat (first | refine blk_drewN ?_ _ | refine blk_drew ?_ | refine blk_alloc ?_ _)); exact BK272.out⟩, ⟨by repeat (first | (with_reducible first | exact HB.out | apply below_alloc | apply pw_below_drewN | apply below_drew1 | refine below_set ?_ GE272.out) | exact HB.out)⟩⟩
              · rw [if_neg c21] at H
                have c21b0 : ((Int.tmod (IntKind.u64.wrap (a0)) 7) == 2) = false := beq_eq_false_iff_ne.mpr c21
                have c21b1 : ((Int.tmod (IntKind.u64.wrap (a0)) 7) != 2) = true := bne_iff_ne.mpr c21
                by_cases c23 : (Int.tmod (IntKind.u64.wrap (a0)) 7) = 3
                · rw [if_pos c23] at H
                  have c23b0 : ((Int.tmod (IntKind.u64.wrap (a0)) 7) == 3) = true := beq_iff_eq.mpr c23
                  have c23b1 : ((Int.tmod (IntKind.u64.wrap (a0)) 7) != 3) = false := bne_eq_false_iff_eq.mpr c23
                  clear c23
                  have H' := Aside0.mk H
                  clear H
                  (try clear hcz65_0 hcz65_1 hcz65_2 hcz65_3 hcz65_4 hcz65_5 hcz65_6 hfz65_0 hfz65_1 hfz65_2 hfz65_3 hfz65_4 hfz65_5 hfz65_6)
                  (try clear hcz66_0 hcz66_1 hcz66_2 hcz66_3 hcz66_4 hcz66_5 hcz66_6 hfz66_0 hfz66_1 hfz66_2 hfz66_3 hfz66_4 hfz66_5 hfz66_6)
                  (try clear hcz12_0 hcz12_1 hcz12_2 hcz12_3 hcz12_4 hcz12_5 hcz12_6 hfz12_0 hfz12_1 hfz12_2 hfz12_3 hfz12_4 hfz12_5 hfz12_6)
                  have hcz24_0 : w14.cell? ⟨gb272, 0, none⟩ = some (.string (⟨#[0]⟩ : ByteArray)) := (blk_cell BK272.out 0).trans rfl
                  have hcz24_1 : w14.cell? ⟨gb272, 1, none⟩ = some (.string (⟨#[1, 97, 0]⟩ : ByteArray)) := (blk_cell BK272.out 1).trans rfl
                  have hcz24_2 : w14.cell? ⟨gb272, 2, none⟩ = some (.int .i64 1) := (blk_cell BK272.out 2).trans rfl
                  have hcz24_3 : w14.cell? ⟨gb272, 3, none⟩ = some (.int .i64 2) := (blk_cell BK272.out 3).trans rfl
                  have hcz24_4 : w14.cell? ⟨gb272, 4, none⟩ = some (.int .i64 3) := (blk_cell BK272.out 4).trans rfl
                  have hcz24_5 : w14.cell? ⟨gb272, 5, none⟩ = some (.int .i64 4) := (blk_cell BK272.out 5).trans rfl
                  have hcz24_6 : w14.cell? ⟨gb272, 6, none⟩ = some (.int .i64 5) := (blk_cell BK272.out 6).trans rfl
                  have hfz24_0 := blk_frozen BK272.out 0
                  have hfz24_1 := blk_frozen BK272.out 1
                  have hfz24_2 := blk_frozen BK272.out 2
                  have hfz24_3 := blk_frozen BK272.out 3
                  have hfz24_4 := blk_frozen BK272.out 4
                  have hfz24_5 := blk_frozen BK272.out 5
                  have hfz24_6 := blk_frozen BK272.out 6
                  go_wp2
                  go_meet
                  case rel => exact ⟨_, ((⟨#[0]⟩ : ByteArray)), ((⟨#[1, 97, 0]⟩ : ByteArray)), (1), (2), (3), (rd y275 (ji6)), (5), H', ⟨by first | omega | exact Nat.le_refl _⟩, ⟨by (with_reducible repeat (first | refine blk_drewN ?_ _ | refine blk_drew ?_ | refine blk_alloc ?_ _)); refine blk_put (cs := #[.string (⟨#[0]⟩ : ByteArray), .string (⟨#[1, 97, 0]⟩ : ByteArray), .int .i64 1, .int .i64 2, .int .i64 3, .int .i64 4, .int .i64 5]) ?_ 5 _ rfl; (with_reducible repeat (first | refine blk_drewN ?_ _ | refine blk_drew ?_ | refine blk_alloc ?_ _)); exact BK272.out⟩, ⟨by repeat (first | (with_reducible first | exact HB.out | apply below_alloc | apply pw_below_drewN | apply below_drew1 | refine below_set ?_ GE272.out) | exact HB.out)⟩⟩
                · rw [if_neg c23] at H
                  have c23b0 : ((Int.tmod (IntKind.u64.wrap (a0)) 7) == 3) = false := beq_eq_false_iff_ne.mpr c23
                  have c23b1 : ((Int.tmod (IntKind.u64.wrap (a0)) 7) != 3) = true := bne_iff_ne.mpr c23
                  by_cases c25 : (Int.tmod (IntKind.u64.wrap (a0)) 7) = 4
                  · rw [if_pos c25] at H
                    have c25b0 : ((Int.tmod (IntKind.u64.wrap (a0)) 7) == 4) = true := beq_iff_eq.mpr c25
                    have c25b1 : ((Int.tmod (IntKind.u64.wrap (a0)) 7) != 4) = false := bne_eq_false_iff_eq.mpr c25
                    clear c25
                    have H' := Aside0.mk H
                    clear H
                    (try clear hcz66_0 hcz66_1 hcz66_2 hcz66_3 hcz66_4 hcz66_5 hcz66_6 hfz66_0 hfz66_1 hfz66_2 hfz66_3 hfz66_4 hfz66_5 hfz66_6)
                    (try clear hcz12_0 hcz12_1 hcz12_2 hcz12_3 hcz12_4 hcz12_5 hcz12_6 hfz12_0 hfz12_1 hfz12_2 hfz12_3 hfz12_4 hfz12_5 hfz12_6)
                    have hcz26_0 : w14.cell? ⟨gb272, 0, none⟩ = some (.string (⟨#[0]⟩ : ByteArray)) := (blk_cell BK272.out 0).trans rfl
                    have hcz26_1 : w14.cell? ⟨gb272, 1, none⟩ = some (.string (⟨#[1, 97, 0]⟩ : ByteArray)) := (blk_cell BK272.out 1).trans rfl
                    have hcz26_2 : w14.cell? ⟨gb272, 2, none⟩ = some (.int .i64 1) := (blk_cell BK272.out 2).trans rfl
                    have hcz26_3 : w14.cell? ⟨gb272, 3, none⟩ = some (.int .i64 2) := (blk_cell BK272.out 3).trans rfl
                    have hcz26_4 : w14.cell? ⟨gb272, 4, none⟩ = some (.int .i64 3) := (blk_cell BK272.out 4).trans rfl
                    have hcz26_5 : w14.cell? ⟨gb272, 5, none⟩ = some (.int .i64 4) := (blk_cell BK272.out 5).trans rfl
                    have hcz26_6 : w14.cell? ⟨gb272, 6, none⟩ = some (.int .i64 5) := (blk_cell BK272.out 6).trans rfl
                    have hfz26_0 := blk_frozen BK272.out 0
                    have hfz26_1 := blk_frozen BK272.out 1
                    have hfz26_2 := blk_frozen BK272.out 2
                    have hfz26_3 := blk_frozen BK272.out 3
                    have hfz26_4 := blk_frozen BK272.out 4
                    have hfz26_5 := blk_frozen BK272.out 5
                    have hfz26_6 := blk_frozen BK272.out 6
                    go_wp2
                    go_meet
                    case rel => exact ⟨_, ((⟨#[0]⟩ : ByteArray)), ((⟨#[1, 97, 0]⟩ : ByteArray)), (1), (2), (3), (4), (rd y275 (ji6)), H', ⟨by first | omega | exact Nat.le_refl _⟩, ⟨by (with_reducible repeat (first | refine blk_drewN ?_ _ | refine blk_drew ?_ | refine blk_alloc ?_ _)); refine blk_put (cs := #[.string (⟨#[0]⟩ : ByteArray), .string (⟨#[1, 97, 0]⟩ : ByteArray), .int .i64 1, .int .i64 2, .int .i64 3, .int .i64 4, .int .i64 5]) ?_ 6 _ rfl; (with_reducible repeat (first | refine blk_drewN ?_ _ | refine blk_drew ?_ | refine blk_alloc ?_ _)); exact BK272.out⟩, ⟨by repeat (first | (with_reducible first | exact HB.out | apply below_alloc | apply pw_below_drewN | apply below_drew1 | refine below_set ?_ GE272.out) | exact HB.out)⟩⟩
                  · rw [if_neg c25] at H
                    have c25b0 : ((Int.tmod (IntKind.u64.wrap (a0)) 7) == 4) = false := beq_eq_false_iff_ne.mpr c25
                    have c25b1 : ((Int.tmod (IntKind.u64.wrap (a0)) 7) != 4) = true := bne_iff_ne.mpr c25
                    by_cases c27 : (Int.tmod (IntKind.u64.wrap (a0)) 7) = 5
                    · rw [if_pos c27] at H
                      have c27b0 : ((Int.tmod (IntKind.u64.wrap (a0)) 7) == 5) = true := beq_iff_eq.mpr c27
                      have c27b1 : ((Int.tmod (IntKind.u64.wrap (a0)) 7) != 5) = false := bne_eq_false_iff_eq.mpr c27
                      clear c27
                      have H' := Aside0.mk H
                      clear H
                      (try clear hcz12_0 hcz12_1 hcz12_2 hcz12_3 hcz12_4 hcz12_5 hcz12_6 hfz12_0 hfz12_1 hfz12_2 hfz12_3 hfz12_4 hfz12_5 hfz12_6)
                      have hcz28_0 : w14.cell? ⟨gb272, 0, none⟩ = some (.string (⟨#[0]⟩ : ByteArray)) := (blk_cell BK272.out 0).trans rfl
                      have hcz28_1 : w14.cell? ⟨gb272, 1, none⟩ = some (.string (⟨#[1, 97, 0]⟩ : ByteArray)) := (blk_cell BK272.out 1).trans rfl
                      have hcz28_2 : w14.cell? ⟨gb272, 2, none⟩ = some (.int .i64 1) := (blk_cell BK272.out 2).trans rfl
                      have hcz28_3 : w14.cell? ⟨gb272, 3, none⟩ = some (.int .i64 2) := (blk_cell BK272.out 3).trans rfl
                      have hcz28_4 : w14.cell? ⟨gb272, 4, none⟩ = some (.int .i64 3) := (blk_cell BK272.out 4).trans rfl
                      have hcz28_5 : w14.cell? ⟨gb272, 5, none⟩ = some (.int .i64 4) := (blk_cell BK272.out 5).trans rfl
                      have hcz28_6 : w14.cell? ⟨gb272, 6, none⟩ = some (.int .i64 5) := (blk_cell BK272.out 6).trans rfl
                      have hfz28_0 := blk_frozen BK272.out 0
                      have hfz28_1 := blk_frozen BK272.out 1
                      have hfz28_2 := blk_frozen BK272.out 2
                      have hfz28_3 := blk_frozen BK272.out 3
                      have hfz28_4 := blk_frozen BK272.out 4
                      have hfz28_5 := blk_frozen BK272.out 5
                      have hfz28_6 := blk_frozen BK272.out 6
                      go_wp2
                      go_meet
                      case rel => exact ⟨_, ((⟨#[97]⟩ : ByteArray)), ((⟨#[1, 97, 0]⟩ : ByteArray)), (1), (2), (3), (4), (5), H', ⟨by first | omega | exact Nat.le_refl _⟩, ⟨by (with_reducible repeat (first | refine blk_drewN ?_ _ | refine blk_drew ?_ | refine blk_alloc ?_ _)); refine blk_put (cs := #[.string (⟨#[0]⟩ : ByteArray), .string (⟨#[1, 97, 0]⟩ : ByteArray), .int .i64 1, .int .i64 2, .int .i64 3, .int .i64 4, .int .i64 5]) ?_ 0 _ rfl; (with_reducible repeat (first | refine blk_drewN ?_ _ | refine blk_drew ?_ | refine blk_alloc ?_ _)); exact BK272.out⟩, ⟨by repeat (first | (with_reducible first | exact HB.out | apply below_alloc | apply pw_below_drewN | apply below_drew1 | refine below_set ?_ GE272.out) | exact HB.out)⟩⟩
                    · rw [if_neg c27] at H
                      have c27b0 : ((Int.tmod (IntKind.u64.wrap (a0)) 7) == 5) = false := beq_eq_false_iff_ne.mpr c27
                      have c27b1 : ((Int.tmod (IntKind.u64.wrap (a0)) 7) != 5) = true := bne_iff_ne.mpr c27
                      have H' := Aside0.mk H
                      clear H
                      have hcz29_0 : w14.cell? ⟨gb272, 0, none⟩ = some (.string (⟨#[0]⟩ : ByteArray)) := (blk_cell BK272.out 0).trans rfl
                      have hcz29_1 : w14.cell? ⟨gb272, 1, none⟩ = some (.string (⟨#[1, 97, 0]⟩ : ByteArray)) := (blk_cell BK272.out 1).trans rfl
                      have hcz29_2 : w14.cell? ⟨gb272, 2, none⟩ = some (.int .i64 1) := (blk_cell BK272.out 2).trans rfl
                      have hcz29_3 : w14.cell? ⟨gb272, 3, none⟩ = some (.int .i64 2) := (blk_cell BK272.out 3).trans rfl
                      have hcz29_4 : w14.cell? ⟨gb272, 4, none⟩ = some (.int .i64 3) := (blk_cell BK272.out 4).trans rfl
                      have hcz29_5 : w14.cell? ⟨gb272, 5, none⟩ = some (.int .i64 4) := (blk_cell BK272.out 5).trans rfl
                      have hcz29_6 : w14.cell? ⟨gb272, 6, none⟩ = some (.int .i64 5) := (blk_cell BK272.out 6).trans rfl
                      have hfz29_0 := blk_frozen BK272.out 0
                      have hfz29_1 := blk_frozen BK272.out 1
                      have hfz29_2 := blk_frozen BK272.out 2
                      have hfz29_3 := blk_frozen BK272.out 3
                      have hfz29_4 := blk_frozen BK272.out 4
                      have hfz29_5 := blk_frozen BK272.out 5
                      have hfz29_6 := blk_frozen BK272.out 6
                      go_wp2
                      go_meet
                      case rel => exact ⟨_, ((⟨#[0]⟩ : ByteArray)), ((⟨#[]⟩ : ByteArray)), (1), (2), (3), (4), (5), H', ⟨by first | omega | exact Nat.le_refl _⟩, ⟨by (with_reducible repeat (first | refine blk_drewN ?_ _ | refine blk_drew ?_ | refine blk_alloc ?_ _)); refine blk_put (cs := #[.string (⟨#[0]⟩ : ByteArray), .string (⟨#[1, 97, 0]⟩ : ByteArray), .int .i64 1, .int .i64 2, .int .i64 3, .int .i64 4, .int .i64 5]) ?_ 1 _ rfl; (with_reducible repeat (first | refine blk_drewN ?_ _ | refine blk_drew ?_ | refine blk_alloc ?_ _)); exact BK272.out⟩, ⟨by repeat (first | (with_reducible first | exact HB.out | apply below_alloc | apply pw_below_drewN | apply below_drew1 | refine below_set ?_ GE272.out) | exact HB.out)⟩⟩
        case rest =>
          clear HC9
          try clear c1
          try clear c2
          try clear p2
          try clear q2
          try clear hx2
          try clear c3
          try clear c4
          try clear p6
          try clear c7
          try clear c7b0
          try clear c8
          try clear c8b0
          try clear c12
          try clear c17
          try clear c17b0
          try clear c17b1
          try clear c19
          try clear c19b0
          try clear c19b1
          try clear c21
          try clear c21b0
          try clear c21b1
          try clear c23
          try clear c23b0
          try clear c23b1
          try clear c25
          try clear c25b0
          try clear c25b1
          try clear c27
          try clear c27b0
          try clear c27b1
          try clear p27
          try clear q27
          try clear hx27
          try clear hcz12_0
          try clear hcz12_1
          try clear hcz12_2
          try clear hcz12_3
          try clear hcz12_4
          try clear hcz12_5
          try clear hcz12_6
          try clear hcz18_0
          try clear hcz18_1
          try clear hcz18_2
          try clear hcz18_3
          try clear hcz18_4
          try clear hcz18_5
          try clear hcz18_6
          try clear hcz20_0
          try clear hcz20_1
          try clear hcz20_2
          try clear hcz20_3
          try clear hcz20_4
          try clear hcz20_5
          try clear hcz20_6
          try clear hcz22_0
          try clear hcz22_1
          try clear hcz22_2
          try clear hcz22_3
          try clear hcz22_4
          try clear hcz22_5
          try clear hcz22_6
          try clear hcz24_0
          try clear hcz24_1
          try clear hcz24_2
          try clear hcz24_3
          try clear hcz24_4
          try clear hcz24_5
          try clear hcz24_6
          try clear hcz26_0
          try clear hcz26_1
          try clear hcz26_2
          try clear hcz26_3
          try clear hcz26_4
          try clear hcz26_5
          try clear hcz26_6
          try clear hcz28_0
          try clear hcz28_1
          try clear hcz28_2
          try clear hcz28_3
          try clear hcz28_4
          try clear hcz28_5
          try clear hcz28_6
          try clear hcz29_0
          try clear hcz29_1
          try clear hcz29_2
          try clear hcz29_3
          try clear hcz29_4
          try clear hcz29_5
          try clear hcz29_6
          try clear hcz44_0
          try clear hcz44_1
          try clear hcz44_2
          try clear hcz44_3
          try clear hcz44_4
          try clear hcz44_5
          try clear hcz44_6
          try clear hcz50_0
          try clear hcz50_1
          try clear hcz50_2
          try clear hcz50_3
          try clear hcz50_4
          try clear hcz50_5
          try clear hcz50_6
          try clear hcz65_0
          try clear hcz65_1
          try clear hcz65_2
          try clear hcz65_3
          try clear hcz65_4
          try clear hcz65_5
          try clear hcz65_6
          try clear hcz66_0
          try clear hcz66_1
          try clear hcz66_2
          try clear hcz66_3
          try clear hcz66_4
          try clear hcz66_5
          try clear hcz66_6
          try clear hfz12_0
          try clear hfz12_1
          try clear hfz12_2
          try clear hfz12_3
          try clear hfz12_4
          try clear hfz12_5
          try clear hfz12_6
          try clear hfz18_0
          try clear hfz18_1
          try clear hfz18_2
          try clear hfz18_3
          try clear hfz18_4
          try clear hfz18_5
          try clear hfz18_6
          try clear hfz20_0
          try clear hfz20_1
          try clear hfz20_2
          try clear hfz20_3
          try clear hfz20_4
          try clear hfz20_5
          try clear hfz20_6
          try clear hfz22_0
          try clear hfz22_1
          try clear hfz22_2
          try clear hfz22_3
          try clear hfz22_4
          try clear hfz22_5
          try clear hfz22_6
          try clear hfz24_0
          try clear hfz24_1
          try clear hfz24_2
          try clear hfz24_3
          try clear hfz24_4
          try clear hfz24_5
          try clear hfz24_6
          try clear hfz26_0
          try clear hfz26_1
          try clear hfz26_2
          try clear hfz26_3
          try clear hfz26_4
          try clear hfz26_5
          try clear hfz26_6
          try clear hfz28_0
          try clear hfz28_1
          try clear hfz28_2
          try clear hfz28_3
          try clear hfz28_4
          try clear hfz28_5
          try clear hfz28_6
          try clear hfz29_0
          try clear hfz29_1
          try clear hfz29_2
          try clear hfz29_3
          try clear hfz29_4
          try clear hfz29_5
          try clear hfz29_6
          try clear hfz44_0
          try clear hfz44_1
          try clear hfz44_2
          try clear hfz44_3
          try clear hfz44_4
          try clear hfz44_5
          try clear hfz44_6
          try clear hfz50_0
          try clear hfz50_1
          try clear hfz50_2
          try clear hfz50_3
          try clear hfz50_4
          try clear hfz50_5
          try clear hfz50_6
          try clear hfz65_0
          try clear hfz65_1
          try clear hfz65_2
          try clear hfz65_3
          try clear hfz65_4
          try clear hfz65_5
          try clear hfz65_6
          try clear hfz66_0
          try clear hfz66_1
          try clear hfz66_2
          try clear hfz66_3
          try clear hfz66_4
          try clear hfz66_5
          try clear hfz66_6
          try clear hx278_0
          try clear p278
          try clear q278
          obtain ⟨kq, x273000_8, x273001_8, x273002_8, x273003_8, x273004_8, x273005_8, x273006_8, HA, HJ8, BK272, HB⟩ := hcut
          cases kq with
          | zero => exact absurd HA.out (by simp [wimplelaw4_RdataNumbers.j0])
          | succ kj8 =>
            have H := HA.out
            clear HA
            simp only [wimplelaw4_RdataNumbers.j0] at H
            replace H := Option.bind_eq_some_iff.mp H
            obtain ⟨⟨t279, t280⟩, A300, H⟩ := H
            replace H : ((rdata_A.f (rd y275 (ji6))).bind fun bt281 => ((rdata_Mx.f (wrap64 (65536 + (Go.bits .and .i64 a1 1023))) (⟨#[0]⟩ : ByteArray)).bind fun bt283 => ((rdata_Host.f 16 (⟨#[0]⟩ : ByteArray)).bind fun bt285 => ((wimplelaw0_Num.f t274).bind fun t287 => (if t287 = 0 then (if (t273.size : Int) = 24 then (if t279.toList = ([] : List UInt8) then ((wimplelaw0_Num.f t280).bind fun t288 => (if t288 = 400 then ((wimplelaw0_Num.f bt281.2).bind fun t289 => (if t289 = 400 then ((wimplelaw0_Num.f bt283.2).bind fun t290 => (if t290 = 400 then ((wimplelaw0_Num.f bt285.2).bind fun t291 => (some (t291 == 400))) else (none))) else (none))) else (none))) else (none)) else (none)) else (none)))))) = some r := H
            have A30 := Aside0.mk A300
            clear A300
            replace H := Option.bind_eq_some_iff.mp H
            obtain ⟨⟨t281, t282⟩, A310, H⟩ := H
            replace H : ((rdata_Mx.f (wrap64 (65536 + (Go.bits .and .i64 a1 1023))) (⟨#[0]⟩ : ByteArray)).bind fun bt283 => ((rdata_Host.f 16 (⟨#[0]⟩ : ByteArray)).bind fun bt285 => ((wimplelaw0_Num.f t274).bind fun t287 => (if t287 = 0 then (if (t273.size : Int) = 24 then (if t279.toList = ([] : List UInt8) then ((wimplelaw0_Num.f t280).bind fun t288 => (if t288 = 400 then ((wimplelaw0_Num.f t282).bind fun t289 => (if t289 = 400 then ((wimplelaw0_Num.f bt283.2).bind fun t290 => (if t290 = 400 then ((wimplelaw0_Num.f bt285.2).bind fun t291 => (some (t291 == 400))) else (none))) else (none))) else (none))) else (none)) else (none)) else (none))))) = some r := H
            have A31 := Aside0.mk A310
            clear A310
            replace H := Option.bind_eq_some_iff.mp H
            obtain ⟨⟨t283, t284⟩, A320, H⟩ := H
            replace H : ((rdata_Host.f 16 (⟨#[0]⟩ : ByteArray)).bind fun bt285 => ((wimplelaw0_Num.f t274).bind fun t287 => (if t287 = 0 then (if (t273.size : Int) = 24 then (if t279.toList = ([] : List UInt8) then ((wimplelaw0_Num.f t280).bind fun t288 => (if t288 = 400 then ((wimplelaw0_Num.f t282).bind fun t289 => (if t289 = 400 then ((wimplelaw0_Num.f t284).bind fun t290 => (if t290 = 400 then ((wimplelaw0_Num.f bt285.2).bind fun t291 => (some (t291 == 400))) else (none))) else (none))) else (none))) else (none)) else (none)) else (none)))) = some r := H
            have A32 := Aside0.mk A320
            clear A320
            replace H := Option.bind_eq_some_iff.mp H
            obtain ⟨⟨t285, t286⟩, A330, H⟩ := H
            replace H : ((wimplelaw0_Num.f t274).bind fun t287 => (if t287 = 0 then (if (t273.size : Int) = 24 then (if t279.toList = ([] : List UInt8) then ((wimplelaw0_Num.f t280).bind fun t288 => (if t288 = 400 then ((wimplelaw0_Num.f t282).bind fun t289 => (if t289 = 400 then ((wimplelaw0_Num.f t284).bind fun t290 => (if t290 = 400 then ((wimplelaw0_Num.f t286).bind fun t291 => (some (t291 == 400))) else (none))) else (none))) else (none))) else (none)) else (none)) else (none))) = some r := H
            have A33 := Aside0.mk A330
            clear A330
            replace H := Option.bind_eq_some_iff.mp H
            obtain ⟨t287, A340, H⟩ := H
            replace H : (if t287 = 0 then (if (t273.size : Int) = 24 then (if t279.toList = ([] : List UInt8) then ((wimplelaw0_Num.f t280).bind fun t288 => (if t288 = 400 then ((wimplelaw0_Num.f t282).bind fun t289 => (if t289 = 400 then ((wimplelaw0_Num.f t284).bind fun t290 => (if t290 = 400 then ((wimplelaw0_Num.f t286).bind fun t291 => (some (t291 == 400))) else (none))) else (none))) else (none))) else (none)) else (none)) else (none)) = some r := H
            have A34 := Aside0.mk A340
            clear A340
            by_cases c35 : t287 = 0
            · rw [if_pos c35] at H
              have c35b0 : (t287 == 0) = true := beq_iff_eq.mpr c35
              have c35b1 : (t287 != 0) = false := bne_eq_false_iff_eq.mpr c35
              clear c35
              by_cases c36 : (t273.size : Int) = 24
              · rw [if_pos c36] at H
                have c36b0 : ((t273.size : Int) == 24) = true := beq_iff_eq.mpr c36
                have c36b1 : ((t273.size : Int) != 24) = false := bne_eq_false_iff_eq.mpr c36
                clear c36
                by_cases c37 : t279.toList = ([] : List UInt8)
                · rw [if_pos c37] at H
                  have c37b0 : (t279.toList == ([] : List UInt8)) = true := beq_iff_eq.mpr c37
                  have c37b1 : (t279.toList != ([] : List UInt8)) = false := bne_eq_false_iff_eq.mpr c37
                  clear c37
                  replace H := Option.bind_eq_some_iff.mp H
                  obtain ⟨t288, A380, H⟩ := H
                  replace H : (if t288 = 400 then ((wimplelaw0_Num.f t282).bind fun t289 => (if t289 = 400 then ((wimplelaw0_Num.f t284).bind fun t290 => (if t290 = 400 then ((wimplelaw0_Num.f t286).bind fun t291 => (some (t291 == 400))) else (none))) else (none))) else (none)) = some r := H
                  have A38 := Aside0.mk A380
                  clear A380
                  by_cases c39 : t288 = 400
                  · rw [if_pos c39] at H
                    have c39b0 : (t288 == 400) = true := beq_iff_eq.mpr c39
                    have c39b1 : (t288 != 400) = false := bne_eq_false_iff_eq.mpr c39
                    clear c39
                    replace H := Option.bind_eq_some_iff.mp H
                    obtain ⟨t289, A400, H⟩ := H
                    replace H : (if t289 = 400 then ((wimplelaw0_Num.f t284).bind fun t290 => (if t290 = 400 then ((wimplelaw0_Num.f t286).bind fun t291 => (some (t291 == 400))) else (none))) else (none)) = some r := H
                    have A40 := Aside0.mk A400
                    clear A400
                    by_cases c41 : t289 = 400
                    · rw [if_pos c41] at H
                      have c41b0 : (t289 == 400) = true := beq_iff_eq.mpr c41
                      have c41b1 : (t289 != 400) = false := bne_eq_false_iff_eq.mpr c41
                      clear c41
                      replace H := Option.bind_eq_some_iff.mp H
                      obtain ⟨t290, A420, H⟩ := H
                      replace H : (if t290 = 400 then ((wimplelaw0_Num.f t286).bind fun t291 => (some (t291 == 400))) else (none)) = some r := H
                      have A42 := Aside0.mk A420
                      clear A420
                      by_cases c43 : t290 = 400
                      · rw [if_pos c43] at H
                        have c43b0 : (t290 == 400) = true := beq_iff_eq.mpr c43
                        have c43b1 : (t290 != 400) = false := bne_eq_false_iff_eq.mpr c43
                        clear c43
                        replace H := Option.bind_eq_some_iff.mp H
                        obtain ⟨t291, A440, H⟩ := H
                        replace H : (some (t291 == 400)) = some r := H
                        have A44 := Aside0.mk A440
                        clear A440
                        obtain rfl := Option.some.inj H
                        (try clear hcz20_0 hcz20_1 hcz20_2 hcz20_3 hcz20_4 hcz20_5 hcz20_6 hfz20_0 hfz20_1 hfz20_2 hfz20_3 hfz20_4 hfz20_5 hfz20_6)
                        (try clear hcz22_0 hcz22_1 hcz22_2 hcz22_3 hcz22_4 hcz22_5 hcz22_6 hfz22_0 hfz22_1 hfz22_2 hfz22_3 hfz22_4 hfz22_5 hfz22_6)
                        (try clear hcz24_0 hcz24_1 hcz24_2 hcz24_3 hcz24_4 hcz24_5 hcz24_6 hfz24_0 hfz24_1 hfz24_2 hfz24_3 hfz24_4 hfz24_5 hfz24_6)
                        (try clear hcz26_0 hcz26_1 hcz26_2 hcz26_3 hcz26_4 hcz26_5 hcz26_6 hfz26_0 hfz26_1 hfz26_2 hfz26_3 hfz26_4 hfz26_5 hfz26_6)
                        (try clear hcz28_0 hcz28_1 hcz28_2 hcz28_3 hcz28_4 hcz28_5 hcz28_6 hfz28_0 hfz28_1 hfz28_2 hfz28_3 hfz28_4 hfz28_5 hfz28_6)
                        (try clear hcz29_0 hcz29_1 hcz29_2 hcz29_3 hcz29_4 hcz29_5 hcz29_6 hfz29_0 hfz29_1 hfz29_2 hfz29_3 hfz29_4 hfz29_5 hfz29_6)
                        have hcz45_0 : wc.cell? ⟨gb272, 0, none⟩ = some (.string x273000_8) := (blk_cell BK272.out 0).trans rfl
                        have hcz45_1 : wc.cell? ⟨gb272, 1, none⟩ = some (.string x273001_8) := (blk_cell BK272.out 1).trans rfl
                        have hcz45_2 : wc.cell? ⟨gb272, 2, none⟩ = some (.int .i64 x273002_8) := (blk_cell BK272.out 2).trans rfl
                        have hcz45_3 : wc.cell? ⟨gb272, 3, none⟩ = some (.int .i64 x273003_8) := (blk_cell BK272.out 3).trans rfl
                        have hcz45_4 : wc.cell? ⟨gb272, 4, none⟩ = some (.int .i64 x273004_8) := (blk_cell BK272.out 4).trans rfl
                        have hcz45_5 : wc.cell? ⟨gb272, 5, none⟩ = some (.int .i64 x273005_8) := (blk_cell BK272.out 5).trans rfl
                        have hcz45_6 : wc.cell? ⟨gb272, 6, none⟩ = some (.int .i64 x273006_8) := (blk_cell BK272.out 6).trans rfl
                        have hfz45_0 := blk_frozen BK272.out 0
                        have hfz45_1 := blk_frozen BK272.out 1
                        have hfz45_2 := blk_frozen BK272.out 2
                        have hfz45_3 := blk_frozen BK272.out 3
                        have hfz45_4 := blk_frozen BK272.out 4
                        have hfz45_5 := blk_frozen BK272.out 5
                        have hfz45_6 := blk_frozen BK272.out 6
                        go_wp2_with (first | ((with_reducible refine gate_dst (N := 66) rfl ?_); (try (refine gate_guard (by rfl) ?_; dsimp only)); (with_reducible refine gate_callee (f := 35) rfl ?_); refine goesL_ (some 66) rfl rfl Try.func35 (by kernel_rfl) rfl #[.agg #[.string x273000_8, .string x273001_8, .int .i64 x273002_8, .int .i64 x273003_8, .int .i64 x273004_8, .int .i64 x273005_8, .int .i64 x273006_8]] rfl (by (try simp only [List.map_toArray, List.map_cons, List.map_nil]); first | done | rfl | (simp only [List.length_drop, List.length_take]; rfl)) ?_; (with_reducible refine (rdata_Soa.calls x273000_8 x273001_8 x273002_8 x273003_8 x273004_8 x273005_8 x273006_8 t279 t280 _ A30.out).mono ?_); rintro e w46 ⟨rfl, hb⟩; refine ⟨_, rfl, ?_⟩; have n0_ := Aside0.mk (blk_below (g := gb272) (o := .cells #[.string x273000_8, .string x273001_8, .int .i64 x273002_8, .int .i64 x273003_8, .int .i64 x273004_8, .int .i64 x273005_8, .int .i64 x273006_8] 59 (0, 0)) (by (with_reducible repeat (first | refine blk_drewN ?_ _ | refine blk_drew ?_ | refine blk_alloc ?_ _)); exact BK272.out) hb); have n1_ := Aside0.mk (below_step (by repeat (first | (with_reducible first | exact HB.out | apply below_alloc | apply pw_below_drewN | apply below_drew1 | refine below_set ?_ GE272.out) | exact HB.out)) hb); clear BK272; clear HB; have BK272 := n0_; have HB := n1_; clear n0_ n1_; (try clear hb); (try clear hb2); (try clear hk); (try clear hi)) | ((with_reducible refine gate_dst (N := 71) rfl ?_); (try (refine gate_guard (by rfl) ?_; dsimp only)); (with_reducible refine gate_callee (f := 25) rfl ?_); refine goesL_ (some 71) rfl rfl Try.func25 (by kernel_rfl) rfl #[.int .i64 (rd y275 (ji6))] rfl (by (try simp only [List.map_toArray, List.map_cons, List.map_nil]); first | done | (simp only [hji6]; rfl) | rfl | (simp only [List.length_drop, List.length_take]; rfl)) ?_; (with_reducible refine (rdata_A.calls (rd y275 (ji6)) t281 t282 _ A31.out).mono ?_); rintro e w47 ⟨rfl, hb⟩; refine ⟨_, rfl, ?_⟩; have n0_ := Aside0.mk (blk_below (g := gb272) (o := .cells #[.string x273000_8, .string x273001_8, .int .i64 x273002_8, .int .i64 x273003_8, .int .i64 x273004_8, .int .i64 x273005_8, .int .i64 x273006_8] 59 (0, 0)) (by (with_reducible repeat (first | refine blk_drewN ?_ _ | refine blk_drew ?_ | refine blk_alloc ?_ _)); exact BK272.out) hb); have n1_ := Aside0.mk (below_step (by repeat (first | (with_reducible first | exact HB.out | apply below_alloc | apply pw_below_drewN | apply below_drew1 | refine below_set ?_ GE272.out) | exact HB.out)) hb); clear BK272; clear HB; have BK272 := n0_; have HB := n1_; clear n0_ n1_; (try clear hb); (try clear hb2); (try clear hk); (try clear hi)) | ((with_reducible refine gate_dst (N := 78) rfl ?_); (try (refine gate_guard (by rfl) ?_; dsimp only)); (with_reducible refine gate_callee (f := 29) rfl ?_); refine goesL_ (some 78) rfl rfl Try.func29 (by kernel_rfl) rfl #[.int .i64 (wrap64 (65536 + (Go.bits .and .i64 a1 1023))), .string (⟨#[0]⟩ : ByteArray)] rfl (by (try simp only [List.map_toArray, List.map_cons, List.map_nil]); first | done | rfl | (simp only [List.length_drop, List.length_take]; rfl)) ?_; (with_reducible refine (rdata_Mx.calls (wrap64 (65536 + (Go.bits .and .i64 a1 1023))) (⟨#[0]⟩ : ByteArray) t283 t284 _ A32.out).mono ?_); rintro e w48 ⟨rfl, hb⟩; refine ⟨_, rfl, ?_⟩; have n0_ := Aside0.mk (blk_below (g := gb272) (o := .cells #[.string x273000_8, .string x273001_8, .int .i64 x273002_8, .int .i64 x273003_8, .int .i64 x273004_8, .int .i64 x273005_8, .int .i64 x273006_8] 59 (0, 0)) (by (with_reducible repeat (first | refine blk_drewN ?_ _ | refine blk_drew ?_ | refine blk_alloc ?_ _)); exact BK272.out) hb); have n1_ := Aside0.mk (below_step (by repeat (first | (with_reducible first | exact HB.out | apply below_alloc | apply pw_below_drewN | apply below_drew1 | refine below_set ?_ GE272.out) | exact HB.out)) hb); clear BK272; clear HB; have BK272 := n0_; have HB := n1_; clear n0_ n1_; (try clear hb); (try clear hb2); (try clear hk); (try clear hi)) | ((with_reducible refine gate_dst (N := 82) rfl ?_); (try (refine gate_guard (by rfl) ?_; dsimp only)); (with_reducible refine gate_callee (f := 31) rfl ?_); refine goesL_ (some 82) rfl rfl Try.func31 (by kernel_rfl) rfl #[.int .i64 16, .string (⟨#[0]⟩ : ByteArray)] rfl (by (try simp only [List.map_toArray, List.map_cons, List.map_nil]); first | done | rfl | (simp only [List.length_drop, List.length_take]; rfl)) ?_; (with_reducible refine (rdata_Host.calls 16 (⟨#[0]⟩ : ByteArray) t285 t286 _ A33.out).mono ?_); rintro e w49 ⟨rfl, hb⟩; refine ⟨_, rfl, ?_⟩; have n0_ := Aside0.mk (blk_below (g := gb272) (o := .cells #[.string x273000_8, .string x273001_8, .int .i64 x273002_8, .int .i64 x273003_8, .int .i64 x273004_8, .int .i64 x273005_8, .int .i64 x273006_8] 59 (0, 0)) (by (with_reducible repeat (first | refine blk_drewN ?_ _ | refine blk_drew ?_ | refine blk_alloc ?_ _)); exact BK272.out) hb); have n1_ := Aside0.mk (below_step (by repeat (first | (with_reducible first | exact HB.out | apply below_alloc | apply pw_below_drewN | apply below_drew1 | refine below_set ?_ GE272.out) | exact HB.out)) hb); clear BK272; clear HB; have BK272 := n0_; have HB := n1_; clear n0_ n1_; (try clear hb); (try clear hb2); (try clear hk); (try clear hi)) | ((with_reducible refine gate_dst (N := 86) rfl ?_); (try (refine gate_guard (by rfl) ?_; dsimp only)); (with_reducible refine gate_callee (f := 20) rfl ?_); refine goesL_ (some 86) rfl rfl Try.func20 (by kernel_rfl) rfl #[.int .i64 t274] rfl (by (try simp only [List.map_toArray, List.map_cons, List.map_nil]); first | done | rfl | (simp only [List.length_drop, List.length_take]; rfl)) ?_; (with_reducible refine (wimplelaw0_Num.calls t274 t287 _ A34.out).mono ?_); rintro e w' ⟨rfl, ⟨nd, rfl⟩⟩; refine ⟨_, rfl, ?_⟩) | (go_at_call 20; (with_reducible refine (wimplelaw0_Num.calls t280 t288 _ A38.out).mono ?_); rintro e w' ⟨rfl, ⟨nd, rfl⟩⟩) | (go_at_call 20; (with_reducible refine (wimplelaw0_Num.calls t282 t289 _ A40.out).mono ?_); rintro e w' ⟨rfl, ⟨nd, rfl⟩⟩) | (go_at_call 20; (with_reducible refine (wimplelaw0_Num.calls t284 t290 _ A42.out).mono ?_); rintro e w' ⟨rfl, ⟨nd, rfl⟩⟩) | (go_at_call 20; (with_reducible refine (wimplelaw0_Num.calls t286 t291 _ A44.out).mono ?_); rintro e w' ⟨rfl, ⟨nd, rfl⟩⟩))
                        go_ret
                        exact ⟨by first | rfl | (simp [errW_none, errW_some] <;> rfl) | (simp only [← hji6]; first | rfl | (simp [errW_none, errW_some] <;> rfl)) | (simp [*, errW_none, errW_some] <;> rfl), by repeat (first | (with_reducible first | exact HB.out | apply below_alloc | apply pw_below_drewN | apply below_drew1 | refine below_set ?_ GE272.out) | exact HB.out)⟩
                      · rw [if_neg c43] at H
                        exact absurd H (by simp)
                    · rw [if_neg c41] at H
                      exact absurd H (by simp)
                  · rw [if_neg c39] at H
                    exact absurd H (by simp)
                · rw [if_neg c37] at H
                  exact absurd H (by simp)
              · rw [if_neg c36] at H
                exact absurd H (by simp)
            · rw [if_neg c35] at H
              exact absurd H (by simp)
      · rw [if_neg c8] at H
        exact absurd H (by simp)
    · rw [if_neg c7] at H
      exact absurd H (by simp)
  · replace c4 := Bool.eq_false_iff.mpr c4
    subst c4
    have H1 : (none) = some r := by rw [if_neg (show ¬ (false = true) by decide)] at H; exact H
    clear H
    have H := H1
    clear H1
    exact absurd H (by simp)

/-- THE ONE PURE STATEMENT of wimplelaw4_RdataNumbers: yours. -/
def wimplelaw4_RdataNumbers.Pure : Prop := ∀ (a0 : Int) (a1 : Int), (Lit.int .i64 a0).wf = true → (Lit.int .i64 a1).wf = true → ∃ k, wimplelaw4_RdataNumbers.f k a0 a1 = some true
theorem wimplelaw4_RdataNumbers.walk (P : wimplelaw4_RdataNumbers.Pure) (a0 : Int) (a1 : Int) (w : World) (w0 : (Lit.int .i64 a0).wf = true) (w1 : (Lit.int .i64 a1).wf = true) :
    Calls Try.prog 12 #[.int .i64 a0, .int .i64 a1] w fun e w' => e = .returned (.bool true) ∧ Below w.heap.size w w' := by
  obtain ⟨k, h⟩ := P a0 a1 w0 w1
  refine (wimplelaw4_RdataNumbers.calls k a0 a1 true w h).mono ?_
  rintro e w' ⟨rfl, hd⟩
  exact ⟨rfl, hd⟩

/-! ### wimpleref1_Be: function 49 -/
def wimpleref1_Be.l0 : Nat → List Int → Int → Int → Option (ByteArray)
  | 0, _, _, _ => none
  | k + 1, x5, x6, x7 => if x7 ≥ 0 then (if 0 ≤ x7 then (if x7 < (x5.length : Int) then (wimpleref1_Be.l0 k (x5.set (x7 : Int).toNat ((Go.bits .and .u64 x6 255) % 256)) (x6 / 256) (wrap64 (x7 - 1))) else (none)) else (none)) else (some (strOfNums x5))
def wimpleref1_Be.f (k : Nat) (a0 : Int) (a1 : Int) : Option (ByteArray) := if 0 ≤ a1 then (if (a1 : Int).toNat ≤ 281474976710656 then (wimpleref1_Be.l0 k (List.replicate (a1 : Int).toNat 0) (IntKind.u64.wrap (a0)) (wrap64 (a1 - 1))) else (none)) else (none)
theorem wimpleref1_Be.mono_l : ∀ k, (∀ y0 y1 y2, LeO (wimpleref1_Be.l0 k y0 y1 y2) (wimpleref1_Be.l0 (k + 1) y0 y1 y2))
  | 0 => fun _ _ _ r h => by simp [wimpleref1_Be.l0] at h
  | k + 1 => by
    have ih0 := wimpleref1_Be.mono_l k
    · intro y0 y1 y2
      unfold wimpleref1_Be.l0
      repeat' first
      | (with_reducible exact ih0 _ _ _)
      | (with_reducible exact LeO.refl _)
      | (with_reducible exact LeO.none _)
      | (with_reducible refine LeO.ite ?_ ?_)
      | (with_reducible refine LeO.bind ?_ (fun _ => ?_))
      | exact ih0 _ _ _
      | exact LeO.none _
      | refine LeO.ite ?_ ?_
      | refine LeO.bind ?_ (fun _ => ?_)
theorem wimpleref1_Be.mono : ∀ a0 a1 k, LeO (wimpleref1_Be.f k a0 a1) (wimpleref1_Be.f (k + 1) a0 a1) := by
  intro a0 a1 k
  have ih0 := wimpleref1_Be.mono_l k
  unfold wimpleref1_Be.f
  repeat' first
      | (with_reducible exact ih0 _ _ _)
      | (with_reducible exact LeO.refl _)
      | (with_reducible exact LeO.none _)
      | (with_reducible refine LeO.ite ?_ ?_)
      | (with_reducible refine LeO.bind ?_ (fun _ => ?_))
      | exact ih0 _ _ _
      | exact LeO.none _
      | refine LeO.ite ?_ ?_
      | refine LeO.bind ?_ (fun _ => ?_)
set_option maxHeartbeats 8000000 in
set_option maxRecDepth 100000 in
theorem wimpleref1_Be.calls (k : Nat) (a0 : Int) (a1 : Int) (r : ByteArray) (w : World) (h : wimpleref1_Be.f k a0 a1 = some r) :
    Calls Try.prog 49 #[.int .i64 a0, .int .i64 a1] w fun e w' => e = .returned (.string r) ∧ Below w.heap.size w w' := by
  have HB := Aside0.mk (Below.refl w.heap.size w)
  have H : (if 0 ≤ a1 then (if (a1 : Int).toNat ≤ 281474976710656 then (wimpleref1_Be.l0 k (List.replicate (a1 : Int).toNat 0) (IntKind.u64.wrap (a0)) (wrap64 (a1 - 1))) else (none)) else (none)) = some r := h
  clear h
  by_cases c3 : 0 ≤ a1
  · rw [if_pos c3] at H
    have c3b0 := eq_true c3
    have c3b1 : decide (0 ≤ a1) = true := decide_eq_true c3
    clear c3
    by_cases c4 : (a1 : Int).toNat ≤ 281474976710656
    · rw [if_pos c4] at H
      have c4b0 := eq_true c4
      have c4b1 : decide ((a1 : Int).toNat ≤ 281474976710656) = true := decide_eq_true c4
      clear c4
      obtain ⟨y292, hy292⟩ : ∃ y_ : List Int, y_ = (List.replicate (a1 : Int).toNat 0) := ⟨_, rfl⟩
      replace H : (wimpleref1_Be.l0 k y292 (IntKind.u64.wrap (a0)) (wrap64 (a1 - 1))) = some r := by first | (rw [hy292]; with_reducible exact H) | (have H2_ := (Option.bind_some _ _).symm.trans H; rw [hy292]; with_reducible exact H2_) | (have H2_ := (Option.bind_some _ _).symm.trans H; with_reducible exact H2_) | with_reducible exact H | (rw [hy292]; exact H) | exact H
      have Ny292 := Aside0.mk hy292
      clear hy292
      have H' := Aside0.mk H
      clear H
      go_enter Try.func49, Try.ntmps49
      go_wp2_with (first | ((with_reducible refine gate_dst (N := 9) rfl ?_); refine Kd.R_make (Kd.int .u8) _ 5 rfl (N := 9) rfl 54 _ _ rfl a1 rfl rfl Try.underlying54 (.int .u8 0) 1 info5 rfl (by decide) (by omega) 0 (ok := fun _ => True) (okp := fun _ => True) rfl (fun _ hk => hk) trivial (of_decide_eq_true (by first | (with_reducible assumption) | assumption)) (Nat.le_trans (Nat.mul_le_mul_right _ (of_decide_eq_true (by first | (with_reducible assumption) | assumption) : a1.toNat ≤ 281474976710656)) (by omega)) (Below.refl _ _) (Nat.le_refl _) ?_; intro v293 w5 ho6 hb hg_ hnew_; clear hg_ hnew_; (first | rw [← Ny292.out] at ho6 | (simp only [Int.reduceToNat] at ho6; rw [← Ny292.out] at ho6)); have n0_ := Aside0.mk (Kd.R_lower ho6 (below_size (by repeat (first | (with_reducible first | exact HB.out | apply below_alloc | apply pw_below_drewN | apply below_drew1) | exact HB.out)))); have n1_ := Aside0.mk (below_step (by repeat (first | (with_reducible first | exact HB.out | apply below_alloc | apply pw_below_drewN | apply below_drew1) | exact HB.out)) hb); clear HB; have HO294 := n0_; have HB := n1_; clear n0_ n1_; clear hb ho6))
      go_loopg [6, 7] k (fun kq v6 v7 w' => ∃ (x5_1 : List Int) (x6_1 : Int) (x7_1 : Int), v6 = .int .u64 x6_1 ∧ v7 = .int .i64 x7_1 ∧ Aside0 (wimpleref1_Be.l0 kq x5_1 x6_1 x7_1 = some r) ∧ Aside0 (kq ≤ k) ∧ Aside0 (Kd.R (Kd.int .u8) 5 w' w.heap.size (fun _ => True) v293 x5_1) ∧ Aside0 (Below w.heap.size w w'))
      case atStart => exact ⟨(y292), (IntKind.u64.wrap (a0)), (wrap64 (a1 - 1)), (by first | rfl | (simp; done) | (simp [*]; done)), (by first | rfl | (simp; done) | (simp [*]; done)), H', ⟨Nat.le_refl _⟩, ⟨by (with_reducible repeat (first | apply Kd.R_alloc | apply Kd.R_drewN | apply Kd.R_drew)); exact HO294.out⟩, ⟨by repeat (first | (with_reducible first | exact HB.out | apply below_alloc | apply pw_below_drewN | apply below_drew1) | exact HB.out)⟩⟩
      case round =>
        clear H'
        try clear p2
        try clear c3
        try clear c3b0
        try clear c3b1
        try clear c4
        try clear c4b0
        try clear c4b1
        try clear p6
        obtain ⟨x5_1, x6_1, x7_1, rfl, rfl, HA, HK1, HO_5, HB⟩ := hrel
        cases gk with
        | zero => exact absurd HA.out (by simp [wimpleref1_Be.l0])
        | succ k1 =>
          have H := HA.out
          clear HA
          simp only [wimpleref1_Be.l0] at H
          by_cases c7 : x7_1 ≥ 0
          · rw [if_pos c7] at H
            have c7b0 : decide (0 ≤ x7_1) = true := decide_eq_true c7
            clear c7
            by_cases c8 : 0 ≤ x7_1
            · rw [if_pos c8] at H
              have c8b0 : decide (0 ≤ x7_1) = true := decide_eq_true c8
              clear c8
              by_cases c9 : x7_1 < (x5_1.length : Int)
              · rw [if_pos c9] at H
                have c9b0 : decide (x7_1 < (x5_1.length : Int)) = true := decide_eq_true c9
                clear c9
                obtain ⟨y295, hy295⟩ : ∃ y_ : List Int, y_ = (x5_1.set (x7_1 : Int).toNat ((Go.bits .and .u64 x6_1 255) % 256)) := ⟨_, rfl⟩
                replace H : (wimpleref1_Be.l0 k1 y295 (x6_1 / 256) (wrap64 (x7_1 - 1))) = some r := by first | (rw [hy295]; with_reducible exact H) | (have H2_ := (Option.bind_some _ _).symm.trans H; rw [hy295]; with_reducible exact H2_) | (have H2_ := (Option.bind_some _ _).symm.trans H; with_reducible exact H2_) | with_reducible exact H | (rw [hy295]; exact H) | exact H
                have Ny295 := Aside0.mk hy295
                clear hy295
                have H' := Aside0.mk H
                clear H
                have p10 : 0 ≤ (x7_1 : Int) := of_decide_eq_true (by first | (with_reducible assumption) | assumption)
                have q10 : (x7_1 : Int) < ((x5_1.length : Int) : Int) := of_decide_eq_true (by first | (with_reducible assumption) | assumption)
                obtain ⟨go10, co10, eo10, gb10, gl10, cl10, HG10⟩ := Kd.R_form HO_5.out (by omega)
                (first | cases eo10 | (injection eo10 with ea_ en_ ec_; (first | subst ea_ | (injection ea_ with ea_; subst ea_)); subst ec_; clear en_))
                have GB10 := Aside0.mk gb10
                have GG10 := Aside0.mk HG10
                clear gb10 gl10 HG10
                obtain ⟨hx10_0, hf10_0⟩ := Kd.R_celln 0 HO_5.out (x7_1 : Int) p10 q10
                replace p10 := eq_true p10
                replace q10 := eq_true q10
                have HP11 := Kd.R_putg HO_5.out (x7_1 : Int) ((Go.bits .and .u64 x6_1 255) % 256)
                go_wp2_with (first | ((with_reducible refine gate_store (t := 5) (p := 23) rfl ?_); refine store_event (t := 5) (p := 23) (v := ?vo_w12) (w1 := (wr.setCell ⟨go10, (x7_1 : Int).toNat, none⟩ (.int .u8 ((Go.bits .and .u64 x6_1 255) % 256)))) ?hg ?ho ?hn ?hr ?_; (case ho => rfl); (case hg => rfl); (case hn => rfl); (case hr => first | (go_simp; done) | (go_simp; rfl)); intro w12 hw; have hg : wr.grownBy w12 (some go10) := (by rw [hw]; exact HP11.2); have hp_ : Kd.R (Kd.int .u8) 5 w12 w.heap.size (fun _ => True) (.slice (some ⟨go10, 0, none⟩) x5_1.length co10) y295 := (by rw [hw, Ny295.out]; exact HP11.1); clear HP11; have n0_ := Aside0.mk (hp_); have n1_ := Aside0.mk ((by rw [hw]; exact below_set (HB.out) GB10.out : Below w.heap.size w w12)); clear HO_5; clear HB; have HO_5 := n0_; have HB := n1_; clear n0_ n1_; clear hg hw hp_))
                go_roundg k1
                case measure => have := HK1.out; omega
                case rel => exact ⟨(y295), (x6_1 / 256), (wrap64 (x7_1 - 1)), (by first | rfl | (simp; done) | (simp [*]; done)), (by first | rfl | (simp; done) | (simp [*]; done)), H', ⟨by have := HK1.out; omega⟩, ⟨by (with_reducible repeat (first | apply Kd.R_alloc | apply Kd.R_drewN | apply Kd.R_drew)); exact HO_5.out⟩, ⟨by repeat (first | (with_reducible first | exact HB.out | apply below_alloc | apply pw_below_drewN | apply below_drew1) | exact HB.out)⟩⟩
              · rw [if_neg c9] at H
                exact absurd H (by simp)
            · rw [if_neg c8] at H
              exact absurd H (by simp)
          · rw [if_neg c7] at H
            have c7b0 : decide (0 ≤ x7_1) = false := decide_eq_false c7
            clear c7
            obtain rfl := Option.some.inj H
            have hcv13 := own_string (P := Try.prog) Try.underlying54 Try.underlying5 Try.underlying9 (Kd.own_of_R HO_5.out)
            go_wp2
            go_ret
            exact ⟨by first | rfl | (simp [errW_none, errW_some] <;> rfl) | (simp [*, errW_none, errW_some] <;> rfl), by repeat (first | (with_reducible first | exact HB.out | apply below_alloc | apply pw_below_drewN | apply below_drew1) | exact HB.out)⟩
    · rw [if_neg c4] at H
      exact absurd H (by simp)
  · rw [if_neg c3] at H
    exact absurd H (by simp)

/-! ### wimpleref4_wide: function 52 -/
def wimpleref4_wide.f (a0 : Int) : Option (Bool) := if a0 ≥ 0 then (some (decide (a0 ≤ 4294967295))) else (some false)
set_option maxHeartbeats 8000000 in
set_option maxRecDepth 100000 in
theorem wimpleref4_wide.calls (a0 : Int) (r : Bool) (w : World) (h : wimpleref4_wide.f a0 = some r) :
    Calls Try.prog 52 #[.int .i64 a0] w fun e w' => e = .returned (.bool r) ∧ Drawn0 w w' := by
  have H : (if a0 ≥ 0 then (some (decide (a0 ≤ 4294967295))) else (some false)) = some r := h
  clear h
  by_cases c2 : a0 ≥ 0
  · rw [if_pos c2] at H
    have c2b0 : decide (0 ≤ a0) = true := decide_eq_true c2
    clear c2
    obtain rfl := Option.some.inj H
    go_enter Try.func52, Try.ntmps52
    go_wp2
    go_ret
    exact ⟨by first | rfl | (simp; done) | (simp [*]; done), by repeat (first | exact Drawn0.refl _ | apply Drawn0.step)⟩
  · rw [if_neg c2] at H
    have c2b0 : decide (0 ≤ a0) = false := decide_eq_false c2
    clear c2
    obtain rfl := Option.some.inj H
    go_enter Try.func52, Try.ntmps52
    go_wp2
    go_ret
    exact ⟨by first | rfl | (simp; done) | (simp [*]; done), by repeat (first | exact Drawn0.refl _ | apply Drawn0.step)⟩

/-! ### wimpleref4_A: function 26 -/
def wimpleref4_A.f (a0 : Int) : Option (ByteArray × Int) := some (Go.Proofs.Ytndcjleadggibaa.Rd.aS a0, Go.Proofs.Ytndcjleadggibaa.Rd.aE a0)
set_option maxHeartbeats 8000000 in
set_option maxRecDepth 100000 in
theorem wimpleref4_A.calls (a0 : Int) (r1 : ByteArray) (r2 : Int) (w : World) (h : wimpleref4_A.f a0 = some (r1, r2)) :
    Calls Try.prog 26 #[.int .i64 a0] w fun e w' => e = .returned (.tuple #[.string r1, .int .i64 r2]) ∧ Below w.heap.size w w' := by
  unfold wimpleref4_A.f at h
  simp only [Option.some.injEq, Prod.mk.injEq] at h
  obtain ⟨rfl, rfl⟩ := h
  exact Go.Proofs.Ytndcjleadggibaa.Rd.rac a0 w

end Go.Proofs.Ytndcjleadggibaa.PRda
