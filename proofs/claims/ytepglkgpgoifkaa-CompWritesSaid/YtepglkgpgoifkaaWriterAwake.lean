/- Law 5's awake answers true: a writer that is given two names and one that is none; what it wrote is read again. -/
import Derived.Test.YtepglkgpgoifkaaWriterName
namespace Go.Proofs.Ytepglkgpgoifkaa.Wr
open Go.RowKit Go.PlainAid Go.Maps Go.Proofs.Ytepglkgpgoifkaa.Base Go.Proofs.Ytepglkgpgoifkaa.Oct Go.Proofs.Ytepglkgpgoifkaa.Nm Go.Proofs.YtepglkgpgoifkaaW.PrintWords
set_option linter.unusedVariables false

theorem numc (x : Int) (w : World) : Calls Try.prog 14 #[.int .i64 x] w fun e w' => e = .returned (.int .i64 x) ∧ w' = w := by
  go_enter Try.func14, Try.ntmps14
  go_wp2
  go_ret
  exact ⟨rfl, rfl⟩
abbrev sAb : ByteArray := ⟨#[97, 98]⟩
abbrev sA : ByteArray := ⟨#[1, 97, 1, 98, 0]⟩
abbrev sC : ByteArray := ⟨#[1, 99, 1, 98, 0]⟩
abbrev sAll : ByteArray := ⟨#[97, 98, 1, 97, 1, 98, 0, 1, 99, 192, 4]⟩
set_option maxHeartbeats 8000000 in
set_option maxRecDepth 100000 in
theorem awake5 (w : World)
    (h1 : ∀ w, Calls Try.prog 22 #[.string sAll, .int .i64 7] w fun e w' => e = .returned (.tuple #[.string sC, .int .i64 11, .int .i64 0]) ∧ Below w.heap.size w w')
    (h2 : ∀ w, Calls Try.prog 22 #[.string ⟨#[192, 0]⟩, .int .i64 0] w fun e w' => e = .returned (.tuple #[.string ⟨#[]⟩, .int .i64 0, .int .i64 500]) ∧ Below w.heap.size w w')
    (h3 : ∀ w, Calls Try.prog 24 #[.string sAll, .int .i64 7, .int .i64 4, .int .i64 2] w fun e w' => e = .returned (.tuple #[.string sC, .int .i64 0]) ∧ Below w.heap.size w w') :
    Calls Try.prog 20 #[] w fun e w' => e = .returned (.bool true) ∧ Below w.heap.size w w' := by
  go_enter Try.func20, Try.ntmps20
  go_wp2_with fail
  refine (newc w).mono ?_
  rintro e w1 ⟨g, gm, rfl, B1, H1⟩
  go_wp2_with fail
  refine (rawOk H1 sAb (by decide) (by decide)).mono ?_
  rintro e w2 ⟨rfl, v2, H2, B2, -⟩
  replace B2 := B1.trans B2
  clear H1 B1
  go_wp2_with fail
  refine (nameYes H2 sA (by decide +kernel)).mono ?_
  rintro e w3 h
  rw [if_neg (by decide +kernel)] at h
  obtain ⟨rfl, v3, H3, B3, -⟩ := h
  replace B3 := B2.trans B3
  clear H2 B2
  go_wp2_with fail
  refine (nameYes H3 sC (by decide +kernel)).mono ?_
  rintro e w4 h
  rw [if_neg (by decide +kernel)] at h
  obtain ⟨rfl, v4, H4, B4, -⟩ := h
  replace B4 := B3.trans B4
  clear H3 B3
  go_wp2_with fail
  refine (nameNo H4 ⟨#[1]⟩ (by decide +kernel)).mono ?_
  rintro e w5 ⟨rfl, H5, B5, -⟩
  replace B5 := B4.trans B5
  clear H4 B4
  go_wp2_with fail
  refine (allc H5).mono ?_
  rintro e w6 ⟨rfl, rfl⟩
  generalize hX : strOfNums _ = X
  obtain rfl : X = sAll := by rw [← hX]; decide +kernel
  clear hX
  have hsz := B5.size
  clear H5
  go_wp2_with fail
  refine (h1 _).mono ?_
  rintro e w7 ⟨rfl, B7⟩
  replace B7 := B5.trans (B7.mono hsz)
  clear B5
  have hsz7 := B7.size
  go_wp2_with fail
  refine (h2 _).mono ?_
  rintro e w8 ⟨rfl, B8⟩
  replace B8 := B7.trans (B8.mono hsz7)
  clear B7
  have hsz8 := B8.size
  go_wp2_with fail
  refine (h3 _).mono ?_
  rintro e w9 ⟨rfl, B9⟩
  replace B9 := B8.trans (B9.mono hsz8)
  clear B8 hsz hsz7 hsz8
  go_wp2_with (go_at_call 14; refine (numc _ _).mono ?_; rintro e w' ⟨rfl, rfl⟩)
  go_ret
  exact ⟨rfl, B9⟩
end Go.Proofs.Ytepglkgpgoifkaa.Wr
