/- CompShares' walk: names with one end share it. -/
import Derived.Test.YtepglkgpgoifkaaCompFull
import Derived.Test.YtepglkgpgoifkaaNameThy
namespace Go.Proofs.Ytepglkgpgoifkaa.CompShares
open Go.RowKit Go.PlainAid Go.Maps Go.Proofs.Ytepglkgpgoifkaa.Base Go.Proofs.Ytepglkgpgoifkaa.Oct Go.Proofs.Ytepglkgpgoifkaa.Nm Go.Proofs.Ytepglkgpgoifkaa.Wr Go.Proofs.Ytepglkgpgoifkaa.CompFull
open Go.Proofs.YtepglkgpgoifkaaW.PrintWords (bytesOf bytesOf_length)
open Go.Sort (grow)
set_option linter.unusedVariables false
theorem conv1 (p : Int) (W : World) (b : Nat) (h0 : W.cell? ⟨b, 0, none⟩ = some (.int .u8 p)) : (convert 42 9 (.slice (some ⟨b, 0, none⟩) 1 1)).run Try.prog W = .ok (.string (strOfNums [p])) W :=
  run_convert_bytes_arg (P := Try.prog) W 42 5 Try.underlying42 Try.underlying5 b 0 1 1 [p] rfl
    (fun i hi => by obtain rfl : i = 0 := by omega
                    exact h0) 9 Try.underlying9
theorem ptrc (w : World) : Calls Try.prog 23 #[.int .i64 3] w fun e w' => e = .returned (.string (⟨#[192, 3]⟩ : ByteArray)) ∧ Below w.heap.size w w' := PCl.wimplelaw5_pointer.calls 3 ⟨#[192, 3]⟩ w (by decide +kernel)
theorem same_below {P : Program} {f : FuncId} {args : Array Value} {w : World} {v : Value} (h : Calls P f args w fun e w' => e = .returned v ∧ w' = w) : Calls P f args w fun e w' => e = .returned v ∧ Below w.heap.size w w' :=
  h.mono (fun e w' k => ⟨k.1, by rw [k.2]; exact Below.refl _ _⟩)
theorem one_size (p : Int) : (strOfNums [p]).size = 1 := by simp [strOfNums_size]
set_option maxHeartbeats 8000000 in
set_option maxRecDepth 100000 in
theorem walk (s a b : ByteArray) (w : World) (hs : s.size ≤ 140737488351232) (ha : a.size ≤ 140737488351232) (hb : b.size ≤ 140737488351232) : Calls Try.prog 6 #[.string s, .string a, .string b] w fun e w' => e = .returned (.bool true) ∧ Below w.heap.size w w' := by
  go_enter Try.func6, Try.ntmps6
  go_wp2_with fail
  refine (awakec w).mono ?_
  rintro e w1 ⟨rfl, B1⟩
  have s1 := B1.size
  go_wp2_with fail
  refine (rmay s w1).mono ?_
  rintro e w2 ⟨rfl, B2⟩
  replace B2 := B1.trans (B2.mono s1)
  clear B1 s1
  cases hn : nameB s with
  | false =>
    go_wp2_with fail
    go_ret
    exact ⟨rfl, B2⟩
  | true =>
  by_cases h0 : s = ⟨#[0]⟩
  · subst h0
    have q0 : ((⟨#[0]⟩ : ByteArray).toList == [0]) = true := by decide +kernel
    go_wp2_with fail
    go_ret
    exact ⟨rfl, B2⟩
  have q0 : decide (s = (⟨#[0]⟩ : ByteArray)) = false := decide_eq_false h0
  have q1 : (s.toList == [0]) = false := by
    rw [beq_eq_false_iff_ne]; exact fun e => h0 (Pu.toList_inj (e.trans (show [0] = (⟨#[0]⟩ : ByteArray).toList by decide +kernel)))
  by_cases h2 : 200 < s.size
  · have q2 : decide ((200 : Int) < s.size) = true := by simp; omega
    go_wp2_with fail
    go_ret
    exact ⟨rfl, B2⟩
  have q2 : decide ((200 : Int) < s.size) = false := by simp; omega
  have HH := Lib.hid h0
  clear h0
  go_upto_region 5 with (fail)
  have h200 : s.size ≤ 200 := by omega
  clear h2
  go_cut [7, 8] (fun v7 v8 wc => v7 = .string (⟨#[2, 120]⟩ ++ strOfNums [IntKind.u8.wrap (a.size : Int)] ++ s) ∧ v8 = .string (⟨#[2, 121]⟩ ++ strOfNums [IntKind.u8.wrap (b.size : Int)] ++ s) ∧ Below w.heap.size w wc)
  case first =>
    have hc1 := conv1 (IntKind.u8.wrap (a.size : Int))
    have hc2 := conv1 (IntKind.u8.wrap (b.size : Int))
    have z1 := one_size (IntKind.u8.wrap (a.size : Int))
    have z2 := one_size (IntKind.u8.wrap (b.size : Int))
    have n1 : ¬ 9223372036854775807 < 3 + s.size := by omega
    have n2 : ¬ 9223372036854775807 < 2 + 1 + s.size := by omega
    go_region_with (fail)
    all_goals
      go_wp2
      go_meet
      case rel =>
        refine ⟨rfl, rfl, ?_⟩
        first | exact ((B2.alloc B2.size _).alloc (by simp; have := B2.size; omega) _).drew | exact (((B2.alloc B2.size _).alloc (by simp; have := B2.size; omega) _).drew).drew | exact ((B2.alloc B2.size _).drew.alloc (by have := B2.size; simp; omega) _).drew
  case rest =>
  obtain ⟨rfl, rfl, Bc⟩ := hcut
  clear B2
  have sc := Bc.size
  obtain ⟨nx, ny, ox, oy, os⟩ := shares s (⟨#[2, 120]⟩ ++ strOfNums [IntKind.u8.wrap (a.size : Int)]) (⟨#[2, 121]⟩ ++ strOfNums [IntKind.u8.wrap (b.size : Int)]) hn HH.out h200 (by rw [ByteArray.size_append, one_size]; rfl) (by rw [ByteArray.size_append, one_size]; rfl) (by rw [bt_append_left _ _ _ (by decide)]; decide +kernel) (by rw [bt_append_left _ _ _ (by decide)]; decide +kernel) (by
    intro e
    have := congrArg (fun z => bt z 1) e
    rw [bt_append_left _ _ _ (by decide), bt_append_left _ _ _ (by decide)] at this
    revert this
    decide +kernel)
  have zx : (⟨#[2, 120]⟩ ++ strOfNums [IntKind.u8.wrap (a.size : Int)] ++ s).size = 3 + s.size := by rw [ByteArray.size_append, ByteArray.size_append, one_size]; rfl
  have zy : (⟨#[2, 121]⟩ ++ strOfNums [IntKind.u8.wrap (b.size : Int)] ++ s).size = 3 + s.size := by rw [ByteArray.size_append, ByteArray.size_append, one_size]; rfl
  have zh : (⟨#[2, 121]⟩ ++ strOfNums [IntKind.u8.wrap (b.size : Int)]).size = 3 := by rw [ByteArray.size_append, one_size]; rfl
  have ye : (⟨#[2, 121]⟩ ++ strOfNums [IntKind.u8.wrap (b.size : Int)] ++ s).extract 0 3 = ⟨#[2, 121]⟩ ++ strOfNums [IntKind.u8.wrap (b.size : Int)] := by
    have := len_data (⟨#[2, 121]⟩ ++ strOfNums [IntKind.u8.wrap (b.size : Int)])
    rw [zh] at this
    generalize (⟨#[2, 121]⟩ ++ strOfNums [IntKind.u8.wrap (b.size : Int)] : ByteArray) = h at this ⊢
    apply ByteArray.ext
    apply Array.ext'
    simp only [ByteArray.data_extract, ByteArray.data_append, Array.toList_extract, Array.toList_append, List.extract_eq_take_drop]
    simp [← this]
  generalize hX : (⟨#[2, 120]⟩ : ByteArray) ++ strOfNums [IntKind.u8.wrap (a.size : Int)] ++ s = x at *
  generalize hY : (⟨#[2, 121]⟩ : ByteArray) ++ strOfNums [IntKind.u8.wrap (b.size : Int)] ++ s = y at *
  generalize hH : (⟨#[2, 121]⟩ : ByteArray) ++ strOfNums [IntKind.u8.wrap (b.size : Int)] = hy at *
  clear hX hY hH
  have sc := Bc.size
  have sp := p16_size (Go.bits .or .i64 49152 3)
  go_wp2_with fail
  refine (newc wc).mono ?_
  rintro e w3 ⟨g, gm, rfl, B3, H3⟩
  replace B3 := Bc.trans (B3.mono sc)
  go_wp2_with fail
  refine (nameYes H3 x nx).mono ?_
  rintro e w4 h
  rw [ox, if_neg (by simp; omega)] at h
  obtain ⟨rfl, v4, H4, B4, -⟩ := h
  replace B4 := B3.trans (B4.mono sc)
  clear B3 H3
  go_wp2_with fail
  refine (nameYes H4 y ny).mono ?_
  rintro e w5 h
  rw [show ([] : List Int).length = 0 from rfl, oy, if_neg (by simp [bytesOf_length, sp, zh, zx]; omega)] at h
  obtain ⟨rfl, v5, H5, B5, -⟩ := h
  replace B5 := B4.trans (B5.mono sc)
  clear B4 H4
  go_wp2_with fail
  refine (nameYes H5 s hn).mono ?_
  rintro e w6 h
  rw [os, if_neg (by simp [bytesOf_length, sp, zh, zx]; omega)] at h
  obtain ⟨rfl, v6, H6, B6, -⟩ := h
  replace B6 := B5.trans (B6.mono sc)
  clear B5 H5
  go_wp2_with fail
  refine (nameYes H6 root (by decide +kernel)).mono ?_
  rintro e w7 h
  rw [outN_root, if_neg (by simp [bytesOf_length, sp, zh, zx, show root.size = 1 from rfl]; omega)] at h
  obtain ⟨rfl, v7, H7, B7, -⟩ := h
  replace B7 := B6.trans (B7.mono sc)
  clear B6 H6
  have eall : strOfNums ((([] ++ bytesOf x) ++ bytesOf (hy ++ p16 (Go.bits .or .i64 49152 3))) ++ bytesOf (p16 (Go.bits .or .i64 49152 3)) ++ bytesOf root) = x ++ hy ++ ⟨#[192, 3]⟩ ++ ⟨#[192, 3]⟩ ++ ⟨#[0]⟩ := by
    rw [List.nil_append, ← Pu.bytesOf_append, ← Pu.bytesOf_append, ← Pu.bytesOf_append, Pu.nums_bytesOf, show p16 (Go.bits .or .i64 49152 3) = ⟨#[192, 3]⟩ by decide +kernel]
    simp only [ByteArray.append_assoc]
  have call0 : ∀ d os, Calls Try.prog 18 #[ptr g] (grow (redrawn w7.drew d) os) fun e w' => e = .returned (.string (x ++ hy ++ ⟨#[192, 3]⟩ ++ ⟨#[192, 3]⟩ ++ ⟨#[0]⟩)) ∧ w' = grow (redrawn w7.drew d) os := by
    intro d os
    have := allc (H7.below ((Below.refl _ w7).drew.trans (below_regrown w7.drew d os)))
    rw [eall] at this
    exact this
  have z3 : (3 : Int) ≤ (y.size : Int) := by omega
  go_upto_region 11 with (fail)
  refine wp_region_quiet_below (by kernel_rfl) (by kernel_rfl) ?_
  repeat (go_big_quiet_step (first | with_reducible exact Calls.regrown_of (same_below (numc _ _)) | with_reducible exact Calls.regrown_of (ptrc _) | exact Calls.regrown_of (same_below (call0 _ _))))
  refine wpQuiet_nil ?_
  intro _ hw'
  obtain ⟨⟨dq, osq⟩, hw''⟩ := hw'
  subst hw''
  go_wp2
  go_ret
  exact ⟨rfl, B7.trans ((below_regrown _ _ _).mono B7.size)⟩
end Go.Proofs.Ytepglkgpgoifkaa.CompShares
