-- Written by a program of this session out of the translation (the kit's print, changed: ppatch.py); not the kit's own print.
import Derived.Test.YtndcjleadggibaaPRdTx0
import Derived.Test.YtndcjleadggibaaPRdTx2
namespace Go.Proofs.Ytndcjleadggibaa.PRdT
open Go.RowKit Go.Proofs.YtndcjleadggibaaW.PrintWords Go.Proofs.YtndcjleadggibaaW.PrintLast Go.Proofs.YtndcjleadggibaaW.PrintMore
attribute [local go_sem] max2_int min2_int max_two min_two max_three min_three max_four min_four   -- for this text's walks alone
set_option linter.unusedVariables false
set_option linter.unusedSimpArgs false

/-! ### rdata_texts: function 59 -/
def rdata_texts.l0 : Nat → ByteArray → Int → Option (Bool)
  | 0, _, _ => none
  | k + 1, x0, x3 => if x3 < (x0.size : Int) then (if 0 ≤ x3 then (rdata_texts.l0 k x0 (wrap64 (x3 + (wrap64 (1 + (wrap64 (bt x0 x3))))))) else (none)) else (if x0.toList = ([] : List UInt8) then (some false) else (some (x3 == (x0.size : Int))))
def rdata_texts.f (k : Nat) (a0 : ByteArray) : Option (Bool) := rdata_texts.l0 k a0 0
theorem rdata_texts.mono_l : ∀ k, (∀ y0 y1, LeO (rdata_texts.l0 k y0 y1) (rdata_texts.l0 (k + 1) y0 y1))
  | 0 => fun _ _ r h => by simp [rdata_texts.l0] at h
  | k + 1 => by
    have ih0 := rdata_texts.mono_l k
    · intro y0 y1
      unfold rdata_texts.l0
      repeat' first
      | (with_reducible exact ih0 _ _)
      | (with_reducible exact LeO.refl _)
      | (with_reducible exact LeO.none _)
      | (with_reducible refine LeO.ite ?_ ?_)
      | (with_reducible refine LeO.bind ?_ (fun _ => ?_))
      | exact ih0 _ _
      | exact LeO.none _
      | refine LeO.ite ?_ ?_
      | refine LeO.bind ?_ (fun _ => ?_)
theorem rdata_texts.mono : ∀ a0 k, LeO (rdata_texts.f k a0) (rdata_texts.f (k + 1) a0) := by
  intro a0 k
  have ih0 := rdata_texts.mono_l k
  unfold rdata_texts.f
  repeat' first
      | (with_reducible exact ih0 _ _)
      | (with_reducible exact LeO.refl _)
      | (with_reducible exact LeO.none _)
      | (with_reducible refine LeO.ite ?_ ?_)
      | (with_reducible refine LeO.bind ?_ (fun _ => ?_))
      | exact ih0 _ _
      | exact LeO.none _
      | refine LeO.ite ?_ ?_
      | refine LeO.bind ?_ (fun _ => ?_)
set_option maxHeartbeats 8000000 in
set_option maxRecDepth 100000 in
theorem rdata_texts.calls (k : Nat) (a0 : ByteArray) (r : Bool) (w : World) (h : rdata_texts.f k a0 = some r) :
    Calls Try.prog 59 #[.string a0] w fun e w' => e = .returned (.bool r) ∧ Drawn0 w w' := by
  have H : (rdata_texts.l0 k a0 0) = some r := h
  clear h
  have H' := Aside0.mk H
  clear H
  go_enter Try.func59, Try.ntmps59
  go_wp2
  go_loopg [3] k (fun kq v3 w' => ∃ (x3_1 : Int), v3 = .int .i64 x3_1 ∧ Aside0 (rdata_texts.l0 kq a0 x3_1 = some r) ∧ Aside0 (kq ≤ k) ∧ Drawn0 w w')
  case atStart => exact ⟨(0), (by first | rfl | (simp; done) | (simp [*]; done)), H', ⟨Nat.le_refl _⟩, by repeat (first | exact Drawn0.refl _ | apply Drawn0.step)⟩
  case round =>
    clear H'
    obtain ⟨x3_1, rfl, HA, HK1, ⟨m1, rfl⟩⟩ := hrel
    cases gk with
    | zero => exact absurd HA.out (by simp [rdata_texts.l0])
    | succ k1 =>
      have H := HA.out
      clear HA
      simp only [rdata_texts.l0] at H
      by_cases c2 : x3_1 < (a0.size : Int)
      · rw [if_pos c2] at H
        have c2b0 : decide (x3_1 < (a0.size : Int)) = true := decide_eq_true c2
        clear c2
        by_cases c3 : 0 ≤ x3_1
        · rw [if_pos c3] at H
          have c3b0 : decide (0 ≤ x3_1) = true := decide_eq_true c3
          clear c3
          have H' := Aside0.mk H
          clear H
          have p4 : 0 ≤ (x3_1 : Int) := of_decide_eq_true (by first | (with_reducible assumption) | assumption)
          have q4 : x3_1 < (a0.size : Int) := of_decide_eq_true (by first | (with_reducible assumption) | assumption)
          have hx4 := bt_at a0 x3_1
          replace p4 := eq_true p4
          replace q4 := eq_true q4
          go_wp2
          go_roundg k1
          case measure => have := HK1.out; omega
          case rel => exact ⟨(wrap64 (x3_1 + (wrap64 (1 + (wrap64 (bt a0 x3_1)))))), (by first | rfl | (simp; done) | (simp [*]; done)), H', ⟨by have := HK1.out; omega⟩, by repeat (first | exact Drawn0.refl _ | apply Drawn0.step)⟩
        · rw [if_neg c3] at H
          exact absurd H (by simp)
      · rw [if_neg c2] at H
        have c2b0 : decide (x3_1 < (a0.size : Int)) = false := decide_eq_false c2
        clear c2
        by_cases c5 : a0.toList = ([] : List UInt8)
        · rw [if_pos c5] at H
          have c5b0 : (a0.toList == ([] : List UInt8)) = true := beq_iff_eq.mpr c5
          have c5b1 : (a0.toList != ([] : List UInt8)) = false := bne_eq_false_iff_eq.mpr c5
          clear c5
          obtain rfl := Option.some.inj H
          go_wp2
          go_ret
          exact ⟨by first | rfl | (simp; done) | (simp [*]; done), by repeat (first | exact Drawn0.refl _ | apply Drawn0.step)⟩
        · rw [if_neg c5] at H
          have c5b0 : (a0.toList == ([] : List UInt8)) = false := beq_eq_false_iff_ne.mpr c5
          have c5b1 : (a0.toList != ([] : List UInt8)) = true := bne_iff_ne.mpr c5
          obtain rfl := Option.some.inj H
          go_wp2
          go_ret
          exact ⟨by first | rfl | (simp; done) | (simp [*]; done), by repeat (first | exact Drawn0.refl _ | apply Drawn0.step)⟩

/-! ### rdata_May: function 33 -/
def rdata_May.f (a0 : Int) (a1 : ByteArray) : Option (Bool) := if a1.size ≤ 9223372036854775000 then some (Go.Proofs.Ytndcjleadggibaa.Rd.mayD a0 a1) else none
set_option maxHeartbeats 8000000 in
set_option maxRecDepth 100000 in
theorem rdata_May.calls (a0 : Int) (a1 : ByteArray) (r : Bool) (w : World) (h : rdata_May.f a0 a1 = some r) :
    Calls Try.prog 33 #[.int .i64 a0, .string a1] w fun e w' => e = .returned (.bool r) ∧ Below w.heap.size w w' := by
  unfold rdata_May.f at h
  split at h
  · rename_i hs
    simp only [Option.some.injEq] at h
    subst h
    exact Go.Proofs.Ytndcjleadggibaa.Rd.dmay a0 a1 w hs
  · cases h

/-! ### rdata_Host: function 31 -/
def rdata_Host.f (a0 : Int) (a1 : ByteArray) : Option (ByteArray × Int) := if a1.size ≤ 9223372036854775000 then some (Go.Proofs.Ytndcjleadggibaa.Rd.hostS a0 a1, Go.Proofs.Ytndcjleadggibaa.Rd.hostE a0 a1) else none
set_option maxHeartbeats 8000000 in
set_option maxRecDepth 100000 in
theorem rdata_Host.calls (a0 : Int) (a1 : ByteArray) (r1 : ByteArray) (r2 : Int) (w : World) (h : rdata_Host.f a0 a1 = some (r1, r2)) :
    Calls Try.prog 31 #[.int .i64 a0, .string a1] w fun e w' => e = .returned (.tuple #[.string r1, .int .i64 r2]) ∧ Below w.heap.size w w' := by
  unfold rdata_Host.f at h
  split at h
  · rename_i hs
    simp only [Option.some.injEq, Prod.mk.injEq] at h
    obtain ⟨rfl, rfl⟩ := h
    exact Go.Proofs.Ytndcjleadggibaa.Rd.hostc a0 a1 w hs
  · cases h

-- NOT PRINTED: function 62 (rdata_words)

/-! ### rdata_Soa: function 35 -/
def rdata_Soa.f (a0_0 : ByteArray) (a0_1 : ByteArray) (a0_2 : Int) (a0_3 : Int) (a0_4 : Int) (a0_5 : Int) (a0_6 : Int) : Option (ByteArray × Int) := some ((⟨a0_0, a0_1, a0_2, a0_3, a0_4, a0_5, a0_6⟩ : Go.Proofs.Ytndcjleadggibaa.Rd.Soa).S, (⟨a0_0, a0_1, a0_2, a0_3, a0_4, a0_5, a0_6⟩ : Go.Proofs.Ytndcjleadggibaa.Rd.Soa).E)
set_option maxHeartbeats 8000000 in
set_option maxRecDepth 100000 in
theorem rdata_Soa.calls (a0_0 : ByteArray) (a0_1 : ByteArray) (a0_2 : Int) (a0_3 : Int) (a0_4 : Int) (a0_5 : Int) (a0_6 : Int) (r1 : ByteArray) (r2 : Int) (w : World) (h : rdata_Soa.f a0_0 a0_1 a0_2 a0_3 a0_4 a0_5 a0_6 = some (r1, r2)) :
    Calls Try.prog 35 #[.agg #[.string a0_0, .string a0_1, .int .i64 a0_2, .int .i64 a0_3, .int .i64 a0_4, .int .i64 a0_5, .int .i64 a0_6]] w fun e w' => e = .returned (.tuple #[.string r1, .int .i64 r2]) ∧ Below w.heap.size w w' := by
  unfold rdata_Soa.f at h
  simp only [Option.some.injEq, Prod.mk.injEq] at h
  obtain ⟨rfl, rfl⟩ := h
  exact Go.Proofs.Ytndcjleadggibaa.Rd.soac (⟨a0_0, a0_1, a0_2, a0_3, a0_4, a0_5, a0_6⟩ : Go.Proofs.Ytndcjleadggibaa.Rd.Soa) w

/-! ### rdata_Unsoa: function 37 -/
def rdata_Unsoa.f (a0 : ByteArray) : Option (ByteArray × ByteArray × Int × Int × Int × Int × Int × Int) := if a0.size ≤ 9223372036854775000 then some ((Go.Proofs.Ytndcjleadggibaa.Rd.unX a0).host, (Go.Proofs.Ytndcjleadggibaa.Rd.unX a0).mail, (Go.Proofs.Ytndcjleadggibaa.Rd.unX a0).s0, (Go.Proofs.Ytndcjleadggibaa.Rd.unX a0).s1, (Go.Proofs.Ytndcjleadggibaa.Rd.unX a0).s2, (Go.Proofs.Ytndcjleadggibaa.Rd.unX a0).s3, (Go.Proofs.Ytndcjleadggibaa.Rd.unX a0).s4, Go.Proofs.Ytndcjleadggibaa.Rd.unE a0) else none
set_option maxHeartbeats 8000000 in
set_option maxRecDepth 100000 in
theorem rdata_Unsoa.calls (a0 : ByteArray) (r1 : ByteArray) (r2 : ByteArray) (r3 : Int) (r4 : Int) (r5 : Int) (r6 : Int) (r7 : Int) (r8 : Int) (w : World) (h : rdata_Unsoa.f a0 = some (r1, r2, r3, r4, r5, r6, r7, r8)) :
    Calls Try.prog 37 #[.string a0] w fun e w' => e = .returned (.tuple #[.agg #[.string r1, .string r2, .int .i64 r3, .int .i64 r4, .int .i64 r5, .int .i64 r6, .int .i64 r7], .int .i64 r8]) ∧ Below w.heap.size w w' := by
  unfold rdata_Unsoa.f at h
  split at h
  · rename_i hs
    simp only [Option.some.injEq, Prod.mk.injEq] at h
    obtain ⟨rfl, rfl, rfl, rfl, rfl, rfl, rfl, rfl⟩ := h
    exact Go.Proofs.Ytndcjleadggibaa.Rd.unsoac a0 w hs
  · cases h

/-! ### wimplelaw4_awake: function 43 -/
def wimplelaw4_awake.f (k : Nat)  : Option (Bool) := (rdata_A.f 258).bind fun bt119 => ((rdata_Addr.f bt119.1).bind fun bt121 => ((rdata_Mx.f 5 (⟨#[1, 109, 0]⟩ : ByteArray)).bind fun bt123 => ((rdata_Host.f 15 bt123.1).bind fun bt125 => ((rdata_Soa.f (⟨#[0]⟩ : ByteArray) (⟨#[0]⟩ : ByteArray) 0 0 0 0 7).bind fun bt127 => ((rdata_Unsoa.f bt127.1).bind fun bt129 => ((rdata_Txt.f k (([(⟨#[97, 98]⟩ : ByteArray), (⟨#[]⟩ : ByteArray)] : List ByteArray))).bind fun bt141 => ((rdata_A.f (-1)).bind fun bt143 => (if bt119.1.toList = ([0, 0, 1, 2] : List UInt8) then ((wimplelaw0_Num.f bt119.2).bind fun t145 => (if t145 = 0 then (if bt121.1 = 258 then ((wimplelaw0_Num.f bt121.2).bind fun t146 => (if t146 = 0 then (if bt123.1.toList = ([0, 5, 1, 109, 0] : List UInt8) then ((wimplelaw0_Num.f bt123.2).bind fun t147 => (if t147 = 0 then (if bt125.1.toList = ([1, 109, 0] : List UInt8) then ((wimplelaw0_Num.f bt125.2).bind fun t148 => (if t148 = 0 then (if (bt127.1.size : Int) = 22 then ((wimplelaw0_Num.f bt127.2).bind fun t149 => (if t149 = 0 then (if bt129.2.2.2.2.2.2.1 = 7 then ((wimplelaw0_Num.f bt129.2.2.2.2.2.2.2).bind fun t150 => (if t150 = 0 then (if bt141.1.toList = ([2, 97, 98, 0] : List UInt8) then ((wimplelaw0_Num.f bt141.2).bind fun t151 => (if t151 = 0 then ((wimplelaw0_Num.f bt143.2).bind fun t152 => (if t152 = 400 then ((rdata_May.f 1 bt119.1).bind fun t153 => (if t153 = true then ((rdata_May.f 1 (⟨#[]⟩ : ByteArray)).bind fun t154 => (if t154 = true then (none) else ((rdata_May.f 0 (⟨#[]⟩ : ByteArray)).bind fun t155 => (some (!t155))))) else (none))) else (none))) else (none))) else (none)) else (none))) else (none)) else (none))) else (none)) else (none))) else (none)) else (none))) else (none)) else (none))) else (none)) else (none))) else (none)))))))))
theorem wimplelaw4_awake.mono : ∀ k, LeO (wimplelaw4_awake.f k ) (wimplelaw4_awake.f (k + 1) ) := by
  intro  k
  unfold wimplelaw4_awake.f
  repeat' first
      | (with_reducible exact rdata_Txt.mono _ _)
      | (with_reducible exact LeO.refl _)
      | (with_reducible exact LeO.none _)
      | (with_reducible refine LeO.ite ?_ ?_)
      | (with_reducible refine LeO.bind ?_ (fun _ => ?_))
      | exact rdata_Txt.mono _ _
      | exact LeO.none _
      | refine LeO.ite ?_ ?_
      | refine LeO.bind ?_ (fun _ => ?_)
set_option maxHeartbeats 8000000 in
set_option maxRecDepth 100000 in
theorem wimplelaw4_awake.calls (k : Nat)  (r : Bool) (w : World) (h : wimplelaw4_awake.f k  = some r) :
    Calls Try.prog 43 #[] w fun e w' => e = .returned (.bool r) ∧ Below w.heap.size w w' := by
  have hu59 := Try.underlying59
  have HB := Aside0.mk (Below.refl w.heap.size w)
  have H : ((rdata_A.f 258).bind fun bt119 => ((rdata_Addr.f bt119.1).bind fun bt121 => ((rdata_Mx.f 5 (⟨#[1, 109, 0]⟩ : ByteArray)).bind fun bt123 => ((rdata_Host.f 15 bt123.1).bind fun bt125 => ((rdata_Soa.f (⟨#[0]⟩ : ByteArray) (⟨#[0]⟩ : ByteArray) 0 0 0 0 7).bind fun bt127 => ((rdata_Unsoa.f bt127.1).bind fun bt129 => ((rdata_Txt.f k (([(⟨#[97, 98]⟩ : ByteArray), (⟨#[]⟩ : ByteArray)] : List ByteArray))).bind fun bt141 => ((rdata_A.f (-1)).bind fun bt143 => (if bt119.1.toList = ([0, 0, 1, 2] : List UInt8) then ((wimplelaw0_Num.f bt119.2).bind fun t145 => (if t145 = 0 then (if bt121.1 = 258 then ((wimplelaw0_Num.f bt121.2).bind fun t146 => (if t146 = 0 then (if bt123.1.toList = ([0, 5, 1, 109, 0] : List UInt8) then ((wimplelaw0_Num.f bt123.2).bind fun t147 => (if t147 = 0 then (if bt125.1.toList = ([1, 109, 0] : List UInt8) then ((wimplelaw0_Num.f bt125.2).bind fun t148 => (if t148 = 0 then (if (bt127.1.size : Int) = 22 then ((wimplelaw0_Num.f bt127.2).bind fun t149 => (if t149 = 0 then (if bt129.2.2.2.2.2.2.1 = 7 then ((wimplelaw0_Num.f bt129.2.2.2.2.2.2.2).bind fun t150 => (if t150 = 0 then (if bt141.1.toList = ([2, 97, 98, 0] : List UInt8) then ((wimplelaw0_Num.f bt141.2).bind fun t151 => (if t151 = 0 then ((wimplelaw0_Num.f bt143.2).bind fun t152 => (if t152 = 400 then ((rdata_May.f 1 bt119.1).bind fun t153 => (if t153 = true then ((rdata_May.f 1 (⟨#[]⟩ : ByteArray)).bind fun t154 => (if t154 = true then (none) else ((rdata_May.f 0 (⟨#[]⟩ : ByteArray)).bind fun t155 => (some (!t155))))) else (none))) else (none))) else (none))) else (none)) else (none))) else (none)) else (none))) else (none)) else (none))) else (none)) else (none))) else (none)) else (none))) else (none)) else (none))) else (none)))))))))) = some r := h
  clear h
  replace H := Option.bind_eq_some_iff.mp H
  obtain ⟨⟨t119, t120⟩, A10, H⟩ := H
  replace H : ((rdata_Addr.f t119).bind fun bt121 => ((rdata_Mx.f 5 (⟨#[1, 109, 0]⟩ : ByteArray)).bind fun bt123 => ((rdata_Host.f 15 bt123.1).bind fun bt125 => ((rdata_Soa.f (⟨#[0]⟩ : ByteArray) (⟨#[0]⟩ : ByteArray) 0 0 0 0 7).bind fun bt127 => ((rdata_Unsoa.f bt127.1).bind fun bt129 => ((rdata_Txt.f k (([(⟨#[97, 98]⟩ : ByteArray), (⟨#[]⟩ : ByteArray)] : List ByteArray))).bind fun bt141 => ((rdata_A.f (-1)).bind fun bt143 => (if t119.toList = ([0, 0, 1, 2] : List UInt8) then ((wimplelaw0_Num.f t120).bind fun t145 => (if t145 = 0 then (if bt121.1 = 258 then ((wimplelaw0_Num.f bt121.2).bind fun t146 => (if t146 = 0 then (if bt123.1.toList = ([0, 5, 1, 109, 0] : List UInt8) then ((wimplelaw0_Num.f bt123.2).bind fun t147 => (if t147 = 0 then (if bt125.1.toList = ([1, 109, 0] : List UInt8) then ((wimplelaw0_Num.f bt125.2).bind fun t148 => (if t148 = 0 then (if (bt127.1.size : Int) = 22 then ((wimplelaw0_Num.f bt127.2).bind fun t149 => (if t149 = 0 then (if bt129.2.2.2.2.2.2.1 = 7 then ((wimplelaw0_Num.f bt129.2.2.2.2.2.2.2).bind fun t150 => (if t150 = 0 then (if bt141.1.toList = ([2, 97, 98, 0] : List UInt8) then ((wimplelaw0_Num.f bt141.2).bind fun t151 => (if t151 = 0 then ((wimplelaw0_Num.f bt143.2).bind fun t152 => (if t152 = 400 then ((rdata_May.f 1 t119).bind fun t153 => (if t153 = true then ((rdata_May.f 1 (⟨#[]⟩ : ByteArray)).bind fun t154 => (if t154 = true then (none) else ((rdata_May.f 0 (⟨#[]⟩ : ByteArray)).bind fun t155 => (some (!t155))))) else (none))) else (none))) else (none))) else (none)) else (none))) else (none)) else (none))) else (none)) else (none))) else (none)) else (none))) else (none)) else (none))) else (none)) else (none))) else (none))))))))) = some r := H
  have A1 := Aside0.mk A10
  clear A10
  replace H := Option.bind_eq_some_iff.mp H
  obtain ⟨⟨t121, t122⟩, A20, H⟩ := H
  replace H : ((rdata_Mx.f 5 (⟨#[1, 109, 0]⟩ : ByteArray)).bind fun bt123 => ((rdata_Host.f 15 bt123.1).bind fun bt125 => ((rdata_Soa.f (⟨#[0]⟩ : ByteArray) (⟨#[0]⟩ : ByteArray) 0 0 0 0 7).bind fun bt127 => ((rdata_Unsoa.f bt127.1).bind fun bt129 => ((rdata_Txt.f k (([(⟨#[97, 98]⟩ : ByteArray), (⟨#[]⟩ : ByteArray)] : List ByteArray))).bind fun bt141 => ((rdata_A.f (-1)).bind fun bt143 => (if t119.toList = ([0, 0, 1, 2] : List UInt8) then ((wimplelaw0_Num.f t120).bind fun t145 => (if t145 = 0 then (if t121 = 258 then ((wimplelaw0_Num.f t122).bind fun t146 => (if t146 = 0 then (if bt123.1.toList = ([0, 5, 1, 109, 0] : List UInt8) then ((wimplelaw0_Num.f bt123.2).bind fun t147 => (if t147 = 0 then (if bt125.1.toList = ([1, 109, 0] : List UInt8) then ((wimplelaw0_Num.f bt125.2).bind fun t148 => (if t148 = 0 then (if (bt127.1.size : Int) = 22 then ((wimplelaw0_Num.f bt127.2).bind fun t149 => (if t149 = 0 then (if bt129.2.2.2.2.2.2.1 = 7 then ((wimplelaw0_Num.f bt129.2.2.2.2.2.2.2).bind fun t150 => (if t150 = 0 then (if bt141.1.toList = ([2, 97, 98, 0] : List UInt8) then ((wimplelaw0_Num.f bt141.2).bind fun t151 => (if t151 = 0 then ((wimplelaw0_Num.f bt143.2).bind fun t152 => (if t152 = 400 then ((rdata_May.f 1 t119).bind fun t153 => (if t153 = true then ((rdata_May.f 1 (⟨#[]⟩ : ByteArray)).bind fun t154 => (if t154 = true then (none) else ((rdata_May.f 0 (⟨#[]⟩ : ByteArray)).bind fun t155 => (some (!t155))))) else (none))) else (none))) else (none))) else (none)) else (none))) else (none)) else (none))) else (none)) else (none))) else (none)) else (none))) else (none)) else (none))) else (none)) else (none))) else (none)))))))) = some r := H
  have A2 := Aside0.mk A20
  clear A20
  replace H := Option.bind_eq_some_iff.mp H
  obtain ⟨⟨t123, t124⟩, A30, H⟩ := H
  replace H : ((rdata_Host.f 15 t123).bind fun bt125 => ((rdata_Soa.f (⟨#[0]⟩ : ByteArray) (⟨#[0]⟩ : ByteArray) 0 0 0 0 7).bind fun bt127 => ((rdata_Unsoa.f bt127.1).bind fun bt129 => ((rdata_Txt.f k (([(⟨#[97, 98]⟩ : ByteArray), (⟨#[]⟩ : ByteArray)] : List ByteArray))).bind fun bt141 => ((rdata_A.f (-1)).bind fun bt143 => (if t119.toList = ([0, 0, 1, 2] : List UInt8) then ((wimplelaw0_Num.f t120).bind fun t145 => (if t145 = 0 then (if t121 = 258 then ((wimplelaw0_Num.f t122).bind fun t146 => (if t146 = 0 then (if t123.toList = ([0, 5, 1, 109, 0] : List UInt8) then ((wimplelaw0_Num.f t124).bind fun t147 => (if t147 = 0 then (if bt125.1.toList = ([1, 109, 0] : List UInt8) then ((wimplelaw0_Num.f bt125.2).bind fun t148 => (if t148 = 0 then (if (bt127.1.size : Int) = 22 then ((wimplelaw0_Num.f bt127.2).bind fun t149 => (if t149 = 0 then (if bt129.2.2.2.2.2.2.1 = 7 then ((wimplelaw0_Num.f bt129.2.2.2.2.2.2.2).bind fun t150 => (if t150 = 0 then (if bt141.1.toList = ([2, 97, 98, 0] : List UInt8) then ((wimplelaw0_Num.f bt141.2).bind fun t151 => (if t151 = 0 then ((wimplelaw0_Num.f bt143.2).bind fun t152 => (if t152 = 400 then ((rdata_May.f 1 t119).bind fun t153 => (if t153 = true then ((rdata_May.f 1 (⟨#[]⟩ : ByteArray)).bind fun t154 => (if t154 = true then (none) else ((rdata_May.f 0 (⟨#[]⟩ : ByteArray)).bind fun t155 => (some (!t155))))) else (none))) else (none))) else (none))) else (none)) else (none))) else (none)) else (none))) else (none)) else (none))) else (none)) else (none))) else (none)) else (none))) else (none)) else (none))) else (none))))))) = some r := H
  have A3 := Aside0.mk A30
  clear A30
  replace H := Option.bind_eq_some_iff.mp H
  obtain ⟨⟨t125, t126⟩, A40, H⟩ := H
  replace H : ((rdata_Soa.f (⟨#[0]⟩ : ByteArray) (⟨#[0]⟩ : ByteArray) 0 0 0 0 7).bind fun bt127 => ((rdata_Unsoa.f bt127.1).bind fun bt129 => ((rdata_Txt.f k (([(⟨#[97, 98]⟩ : ByteArray), (⟨#[]⟩ : ByteArray)] : List ByteArray))).bind fun bt141 => ((rdata_A.f (-1)).bind fun bt143 => (if t119.toList = ([0, 0, 1, 2] : List UInt8) then ((wimplelaw0_Num.f t120).bind fun t145 => (if t145 = 0 then (if t121 = 258 then ((wimplelaw0_Num.f t122).bind fun t146 => (if t146 = 0 then (if t123.toList = ([0, 5, 1, 109, 0] : List UInt8) then ((wimplelaw0_Num.f t124).bind fun t147 => (if t147 = 0 then (if t125.toList = ([1, 109, 0] : List UInt8) then ((wimplelaw0_Num.f t126).bind fun t148 => (if t148 = 0 then (if (bt127.1.size : Int) = 22 then ((wimplelaw0_Num.f bt127.2).bind fun t149 => (if t149 = 0 then (if bt129.2.2.2.2.2.2.1 = 7 then ((wimplelaw0_Num.f bt129.2.2.2.2.2.2.2).bind fun t150 => (if t150 = 0 then (if bt141.1.toList = ([2, 97, 98, 0] : List UInt8) then ((wimplelaw0_Num.f bt141.2).bind fun t151 => (if t151 = 0 then ((wimplelaw0_Num.f bt143.2).bind fun t152 => (if t152 = 400 then ((rdata_May.f 1 t119).bind fun t153 => (if t153 = true then ((rdata_May.f 1 (⟨#[]⟩ : ByteArray)).bind fun t154 => (if t154 = true then (none) else ((rdata_May.f 0 (⟨#[]⟩ : ByteArray)).bind fun t155 => (some (!t155))))) else (none))) else (none))) else (none))) else (none)) else (none))) else (none)) else (none))) else (none)) else (none))) else (none)) else (none))) else (none)) else (none))) else (none)) else (none))) else (none)))))) = some r := H
  have A4 := Aside0.mk A40
  clear A40
  replace H := Option.bind_eq_some_iff.mp H
  obtain ⟨⟨t127, t128⟩, A50, H⟩ := H
  replace H : ((rdata_Unsoa.f t127).bind fun bt129 => ((rdata_Txt.f k (([(⟨#[97, 98]⟩ : ByteArray), (⟨#[]⟩ : ByteArray)] : List ByteArray))).bind fun bt141 => ((rdata_A.f (-1)).bind fun bt143 => (if t119.toList = ([0, 0, 1, 2] : List UInt8) then ((wimplelaw0_Num.f t120).bind fun t145 => (if t145 = 0 then (if t121 = 258 then ((wimplelaw0_Num.f t122).bind fun t146 => (if t146 = 0 then (if t123.toList = ([0, 5, 1, 109, 0] : List UInt8) then ((wimplelaw0_Num.f t124).bind fun t147 => (if t147 = 0 then (if t125.toList = ([1, 109, 0] : List UInt8) then ((wimplelaw0_Num.f t126).bind fun t148 => (if t148 = 0 then (if (t127.size : Int) = 22 then ((wimplelaw0_Num.f t128).bind fun t149 => (if t149 = 0 then (if bt129.2.2.2.2.2.2.1 = 7 then ((wimplelaw0_Num.f bt129.2.2.2.2.2.2.2).bind fun t150 => (if t150 = 0 then (if bt141.1.toList = ([2, 97, 98, 0] : List UInt8) then ((wimplelaw0_Num.f bt141.2).bind fun t151 => (if t151 = 0 then ((wimplelaw0_Num.f bt143.2).bind fun t152 => (if t152 = 400 then ((rdata_May.f 1 t119).bind fun t153 => (if t153 = true then ((rdata_May.f 1 (⟨#[]⟩ : ByteArray)).bind fun t154 => (if t154 = true then (none) else ((rdata_May.f 0 (⟨#[]⟩ : ByteArray)).bind fun t155 => (some (!t155))))) else (none))) else (none))) else (none))) else (none)) else (none))) else (none)) else (none))) else (none)) else (none))) else (none)) else (none))) else (none)) else (none))) else (none)) else (none))) else (none))))) = some r := H
  have A5 := Aside0.mk A50
  clear A50
  replace H := Option.bind_eq_some_iff.mp H
  obtain ⟨⟨t129, t130, t131, t132, t133, t134, t135, t136⟩, A60, H⟩ := H
  replace H : ((rdata_Txt.f k (([(⟨#[97, 98]⟩ : ByteArray), (⟨#[]⟩ : ByteArray)] : List ByteArray))).bind fun bt141 => ((rdata_A.f (-1)).bind fun bt143 => (if t119.toList = ([0, 0, 1, 2] : List UInt8) then ((wimplelaw0_Num.f t120).bind fun t145 => (if t145 = 0 then (if t121 = 258 then ((wimplelaw0_Num.f t122).bind fun t146 => (if t146 = 0 then (if t123.toList = ([0, 5, 1, 109, 0] : List UInt8) then ((wimplelaw0_Num.f t124).bind fun t147 => (if t147 = 0 then (if t125.toList = ([1, 109, 0] : List UInt8) then ((wimplelaw0_Num.f t126).bind fun t148 => (if t148 = 0 then (if (t127.size : Int) = 22 then ((wimplelaw0_Num.f t128).bind fun t149 => (if t149 = 0 then (if t135 = 7 then ((wimplelaw0_Num.f t136).bind fun t150 => (if t150 = 0 then (if bt141.1.toList = ([2, 97, 98, 0] : List UInt8) then ((wimplelaw0_Num.f bt141.2).bind fun t151 => (if t151 = 0 then ((wimplelaw0_Num.f bt143.2).bind fun t152 => (if t152 = 400 then ((rdata_May.f 1 t119).bind fun t153 => (if t153 = true then ((rdata_May.f 1 (⟨#[]⟩ : ByteArray)).bind fun t154 => (if t154 = true then (none) else ((rdata_May.f 0 (⟨#[]⟩ : ByteArray)).bind fun t155 => (some (!t155))))) else (none))) else (none))) else (none))) else (none)) else (none))) else (none)) else (none))) else (none)) else (none))) else (none)) else (none))) else (none)) else (none))) else (none)) else (none))) else (none)))) = some r := H
  have A6 := Aside0.mk A60
  clear A60
  obtain ⟨y138, hy138⟩ : ∃ y_ : List ByteArray, y_ = (([(⟨#[97, 98]⟩ : ByteArray), (⟨#[]⟩ : ByteArray)] : List ByteArray)) := ⟨_, rfl⟩
  replace H : ((rdata_Txt.f k y138).bind fun bt141 => ((rdata_A.f (-1)).bind fun bt143 => (if t119.toList = ([0, 0, 1, 2] : List UInt8) then ((wimplelaw0_Num.f t120).bind fun t145 => (if t145 = 0 then (if t121 = 258 then ((wimplelaw0_Num.f t122).bind fun t146 => (if t146 = 0 then (if t123.toList = ([0, 5, 1, 109, 0] : List UInt8) then ((wimplelaw0_Num.f t124).bind fun t147 => (if t147 = 0 then (if t125.toList = ([1, 109, 0] : List UInt8) then ((wimplelaw0_Num.f t126).bind fun t148 => (if t148 = 0 then (if (t127.size : Int) = 22 then ((wimplelaw0_Num.f t128).bind fun t149 => (if t149 = 0 then (if t135 = 7 then ((wimplelaw0_Num.f t136).bind fun t150 => (if t150 = 0 then (if bt141.1.toList = ([2, 97, 98, 0] : List UInt8) then ((wimplelaw0_Num.f bt141.2).bind fun t151 => (if t151 = 0 then ((wimplelaw0_Num.f bt143.2).bind fun t152 => (if t152 = 400 then ((rdata_May.f 1 t119).bind fun t153 => (if t153 = true then ((rdata_May.f 1 (⟨#[]⟩ : ByteArray)).bind fun t154 => (if t154 = true then (none) else ((rdata_May.f 0 (⟨#[]⟩ : ByteArray)).bind fun t155 => (some (!t155))))) else (none))) else (none))) else (none))) else (none)) else (none))) else (none)) else (none))) else (none)) else (none))) else (none)) else (none))) else (none)) else (none))) else (none)) else (none))) else (none)))) = some r := by first | (rw [hy138]; with_reducible exact H) | (have H2_ := (Option.bind_some _ _).symm.trans H; rw [hy138]; with_reducible exact H2_) | (have H2_ := (Option.bind_some _ _).symm.trans H; with_reducible exact H2_) | with_reducible exact H | (rw [hy138]; exact H) | exact H
  have Ny138 := Aside0.mk hy138
  clear hy138
  replace H := Option.bind_eq_some_iff.mp H
  obtain ⟨⟨t141, t142⟩, A70, H⟩ := H
  replace H : ((rdata_A.f (-1)).bind fun bt143 => (if t119.toList = ([0, 0, 1, 2] : List UInt8) then ((wimplelaw0_Num.f t120).bind fun t145 => (if t145 = 0 then (if t121 = 258 then ((wimplelaw0_Num.f t122).bind fun t146 => (if t146 = 0 then (if t123.toList = ([0, 5, 1, 109, 0] : List UInt8) then ((wimplelaw0_Num.f t124).bind fun t147 => (if t147 = 0 then (if t125.toList = ([1, 109, 0] : List UInt8) then ((wimplelaw0_Num.f t126).bind fun t148 => (if t148 = 0 then (if (t127.size : Int) = 22 then ((wimplelaw0_Num.f t128).bind fun t149 => (if t149 = 0 then (if t135 = 7 then ((wimplelaw0_Num.f t136).bind fun t150 => (if t150 = 0 then (if t141.toList = ([2, 97, 98, 0] : List UInt8) then ((wimplelaw0_Num.f t142).bind fun t151 => (if t151 = 0 then ((wimplelaw0_Num.f bt143.2).bind fun t152 => (if t152 = 400 then ((rdata_May.f 1 t119).bind fun t153 => (if t153 = true then ((rdata_May.f 1 (⟨#[]⟩ : ByteArray)).bind fun t154 => (if t154 = true then (none) else ((rdata_May.f 0 (⟨#[]⟩ : ByteArray)).bind fun t155 => (some (!t155))))) else (none))) else (none))) else (none))) else (none)) else (none))) else (none)) else (none))) else (none)) else (none))) else (none)) else (none))) else (none)) else (none))) else (none)) else (none))) else (none))) = some r := H
  have A7 := Aside0.mk A70
  clear A70
  replace H := Option.bind_eq_some_iff.mp H
  obtain ⟨⟨t143, t144⟩, A80, H⟩ := H
  replace H : (if t119.toList = ([0, 0, 1, 2] : List UInt8) then ((wimplelaw0_Num.f t120).bind fun t145 => (if t145 = 0 then (if t121 = 258 then ((wimplelaw0_Num.f t122).bind fun t146 => (if t146 = 0 then (if t123.toList = ([0, 5, 1, 109, 0] : List UInt8) then ((wimplelaw0_Num.f t124).bind fun t147 => (if t147 = 0 then (if t125.toList = ([1, 109, 0] : List UInt8) then ((wimplelaw0_Num.f t126).bind fun t148 => (if t148 = 0 then (if (t127.size : Int) = 22 then ((wimplelaw0_Num.f t128).bind fun t149 => (if t149 = 0 then (if t135 = 7 then ((wimplelaw0_Num.f t136).bind fun t150 => (if t150 = 0 then (if t141.toList = ([2, 97, 98, 0] : List UInt8) then ((wimplelaw0_Num.f t142).bind fun t151 => (if t151 = 0 then ((wimplelaw0_Num.f t144).bind fun t152 => (if t152 = 400 then ((rdata_May.f 1 t119).bind fun t153 => (if t153 = true then ((rdata_May.f 1 (⟨#[]⟩ : ByteArray)).bind fun t154 => (if t154 = true then (none) else ((rdata_May.f 0 (⟨#[]⟩ : ByteArray)).bind fun t155 => (some (!t155))))) else (none))) else (none))) else (none))) else (none)) else (none))) else (none)) else (none))) else (none)) else (none))) else (none)) else (none))) else (none)) else (none))) else (none)) else (none))) else (none)) = some r := H
  have A8 := Aside0.mk A80
  clear A80
  by_cases c9 : t119.toList = ([0, 0, 1, 2] : List UInt8)
  · rw [if_pos c9] at H
    have c9b0 : (t119.toList == ([0, 0, 1, 2] : List UInt8)) = true := beq_iff_eq.mpr c9
    have c9b1 : (t119.toList != ([0, 0, 1, 2] : List UInt8)) = false := bne_eq_false_iff_eq.mpr c9
    clear c9
    replace H := Option.bind_eq_some_iff.mp H
    obtain ⟨t145, A100, H⟩ := H
    replace H : (if t145 = 0 then (if t121 = 258 then ((wimplelaw0_Num.f t122).bind fun t146 => (if t146 = 0 then (if t123.toList = ([0, 5, 1, 109, 0] : List UInt8) then ((wimplelaw0_Num.f t124).bind fun t147 => (if t147 = 0 then (if t125.toList = ([1, 109, 0] : List UInt8) then ((wimplelaw0_Num.f t126).bind fun t148 => (if t148 = 0 then (if (t127.size : Int) = 22 then ((wimplelaw0_Num.f t128).bind fun t149 => (if t149 = 0 then (if t135 = 7 then ((wimplelaw0_Num.f t136).bind fun t150 => (if t150 = 0 then (if t141.toList = ([2, 97, 98, 0] : List UInt8) then ((wimplelaw0_Num.f t142).bind fun t151 => (if t151 = 0 then ((wimplelaw0_Num.f t144).bind fun t152 => (if t152 = 400 then ((rdata_May.f 1 t119).bind fun t153 => (if t153 = true then ((rdata_May.f 1 (⟨#[]⟩ : ByteArray)).bind fun t154 => (if t154 = true then (none) else ((rdata_May.f 0 (⟨#[]⟩ : ByteArray)).bind fun t155 => (some (!t155))))) else (none))) else (none))) else (none))) else (none)) else (none))) else (none)) else (none))) else (none)) else (none))) else (none)) else (none))) else (none)) else (none))) else (none)) else (none)) = some r := H
    have A10 := Aside0.mk A100
    clear A100
    by_cases c11 : t145 = 0
    · rw [if_pos c11] at H
      have c11b0 : (t145 == 0) = true := beq_iff_eq.mpr c11
      have c11b1 : (t145 != 0) = false := bne_eq_false_iff_eq.mpr c11
      clear c11
      by_cases c12 : t121 = 258
      · rw [if_pos c12] at H
        have c12b0 : (t121 == 258) = true := beq_iff_eq.mpr c12
        have c12b1 : (t121 != 258) = false := bne_eq_false_iff_eq.mpr c12
        clear c12
        replace H := Option.bind_eq_some_iff.mp H
        obtain ⟨t146, A130, H⟩ := H
        replace H : (if t146 = 0 then (if t123.toList = ([0, 5, 1, 109, 0] : List UInt8) then ((wimplelaw0_Num.f t124).bind fun t147 => (if t147 = 0 then (if t125.toList = ([1, 109, 0] : List UInt8) then ((wimplelaw0_Num.f t126).bind fun t148 => (if t148 = 0 then (if (t127.size : Int) = 22 then ((wimplelaw0_Num.f t128).bind fun t149 => (if t149 = 0 then (if t135 = 7 then ((wimplelaw0_Num.f t136).bind fun t150 => (if t150 = 0 then (if t141.toList = ([2, 97, 98, 0] : List UInt8) then ((wimplelaw0_Num.f t142).bind fun t151 => (if t151 = 0 then ((wimplelaw0_Num.f t144).bind fun t152 => (if t152 = 400 then ((rdata_May.f 1 t119).bind fun t153 => (if t153 = true then ((rdata_May.f 1 (⟨#[]⟩ : ByteArray)).bind fun t154 => (if t154 = true then (none) else ((rdata_May.f 0 (⟨#[]⟩ : ByteArray)).bind fun t155 => (some (!t155))))) else (none))) else (none))) else (none))) else (none)) else (none))) else (none)) else (none))) else (none)) else (none))) else (none)) else (none))) else (none)) else (none)) = some r := H
        have A13 := Aside0.mk A130
        clear A130
        by_cases c14 : t146 = 0
        · rw [if_pos c14] at H
          have c14b0 : (t146 == 0) = true := beq_iff_eq.mpr c14
          have c14b1 : (t146 != 0) = false := bne_eq_false_iff_eq.mpr c14
          clear c14
          by_cases c15 : t123.toList = ([0, 5, 1, 109, 0] : List UInt8)
          · rw [if_pos c15] at H
            have c15b0 : (t123.toList == ([0, 5, 1, 109, 0] : List UInt8)) = true := beq_iff_eq.mpr c15
            have c15b1 : (t123.toList != ([0, 5, 1, 109, 0] : List UInt8)) = false := bne_eq_false_iff_eq.mpr c15
            clear c15
            replace H := Option.bind_eq_some_iff.mp H
            obtain ⟨t147, A160, H⟩ := H
            replace H : (if t147 = 0 then (if t125.toList = ([1, 109, 0] : List UInt8) then ((wimplelaw0_Num.f t126).bind fun t148 => (if t148 = 0 then (if (t127.size : Int) = 22 then ((wimplelaw0_Num.f t128).bind fun t149 => (if t149 = 0 then (if t135 = 7 then ((wimplelaw0_Num.f t136).bind fun t150 => (if t150 = 0 then (if t141.toList = ([2, 97, 98, 0] : List UInt8) then ((wimplelaw0_Num.f t142).bind fun t151 => (if t151 = 0 then ((wimplelaw0_Num.f t144).bind fun t152 => (if t152 = 400 then ((rdata_May.f 1 t119).bind fun t153 => (if t153 = true then ((rdata_May.f 1 (⟨#[]⟩ : ByteArray)).bind fun t154 => (if t154 = true then (none) else ((rdata_May.f 0 (⟨#[]⟩ : ByteArray)).bind fun t155 => (some (!t155))))) else (none))) else (none))) else (none))) else (none)) else (none))) else (none)) else (none))) else (none)) else (none))) else (none)) else (none)) = some r := H
            have A16 := Aside0.mk A160
            clear A160
            by_cases c17 : t147 = 0
            · rw [if_pos c17] at H
              have c17b0 : (t147 == 0) = true := beq_iff_eq.mpr c17
              have c17b1 : (t147 != 0) = false := bne_eq_false_iff_eq.mpr c17
              clear c17
              by_cases c18 : t125.toList = ([1, 109, 0] : List UInt8)
              · rw [if_pos c18] at H
                have c18b0 : (t125.toList == ([1, 109, 0] : List UInt8)) = true := beq_iff_eq.mpr c18
                have c18b1 : (t125.toList != ([1, 109, 0] : List UInt8)) = false := bne_eq_false_iff_eq.mpr c18
                clear c18
                replace H := Option.bind_eq_some_iff.mp H
                obtain ⟨t148, A190, H⟩ := H
                replace H : (if t148 = 0 then (if (t127.size : Int) = 22 then ((wimplelaw0_Num.f t128).bind fun t149 => (if t149 = 0 then (if t135 = 7 then ((wimplelaw0_Num.f t136).bind fun t150 => (if t150 = 0 then (if t141.toList = ([2, 97, 98, 0] : List UInt8) then ((wimplelaw0_Num.f t142).bind fun t151 => (if t151 = 0 then ((wimplelaw0_Num.f t144).bind fun t152 => (if t152 = 400 then ((rdata_May.f 1 t119).bind fun t153 => (if t153 = true then ((rdata_May.f 1 (⟨#[]⟩ : ByteArray)).bind fun t154 => (if t154 = true then (none) else ((rdata_May.f 0 (⟨#[]⟩ : ByteArray)).bind fun t155 => (some (!t155))))) else (none))) else (none))) else (none))) else (none)) else (none))) else (none)) else (none))) else (none)) else (none)) = some r := H
                have A19 := Aside0.mk A190
                clear A190
                by_cases c20 : t148 = 0
                · rw [if_pos c20] at H
                  have c20b0 : (t148 == 0) = true := beq_iff_eq.mpr c20
                  have c20b1 : (t148 != 0) = false := bne_eq_false_iff_eq.mpr c20
                  clear c20
                  by_cases c21 : (t127.size : Int) = 22
                  · rw [if_pos c21] at H
                    have c21b0 : ((t127.size : Int) == 22) = true := beq_iff_eq.mpr c21
                    have c21b1 : ((t127.size : Int) != 22) = false := bne_eq_false_iff_eq.mpr c21
                    clear c21
                    replace H := Option.bind_eq_some_iff.mp H
                    obtain ⟨t149, A220, H⟩ := H
                    replace H : (if t149 = 0 then (if t135 = 7 then ((wimplelaw0_Num.f t136).bind fun t150 => (if t150 = 0 then (if t141.toList = ([2, 97, 98, 0] : List UInt8) then ((wimplelaw0_Num.f t142).bind fun t151 => (if t151 = 0 then ((wimplelaw0_Num.f t144).bind fun t152 => (if t152 = 400 then ((rdata_May.f 1 t119).bind fun t153 => (if t153 = true then ((rdata_May.f 1 (⟨#[]⟩ : ByteArray)).bind fun t154 => (if t154 = true then (none) else ((rdata_May.f 0 (⟨#[]⟩ : ByteArray)).bind fun t155 => (some (!t155))))) else (none))) else (none))) else (none))) else (none)) else (none))) else (none)) else (none)) = some r := H
                    have A22 := Aside0.mk A220
                    clear A220
                    by_cases c23 : t149 = 0
                    · rw [if_pos c23] at H
                      have c23b0 : (t149 == 0) = true := beq_iff_eq.mpr c23
                      have c23b1 : (t149 != 0) = false := bne_eq_false_iff_eq.mpr c23
                      clear c23
                      by_cases c24 : t135 = 7
                      · rw [if_pos c24] at H
                        have c24b0 : (t135 == 7) = true := beq_iff_eq.mpr c24
                        have c24b1 : (t135 != 7) = false := bne_eq_false_iff_eq.mpr c24
                        clear c24
                        replace H := Option.bind_eq_some_iff.mp H
                        obtain ⟨t150, A250, H⟩ := H
                        replace H : (if t150 = 0 then (if t141.toList = ([2, 97, 98, 0] : List UInt8) then ((wimplelaw0_Num.f t142).bind fun t151 => (if t151 = 0 then ((wimplelaw0_Num.f t144).bind fun t152 => (if t152 = 400 then ((rdata_May.f 1 t119).bind fun t153 => (if t153 = true then ((rdata_May.f 1 (⟨#[]⟩ : ByteArray)).bind fun t154 => (if t154 = true then (none) else ((rdata_May.f 0 (⟨#[]⟩ : ByteArray)).bind fun t155 => (some (!t155))))) else (none))) else (none))) else (none))) else (none)) else (none)) = some r := H
                        have A25 := Aside0.mk A250
                        clear A250
                        by_cases c26 : t150 = 0
                        · rw [if_pos c26] at H
                          have c26b0 : (t150 == 0) = true := beq_iff_eq.mpr c26
                          have c26b1 : (t150 != 0) = false := bne_eq_false_iff_eq.mpr c26
                          clear c26
                          by_cases c27 : t141.toList = ([2, 97, 98, 0] : List UInt8)
                          · rw [if_pos c27] at H
                            have c27b0 : (t141.toList == ([2, 97, 98, 0] : List UInt8)) = true := beq_iff_eq.mpr c27
                            have c27b1 : (t141.toList != ([2, 97, 98, 0] : List UInt8)) = false := bne_eq_false_iff_eq.mpr c27
                            clear c27
                            replace H := Option.bind_eq_some_iff.mp H
                            obtain ⟨t151, A280, H⟩ := H
                            replace H : (if t151 = 0 then ((wimplelaw0_Num.f t144).bind fun t152 => (if t152 = 400 then ((rdata_May.f 1 t119).bind fun t153 => (if t153 = true then ((rdata_May.f 1 (⟨#[]⟩ : ByteArray)).bind fun t154 => (if t154 = true then (none) else ((rdata_May.f 0 (⟨#[]⟩ : ByteArray)).bind fun t155 => (some (!t155))))) else (none))) else (none))) else (none)) = some r := H
                            have A28 := Aside0.mk A280
                            clear A280
                            by_cases c29 : t151 = 0
                            · rw [if_pos c29] at H
                              have c29b0 : (t151 == 0) = true := beq_iff_eq.mpr c29
                              have c29b1 : (t151 != 0) = false := bne_eq_false_iff_eq.mpr c29
                              clear c29
                              replace H := Option.bind_eq_some_iff.mp H
                              obtain ⟨t152, A300, H⟩ := H
                              replace H : (if t152 = 400 then ((rdata_May.f 1 t119).bind fun t153 => (if t153 = true then ((rdata_May.f 1 (⟨#[]⟩ : ByteArray)).bind fun t154 => (if t154 = true then (none) else ((rdata_May.f 0 (⟨#[]⟩ : ByteArray)).bind fun t155 => (some (!t155))))) else (none))) else (none)) = some r := H
                              have A30 := Aside0.mk A300
                              clear A300
                              by_cases c31 : t152 = 400
                              · rw [if_pos c31] at H
                                have c31b0 : (t152 == 400) = true := beq_iff_eq.mpr c31
                                have c31b1 : (t152 != 400) = false := bne_eq_false_iff_eq.mpr c31
                                clear c31
                                replace H := Option.bind_eq_some_iff.mp H
                                obtain ⟨t153, A320, H⟩ := H
                                replace H : (if t153 = true then ((rdata_May.f 1 (⟨#[]⟩ : ByteArray)).bind fun t154 => (if t154 = true then (none) else ((rdata_May.f 0 (⟨#[]⟩ : ByteArray)).bind fun t155 => (some (!t155))))) else (none)) = some r := H
                                have A32 := Aside0.mk A320
                                clear A320
                                by_cases c33 : t153 = true
                                · subst c33
                                  have H1 : ((rdata_May.f 1 (⟨#[]⟩ : ByteArray)).bind fun t154 => (if t154 = true then (none) else ((rdata_May.f 0 (⟨#[]⟩ : ByteArray)).bind fun t155 => (some (!t155))))) = some r := by rw [if_pos rfl] at H; exact H
                                  clear H
                                  have H := H1
                                  clear H1
                                  replace H := Option.bind_eq_some_iff.mp H
                                  obtain ⟨t154, A340, H⟩ := H
                                  replace H : (if t154 = true then (none) else ((rdata_May.f 0 (⟨#[]⟩ : ByteArray)).bind fun t155 => (some (!t155)))) = some r := H
                                  have A34 := Aside0.mk A340
                                  clear A340
                                  by_cases c35 : t154 = true
                                  · subst c35
                                    have H1 : (none) = some r := by rw [if_pos rfl] at H; exact H
                                    clear H
                                    have H := H1
                                    clear H1
                                    exact absurd H (by simp)
                                  · replace c35 := Bool.eq_false_iff.mpr c35
                                    subst c35
                                    have H1 : ((rdata_May.f 0 (⟨#[]⟩ : ByteArray)).bind fun t155 => (some (!t155))) = some r := by rw [if_neg (show ¬ (false = true) by decide)] at H; exact H
                                    clear H
                                    have H := H1
                                    clear H1
                                    replace H := Option.bind_eq_some_iff.mp H
                                    obtain ⟨t155, A360, H⟩ := H
                                    replace H : (some (!t155)) = some r := H
                                    have A36 := Aside0.mk A360
                                    clear A360
                                    obtain rfl := Option.some.inj H
                                    go_enter Try.func43, Try.ntmps43
                                    go_wp2_with (first | ((with_reducible refine gate_dst (N := 18) rfl ?_); (try (refine gate_guard (by rfl) ?_; dsimp only)); (with_reducible refine gate_callee (f := 25) rfl ?_); refine goesL_ (some 18) rfl rfl Try.func25 (by kernel_rfl) rfl #[.int .i64 258] rfl (by (try simp only [List.map_toArray, List.map_cons, List.map_nil]); first | done | rfl | (simp only [List.length_drop, List.length_take]; rfl)) ?_; (with_reducible refine (rdata_A.calls 258 t119 t120 _ A1.out).mono ?_); rintro e w37 ⟨rfl, hb⟩; refine ⟨_, rfl, ?_⟩; have n0_ := Aside0.mk (below_step (by repeat (first | (with_reducible first | exact HB.out | apply below_alloc | apply pw_below_drewN | apply below_drew1) | exact HB.out)) hb); clear HB; have HB := n0_; clear n0_; (try clear hb); (try clear hb2); (try clear hk); (try clear hi)) | ((with_reducible refine gate_dst (N := 23) rfl ?_); (try (refine gate_guard (by rfl) ?_; dsimp only)); (with_reducible refine gate_callee (f := 27) rfl ?_); refine goesL_ (some 23) rfl rfl Try.func27 (by kernel_rfl) rfl #[.string t119] rfl (by (try simp only [List.map_toArray, List.map_cons, List.map_nil]); first | done | rfl | (simp only [List.length_drop, List.length_take]; rfl)) ?_; (with_reducible refine (rdata_Addr.calls t119 t121 t122 _ A2.out).mono ?_); rintro e w38 ⟨rfl, hb⟩; refine ⟨_, rfl, ?_⟩; have n0_ := Aside0.mk (below_step (by repeat (first | (with_reducible first | exact HB.out | apply below_alloc | apply pw_below_drewN | apply below_drew1) | exact HB.out)) hb); clear HB; have HB := n0_; clear n0_; (try clear hb); (try clear hb2); (try clear hk); (try clear hi)) | ((with_reducible refine gate_dst (N := 27) rfl ?_); (try (refine gate_guard (by rfl) ?_; dsimp only)); (with_reducible refine gate_callee (f := 29) rfl ?_); refine goesL_ (some 27) rfl rfl Try.func29 (by kernel_rfl) rfl #[.int .i64 5, .string (⟨#[1, 109, 0]⟩ : ByteArray)] rfl (by (try simp only [List.map_toArray, List.map_cons, List.map_nil]); first | done | rfl | (simp only [List.length_drop, List.length_take]; rfl)) ?_; (with_reducible refine (rdata_Mx.calls 5 (⟨#[1, 109, 0]⟩ : ByteArray) t123 t124 _ A3.out).mono ?_); rintro e w39 ⟨rfl, hb⟩; refine ⟨_, rfl, ?_⟩; have n0_ := Aside0.mk (below_step (by repeat (first | (with_reducible first | exact HB.out | apply below_alloc | apply pw_below_drewN | apply below_drew1) | exact HB.out)) hb); clear HB; have HB := n0_; clear n0_; (try clear hb); (try clear hb2); (try clear hk); (try clear hi)) | ((with_reducible refine gate_dst (N := 32) rfl ?_); (try (refine gate_guard (by rfl) ?_; dsimp only)); (with_reducible refine gate_callee (f := 31) rfl ?_); refine goesL_ (some 32) rfl rfl Try.func31 (by kernel_rfl) rfl #[.int .i64 15, .string t123] rfl (by (try simp only [List.map_toArray, List.map_cons, List.map_nil]); first | done | rfl | (simp only [List.length_drop, List.length_take]; rfl)) ?_; (with_reducible refine (rdata_Host.calls 15 t123 t125 t126 _ A4.out).mono ?_); rintro e w40 ⟨rfl, hb⟩; refine ⟨_, rfl, ?_⟩; have n0_ := Aside0.mk (below_step (by repeat (first | (with_reducible first | exact HB.out | apply below_alloc | apply pw_below_drewN | apply below_drew1) | exact HB.out)) hb); clear HB; have HB := n0_; clear n0_; (try clear hb); (try clear hb2); (try clear hk); (try clear hi)) | ((with_reducible refine gate_dst (N := 37) rfl ?_); (try (refine gate_guard (by rfl) ?_; dsimp only)); (with_reducible refine gate_callee (f := 35) rfl ?_); refine goesL_ (some 37) rfl rfl Try.func35 (by kernel_rfl) rfl #[.agg #[.string (⟨#[0]⟩ : ByteArray), .string (⟨#[0]⟩ : ByteArray), .int .i64 0, .int .i64 0, .int .i64 0, .int .i64 0, .int .i64 7]] rfl (by (try simp only [List.map_toArray, List.map_cons, List.map_nil]); first | done | rfl | (simp only [List.length_drop, List.length_take]; rfl)) ?_; (with_reducible refine (rdata_Soa.calls (⟨#[0]⟩ : ByteArray) (⟨#[0]⟩ : ByteArray) 0 0 0 0 7 t127 t128 _ A5.out).mono ?_); rintro e w41 ⟨rfl, hb⟩; refine ⟨_, rfl, ?_⟩; have n0_ := Aside0.mk (below_step (by repeat (first | (with_reducible first | exact HB.out | apply below_alloc | apply pw_below_drewN | apply below_drew1) | exact HB.out)) hb); clear HB; have HB := n0_; clear n0_; (try clear hb); (try clear hb2); (try clear hk); (try clear hi)) | ((with_reducible refine gate_dst (N := 42) rfl ?_); (try (refine gate_guard (by rfl) ?_; dsimp only)); (with_reducible refine gate_callee (f := 37) rfl ?_); refine goesL_ (some 42) rfl rfl Try.func37 (by kernel_rfl) rfl #[.string t127] rfl (by (try simp only [List.map_toArray, List.map_cons, List.map_nil]); first | done | rfl | (simp only [List.length_drop, List.length_take]; rfl)) ?_; (with_reducible refine (rdata_Unsoa.calls t127 t129 t130 t131 t132 t133 t134 t135 t136 _ A6.out).mono ?_); rintro e w42 ⟨rfl, hb⟩; refine ⟨_, rfl, ?_⟩; have n0_ := Aside0.mk (below_step (by repeat (first | (with_reducible first | exact HB.out | apply below_alloc | apply pw_below_drewN | apply below_drew1) | exact HB.out)) hb); clear HB; have HB := n0_; clear n0_; (try clear hb); (try clear hb2); (try clear hk); (try clear hi)) | ((with_reducible refine gate_dst (N := 11) rfl ?_); (try (refine gate_guard (by rfl) ?_; dsimp only)); refine box_event ?hg (N := 11) ?hd (cs := #[.string (⟨#[]⟩ : ByteArray), .string (⟨#[]⟩ : ByteArray), .int .i64 0, .int .i64 0, .int .i64 0, .int .i64 0, .int .i64 0]) (t := 59) ?hr ?_; (case hd => rfl); (case hg => rfl); (case hr => first | (go_simp; done) | (go_simp; rfl)); intro gb137 hg w43 hbox hb; have n0_ := Aside0.mk (below_step (by repeat (first | (with_reducible first | exact HB.out | apply below_alloc | apply pw_below_drewN | apply below_drew1) | exact HB.out)) hb); have n1_ := Aside0.mk (hbox); have n2_ := Aside0.mk ((by rw [hg]; exact (below_size (by repeat (first | (with_reducible first | exact HB.out | apply below_alloc | apply pw_below_drewN | apply below_drew1) | exact HB.out))) : w.heap.size ≤ gb137)); have n3_ := Aside0.mk ((by rw [hg]; exact (below_size (by repeat (first | (with_reducible first | exact HB.out | apply below_alloc | apply pw_below_drewN | apply below_drew1) | exact HB.out))) : w.heap.size ≤ gb137)); clear HB; have HB := n0_; have BK137 := n1_; have GW137 := n2_; have GE137 := n3_; clear n0_ n1_ n2_ n3_; clear hb hbox hg; have hcz44_0 : w43.cell? ⟨gb137, 0, none⟩ = some (.string (⟨#[]⟩ : ByteArray)) := (blk_cell BK137.out 0).trans rfl; have hcz44_1 : w43.cell? ⟨gb137, 1, none⟩ = some (.string (⟨#[]⟩ : ByteArray)) := (blk_cell BK137.out 1).trans rfl; have hcz44_2 : w43.cell? ⟨gb137, 2, none⟩ = some (.int .i64 0) := (blk_cell BK137.out 2).trans rfl; have hcz44_3 : w43.cell? ⟨gb137, 3, none⟩ = some (.int .i64 0) := (blk_cell BK137.out 3).trans rfl; have hcz44_4 : w43.cell? ⟨gb137, 4, none⟩ = some (.int .i64 0) := (blk_cell BK137.out 4).trans rfl; have hcz44_5 : w43.cell? ⟨gb137, 5, none⟩ = some (.int .i64 0) := (blk_cell BK137.out 5).trans rfl; have hcz44_6 : w43.cell? ⟨gb137, 6, none⟩ = some (.int .i64 0) := (blk_cell BK137.out 6).trans rfl; have hfz44_0 := blk_frozen BK137.out 0; have hfz44_1 := blk_frozen BK137.out 1; have hfz44_2 := blk_frozen BK137.out 2; have hfz44_3 := blk_frozen BK137.out 3; have hfz44_4 := blk_frozen BK137.out 4; have hfz44_5 := blk_frozen BK137.out 5; have hfz44_6 := blk_frozen BK137.out 6) | ((with_reducible refine gate_dst (N := 46) rfl ?_); (try (refine gate_guard (by rfl) ?_; dsimp only)); refine Kd.R_lit Kd.string _ 9 ?hg (N := 46) ?hd (xs := ([(⟨#[97, 98]⟩ : ByteArray), (⟨#[]⟩ : ByteArray)] : List ByteArray)) (inner := [.string (⟨#[97, 98]⟩ : ByteArray), .string (⟨#[]⟩ : ByteArray)]) (ok := fun _ => True) (okp := fun _ => True) ?hr ?hp (fun _ hk => hk) trivial (Below.refl _ _) (Nat.le_refl _) (by simp) ?_; (case hd => rfl); (case hg => rfl); (case hr => first | (go_simp; done) | (go_simp; rfl)); (case hp => exact (Reps.one (show Kd.M Kd.string _ _ _ (⟨#[97, 98]⟩ : ByteArray) [.string (⟨#[97, 98]⟩ : ByteArray)] from rfl) (Reps.one (show Kd.M Kd.string _ _ _ (⟨#[]⟩ : ByteArray) [.string (⟨#[]⟩ : ByteArray)] from rfl) (Reps.none _ _)))); intro v139 w45 ho46 hb hg_ hnew_; clear hg_ hnew_; (first | rw [← Ny138.out] at ho46 | (simp only [Int.reduceToNat] at ho46; rw [← Ny138.out] at ho46)); have n0_ := Aside0.mk (Kd.R_lower ho46 (below_size (by repeat (first | (with_reducible first | exact HB.out | apply below_alloc | apply pw_below_drewN | apply below_drew1 | refine below_set ?_ GE137.out) | exact HB.out)))); have n1_ := Aside0.mk (blk_below (g := gb137) (o := .cells #[.string t129, .string t130, .int .i64 t131, .int .i64 t132, .int .i64 t133, .int .i64 t134, .int .i64 t135] 59 (0, 0)) (by (with_reducible repeat (first | refine blk_drewN ?_ _ | refine blk_drew ?_ | refine blk_alloc ?_ _)); refine blk_put (cs := #[.string t129, .string t130, .int .i64 t131, .int .i64 t132, .int .i64 t133, .int .i64 t134, .int .i64 0]) ?_ 6 _ rfl; (with_reducible repeat (first | refine blk_drewN ?_ _ | refine blk_drew ?_ | refine blk_alloc ?_ _)); refine blk_put (cs := #[.string t129, .string t130, .int .i64 t131, .int .i64 t132, .int .i64 t133, .int .i64 0, .int .i64 0]) ?_ 5 _ rfl; (with_reducible repeat (first | refine blk_drewN ?_ _ | refine blk_drew ?_ | refine blk_alloc ?_ _)); refine blk_put (cs := #[.string t129, .string t130, .int .i64 t131, .int .i64 t132, .int .i64 0, .int .i64 0, .int .i64 0]) ?_ 4 _ rfl; (with_reducible repeat (first | refine blk_drewN ?_ _ | refine blk_drew ?_ | refine blk_alloc ?_ _)); refine blk_put (cs := #[.string t129, .string t130, .int .i64 t131, .int .i64 0, .int .i64 0, .int .i64 0, .int .i64 0]) ?_ 3 _ rfl; (with_reducible repeat (first | refine blk_drewN ?_ _ | refine blk_drew ?_ | refine blk_alloc ?_ _)); refine blk_put (cs := #[.string t129, .string t130, .int .i64 0, .int .i64 0, .int .i64 0, .int .i64 0, .int .i64 0]) ?_ 2 _ rfl; (with_reducible repeat (first | refine blk_drewN ?_ _ | refine blk_drew ?_ | refine blk_alloc ?_ _)); refine blk_put (cs := #[.string t129, .string (⟨#[]⟩ : ByteArray), .int .i64 0, .int .i64 0, .int .i64 0, .int .i64 0, .int .i64 0]) ?_ 1 _ rfl; (with_reducible repeat (first | refine blk_drewN ?_ _ | refine blk_drew ?_ | refine blk_alloc ?_ _)); refine blk_put (cs := #[.string (⟨#[]⟩ : ByteArray), .string (⟨#[]⟩ : ByteArray), .int .i64 0, .int .i64 0, .int .i64 0, .int .i64 0, .int .i64 0]) ?_ 0 _ rfl; (with_reducible repeat (first | refine blk_drewN ?_ _ | refine blk_drew ?_ | refine blk_alloc ?_ _)); exact BK137.out) hb); have n2_ := Aside0.mk (below_step (by repeat (first | (with_reducible first | exact HB.out | apply below_alloc | apply pw_below_drewN | apply below_drew1 | refine below_set ?_ GE137.out) | exact HB.out)) hb); clear BK137; clear HB; have HO140 := n0_; have BK137 := n1_; have HB := n2_; clear n0_ n1_ n2_; clear hb ho46; obtain ⟨Ao47, co47, eo47⟩ := Kd.R_slice HO140.out; subst eo47) | ((with_reducible refine gate_dst (N := 47) rfl ?_); (try (refine gate_guard (by rfl) ?_; dsimp only)); (with_reducible refine gate_callee (f := 40) rfl ?_); refine goesL_ (some 47) rfl rfl Try.func40 (by kernel_rfl) rfl #[.slice Ao47 y138.length co47] rfl (by (try simp only [List.map_toArray, List.map_cons, List.map_nil]); first | done | rfl | (simp only [List.length_drop, List.length_take]; rfl)) ?_; (with_reducible refine (rdata_Txt.calls k _ _ y138 t141 t142 _ ?side1 ?side2 A7.out).mono ?_); (case side1 => repeat (first | exact (Kd.R_reads' HO140.out).2.2 | (with_reducible refine Kd.C_alloc ?_ _) | (with_reducible refine Kd.C_drewN ?_ _) | (with_reducible refine Kd.C_drew ?_))); (case side2 => exact (Kd.R_reads' HO140.out).2.1); rintro e w48 ⟨rfl, hb⟩; refine ⟨_, rfl, ?_⟩; have n0_ := Aside0.mk (Kd.R_below (by (with_reducible repeat (first | apply Kd.R_alloc | apply Kd.R_drewN | apply Kd.R_drew)); exact HO140.out) hb); have n1_ := Aside0.mk (blk_below (g := gb137) (o := .cells #[.string t129, .string t130, .int .i64 t131, .int .i64 t132, .int .i64 t133, .int .i64 t134, .int .i64 t135] 59 (0, 0)) (by (with_reducible repeat (first | refine blk_drewN ?_ _ | refine blk_drew ?_ | refine blk_alloc ?_ _)); exact BK137.out) hb); have n2_ := Aside0.mk (below_step (by repeat (first | (with_reducible first | exact HB.out | apply below_alloc | apply pw_below_drewN | apply below_drew1 | refine below_set ?_ GE137.out) | exact HB.out)) hb); clear HO140; clear BK137; clear HB; have HO140 := n0_; have BK137 := n1_; have HB := n2_; clear n0_ n1_ n2_; (try clear hb); (try clear hb2); (try clear hk); (try clear hi)) | ((with_reducible refine gate_dst (N := 51) rfl ?_); (try (refine gate_guard (by rfl) ?_; dsimp only)); (with_reducible refine gate_callee (f := 25) rfl ?_); refine goesL_ (some 51) rfl rfl Try.func25 (by kernel_rfl) rfl #[.int .i64 (-1)] rfl (by (try simp only [List.map_toArray, List.map_cons, List.map_nil]); first | done | rfl | (simp only [List.length_drop, List.length_take]; rfl)) ?_; (with_reducible refine (rdata_A.calls (-1) t143 t144 _ A8.out).mono ?_); rintro e w49 ⟨rfl, hb⟩; refine ⟨_, rfl, ?_⟩; have n0_ := Aside0.mk (Kd.R_below (by (with_reducible repeat (first | apply Kd.R_alloc | apply Kd.R_drewN | apply Kd.R_drew)); exact HO140.out) hb); have n1_ := Aside0.mk (blk_below (g := gb137) (o := .cells #[.string t129, .string t130, .int .i64 t131, .int .i64 t132, .int .i64 t133, .int .i64 t134, .int .i64 t135] 59 (0, 0)) (by (with_reducible repeat (first | refine blk_drewN ?_ _ | refine blk_drew ?_ | refine blk_alloc ?_ _)); exact BK137.out) hb); have n2_ := Aside0.mk (below_step (by repeat (first | (with_reducible first | exact HB.out | apply below_alloc | apply pw_below_drewN | apply below_drew1 | refine below_set ?_ GE137.out) | exact HB.out)) hb); clear HO140; clear BK137; clear HB; have HO140 := n0_; have BK137 := n1_; have HB := n2_; clear n0_ n1_ n2_; (try clear hb); (try clear hb2); (try clear hk); (try clear hi)) | (go_at_call 20; (with_reducible refine (wimplelaw0_Num.calls t120 t145 _ A10.out).mono ?_); rintro e w' ⟨rfl, ⟨nd, rfl⟩⟩) | (go_at_call 20; (with_reducible refine (wimplelaw0_Num.calls t122 t146 _ A13.out).mono ?_); rintro e w' ⟨rfl, ⟨nd, rfl⟩⟩) | (go_at_call 20; (with_reducible refine (wimplelaw0_Num.calls t124 t147 _ A16.out).mono ?_); rintro e w' ⟨rfl, ⟨nd, rfl⟩⟩) | (go_at_call 20; (with_reducible refine (wimplelaw0_Num.calls t126 t148 _ A19.out).mono ?_); rintro e w' ⟨rfl, ⟨nd, rfl⟩⟩) | (go_at_call 20; (with_reducible refine (wimplelaw0_Num.calls t128 t149 _ A22.out).mono ?_); rintro e w' ⟨rfl, ⟨nd, rfl⟩⟩; (try clear hcz44_0 hcz44_1 hcz44_2 hcz44_3 hcz44_4 hcz44_5 hcz44_6 hfz44_0 hfz44_1 hfz44_2 hfz44_3 hfz44_4 hfz44_5 hfz44_6); have hcz50_0 : w49.cell? ⟨gb137, 0, none⟩ = some (.string t129) := (blk_cell BK137.out 0).trans rfl; have hcz50_1 : w49.cell? ⟨gb137, 1, none⟩ = some (.string t130) := (blk_cell BK137.out 1).trans rfl; have hcz50_2 : w49.cell? ⟨gb137, 2, none⟩ = some (.int .i64 t131) := (blk_cell BK137.out 2).trans rfl; have hcz50_3 : w49.cell? ⟨gb137, 3, none⟩ = some (.int .i64 t132) := (blk_cell BK137.out 3).trans rfl; have hcz50_4 : w49.cell? ⟨gb137, 4, none⟩ = some (.int .i64 t133) := (blk_cell BK137.out 4).trans rfl; have hcz50_5 : w49.cell? ⟨gb137, 5, none⟩ = some (.int .i64 t134) := (blk_cell BK137.out 5).trans rfl; have hcz50_6 : w49.cell? ⟨gb137, 6, none⟩ = some (.int .i64 t135) := (blk_cell BK137.out 6).trans rfl; have hfz50_0 := blk_frozen BK137.out 0; have hfz50_1 := blk_frozen BK137.out 1; have hfz50_2 := blk_frozen BK137.out 2; have hfz50_3 := blk_frozen BK137.out 3; have hfz50_4 := blk_frozen BK137.out 4; have hfz50_5 := blk_frozen BK137.out 5; have hfz50_6 := blk_frozen BK137.out 6) | (go_at_call 20; (with_reducible refine (wimplelaw0_Num.calls t136 t150 _ A25.out).mono ?_); rintro e w' ⟨rfl, ⟨nd, rfl⟩⟩) | (go_at_call 20; (with_reducible refine (wimplelaw0_Num.calls t142 t151 _ A28.out).mono ?_); rintro e w' ⟨rfl, ⟨nd, rfl⟩⟩) | (go_at_call 20; (with_reducible refine (wimplelaw0_Num.calls t144 t152 _ A30.out).mono ?_); rintro e w' ⟨rfl, ⟨nd, rfl⟩⟩) | (go_at_call 33; (with_reducible refine (rdata_May.calls 1 t119 true _ A32.out).mono ?_); rintro e w51 ⟨rfl, hb⟩; have n0_ := Aside0.mk (Kd.R_below (by (with_reducible repeat (first | apply Kd.R_alloc | apply Kd.R_drewN | apply Kd.R_drew)); exact HO140.out) hb); have n1_ := Aside0.mk (blk_below (g := gb137) (o := .cells #[.string t129, .string t130, .int .i64 t131, .int .i64 t132, .int .i64 t133, .int .i64 t134, .int .i64 t135] 59 (0, 0)) (by (with_reducible repeat (first | refine blk_drewN ?_ _ | refine blk_drew ?_ | refine blk_alloc ?_ _)); exact BK137.out) hb); have n2_ := Aside0.mk (below_step (by repeat (first | (with_reducible first | exact HB.out | apply below_alloc | apply pw_below_drewN | apply below_drew1 | refine below_set ?_ GE137.out) | exact HB.out)) hb); clear HO140; clear BK137; clear HB; have HO140 := n0_; have BK137 := n1_; have HB := n2_; clear n0_ n1_ n2_; (try clear hb); (try clear hb2); (try clear hk); (try clear hi)) | (go_at_call 33; (with_reducible refine (rdata_May.calls 1 (⟨#[]⟩ : ByteArray) false _ A34.out).mono ?_); rintro e w52 ⟨rfl, hb⟩; have n0_ := Aside0.mk (Kd.R_below (by (with_reducible repeat (first | apply Kd.R_alloc | apply Kd.R_drewN | apply Kd.R_drew)); exact HO140.out) hb); have n1_ := Aside0.mk (blk_below (g := gb137) (o := .cells #[.string t129, .string t130, .int .i64 t131, .int .i64 t132, .int .i64 t133, .int .i64 t134, .int .i64 t135] 59 (0, 0)) (by (with_reducible repeat (first | refine blk_drewN ?_ _ | refine blk_drew ?_ | refine blk_alloc ?_ _)); exact BK137.out) hb); have n2_ := Aside0.mk (below_step (by repeat (first | (with_reducible first | exact HB.out | apply below_alloc | apply pw_below_drewN | apply below_drew1 | refine below_set ?_ GE137.out) | exact HB.out)) hb); clear HO140; clear BK137; clear HB; have HO140 := n0_; have BK137 := n1_; have HB := n2_; clear n0_ n1_ n2_; (try clear hb); (try clear hb2); (try clear hk); (try clear hi)) | (go_at_call 33; (with_reducible refine (rdata_May.calls 0 (⟨#[]⟩ : ByteArray) t155 _ A36.out).mono ?_); rintro e w53 ⟨rfl, hb⟩; have n0_ := Aside0.mk (Kd.R_below (by (with_reducible repeat (first | apply Kd.R_alloc | apply Kd.R_drewN | apply Kd.R_drew)); exact HO140.out) hb); have n1_ := Aside0.mk (blk_below (g := gb137) (o := .cells #[.string t129, .string t130, .int .i64 t131, .int .i64 t132, .int .i64 t133, .int .i64 t134, .int .i64 t135] 59 (0, 0)) (by (with_reducible repeat (first | refine blk_drewN ?_ _ | refine blk_drew ?_ | refine blk_alloc ?_ _)); exact BK137.out) hb); have n2_ := Aside0.mk (below_step (by repeat (first | (with_reducible first | exact HB.out | apply below_alloc | apply pw_below_drewN | apply below_drew1 | refine below_set ?_ GE137.out) | exact HB.out)) hb); clear HO140; clear BK137; clear HB; have HO140 := n0_; have BK137 := n1_; have HB := n2_; clear n0_ n1_ n2_; (try clear hb); (try clear hb2); (try clear hk); (try clear hi)))
                                    go_ret
                                    exact ⟨by first | rfl | (simp [errW_none, errW_some] <;> rfl) | (simp [*, errW_none, errW_some] <;> rfl), by repeat (first | (with_reducible first | exact HB.out | apply below_alloc | apply pw_below_drewN | apply below_drew1 | refine below_set ?_ GE137.out) | exact HB.out)⟩
                                · replace c33 := Bool.eq_false_iff.mpr c33
                                  subst c33
                                  have H1 : (none) = some r := by rw [if_neg (show ¬ (false = true) by decide)] at H; exact H
                                  clear H
                                  have H := H1
                                  clear H1
                                  exact absurd H (by simp)
                              · rw [if_neg c31] at H
                                exact absurd H (by simp)
                            · rw [if_neg c29] at H
                              exact absurd H (by simp)
                          · rw [if_neg c27] at H
                            exact absurd H (by simp)
                        · rw [if_neg c26] at H
                          exact absurd H (by simp)
                      · rw [if_neg c24] at H
                        exact absurd H (by simp)
                    · rw [if_neg c23] at H
                      exact absurd H (by simp)
                  · rw [if_neg c21] at H
                    exact absurd H (by simp)
                · rw [if_neg c20] at H
                  exact absurd H (by simp)
              · rw [if_neg c18] at H
                exact absurd H (by simp)
            · rw [if_neg c17] at H
              exact absurd H (by simp)
          · rw [if_neg c15] at H
            exact absurd H (by simp)
        · rw [if_neg c14] at H
          exact absurd H (by simp)
      · rw [if_neg c12] at H
        exact absurd H (by simp)
    · rw [if_neg c11] at H
      exact absurd H (by simp)
  · rw [if_neg c9] at H
    exact absurd H (by simp)

section
attribute [-simp] ByteArray.size_extract
/-! ### wimplelaw4_RdataTxts: function 11 -/
mutual
def wimplelaw4_RdataTxts.l0 : Nat → List ByteArray → Int → ByteArray → List ByteArray → Int → Option (Bool)
  | 0, _, _, _, _, _ => none
  | k + 1, x0, x1, x5, x6, x7 => if x7 < (x0.length : Int) then (wimplelaw4_RdataTxts.j1 k x0 x1 x5 x6 x7 (decide (x7 < 20))) else (wimplelaw4_RdataTxts.j1 k x0 x1 x5 x6 x7 false)
def wimplelaw4_RdataTxts.j1 : Nat → List ByteArray → Int → ByteArray → List ByteArray → Int → Bool → Option (Bool)
  | 0, _, _, _, _, _, _ => none
  | k + 1, x0, x1, x5, x6, x7, x25 => if x25 = true then (if 0 ≤ x7 then (if x7 < (x0.length : Int) then (if ((rdOf ByteArray.empty x0 x7).size : Int) > 255 then (if 0 ≤ 255 then (if 255 ≤ ((rdOf ByteArray.empty x0 x7).size : Int) then (if x6.length < 8796093022208 then ((some (([((((rdOf ByteArray.empty x0 x7).extract 0 255).size : Int)) % 256] : List Int) : List Int)).bind fun y161 => (if x5.size + (strOfNums y161).size ≤ 9223372036854775807 then (if (x5 ++ (strOfNums y161)).size + ((rdOf ByteArray.empty x0 x7).extract 0 255).size ≤ 9223372036854775807 then (wimplelaw4_RdataTxts.l0 k x0 x1 ((x5 ++ (strOfNums y161)) ++ ((rdOf ByteArray.empty x0 x7).extract 0 255)) (x6 ++ [(rdOf ByteArray.empty x0 x7).extract 0 255]) (wrap64 (x7 + 1))) else (none)) else (none))) else (none)) else (none)) else (none)) else (if x6.length < 8796093022208 then ((some (([(((rdOf ByteArray.empty x0 x7).size : Int)) % 256] : List Int) : List Int)).bind fun y167 => (if x5.size + (strOfNums y167).size ≤ 9223372036854775807 then (if (x5 ++ (strOfNums y167)).size + (rdOf ByteArray.empty x0 x7).size ≤ 9223372036854775807 then (wimplelaw4_RdataTxts.l0 k x0 x1 ((x5 ++ (strOfNums y167)) ++ (rdOf ByteArray.empty x0 x7)) (x6 ++ [rdOf ByteArray.empty x0 x7]) (wrap64 (x7 + 1))) else (none)) else (none))) else (none))) else (none)) else (none)) else ((rdata_Txt.f k x6).bind fun bt170 => (if 0 ≤ (wrap64 (250 + (Go.bits .and .i64 x1 15))) then (if (wrap64 (250 + (Go.bits .and .i64 x1 15)) : Int).toNat ≤ 281474976710656 then ((rdata_Txt.f k (([strOfNums (List.replicate (wrap64 (250 + (Go.bits .and .i64 x1 15)) : Int).toNat 0)] : List ByteArray))).bind fun bt178 => ((rdata_Txt.f k ([] : List ByteArray)).bind fun bt180 => ((wimplelaw0_Num.f bt170.2).bind fun t182 => (if ((t182 == 0) == (decide ((x6.length : Int) > 0))) = true then (if bt170.1.toList = x5.toList then ((wimplelaw0_Num.f bt178.2).bind fun t183 => (if ((t183 == 0) == (decide ((wrap64 (250 + (Go.bits .and .i64 x1 15))) ≤ 255))) = true then ((wimplelaw0_Num.f bt180.2).bind fun t184 => (some (t184 == 400))) else (none))) else (none)) else (none))))) else (none)) else (none)))
end
def wimplelaw4_RdataTxts.f (k : Nat) (l0 : List ByteArray) (a1 : Int) : Option (Bool) := (wimplelaw4_awake.f k).bind fun t156 => (if t156 = true then (wimplelaw4_RdataTxts.l0 k l0 a1 (⟨#[]⟩ : ByteArray) ([] : List ByteArray) 0) else (none))
theorem wimplelaw4_RdataTxts.mono_l : ∀ k, (∀ y0 y1 y2 y3 y4, LeO (wimplelaw4_RdataTxts.l0 k y0 y1 y2 y3 y4) (wimplelaw4_RdataTxts.l0 (k + 1) y0 y1 y2 y3 y4)) ∧ (∀ y0 y1 y2 y3 y4 y5, LeO (wimplelaw4_RdataTxts.j1 k y0 y1 y2 y3 y4 y5) (wimplelaw4_RdataTxts.j1 (k + 1) y0 y1 y2 y3 y4 y5))
  | 0 => ⟨fun _ _ _ _ _ r h => by simp [wimplelaw4_RdataTxts.l0] at h, fun _ _ _ _ _ _ r h => by simp [wimplelaw4_RdataTxts.j1] at h⟩
  | k + 1 => by
    obtain ⟨ih0, ih1⟩ := wimplelaw4_RdataTxts.mono_l k
    refine ⟨?_, ?_⟩
    · intro y0 y1 y2 y3 y4
      unfold wimplelaw4_RdataTxts.l0
      repeat' first
      | (with_reducible exact ih0 _ _ _ _ _)
      | (with_reducible exact ih1 _ _ _ _ _ _)
      | (with_reducible exact rdata_Txt.mono _ _)
      | (with_reducible exact wimplelaw4_awake.mono _)
      | (with_reducible exact LeO.refl _)
      | (with_reducible exact LeO.none _)
      | (with_reducible refine LeO.ite ?_ ?_)
      | (with_reducible refine LeO.bind ?_ (fun _ => ?_))
      | exact ih0 _ _ _ _ _
      | exact ih1 _ _ _ _ _ _
      | exact rdata_Txt.mono _ _
      | exact wimplelaw4_awake.mono _
      | exact LeO.none _
      | refine LeO.ite ?_ ?_
      | refine LeO.bind ?_ (fun _ => ?_)
    · intro y0 y1 y2 y3 y4 y5
      unfold wimplelaw4_RdataTxts.j1
      repeat' first
      | (with_reducible exact ih0 _ _ _ _ _)
      | (with_reducible exact ih1 _ _ _ _ _ _)
      | (with_reducible exact rdata_Txt.mono _ _)
      | (with_reducible exact wimplelaw4_awake.mono _)
      | (with_reducible exact LeO.refl _)
      | (with_reducible exact LeO.none _)
      | (with_reducible refine LeO.ite ?_ ?_)
      | (with_reducible refine LeO.bind ?_ (fun _ => ?_))
      | exact ih0 _ _ _ _ _
      | exact ih1 _ _ _ _ _ _
      | exact rdata_Txt.mono _ _
      | exact wimplelaw4_awake.mono _
      | exact LeO.none _
      | refine LeO.ite ?_ ?_
      | refine LeO.bind ?_ (fun _ => ?_)
theorem wimplelaw4_RdataTxts.mono : ∀ a0 a1 k, LeO (wimplelaw4_RdataTxts.f k a0 a1) (wimplelaw4_RdataTxts.f (k + 1) a0 a1) := by
  intro a0 a1 k
  obtain ⟨ih0, ih1⟩ := wimplelaw4_RdataTxts.mono_l k
  unfold wimplelaw4_RdataTxts.f
  repeat' first
      | (with_reducible exact ih0 _ _ _ _ _)
      | (with_reducible exact ih1 _ _ _ _ _ _)
      | (with_reducible exact rdata_Txt.mono _ _)
      | (with_reducible exact wimplelaw4_awake.mono _)
      | (with_reducible exact LeO.refl _)
      | (with_reducible exact LeO.none _)
      | (with_reducible refine LeO.ite ?_ ?_)
      | (with_reducible refine LeO.bind ?_ (fun _ => ?_))
      | exact ih0 _ _ _ _ _
      | exact ih1 _ _ _ _ _ _
      | exact rdata_Txt.mono _ _
      | exact wimplelaw4_awake.mono _
      | exact LeO.none _
      | refine LeO.ite ?_ ?_
      | refine LeO.bind ?_ (fun _ => ?_)
set_option maxHeartbeats 8000000 in
set_option maxRecDepth 100000 in
theorem wimplelaw4_RdataTxts.calls (k : Nat) (A0 : Option Addr) (c0 : Nat) (l0 : List ByteArray) (a1 : Int) (r : Bool) (w : World) (hr0 : Kd.C Kd.string w A0 l0.length l0) (hc0 : l0.length ≤ c0) (h : wimplelaw4_RdataTxts.f k l0 a1 = some r) :
    Calls Try.prog 11 #[.slice A0 l0.length c0, .int .i64 a1] w fun e w' => e = .returned (.bool r) ∧ Below w.heap.size w w' := by
  have HR0 := Aside0.mk hr0
  have HC0 := Aside0.mk hc0
  clear hr0 hc0
  have HB := Aside0.mk (Below.refl w.heap.size w)
  have H : ((wimplelaw4_awake.f k).bind fun t156 => (if t156 = true then (wimplelaw4_RdataTxts.l0 k l0 a1 (⟨#[]⟩ : ByteArray) ([] : List ByteArray) 0) else (none))) = some r := h
  clear h
  replace H := Option.bind_eq_some_iff.mp H
  obtain ⟨t156, A30, H⟩ := H
  replace H : (if t156 = true then (wimplelaw4_RdataTxts.l0 k l0 a1 (⟨#[]⟩ : ByteArray) ([] : List ByteArray) 0) else (none)) = some r := H
  have A3 := Aside0.mk A30
  clear A30
  by_cases c4 : t156 = true
  · subst c4
    have H1 : (wimplelaw4_RdataTxts.l0 k l0 a1 (⟨#[]⟩ : ByteArray) ([] : List ByteArray) 0) = some r := by rw [if_pos rfl] at H; exact H
    clear H
    have H := H1
    clear H1
    have H' := Aside0.mk H
    clear H
    go_enter Try.func11, Try.ntmps11
    go_wp2_with (first | ((with_reducible refine gate_dst (N := 16) rfl ?_); (with_reducible refine gate_callee (f := 43) rfl ?_); refine goesL_ (some 16) rfl rfl Try.func43 (by kernel_rfl) rfl #[] rfl (by (try simp only [List.map_toArray, List.map_cons, List.map_nil]); first | done | rfl | (simp only [List.length_drop, List.length_take]; rfl)) ?_; (with_reducible refine (wimplelaw4_awake.calls k  true _ A3.out).mono ?_); rintro e w5 ⟨rfl, hb⟩; refine ⟨_, rfl, ?_⟩; have n0_ := Aside0.mk (below_step (by repeat (first | (with_reducible first | exact HB.out | apply below_alloc | apply pw_below_drewN | apply below_drew1) | exact HB.out)) hb); clear HB; have HB := n0_; clear n0_; (try clear hb); (try clear hb2); (try clear hk); (try clear hi)))
    go_loopg [5, 6, 7] k (fun kq v5 v6 v7 w' => ∃ (x5_1 : ByteArray) (x6_1 : List ByteArray) (x7_1 : Int), v5 = .string x5_1 ∧ v7 = .int .i64 x7_1 ∧ Aside0 (wimplelaw4_RdataTxts.l0 kq l0 a1 x5_1 x6_1 x7_1 = some r) ∧ Aside0 (kq ≤ k) ∧ Aside0 (Kd.R Kd.string 9 w' w.heap.size (fun _ => True) v6 x6_1) ∧ Aside0 (Below w.heap.size w w'))
    case atStart => exact ⟨((⟨#[]⟩ : ByteArray)), (([] : List ByteArray)), (0), (by first | rfl | (simp; done) | (simp [*]; done)), (by first | rfl | (simp; done) | (simp [*]; done)), H', ⟨Nat.le_refl _⟩, ⟨by first | exact Kd.R_nil _ _ _ _ _ | exact Kd.N_nil _ _ _ _ _ | exact Kd.V_nil _ _ _ _ _ | exact Kd.Q_nil _ _ _ _ _ | exact Kd.S_nil _ _ _ _ _⟩, ⟨by repeat (first | (with_reducible first | exact HB.out | apply below_alloc | apply pw_below_drewN | apply below_drew1) | exact HB.out)⟩⟩
    case round =>
      clear H'
      try clear c1
      try clear p2
      try clear c4
      obtain ⟨x5_1, x6_1, x7_1, rfl, rfl, HA, HK1, HO_6, HB⟩ := hrel
      cases gk with
      | zero => exact absurd HA.out (by simp [wimplelaw4_RdataTxts.l0])
      | succ k1 =>
        have H := HA.out
        clear HA
        simp only [wimplelaw4_RdataTxts.l0] at H
        have HC6 := Aside0.mk H
        clear H
        go_upto_region 6 with (fail)
        go_cut [25] (fun v25 wc => ∃ (kq : Nat) (x25_5 : Bool), v25 = .bool x25_5 ∧ Aside0 (wimplelaw4_RdataTxts.j1 kq l0 a1 x5_1 x6_1 x7_1 x25_5 = some r) ∧ Aside0 (kq ≤ k1) ∧ Aside0 (Kd.R Kd.string 9 wc w.heap.size (fun _ => True) u6 x6_1) ∧ Aside0 (Below w.heap.size w wc))
        case first =>
          have H := HC6.out
          clear HC6
          by_cases c7 : x7_1 < (l0.length : Int)
          · rw [if_pos c7] at H
            have c7b0 : decide (x7_1 < (l0.length : Int)) = true := decide_eq_true c7
            clear c7
            (first | rw [c7b0] | (simp only [i64_w, i32_w]; rw [c7b0]) | skip)
            have H' := Aside0.mk H
            clear H
            go_wp2
            go_meet
            case rel => exact ⟨_, (decide (x7_1 < 20)), (by first | rfl | (simp; done) | (simp [*]; done)), H', ⟨by have := HK1.out; first | omega | exact Nat.le_refl _⟩, ⟨by (with_reducible repeat (first | apply Kd.R_alloc | apply Kd.R_drewN | apply Kd.R_drew)); exact HO_6.out⟩, ⟨by repeat (first | (with_reducible first | exact HB.out | apply below_alloc | apply pw_below_drewN | apply below_drew1) | exact HB.out)⟩⟩
          · rw [if_neg c7] at H
            have c7b0 : decide (x7_1 < (l0.length : Int)) = false := decide_eq_false c7
            clear c7
            (first | rw [c7b0] | (simp only [i64_w, i32_w]; rw [c7b0]) | skip)
            have H' := Aside0.mk H
            clear H
            go_wp2
            go_meet
            case rel => exact ⟨_, (false), (by first | rfl | (simp; done) | (simp [*]; done)), H', ⟨by have := HK1.out; first | omega | exact Nat.le_refl _⟩, ⟨by (with_reducible repeat (first | apply Kd.R_alloc | apply Kd.R_drewN | apply Kd.R_drew)); exact HO_6.out⟩, ⟨by repeat (first | (with_reducible first | exact HB.out | apply below_alloc | apply pw_below_drewN | apply below_drew1) | exact HB.out)⟩⟩
        case rest =>
          clear HC6
          try clear c1
          try clear p2
          try clear c4
          try clear c7
          try clear c7b0
          try clear p2
          obtain ⟨kq, x25_5, rfl, HA, HJ5, HO_6, HB⟩ := hcut
          cases kq with
          | zero => exact absurd HA.out (by simp [wimplelaw4_RdataTxts.j1])
          | succ kj5 =>
            have H := HA.out
            clear HA
            simp only [wimplelaw4_RdataTxts.j1] at H
            by_cases c8 : x25_5 = true
            · subst c8
              have H1 : (if 0 ≤ x7_1 then (if x7_1 < (l0.length : Int) then (if ((rdOf ByteArray.empty l0 x7_1).size : Int) > 255 then (if 0 ≤ 255 then (if 255 ≤ ((rdOf ByteArray.empty l0 x7_1).size : Int) then (if x6_1.length < 8796093022208 then ((some (([((((rdOf ByteArray.empty l0 x7_1).extract 0 255).size : Int)) % 256] : List Int) : List Int)).bind fun y161 => (if x5_1.size + (strOfNums y161).size ≤ 9223372036854775807 then (if (x5_1 ++ (strOfNums y161)).size + ((rdOf ByteArray.empty l0 x7_1).extract 0 255).size ≤ 9223372036854775807 then (wimplelaw4_RdataTxts.l0 kj5 l0 a1 ((x5_1 ++ (strOfNums y161)) ++ ((rdOf ByteArray.empty l0 x7_1).extract 0 255)) (x6_1 ++ [(rdOf ByteArray.empty l0 x7_1).extract 0 255]) (wrap64 (x7_1 + 1))) else (none)) else (none))) else (none)) else (none)) else (none)) else (if x6_1.length < 8796093022208 then ((some (([(((rdOf ByteArray.empty l0 x7_1).size : Int)) % 256] : List Int) : List Int)).bind fun y167 => (if x5_1.size + (strOfNums y167).size ≤ 9223372036854775807 then (if (x5_1 ++ (strOfNums y167)).size + (rdOf ByteArray.empty l0 x7_1).size ≤ 9223372036854775807 then (wimplelaw4_RdataTxts.l0 kj5 l0 a1 ((x5_1 ++ (strOfNums y167)) ++ (rdOf ByteArray.empty l0 x7_1)) (x6_1 ++ [rdOf ByteArray.empty l0 x7_1]) (wrap64 (x7_1 + 1))) else (none)) else (none))) else (none))) else (none)) else (none)) = some r := by rw [if_pos rfl] at H; exact H
              clear H
              have H := H1
              clear H1
              by_cases c9 : 0 ≤ x7_1
              · rw [if_pos c9] at H
                have c9b0 : decide (0 ≤ x7_1) = true := decide_eq_true c9
                clear c9
                by_cases c10 : x7_1 < (l0.length : Int)
                · rw [if_pos c10] at H
                  have c10b0 : decide (x7_1 < (l0.length : Int)) = true := decide_eq_true c10
                  clear c10
                  by_cases c11 : ((rdOf ByteArray.empty l0 x7_1).size : Int) > 255
                  · rw [if_pos c11] at H
                    have c11b0 : decide (255 < ((rdOf ByteArray.empty l0 x7_1).size : Int)) = true := decide_eq_true c11
                    have c11b1 : decide (255 < (rdOf ByteArray.empty l0 x7_1).size) = true := decide_eq_true (by omega)
                    clear c11
                    by_cases c12 : 0 ≤ 255
                    · rw [if_pos c12] at H
                      have c12b0 := eq_true c12
                      have c12b1 : decide (0 ≤ 255) = true := decide_eq_true c12
                      clear c12
                      by_cases c13 : 255 ≤ ((rdOf ByteArray.empty l0 x7_1).size : Int)
                      · rw [if_pos c13] at H
                        have c13b0 := eq_true c13
                        have c13b1 : decide (255 ≤ ((rdOf ByteArray.empty l0 x7_1).size : Int)) = true := decide_eq_true c13
                        clear c13
                        by_cases c14 : x6_1.length < 8796093022208
                        · rw [if_pos c14] at H
                          have LMc14 := Aside0.mk c14
                          clear c14
                          obtain ⟨y158, hy158⟩ : ∃ y_ : List ByteArray, y_ = (x6_1 ++ [(rdOf ByteArray.empty l0 x7_1).extract 0 255]) := ⟨_, rfl⟩
                          replace H : ((some (([((((rdOf ByteArray.empty l0 x7_1).extract 0 255).size : Int)) % 256] : List Int) : List Int)).bind fun y161 => (if x5_1.size + (strOfNums y161).size ≤ 9223372036854775807 then (if (x5_1 ++ (strOfNums y161)).size + ((rdOf ByteArray.empty l0 x7_1).extract 0 255).size ≤ 9223372036854775807 then (wimplelaw4_RdataTxts.l0 kj5 l0 a1 ((x5_1 ++ (strOfNums y161)) ++ ((rdOf ByteArray.empty l0 x7_1).extract 0 255)) y158 (wrap64 (x7_1 + 1))) else (none)) else (none))) = some r := by first | (rw [hy158]; with_reducible exact H) | (have H2_ := (Option.bind_some _ _).symm.trans H; rw [hy158]; with_reducible exact H2_) | (have H2_ := (Option.bind_some _ _).symm.trans H; with_reducible exact H2_) | with_reducible exact H | (rw [hy158]; exact H) | exact H
                          have Ny158 := Aside0.mk hy158
                          clear hy158
                          obtain ⟨y161, hy161⟩ : ∃ y_ : List Int, y_ = (([((((rdOf ByteArray.empty l0 x7_1).extract 0 255).size : Int)) % 256] : List Int)) := ⟨_, rfl⟩
                          replace H : (if x5_1.size + (strOfNums y161).size ≤ 9223372036854775807 then (if (x5_1 ++ (strOfNums y161)).size + ((rdOf ByteArray.empty l0 x7_1).extract 0 255).size ≤ 9223372036854775807 then (wimplelaw4_RdataTxts.l0 kj5 l0 a1 ((x5_1 ++ (strOfNums y161)) ++ ((rdOf ByteArray.empty l0 x7_1).extract 0 255)) y158 (wrap64 (x7_1 + 1))) else (none)) else (none)) = some r := by first | (rw [hy161]; with_reducible exact H) | (have H2_ := (Option.bind_some _ _).symm.trans H; rw [hy161]; with_reducible exact H2_) | (have H2_ := (Option.bind_some _ _).symm.trans H; with_reducible exact H2_) | with_reducible exact H | (rw [hy161]; exact H) | exact H
                          have Ny161 := Aside0.mk hy161
                          clear hy161
                          by_cases c15 : x5_1.size + (strOfNums y161).size ≤ 9223372036854775807
                          · rw [if_pos c15] at H
                            have c15b0 := eq_true c15
                            have c15b1 : decide (x5_1.size + (strOfNums y161).size ≤ 9223372036854775807) = true := decide_eq_true c15
                            try have c15b2 : (9223372036854775807 < x5_1.size + (strOfNums y161).size) = False := eq_false (Nat.not_lt.2 c15)
                            by_cases c16 : (x5_1 ++ (strOfNums y161)).size + ((rdOf ByteArray.empty l0 x7_1).extract 0 255).size ≤ 9223372036854775807
                            · rw [if_pos c16] at H
                              have c16b0 := eq_true c16
                              have c16b1 : decide ((x5_1 ++ (strOfNums y161)).size + ((rdOf ByteArray.empty l0 x7_1).extract 0 255).size ≤ 9223372036854775807) = true := decide_eq_true c16
                              try have c16b2 : (9223372036854775807 < (x5_1 ++ (strOfNums y161)).size + ((rdOf ByteArray.empty l0 x7_1).extract 0 255).size) = False := eq_false (Nat.not_lt.2 c16)
                              try (have c16b3 := c16; simp only [ByteArray.size_append] at c16b3; replace c16b3 := eq_false (Nat.not_lt.2 c16b3))
                              have H' := Aside0.mk H
                              clear H
                              have p157 : 0 ≤ (x7_1 : Int) := of_decide_eq_true (by first | (with_reducible assumption) | assumption)
                              have q157 : x7_1 < (l0.length : Int) := of_decide_eq_true (by first | (with_reducible assumption) | assumption)
                              obtain ⟨ad157, e157, hx157_0⟩ := Kd.at_string HR0.out x7_1 p157 q157
                              cases e157
                              replace hx157_0 := (HB.out.cell (World.block_lt_of_cell? w _ hx157_0)).trans hx157_0
                              replace p157 := eq_true p157
                              replace q157 := eq_true q157
                              go_wp2_with (first | ((with_reducible refine gate_builtin (b := .append) (xs := #[.tmp 37, .tmp 39]) rfl ?_); at_builtin; refine Kd.R_append Kd.string (w0 := w) w.heap.size rfl (.tmp 37) (.tmp 39) 60 9 (.string ⟨#[]⟩) 16 rfl Try.underlying60 info9 rfl (by decide) (by omega) u6 x6_1 ((rdOf ByteArray.empty l0 x7_1).extract 0 255) [.string ((rdOf ByteArray.empty l0 x7_1).extract 0 255)] (fun _ => True) (fun _ => False) rfl rfl ?aP (fun _ hk => hk.elim) ?aF ?aO ?aB ?aS ?aL ?_; (case aP => exact rfl); (case aB => exact (by repeat (first | (with_reducible first | exact HB.out | apply below_alloc | apply pw_below_drewN | apply below_drew1) | exact HB.out))); (case aF => exact (fun _ _ => trivial)); (case aO => exact (by (with_reducible repeat (first | apply Kd.R_alloc | apply Kd.R_drewN | apply Kd.R_drew)); exact HO_6.out)); (case aS => exact (below_size (by repeat (first | (with_reducible first | exact HB.out | apply below_alloc | apply pw_below_drewN | apply below_drew1) | exact HB.out)))); (case aL => have := LMc14.out; omega); intro v159 w17 ho hb hg hat; rw [← Ny158.out] at ho; have n0_ := Aside0.mk (hb); have n1_ := Aside0.mk (ho); clear HB; clear HO_6; have HB := n0_; have HO160 := n1_; clear n0_ n1_; clear ho hb hg hat) | ((with_reducible refine gate_dst (N := 45) rfl ?_); refine Kd.R_lit (Kd.int .u8) _ 5 ?hg (N := 45) ?hd (xs := ([((((rdOf ByteArray.empty l0 x7_1).extract 0 255).size : Int)) % 256] : List Int)) (inner := [.int .u8 (((((rdOf ByteArray.empty l0 x7_1).extract 0 255).size : Int)) % 256)]) (ok := fun _ => True) (okp := fun _ => True) ?hr ?hp (fun _ hk => hk) trivial (Below.refl _ _) (Nat.le_refl _) (by simp) ?_; (case hd => rfl); (case hg => rfl); (case hr => first | (go_simp; done) | (go_simp; rfl)); (case hp => exact (Reps.one (show Kd.M (Kd.int .u8) _ _ _ (((((rdOf ByteArray.empty l0 x7_1).extract 0 255).size : Int)) % 256) [.int .u8 (((((rdOf ByteArray.empty l0 x7_1).extract 0 255).size : Int)) % 256)] from rfl) (Reps.none _ _))); intro v162 w18 ho19 hb hg_ hnew_; clear hg_ hnew_; (first | rw [← Ny161.out] at ho19 | (simp only [Int.reduceToNat] at ho19; rw [← Ny161.out] at ho19)); have n0_ := Aside0.mk (Kd.R_below (by (with_reducible repeat (first | apply Kd.R_alloc | apply Kd.R_drewN | apply Kd.R_drew)); exact HO160.out) hb); have n1_ := Aside0.mk (Kd.R_lower ho19 (below_size (by repeat (first | (with_reducible first | exact HB.out | apply below_alloc | apply pw_below_drewN | apply below_drew1) | exact HB.out)))); have n2_ := Aside0.mk (below_step (by repeat (first | (with_reducible first | exact HB.out | apply below_alloc | apply pw_below_drewN | apply below_drew1) | exact HB.out)) hb); clear HO160; clear HB; have HO160 := n0_; have HO163 := n1_; have HB := n2_; clear n0_ n1_ n2_; clear hb ho19; have hcv20 := own_string (P := Try.prog) Try.underlying54 Try.underlying5 Try.underlying9 (Kd.own_of_R HO163.out)))
                              go_roundg kj5
                              case measure => have := HK1.out; have := HJ5.out; omega
                              case rel => exact ⟨((x5_1 ++ (strOfNums y161)) ++ ((rdOf ByteArray.empty l0 x7_1).extract 0 255)), (y158), (wrap64 (x7_1 + 1)), (by first | rfl | (simp; done) | (simp [*]; done)), (by first | rfl | (simp; done) | (simp [*]; done)), H', ⟨by have := HK1.out; have := HJ5.out; omega⟩, ⟨by (with_reducible repeat (first | apply Kd.R_alloc | apply Kd.R_drewN | apply Kd.R_drew)); exact HO160.out⟩, ⟨by repeat (first | (with_reducible first | exact HB.out | apply below_alloc | apply pw_below_drewN | apply below_drew1) | exact HB.out)⟩⟩
                            · rw [if_neg c16] at H
                              exact absurd H (by simp)
                          · rw [if_neg c15] at H
                            exact absurd H (by simp)
                        · rw [if_neg c14] at H
                          exact absurd H (by simp)
                      · rw [if_neg c13] at H
                        exact absurd H (by simp)
                    · rw [if_neg c12] at H
                      exact absurd H (by simp)
                  · rw [if_neg c11] at H
                    have c11b0 : decide (255 < ((rdOf ByteArray.empty l0 x7_1).size : Int)) = false := decide_eq_false c11
                    have c11b1 : decide (255 < (rdOf ByteArray.empty l0 x7_1).size) = false := decide_eq_false (by omega)
                    clear c11
                    by_cases c21 : x6_1.length < 8796093022208
                    · rw [if_pos c21] at H
                      have LMc21 := Aside0.mk c21
                      clear c21
                      obtain ⟨y164, hy164⟩ : ∃ y_ : List ByteArray, y_ = (x6_1 ++ [rdOf ByteArray.empty l0 x7_1]) := ⟨_, rfl⟩
                      replace H : ((some (([(((rdOf ByteArray.empty l0 x7_1).size : Int)) % 256] : List Int) : List Int)).bind fun y167 => (if x5_1.size + (strOfNums y167).size ≤ 9223372036854775807 then (if (x5_1 ++ (strOfNums y167)).size + (rdOf ByteArray.empty l0 x7_1).size ≤ 9223372036854775807 then (wimplelaw4_RdataTxts.l0 kj5 l0 a1 ((x5_1 ++ (strOfNums y167)) ++ (rdOf ByteArray.empty l0 x7_1)) y164 (wrap64 (x7_1 + 1))) else (none)) else (none))) = some r := by first | (rw [hy164]; with_reducible exact H) | (have H2_ := (Option.bind_some _ _).symm.trans H; rw [hy164]; with_reducible exact H2_) | (have H2_ := (Option.bind_some _ _).symm.trans H; with_reducible exact H2_) | with_reducible exact H | (rw [hy164]; exact H) | exact H
                      have Ny164 := Aside0.mk hy164
                      clear hy164
                      obtain ⟨y167, hy167⟩ : ∃ y_ : List Int, y_ = (([(((rdOf ByteArray.empty l0 x7_1).size : Int)) % 256] : List Int)) := ⟨_, rfl⟩
                      replace H : (if x5_1.size + (strOfNums y167).size ≤ 9223372036854775807 then (if (x5_1 ++ (strOfNums y167)).size + (rdOf ByteArray.empty l0 x7_1).size ≤ 9223372036854775807 then (wimplelaw4_RdataTxts.l0 kj5 l0 a1 ((x5_1 ++ (strOfNums y167)) ++ (rdOf ByteArray.empty l0 x7_1)) y164 (wrap64 (x7_1 + 1))) else (none)) else (none)) = some r := by first | (rw [hy167]; with_reducible exact H) | (have H2_ := (Option.bind_some _ _).symm.trans H; rw [hy167]; with_reducible exact H2_) | (have H2_ := (Option.bind_some _ _).symm.trans H; with_reducible exact H2_) | with_reducible exact H | (rw [hy167]; exact H) | exact H
                      have Ny167 := Aside0.mk hy167
                      clear hy167
                      by_cases c22 : x5_1.size + (strOfNums y167).size ≤ 9223372036854775807
                      · rw [if_pos c22] at H
                        have c22b0 := eq_true c22
                        have c22b1 : decide (x5_1.size + (strOfNums y167).size ≤ 9223372036854775807) = true := decide_eq_true c22
                        try have c22b2 : (9223372036854775807 < x5_1.size + (strOfNums y167).size) = False := eq_false (Nat.not_lt.2 c22)
                        by_cases c23 : (x5_1 ++ (strOfNums y167)).size + (rdOf ByteArray.empty l0 x7_1).size ≤ 9223372036854775807
                        · rw [if_pos c23] at H
                          have c23b0 := eq_true c23
                          have c23b1 : decide ((x5_1 ++ (strOfNums y167)).size + (rdOf ByteArray.empty l0 x7_1).size ≤ 9223372036854775807) = true := decide_eq_true c23
                          try have c23b2 : (9223372036854775807 < (x5_1 ++ (strOfNums y167)).size + (rdOf ByteArray.empty l0 x7_1).size) = False := eq_false (Nat.not_lt.2 c23)
                          try (have c23b3 := c23; simp only [ByteArray.size_append] at c23b3; replace c23b3 := eq_false (Nat.not_lt.2 c23b3))
                          have H' := Aside0.mk H
                          clear H
                          have p157 : 0 ≤ (x7_1 : Int) := of_decide_eq_true (by first | (with_reducible assumption) | assumption)
                          have q157 : x7_1 < (l0.length : Int) := of_decide_eq_true (by first | (with_reducible assumption) | assumption)
                          obtain ⟨ad157, e157, hx157_0⟩ := Kd.at_string HR0.out x7_1 p157 q157
                          cases e157
                          replace hx157_0 := (HB.out.cell (World.block_lt_of_cell? w _ hx157_0)).trans hx157_0
                          replace p157 := eq_true p157
                          replace q157 := eq_true q157
                          go_wp2_with (first | ((with_reducible refine gate_builtin (b := .append) (xs := #[.tmp 37, .tmp 39]) rfl ?_); at_builtin; refine Kd.R_append Kd.string (w0 := w) w.heap.size rfl (.tmp 37) (.tmp 39) 60 9 (.string ⟨#[]⟩) 16 rfl Try.underlying60 info9 rfl (by decide) (by omega) u6 x6_1 (rdOf ByteArray.empty l0 x7_1) [.string (rdOf ByteArray.empty l0 x7_1)] (fun _ => True) (fun _ => False) rfl rfl ?aP (fun _ hk => hk.elim) ?aF ?aO ?aB ?aS ?aL ?_; (case aP => exact rfl); (case aB => exact (by repeat (first | (with_reducible first | exact HB.out | apply below_alloc | apply pw_below_drewN | apply below_drew1) | exact HB.out))); (case aF => exact (fun _ _ => trivial)); (case aO => exact (by (with_reducible repeat (first | apply Kd.R_alloc | apply Kd.R_drewN | apply Kd.R_drew)); exact HO_6.out)); (case aS => exact (below_size (by repeat (first | (with_reducible first | exact HB.out | apply below_alloc | apply pw_below_drewN | apply below_drew1) | exact HB.out)))); (case aL => have := LMc21.out; omega); intro v165 w24 ho hb hg hat; rw [← Ny164.out] at ho; have n0_ := Aside0.mk (hb); have n1_ := Aside0.mk (ho); clear HB; clear HO_6; have HB := n0_; have HO166 := n1_; clear n0_ n1_; clear ho hb hg hat) | ((with_reducible refine gate_dst (N := 45) rfl ?_); refine Kd.R_lit (Kd.int .u8) _ 5 ?hg (N := 45) ?hd (xs := ([(((rdOf ByteArray.empty l0 x7_1).size : Int)) % 256] : List Int)) (inner := [.int .u8 ((((rdOf ByteArray.empty l0 x7_1).size : Int)) % 256)]) (ok := fun _ => True) (okp := fun _ => True) ?hr ?hp (fun _ hk => hk) trivial (Below.refl _ _) (Nat.le_refl _) (by simp) ?_; (case hd => rfl); (case hg => rfl); (case hr => first | (go_simp; done) | (go_simp; rfl)); (case hp => exact (Reps.one (show Kd.M (Kd.int .u8) _ _ _ ((((rdOf ByteArray.empty l0 x7_1).size : Int)) % 256) [.int .u8 ((((rdOf ByteArray.empty l0 x7_1).size : Int)) % 256)] from rfl) (Reps.none _ _))); intro v168 w25 ho26 hb hg_ hnew_; clear hg_ hnew_; (first | rw [← Ny167.out] at ho26 | (simp only [Int.reduceToNat] at ho26; rw [← Ny167.out] at ho26)); have n0_ := Aside0.mk (Kd.R_below (by (with_reducible repeat (first | apply Kd.R_alloc | apply Kd.R_drewN | apply Kd.R_drew)); exact HO166.out) hb); have n1_ := Aside0.mk (Kd.R_lower ho26 (below_size (by repeat (first | (with_reducible first | exact HB.out | apply below_alloc | apply pw_below_drewN | apply below_drew1) | exact HB.out)))); have n2_ := Aside0.mk (below_step (by repeat (first | (with_reducible first | exact HB.out | apply below_alloc | apply pw_below_drewN | apply below_drew1) | exact HB.out)) hb); clear HO166; clear HB; have HO166 := n0_; have HO169 := n1_; have HB := n2_; clear n0_ n1_ n2_; clear hb ho26; have hcv27 := own_string (P := Try.prog) Try.underlying54 Try.underlying5 Try.underlying9 (Kd.own_of_R HO169.out)))
                          go_roundg kj5
                          case measure => have := HK1.out; have := HJ5.out; omega
                          case rel => exact ⟨((x5_1 ++ (strOfNums y167)) ++ (rdOf ByteArray.empty l0 x7_1)), (y164), (wrap64 (x7_1 + 1)), (by first | rfl | (simp; done) | (simp [*]; done)), (by first | rfl | (simp; done) | (simp [*]; done)), H', ⟨by have := HK1.out; have := HJ5.out; omega⟩, ⟨by (with_reducible repeat (first | apply Kd.R_alloc | apply Kd.R_drewN | apply Kd.R_drew)); exact HO166.out⟩, ⟨by repeat (first | (with_reducible first | exact HB.out | apply below_alloc | apply pw_below_drewN | apply below_drew1) | exact HB.out)⟩⟩
                        · rw [if_neg c23] at H
                          exact absurd H (by simp)
                      · rw [if_neg c22] at H
                        exact absurd H (by simp)
                    · rw [if_neg c21] at H
                      exact absurd H (by simp)
                · rw [if_neg c10] at H
                  exact absurd H (by simp)
              · rw [if_neg c9] at H
                exact absurd H (by simp)
            · replace c8 := Bool.eq_false_iff.mpr c8
              subst c8
              have H1 : ((rdata_Txt.f kj5 x6_1).bind fun bt170 => (if 0 ≤ (wrap64 (250 + (Go.bits .and .i64 a1 15))) then (if (wrap64 (250 + (Go.bits .and .i64 a1 15)) : Int).toNat ≤ 281474976710656 then ((rdata_Txt.f kj5 (([strOfNums (List.replicate (wrap64 (250 + (Go.bits .and .i64 a1 15)) : Int).toNat 0)] : List ByteArray))).bind fun bt178 => ((rdata_Txt.f kj5 ([] : List ByteArray)).bind fun bt180 => ((wimplelaw0_Num.f bt170.2).bind fun t182 => (if ((t182 == 0) == (decide ((x6_1.length : Int) > 0))) = true then (if bt170.1.toList = x5_1.toList then ((wimplelaw0_Num.f bt178.2).bind fun t183 => (if ((t183 == 0) == (decide ((wrap64 (250 + (Go.bits .and .i64 a1 15))) ≤ 255))) = true then ((wimplelaw0_Num.f bt180.2).bind fun t184 => (some (t184 == 400))) else (none))) else (none)) else (none))))) else (none)) else (none))) = some r := by rw [if_neg (show ¬ (false = true) by decide)] at H; exact H
              clear H
              have H := H1
              clear H1
              replace H := Option.bind_eq_some_iff.mp H
              obtain ⟨⟨t170, t171⟩, A280, H⟩ := H
              replace H : (if 0 ≤ (wrap64 (250 + (Go.bits .and .i64 a1 15))) then (if (wrap64 (250 + (Go.bits .and .i64 a1 15)) : Int).toNat ≤ 281474976710656 then ((rdata_Txt.f kj5 (([strOfNums (List.replicate (wrap64 (250 + (Go.bits .and .i64 a1 15)) : Int).toNat 0)] : List ByteArray))).bind fun bt178 => ((rdata_Txt.f kj5 ([] : List ByteArray)).bind fun bt180 => ((wimplelaw0_Num.f t171).bind fun t182 => (if ((t182 == 0) == (decide ((x6_1.length : Int) > 0))) = true then (if t170.toList = x5_1.toList then ((wimplelaw0_Num.f bt178.2).bind fun t183 => (if ((t183 == 0) == (decide ((wrap64 (250 + (Go.bits .and .i64 a1 15))) ≤ 255))) = true then ((wimplelaw0_Num.f bt180.2).bind fun t184 => (some (t184 == 400))) else (none))) else (none)) else (none))))) else (none)) else (none)) = some r := H
              have A28 := Aside0.mk A280
              clear A280
              obtain ⟨ji29, hji29⟩ : ∃ j_ : Int, (wrap64 (250 + (Go.bits .and .i64 a1 15))) = j_ := ⟨_, rfl⟩
              replace H : (if 0 ≤ (ji29) then (if (ji29 : Int).toNat ≤ 281474976710656 then ((rdata_Txt.f kj5 (([strOfNums (List.replicate (ji29 : Int).toNat 0)] : List ByteArray))).bind fun bt178 => ((rdata_Txt.f kj5 ([] : List ByteArray)).bind fun bt180 => ((wimplelaw0_Num.f t171).bind fun t182 => (if ((t182 == 0) == (decide ((x6_1.length : Int) > 0))) = true then (if t170.toList = x5_1.toList then ((wimplelaw0_Num.f bt178.2).bind fun t183 => (if ((t183 == 0) == (decide ((ji29) ≤ 255))) = true then ((wimplelaw0_Num.f bt180.2).bind fun t184 => (some (t184 == 400))) else (none))) else (none)) else (none))))) else (none)) else (none)) = some r := by first | (rw [hji29] at H; exact H) | (simp only [hji29] at H ⊢; exact H)
              (try rw [hji29] at A28)
              have hji29w : (IntKind.i64.wrap (250 + (Go.bits .and .i64 a1 15))) = ji29 := (i64_w _).trans hji29
              by_cases c30 : 0 ≤ (ji29)
              · rw [if_pos c30] at H
                have c30b0 := eq_true c30
                have c30b1 : decide (0 ≤ (ji29)) = true := decide_eq_true c30
                clear c30
                by_cases c31 : (ji29 : Int).toNat ≤ 281474976710656
                · rw [if_pos c31] at H
                  have c31b0 := eq_true c31
                  have c31b1 : decide ((ji29 : Int).toNat ≤ 281474976710656) = true := decide_eq_true c31
                  clear c31
                  obtain ⟨y172, hy172⟩ : ∃ y_ : List Int, y_ = (List.replicate (ji29 : Int).toNat 0) := ⟨_, rfl⟩
                  replace H : ((rdata_Txt.f kj5 (([strOfNums y172] : List ByteArray))).bind fun bt178 => ((rdata_Txt.f kj5 ([] : List ByteArray)).bind fun bt180 => ((wimplelaw0_Num.f t171).bind fun t182 => (if ((t182 == 0) == (decide ((x6_1.length : Int) > 0))) = true then (if t170.toList = x5_1.toList then ((wimplelaw0_Num.f bt178.2).bind fun t183 => (if ((t183 == 0) == (decide ((ji29) ≤ 255))) = true then ((wimplelaw0_Num.f bt180.2).bind fun t184 => (some (t184 == 400))) else (none))) else (none)) else (none))))) = some r := by first | (rw [hy172]; with_reducible exact H) | (have H2_ := (Option.bind_some _ _).symm.trans H; rw [hy172]; with_reducible exact H2_) | (have H2_ := (Option.bind_some _ _).symm.trans H; with_reducible exact H2_) | with_reducible exact H | (rw [hy172]; exact H) | exact H
                  have Ny172 := Aside0.mk hy172
                  clear hy172
                  obtain ⟨y175, hy175⟩ : ∃ y_ : List ByteArray, y_ = (([strOfNums y172] : List ByteArray)) := ⟨_, rfl⟩
                  replace H : ((rdata_Txt.f kj5 y175).bind fun bt178 => ((rdata_Txt.f kj5 ([] : List ByteArray)).bind fun bt180 => ((wimplelaw0_Num.f t171).bind fun t182 => (if ((t182 == 0) == (decide ((x6_1.length : Int) > 0))) = true then (if t170.toList = x5_1.toList then ((wimplelaw0_Num.f bt178.2).bind fun t183 => (if ((t183 == 0) == (decide ((ji29) ≤ 255))) = true then ((wimplelaw0_Num.f bt180.2).bind fun t184 => (some (t184 == 400))) else (none))) else (none)) else (none))))) = some r := by first | (rw [hy175]; with_reducible exact H) | (have H2_ := (Option.bind_some _ _).symm.trans H; rw [hy175]; with_reducible exact H2_) | (have H2_ := (Option.bind_some _ _).symm.trans H; with_reducible exact H2_) | with_reducible exact H | (rw [hy175]; exact H) | exact H
                  have Ny175 := Aside0.mk hy175
                  clear hy175
                  replace H := Option.bind_eq_some_iff.mp H
                  obtain ⟨⟨t178, t179⟩, A320, H⟩ := H
                  replace H : ((rdata_Txt.f kj5 ([] : List ByteArray)).bind fun bt180 => ((wimplelaw0_Num.f t171).bind fun t182 => (if ((t182 == 0) == (decide ((x6_1.length : Int) > 0))) = true then (if t170.toList = x5_1.toList then ((wimplelaw0_Num.f t179).bind fun t183 => (if ((t183 == 0) == (decide ((ji29) ≤ 255))) = true then ((wimplelaw0_Num.f bt180.2).bind fun t184 => (some (t184 == 400))) else (none))) else (none)) else (none)))) = some r := H
                  have A32 := Aside0.mk A320
                  clear A320
                  replace H := Option.bind_eq_some_iff.mp H
                  obtain ⟨⟨t180, t181⟩, A330, H⟩ := H
                  replace H : ((wimplelaw0_Num.f t171).bind fun t182 => (if ((t182 == 0) == (decide ((x6_1.length : Int) > 0))) = true then (if t170.toList = x5_1.toList then ((wimplelaw0_Num.f t179).bind fun t183 => (if ((t183 == 0) == (decide ((ji29) ≤ 255))) = true then ((wimplelaw0_Num.f t181).bind fun t184 => (some (t184 == 400))) else (none))) else (none)) else (none))) = some r := H
                  have A33 := Aside0.mk A330
                  clear A330
                  replace H := Option.bind_eq_some_iff.mp H
                  obtain ⟨t182, A340, H⟩ := H
                  replace H : (if ((t182 == 0) == (decide ((x6_1.length : Int) > 0))) = true then (if t170.toList = x5_1.toList then ((wimplelaw0_Num.f t179).bind fun t183 => (if ((t183 == 0) == (decide ((ji29) ≤ 255))) = true then ((wimplelaw0_Num.f t181).bind fun t184 => (some (t184 == 400))) else (none))) else (none)) else (none)) = some r := H
                  have A34 := Aside0.mk A340
                  clear A340
                  by_cases c35 : ((t182 == 0) == (decide ((x6_1.length : Int) > 0))) = true
                  · rw [if_pos c35] at H
                    (try (have c35b8 := c35; simp only [beq_iff_eq, gt_iff_lt, Int.natCast_pos] at c35b8; replace c35b8 := eq_true c35b8))
                    have c35b0 : ((t182 == 0) == (decide ((x6_1.length : Int) > 0))) = true := c35
                    (try (have c35b1 : decide ((t182 == 0) = (decide ((x6_1.length : Int) > 0))) = true := by simpa using c35))
                    (try (have c35b2 : ((t182 == 0) == (decide ((x6_1.length : Int) > 0))) = true := by simpa using c35))
                    clear c35
                    by_cases c36 : t170.toList = x5_1.toList
                    · rw [if_pos c36] at H
                      have c36b0 : (t170.toList == x5_1.toList) = true := beq_iff_eq.mpr c36
                      have c36b1 : (t170.toList != x5_1.toList) = false := bne_eq_false_iff_eq.mpr c36
                      clear c36
                      replace H := Option.bind_eq_some_iff.mp H
                      obtain ⟨t183, A370, H⟩ := H
                      replace H : (if ((t183 == 0) == (decide ((ji29) ≤ 255))) = true then ((wimplelaw0_Num.f t181).bind fun t184 => (some (t184 == 400))) else (none)) = some r := H
                      have A37 := Aside0.mk A370
                      clear A370
                      by_cases c38 : ((t183 == 0) == (decide ((ji29) ≤ 255))) = true
                      · rw [if_pos c38] at H
                        have c38b0 : ((t183 == 0) == (decide ((ji29) ≤ 255))) = true := c38
                        (try (have c38b1 : decide ((t183 == 0) = (decide ((ji29) ≤ 255))) = true := by simpa using c38))
                        (try (have c38b2 : ((t183 == 0) == (decide ((ji29) ≤ 255))) = true := by simpa using c38))
                        clear c38
                        replace H := Option.bind_eq_some_iff.mp H
                        obtain ⟨t184, A390, H⟩ := H
                        replace H : (some (t184 == 400)) = some r := H
                        have A39 := Aside0.mk A390
                        clear A390
                        obtain rfl := Option.some.inj H
                        obtain ⟨Ao40, co40, eo40⟩ := Kd.R_slice HO_6.out
                        subst eo40
                        go_wp2_with (first | ((with_reducible refine gate_dst (N := 52) rfl ?_); (with_reducible refine gate_callee (f := 40) rfl ?_); refine goesL_ (some 52) rfl rfl Try.func40 (by kernel_rfl) rfl #[.slice Ao40 x6_1.length co40] rfl (by (try simp only [List.map_toArray, List.map_cons, List.map_nil]); first | done | rfl | (simp only [List.length_drop, List.length_take]; rfl)) ?_; (with_reducible refine (rdata_Txt.calls kj5 _ _ x6_1 t170 t171 _ ?side1 ?side2 A28.out).mono ?_); (case side1 => repeat (first | exact (Kd.R_reads' HO_6.out).2.2 | (with_reducible refine Kd.C_alloc ?_ _) | (with_reducible refine Kd.C_drewN ?_ _) | (with_reducible refine Kd.C_drew ?_))); (case side2 => exact (Kd.R_reads' HO_6.out).2.1); rintro e w41 ⟨rfl, hb⟩; refine ⟨_, rfl, ?_⟩; have n0_ := Aside0.mk (Kd.R_below (by (with_reducible repeat (first | apply Kd.R_alloc | apply Kd.R_drewN | apply Kd.R_drew)); exact HO_6.out) hb); have n1_ := Aside0.mk (below_step (by repeat (first | (with_reducible first | exact HB.out | apply below_alloc | apply pw_below_drewN | apply below_drew1) | exact HB.out)) hb); clear HO_6; clear HB; have HO_6 := n0_; have HB := n1_; clear n0_ n1_; (try clear hb); (try clear hb2); (try clear hk); (try clear hi)) | ((with_reducible refine gate_dst (N := 60) rfl ?_); refine Kd.R_make (Kd.int .u8) _ 5 rfl (N := 60) rfl 54 _ _ rfl ji29 rfl rfl Try.underlying54 (.int .u8 0) 1 info5 rfl (by decide) (by omega) 0 (ok := fun _ => True) (okp := fun _ => True) rfl (fun _ hk => hk) trivial (of_decide_eq_true (by first | (with_reducible assumption) | assumption)) (Nat.le_trans (Nat.mul_le_mul_right _ (of_decide_eq_true (by first | (with_reducible assumption) | assumption) : ji29.toNat ≤ 281474976710656)) (by omega)) (Below.refl _ _) (Nat.le_refl _) ?_; intro v173 w42 ho43 hb hg_ hnew_; clear hg_ hnew_; (first | rw [← Ny172.out] at ho43 | (simp only [Int.reduceToNat] at ho43; rw [← Ny172.out] at ho43)); have n0_ := Aside0.mk (Kd.R_below (by (with_reducible repeat (first | apply Kd.R_alloc | apply Kd.R_drewN | apply Kd.R_drew)); exact HO_6.out) hb); have n1_ := Aside0.mk (Kd.R_lower ho43 (below_size (by repeat (first | (with_reducible first | exact HB.out | apply below_alloc | apply pw_below_drewN | apply below_drew1) | exact HB.out)))); have n2_ := Aside0.mk (below_step (by repeat (first | (with_reducible first | exact HB.out | apply below_alloc | apply pw_below_drewN | apply below_drew1) | exact HB.out)) hb); clear HO_6; clear HB; have HO_6 := n0_; have HO174 := n1_; have HB := n2_; clear n0_ n1_ n2_; clear hb ho43; have hcv44 := own_string (P := Try.prog) Try.underlying54 Try.underlying5 Try.underlying9 (Kd.own_of_R HO174.out)) | ((with_reducible refine gate_dst (N := 62) rfl ?_); refine Kd.R_lit Kd.string _ 9 ?hg (N := 62) ?hd (xs := ([strOfNums y172] : List ByteArray)) (inner := [.string (strOfNums y172)]) (ok := fun _ => True) (okp := fun _ => True) ?hr ?hp (fun _ hk => hk) trivial (Below.refl _ _) (Nat.le_refl _) (by simp) ?_; (case hd => rfl); (case hg => rfl); (case hr => first | (go_simp; done) | (go_simp; rfl)); (case hp => exact (Reps.one (show Kd.M Kd.string _ _ _ (strOfNums y172) [.string (strOfNums y172)] from rfl) (Reps.none _ _))); intro v176 w45 ho46 hb hg_ hnew_; clear hg_ hnew_; (first | rw [← Ny175.out] at ho46 | (simp only [Int.reduceToNat] at ho46; rw [← Ny175.out] at ho46)); have n0_ := Aside0.mk (Kd.R_elder' (by (with_reducible repeat (first | apply Kd.R_alloc | apply Kd.R_drewN | apply Kd.R_drew)); exact HO_6.out) (Kd.R_base ho46) hb); have n1_ := Aside0.mk (Kd.R_below (by (with_reducible repeat (first | apply Kd.R_alloc | apply Kd.R_drewN | apply Kd.R_drew)); exact HO174.out) hb); have n2_ := Aside0.mk (Kd.R_lower (Kd.R_new' ho46 (Kd.R_lt (by (with_reducible repeat (first | apply Kd.R_alloc | apply Kd.R_drewN | apply Kd.R_drew)); exact HO_6.out))) (below_size (by repeat (first | (with_reducible first | exact HB.out | apply below_alloc | apply pw_below_drewN | apply below_drew1) | exact HB.out)))); have n3_ := Aside0.mk (below_step (by repeat (first | (with_reducible first | exact HB.out | apply below_alloc | apply pw_below_drewN | apply below_drew1) | exact HB.out)) hb); clear HO_6; clear HO174; clear HB; have HO_6 := n0_; have HO174 := n1_; have HO177 := n2_; have HB := n3_; clear n0_ n1_ n2_ n3_; clear hb ho46; obtain ⟨Ao47, co47, eo47⟩ := Kd.R_slice HO177.out; subst eo47) | ((with_reducible refine gate_dst (N := 63) rfl ?_); (with_reducible refine gate_callee (f := 40) rfl ?_); refine goesL_ (some 63) rfl rfl Try.func40 (by kernel_rfl) rfl #[.slice Ao47 y175.length co47] rfl (by (try simp only [List.map_toArray, List.map_cons, List.map_nil]); first | done | rfl | (simp only [List.length_drop, List.length_take]; rfl)) ?_; (with_reducible refine (rdata_Txt.calls kj5 _ _ y175 t178 t179 _ ?side1 ?side2 A32.out).mono ?_); (case side1 => repeat (first | exact (Kd.R_reads' HO177.out).2.2 | (with_reducible refine Kd.C_alloc ?_ _) | (with_reducible refine Kd.C_drewN ?_ _) | (with_reducible refine Kd.C_drew ?_))); (case side2 => exact (Kd.R_reads' HO177.out).2.1); rintro e w48 ⟨rfl, hb⟩; refine ⟨_, rfl, ?_⟩; have n0_ := Aside0.mk (Kd.R_below (by (with_reducible repeat (first | apply Kd.R_alloc | apply Kd.R_drewN | apply Kd.R_drew)); exact HO_6.out) hb); have n1_ := Aside0.mk (Kd.R_below (by (with_reducible repeat (first | apply Kd.R_alloc | apply Kd.R_drewN | apply Kd.R_drew)); exact HO174.out) hb); have n2_ := Aside0.mk (Kd.R_below (by (with_reducible repeat (first | apply Kd.R_alloc | apply Kd.R_drewN | apply Kd.R_drew)); exact HO177.out) hb); have n3_ := Aside0.mk (below_step (by repeat (first | (with_reducible first | exact HB.out | apply below_alloc | apply pw_below_drewN | apply below_drew1) | exact HB.out)) hb); clear HO_6; clear HO174; clear HO177; clear HB; have HO_6 := n0_; have HO174 := n1_; have HO177 := n2_; have HB := n3_; clear n0_ n1_ n2_ n3_; (try clear hb); (try clear hb2); (try clear hk); (try clear hi)) | ((with_reducible refine gate_dst (N := 67) rfl ?_); (with_reducible refine gate_callee (f := 40) rfl ?_); refine goesL_ (some 67) rfl rfl Try.func40 (by kernel_rfl) rfl #[.slice none 0 0] rfl (by (try simp only [List.map_toArray, List.map_cons, List.map_nil]); first | done | rfl | (simp only [List.length_drop, List.length_take]; rfl)) ?_; (refine (rdata_Txt.calls kj5 _ _ ([] : List ByteArray) t180 t181 _ ?side1 ?side2 A33.out).mono ?_); (case side1 => exact Kd.C_nil _ _); (case side2 => exact Nat.le_refl _); rintro e w49 ⟨rfl, hb⟩; refine ⟨_, rfl, ?_⟩; have n0_ := Aside0.mk (Kd.R_below (by (with_reducible repeat (first | apply Kd.R_alloc | apply Kd.R_drewN | apply Kd.R_drew)); exact HO_6.out) hb); have n1_ := Aside0.mk (Kd.R_below (by (with_reducible repeat (first | apply Kd.R_alloc | apply Kd.R_drewN | apply Kd.R_drew)); exact HO174.out) hb); have n2_ := Aside0.mk (Kd.R_below (by (with_reducible repeat (first | apply Kd.R_alloc | apply Kd.R_drewN | apply Kd.R_drew)); exact HO177.out) hb); have n3_ := Aside0.mk (below_step (by repeat (first | (with_reducible first | exact HB.out | apply below_alloc | apply pw_below_drewN | apply below_drew1) | exact HB.out)) hb); clear HO_6; clear HO174; clear HO177; clear HB; have HO_6 := n0_; have HO174 := n1_; have HO177 := n2_; have HB := n3_; clear n0_ n1_ n2_ n3_; (try clear hb); (try clear hb2); (try clear hk); (try clear hi)) | ((with_reducible refine gate_dst (N := 71) rfl ?_); (with_reducible refine gate_callee (f := 20) rfl ?_); refine goesL_ (some 71) rfl rfl Try.func20 (by kernel_rfl) rfl #[.int .i64 t171] rfl (by (try simp only [List.map_toArray, List.map_cons, List.map_nil]); first | done | rfl | (simp only [List.length_drop, List.length_take]; rfl)) ?_; (with_reducible refine (wimplelaw0_Num.calls t171 t182 _ A34.out).mono ?_); rintro e w' ⟨rfl, ⟨nd, rfl⟩⟩; refine ⟨_, rfl, ?_⟩) | (go_at_call 20; (with_reducible refine (wimplelaw0_Num.calls t179 t183 _ A37.out).mono ?_); rintro e w' ⟨rfl, ⟨nd, rfl⟩⟩) | (go_at_call 20; (with_reducible refine (wimplelaw0_Num.calls t181 t184 _ A39.out).mono ?_); rintro e w' ⟨rfl, ⟨nd, rfl⟩⟩))
                        go_ret
                        exact ⟨by first | rfl | (simp [errW_none, errW_some] <;> rfl) | (simp only [← hji29]; first | rfl | (simp [errW_none, errW_some] <;> rfl)) | (simp [*, errW_none, errW_some] <;> rfl), by repeat (first | (with_reducible first | exact HB.out | apply below_alloc | apply pw_below_drewN | apply below_drew1) | exact HB.out)⟩
                      · rw [if_neg c38] at H
                        exact absurd H (by simp)
                    · rw [if_neg c36] at H
                      exact absurd H (by simp)
                  · rw [if_neg c35] at H
                    exact absurd H (by simp)
                · rw [if_neg c31] at H
                  exact absurd H (by simp)
              · rw [if_neg c30] at H
                exact absurd H (by simp)
  · replace c4 := Bool.eq_false_iff.mpr c4
    subst c4
    have H1 : (none) = some r := by rw [if_neg (show ¬ (false = true) by decide)] at H; exact H
    clear H
    have H := H1
    clear H1
    exact absurd H (by simp)
end

end Go.Proofs.Ytndcjleadggibaa.PRdT
