/- CompWrites' walk: names and bytes written in any row. -/
import Derived.Test.YtepglkgpgoifkaaCompFull
import Derived.Test.YtepglkgpgoifkaaRefName
import Derived.StillTailTactics
import Derived.Deep.RegionWith
namespace Go.Proofs.Ytepglkgpgoifkaa.CompWrites
open Go.RowKit Go.PlainAid Go.Maps Go.Proofs.Ytepglkgpgoifkaa.Base Go.Proofs.Ytepglkgpgoifkaa.Oct Go.Proofs.Ytepglkgpgoifkaa.Nm Go.Proofs.Ytepglkgpgoifkaa.Wr Go.Proofs.Ytepglkgpgoifkaa.CompFull
open Go.Proofs.YtepglkgpgoifkaaW.PrintWords (bytesOf bytesOf_length Kd rdOf own_nil blk_new)
open Go.Sort (grow)
set_option linter.unusedVariables false
section
variable {base g gm : Nat} {v : Value} {S : ByteArray} {m : ByteArray → Option Int} {w : World}
theorem allS (H : Wr base w g gm v (bytesOf S) m) : Calls Try.prog 18 #[ptr g] w fun e w' => e = .returned (.string S) ∧ w' = w := by
  have := allc H
  rwa [Pu.nums_bytesOf] at this
theorem rawLong0 (H : Wr base w g gm v (bytesOf S) m) (s : ByteArray) (hl : 4096 < S.size + s.size) :
    Calls Try.prog 13 #[ptr g, .string s] w fun e w' => e = .returned (.int .i64 501) ∧ w' = w := by
  have c0 : w.cell? ⟨g, 0, none⟩ = some v := (Go.Proofs.YtepglkgpgoifkaaW.PrintWords.blk_cell H.blk 0).trans rfl
  have hx := H.len
  rw [bytesOf_length] at hx
  obtain ⟨A, c, rfl⟩ := Sl.own_slice H.own
  rw [bytesOf_length] at c0
  have q : decide (4096 - (S.size : Int) < (s.size : Int)) = true := by simp; omega
  go_enter Try.func13, Try.ntmps13
  go_wp2
  go_ret
  exact ⟨rfl, rfl⟩
end
/-- What holds of both writers at once. -/
structure Two (base : Nat) (w : World) (g gm g2 : Nat) (S : ByteArray) : Prop where
  ex : ∃ (m : ByteArray → Option Int) (ms : List (ByteArray × Int)) (v v2 : Value), Wr base w g gm v (bytesOf S) m ∧ Rf base w g2 v2 S ms ∧ mOf ms = m ∧ Small m
theorem Two.below {base : Nat} {w w' : World} {g gm g2 : Nat} {S : ByteArray} (H : Two base w g gm g2 S) (hb : Below w.heap.size w w') : Two base w' g gm g2 S := by
  obtain ⟨m, ms, v, v2, a, b, c, d⟩ := H.ex
  exact ⟨m, ms, v, v2, a.below hb, b.below hb, c, d⟩
set_option maxHeartbeats 8000000 in
set_option maxRecDepth 100000 in
theorem walk (A : Option Addr) (c : Nat) (ns : List ByteArray) (A2 : Option Addr) (c2 : Nat) (rs : List ByteArray) (w : World) (hC : Kd.C Kd.string w A ns.length ns) (hl : ns.length ≤ c) (hC2 : Kd.C Kd.string w A2 rs.length rs) (hl2 : rs.length ≤ c2) : Calls Try.prog 3 #[.slice A ns.length c, .slice A2 rs.length c2] w fun e w' => e = .returned (.bool true) ∧ Below w.heap.size w w' := by
  go_enter Try.func3, Try.ntmps3
  go_wp2_with fail
  refine (newc w).mono ?_
  rintro e w1 ⟨g, gm, rfl, B1, H1⟩
  have s1 := B1.size
  go_wp2_with fail
  have Ba : Below w1.heap.size w1 (w1.alloc (.cells #[.string ⟨#[]⟩, .slice none 0 0] 28)) := (Below.refl _ _).alloc (Nat.le_refl _) _
  have T1 : Two w.heap.size (w1.alloc (.cells #[.string ⟨#[]⟩, .slice none 0 0] 28)) g gm w1.heap.size ⟨#[]⟩ :=
    ⟨fun _ => none, [], _, _, H1.below Ba, ⟨s1, blk_new _ _, own_nil _ _ _ _, by decide, by decide⟩, rfl, fun x t h => by cases h⟩
  have B2 := B1.trans (Ba.mono s1)
  clear H1 Ba
  generalize hg2 : w1.heap.size = g2 at *
  generalize w1.alloc (.cells #[.string ⟨#[]⟩, .slice none 0 0] 28) = w2 at *
  go_loopg [7] 61 (fun k v7 wr => ∃ (i : Nat) (S : ByteArray), v7 = .int .i64 i ∧ i + k = 61 ∧ i ≤ 60 ∧ Two w.heap.size wr g gm g2 S ∧ Below w.heap.size w wr)
  case atStart => exact ⟨0, _, rfl, rfl, by omega, T1, B2⟩
  case round =>
    obtain ⟨i, S, rfl, hk1, hk2, HT, BB⟩ := hrel
    have sB := BB.size
    by_cases hin : i < ns.length ∧ i < 60
    · obtain ⟨hi, h60⟩ := hin
      have q0 : decide ((i : Int) < (ns.length : Int)) = true := by simp; omega
      have q1 : decide ((i : Int) < 60) = true := by simp; omega
      obtain ⟨ad, eA, hc0⟩ := Kd.at_string hC (i : Int) (by omega) (by omega)
      subst eA
      replace hc0 : w.cell? (ad.add i) = some (.string (rdOf ByteArray.empty ns (i : Int))) := hc0
      generalize rdOf ByteArray.empty ns (i : Int) = x at hc0
      go_upto_if 26 with (fail)
      go_cut [8] (fun v8 wc => ∃ S, Two w.heap.size wc g gm g2 S ∧ Below w.heap.size w wc)
      case first =>
        by_cases hr : i < rs.length
        · have q2 : decide ((i : Int) < (rs.length : Int)) = true := by simp; omega
          obtain ⟨ad2, eA2, hd0⟩ := Kd.at_string hC2 (i : Int) (by omega) (by omega)
          subst eA2
          replace hd0 : w.cell? (ad2.add i) = some (.string (rdOf ByteArray.empty rs (i : Int))) := hd0
          generalize rdOf ByteArray.empty rs (i : Int) = s at hd0
          have hd1 := bcell BB hd0
          obtain ⟨m, ms, v, v2, HW, HR, hm, hsm⟩ := HT.ex
          have hSl := HR.len
          go_wp2_with fail
          by_cases hlong : 4096 < S.size + s.size
          · refine (rawLong0 HW s hlong).mono ?_
            rintro e w3 ⟨rfl, rfl⟩
            go_upto_region 7 with (fail)
            go_still_tail 7, (by kernel_rfl)
            still_call (numc _ _)
            repeat still_step
            refine wpStill_nil ?_
            change wpList _ _ _ _ _ w3.drew
            have T3 : Two w.heap.size w3.drew g gm g2 S := Two.below ⟨m, ms, v, v2, HW, HR, hm, hsm⟩ (Below.refl _ w3).drew
            have B3 := BB.drew
            clear HW HR hd1 BB HT sB
            generalize w3.drew = w4 at *
            obtain ⟨m, ms, v, v2, HW, HR, hm, hsm⟩ := T3.ex
            go_wp2_with fail
            refine (rrawLong HR s hlong).mono ?_
            rintro e w5 ⟨rfl, rfl⟩
            go_wp2_with fail
            go_meet
            case rel => exact ⟨S, T3, B3⟩
          · refine (rawOk HW s (by omega) (by rw [bytesOf_length]; omega)).mono ?_
            rintro e w3 ⟨rfl, v3, HW3, B3, K3⟩
            rw [← Pu.bytesOf_append] at HW3
            have HR3 := HR.kp HW K3
            replace B3 := BB.trans (B3.mono (Nat.le_refl _))
            have hd3 := bcell B3 hd0
            clear HW HR hd1 BB HT sB K3
            go_upto_region 7 with (fail)
            go_still_tail 7, (by kernel_rfl)
            still_call (numc _ _)
            repeat still_step
            refine wpStill_nil ?_
            change wpList _ _ _ _ _ w3.drew
            have HW4 := HW3.below (Below.refl _ w3).drew
            have HR4 := HR3.below (Below.refl _ w3).drew
            have B4 := B3.drew
            clear HW3 HR3 B3 hd3
            generalize w3.drew = w4 at *
            go_wp2_with fail
            refine (rrawOk HR4 s (by omega)).mono ?_
            rintro e w5 ⟨rfl, HR5, B5, K5⟩
            have HW5 := HW4.kr HR4 K5
            go_wp2_with fail
            go_meet
            case rel => exact ⟨S ++ s, ⟨m, ms, v3, v2, HW5, HR5, hm, hsm⟩, B4.trans B5⟩
        · have q2 : decide ((i : Int) < (rs.length : Int)) = false := by simp; omega
          go_wp2_with fail
          go_meet
          case rel => exact ⟨S, HT, BB⟩
      case rest =>
      clear HT BB sB
      obtain ⟨S, HT, BB⟩ := hcut
      have sB := BB.size
      obtain ⟨m, ms, v, v2, HW, HR, rfl, hsm⟩ := HT.ex
      have hSl := HR.len
      have hc1 := bcell BB hc0
      go_wp2_with fail
      cases hn : nameB x with
      | false =>
        refine (nameNo HW x hn).mono ?_
        rintro e w3 ⟨rfl, HW3, B3, K3⟩
        have HR3 := HR.kp HW K3
        replace B3 := BB.trans B3
        have hd3 := bcell B3 hc0
        clear HW HR BB HT sB K3 hc1
        have HW4 := HW3.below (Below.refl _ w3).drew
        have HR4 := HR3.below (Below.refl _ w3).drew
        go_upto_region 10 with (fail)
        go_cut [63] (fun v63 wc => v63 = .bool false ∧ Two w.heap.size wc g gm g2 S ∧ Below w.heap.size w wc)
        case first =>
          go_region_with (first
            | (go_at_call 14; refine (numc _ _).mono ?_; rintro e w' ⟨rfl, rfl⟩)
            | (go_at_call 17; refine (rnameNo HR4 x hn).mono ?_; rintro e w5 ⟨rfl, HR5, B5, K5⟩; have HW5 := HW4.kr HR4 K5)
            | (go_at_call 18; refine (allS HW5).mono ?_; rintro e w' ⟨rfl, rfl⟩)
            | (go_at_call 19; refine (rall HR5).mono ?_; rintro e w' ⟨rfl, rfl⟩))
          all_goals
            go_wp2_with fail
            go_meet
            case rel => exact ⟨rfl, ⟨_, ms, _, v2, HW5, HR5, rfl, hsm⟩, B3.drew.trans B5⟩
        case rest =>
        clear HW3 HR3 HW4 HR4 B3 hd3
        obtain ⟨rfl, T6, B6⟩ := hcut
        go_wp2_with fail
        go_roundg (60 - i)
        case measure => omega
        case rel => exact ⟨i + 1, _, rfl, by omega, by omega, T6, B6⟩
      | true =>
      have hz := outN_size (mOf ms) x hn
      have hx255 := (places_pos hn).1
      by_cases hfit : 4096 < S.size + (outN (mOf ms) x).size
      · refine (nameYes HW x hn).mono ?_
        rintro e w3 h
        rw [bytesOf_length, if_pos hfit] at h
        obtain ⟨rfl, HW3, B3, K3⟩ := h
        have HR3 := HR.kp HW K3
        replace B3 := BB.trans B3
        have hd3 := bcell B3 hc0
        clear HW HR BB HT sB K3 hc1
        have HW4 := HW3.below (Below.refl _ w3).drew
        have HR4 := HR3.below (Below.refl _ w3).drew
        have HFIT := Lib.hid hfit
        clear hfit
        go_upto_region 10 with (fail)
        go_cut [63] (fun v63 wc => v63 = .bool false ∧ Two w.heap.size wc g gm g2 S ∧ Below w.heap.size w wc)
        case first =>
          go_region_with (first
            | (go_at_call 14; refine (numc _ _).mono ?_; rintro e w' ⟨rfl, rfl⟩)
            | (go_at_call 17; refine (rname HR4 x hn hsm).mono ?_; rintro e w5 h; rw [if_pos HFIT.out] at h; obtain ⟨rfl, HR5, B5, K5⟩ := h; have HW5 := HW4.kr HR4 K5)
            | (go_at_call 18; refine (allS HW5).mono ?_; rintro e w' ⟨rfl, rfl⟩)
            | (go_at_call 19; refine (rall HR5).mono ?_; rintro e w' ⟨rfl, rfl⟩))
          all_goals
            go_wp2_with fail
            go_meet
            case rel => exact ⟨rfl, ⟨_, ms, _, v2, HW5, HR5, rfl, hsm⟩, B3.drew.trans B5⟩
        case rest =>
        clear HW3 HR3 HW4 HR4 B3 hd3
        obtain ⟨rfl, T6, B6⟩ := hcut
        go_wp2_with fail
        go_roundg (60 - i)
        case measure => omega
        case rel => exact ⟨i + 1, _, rfl, by omega, by omega, T6, B6⟩
      · refine (nameYes HW x hn).mono ?_
        rintro e w3 h
        rw [bytesOf_length, if_neg hfit] at h
        obtain ⟨rfl, v3, HW3, B3, K3⟩ := h
        rw [← Pu.bytesOf_append] at HW3
        have HR3 := HR.kp HW K3
        replace B3 := BB.trans B3
        have hd3 := bcell B3 hc0
        clear HW HR BB HT sB K3 hc1
        have HW4 := HW3.below (Below.refl _ w3).drew
        have HR4 := HR3.below (Below.refl _ w3).drew
        have hsm2 := hsm.put x S.size (by omega)
        have hmp := mOf_put ms x S.size
        have HFIT := Lib.hid hfit
        have HMP := Lib.hid hmp
        clear hfit hmp
        go_upto_region 10 with (fail)
        go_cut [63] (fun v63 wc => v63 = .bool false ∧ Two w.heap.size wc g gm g2 (S ++ outN (mOf ms) x) ∧ Below w.heap.size w wc)
        case first =>
          go_region_with (first
            | (go_at_call 14; refine (numc _ _).mono ?_; rintro e w' ⟨rfl, rfl⟩)
            | (go_at_call 17; refine (rname HR4 x hn hsm).mono ?_; rintro e w5 h; rw [if_neg HFIT.out] at h; obtain ⟨rfl, v5, HR5, B5, K5⟩ := h; have HW5 := HW4.kr HR4 K5)
            | (go_at_call 18; refine (allS HW5).mono ?_; rintro e w' ⟨rfl, rfl⟩)
            | (go_at_call 19; refine (rall HR5).mono ?_; rintro e w' ⟨rfl, rfl⟩))
          all_goals
            go_wp2_with fail
            go_meet
            case rel => exact ⟨rfl, ⟨_, _, _, v5, HW5, HR5, HMP.out, hsm2⟩, B3.drew.trans B5⟩
        case rest =>
        clear HW3 HR3 HW4 HR4 B3 hd3
        obtain ⟨rfl, T6, B6⟩ := hcut
        go_wp2_with fail
        go_roundg (60 - i)
        case measure => omega
        case rel => exact ⟨i + 1, _, rfl, by omega, by omega, T6, B6⟩
    · by_cases hi : i < ns.length
      · have h60 : ¬ i < 60 := fun h => hin ⟨hi, h⟩
        have q0 : decide ((i : Int) < (ns.length : Int)) = true := by simp; omega
        have q1 : decide ((i : Int) < 60) = false := by simp; omega
        clear hin
        go_wp2_with fail
        refine (awakec _).mono ?_
        rintro e w3 ⟨rfl, B3⟩
        go_wp2_with fail
        go_ret
        exact ⟨rfl, BB.trans (B3.mono sB)⟩
      · have q0 : decide ((i : Int) < (ns.length : Int)) = false := by simp; omega
        clear hin
        go_wp2_with fail
        refine (awakec _).mono ?_
        rintro e w3 ⟨rfl, B3⟩
        go_wp2_with fail
        go_ret
        exact ⟨rfl, BB.trans (B3.mono sB)⟩
end Go.Proofs.Ytepglkgpgoifkaa.CompWrites
