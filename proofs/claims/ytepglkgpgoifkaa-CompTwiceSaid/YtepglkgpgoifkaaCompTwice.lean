/- CompTwice's walk: the same name again is two bytes, wherever it stands; the root is one. -/
import Derived.Test.YtepglkgpgoifkaaCompFull
import Derived.Test.YtepglkgpgoifkaaWriterKeep
namespace Go.Proofs.Ytepglkgpgoifkaa.CompTwice
open Go.RowKit Go.PlainAid Go.Maps Go.Proofs.Ytepglkgpgoifkaa.Base Go.Proofs.Ytepglkgpgoifkaa.Oct Go.Proofs.Ytepglkgpgoifkaa.Nm Go.Proofs.Ytepglkgpgoifkaa.Wr Go.Proofs.Ytepglkgpgoifkaa.CompFull
open Go.Proofs.YtepglkgpgoifkaaW.PrintWords (bytesOf bytesOf_length Kd rdOf own_nil)
set_option linter.unusedVariables false
set_option maxHeartbeats 8000000 in
set_option maxRecDepth 100000 in
theorem walk (A : Option Addr) (c : Nat) (ns : List ByteArray) (w : World) (hC : Kd.C Kd.string w A ns.length ns) (hl : ns.length ≤ c) : Calls Try.prog 9 #[.slice A ns.length c] w fun e w' => e = .returned (.bool true) ∧ Below w.heap.size w w' := by
  go_enter Try.func9, Try.ntmps9
  go_wp2_with fail
  refine (awakec w).mono ?_
  rintro e w1 ⟨rfl, B1⟩
  have s1 := B1.size
  go_wp2_with fail
  refine (newc w1).mono ?_
  rintro e w2 ⟨g, gm, rfl, B2, H2⟩
  go_wp2_with fail
  go_loopg [4, 5] 15 (fun k v4 v5 wr => ∃ (i : Nat) (ss : List ByteArray) (X : List Int) (m : ByteArray → Option Int) (vw : Value), v5 = .int .i64 i ∧ i + k = 15 ∧ i ≤ 14 ∧ Wr w1.heap.size wr g gm vw X m ∧ wr.ownsRow w1.heap.size 9 1 v4 ss.length (strs ss) ∧ Below w1.heap.size w1 wr ∧ X.length ≤ 257 * i ∧ ss.length ≤ i ∧ (∀ x ∈ ss, x ≠ root → (m x).isSome = true))
  case atStart => exact ⟨0, [], [], fun _ => none, .slice none 0 0, rfl, rfl, by omega, H2, own_nil _ _ _ _, B2, by simp, by simp, by simp⟩
  case round =>
    obtain ⟨i, ss, X, m, vw, rfl, hk1, hk2, HW, hss, BB, hX, hsl, hkn⟩ := hrel
    have HKN := Lib.hid hkn
    clear hkn
    by_cases hi : i < ns.length
    · have q0 : decide ((i : Int) < (ns.length : Int)) = true := by simp; omega
      by_cases h14 : i < 14
      · have q1 : decide ((i : Int) < 14) = true := by simp; omega
        obtain ⟨ad, eA, hc0⟩ := Kd.at_string hC (i : Int) (by omega) (by omega)
        subst eA
        replace hc0 : w.cell? (ad.add i) = some (.string (rdOf ByteArray.empty ns (i : Int))) := hc0
        generalize rdOf ByteArray.empty ns (i : Int) = s at hc0
        have hc1 := bcell (B1.trans (BB.mono s1)) hc0
        have sB := BB.size
        go_wp2_with fail
        refine (rmay s _).mono ?_
        rintro e w3 ⟨rfl, B3⟩
        have HW3 := HW.below B3
        have hs3 := Sl.own_below hss B3
        have BB3 := BB.trans (B3.mono sB)
        clear B3 HW hss BB hc1 sB
        have s3 := BB3.size
        have hc3 := bcell (B1.trans (BB3.mono s1)) hc0
        cases hn : nameB s with
        | false =>
          go_wp2_with fail
          go_roundg (gk - 1)
          case measure => omega
          case rel => exact ⟨i + 1, ss, X, m, vw, rfl, by omega, by omega, HW3, hs3, BB3, by omega, by omega, HKN.out⟩
        | true =>
          have h255 := (places_pos hn).1
          have ho := outN_size m s hn
          go_wp2_with fail
          refine (allc HW3).mono ?_
          rintro e w4 ⟨rfl, rfl⟩
          have hz1 : (strOfNums X).size = X.length := strOfNums_size _
          go_wp2_with fail
          refine (nameYes HW3 s hn).mono ?_
          rintro e w5 h
          rw [if_neg (by omega)] at h
          obtain ⟨rfl, v5, HW5, B5, K5⟩ := h
          have hs5 := own_kp HW3 hs3 (by decide) (by decide) K5
          have BB5 := BB3.trans B5
          have hc5 := bcell (B1.trans (BB5.mono s1)) hc0
          have s5 := BB5.size
          clear HW3 hs3 BB3 B5 K5 hc3 s3
          go_wp2_with fail
          refine (numc _ _).mono ?_
          rintro e w6 ⟨rfl, rfl⟩
          go_wp2_with fail
          refine (allc HW5).mono ?_
          rintro e w7 ⟨rfl, rfl⟩
          have hz2 : (strOfNums (X ++ bytesOf (outN m s))).size = X.length + (outN m s).size := by rw [strOfNums_size, List.length_append, bytesOf_length]
          have hz3 : ((X.length + (outN m s).size : Nat) : Int) - (X.length : Int) = ((outN m s).size : Int) := by omega
          go_wp2_with fail
          obtain ⟨-, As, cs, rfl, hcs, hcell⟩ := strs_at hs5
          go_loopg [9, 10] (ss.length + 1) (fun k v9 v10 wq => ∃ (j : Nat) (bb : Bool), v9 = .bool bb ∧ (bb = true ↔ s ∈ ss.take j) ∧ v10 = .int .i64 j ∧ j + k = ss.length + 1 ∧ j ≤ ss.length ∧ Below w7.heap.size w7 wq)
          case atStart => exact ⟨0, false, rfl, by simp, rfl, by omega, by omega, Below.refl _ _⟩
          case round =>
            obtain ⟨j, bb, rfl, hbb, rfl, hj1, hj2, Bq⟩ := hrel
            have HBB := Lib.hid hbb
            clear hbb
            by_cases hj : j < ss.length
            · have q2 : decide ((j : Int) < (ss.length : Int)) = true := by simp; omega
              have hc8 := bcell Bq hc5
              obtain ⟨kk, eq, hcj⟩ : ∃ k, As = some ⟨k, 0, none⟩ ∧ ∀ j, j < ss.length → w7.cell? ⟨k, j, none⟩ = some (.string (ss.getD j ⟨#[]⟩)) := by
                rcases hcell with h | h
                · omega
                · exact h
              subst eq
              have hc9 := bcell Bq (hcj j hj)
              have htk : s ∈ ss.take (j + 1) ↔ (s ∈ ss.take j ∨ ss.getD j ⟨#[]⟩ = s) := by
                rw [List.take_succ_eq_append_getElem hj, List.mem_append, List.mem_singleton, List.getD_eq_getElem?_getD, List.getElem?_eq_getElem hj]
                simp [eq_comm]
              have HTK := Lib.hid htk
              clear htk
              generalize hgx : ss.getD j ⟨#[]⟩ = x at *
              cases bb with
              | true =>
                go_upto_region 18 with (fail)
                go_region
                go_wp2
                go_roundg (gk - 1)
                case measure => omega
                case rel => exact ⟨j + 1, true, rfl, ⟨fun _ => HTK.out.2 (.inl (HBB.out.1 (by trivial))), fun _ => (by trivial)⟩, rfl, by omega, by omega, Bq.drew⟩
              | false =>
                go_upto_region 18 with (fail)
                by_cases hxs : x = s
                · subst hxs
                  go_region
                  go_wp2
                  go_roundg (gk - 1)
                  case measure => omega
                  case rel => exact ⟨j + 1, true, rfl, ⟨fun _ => HTK.out.2 (.inr (by trivial)), fun _ => (by trivial)⟩, rfl, by omega, by omega, Bq.drew⟩
                · have qx : (x.toList == s.toList) = false := by rw [beq_eq_false_iff_ne]; exact fun e => hxs (Pu.toList_inj e)
                  go_region
                  go_wp2
                  go_roundg (gk - 1)
                  case measure => omega
                  case rel => exact ⟨j + 1, false, rfl, ⟨fun h => absurd h (by simp), fun h => ((HTK.out.1 h).elim (fun h => HBB.out.2 h) (fun h => absurd h hxs))⟩, rfl, by omega, by omega, Bq.drew⟩
            · have q2 : decide ((j : Int) < (ss.length : Int)) = false := by simp; omega
              obtain rfl : j = ss.length := by omega
              have HBT : bb = true → s ∈ ss := fun h => by have := HBB.out.1 h; rwa [List.take_length] at this
              clear HBB
              have HWq := HW5.below Bq
              have hsq := Sl.own_below hs5 Bq
              have hc8 := bcell Bq hc5
              have BBq := BB5.trans (Bq.mono s5)
              have sq := BBq.size
              have KN : ∀ x ∈ ss ++ [s], x ≠ root → (putN m s X.length x).isSome = true := by
                intro x hx h0
                rcases List.mem_append.1 hx with hx | hx
                · exact putN_some s _ (HKN.out x hx h0)
                · rw [List.mem_singleton] at hx; subst hx; exact putN_self m _ hn h0
              have hz4 : (X ++ bytesOf (outN m s)).length ≤ 257 * (i + 1) := by rw [List.length_append, bytesOf_length]; omega
              have HKN2 := Lib.hid KN
              clear KN
              have hss : strs ss ++ [.string s] = strs (ss ++ [s]) := by simp [strs]
              have HSS := Lib.hid hss
              clear hss
              by_cases h0 : s = root
              · have q3 : (s.toList == [0]) = true := by rw [h0]; decide +kernel
                have q4 : (((outN m s).size : Int) == 1) = true := by rw [h0, outN_root]; rfl
                have H0 := Lib.hid h0
                clear h0
                go_wp2_with (at_builtin; refine app_one w1.heap.size rfl _ _ 22 9 (.string ⟨#[]⟩) 16 rfl Try.underlying22 info_string rfl hsq (.string s) rfl rfl rfl sq ?hn ?hl ?_)
                case hn => omega
                case hl => omega
                intro v9 w9 hown9 hg9
                go_wp2
                go_roundg (14 - i)
                case measure => omega
                case rel =>
                  rw [HSS.out] at hown9
                  exact ⟨i + 1, ss ++ [s], _, _, _, rfl, by omega, by omega, (HWq.alloc _).beside (hsq.alloc _) (by decide) (by decide) hg9, by simpa using hown9, (BBq.alloc sq _).grown hg9 (by simp; omega) (Sl.own_base hsq), hz4, by simp; omega, HKN2.out⟩
              · have q3 : (s.toList == [0]) = false := by
                  rw [beq_eq_false_iff_ne]; exact fun e => h0 (Pu.toList_inj (e.trans (show [0] = root.toList by decide +kernel)))
                have H0 := Lib.hid h0
                clear h0
                cases bb with
                | true =>
                  have q4 : (((outN m s).size : Int) == 2) = true := by rw [outN_known hn H0.out (HKN.out s (HBT (by trivial)) H0.out)]; rfl
                  go_wp2_with (at_builtin; refine app_one w1.heap.size rfl _ _ 22 9 (.string ⟨#[]⟩) 16 rfl Try.underlying22 info_string rfl hsq (.string s) rfl rfl rfl sq ?hn ?hl ?_)
                  case hn => omega
                  case hl => omega
                  intro v9 w9 hown9 hg9
                  go_wp2
                  go_roundg (14 - i)
                  case measure => omega
                  case rel =>
                  rw [HSS.out] at hown9
                  exact ⟨i + 1, ss ++ [s], _, _, _, rfl, by omega, by omega, (HWq.alloc _).beside (hsq.alloc _) (by decide) (by decide) hg9, by simpa using hown9, (BBq.alloc sq _).grown hg9 (by simp; omega) (Sl.own_base hsq), hz4, by simp; omega, HKN2.out⟩
                | false =>
                  go_wp2_with (at_builtin; refine app_one w1.heap.size rfl _ _ 22 9 (.string ⟨#[]⟩) 16 rfl Try.underlying22 info_string rfl hsq (.string s) rfl rfl rfl sq ?hn ?hl ?_)
                  case hn => omega
                  case hl => omega
                  intro v9 w9 hown9 hg9
                  go_wp2
                  go_roundg (14 - i)
                  case measure => omega
                  case rel =>
                  rw [HSS.out] at hown9
                  exact ⟨i + 1, ss ++ [s], _, _, _, rfl, by omega, by omega, (HWq.alloc _).beside (hsq.alloc _) (by decide) (by decide) hg9, by simpa using hown9, (BBq.alloc sq _).grown hg9 (by simp; omega) (Sl.own_base hsq), hz4, by simp; omega, HKN2.out⟩
      · have q1 : decide ((i : Int) < 14) = false := by simp; omega
        go_wp2_with fail
        go_ret
        exact ⟨rfl, B1.trans (BB.mono s1)⟩
    · have q0 : decide ((i : Int) < (ns.length : Int)) = false := by simp; omega
      go_wp2_with fail
      go_ret
      exact ⟨rfl, B1.trans (BB.mono s1)⟩
end Go.Proofs.Ytepglkgpgoifkaa.CompTwice
