/- CompBack's walk: names that were written are read again, each at its place; none is longer than it is. -/
import Derived.Test.YtepglkgpgoifkaaCompFull
import Derived.Test.YtepglkgpgoifkaaWriterKeep
import Derived.Test.YtepglkgpgoifkaaLies
namespace Go.Proofs.Ytepglkgpgoifkaa.CompBack
open Go.RowKit Go.PlainAid Go.Maps Go.Proofs.Ytepglkgpgoifkaa.Base Go.Proofs.Ytepglkgpgoifkaa.Oct Go.Proofs.Ytepglkgpgoifkaa.Nm Go.Proofs.Ytepglkgpgoifkaa.Wr Go.Proofs.Ytepglkgpgoifkaa.CompFull
open Go.Proofs.YtepglkgpgoifkaaW.PrintWords (bytesOf bytesOf_length Kd rdOf own_nil)
open Go.Sort (grow)
set_option linter.unusedVariables false
/-- What holds of the bytes S, the places and the names that were put. -/
structure Back (S : ByteArray) (m : ByteArray → Option Int) (pl : List Nat) (ks : List ByteArray) : Prop where
  len : pl.length = ks.length
  known : Known S m
  lies : ∀ j, j < ks.length → Lies S (pl.getD j 0) (ks.getD j ⟨#[]⟩) (pl.getD j 0) ((pl ++ [S.size]).getD (j + 1) 0)
  sz : ∀ j, j < ks.length → (ks.getD j ⟨#[]⟩).size ≤ 255
theorem getD_left {α : Type} (l r : List α) (i : Nat) (d : α) (h : i < l.length) : (l ++ r).getD i d = l.getD i d := by
  rw [List.getD_eq_getElem?_getD, List.getElem?_append_left h, List.getD_eq_getElem?_getD]
theorem getD_last {α : Type} (l : List α) (x : α) (d : α) (i : Nat) (h : i = l.length) : (l ++ [x]).getD i d = x := by
  subst h
  rw [List.getD_eq_getElem?_getD, List.getElem?_append_right (Nat.le_refl _), Nat.sub_self]; rfl
theorem Back.next {S s : ByteArray} {m : ByteArray → Option Int} {pl : List Nat} {ks : List ByteArray} (H : Back S m pl ks) (hn : nameB s = true) (hz : S.size + s.size < 16384) :
    Back (S ++ outN m s) (putN m s S.size) (pl ++ [S.size]) (ks ++ [s]) := by
  obtain ⟨h1, h2, h3⟩ := put_known H.known hn hz
  have hl := H.len
  refine ⟨by simp [hl], h3, fun j hj => ?_, fun j hj => ?_⟩
  · rw [List.length_append, List.length_singleton] at hj
    by_cases e : j < ks.length
    · rw [getD_left pl _ j 0 (by omega), getD_left ks _ j _ e, getD_left (pl ++ [S.size]) _ (j + 1) 0 (by simp; omega)]
      exact (H.lies j e).more _
    · obtain rfl : j = ks.length := by omega
      rw [getD_last ks s _ _ rfl, getD_last pl S.size _ _ hl.symm, getD_last (pl ++ [S.size]) _ _ _ (by simp [hl])]
      exact h2
  · rw [List.length_append, List.length_singleton] at hj
    by_cases e : j < ks.length
    · rw [getD_left ks _ j _ e]; exact H.sz j e
    · rw [getD_last ks s _ _ (by omega)]; exact (places_pos hn).1
theorem row_at {w : World} {base n : Nat} {e : TypeId} {v : Value} {ys : List Value} (h : w.ownsRow base e 1 v n ys) : ys.length = n ∧ ∃ A c, v = .slice A n c ∧ n ≤ c ∧ (n = 0 ∨ ∃ k, A = some ⟨k, 0, none⟩ ∧ ∀ j u, ys[j]? = some u → w.cell? ⟨k, j, none⟩ = some u) := by
  have hl : ys.length = n := by have := h.1; simpa using this
  refine ⟨hl, ?_⟩
  rcases h.2 with ⟨rfl, h0⟩ | ⟨k, cap, cur, rfl, hg, hh, hc⟩
  · exact ⟨none, 0, by simp_all, by simp_all, .inl (by simp_all)⟩
  · refine ⟨_, _, rfl, by obtain ⟨a, b, _⟩ := hc; omega, .inr ⟨k, rfl, fun j u hj => ?_⟩⟩
    have := h.cells (g := k) rfl j u hj
    have e : ((⟨k, 0, none⟩ : Addr).add j) = ⟨k, j, none⟩ := by
      unfold Addr.add
      split
      · simp_all
      · simp
    rw [e] at this
    exact this
section
variable {base g gm : Nat} {v : Value} {S : ByteArray} {m : ByteArray → Option Int} {w : World}
theorem allS (H : Wr base w g gm v (bytesOf S) m) : Calls Try.prog 18 #[ptr g] w fun e w' => e = .returned (.string S) ∧ w' = w := by
  have := allc H
  rwa [Pu.nums_bytesOf] at this
end
theorem same_below {P : Program} {f : FuncId} {args : Array Value} {w : World} {v : Value} (h : Calls P f args w fun e w' => e = .returned v ∧ w' = w) : Calls P f args w fun e w' => e = .returned v ∧ Below w.heap.size w w' :=
  h.mono (fun e w' k => ⟨k.1, by rw [k.2]; exact Below.refl _ _⟩)
set_option maxHeartbeats 8000000 in
set_option maxRecDepth 100000 in
theorem walk (A : Option Addr) (c : Nat) (ns : List ByteArray) (f : ByteArray) (w : World) (hC : Kd.C Kd.string w A ns.length ns) (hl : ns.length ≤ c) (hf : f.size ≤ 140737488351232) : Calls Try.prog 4 #[.slice A ns.length c, .string f] w fun e w' => e = .returned (.bool true) ∧ Below w.heap.size w w' := by
  go_enter Try.func4, Try.ntmps4
  go_wp2_with fail
  refine (awakec w).mono ?_
  rintro e w1 ⟨rfl, B1⟩
  have s1 := B1.size
  by_cases h5 : 500 < f.size
  · have q : decide ((500 : Int) < (f.size : Int)) = true := by simp; omega
    go_wp2_with fail
    go_ret
    exact ⟨rfl, B1⟩
  have q : decide ((500 : Int) < (f.size : Int)) = false := by simp; omega
  go_wp2_with fail
  refine (newc w1).mono ?_
  rintro e w2 ⟨g, gm, rfl, B2, H2⟩
  go_wp2_with fail
  refine (rawOk H2 f hf (by simp; omega)).mono ?_
  rintro e w3 ⟨rfl, v3, H3, B3, -⟩
  rw [List.nil_append] at H3
  replace B3 := B2.trans B3
  clear H2 B2
  go_wp2_with fail
  go_loopg [6, 7, 8] 13 (fun k v6 v7 v8 wr => ∃ (i : Nat) (ks : List ByteArray) (pl : List Nat) (S : ByteArray) (m : ByteArray → Option Int) (vw : Value), v8 = .int .i64 i ∧ i + k = 13 ∧ i ≤ 12 ∧ Wr w1.heap.size wr g gm vw (bytesOf S) m ∧ wr.ownsRow w1.heap.size 3 1 v6 pl.length (pcells pl) ∧ wr.ownsRow w1.heap.size 9 1 v7 ks.length (strs ks) ∧ Below w1.heap.size w1 wr ∧ S.size ≤ 500 + 255 * i ∧ ks.length ≤ i ∧ Back S m pl ks)
  case atStart => exact ⟨0, [], [], f, fun _ => none, v3, rfl, rfl, by omega, H3, own_nil _ _ _ _, own_nil _ _ _ _, B3, by omega, by simp, ⟨rfl, fun r t h => (by cases h), fun j h => absurd h (by simp), fun j h => absurd h (by simp)⟩⟩
  case round =>
    obtain ⟨i, ks, pl, S, m, vw, rfl, hk1, hk2, HW, has, hks, BB, hS, hkl, hB⟩ := hrel
    have HB := Lib.hid hB
    have hal := Lib.hid hB.len
    clear hB
    have sB := BB.size
    by_cases hin : i < ns.length ∧ i < 12
    · obtain ⟨hi, h14⟩ := hin
      have q0 : decide ((i : Int) < (ns.length : Int)) = true := by simp; omega
      have q1 : decide ((i : Int) < 12) = true := by simp; omega
      obtain ⟨ad, eA, hc0⟩ := Kd.at_string hC (i : Int) (by omega) (by omega)
      subst eA
      replace hc0 : w.cell? (ad.add i) = some (.string (rdOf ByteArray.empty ns (i : Int))) := hc0
      generalize rdOf ByteArray.empty ns (i : Int) = s at hc0
      have hc1 := bcell (B1.trans (BB.mono s1)) hc0
      go_wp2_with fail
      refine (rmay s _).mono ?_
      rintro e w4 ⟨rfl, B4⟩
      have HW4 := HW.below B4
      have ha4 := Sl.own_below has B4
      have hk4 := Sl.own_below hks B4
      have BB4 := BB.trans (B4.mono sB)
      clear B4 HW has hks BB hc1 sB
      have s4 := BB4.size
      have hc4 := bcell (B1.trans (BB4.mono s1)) hc0
      cases hn : nameB s with
      | false =>
        go_wp2_with fail
        go_roundg (gk - 1)
        case measure => omega
        case rel => exact ⟨i + 1, ks, pl, S, m, vw, rfl, by omega, by omega, HW4, ha4, hk4, BB4, by omega, by omega, HB.out⟩
      | true =>
        have h255 := (places_pos hn).1
        have hS16 : S.size + s.size < 16384 := by omega
        have ho := (put_known HB.out.known hn hS16).1
        go_wp2_with fail
        refine (allS HW4).mono ?_
        rintro e w5 ⟨rfl, rfl⟩
        go_wp2_with (at_builtin; refine app_one w1.heap.size rfl _ _ 36 3 (.int .i64 0) 8 rfl Try.underlying36 info_int rfl ha4 (.int .i64 (S.size : Int)) rfl rfl rfl s4 ?hn ?hl ?_)
        case hn => have := hal.out; omega
        case hl => have := hal.out; omega
        intro v6 w6 ha6 hg6
        have HW6 := (HW4.alloc _).beside (ha4.alloc _) (by decide) (by decide) hg6
        have hk6 := Go.Proofs.YtepglkgpgoifkaaW.PrintWords.own_other (hk4.alloc _) hg6 (Go.Proofs.YtepglkgpgoifkaaW.PrintWords.own_type_ne hk4 ha4 (by decide))
        have BB6 := (BB4.alloc s4 _).grown hg6 (by simp; omega) (Sl.own_base ha4)
        have hc6 := bcell (B1.trans (BB6.mono s1)) hc0
        clear HW4 ha4 hk4 BB4 hc4 hg6 s4
        have s6 := BB6.size
        go_wp2_with (at_builtin; refine app_one w1.heap.size rfl _ _ 22 9 (.string ⟨#[]⟩) 16 rfl Try.underlying22 info_string rfl hk6 (.string s) rfl rfl rfl s6 ?hn ?hl ?_)
        case hn => omega
        case hl => omega
        intro v7 w7 hk7 hg7
        have HW7 := (HW6.alloc _).beside (hk6.alloc _) (by decide) (by decide) hg7
        have ha7 := Go.Proofs.YtepglkgpgoifkaaW.PrintWords.own_other (ha6.alloc _) hg7 (Go.Proofs.YtepglkgpgoifkaaW.PrintWords.own_type_ne ha6 hk6 (by decide))
        have BB7 := (BB6.alloc s6 _).grown hg7 (by simp; omega) (Sl.own_base hk6)
        have hc7 := bcell (B1.trans (BB7.mono s1)) hc0
        clear HW6 ha6 hk6 BB6 hc6 hg7 s6
        have s7 := BB7.size
        go_wp2_with fail
        refine (nameYes HW7 s hn).mono ?_
        rintro e w8 h
        rw [bytesOf_length, if_neg (by omega)] at h
        obtain ⟨rfl, v8, HW8, B8, K8⟩ := h
        have ha8 := own_kp HW7 ha7 (by decide) (by decide) K8
        have hk8 := own_kp HW7 hk7 (by decide) (by decide) K8
        have BB8 := BB7.trans B8
        have hc8 := bcell (B1.trans (BB8.mono s1)) hc0
        clear HW7 ha7 hk7 BB7 B8 K8 hc7 s7
        rw [← Pu.bytesOf_append] at HW8
        have s8 := BB8.size
        have hB2 := HB.out.next hn hS16
        generalize hS2 : S ++ outN m s = S2 at *
        have hz2 : S2.size = S.size + (outN m s).size := by rw [← hS2, ByteArray.size_append]
        have HB2 := Lib.hid hB2
        clear hB2 HB
        obtain ⟨-, As, cs, rfl, hcs, hcell⟩ := row_at ha8
        obtain ⟨ka, rfl, hcj⟩ : ∃ k, As = some ⟨k, 0, none⟩ ∧ w8.cell? ⟨k, pl.length, none⟩ = some (.int .i64 (S.size : Int)) := by
          rcases hcell with h | ⟨k, e, h⟩
          · omega
          · exact ⟨k, e, h _ _ (by rw [List.getElem?_append_right (by simp [pcells])]; simp [pcells])⟩
        have hr1 := cell_regrown hcj
        have hr2 := cell_regrown hc8
        have call0 : ∀ d os, Calls Try.prog 18 #[ptr g] (grow (redrawn w8 d) os) fun e w' => e = .returned (.string S2) ∧ w' = grow (redrawn w8 d) os := by
          intro d os
          exact allS (HW8.below (below_regrown w8 d os))
        have qg : decide ((s.size : Int) < wrap64 ((S2.size : Int) - (S.size : Int))) = false := by rw [w64 (by omega) (by omega)]; simp; omega
        have ea : pl.length ≤ 12 := by have := hal.out; omega
        have qa : decide ((pl.length : Int) < (pl.length : Int) + 1) = true := by simp; omega
        have HZ2 := Lib.hid hz2
        clear hz2
        go_upto_region 16 with (fail)
        refine wp_region_quiet_below (by kernel_rfl) (by kernel_rfl) ?_
        repeat (go_big_quiet_step (first | with_reducible exact Calls.regrown_of (same_below (numc _ _)) | exact Calls.regrown_of (same_below (call0 _ _))))
        refine wpQuiet_nil ?_
        intro _ hw'
        obtain ⟨⟨dq, osq⟩, hw''⟩ := hw'
        subst hw''
        go_wp2
        go_roundg (gk - 1)
        case measure => omega
        case rel =>
          have Bg := below_regrown w8 dq osq
          exact ⟨i + 1, ks ++ [s], pl ++ [S.size], S2, _, v8, rfl, by omega, by omega, HW8.below Bg, by have := Sl.own_below ha8 Bg; simpa [pcells] using this, by have := Sl.own_below hk8 Bg; simpa [strs] using this, BB8.trans (Bg.mono s8), by have := HZ2.out; omega, by simp; omega, HB2.out⟩
    · have hex : (¬ i < ns.length ∧ decide ((i : Int) < (ns.length : Int)) = false) ∨ (i < ns.length ∧ ¬ i < 12 ∧ decide ((i : Int) < (ns.length : Int)) = true ∧ decide ((i : Int) < 12) = false) := by
        by_cases h : i < ns.length
        · exact .inr ⟨h, by omega, by simp; omega, by simp; omega⟩
        · exact .inl ⟨h, by simp; omega⟩
      have hpn : pl.length ≤ 12 := by have := hal.out; omega
      have hSm : S.size ≤ 1000000 := by omega
      clear hin
      rcases hex with ⟨hx0, q0⟩ | ⟨hx0, hx1, q0, q1⟩
      all_goals
        go_wp2_with fail
        refine (allS HW).mono ?_
        rintro e w5 ⟨rfl, rfl⟩
        go_wp2_with (at_builtin; refine app_one w1.heap.size rfl _ _ 36 3 (.int .i64 0) 8 rfl Try.underlying36 info_int rfl has (.int .i64 (S.size : Int)) rfl rfl rfl sB ?hn ?hl ?_)
        case hn => omega
        case hl => omega
        intro v6 w6 ha6 hg6
        have hk6 := Go.Proofs.YtepglkgpgoifkaaW.PrintWords.own_other (hks.alloc _) hg6 (Go.Proofs.YtepglkgpgoifkaaW.PrintWords.own_type_ne hks has (by decide))
        have BB6 := (BB.alloc sB _).grown hg6 (by simp; omega) (Sl.own_base has)
        clear HW has hks BB hg6 sB
        have s6 := BB6.size
        obtain ⟨-, As, cs, rfl, hcs, hcell⟩ := row_at ha6
        obtain ⟨ka, rfl, hca⟩ : ∃ k, As = some ⟨k, 0, none⟩ ∧ ∀ j, j < pl.length + 1 → w6.cell? ⟨k, j, none⟩ = some (.int .i64 (((pl ++ [S.size]).getD j 0 : Nat) : Int)) := by
          rcases hcell with h | ⟨k, e, h⟩
          · omega
          · exact ⟨k, e, fun j hj => h _ _ (by
              rw [show pcells pl ++ [Value.int .i64 (S.size : Int)] = pcells (pl ++ [S.size]) by simp [pcells], pcells, List.getElem?_map, List.getElem?_eq_getElem (by simp; omega), List.getD_eq_getElem?_getD, List.getElem?_eq_getElem (by simp; omega)]
              rfl)⟩
        obtain ⟨-, Ak, ck, rfl, hck, hcellk⟩ := strs_at hk6
        clear hcell
        go_wp2_with fail
        go_loopg [11] (ks.length + 1) (fun k v11 wq => ∃ (j : Nat), v11 = .int .i64 j ∧ j + k = ks.length + 1 ∧ j ≤ ks.length ∧ Below w6.heap.size w6 wq)
        case atStart => exact ⟨0, rfl, by omega, by omega, Below.refl _ _⟩
        case round =>
          obtain ⟨j, rfl, hj1, hj2, Bq⟩ := hrel
          by_cases hj : j < ks.length
          · have q2 : decide ((j : Int) < (ks.length : Int)) = true := by simp; omega
            have hjp : j < pl.length := by have := hal.out; omega
            obtain ⟨kk, eq, hcj⟩ : ∃ k, Ak = some ⟨k, 0, none⟩ ∧ ∀ j, j < ks.length → w6.cell? ⟨k, j, none⟩ = some (.string (ks.getD j ⟨#[]⟩)) := by
              rcases hcellk with h | h
              · omega
              · exact h
            subst eq
            have hL := HB.out.lies j hj
            have hz := HB.out.sz j hj
            rw [← getD_left pl [S.size] j 0 hjp] at hL
            have d1 := bcell Bq (hca j (by omega))
            have d2 := hca (j + 1) (by omega)
            have d3 := hcj j hj
            generalize (pl ++ [S.size]).getD j 0 = p0 at *
            generalize (pl ++ [S.size]).getD (j + 1) 0 = p1 at *
            generalize ks.getD j ⟨#[]⟩ = x at *
            obtain ⟨kr, hkr⟩ := Go.Proofs.YtepglkgpgoifkaaW.PrintWords.Ev.rounds (hL.name hSm hz)
            have pa : decide ((j : Int) < (pl.length : Int) + 1) = true := by simp; omega
            have pb : decide ((j : Int) + 1 < (pl.length : Int) + 1) = true := by simp; omega
            go_wp2_with fail
            refine (PCl.comp_Name.calls kr S (p0 : Int) x (p1 : Int) 0 _ hkr).mono ?_
            rintro e w7 ⟨rfl, B7⟩
            have B7' := Bq.trans (B7.mono Bq.size)
            have d2' := bcell B7' d2
            have d3' := bcell B7' d3
            go_wp2_with (first | (go_at_call 14; refine (numc _ _).mono ?_; rintro e w' ⟨rfl, rfl⟩))
            go_roundg (ks.length - j)
            case measure => omega
            case rel => exact ⟨j + 1, rfl, by omega, by omega, B7'⟩
          · have q2 : decide ((j : Int) < (ks.length : Int)) = false := by simp; omega
            go_wp2_with fail
            go_ret
            exact ⟨rfl, B1.trans ((BB6.mono s1).trans (Bq.mono (Nat.le_trans s1 s6)))⟩
end Go.Proofs.Ytepglkgpgoifkaa.CompBack
