/- The writer's Name: which bytes it puts behind, which rests of the name it keeps, for every name. -/
import Derived.Test.YtepglkgpgoifkaaWriter
import Derived.BigQuiet
import Derived.Deep.CutBlock
namespace Go.Proofs.Ytepglkgpgoifkaa.Wr
open Go.RowKit Go.PlainAid Go.Maps Go.Proofs.Ytepglkgpgoifkaa.Base Go.Proofs.Ytepglkgpgoifkaa.Oct Go.Proofs.Ytepglkgpgoifkaa.Nm Go.Proofs.YtepglkgpgoifkaaW.PrintWords
set_option linter.unusedVariables false

theorem placesc (s : ByteArray) (w : World) : Calls Try.prog 30 #[.string s] w (PlacesPost s w) :=
  if h : 255 < s.size then placesLong s w h else placesShort s w (by omega)
section
variable {base g gm : Nat} {v : Value} {xs : List Int} {m : ByteArray → Option Int} {w w' : World}
theorem Wr.below (H : Wr base w g gm v xs m) (hb : Below w.heap.size w w') : Wr base w' g gm v xs m := by
  obtain ⟨n, D, hn, hm, ht⟩ := H.map
  exact ⟨H.gb, H.mb, blk_below H.blk hb, pw_own_below H.own hb, ⟨n, D, hn, hm.kept (row := none) ⟨hb.os, hb.tape, hb.output, hb.size, fun k hk _ => hb.block k hk⟩ (by simp), ht⟩, H.len⟩
theorem Kp.below (hb : Below w.heap.size w w') : Kp w w' g gm := ⟨hb.size, fun k hk _ _ _ => hb.block k hk⟩
theorem nameNo (H : Wr base w g gm v xs m) (s : ByteArray) (hs : nameB s = false) :
    Calls Try.prog 16 #[ptr g, .string s] w fun e w' => e = .returned (.int .i64 500) ∧ Wr base w' g gm v xs m ∧ Below base w w' ∧ Kp w w' g gm := by
  go_enter Try.func16, Try.ntmps16
  go_wp2_with fail
  refine (placesc s _).mono ?_
  rintro e w1 ⟨v1, rfl, hb1, ho1⟩
  rw [hs]
  go_wp2
  go_ret
  exact ⟨rfl, H.below hb1, hb1.mono H.base_le, Kp.below hb1⟩
end
theorem places_pos {s : ByteArray} (h : nameB s = true) : s.size ≤ 255 ∧ 0 < (places s).length := by
  unfold nameB at h
  simp at h
  refine ⟨h.1, ?_⟩
  have h2 := h.2
  unfold places
  rw [nameAt] at h2
  rw [placesAt]
  by_cases h0 : 0 < s.size
  · simp [h0]
  · simp [h0] at h2
/-- The first rest of the name that the writer knows: which of the places, the place, where it lies. -/
def findP (m : ByteArray → Option Int) (s : ByteArray) : List Nat → Nat → Option (Nat × Nat × Int)
  | [], _ => none
  | p :: ps, i => match m (s.extract p s.size) with
    | some t => some (i, p, t)
    | none => findP m s ps (i + 1)
/-- The places of a name's labels. -/
def heads (s : ByteArray) : List Nat := (places s).dropLast
/-- What is put behind. -/
def outN (m : ByteArray → Option Int) (s : ByteArray) : ByteArray :=
  match findP m s (heads s) 0 with
  | some (i, p, t) => s.extract 0 p ++ p16 (Go.bits .or .i64 49152 t)
  | none => s
/-- So many labels are written out. -/
def wroteN (m : ByteArray → Option Int) (s : ByteArray) : Nat :=
  match findP m s (heads s) 0 with
  | some (i, p, t) => i
  | none => (heads s).length
section
variable {base g gm : Nat} {v : Value} {xs : List Int} {m : ByteArray → Option Int} {w w' : World}
theorem placesAt_len (s : ByteArray) : ∀ n i, s.size - i ≤ n → (placesAt s i).length ≤ s.size - i := by
  intro n
  induction n with
  | zero => intro i h; rw [placesAt, if_neg (by omega)]; simp
  | succ n ih =>
    intro i h
    rw [placesAt]
    by_cases hi : i < s.size
    · rw [if_pos hi]
      by_cases h0 : PlainAid.bt s i = 0
      · rw [if_pos h0]; simp; omega
      · rw [if_neg h0]
        by_cases h1 : 63 < PlainAid.bt s i
        · rw [if_pos h1]; simp; omega
        · rw [if_neg h1]
          have := ih (i + 1 + (PlainAid.bt s i).toNat) (by omega)
          simp; omega
    · rw [if_neg hi]; simp
theorem placesAt_mem (s : ByteArray) : ∀ n i, s.size - i ≤ n → ∀ p ∈ placesAt s i, p < s.size := by
  intro n
  induction n with
  | zero => intro i h p hp; rw [placesAt, if_neg (by omega)] at hp; cases hp
  | succ n ih =>
    intro i h p hp
    rw [placesAt] at hp
    by_cases hi : i < s.size
    · rw [if_pos hi] at hp
      rcases List.mem_cons.1 hp with rfl | hp
      · exact hi
      · by_cases h0 : PlainAid.bt s i = 0
        · rw [if_pos h0] at hp; cases hp
        · rw [if_neg h0] at hp
          by_cases h1 : 63 < PlainAid.bt s i
          · rw [if_pos h1] at hp; cases hp
          · rw [if_neg h1] at hp
            exact ih (i + 1 + (PlainAid.bt s i).toNat) (by omega) p hp
    · rw [if_neg hi] at hp; cases hp
theorem places_get (s : ByteArray) (k : Nat) (h : k < (places s).length) : (places s).getD k 0 < s.size := by
  rw [List.getD_eq_getElem?_getD, List.getElem?_eq_getElem h]
  exact placesAt_mem s _ 0 (Nat.le_refl _) _ (List.getElem_mem h)
/-- What is kept of so many labels' rests. -/
def putK (m : ByteArray → Option Int) (s : ByteArray) (at0 : Nat) (ps : List Nat) : ByteArray → Option Int :=
  ps.foldl (fun m p => fun x => if x = s.extract p s.size then some ((at0 : Int) + p) else m x) m
def putN (m : ByteArray → Option Int) (s : ByteArray) (at0 : Nat) : ByteArray → Option Int := putK m s at0 ((heads s).take (wroteN m s))
theorem heads_length {s : ByteArray} {K : Nat} (h : (places s).length = K + 1) : (heads s).length = K := by
  unfold heads
  rw [List.length_dropLast, h]; rfl
theorem drop_last {l : List Nat} {i : Nat} (h : i + 1 < l.length) : l.dropLast.drop i = l.getD i 0 :: l.dropLast.drop (i + 1) := by
  have hl : i < l.dropLast.length := by rw [List.length_dropLast]; omega
  rw [List.drop_eq_getElem_cons hl, List.getElem_dropLast, List.getD_eq_getElem?_getD, List.getElem?_eq_getElem (show i < l.length by omega)]
  rfl
theorem heads_get {s : ByteArray} {i : Nat} (h : i + 1 < (places s).length) : (heads s).drop i = (places s).getD i 0 :: (heads s).drop (i + 1) := drop_last h
theorem take_get {s : ByteArray} {i : Nat} (h : i + 1 < (places s).length) : (heads s).take (i + 1) = (heads s).take i ++ [(places s).getD i 0] := by
  have hl : i < (heads s).length := by unfold heads; rw [List.length_dropLast]; omega
  have e : (heads s)[i] = (places s).getD i 0 := by
    have := heads_get h
    rw [List.drop_eq_getElem_cons hl] at this
    exact (List.cons.inj this).1
  rw [← e, List.take_succ_eq_append_getElem hl]
theorem find_le (m : ByteArray → Option Int) (s : ByteArray) : ∀ (ps : List Nat) (i j p : Nat) (t : Int), findP m s ps i = some (j, p, t) → j ≤ i + ps.length ∧ p ∈ ps := by
  intro ps
  induction ps with
  | nil => intro i j p t h; cases h
  | cons a ps ih =>
    intro i j p t h
    rw [findP] at h
    cases hm : m (s.extract a s.size) with
    | none =>
      rw [hm] at h
      have := ih (i + 1) j p t h
      exact ⟨by simp; omega, List.mem_cons_of_mem _ this.2⟩
    | some u =>
      rw [hm] at h
      injection h with h
      injection h with h1 h
      injection h with h2 h3
      subst h1; subst h2
      exact ⟨by simp, by simp⟩
theorem wroteN_le (m : ByteArray → Option Int) (s : ByteArray) {K : Nat} (hK : (places s).length = K + 1) : wroteN m s ≤ K := by
  have hl := heads_length hK
  unfold wroteN
  cases h : findP m s (heads s) 0 with
  | none => simp; omega
  | some r => obtain ⟨j, p, t⟩ := r; have := (find_le m s _ _ _ _ _ h).1; simp; omega
theorem out_pos (m : ByteArray → Option Int) (s : ByteArray) (h : nameB s = true) : 1 ≤ (outN m s).size := by
  have := places_pos h
  have := placesAt_len s s.size 0 (by omega)
  unfold places at *
  unfold outN
  cases h : findP m s (heads s) 0 with
  | none => simp; omega
  | some r => obtain ⟨j, p, t⟩ := r; simp [p16_size]; try omega
theorem look {n : Nat} {D : DataW Unit} {x : ByteArray} (hm : w.ownsMap Try.prog 9 (plainElem Try.prog 3) gm n D) (ht : Tells D m) (hkey : keyOf Try.prog 9 (.string x) = some (lit x)) :
    ∃ c : Int, (Instr.lookup 67 (.map (some gm)) (.string x) true).run Try.prog w = .ok (.tuple #[.int .i64 c, .bool (m x).isSome]) w ∧ c = (m x).getD 0 ∧ True := by
  obtain ⟨v, ps, h1, h2⟩ := hm.look_ok keyed Try.underlying67 (zero_int w) (zd := .lit (.int .i64 0)) (zp := []) (plainElem_int Try.underlying3 (by decide)) hkey
  obtain ⟨c, rfl, hc, hw⟩ := plainElem_int_inv Try.underlying3 h2
  have e := congrArg Prod.fst hc
  simp only [ht.at_] at e
  exact ⟨c, by rw [h1, ht.has], (Lit.int.inj (DataW.lit.inj e)).2.symm, trivial⟩
set_option maxHeartbeats 4000000 in
set_option maxRecDepth 100000 in
theorem nameYes (H : Wr base w g gm v xs m) (s : ByteArray) (hs : nameB s = true) :
    Calls Try.prog 16 #[ptr g, .string s] w fun e w' =>
      if 4096 < xs.length + (outN m s).size then e = .returned (.int .i64 501) ∧ Wr base w' g gm v xs m ∧ Below base w w' ∧ Kp w w' g gm
      else e = .returned (.int .i64 0) ∧ ∃ v', Wr base w' g gm v' (xs ++ bytesOf (outN m s)) (putN m s xs.length) ∧ Below base w w' ∧ Kp w w' g gm := by
  obtain ⟨h255, hpos⟩ := places_pos hs
  have hlen : (places s).length ≤ s.size := by have := placesAt_len s s.size 0 (by omega); simpa [places] using this
  obtain ⟨K, hK⟩ : ∃ K, (places s).length = K + 1 := ⟨(places s).length - 1, by omega⟩
  have hK1 : K ≤ 254 := by omega
  go_enter Try.func16, Try.ntmps16
  go_wp2_with fail
  refine (placesc s _).mono ?_
  rintro e w1 ⟨v1, rfl, hb1, ho1⟩
  replace ho1 := ho1 hs
  rw [hs]
  have H1 := H.below hb1
  have hgw : g ≠ w.heap.size := Nat.ne_of_lt (blk_lt H.blk)
  rw [hK] at ho1
  obtain ⟨gp, cap, hgp, hcl, hcap, rfl, hc⟩ : ∃ gp cap, w.heap.size ≤ gp ∧ K + 1 ≤ cap ∧ cap ≤ maxLen ∧ v1 = .slice (some ⟨gp, 0, none⟩) (K + 1) cap ∧ ∀ k, k < K + 1 → w1.cell? ⟨gp, k, none⟩ = some (.int .i64 ((places s).getD k 0 : Nat)) := by
    rcases ho1.2 with ⟨_, h0⟩ | ⟨gp, cap, cur, rfl, hgp, hblk, hcl, hcap, hcz, hct⟩
    · omega
    · refine ⟨gp, cap, hgp, hcl, hcap, rfl, fun k hk => ?_⟩
      rw [blk_cell hblk k]
      have e : (cur.toList.take ((K + 1) * 1))[k]? = (pcells (places s))[k]? := by rw [hct]
      rw [List.getElem?_take_of_lt (by omega), Array.getElem?_toList] at e
      rw [e, pcells, List.getElem?_map, List.getElem?_eq_getElem (show k < (places s).length by omega), List.getD_eq_getElem?_getD, List.getElem?_eq_getElem (show k < (places s).length by omega)]
      rfl
  have z1 : (K : Int) ≤ (cap : Int) := by omega
  go_upto_block 0 with (fail)
  go_cut [7, 8] (fun v7 v8 wc => v7 = .string (outN m s) ∧ v8 = .int .i64 (wroteN m s : Nat) ∧ Below w1.heap.size w1 wc)
  case first =>
    go_wp2
    go_loopg [7, 8, 9, 10, 11, 12, 35] (K + 1) (fun k v7 v8 v9 v10 v11 v12 v35 wr => ∃ i : Nat, v7 = .string s ∧ v8 = .int .i64 (K : Nat) ∧ v35 = .int .i64 i ∧ i + k = K + 1 ∧ i ≤ K ∧ findP m s (heads s) 0 = findP m s ((heads s).drop i) i ∧ Below w1.heap.size w1 wr)
    case atStart => exact ⟨0, rfl, rfl, rfl, by omega, by omega, by simp, Below.refl _ _⟩
    case round =>
      obtain ⟨i, rfl, rfl, rfl, hk1, hk2, hf, hb2⟩ := hrel
      have HF := Lib.hid hf
      clear hf
      by_cases hi : i < K
      · have q0 : decide ((i : Int) < (K : Int)) = true := by simp; omega
        have hp := places_get s i (by omega)
        have hci := (Below.cell hb2 (p := ⟨gp, i, none⟩) (World.block_lt_of_cell? w1 _ (hc i (by omega)))).trans (hc i (by omega))
        have hat := heads_get (s := s) (i := i) (by omega)
        generalize hP : (places s).getD i 0 = p at *
        have H2 := H1.below hb2
        obtain ⟨n, D, hn, hm, ht⟩ := H2.map
        have c1 : wr.cell? ⟨g, 1, none⟩ = some (.map (some gm)) := (blk_cell H2.blk 1).trans rfl
        have hkey := key_of (s.extract p s.size) (by rw [ByteArray.size_extract]; omega)
        obtain ⟨c, hrun, hcat, hcw⟩ := look hm.drew ht hkey
        have p1 : (p : Int) ≤ (s.size : Int) := by omega
        go_upto_region 11 with (fail)
        cases hms : m (s.extract p s.size) with
        | none =>
          rw [hms] at hrun
          change (Instr.lookup 67 (.map (some gm)) (.string (s.extract p s.size)) true).run Try.prog wr.drew = .ok (.tuple #[.int .i64 c, .bool false]) wr.drew at hrun
          go_region
          go_wp2
          go_roundg (gk - 1)
          case measure => omega
          case rel => exact ⟨i + 1, rfl, rfl, by first | rfl | (simp; done), by omega, by omega, by rw [HF.out, hat, findP, hms], hb2.drew⟩
        | some t =>
          rw [hms] at hrun hcat
          obtain rfl : c = t := hcat
          change (Instr.lookup 67 (.map (some gm)) (.string (s.extract p s.size)) true).run Try.prog wr.drew = .ok (.tuple #[.int .i64 c, .bool true]) wr.drew at hrun
          go_region
          have z2 := p16_size (Go.bits .or .i64 49152 c)
          have z3 : (s.extract 0 p).size = p := by rw [ByteArray.size_extract]; omega
          have hcs : ¬ 9223372036854775807 < (s.extract 0 p).size + (p16 (Go.bits .or .i64 49152 c)).size := by omega
          go_upto_region 13 with (fail)
          refine wp_region_quiet_below (by kernel_rfl) (by kernel_rfl) ?_
          repeat (go_big_quiet_step (exact Calls.regrown_of (put16 _ _)))
          refine wpQuiet_nil ?_
          intro _ hw'
          obtain ⟨⟨dq, osq⟩, hw''⟩ := hw'
          subst hw''
          have hb3 := below_regrown wr.drew dq osq
          generalize Go.Sort.grow (redrawn wr.drew dq) osq = w2 at hb3 ⊢
          have e : findP m s (heads s) 0 = some (i, p, c) := by rw [HF.out, hat, findP, hms]
          go_wp2
          go_meet
          case rel => exact ⟨by rw [outN, e], by rw [wroteN, e], hb2.drew.trans (hb3.mono hb2.size)⟩
      · have q0 : decide ((i : Int) < (K : Int)) = false := by simp; omega
        go_wp2
        go_meet
        case rel =>
          have e : findP m s (heads s) 0 = none := by
            rw [HF.out, List.drop_eq_nil_of_le (by rw [heads_length hK]; omega)]; rfl
          exact ⟨by rw [outN, e], by rw [wroteN, e, heads_length hK], hb2⟩
  case rest =>
  obtain ⟨rfl, rfl, hb2⟩ := hcut
  have H2 := H1.below hb2
  have c0 : wc.cell? ⟨g, 0, none⟩ = some v := (blk_cell H2.blk 0).trans rfl
  have hx := H2.len
  obtain ⟨A, cA, rfl⟩ := own_slice H2.own
  by_cases hfit : 4096 < xs.length + (outN m s).size
  · have q : decide (4096 - (xs.length : Int) < ((outN m s).size : Int)) = true := by simp; omega
    have HFIT := Lib.hid hfit
    clear hfit
    go_wp2
    go_ret
    try rw [if_pos HFIT.out]
    exact ⟨rfl, H2, (hb1.mono H.base_le).trans (hb2.mono H1.base_le), (Kp.below hb1).trans (Kp.below hb2)⟩
  · have q : decide (4096 - (xs.length : Int) < ((outN m s).size : Int)) = false := by simp; omega
    have HFIT := Lib.hid hfit
    clear hfit
    have hnw := wroteN_le m s hK
    have z5 : ((wroteN m s : Nat) : Int) ≤ (cap : Int) := by omega
    have hob := out_pos m s hs
    generalize hW : wroteN m s = nw at *
    have hgm := H.ne
    obtain ⟨n, D, hn, hm, ht⟩ := H2.map
    have hgmw : gm < w.heap.size := by obtain ⟨n, D, _, h, _⟩ := H.map; exact h.lt
    go_wp2
    go_loopg [14, 15, 74] (nw + 1) (fun k v14 v15 v74 wr => ∃ (i : Nat) (D' : DataW Unit), v74 = .int .i64 i ∧ i + k = nw + 1 ∧ i ≤ nw ∧ wr.ownsMap Try.prog 9 (plainElem Try.prog 3) gm (n + i) D' ∧ Tells D' (putK m s xs.length ((heads s).take i)) ∧ wc.grownBy wr (some gm))
    case atStart => exact ⟨0, D, rfl, by omega, by omega, hm, by simpa [putK] using ht, World.grownBy.refl _ _⟩
    case round =>
      obtain ⟨i, D', rfl, hk1, hk2, hm2, ht2, hg2⟩ := hrel
      have b2 := blk_grown H2.blk hg2 (by simpa using hgm.symm)
      have c0w : wr.cell? ⟨g, 0, none⟩ = some (.slice A xs.length cA) := (blk_cell b2 0).trans rfl
      have HT := Lib.hid ht2
      clear ht2
      by_cases hi : i < nw
      · have q0 : decide ((i : Int) < (nw : Int)) = true := by simp; omega
        have hp := places_get s i (by omega)
        have hci := hg2.cell ((Below.cell hb2 (p := ⟨gp, i, none⟩) (World.block_lt_of_cell? w1 _ (hc i (by omega)))).trans (hc i (by omega))) (by show some gp ≠ some gm; intro e; injection e with e; omega)
        have hat := take_get (s := s) (i := i) (by omega)
        generalize hP : (places s).getD i 0 = p at *
        have c1 : wr.cell? ⟨g, 1, none⟩ = some (.map (some gm)) := (blk_cell b2 1).trans rfl
        have hkey := key_of (s.extract p s.size) (by rw [ByteArray.size_extract]; omega)
        obtain ⟨w5, hrun, hm5, htu⟩ := hm2.drew.store keyed Try.underlying67 (by simp only [maxLen]; omega) hkey (plainElem_int Try.underlying3 (WalkArith.wf_i64 (n := (xs.length : Int) + (p : Int)) ⟨by omega, by omega⟩))
        have p1 : (p : Int) ≤ (s.size : Int) := by omega
        have q3 : decide ((xs.length : Int) + (p : Int) ≤ 16383) = true := by simp; omega
        go_upto_region 22 with (fail)
        go_region
        go_wp2
        go_roundg (gk - 1)
        case measure => omega
        case rel => exact ⟨i + 1, _, by first | rfl | (simp; done), by omega, by omega, hm5, by rw [hat, putK, List.foldl_append]; exact HT.out.put _ _, hg2.trans (by have := htu.grown; exact ⟨this.os, this.tape, this.output, this.size, this.block⟩)⟩
      · have q0 : decide ((i : Int) < (nw : Int)) = false := by simp; omega
        have ho := own_other H2.own hg2 (.inr (Ne.symm H2.row_m))
        have hbr := Nat.le_trans H2.base_le hg2.size
        have hrg := H2.row_g
        have f0 := blk_frozen b2 0
        obtain rfl : i = nw := by omega
        go_wp2_with (at_builtin; refine app_str base rfl (.tmp 100) (.tmp 101) 42 9 5 rfl Try.underlying42 Try.underlying9 info_byte _ xs (outN m s) rfl rfl ho hbr (by have := HFIT.out; omega) ?_; intro v1 w6 ho1 hg1; have c6 := hg1.cell c0w hrg; have f6 : w6.frozen? ⟨g, 0, none⟩ = false := (World.frozen?_of_block (hg1.block g (blk_lt b2) hrg)).trans f0; rw [List.length_append] at ho1; obtain ⟨A1, cc1, rfl⟩ := own_slice ho1)
        go_ret
        try rw [if_neg HFIT.out]
        have R := H2.stored2 hg2 hm2 HT.out hg1 (by rw [List.length_append]; exact ho1) (by simp [bytesOf_length]; have := HFIT.out; omega) (by simp [bytesOf_length]; omega)
        have e : putN m s xs.length = putK m s xs.length ((heads s).take i) := by rw [putN, hW]
        exact ⟨rfl, ⟨_, by rw [e]; exact R.1⟩, ((hb1.mono H.base_le).trans (hb2.mono H1.base_le)).trans R.2.1, ((Kp.below hb1).trans (Kp.below hb2)).trans R.2.2⟩
end
end Go.Proofs.Ytepglkgpgoifkaa.Wr
