/- The document's writer: its Name, for every name. -/
import Derived.Test.YtepglkgpgoifkaaRefWriter
import Derived.Test.YtepglkgpgoifkaaName2
import Derived.Deep.CutBlock
namespace Go.Proofs.Ytepglkgpgoifkaa.Wr
open Go.RowKit Go.PlainAid Go.Maps Go.Proofs.Ytepglkgpgoifkaa.Base Go.Proofs.Ytepglkgpgoifkaa.Oct Go.Proofs.Ytepglkgpgoifkaa.Nm
open Go.Proofs.YtepglkgpgoifkaaW.PrintWords (blk_cell blk_put blk_frozen own_setCell own_ne own_nil own_other own_type_ne blk_grown)
set_option linter.unusedVariables false
section
variable {P : Program} {ops : Array Oper} {rest : List Oper} {o : Oper} {a : Act} {Q : Exit → Act → World → Prop}
/-- append(v, ys...), ys a row of one's own, nil let in. -/
theorem app_cells {W : World} (base : Nat) (hgd : o.guard = none) (s x : Operand) (t e : TypeId) (z : Value) (size bytes : Nat)
    (ho : o.op = .call { callee := .builtin .append, args := #[s, x], argTypes := #[t, t] })
    (ht : P.underlying t = some (.slice e)) (hinfo : (P.info? e).map (fun i => (i.zero, i.size, i.bytes)) = some (some z, size, bytes)) (hz : z.cells.size = size) (hs0 : 0 < size) (hb0 : 0 < bytes)
    {v vf : Value} {n m b2 : Nat} {xs ys : List Value} (HO : W.ownsRow base e size v n xs) (HF : W.ownsRow b2 e size vf m ys) (h1 : ∀ u ∈ ys, u.oneCell' = true) (hs : a.eval s = v) (hx : a.eval x = vf)
    (hbase : base ≤ W.heap.size) (hl : (n + m) * bytes ≤ 140737488355328)
    (h : ∀ v1 w1, w1.ownsRow base e size v1 (n + m) (xs ++ ys) → W.grownBy w1 v.ownBlock → wpList P ops Q rest (a.put o.dst v1) w1) :
    wpList P ops Q (o :: rest) a W := by
  obtain ⟨i0, hi, hzz⟩ := Option.map_eq_some_iff.1 hinfo
  simp only [Prod.mk.injEq] at hzz
  obtain ⟨hz0, hz1, hz2⟩ := hzz
  have hlen : n + m ≤ 140737488355328 := Nat.le_trans (Nat.le_mul_of_pos_right _ hb0) hl
  have hm : ys.length = m * size := HF.1
  rcases HF.2 with ⟨rfl, h0⟩ | ⟨gf, cap, cur, rfl, hg, hh, hcc⟩
  · have h0 : m = 0 := by simp_all
    subst h0
    obtain rfl : ys = [] := List.eq_nil_of_length_eq_zero (by simpa using hm)
    have hr : (Builtin.append_ #[t, t] o.type #[v, .slice none 0 0]).run P W = .ok v W := by
      rcases HO.2 with ⟨rfl, hn⟩ | ⟨g, cap, cur, rfl, _, _, hnc, _⟩
      · simp [Builtin.append_, run_underlying ht, sizeOf, typeInfo, hi, Builtin.lenOf, Builtin.firstCells]
      · simp [Builtin.append_, run_underlying ht, sizeOf, typeInfo, hi, Builtin.lenOf, Builtin.firstCells, hnc, storeCells]
    refine wpList_plain hgd fun K hK => ?_
    unfold Oper.wp execOp
    simp only [ho, resolve, invoke, builtin, Sem.run_bind, Sem.run_pure, Result.andThen_ok, List.map_toArray, List.map_cons, List.map_nil, hs, hx, hr]
    exact hK _ _ (h v W (by simpa using HO) (World.grownBy.refl W _))
  · refine wpList_append_own W hgd s x t ho base e i0 z size bytes ht hi hz0 hz1 hz2 hz hs0 v n xs hs HO ⟨gf, 0, none⟩ m cap ys hx hm ?_ h1 (by simp only [maxLen]; omega) hl hbase ?_
    · intro j u hj
      exact HF.cells (g := gf) rfl j u hj
    · intro v1 w1 hown hg _
      exact h v1 w1 hown hg
end
theorem info_mark : (Try.prog.info? 75).map (fun i => (i.zero, i.size, i.bytes)) = some (some (.agg #[.string ⟨#[]⟩, .int .i64 0]), 2, 24) := by kernel_rfl
section
variable {base g : Nat} {v : Value} {w : World} {S : ByteArray} {ms : List (ByteArray × Int)}
theorem rnameNo (R : Rf base w g v S ms) (s : ByteArray) (hs : nameB s = false) :
    Calls Try.prog 17 #[ptr g, .string s] w fun e w' => e = .returned (.int .i64 500) ∧ Rf base w' g v S ms ∧ Below base w w' ∧ Kr w w' g := by
  go_enter Try.func17, Try.ntmps17
  go_wp2_with fail
  refine (rmay s _).mono ?_
  rintro e w1 ⟨rfl, B1⟩
  rw [hs]
  go_wp2
  go_ret
  exact ⟨rfl, R.below B1, B1.mono R.base_le, Kr.below B1⟩
set_option maxHeartbeats 4000000 in
set_option maxRecDepth 100000 in
theorem rname (R : Rf base w g v S ms) (s : ByteArray) (hs : nameB s = true) (hsm : Small (mOf ms)) :
    Calls Try.prog 17 #[ptr g, .string s] w fun e w' =>
      if 4096 < S.size + (outN (mOf ms) s).size then e = .returned (.int .i64 501) ∧ Rf base w' g v S ms ∧ Below base w w' ∧ Kr w w' g
      else e = .returned (.int .i64 0) ∧ ∃ v', Rf base w' g v' (S ++ outN (mOf ms) s) (ms ++ freshN s S.size ((heads s).take (wroteN (mOf ms) s))) ∧ Below base w w' ∧ Kr w w' g := by
  obtain ⟨n1, n2, n3⟩ := name_first hs
  have hx := R.len
  go_enter Try.func17, Try.ntmps17
  go_wp2_with fail
  refine (rmay s _).mono ?_
  rintro e w1 ⟨rfl, B1⟩
  rw [hs]
  have R1 := R.below B1
  go_upto_block 0 with (fail)
  go_cut [5, 6, 7] (fun v5 v6 v7 wc => ∃ (o l : ByteArray), v5 = .string o ∧ v6 = .string l ∧ ((l = root ∧ o ++ root = outN (mOf ms) s) ∨ (l ≠ root ∧ o = outN (mOf ms) s)) ∧ wc.ownsRow w1.heap.size 75 2 v7 (wroteN (mOf ms) s) (mcells (freshN s S.size ((heads s).take (wroteN (mOf ms) s)))) ∧ Below w1.heap.size w1 wc)
  case first =>
    go_wp2
    go_loopg [5, 6, 7] s.size (fun k v5 v6 v7 wr => ∃ p i : Nat, v5 = .string (s.extract 0 p) ∧ v6 = .string (s.extract p s.size) ∧ p + k = s.size ∧ nameAt s p = true ∧ (placesAt s p).dropLast = (heads s).drop i ∧ i ≤ (heads s).length ∧ i ≤ p ∧ findP (mOf ms) s (heads s) 0 = findP (mOf ms) s ((heads s).drop i) i ∧ wr.ownsRow w1.heap.size 75 2 v7 i (mcells (freshN s S.size ((heads s).take i))) ∧ Below w1.heap.size w1 wr)
    case atStart => exact ⟨0, 0, by simp; rfl, by rw [ext0], by omega, n3, by simp [heads, places], by omega, by omega, by simp, Go.Proofs.YtepglkgpgoifkaaW.PrintWords.own_nil _ _ _ _, Below.refl _ _⟩
    case round =>
      obtain ⟨p, i, rfl, rfl, hk, hn, hpl, hi1, hi2, hf, hfr, hb⟩ := hrel
      have HF := Lib.hid hf
      have HPL := Lib.hid hpl
      have HN := Lib.hid hn
      clear hf hpl hn
      have zo : (s.extract 0 p).size = p := by rw [ByteArray.size_extract]; omega
      have zl : (s.extract p s.size).size = s.size - p := by rw [ByteArray.size_extract]; omega
      have hp : p < s.size := by
        by_cases h : p < s.size
        · exact h
        · have := HN.out; rw [nameAt_out (by omega)] at this; cases this
      have hbl : bt (s.extract p s.size) 0 = bt s p := by
        rw [bt_data, bt_data, ext_list, List.getD_eq_getElem?_getD, List.getD_eq_getElem?_getD, List.getElem?_drop, List.getElem?_take_of_lt (by omega), Nat.add_zero]
      by_cases h0 : bt s p = 0
      · have he : p + 1 = s.size := by have := HN.out; rw [nameAt_end hp h0] at this; simpa using this
        have er := ext_root he h0
        rw [er]
        go_wp2
        go_meet
        case rel =>
          have hd : (heads s).drop i = [] := by rw [← HPL.out, placesAt_end hp h0]; rfl
          have hi : i = (heads s).length := by
            have := congrArg List.length hd
            rw [List.length_drop, List.length_nil] at this; omega
          have hnone : findP (mOf ms) s (heads s) 0 = none := by rw [HF.out, hd]; rfl
          have ew : wroteN (mOf ms) s = i := by unfold wroteN; rw [hnone, hi]
          have eo : outN (mOf ms) s = s := by unfold outN; rw [hnone]
          exact ⟨s.extract 0 p, root, rfl, rfl, .inl ⟨rfl, by rw [eo, ← er, ext_join s 0 p s.size (by omega) (by omega), ext0]⟩, by rw [ew]; exact hfr, hb⟩
      · have hne : s.extract p s.size ≠ root := fun e => h0 (by rw [← hbl, e]; exact root_bt)
        have q0 : ((s.extract p s.size).toList == [0]) = false := by
          rw [beq_eq_false_iff_ne]; exact fun e => hne (Pu.toList_inj (e.trans (show [0] = root.toList by decide +kernel)))
        have h63 : bt s p ≤ 63 := by
          by_cases h1 : 63 < bt s p
          · have := HN.out; rw [nameAt_bad hp h1] at this; cases this
          · omega
        obtain ⟨k, hk'⟩ : ∃ k : Nat, bt s p = (k : Int) := ⟨(bt s p).toNat, by have := bt_nonneg s p; omega⟩
        have hn2 := HN.out
        rw [nameAt_next hp h0 h63, hk', Int.toNat_natCast] at hn2
        have hq : p + 1 + k < s.size := by
          by_cases h : p + 1 + k < s.size
          · exact h
          · rw [nameAt_out (by omega)] at hn2; cases hn2
        have hd : (heads s).drop i = p :: (placesAt s (p + 1 + k)).dropLast := by
          rw [← HPL.out, placesAt_next hp h0 h63, hk', Int.toNat_natCast, List.dropLast_cons_of_ne_nil (places_ne _ _ hn2)]
        have hil : i < (heads s).length := by
          have := congrArg List.length hd
          rw [List.length_drop, List.length_cons] at this; omega
        have hd2 : (placesAt s (p + 1 + k)).dropLast = (heads s).drop (i + 1) := by
          rw [List.drop_eq_getElem_cons hil] at hd
          exact (List.cons.inj hd).2.symm
        have htk : (heads s).take (i + 1) = (heads s).take i ++ [p] := by
          rw [List.take_succ_eq_append_getElem hil]
          rw [List.drop_eq_getElem_cons hil] at hd
          rw [(List.cons.inj hd).1]
        have e1 : s.extract 0 p ++ (s.extract p s.size).extract 0 (1 + k) = s.extract 0 (p + 1 + k) := by
          apply ext_of
          rw [app_list, ext_list, ext_list, ext_list, ext_list]
          have := ext_join s 0 p (p + 1 + k) (by omega) (by omega)
          have h2 := congrArg (fun z : ByteArray => z.data.toList) this
          simp only [app_list, ext_list] at h2
          rw [← h2]
          congr 1
          rw [List.drop_zero, List.take_drop, List.take_take, show min (p + (1 + k)) s.size = p + 1 + k by omega]
        have e2 : (s.extract p s.size).extract (1 + k) (s.extract p s.size).size = s.extract (p + 1 + k) s.size := by
          apply ext_of
          rw [zl, ext_list, ext_list, ext_list, List.take_of_length_le (by rw [List.length_drop, List.length_take, len_data]; omega), List.drop_drop, show p + (1 + k) = p + 1 + k by omega]
        have hk63 : k ≤ 63 := by omega
        rw [hk'] at hbl
        have HNE := Lib.hid hne
        have HD := Lib.hid hd
        have HD2 := Lib.hid hd2
        have HTK := Lib.hid htk
        have HN2 := Lib.hid hn2
        clear hne hd hd2 htk hn2 hk'
        generalize hL : s.extract p s.size = l at *
        generalize hO : s.extract 0 p = o at *
        have HL := Lib.hid hL
        have HO := Lib.hid hO
        have E1 := Lib.hid e1
        have E2 := Lib.hid e2
        clear hL hO e1 e2
        have R2 := R1.below hb
        go_wp2_with fail
        refine (rplace R2 l).mono ?_
        rintro e w2 ⟨rfl, rfl⟩
        cases hmo : mOf ms l with
        | some t =>
          have ht := hsm _ _ hmo
          have pm : placeM ms l = t := by unfold placeM; rw [hmo]; rfl
          rw [pm]
          have q1 : decide ((0 : Int) ≤ t) = true := by simp; omega
          have HMO := Lib.hid hmo
          clear hmo pm
          go_wp2_with fail
          refine (rbe2 (49152 + t) _).mono ?_
          rintro e w3 ⟨rfl, B3⟩
          have zb := p16_size (49152 + t)
          have n1 : ¬ 9223372036854775807 < o.size + (p16 (49152 + t)).size := by omega
          go_wp2
          go_meet
          case rel =>
            have hfound : findP (mOf ms) s (heads s) 0 = some (i, p, t) := by rw [HF.out, HD.out, findP, HL.out, HMO.out]
            have ew : wroteN (mOf ms) s = i := by unfold wroteN; rw [hfound]
            have eo : outN (mOf ms) s = o ++ p16 (49152 + t) := by
              unfold outN; rw [hfound]
              show s.extract 0 p ++ p16 (Go.bits .or .i64 49152 t) = _
              rw [HO.out, or_place t ht.1 ht.2]
            exact ⟨_, l, rfl, rfl, .inr ⟨HNE.out, eo.symm⟩, by rw [ew]; exact Sl.own_below hfr B3, hb.trans (B3.mono hb.size)⟩
        | none =>
          have pm : placeM ms l = -1 := by unfold placeM; rw [hmo]; rfl
          rw [pm]
          have HMO := Lib.hid hmo
          clear hmo pm
          have c0 : w2.cell? ⟨g, 0, none⟩ = some (.string S) := (blk_cell R2.blk 0).trans rfl
          have q2 : decide ((S.size : Int) + (p : Int) ≤ 16383) = true := by simp; omega
          have sb := hb.size
          have qi : decide (0 < l.size) = true := decide_eq_true (by omega)
          have hgb := get_bt l
          have qs : decide ((1 : Int) + (k : Int) ≤ (l.size : Int)) = true := by simp; omega
          have zx : (l.extract 0 (1 + k)).size = 1 + k := by rw [ByteArray.size_extract]; omega
          have n1 : ¬ 9223372036854775807 < o.size + (l.extract 0 (1 + k)).size := by omega
          go_wp2_with (at_builtin; refine Sl.append_row (w0 := w1) w1.heap.size rfl _ _ 26 75 (.agg #[.string ⟨#[]⟩, .int .i64 0]) 2 24 rfl Try.underlying26 info_mark rfl (by decide) hfr #[.string l, .int .i64 ((S.size : Int) + (p : Int))] rfl rfl rfl ?h1 hb sb ?hn ?hl ?_)
          case h1 => exact ⟨rfl, rfl⟩
          case hn => omega
          case hl => omega
          intro v3 w3 hown3 hb3
          go_wp2
          go_roundg (s.size - (p + 1 + k))
          case measure => omega
          case rel =>
            refine ⟨p + 1 + k, i + 1, by rw [← E1.out], by rw [← E2.out, zl], by omega, HN2.out, HD2.out, by omega, by omega, by rw [HF.out, HD.out, findP, HL.out, HMO.out, HD2.out], ?_, hb3⟩
            rw [HTK.out]
            unfold freshN at hown3 ⊢
            rw [List.map_append, mcells_app]
            simpa [mcells, HL.out] using hown3
  case rest =>
  obtain ⟨o, l, rfl, rfl, hol, hfr, hb⟩ := hcut
  have R2 := R1.below hb
  have hso := outN_size (mOf ms) s hs
  have hw1 : wroteN (mOf ms) s ≤ 255 := by
    have h1 := places_pos hs
    have h2 := placesAt_len s s.size 0 (by omega)
    obtain ⟨K, hK⟩ : ∃ K, (places s).length = K + 1 := ⟨(places s).length - 1, by omega⟩
    have h3 := wroteN_le (mOf ms) s hK
    unfold places at hK
    omega
  have hop : 1 ≤ (outN (mOf ms) s).size := out_pos (mOf ms) s hs
  have hfl : (freshN s S.size ((heads s).take (wroteN (mOf ms) s))).length = wroteN (mOf ms) s := by
    have := hfr.1
    rw [mcells_len] at this; omega
  generalize hfe : freshN s S.size ((heads s).take (wroteN (mOf ms) s)) = fr at *
  generalize hwe : wroteN (mOf ms) s = nw at *
  generalize hoe : outN (mOf ms) s = out at *
  have HFE := Lib.hid hfe
  have HWE := Lib.hid hwe
  have HOE := Lib.hid hoe
  clear hfe hwe hoe
  have c0 : wc.cell? ⟨g, 0, none⟩ = some (.string S) := (blk_cell R2.blk 0).trans rfl
  have c1 : wc.cell? ⟨g, 1, none⟩ = some v := (blk_cell R2.blk 1).trans rfl
  have f0 := blk_frozen R2.blk 0
  have f1 := blk_frozen R2.blk 1
  have hfew := R2.few
  have hown := R2.own
  have hblk := R2.blk
  have hbase := R2.base_le
  obtain ⟨A, cA, rfl⟩ := Sl.own_slice R2.own
  have n2 : ¬ 9223372036854775807 < S.size + out.size := by omega
  have hoz : o.size ≤ 300 := by
    rcases hol with ⟨_, rfl⟩ | ⟨_, rfl⟩
    · rw [ByteArray.size_append] at hso; omega
    · omega
  have rootlit : root = ⟨#[0]⟩ := rfl
  by_cases hfit : 4096 < S.size + out.size
  · have q : decide ((4096 : Int) < (S.size : Int) + (out.size : Int)) = true := by simp; omega
    have HFIT : 4096 < S.size + (outN (mOf ms) s).size := by rw [HOE.out]; exact hfit
    clear hfit
    rcases hol with ⟨rfl, ho⟩ | ⟨hl, rfl⟩
    · have q0 : (root.toList == [0]) = true := by decide +kernel
      have n1 : ¬ 9223372036854775807 < o.size + 1 := by omega
      go_wp2
      go_ret
      exact ⟨rfl, R2, (B1.mono R.base_le).trans (hb.mono R1.base_le), (Kr.below B1).trans (Kr.below hb)⟩
    · have q0 : (l.toList == [0]) = false := by
        rw [beq_eq_false_iff_ne]; exact fun e => hl (Pu.toList_inj (e.trans (show [0] = root.toList by decide +kernel)))
      go_wp2
      go_ret
      exact ⟨rfl, R2, (B1.mono R.base_le).trans (hb.mono R1.base_le), (Kr.below B1).trans (Kr.below hb)⟩
  · have q : decide ((4096 : Int) < (S.size : Int) + (out.size : Int)) = false := by simp; omega
    have HFIT : ¬ 4096 < S.size + (outN (mOf ms) s).size := by rw [HOE.out]; exact hfit
    have hfs : S.size + out.size ≤ 4096 := by omega
    clear hfit
    have hown2 := own_setCell hown (own_ne hown hblk (by decide)) (p := ⟨g, 0, none⟩) (.string (S ++ out))
    have hfr2 := own_setCell hfr (own_ne hfr hblk (by decide)) (p := ⟨g, 0, none⟩) (.string (S ++ out))
    have hblk2 := blk_put hblk 0 (.string (S ++ out)) rfl
    have d1 := (blk_cell hblk2 1).trans rfl
    have B2 : Below base wc (wc.setCell ⟨g, 0, none⟩ (.string (S ++ out))) := (Below.refl base wc).setCell R2.gb _
    have K2 : Kr wc (wc.setCell ⟨g, 0, none⟩ (.string (S ++ out))) g := ⟨by simp [World.setCell], fun k hk h1 h2 => Below.heap_setCell wc _ _ k h1⟩
    have hgg : some g ≠ (Value.slice A ms.length cA).ownBlock := own_ne hown hblk (by decide)
    have fin : ∀ v1 w3, w3.ownsRow base 75 2 v1 (ms.length + nw) (mcells ms ++ mcells fr) → (wc.setCell ⟨g, 0, none⟩ (.string (S ++ out))).grownBy w3 (Value.slice A ms.length cA).ownBlock →
        Rf base (w3.setCell ⟨g, 1, none⟩ v1) g v1 (S ++ out) (ms ++ fr) ∧ Below base w (w3.setCell ⟨g, 1, none⟩ v1) ∧ Kr w (w3.setCell ⟨g, 1, none⟩ v1) g ∧ w3.frozen? ⟨g, 1, none⟩ = false := by
      intro v1 w3 ho3 hg3
      have b3 := blk_grown hblk2 hg3 hgg
      have hl3 : (ms ++ fr).length = ms.length + nw := by rw [List.length_append, hfl]
      refine ⟨⟨R2.gb, blk_put b3 1 v1 rfl, ?_, by rw [ByteArray.size_append]; omega, by rw [hl3, ByteArray.size_append]; omega⟩, ?_, ?_, blk_frozen b3 1⟩
      · rw [hl3, mcells_app]
        exact own_setCell ho3 (own_ne ho3 b3 (by decide)) _
      · exact ((B1.mono R.base_le).trans (hb.mono R1.base_le)).trans ((B2.grown hg3 (Nat.le_trans hbase B2.size) (fun k e => Sl.own_base hown k e)).setCell R2.gb _)
      · refine ((Kr.below B1).trans (Kr.below hb)).trans (K2.trans ⟨by have := hg3.size; simp [World.setCell] at this ⊢; omega, fun k hk h1 h2 => ?_⟩)
        refine (Below.heap_setCell w3 _ _ k h1).trans (hg3.block k hk ?_)
        intro e
        obtain ⟨cells, h⟩ := Go.Proofs.YtepglkgpgoifkaaW.PrintWords.own_typed hown2 k e.symm
        exact h2 cells h
    have FIN := Lib.hid fin
    clear fin
    rcases hol with ⟨rfl, ho⟩ | ⟨hl, rfl⟩
    · have q0 : (root.toList == [0]) = true := by decide +kernel
      have n1 : ¬ 9223372036854775807 < o.size + 1 := by omega
      go_wp2_with (at_builtin; refine app_cells base rfl _ _ 26 75 (.agg #[.string ⟨#[]⟩, .int .i64 0]) 2 24 rfl Try.underlying26 info_mark rfl (by decide) (by decide) hown2 hfr2 (mcells_one _) rfl rfl (by simpa [World.setCell] using hbase) ?hl ?_)
      case hl => omega
      intro v1 w3 ho3 hg3
      obtain ⟨F1, F2, F3, F4⟩ := FIN.out v1 w3 ho3 hg3
      have d3 := hg3.cell d1 hgg
      obtain ⟨A1, cc1, rfl⟩ := Sl.own_slice ho3
      go_wp2
      go_ret
      exact ⟨rfl, ⟨_, by rw [HOE.out, HWE.out, HFE.out]; exact F1⟩, F2, F3⟩
    · have q0 : (l.toList == [0]) = false := by
        rw [beq_eq_false_iff_ne]; exact fun e => hl (Pu.toList_inj (e.trans (show [0] = root.toList by decide +kernel)))
      go_wp2_with (at_builtin; refine app_cells base rfl _ _ 26 75 (.agg #[.string ⟨#[]⟩, .int .i64 0]) 2 24 rfl Try.underlying26 info_mark rfl (by decide) (by decide) hown2 hfr2 (mcells_one _) rfl rfl (by simpa [World.setCell] using hbase) ?hl ?_)
      case hl => omega
      intro v1 w3 ho3 hg3
      obtain ⟨F1, F2, F3, F4⟩ := FIN.out v1 w3 ho3 hg3
      have d3 := hg3.cell d1 hgg
      obtain ⟨A1, cc1, rfl⟩ := Sl.own_slice ho3
      go_wp2
      go_ret
      exact ⟨rfl, ⟨_, by rw [HOE.out, HWE.out, HFE.out]; exact F1⟩, F2, F3⟩
end
end Go.Proofs.Ytepglkgpgoifkaa.Wr
