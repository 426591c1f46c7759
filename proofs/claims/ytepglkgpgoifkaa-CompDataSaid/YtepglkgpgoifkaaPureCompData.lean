/- The pure statement of CompData: names within data are written out, other types' bytes are left; what ends elsewhere is refused. -/
import Derived.Test.YtepglkgpgoifkaaCompS
import Derived.Test.YtepglkgpgoifkaaPClx4
namespace Go.Proofs.Ytepglkgpgoifkaa.CompD
open Go.RowKit Go.Proofs.Ytepglkgpgoifkaa.PCl Go.Proofs.YtepglkgpgoifkaaW.PrintWords Go.Proofs.Ytepglkgpgoifkaa.Pu Go.Proofs.Ytepglkgpgoifkaa.CompS Go.Proofs.Ytepglkgpgoifkaa.Nm
set_option linter.unusedVariables false
theorem bt_same (s : ByteArray) (i : Nat) : Go.PlainAid.bt s i = bt s (i : Int) := by
  rw [bt_bytes, Base.bt_data]
  unfold bytesOf
  rw [List.getD_eq_getElem?_getD, List.getD_eq_getElem?_getD, List.getElem?_map]
  cases s.data.toList[i]? <;> rfl
theorem drop_split (l : List Int) (i j : Nat) (h : i ≤ j) : (l.take j).drop i ++ l.drop j = l.drop i := by
  rw [List.drop_take]
  have := List.take_append_drop (j - i) (l.drop i)
  rw [List.drop_drop, show i + (j - i) = j by omega] at this
  exact this
/-- A name that stands at the string's head is read to its end, once a pointer was passed. -/
theorem read_on (nm R : ByteArray) (hs : nm.size ≤ 255) (hR : R.size ≤ 1000) (bg bh : Int) (hbh : 0 ≤ bh) : ∀ (n i : Nat), nm.size - i ≤ n → nameAt nm i = true → ∀ out : List Int, out = (bytesOf nm).take i →
    Ev (fun k => comp_Name.l0 k (nm ++ R) (i : Int) out bg bh) (nm, bh, 0) := by
  have hz : (nm ++ R).size = nm.size + R.size := ByteArray.size_append
  intro n
  induction n with
  | zero => intro i h hn; rw [nameAt_out (by omega)] at hn; cases hn
  | succ n ih =>
    intro i h hn out ho
    have hi : i < nm.size := by
      by_cases hi : i < nm.size
      · exact hi
      · rw [nameAt_out (by omega)] at hn; cases hn
    have hl : out.length = i := by rw [ho, List.length_take, bytesOf_length]; omega
    have hb : bt (nm ++ R) (i : Int) = Go.PlainAid.bt nm i := by
      rw [bt_same, bt_bytes, bt_bytes, bytesOf_append, List.getD_eq_getElem?_getD, List.getD_eq_getElem?_getD, List.getElem?_append_left (by rw [bytesOf_length]; exact hi)]
    have hr := bt_range (nm ++ R) (i : Int)
    rw [hb] at hr
    by_cases h0 : Go.PlainAid.bt nm i = 0
    · rw [nameAt_end hi h0] at hn
      have he : i + 1 = nm.size := of_decide_eq_true hn
      refine Ev.step (fun k => by rw [comp_Name.l0]) (Ev.pos (by omega) ?_)
      rw [decide_eq_true (show (out.length : Int) < 255 by omega)]
      refine Ev.step (fun k => by rw [comp_Name.j1]) (Ev.pos rfl (Ev.pos (by omega) (Ev.pos (by omega) (Ev.pos ?_ (Ev.neg (by omega) (Ev.pos (by omega) ?_))))))
      · rw [hb, h0]; exact w64 (by decide) (by decide)
      · have e : out ++ [0] = bytesOf nm := by
          rw [ho]
          have := take_snoc (bytesOf nm) 0 i (by rw [bytesOf_length]; exact hi)
          rw [← bt_bytes, ← bt_same, h0, he, List.take_of_length_le (by rw [bytesOf_length]; omega)] at this
          exact this.symm
        rw [e, nums_bytesOf]
        exact Ev.some _ fun _ => rfl
    · by_cases h63 : 63 < Go.PlainAid.bt nm i
      · rw [nameAt_bad hi h63] at hn; cases hn
      · rw [nameAt_next hi h0 (by omega)] at hn
        have hj : i + 1 + (Go.PlainAid.bt nm i).toNat < nm.size := by
          by_cases hj : i + 1 + (Go.PlainAid.bt nm i).toNat < nm.size
          · exact hj
          · rw [nameAt_out (by omega)] at hn; cases hn
        refine l_lab (by omega) (by omega) (by omega) hb h0 (by omega) (by omega) ?_
        have ej : (i : Int) + 1 + Go.PlainAid.bt nm i = ((i + 1 + (Go.PlainAid.bt nm i).toNat : Nat) : Int) := by omega
        rw [ej]
        refine ih _ (by omega) hn _ ?_
        rw [ho, bytesOf_extract, bytesOf_append, List.take_append_of_le_length (by rw [bytesOf_length]; simp only [Int.toNat_natCast]; omega)]
        simp only [Int.toNat_natCast]
        generalize hJ : i + 1 + (Go.PlainAid.bt nm i).toNat = j at *
        rw [List.drop_take]
        have := List.take_append_drop i ((bytesOf nm).take j)
        rw [List.take_take, Nat.min_eq_left (by omega), List.drop_take] at this
        exact this
/-- A pointer to the string's head, where a name stands. -/
theorem read_ptr (nm R : ByteArray) (hn : nameB nm = true) (hR : R.size ≤ 1000) (i : Nat) (hi : i + 1 < (nm ++ R).size) (h0 : 0 < i) (b0 : bt (nm ++ R) (i : Int) = 192) (b1 : bt (nm ++ R) ((i : Int) + 1) = 0) :
    Ev (fun k => comp_Name.f k (nm ++ R) (i : Int)) (nm, (i : Int) + 2, 0) := by
  have hnm : nm.size ≤ 255 ∧ nameAt nm 0 = true := by unfold nameB at hn; simpa using hn
  have hz : (nm ++ R).size = nm.size + R.size := ByteArray.size_append
  refine f_at (l_go (by omega) (by omega) (by decide) b0 (by decide) (fun h => by omega) (fun _ => ?_))
  refine Ev.step (fun k => by rw [comp_Name.j2]) (Ev.neg (by simp) (Ev.pos (by decide) ?_))
  rw [w64 (x := (i : Int) + 1) (by omega) (by omega), decide_eq_true (show (i : Int) + 1 < ((nm ++ R).size : Int) by omega)]
  refine Ev.step (fun k => by rw [comp_Name.j3]) (Ev.pos rfl ?_)
  rw [w64 (x := (i : Int) + 1) (by omega) (by omega), b1, to_eq (by decide) (by decide) (by decide) (by decide), w64 (x := (i : Int) + 2) (by omega) (by omega)]
  refine Ev.pos (by omega) (Ev.pos (by omega) (Ev.neg (by omega) (Ev.pos (by decide) ?_)))
  exact read_on nm R hnm.1 hR _ _ (by omega) _ 0 (Nat.le_refl _) hnm.2 _ rfl
theorem names_1 {s nm : ByteArray} {i q : Int} (h : Ev (fun k => comp_Name.f k s i) (nm, q, 0)) (hs : nm.size ≤ 255) : Ev (fun k => comp_names.f k s i 1) (nm, q, 0) := by
  show Ev (fun k => comp_names.l0 k s i (⟨#[]⟩ : ByteArray) 1 0) _
  refine Ev.step (fun k => by rw [comp_names.l0]) (Ev.pos (by decide) (Ev.bind h ?_))
  refine Ev.pos rfl (Ev.pos (by show 0 + nm.size ≤ 9223372036854775807; omega) ?_)
  refine Ev.step (fun k => by rw [comp_names.l0]) (Ev.neg (by rw [w64 (by decide) (by decide)]; decide) (Ev.some _ fun _ => ?_))
  show some ((⟨#[]⟩ : ByteArray) ++ nm, q, (0 : Int)) = _
  rw [show (⟨#[]⟩ : ByteArray) ++ nm = nm from ByteArray.empty_append]
theorem shape_mx : Ev (fun k => comp_shape.f k 15) (2, 1, 0) := Ev.of (comp_shape.mono _) (k := 4) (by decide +kernel)
theorem shape_ns : Ev (fun k => comp_shape.f k 2) (0, 1, 0) := Ev.of (comp_shape.mono _) (k := 4) (by decide +kernel)
theorem shape_cn : Ev (fun k => comp_shape.f k 5) (0, 1, 0) := Ev.of (comp_shape.mono _) (k := 4) (by decide +kernel)
theorem shape_999 : Ev (fun k => comp_shape.f k 999) (0, 0, 0) := Ev.of (comp_shape.mono _) (k := 4) (by decide +kernel)
theorem shape_a : Ev (fun k => comp_shape.f k 1) (0, 0, 0) := Ev.of (comp_shape.mono _) (k := 4) (by decide +kernel)
abbrev no : ByteArray × Int := ((⟨#[]⟩ : ByteArray), 500)
def ans (c : Bool) (d : ByteArray) : ByteArray × Int := match c with | true => (d, 0) | false => no
/-- Ahead of it all: the place and the size lie within the string. -/
theorem data_in {s : ByteArray} {i z t : Int} {r : ByteArray × Int} (hs : s.size ≤ 1000000) (h0 : 0 ≤ i) (h1 : 0 ≤ z) (h2 : i + z ≤ (s.size : Int)) (h : Ev (fun k => comp_Data.j0 k s i z t false) r) : Ev (fun k => comp_Data.f k s i z t) r := by
  refine Ev.neg (by omega) (Ev.neg (by omega) (Ev.neg (by omega) ?_))
  rw [w64 (x := (s.size : Int) - i) (by omega) (by omega), decide_eq_false (show ¬ z > (s.size : Int) - i by omega)]
  exact h
theorem data_out {s : ByteArray} {i z t : Int} (hs : s.size ≤ 1000000) (h0 : 0 ≤ i) (h1 : 0 ≤ z) (hi : i ≤ (s.size : Int)) (h2 : (s.size : Int) < i + z) : Ev (fun k => comp_Data.f k s i z t) no := by
  refine Ev.neg (by omega) (Ev.neg (by omega) (Ev.neg (by omega) ?_))
  rw [w64 (x := (s.size : Int) - i) (by omega) (by omega), decide_eq_true (show z > (s.size : Int) - i by omega)]
  exact Ev.step (fun k => by rw [comp_Data.j0]) (Ev.pos rfl (Ev.some _ fun _ => rfl))
theorem may_eq (t : Int) (s : ByteArray) (h : s.size ≤ 9223372036854775000) : rdata_May.f t s = some (Rd.mayD t s) := by unfold rdata_May.f; rw [if_pos h]
/-- Data of a type whose bytes are left as they are. -/
theorem data_plain {s : ByteArray} {i z : Nat} {t : Int} (hs : s.size ≤ 1000000) (h2 : i + z ≤ s.size) (hsh : Ev (fun k => comp_shape.f k t) (0, 0, 0)) :
    Ev (fun k => comp_Data.f k s (i : Int) (z : Int) t) (ans (Rd.mayD t (s.extract i (i + z))) (s.extract i (i + z))) := by
  refine data_in hs (by omega) (by omega) (by omega) ?_
  refine Ev.step (fun k => by rw [comp_Data.j0]) (Ev.neg (by decide) ?_)
  rw [w64 (x := (i : Int) + (z : Int)) (by omega) (by omega)]
  refine Ev.pos (by omega) (Ev.pos (by omega) (Ev.pos (by omega) (Ev.bind hsh (Ev.neg (by decide) (Ev.call (may_eq _ _ ?_) ?_)))))
  · rw [ByteArray.size_extract]; omega
  rw [show ((i : Int) + (z : Int)).toNat = i + z by omega, Int.toNat_natCast]
  cases h : Rd.mayD t (s.extract i (i + z)) with
  | true => exact Ev.pos rfl (Ev.some _ fun _ => rfl)
  | false => exact Ev.neg (by decide) (Ev.some _ fun _ => rfl)
/-- Data that is a name behind so many bytes. -/
theorem data_name {s nm : ByteArray} {i z a : Nat} {q : Nat} {t : Int} (hs : s.size ≤ 1000000) (hn : nm.size ≤ 255) (h2 : i + z ≤ s.size) (hsh : Ev (fun k => comp_shape.f k t) ((a : Int), 1, 0)) (ha : a ≤ z)
    (hq : Ev (fun k => comp_Name.f k s ((i + a : Nat) : Int)) (nm, (q : Int), 0)) :
    Ev (fun k => comp_Data.f k s (i : Int) (z : Int) t) (ans (decide (q = i + z) && Rd.mayD t (s.extract i (i + a) ++ nm ++ s.extract q (i + z))) (s.extract i (i + a) ++ nm ++ s.extract q (i + z))) := by
  refine data_in hs (by omega) (by omega) (by omega) ?_
  refine Ev.step (fun k => by rw [comp_Data.j0]) (Ev.neg (by decide) ?_)
  rw [w64 (x := (i : Int) + (z : Int)) (by omega) (by omega)]
  refine Ev.pos (by omega) (Ev.pos (by omega) (Ev.pos (by omega) (Ev.bind hsh (Ev.pos (by show (1 : Int) > 0; decide) ?_))))
  dsimp only
  rw [w64 (x := (a : Int) + 0) (by omega) (by omega), w64 (x := (i : Int) + (a : Int)) (by omega) (by omega), show (i : Int) + (a : Int) = ((i + a : Nat) : Int) by omega]
  refine Ev.neg (by omega) (Ev.bind (names_1 hq hn) (Ev.pos rfl ?_))
  dsimp only
  rw [w64 (x := (i : Int) + (z : Int) - 0) (by omega) (by omega)]
  by_cases hqz : q = i + z
  · rw [show ((q : Int) != (i : Int) + (z : Int) - 0) = false by simp; omega]
    refine Ev.step (fun k => by rw [comp_Data.j1]) (Ev.neg (by decide) ?_)
    rw [w64 (x := (i : Int) + (a : Int)) (by omega) (by omega), show (i : Int) + (a : Int) = ((i + a : Nat) : Int) by omega, show (i : Int) + (z : Int) = ((i + z : Nat) : Int) by omega]
    simp only [Int.toNat_natCast]
    refine Ev.pos (by omega) (Ev.pos (by omega) (Ev.pos (by omega) (Ev.pos ?_ (Ev.pos (by omega) (Ev.pos (by omega) (Ev.pos (by omega) (Ev.pos ?_ (Ev.call (may_eq _ _ ?_) ?_))))))))
    · rw [ByteArray.size_extract]; omega
    · rw [ByteArray.size_append, ByteArray.size_extract, ByteArray.size_extract]; omega
    · rw [ByteArray.size_append, ByteArray.size_append, ByteArray.size_extract, ByteArray.size_extract]; omega
    rw [decide_eq_true hqz]
    cases h : Rd.mayD t (s.extract i (i + a) ++ nm ++ s.extract q (i + z)) with
    | true => exact Ev.pos rfl (Ev.some _ fun _ => rfl)
    | false => exact Ev.neg (by decide) (Ev.some _ fun _ => rfl)
  · rw [show ((q : Int) != (i : Int) + (z : Int) - 0) = true by simp; omega, decide_eq_false hqz]
    refine Ev.step (fun k => by rw [comp_Data.j1]) ?_
    exact Ev.pos rfl (Ev.some _ fun _ => rfl)
theorem ext_tail (nm R : ByteArray) (i j : Nat) : (nm ++ R).extract (nm.size + i) (nm.size + j) = R.extract i j := by
  refine bytesOf_inj ?_
  rw [bytesOf_extract, bytesOf_extract, bytesOf_append, ← bytesOf_length nm, List.take_length_add_append, List.drop_length_add_append]
theorem ext_head (nm R : ByteArray) : (nm ++ R).extract 0 nm.size = nm := by
  refine bytesOf_inj ?_
  rw [bytesOf_extract, bytesOf_append, ← bytesOf_length nm, List.take_left', List.drop_zero]
  rfl
theorem ext_none (s : ByteArray) (i : Nat) : s.extract i i = (⟨#[]⟩ : ByteArray) := by
  refine bytesOf_inj ?_
  rw [bytesOf_extract, List.drop_of_length_le (by rw [List.length_take]; omega)]; rfl
theorem nums_ext (xs : List Int) (h : ∀ x ∈ xs, 0 ≤ x ∧ x ≤ 255) (i j : Nat) : (strOfNums xs).extract i j = strOfNums ((xs.take j).drop i) := by
  refine bytesOf_inj ?_
  rw [bytesOf_extract, bytesOf_nums h, bytesOf_nums (fun x hx => h x (List.mem_of_mem_take (List.mem_of_mem_drop hx)))]
end Go.Proofs.Ytepglkgpgoifkaa.CompD
namespace Go.Proofs.Ytepglkgpgoifkaa.Pure
open Go.RowKit Go.Proofs.Ytepglkgpgoifkaa.PCl Go.Proofs.YtepglkgpgoifkaaW.PrintWords Go.Proofs.Ytepglkgpgoifkaa.Pu Go.Proofs.Ytepglkgpgoifkaa.CompS Go.Proofs.Ytepglkgpgoifkaa.Nm Go.Proofs.Ytepglkgpgoifkaa.CompD
set_option linter.unusedVariables false
theorem cd_str (nm : ByteArray) (p : Int) : ((nm ++ (⟨#[0]⟩ : ByteArray)) ++ strOfNums [p]) ++ strOfNums [192, 0] = nm ++ strOfNums [0, p, 192, 0] := by
  rw [ByteArray.append_assoc, ByteArray.append_assoc, Pu.nums_append, show (⟨#[0]⟩ : ByteArray) = strOfNums [0] by decide +kernel, Pu.nums_append]; rfl
theorem cd_strz (nm : ByteArray) (p : Int) : (nm ++ strOfNums [0, p, 192, 0]) ++ (⟨#[122]⟩ : ByteArray) = nm ++ strOfNums [0, p, 192, 0, 122] := by
  rw [ByteArray.append_assoc, show (⟨#[122]⟩ : ByteArray) = strOfNums [122] by decide +kernel, Pu.nums_append]; rfl
theorem CompData : wimplelaw5_CompData.Pure := by
  intro a0 a1 a2 _ w1 w2
  have ha := wf_i64 w2
  refine Ev.rounds ?_
  unfold wimplelaw5_CompData.f
  refine Ev.call rfl (Ev.pos rfl (Ev.call rfl ?_))
  cases hn : nameB a0 with
  | false => exact Ev.neg (by decide) (Ev.some _ fun _ => rfl)
  | true =>
  refine Ev.pos rfl ?_
  have hsz : a0.size ≤ 255 := by unfold nameB at hn; simp at hn; exact hn.1
  have hp : 0 ≤ a1 % 256 ∧ a1 % 256 ≤ 255 := by omega
  generalize a1 % 256 = p at *
  have r4 : ∀ x ∈ [(0 : Int), p, 192, 0], 0 ≤ x ∧ x ≤ 255 := by intro x hx; simp at hx; omega
  have r5 : ∀ x ∈ [(0 : Int), p, 192, 0, 122], 0 ≤ x ∧ x ≤ 255 := by intro x hx; simp at hx; omega
  have P0 : wimplelaw5_pointer.f 0 = some (strOfNums [192, 0]) := ptr_eq 0 (by decide) (by decide)
  have z4 : (strOfNums [0, p, 192, 0]).size = 4 := rfl
  have z5 : (strOfNums [0, p, 192, 0, 122]).size = 5 := rfl
  have zs : (a0 ++ strOfNums [0, p, 192, 0]).size = a0.size + 4 := by rw [ByteArray.size_append, z4]
  have zz : (a0 ++ strOfNums [0, p, 192, 0, 122]).size = a0.size + 5 := by rw [ByteArray.size_append, z5]
  have hpos : 0 < a0.size + 2 := by omega
  have N1 : Ev (fun k => comp_Name.f k (a0 ++ strOfNums [0, p, 192, 0]) ((a0.size + 2 : Nat) : Int)) (a0, ((a0.size + 4 : Nat) : Int), 0) := by
    have := read_ptr a0 (strOfNums [0, p, 192, 0]) hn (by omega) (a0.size + 2) (by omega) hpos
      (by rw [show ((a0.size + 2 : Nat) : Int) = (a0.size : Int) + ((2 : Nat) : Int) by omega, bt_end, bt_bytes, bytesOf_nums r4]; rfl)
      (by rw [show ((a0.size + 2 : Nat) : Int) + 1 = (a0.size : Int) + ((3 : Nat) : Int) by omega, bt_end, bt_bytes, bytesOf_nums r4]; rfl)
    rwa [show ((a0.size + 2 : Nat) : Int) + 2 = ((a0.size + 4 : Nat) : Int) by omega] at this
  have N2 : Ev (fun k => comp_Name.f k (a0 ++ strOfNums [0, p, 192, 0, 122]) ((a0.size + 2 : Nat) : Int)) (a0, ((a0.size + 4 : Nat) : Int), 0) := by
    have := read_ptr a0 (strOfNums [0, p, 192, 0, 122]) hn (by omega) (a0.size + 2) (by omega) hpos
      (by rw [show ((a0.size + 2 : Nat) : Int) = (a0.size : Int) + ((2 : Nat) : Int) by omega, bt_end, bt_bytes, bytesOf_nums r5]; rfl)
      (by rw [show ((a0.size + 2 : Nat) : Int) + 1 = (a0.size : Int) + ((3 : Nat) : Int) by omega, bt_end, bt_bytes, bytesOf_nums r5]; rfl)
    rwa [show ((a0.size + 2 : Nat) : Int) + 2 = ((a0.size + 4 : Nat) : Int) by omega] at this
  have x02 : (a0 ++ strOfNums [0, p, 192, 0]).extract a0.size (a0.size + 2) = strOfNums [0, p] := by
    have := ext_tail a0 (strOfNums [0, p, 192, 0]) 0 2
    rw [Nat.add_zero, nums_ext _ r4] at this; exact this
  have m15 : Rd.mayD 15 (strOfNums [0, p] ++ a0) = true := by
    have e : (strOfNums [0, p] ++ a0).extract 2 (strOfNums [0, p] ++ a0).size = a0 := by
      refine bytesOf_inj ?_
      rw [bytesOf_extract, bytesOf_append, List.take_of_length_le (by rw [List.length_append, bytesOf_length, bytesOf_length, ByteArray.size_append]; exact Nat.le_refl _), bytesOf_nums (by intro x hx; simp at hx; omega)]; rfl
    have z : (strOfNums [0, p] ++ a0).size = 2 + a0.size := by rw [ByteArray.size_append]; rfl
    unfold Rd.mayD
    rw [e, z, hn]
    simp; omega
  have m2 : Rd.mayD 2 a0 = true := by unfold Rd.mayD; simp [hn]; omega
  have m999 : ∀ x : ByteArray, x.size ≤ 65535 → Rd.mayD 999 x = true := by intro x hx; unfold Rd.mayD; simp; omega
  have m1 : Rd.mayD 1 a0 = decide (a0.size = 4) := by unfold Rd.mayD; simp; omega
  have D1 : Ev (fun k => comp_Data.f k (a0 ++ strOfNums [0, p, 192, 0]) (a0.size : Int) 4 15) (strOfNums [0, p] ++ a0, 0) := by
    have := data_name (i := a0.size) (z := 4) (a := 2) (by omega) hsz (by omega) shape_mx (by omega) N1
    rw [x02, ext_none, show strOfNums [0, p] ++ a0 ++ (⟨#[]⟩ : ByteArray) = strOfNums [0, p] ++ a0 from ByteArray.append_empty, decide_eq_true rfl, m15] at this
    exact this
  have D2 : Ev (fun k => comp_Data.f k (a0 ++ strOfNums [0, p, 192, 0]) ((a0.size + 2 : Nat) : Int) 2 2) (a0, 0) := by
    have := data_name (i := a0.size + 2) (z := 2) (a := 0) (by omega) hsz (by omega) shape_ns (by omega) N1
    rw [Nat.add_zero, ext_none, ext_none, show (⟨#[]⟩ : ByteArray) ++ a0 ++ (⟨#[]⟩ : ByteArray) = a0 from (ByteArray.append_empty (b := (⟨#[]⟩ : ByteArray) ++ a0)).trans ByteArray.empty_append, decide_eq_true (by omega), m2] at this
    exact this
  have D3 : Ev (fun k => comp_Data.f k (a0 ++ strOfNums [0, p, 192, 0]) (a0.size : Int) 4 999) ((a0 ++ strOfNums [0, p, 192, 0]).extract a0.size (a0.size + 4), 0) := by
    have := data_plain (s := a0 ++ strOfNums [0, p, 192, 0]) (i := a0.size) (z := 4) (by omega) (by omega) shape_999
    rw [m999 _ (by rw [ByteArray.size_extract]; omega)] at this
    exact this
  have D4 : Ev (fun k => comp_Data.f k (a0 ++ strOfNums [0, p, 192, 0]) (a0.size : Int) 3 15) no := by
    have := data_name (i := a0.size) (z := 3) (a := 2) (by omega) hsz (by omega) shape_mx (by omega) N1
    rw [decide_eq_false (by omega)] at this
    exact this
  have D5 : Ev (fun k => comp_Data.f k (a0 ++ strOfNums [0, p, 192, 0, 122]) ((a0.size + 2 : Nat) : Int) 3 5) no := by
    have := data_name (i := a0.size + 2) (z := 3) (a := 0) (by omega) hsz (by omega) shape_cn (by omega) N2
    rw [decide_eq_false (by omega)] at this
    exact this
  have b63 : 0 ≤ a2 % 64 ∧ a2 % 64 < 64 := by omega
  have D6 : Ev (fun k => comp_Data.f k (a0 ++ strOfNums [0, p, 192, 0]) (a0.size : Int) (5 + a2 % 64) 999) no := data_out (by omega) (by omega) (by omega) (by omega) (by omega)
  have D7 : Ev (fun k => comp_Data.f k (a0 ++ strOfNums [0, p, 192, 0]) 0 (a0.size : Int) 1) (ans (decide (a0.size = 4)) a0) := by
    have := data_plain (s := a0 ++ strOfNums [0, p, 192, 0]) (i := 0) (z := a0.size) (by omega) (by omega) shape_a
    rw [Nat.zero_add, ext_head, m1] at this
    exact this
  refine Ev.pos (by omega) ?_
  refine Ev.call rfl ?_
  refine Ev.pos (by rw [ByteArray.size_append]; show a0.size + 1 + 1 ≤ _; omega) ?_
  rw [P0]
  refine Ev.call rfl ?_
  rw [cd_str, cd_strz, w64 (x := (a0.size : Int) + 2) (by omega) (by omega), show (a0.size : Int) + 2 = ((a0.size + 2 : Nat) : Int) by omega, and_63, w64 (x := 5 + a2 % 64) (by omega) (by omega)]
  refine Ev.pos (by rw [ByteArray.size_append, ByteArray.size_append]; show a0.size + 1 + 1 + 2 ≤ _; omega) ?_
  refine Ev.bind D1 ?_
  refine Ev.bind D2 ?_
  refine Ev.bind D3 ?_
  refine Ev.bind D4 ?_
  refine Ev.pos (by omega) ?_
  refine Ev.bind D5 ?_
  refine Ev.bind D6 ?_
  refine Ev.bind D7 ?_
  dsimp only
  refine Ev.call (num_eq _) (Ev.pos rfl (Ev.call rfl ?_))
  refine Ev.pos (by show 1 + 1 ≤ _; omega) ?_
  refine Ev.pos (by rw [ByteArray.size_append]; show 1 + 1 + a0.size ≤ _; omega) ?_
  refine Ev.pos (by rw [show (⟨#[0]⟩ : ByteArray) = strOfNums [0] by decide +kernel, Pu.nums_append]; rfl) ?_
  refine Ev.call (num_eq _) (Ev.pos rfl (Ev.pos rfl ?_))
  refine Ev.call (num_eq _) (Ev.pos rfl ?_)
  refine Ev.pos (by omega) (Ev.pos (by omega) (Ev.pos (by rw [zs]; rfl) ?_))
  refine Ev.call (num_eq _) (Ev.pos rfl ?_)
  refine Ev.call (num_eq _) (Ev.pos rfl ?_)
  refine Ev.call (num_eq _) (Ev.pos rfl ?_)
  refine Ev.call (num_eq _) (Ev.some _ fun _ => ?_)
  by_cases h4 : a0.size = 4
  · rw [decide_eq_true h4, h4]; rfl
  · rw [decide_eq_false h4, show ((a0.size : Int) == 4) = false by simp; omega]; rfl
end Go.Proofs.Ytepglkgpgoifkaa.Pure
