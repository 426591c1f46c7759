/- The row of the law GroupRows, where what it reads weighs no more than the reach, out of its pure statement and the printed walk. -/
import Derived.Test.YthlajjcdmhgcmaaRows
import Derived.WalkKit
import Derived.ProofKit
import Derived.ChangeArms
import Derived.DataReads
import Derived.SizedLaws
import Derived.Laws.BitsLemmas
import Derived.Sort.Walk0
import Derived.OpenShut
import Derived.ShutString
import Derived.ChangeOld
import Derived.Below
import Derived.Carry
import Derived.Test.YthlajjcdmhgcmaaGd1
import Derived.Test.YthlajjcdmhgcmaaGd2
import Derived.Test.YthlajjcdmhgcmaaGd3
import Derived.Test.YthlajjcdmhgcmaaGd4
namespace Go.Proofs.Ythlajjcdmhgcmaa.OpenZd
open Go.ChangeShapes Go.WideShapes Go.ChangeAt Go.RowKit Go.Proofs.YthlajjcdmhgcmaaW.PrintWords
set_option linter.unusedVariables false
theorem add_two (a : Addr) (i j : Nat) : (a.add i).add j = a.add (i + j) := by
  unfold Addr.add
  by_cases hi : i = 0
  · simp [hi]
  · by_cases hj : j = 0
    · simp [hj]
    · simp [hi, hj, Nat.add_assoc]
theorem weights_all {H : Type} {P : Program} {e : TypeId} : ∀ {ds : List (DataW H)} {d : DataW H}, d ∈ ds → ∀ n ∈ d.weights P e, n ∈ DataW.weightsAll P e ds
  | [], _, h, _, _ => by cases h
  | x :: xs, d, h, n, hn => by
    rcases List.mem_cons.1 h with rfl | h
    · simp only [DataW.weightsAll, List.mem_append]; exact Or.inl hn
    · simp only [DataW.weightsAll, List.mem_append]; exact Or.inr (weights_all h n hn)
section
variable {H : Type} (enc : TypeId × Value → H) (P : Program) (W : World) (base : Nat) (spare : Nat → Bool) (held : Bool)
/-- Nothing of it weighs more than the reach. -/
def Light (t : TypeId) (d : DataW H) : Prop := ∀ n ∈ d.weights P t, n ≤ reachBytes
/-- Each datum of the type reads as a value of the kind; what is known of it. -/
def Opens {α : Type} (t : TypeId) (d : Kd α) (ok : α → Prop) : Prop :=
  ∀ fuel cs y, DataW.trod enc P W base spare held fuel t cs = some y → Light P t y.1 → ∃ x, d.K W x cs ∧ ok x
theorem opens_int {t : TypeId} {k : IntKind} (hu : P.underlying t = some (.int k)) : Opens enc P W base spare held t (Kd.int k) (fun x => (Lit.int k x).wf = true) := by
  intro fuel cs y h _
  obtain ⟨n, rfl, rfl, hw⟩ := DataW.trod_int hu h
  exact ⟨n, rfl, hw⟩
theorem opens_string {t : TypeId} (hu : P.underlying t = some .string) : Opens enc P W base spare held t Kd.string (fun s => s.size ≤ 140737488351232) := by
  intro fuel cs y h hl
  obtain ⟨s, rfl, rfl, hw⟩ := DataW.trod_string hu h
  refine ⟨s, rfl, ?_⟩
  have := hl s.data.toList.length (by simp [DataW.weights])
  rw [Array.length_toList] at this
  exact this
variable {enc P W base spare held}
/-- A slice of elements of a kind: its value, and that it reads as a list. -/
theorem open_slice {α : Type} {t e : TypeId} {d : Kd α} {ok : α → Prop} (hu : P.underlying t = some (.slice e)) (hsz : P.cellsOf e = d.sz) (ho : Opens enc P W base spare held e d ok)
    {fuel : Nat} {cs : List Value} {y : DataW H × List MemPlace} (h : DataW.trod enc P W base spare held fuel t cs = some y) (hl : Light P t y.1) :
    ∃ (A : Option Addr) (xs : List α) (c : Nat), cs = [.slice A xs.length c] ∧ xs.length ≤ c ∧ d.C W A xs.length xs ∧ (xs.length * P.bytesOf e ≤ 140737488351232 ∧ ∀ x ∈ xs, ok x) := by
  rcases DataW.trod_slice hu h with ⟨rfl, rfl⟩ | ⟨a, len, cap, elems, rest, n, _, rfl, rfl, hb, hln, hm, hlen, hel, hsp, hns⟩
  · exact ⟨none, [], 0, rfl, Nat.le_refl _, ⟨rfl, by simp, fun h => by simp at h⟩, by simp⟩
  have light : ∀ i (hi : i < elems.length), Light P e elems[i].1 := by
    intro i hi w hw
    refine hl w ?_
    simp only [DataW.weights, hu, List.mem_cons, List.mem_append]
    exact Or.inr (Or.inl (weights_all (d := elems[i].1) (List.mem_map.2 ⟨elems[i], List.getElem_mem hi, rfl⟩) w hw))
  have key : ∀ m, m ≤ len → ∃ xs : List α, xs.length = m ∧ (∀ x ∈ xs, ok x) ∧
      ∀ i (hi : i < xs.length), ∃ c, c.length = d.sz ∧ d.K W xs[i] c ∧ ∀ j u, c[j]? = some u → W.cell? (a.add (i * d.sz + j)) = some u := by
    intro m
    induction m with
    | zero => exact fun _ => ⟨[], rfl, by simp, by simp⟩
    | succ m ih =>
      intro hm'
      obtain ⟨xs, hx, h1, h3⟩ := ih (by omega)
      have hi : m < elems.length := by omega
      have e0 := hel m (by omega)
      rw [List.getElem?_eq_getElem hi, Option.bind_eq_some_iff] at e0
      obtain ⟨c, hc, ht⟩ := e0
      obtain ⟨x, hk, hok⟩ := ho _ _ _ ht (light m hi)
      obtain ⟨_, hcl, hcc⟩ := World.cells?_some hc
      rw [hsz] at hcl hcc
      refine ⟨xs ++ [x], by simp [hx], ?_, ?_⟩
      · intro z hz
        rcases List.mem_append.1 hz with hz | hz
        · exact h1 z hz
        · rw [List.mem_singleton.1 hz]; exact hok
      · intro i hi2
        by_cases hlt : i < xs.length
        · rw [List.getElem_append_left hlt]; exact h3 i hlt
        · have : i = m := by rw [List.length_append, List.length_singleton] at hi2; omega
          subst this
          rw [List.getElem_append_right (by omega)]
          refine ⟨c, hcl, by simpa using hk, fun j u hj => ?_⟩
          have hj' : j < d.sz := by rw [← hcl]; exact (List.getElem?_eq_some_iff.1 hj).1
          have := hcc j hj'
          rw [hj] at this
          rw [← this, add_two]
  obtain ⟨xs, hx, h1, h3⟩ := key len (Nat.le_refl _)
  refine ⟨some a, xs, cap, by rw [hx], by omega, ⟨rfl, by unfold maxLen at hm; omega, fun _ => ⟨a, rfl, fun j p hj => ?_⟩⟩, ?_, h1⟩
  · obtain ⟨hj', rfl⟩ := List.getElem?_eq_some_iff.1 hj
    exact h3 j hj'
  · have := hl ((elems.map (·.1)).length + (rest.map (·.1)).length |> (· * P.bytesOf e)) (by simp [DataW.weights, hu])
    have h2 : xs.length * P.bytesOf e ≤ ((elems.map (·.1)).length + (rest.map (·.1)).length) * P.bytesOf e := Nat.mul_le_mul_right _ (by rw [List.length_map]; omega)
    exact Nat.le_trans h2 this
variable (enc P W base spare held)
theorem light_each {ts : List TypeId} {ds : List (DataW H)} (h : (DataW.weightsEach P ts ds).all (· ≤ reachBytes) = true) {j : Nat} {t : TypeId} {d : DataW H} (ht : ts[j]? = some t) (hd : ds[j]? = some d) : Light P t d := fun n hn => by
  have := List.all_eq_true.1 h n (DataW.weights_mem_each ht hd n hn)
  simpa using this
theorem light_part {t : TypeId} {fs : Array Field} (hu : P.underlying t = some (.struct fs)) {parts : List (DataW H)} (h : Light P t (.agg parts)) {j : Nat} {u : TypeId} {d : DataW H} (ht : (fs.toList.map (·.type))[j]? = some u) (hd : parts[j]? = some d) : Light P u d := fun n hn => by
  refine h n ?_
  simp only [DataW.weights, hu]
  exact DataW.weights_mem_each ht hd n hn
end
end Go.Proofs.Ythlajjcdmhgcmaa.OpenZd

namespace Go.Proofs.Ythlajjcdmhgcmaa.OkzGr
open Go.ChangeShapes Go.WideShapes Go.ChangeAt Go.RowKit Go.Proofs.YthlajjcdmhgcmaaW.PrintWords Go.Proofs.Ythlajjcdmhgcmaa.PGr Go.Proofs.Ythlajjcdmhgcmaa.OpenZd
set_option linter.unusedVariables false
def ok43 (x : S43) : Prop := ((fun s => s.size ≤ 140737488351232) x.f0) ∧ ((fun x => (Lit.int .i64 x).wf = true) x.f1) ∧ ((fun x => (Lit.int .i64 x).wf = true) x.f2) ∧ ((fun x => (Lit.int .i64 x).wf = true) x.f3) ∧ ((fun s => s.size ≤ 140737488351232) x.f4)
theorem cells43 : ∀ {l : List Value}, l.length = 5 → ∃ c0 c1 c2 c3 c4, l = [c0, c1, c2, c3, c4]
  | [c0, c1, c2, c3, c4], _ => ⟨c0, c1, c2, c3, c4, rfl⟩
theorem opens43 {H : Type} (enc : TypeId × Value → H) (W : World) (base : Nat) (spare : Nat → Bool) (held : Bool) : Opens enc Try.prog W base spare held 43 k43 ok43 := by
  intro fuel cs y h hlt
  obtain ⟨xs, n, rfl, rfl, hl, hx, hf⟩ := DataW.trod_struct Try.underlying43 h
  obtain ⟨c0, c1, c2, c3, c4, rfl⟩ := cells43 (hl.trans (by kernel_rfl))
  obtain ⟨y0, e0⟩ : ∃ y, xs[0]? = some y := ⟨_, List.getElem?_eq_getElem (by rw [hx]; decide)⟩
  have g0 : DataW.trod enc Try.prog W base spare held n 9 (([c0, c1, c2, c3, c4].drop 0).take (Try.prog.cellsOf 9)) = xs[0]? := hf 0 _ rfl
  rw [e0, show Try.prog.cellsOf 9 = 1 by kernel_rfl] at g0
  obtain ⟨x0, k0', o0⟩ := (opens_string enc Try.prog W base spare held Try.underlying9) _ [c0] y0 g0 (light_part Try.prog Try.underlying43 hlt (j := 0) (by kernel_rfl) (by rw [List.getElem?_map, e0]; rfl))
  obtain ⟨y1, e1⟩ : ∃ y, xs[1]? = some y := ⟨_, List.getElem?_eq_getElem (by rw [hx]; decide)⟩
  have g1 : DataW.trod enc Try.prog W base spare held n 3 (([c0, c1, c2, c3, c4].drop 1).take (Try.prog.cellsOf 3)) = xs[1]? := hf 1 _ rfl
  rw [e1, show Try.prog.cellsOf 3 = 1 by kernel_rfl] at g1
  obtain ⟨x1, k1', o1⟩ := (opens_int enc Try.prog W base spare held Try.underlying3) _ [c1] y1 g1 (light_part Try.prog Try.underlying43 hlt (j := 1) (by kernel_rfl) (by rw [List.getElem?_map, e1]; rfl))
  obtain ⟨y2, e2⟩ : ∃ y, xs[2]? = some y := ⟨_, List.getElem?_eq_getElem (by rw [hx]; decide)⟩
  have g2 : DataW.trod enc Try.prog W base spare held n 3 (([c0, c1, c2, c3, c4].drop 2).take (Try.prog.cellsOf 3)) = xs[2]? := hf 2 _ rfl
  rw [e2, show Try.prog.cellsOf 3 = 1 by kernel_rfl] at g2
  obtain ⟨x2, k2', o2⟩ := (opens_int enc Try.prog W base spare held Try.underlying3) _ [c2] y2 g2 (light_part Try.prog Try.underlying43 hlt (j := 2) (by kernel_rfl) (by rw [List.getElem?_map, e2]; rfl))
  obtain ⟨y3, e3⟩ : ∃ y, xs[3]? = some y := ⟨_, List.getElem?_eq_getElem (by rw [hx]; decide)⟩
  have g3 : DataW.trod enc Try.prog W base spare held n 3 (([c0, c1, c2, c3, c4].drop 3).take (Try.prog.cellsOf 3)) = xs[3]? := hf 3 _ rfl
  rw [e3, show Try.prog.cellsOf 3 = 1 by kernel_rfl] at g3
  obtain ⟨x3, k3', o3⟩ := (opens_int enc Try.prog W base spare held Try.underlying3) _ [c3] y3 g3 (light_part Try.prog Try.underlying43 hlt (j := 3) (by kernel_rfl) (by rw [List.getElem?_map, e3]; rfl))
  obtain ⟨y4, e4⟩ : ∃ y, xs[4]? = some y := ⟨_, List.getElem?_eq_getElem (by rw [hx]; decide)⟩
  have g4 : DataW.trod enc Try.prog W base spare held n 9 (([c0, c1, c2, c3, c4].drop 4).take (Try.prog.cellsOf 9)) = xs[4]? := hf 4 _ rfl
  rw [e4, show Try.prog.cellsOf 9 = 1 by kernel_rfl] at g4
  obtain ⟨x4, k4', o4⟩ := (opens_string enc Try.prog W base spare held Try.underlying9) _ [c4] y4 g4 (light_part Try.prog Try.underlying43 hlt (j := 4) (by kernel_rfl) (by rw [List.getElem?_map, e4]; rfl))
  obtain rfl : xs = [y0, y1, y2, y3, y4] := by
    apply List.ext_getElem?
    intro i
    have hx' : xs.length = 5 := hx
    match i with
    | 0 => exact e0
    | 1 => exact e1
    | 2 => exact e2
    | 3 => exact e3
    | 4 => exact e4
    | i + 5 => rw [List.getElem?_eq_none (by omega), List.getElem?_eq_none (by simp)]
  exact ⟨⟨x0, x1, x2, x3, x4⟩, ⟨[c0], _, rfl, k0', ⟨[c1], _, rfl, k1', ⟨[c2], _, rfl, k2', ⟨[c3], _, rfl, k3', k4'⟩⟩⟩⟩, ⟨o0, o1, o2, o3, o4⟩⟩
end Go.Proofs.Ythlajjcdmhgcmaa.OkzGr

namespace Go.Proofs.Ythlajjcdmhgcmaa.NF
open Go.RowKit Go.PlainAid Go.Proofs.Ythlajjcdmhgcmaa.Base Go.Proofs.Ythlajjcdmhgcmaa.Nm Go.Proofs.Ythlajjcdmhgcmaa.Fo
set_option linter.unusedVariables false
theorem low_bt (s : ByteArray) (i : Nat) (h : i < s.size) : bt (foldS s) i = if 65 ≤ bt s i ∧ bt s i ≤ 90 then bt s i + 32 else bt s i := by
  have hl : i < s.data.toList.length := by rw [len_data]; exact h
  rw [bt_data, bt_data]
  have e : (foldS s).data.toList.getD i 0 = lowB (s.data.toList.getD i 0) := by
    show ((s.data.toList.map lowB).toArray).toList.getD i 0 = _
    rw [List.getD_eq_getElem?_getD, List.getD_eq_getElem?_getD]
    simp only [List.getElem?_map]
    rw [List.getElem?_eq_getElem hl]
    rfl
  rw [e, low_nat]
  generalize (s.data.toList.getD i 0).toNat = x
  by_cases hx : 65 ≤ x ∧ x ≤ 90
  · rw [if_pos hx, if_pos (by omega)]; omega
  · rw [if_neg hx, if_neg (by omega)]
theorem fold_at (s : ByteArray) : ∀ d i, s.size - i ≤ d → nameAt (foldS s) i = nameAt s i := by
  intro d
  induction d with
  | zero => intro i hd; rw [nameAt_out (s := s) (by omega), nameAt_out (s := foldS s) (by rw [foldS_size]; omega)]
  | succ d ih =>
    intro i hd
    by_cases hi : i < s.size
    · have hi' : i < (foldS s).size := by rw [foldS_size]; exact hi
      have hb := low_bt s i hi
      have hn := bt_nonneg s i
      by_cases h0 : bt s i = 0
      · rw [h0, if_neg (by omega)] at hb
        rw [nameAt_end hi h0, nameAt_end hi' hb, foldS_size]
      · by_cases h1 : bt s i ≤ 63
        · rw [if_neg (by omega)] at hb
          rw [nameAt_next hi h0 h1, nameAt_next hi' (by rw [hb]; exact h0) (by rw [hb]; exact h1), hb]
          exact ih _ (by omega)
        · rw [nameAt_bad hi (by omega), nameAt_bad hi' (by rw [hb]; split <;> omega)]
    · rw [nameAt_out (s := s) (by omega), nameAt_out (s := foldS s) (by rw [foldS_size]; omega)]
theorem fold_name {s : ByteArray} (h : nameB s = true) : nameB (foldN s) = true ∧ (foldN s).size = s.size := by
  unfold foldN
  rw [if_pos h]
  refine ⟨?_, foldS_size s⟩
  unfold nameB at h ⊢
  rw [foldS_size, fold_at s s.size 0 (by omega)]
  exact h
theorem low_low (x : UInt8) : lowB (lowB x) = lowB x := by
  apply UInt8.toNat_inj.1
  rw [low_nat (lowB x), low_nat x]
  by_cases h : 65 ≤ x.toNat ∧ x.toNat ≤ 90
  · rw [if_pos h, if_neg (by omega)]
  · rw [if_neg h, if_neg h]
theorem fold_fold {s : ByteArray} (h : nameB s = true) : foldN (foldN s) = foldN s := by
  have hn := (fold_name h).1
  unfold foldN at hn ⊢
  rw [if_pos h] at hn ⊢
  rw [if_pos hn]
  unfold foldS
  congr 2
  rw [List.map_map]
  exact List.map_congr_left (fun x _ => low_low x)
end Go.Proofs.Ythlajjcdmhgcmaa.NF

namespace Go.Proofs.Ythlajjcdmhgcmaa.Gr
open Go.RowKit Go.PlainAid Go.Proofs.Ythlajjcdmhgcmaa.Base
open Go.Proofs.Ythlajjcdmhgcmaa.Fo (foldN)
open Go.Proofs.Ythlajjcdmhgcmaa.Nm (nameB)
set_option linter.unusedVariables false
structure GoodP (s : SP) : Prop where
  name : nameB s.name = true
  fold : foldN s.name = s.name
  t0 : 0 ≤ s.ttl
  t1 : s.ttl ≤ 86400
  may : ∀ d ∈ s.datas, Rd.mayD s.type d = true
  some_ : s.datas ≠ []
theorem okG_parts {r : Rr} (h : okG r = true) : nameB r.name = true ∧ 0 ≤ r.ttl ∧ r.ttl ≤ 4294967295 ∧ Rd.mayD r.type r.data = true := by
  unfold okG at h
  simp only [Bool.and_eq_true, decide_eq_true_eq] at h
  exact ⟨h.1.1.1, h.1.1.2, h.1.2, h.2⟩
theorem putIn_good {n : ByteArray} {t l : Int} {d : ByteArray} (hn : nameB n = true) (hf : foldN n = n) (h0 : 0 ≤ l) (hd : Rd.mayD t d = true) (m : Nat) : ∀ {ss : List SP}, (∀ s ∈ ss, GoodP s ∧ s.datas.length ≤ m) → ∀ s ∈ putIn n t l d ss, GoodP s ∧ s.datas.length ≤ m + 1
  | [], _, s, hs => by
    unfold putIn at hs
    obtain rfl := List.mem_singleton.1 hs
    exact ⟨⟨hn, hf, by show 0 ≤ min 86400 l; omega, by show min 86400 l ≤ 86400; omega, fun x hx => by rw [List.mem_singleton.1 hx]; exact hd, by simp⟩, by simp⟩
  | x :: ss, h, s, hs => by
    have hx := h x List.mem_cons_self
    unfold putIn at hs
    split at hs
    · rename_i hk
      rcases List.mem_cons.1 hs with rfl | hs
      · refine ⟨⟨hx.1.name, hx.1.fold, ?_, ?_, ?_, by simp⟩, ?_⟩
        · have := hx.1.t0; show 0 ≤ min x.ttl l; omega
        · have := hx.1.t1; show min x.ttl l ≤ 86400; omega
        · intro y hy
          rcases List.mem_append.1 hy with hy | hy
          · exact hx.1.may y hy
          · rw [List.mem_singleton.1 hy]; show Rd.mayD x.type d = true; rw [hk.2]; exact hd
        · show (x.datas ++ [d]).length ≤ m + 1
          rw [List.length_append, List.length_singleton]; have := hx.2; omega
      · have := h s (List.mem_cons_of_mem _ hs); exact ⟨this.1, by omega⟩
    · rcases List.mem_cons.1 hs with rfl | hs
      · exact ⟨hx.1, by omega⟩
      · exact putIn_good hn hf h0 hd m (fun y hy => h y (List.mem_cons_of_mem _ hy)) s hs
theorem fold_good : ∀ (l : List Rr) (ss : List SP) (m : Nat), l.all okG = true → (∀ s ∈ ss, GoodP s ∧ s.datas.length ≤ m) → ∀ s ∈ l.foldl stepG ss, GoodP s ∧ s.datas.length ≤ m + l.length
  | [], ss, m, _, h, s, hs => h s hs
  | r :: l, ss, m, ho, h, s, hs => by
    rw [List.all_cons, Bool.and_eq_true] at ho
    obtain ⟨a, b, c, d⟩ := okG_parts ho.1
    have h1 : ∀ s ∈ stepG ss r, GoodP s ∧ s.datas.length ≤ m + 1 := by
      unfold stepG
      split
      · exact putIn_good (NF.fold_name a).1 (NF.fold_fold a) b d m h
      · exact fun s hs => ⟨(h s hs).1, by have := (h s hs).2; omega⟩
    have := fold_good l (stepG ss r) (m + 1) ho.2 h1 s hs
    exact ⟨this.1, by rw [List.length_cons]; omega⟩
theorem norm_good {s : SP} {m : Nat} (h : GoodP s ∧ s.datas.length ≤ m) : GoodP (normP s) ∧ (normP s).datas.length ≤ m ∧ Up (normP s).datas := by
  refine ⟨⟨h.1.name, h.1.fold, h.1.t0, h.1.t1, fun d hd => h.1.may d ((mem_normD _ _).1 hd), ?_⟩, ?_, normD_up _⟩
  · intro e
    cases hd : s.datas with
    | nil => exact h.1.some_ hd
    | cons d ds =>
      have : d ∈ normD s.datas := (mem_normD _ _).2 (by rw [hd]; exact List.mem_cons_self)
      have e2 : normD s.datas = [] := e
      rw [e2] at this
      simp at this
  · exact Nat.le_trans (nodup_len (up_nodup (normD_up _)) (fun x hx => (mem_normD _ _).1 hx)) h.2
/-- Every set that Group tells. -/
theorem groupV_good {l : List Rr} (h64 : l.length ≤ 64) (ho : l.all okG = true) : ∀ s ∈ (groupV l).1, GoodP s ∧ s.datas.length ≤ 64 ∧ Up s.datas := by
  intro s hs
  rw [groupV_ok h64 ho] at hs
  obtain ⟨x, hx, rfl⟩ := List.mem_map.1 hs
  have := norm_good (fold_good l [] 0 ho (fun s hs => by simp at hs) x hx)
  exact ⟨this.1, by omega, this.2.2⟩
end Go.Proofs.Ythlajjcdmhgcmaa.Gr

namespace Go.Proofs.Ythlajjcdmhgcmaa.Gr
open Go.RowKit Go.PlainAid Go.Proofs.Ythlajjcdmhgcmaa.Base
open Go.Proofs.Ythlajjcdmhgcmaa.Fo (foldN)
set_option linter.unusedVariables false
def SP.key (s : SP) : ByteArray × Int := (s.name, s.type)
def Rr.key (r : Rr) : ByteArray × Int := (foldN r.name, r.type)
def keys (ss : List SP) : List (ByteArray × Int) := ss.map SP.key
theorem keys_putIn (n : ByteArray) (t l : Int) (d : ByteArray) : ∀ ss : List SP, ((n, t) ∈ keys ss ∧ keys (putIn n t l d ss) = keys ss) ∨ ((n, t) ∉ keys ss ∧ keys (putIn n t l d ss) = keys ss ++ [(n, t)])
  | [] => .inr ⟨by simp [keys], by simp [putIn, keys, SP.key]⟩
  | x :: ss => by
    unfold putIn
    by_cases h : x.name = n ∧ x.type = t
    · have hk : x.key = (n, t) := Prod.ext h.1 h.2
      rw [if_pos h]
      exact .inl ⟨by show (n, t) ∈ x.key :: keys ss; rw [hk]; exact List.mem_cons_self, rfl⟩
    · have hk : x.key ≠ (n, t) := fun e => h ⟨congrArg Prod.fst e, congrArg Prod.snd e⟩
      rw [if_neg h]
      show ((n, t) ∈ x.key :: keys ss ∧ x.key :: keys (putIn n t l d ss) = x.key :: keys ss) ∨ ((n, t) ∉ x.key :: keys ss ∧ x.key :: keys (putIn n t l d ss) = (x.key :: keys ss) ++ [(n, t)])
      rcases keys_putIn n t l d ss with ⟨hm, e⟩ | ⟨hm, e⟩
      · exact .inl ⟨List.mem_cons_of_mem _ hm, by rw [e]⟩
      · exact .inr ⟨by intro q; rcases List.mem_cons.1 q with q | q; exact hk q.symm; exact hm q, by rw [e]; rfl⟩
theorem mem_putIn {n : ByteArray} {t l : Int} {d : ByteArray} {s : SP} : ∀ {ss : List SP}, (keys ss).Nodup → s ∈ putIn n t l d ss →
    (s ∈ ss ∧ s.key ≠ (n, t)) ∨ (∃ s0 ∈ ss, s0.key = (n, t) ∧ s = ⟨s0.name, s0.type, min s0.ttl l, s0.datas ++ [d]⟩) ∨ ((∀ s0 ∈ ss, s0.key ≠ (n, t)) ∧ s = ⟨n, t, min 86400 l, [d]⟩)
  | [], _, h => by
    unfold putIn at h
    exact .inr (.inr ⟨fun s0 h0 => by simp at h0, List.mem_singleton.1 h⟩)
  | x :: ss, hn, h => by
    have hn' : x.key ∉ keys ss ∧ (keys ss).Nodup := List.nodup_cons.1 hn
    unfold putIn at h
    by_cases hx : x.name = n ∧ x.type = t
    · have hk : x.key = (n, t) := Prod.ext hx.1 hx.2
      rw [if_pos hx] at h
      rcases List.mem_cons.1 h with rfl | h
      · exact .inr (.inl ⟨x, List.mem_cons_self, hk, rfl⟩)
      · refine .inl ⟨List.mem_cons_of_mem _ h, fun e => hn'.1 ?_⟩
        rw [hk, ← e]
        exact List.mem_map.2 ⟨s, h, rfl⟩
    · have hk : x.key ≠ (n, t) := fun e => hx ⟨congrArg Prod.fst e, congrArg Prod.snd e⟩
      rw [if_neg hx] at h
      rcases List.mem_cons.1 h with rfl | h
      · exact .inl ⟨List.mem_cons_self, hk⟩
      · rcases mem_putIn hn'.2 h with ⟨a, b⟩ | ⟨s0, a, b, c⟩ | ⟨a, b⟩
        · exact .inl ⟨List.mem_cons_of_mem _ a, b⟩
        · exact .inr (.inl ⟨s0, List.mem_cons_of_mem _ a, b, c⟩)
        · refine .inr (.inr ⟨fun s0 h0 => ?_, b⟩)
          rcases List.mem_cons.1 h0 with rfl | h0
          · exact hk
          · exact a s0 h0
/-- A record of the list that goes into a set. -/
def Goes (l : List Rr) (k : ByteArray × Int) (r : Rr) : Prop := r ∈ l ∧ r.cls = 1 ∧ r.key = k
structure Spec (l : List Rr) (ss : List SP) : Prop where
  nodup : (keys ss).Nodup
  has : ∀ k, k ∈ keys ss ↔ ∃ r, Goes l k r
  ttl0 : ∀ s ∈ ss, s.ttl ≤ 86400 ∧ ∀ r, Goes l s.key r → s.ttl ≤ r.ttl
  ttl1 : ∀ s ∈ ss, s.ttl = 86400 ∨ ∃ r, Goes l s.key r ∧ s.ttl = r.ttl
  data : ∀ s ∈ ss, ∀ d, d ∈ s.datas ↔ ∃ r, Goes l s.key r ∧ r.data = d
theorem Spec.nil : Spec [] [] := ⟨List.nodup_nil, fun k => by simp [keys, Goes], fun s h => by simp at h, fun s h => by simp at h, fun s h => by simp at h⟩
theorem goes_snoc {l : List Rr} {r x : Rr} {k : ByteArray × Int} : Goes (l ++ [r]) k x ↔ Goes l k x ∨ (x = r ∧ r.cls = 1 ∧ r.key = k) := by
  unfold Goes
  constructor
  · rintro ⟨h, c, e⟩
    rcases List.mem_append.1 h with h | h
    · exact .inl ⟨h, c, e⟩
    · obtain rfl := List.mem_singleton.1 h
      exact .inr ⟨rfl, c, e⟩
  · rintro (⟨h, c, e⟩ | ⟨rfl, c, e⟩)
    · exact ⟨List.mem_append_left _ h, c, e⟩
    · exact ⟨List.mem_append_right _ (List.mem_singleton.2 rfl), c, e⟩
theorem Spec.step {l : List Rr} {ss : List SP} (h : Spec l ss) (r : Rr) : Spec (l ++ [r]) (stepG ss r) := by
  unfold stepG
  by_cases hc : r.cls = 1
  case neg =>
    rw [if_neg hc]
    have e : ∀ k x, Goes (l ++ [r]) k x ↔ Goes l k x := fun k x => goes_snoc.trans ⟨fun h => h.elim id (fun q => absurd q.2.1 hc), .inl⟩
    refine ⟨h.nodup, fun k => ?_, fun s hs => ⟨(h.ttl0 s hs).1, fun x hx => (h.ttl0 s hs).2 x ((e _ _).1 hx)⟩, fun s hs => ?_, fun s hs d => ?_⟩
    · simp only [e]; exact h.has k
    · simp only [e]; exact h.ttl1 s hs
    · simp only [e]; exact h.data s hs d
  rw [if_pos hc]
  have hk := keys_putIn (foldN r.name) r.type r.ttl r.data ss
  have hrk : r.key = (foldN r.name, r.type) := rfl
  have own : Goes (l ++ [r]) r.key r := goes_snoc.2 (.inr ⟨rfl, hc, rfl⟩)
  refine ⟨?_, ?_, ?_, ?_, ?_⟩
  · rcases hk with ⟨hm, e⟩ | ⟨hm, e⟩
    · rw [e]; exact h.nodup
    · rw [e]
      refine List.nodup_append.2 ⟨h.nodup, List.pairwise_singleton _ _, fun a ha b hb e => hm ?_⟩
      rw [← List.mem_singleton.1 hb, ← e]; exact ha
  · intro k
    constructor
    · intro hx
      have : k ∈ keys ss ∨ k = r.key := by
        rcases hk with ⟨hm, e⟩ | ⟨hm, e⟩ <;> rw [e] at hx
        · exact .inl hx
        · rcases List.mem_append.1 hx with hx | hx
          · exact .inl hx
          · exact .inr (List.mem_singleton.1 hx)
      rcases this with hx | rfl
      · obtain ⟨x, hx⟩ := (h.has k).1 hx
        exact ⟨x, goes_snoc.2 (.inl hx)⟩
      · exact ⟨r, own⟩
    · rintro ⟨x, hx⟩
      rcases goes_snoc.1 hx with hx | ⟨rfl, _, rfl⟩
      · have := (h.has k).2 ⟨x, hx⟩
        rcases hk with ⟨hm, e⟩ | ⟨hm, e⟩ <;> rw [e]
        · exact this
        · exact List.mem_append_left _ this
      · rcases hk with ⟨hm, e⟩ | ⟨hm, e⟩ <;> rw [e]
        · exact hm
        · exact List.mem_append_right _ (List.mem_singleton.2 rfl)
  · intro s hs
    rcases mem_putIn h.nodup hs with ⟨a, b⟩ | ⟨s0, a, b, rfl⟩ | ⟨a, rfl⟩
    · refine ⟨(h.ttl0 s a).1, fun x hx => ?_⟩
      rcases goes_snoc.1 hx with hx | ⟨_, _, q⟩
      · exact (h.ttl0 s a).2 x hx
      · exact absurd q.symm b
    · have h0 := h.ttl0 s0 a
      refine ⟨by show min s0.ttl r.ttl ≤ 86400; have := h0.1; omega, fun x hx => ?_⟩
      show min s0.ttl r.ttl ≤ x.ttl
      rcases goes_snoc.1 hx with hx | ⟨rfl, _, _⟩
      · have := h0.2 x hx; omega
      · omega
    · refine ⟨by show min 86400 r.ttl ≤ 86400; omega, fun x hx => ?_⟩
      show min 86400 r.ttl ≤ x.ttl
      rcases goes_snoc.1 hx with hx | ⟨rfl, _, _⟩
      · have := (h.has _).2 ⟨x, hx⟩
        obtain ⟨s0, h0, e0⟩ := List.mem_map.1 this
        exact absurd e0 (a s0 h0)
      · omega
  · intro s hs
    rcases mem_putIn h.nodup hs with ⟨a, b⟩ | ⟨s0, a, b, rfl⟩ | ⟨a, rfl⟩
    · rcases h.ttl1 s a with e | ⟨x, hx, e⟩
      · exact .inl e
      · exact .inr ⟨x, goes_snoc.2 (.inl hx), e⟩
    · have hk0 : (⟨s0.name, s0.type, min s0.ttl r.ttl, s0.datas ++ [r.data]⟩ : SP).key = r.key := b
      by_cases hm : r.ttl ≤ s0.ttl
      · exact .inr ⟨r, by rw [hk0]; exact own, by show min s0.ttl r.ttl = r.ttl; omega⟩
      · have e0 : min s0.ttl r.ttl = s0.ttl := by omega
        rcases h.ttl1 s0 a with e | ⟨x, hx, e⟩
        · exact .inl (by show min s0.ttl r.ttl = 86400; omega)
        · exact .inr ⟨x, goes_snoc.2 (.inl hx), by show min s0.ttl r.ttl = x.ttl; omega⟩
    · by_cases hm : r.ttl ≤ 86400
      · exact .inr ⟨r, own, by show min 86400 r.ttl = r.ttl; omega⟩
      · exact .inl (by show min 86400 r.ttl = 86400; omega)
  · intro s hs d
    rcases mem_putIn h.nodup hs with ⟨a, b⟩ | ⟨s0, a, b, rfl⟩ | ⟨a, rfl⟩
    · rw [h.data s a d]
      exact ⟨fun ⟨x, hx, e⟩ => ⟨x, goes_snoc.2 (.inl hx), e⟩, fun ⟨x, hx, e⟩ => by
        rcases goes_snoc.1 hx with hx | ⟨_, _, q⟩
        · exact ⟨x, hx, e⟩
        · exact absurd q.symm b⟩
    · have hk0 : (⟨s0.name, s0.type, min s0.ttl r.ttl, s0.datas ++ [r.data]⟩ : SP).key = r.key := b
      show d ∈ s0.datas ++ [r.data] ↔ _
      rw [List.mem_append, List.mem_singleton, h.data s0 a d, hk0]
      have hb : s0.key = r.key := b
      rw [hb]
      constructor
      · rintro (⟨x, hx, e⟩ | rfl)
        · exact ⟨x, goes_snoc.2 (.inl hx), e⟩
        · exact ⟨r, own, rfl⟩
      · rintro ⟨x, hx, e⟩
        rcases goes_snoc.1 hx with hx | ⟨rfl, _, _⟩
        · exact .inl ⟨x, hx, e⟩
        · exact .inr e.symm
    · show d ∈ [r.data] ↔ _
      rw [List.mem_singleton]
      constructor
      · rintro rfl; exact ⟨r, own, rfl⟩
      · rintro ⟨x, hx, e⟩
        rcases goes_snoc.1 hx with hx | ⟨rfl, _, _⟩
        · have := (h.has _).2 ⟨x, hx⟩
          obtain ⟨s0, h0, e0⟩ := List.mem_map.1 this
          exact absurd e0 (a s0 h0)
        · exact e.symm
theorem spec_from : ∀ (l p : List Rr) (ss : List SP), Spec p ss → Spec (p ++ l) (l.foldl stepG ss)
  | [], p, ss, h => by rw [List.append_nil]; exact h
  | r :: l, p, ss, h => by
    have := spec_from l (p ++ [r]) (stepG ss r) (h.step r)
    rw [List.append_assoc] at this
    exact this
theorem spec (l : List Rr) : Spec l (l.foldl stepG []) := spec_from l [] [] Spec.nil
theorem Spec.same {l m : List Rr} {ss : List SP} (h : Spec l ss) (e : ∀ r, r ∈ l ↔ r ∈ m) : Spec m ss := by
  have g : ∀ k x, Goes m k x ↔ Goes l k x := fun k x => by unfold Goes; rw [e]
  refine ⟨h.nodup, fun k => ?_, fun s hs => ⟨(h.ttl0 s hs).1, fun x hx => (h.ttl0 s hs).2 x ((g _ _).1 hx)⟩, fun s hs => ?_, fun s hs d => ?_⟩
  · simp only [g]; exact h.has k
  · simp only [g]; exact h.ttl1 s hs
  · simp only [g]; exact h.data s hs d
/-- Two tellings of one list: the same sets. -/
theorem Spec.one {l : List Rr} {ss tt : List SP} (h : Spec l ss) (k : Spec l tt) {s : SP} (hs : s ∈ ss) : ∃ t ∈ tt, normP t = normP s := by
  have hk : s.key ∈ keys tt := (k.has _).2 ((h.has _).1 (List.mem_map.2 ⟨s, hs, rfl⟩))
  obtain ⟨t, ht, e⟩ := List.mem_map.1 hk
  refine ⟨t, ht, ?_⟩
  have e1 : t.name = s.name := congrArg Prod.fst e
  have e2 : t.type = s.type := congrArg Prod.snd e
  have e3 : t.ttl = s.ttl := by
    have a := h.ttl0 s hs
    have b := k.ttl0 t ht
    rw [e] at b
    have a1 := h.ttl1 s hs
    have b1 := k.ttl1 t ht
    rw [e] at b1
    rcases a1 with a1 | ⟨x, hx, a1⟩ <;> rcases b1 with b1 | ⟨y, hy, b1⟩
    · omega
    · have := a.2 y hy; have := b.1; omega
    · have := b.2 x hx; have := a.1; omega
    · have := a.2 y hy; have := b.2 x hx; omega
  have e4 : normD t.datas = normD s.datas := normD_eq (normD_up _) (fun x => by
    rw [mem_normD, h.data s hs x, k.data t ht x, e])
  unfold normP
  rw [e1, e2, e3, e4]
theorem Spec.len {l : List Rr} {ss tt : List SP} (h : Spec l ss) (k : Spec l tt) : ss.length = tt.length := by
  have a := nodup_len h.nodup (l2 := keys tt) (fun x hx => (k.has x).2 ((h.has x).1 hx))
  have b := nodup_len k.nodup (l2 := keys ss) (fun x hx => (h.has x).2 ((k.has x).1 hx))
  unfold keys at a b
  rw [List.length_map, List.length_map] at a b
  omega
end Go.Proofs.Ythlajjcdmhgcmaa.Gr

namespace Go.Proofs.Ythlajjcdmhgcmaa.Pu
open Go.RowKit Go.Proofs.YthlajjcdmhgcmaaW.PrintWords
set_option linter.unusedVariables false

/-! ### whole numbers -/
theorem w64 {x : Int} (h0 : -9223372036854775808 ≤ x) (h1 : x ≤ 9223372036854775807) : wrap64 x = x := by unfold wrap64; omega
/-! ### lists -/
theorem getD_lt {α : Type} {l : List α} {d : α} {i : Nat} (h : i < l.length) : l.getD i d = l[i] := by
  rw [List.getD_eq_getElem?_getD, List.getElem?_eq_getElem h]; rfl
/-! ### strings as bytes -/
theorem toList_data (s : ByteArray) : s.toList = s.data.toList := ByteArray.toList_eq s
/-! ### from some number of rounds on -/
section
variable {α β : Type} {r : α}
theorem Ev.pos {c : Prop} [Decidable c] {f g : Nat → Option α} (h : c) (k : Ev f r) : Ev (fun n => if c then f n else g n) r := by
  simp only [if_pos h]; exact k
theorem Ev.neg {c : Prop} [Decidable c] {f g : Nat → Option α} (h : ¬ c) (k : Ev g r) : Ev (fun n => if c then f n else g n) r := by
  simp only [if_neg h]; exact k
theorem Ev.some (f : Nat → Option α) (h : ∀ n, f n = some r) : Ev f r := ⟨0, fun n _ => h n⟩
/-- A call that needs no rounds. -/
theorem Ev.call {g : Option β} {f : Nat → β → Option α} {a : β} (h : g = Option.some a) (k : Ev (fun n => f n a) r) : Ev (fun n => g.bind (f n)) r := by
  subst h; exact k
end
end Go.Proofs.Ythlajjcdmhgcmaa.Pu

namespace Go.Proofs.Ythlajjcdmhgcmaa.Pure
open Go.RowKit Go.Proofs.Ythlajjcdmhgcmaa.PGr Go.Proofs.Ythlajjcdmhgcmaa.Pu Go.Proofs.Ythlajjcdmhgcmaa.Gr Go.Proofs.Ythlajjcdmhgcmaa.OkzGr
open Go.Proofs.YthlajjcdmhgcmaaW.PrintWords (Ev Ev.of Ev.bind Ev.step Ev.rounds rdOf)
set_option linter.unusedVariables false
theorem num_eq (x : Int) : wimplelaw0_Num.f x = some x := rfl
theorem texts_any (ds es : List ByteArray) (hl : ds.length ≤ 1000000) (he : ds.length = es.length) : ∀ (m i : Nat), i + m = ds.length → ∃ r, Ev (fun k => wimplelaw0_SameTexts.l0 k ds es i) r ∧ (ds = es → r = true)
  | 0, i, h => ⟨true, Ev.step (fun k => by rw [wimplelaw0_SameTexts.l0]) (Ev.neg (by omega) (Ev.some _ fun _ => rfl)), fun _ => rfl⟩
  | m + 1, i, h => by
    by_cases hc : (rdOf ByteArray.empty ds (i : Int)).toList = (rdOf ByteArray.empty es (i : Int)).toList
    · obtain ⟨r, hr, h2⟩ := texts_any ds es hl he m (i + 1) (by omega)
      refine ⟨r, Ev.step (fun k => by rw [wimplelaw0_SameTexts.l0]) (Ev.pos (by omega) (Ev.pos (by omega) (Ev.pos (by omega) (Ev.pos hc ?_)))), h2⟩
      rw [w64 (by omega) (by omega)]
      exact hr
    · refine ⟨false, Ev.step (fun k => by rw [wimplelaw0_SameTexts.l0]) (Ev.pos (by omega) (Ev.pos (by omega) (Ev.pos (by omega) (Ev.neg hc (Ev.some _ fun _ => rfl))))), fun e => ?_⟩
      subst e; exact absurd rfl hc
theorem same_any (x y : S25) (hl : x.f3.length ≤ 1000000) : ∃ r, Ev (fun k => wimplelaw0_SameSet.f k x.f0 x.f1 x.f2 x.f3 y.f0 y.f1 y.f2 y.f3) r ∧ (x = y → r = true) := by
  unfold wimplelaw0_SameSet.f
  by_cases h0 : x.f0.toList = y.f0.toList
  case neg => exact ⟨false, Ev.neg h0 (Ev.some _ fun _ => rfl), fun e => absurd (by rw [e]) h0⟩
  by_cases h1 : x.f1 = y.f1
  case neg => exact ⟨false, Ev.pos h0 (Ev.neg h1 (Ev.some _ fun _ => rfl)), fun e => absurd (by rw [e]) h1⟩
  by_cases h2 : x.f2 = y.f2
  case neg => exact ⟨false, Ev.pos h0 (Ev.pos h1 (Ev.neg h2 (Ev.some _ fun _ => rfl))), fun e => absurd (by rw [e]) h2⟩
  by_cases h3 : x.f3.length = y.f3.length
  · obtain ⟨r, hr, h4⟩ := texts_any x.f3 y.f3 hl h3 x.f3.length 0 (by omega)
    refine ⟨r, Ev.pos h0 (Ev.pos h1 (Ev.pos h2 (Ev.bind (a := r) ?_ (Ev.some _ fun _ => rfl)))), fun e => h4 (by rw [e])⟩
    unfold wimplelaw0_SameTexts.f
    exact Ev.pos (by omega) hr
  · refine ⟨false, Ev.pos h0 (Ev.pos h1 (Ev.pos h2 (Ev.bind (a := false) ?_ (Ev.some _ fun _ => rfl)))), fun e => absurd (by rw [e]) h3⟩
    unfold wimplelaw0_SameTexts.f
    exact Ev.neg (by omega) (Ev.some _ fun _ => rfl)
/-- What is known of the two lists of sets. -/
structure Two (a b : List SP) : Prop where
  good : ∀ s ∈ a, GoodP s ∧ s.datas.length ≤ 64 ∧ Up s.datas
  inb : ∀ s ∈ a, s ∈ b
  la : a.length ≤ 1000000
  lb : b.length ≤ 1000000
theorem rd_set (ss : List SP) (i : Nat) (hi : i < ss.length) : rd_T25 (ss.map gr_S) (i : Int) = gr_S ss[i] := by
  unfold rd_T25
  rw [Int.toNat_natCast, List.getD_eq_getElem?_getD, List.getElem?_map, List.getElem?_eq_getElem hi]; rfl
theorem up_less {ds : List ByteArray} (h : Up ds) {j : Nat} (hj : j + 1 < ds.length) : Op.bytesLess (rdOf ByteArray.empty ds (j : Int)).toList (rdOf ByteArray.empty ds ((j + 1 : Nat) : Int)).toList = true := by
  unfold rdOf
  rw [Int.toNat_natCast, Int.toNat_natCast, getD_lt (by omega), getD_lt hj, Go.Proofs.bytesLess_eq, toList_data, toList_data]
  exact decide_eq_true (List.pairwise_iff_getElem.1 h j (j + 1) (by omega) hj (by omega))
theorem rows_l3 (a b : List SP) (i : Nat) (hi : i < a.length) (hl : a.length ≤ 1000000) (hu : Up a[i].datas) (hd : a[i].datas.length ≤ 64) (K : Ev (fun k => wimplelaw11_GroupRows.l1 k (a.map gr_S) (b.map gr_S) ((i + 1 : Nat) : Int)) true) :
    ∀ (m j : Nat), j + m = a[i].datas.length → 0 < j → Ev (fun k => wimplelaw11_GroupRows.l3 k (a.map gr_S) (b.map gr_S) i j) true
  | 0, j, h, h0 => by
    refine Ev.step (fun k => by rw [wimplelaw11_GroupRows.l3]) ?_
    rw [rd_set a i hi, List.length_map]
    refine Ev.pos (by omega) (Ev.pos (by omega) (Ev.neg (by show ¬ (j : Int) < (a[i].datas.length : Int); omega) ?_))
    rw [w64 (by omega) (by omega)]
    exact K
  | m + 1, j, h, h0 => by
    have ih := rows_l3 a b i hi hl hu hd K m (j + 1) (by omega) (by omega)
    refine Ev.step (fun k => by rw [wimplelaw11_GroupRows.l3]) ?_
    rw [rd_set a i hi, List.length_map]
    obtain ⟨q, rfl⟩ : ∃ q, j = q + 1 := ⟨j - 1, by omega⟩
    have e1 : wrap64 (((q + 1 : Nat) : Int) - 1) = (q : Int) := by rw [w64 (by omega) (by omega)]; omega
    have e2 : wrap64 (((q + 1 : Nat) : Int) + 1) = ((q + 1 + 1 : Nat) : Int) := by rw [w64 (by omega) (by omega)]; omega
    rw [e1, e2]
    refine Ev.pos (by omega) (Ev.pos (by omega) (Ev.pos (by show ((q + 1 : Nat) : Int) < (a[i].datas.length : Int); omega) (Ev.pos (by omega) (Ev.pos (by show (q : Int) < (a[i].datas.length : Int); omega) (Ev.pos (by omega) (Ev.pos ?_ ih))))))
    exact up_less hu (by omega)
theorem rows_end {a b : List SP} (H : Two a b) (i : Nat) (hi : i < a.length) (K : Ev (fun k => wimplelaw11_GroupRows.l1 k (a.map gr_S) (b.map gr_S) ((i + 1 : Nat) : Int)) true) (j : Int) (hj : (b.length : Int) ≤ j) :
    Ev (fun k => wimplelaw11_GroupRows.l2 k (a.map gr_S) (b.map gr_S) i true j) true := by
  have hg := H.good a[i] (List.getElem_mem hi)
  have hla := H.la
  refine Ev.step (fun k => by rw [wimplelaw11_GroupRows.l2]) ?_
  rw [rd_set a i hi, List.length_map, List.length_map]
  have h1 : a[i].ttl ≤ 86400 := hg.1.t1
  have h2 : 0 < a[i].datas.length := List.length_pos_iff.2 hg.1.some_
  refine Ev.neg (by omega) (Ev.pos rfl (Ev.pos (by omega) (Ev.pos (by omega) (Ev.neg (by show ¬ a[i].ttl > 86400; omega) (Ev.neg (by show ¬ (a[i].datas.length : Int) = 0; omega) (Ev.call (a := a[i].name) (by show some (Fo.foldN a[i].name) = _; rw [hg.1.fold]) ?_))))))
  have e : ((gr_S a[i]).f0.toList != (a[i]).name.toList) = false := by show ((a[i]).name.toList != (a[i]).name.toList) = false; simp
  rw [e]
  refine Ev.step (fun k => by rw [wimplelaw11_GroupRows.j4]) (Ev.neg (by decide) ?_)
  exact rows_l3 a b i hi hla hg.2.2 hg.2.1 K (a[i].datas.length - 1) 1 (by omega) (by omega)
theorem rows_l2 {a b : List SP} (H : Two a b) (i : Nat) (hi : i < a.length) (K : Ev (fun k => wimplelaw11_GroupRows.l1 k (a.map gr_S) (b.map gr_S) ((i + 1 : Nat) : Int)) true) :
    ∀ (m j : Nat) (x : Bool), j + m = b.length → (x = true ∨ ∃ q, ∃ hq : q < b.length, j ≤ q ∧ b[q] = a[i]) → Ev (fun k => wimplelaw11_GroupRows.l2 k (a.map gr_S) (b.map gr_S) i x j) true
  | 0, j, x, h, hx => by
    have hx1 : x = true := by
      rcases hx with hx | ⟨q, hq, h1, _⟩
      · exact hx
      · omega
    subst hx1
    exact rows_end H i hi K j (by omega)
  | m + 1, j, x, h, hx => by
    have hlb := H.lb
    have e2 : wrap64 ((j : Int) + 1) = ((j + 1 : Nat) : Int) := by rw [w64 (by omega) (by omega)]; omega
    cases x with
    | true =>
      have ih := rows_l2 H i hi K m (j + 1) true (by omega) (.inl rfl)
      refine Ev.step (fun k => by rw [wimplelaw11_GroupRows.l2]) ?_
      rw [e2, List.length_map]
      exact Ev.pos (by omega) (Ev.pos rfl ih)
    | false =>
      have hg := H.good a[i] (List.getElem_mem hi)
      have hj : j < b.length := by omega
      obtain ⟨r, hr, h2⟩ := same_any (gr_S a[i]) (gr_S b[j]) (by show a[i].datas.length ≤ 1000000; have := hg.2.1; omega)
      have ih := rows_l2 H i hi K m (j + 1) r (by omega) (by
        rcases hx with hx | ⟨q, hq, h1, h3⟩
        · cases hx
        · rcases Nat.eq_or_lt_of_le h1 with e | e
          · subst e
            exact .inl (h2 (by rw [h3]))
          · exact .inr ⟨q, hq, e, h3⟩)
      refine Ev.step (fun k => by rw [wimplelaw11_GroupRows.l2]) ?_
      rw [e2, List.length_map, List.length_map, rd_set a i hi, rd_set b j hj]
      exact Ev.pos (by omega) (Ev.neg (by decide) (Ev.pos (by omega) (Ev.pos (by omega) (Ev.pos (by omega) (Ev.bind hr ih)))))
theorem rows_l1 {a b : List SP} (H : Two a b) : ∀ (m i : Nat), i + m = a.length → Ev (fun k => wimplelaw11_GroupRows.l1 k (a.map gr_S) (b.map gr_S) i) true
  | 0, i, h => Ev.step (fun k => by rw [wimplelaw11_GroupRows.l1]) (Ev.neg (by rw [List.length_map]; omega) (Ev.some _ fun _ => rfl))
  | m + 1, i, h => by
    have ih := rows_l1 H m (i + 1) (by omega)
    have hi : i < a.length := by omega
    refine Ev.step (fun k => by rw [wimplelaw11_GroupRows.l1]) (Ev.pos (by rw [List.length_map]; omega) ?_)
    obtain ⟨q, hq, e⟩ := List.mem_iff_getElem.1 (H.inb a[i] (List.getElem_mem hi))
    exact rows_l2 H i hi ih b.length 0 false (by omega) (.inr ⟨q, hq, by omega, e⟩)
def dup (r : S43) : List S43 := [r, r]
def tu (l : List S43) (i : Nat) : List S43 := (l.drop i).reverse.flatMap dup
theorem tu_step (l : List S43) (i : Nat) (h : i < l.length) : tu l (i + 1) ++ [l[i], l[i]] = tu l i := by
  unfold tu
  rw [List.drop_eq_getElem_cons h, List.reverse_cons, List.flatMap_append]
  rfl
theorem dup_len : ∀ m : List S43, (m.flatMap dup).length = 2 * m.length
  | [] => rfl
  | x :: m => by rw [List.flatMap_cons, List.length_append, dup_len m, List.length_cons]; show 2 + 2 * m.length = _; omega
theorem tu_len (l : List S43) (i : Nat) : (tu l i).length = 2 * (l.length - i) := by
  unfold tu
  rw [dup_len, List.length_reverse, List.length_drop]
theorem tu_mem (l : List S43) (r : S43) : r ∈ tu l 0 ↔ r ∈ l := by
  unfold tu
  rw [List.drop_zero, List.mem_flatMap]
  constructor
  · rintro ⟨x, hx, hr⟩
    have : r = x := by simpa [dup] using hr
    rw [this]; exact List.mem_reverse.1 hx
  · intro hr
    exact ⟨r, List.mem_reverse.2 hr, by simp [dup]⟩
theorem putIn_len (n : ByteArray) (t l : Int) (d : ByteArray) : ∀ ss : List SP, (putIn n t l d ss).length ≤ ss.length + 1
  | [] => by simp [putIn]
  | x :: ss => by
    unfold putIn
    split
    · simp
    · have := putIn_len n t l d ss; simp; omega
theorem fold_len : ∀ (l : List Rr) (ss : List SP), (l.foldl Gr.stepG ss).length ≤ ss.length + l.length
  | [], ss => by simp
  | r :: l, ss => by
    have h1 : (Gr.stepG ss r).length ≤ ss.length + 1 := by
      unfold Gr.stepG
      split
      · exact putIn_len _ _ _ _ _
      · omega
    have := fold_len l (Gr.stepG ss r)
    rw [List.foldl_cons, List.length_cons]; omega
theorem rows_fin (l : List S43) (h : l.length ≤ 32) (hs : ∀ x ∈ l, x.f4.size ≤ 9223372036854775000) : Ev (fun k => wimplelaw11_GroupRows.l0 k l (tu l 0) (-1)) true := by
  refine Ev.step (fun k => by rw [wimplelaw11_GroupRows.l0]) (Ev.neg (by decide) ?_)
  have fitOf : ∀ m : List S43, (∀ x ∈ m, x ∈ l) → fitG (m.map gr_R) = true := by
    intro m hm
    unfold fitG
    rw [List.all_eq_true]
    intro x hx
    obtain ⟨y, hy, rfl⟩ := List.mem_map.1 hx
    show decide (y.f4.size ≤ _) = true
    simpa using hs y (hm y hy)
  have hA : sets_Group.f l = some ((groupV (l.map gr_R)).1.map gr_S, (groupV (l.map gr_R)).2) := by
    unfold sets_Group.f
    rw [groupF_of (fitOf l (fun _ h => h))]; rfl
  have hB : sets_Group.f (tu l 0) = some ((groupV ((tu l 0).map gr_R)).1.map gr_S, (groupV ((tu l 0).map gr_R)).2) := by
    unfold sets_Group.f
    rw [groupF_of (fitOf _ (fun x hx => (tu_mem l x).1 hx))]; rfl
  refine Ev.call hA (Ev.call hB (Ev.call (num_eq _) (Ev.call (num_eq _) ?_)))
  dsimp only
  have la : (l.map gr_R).length ≤ 64 := by rw [List.length_map]; omega
  have lb : ((tu l 0).map gr_R).length ≤ 64 := by rw [List.length_map, tu_len]; omega
  have hmem : ∀ r, r ∈ l.map gr_R ↔ r ∈ (tu l 0).map gr_R := by
    intro r
    rw [List.mem_map, List.mem_map]
    exact ⟨fun ⟨x, hx, e⟩ => ⟨x, (tu_mem l x).2 hx, e⟩, fun ⟨x, hx, e⟩ => ⟨x, (tu_mem l x).1 hx, e⟩⟩
  have hall : ((tu l 0).map gr_R).all okG = (l.map gr_R).all okG := by
    rw [Bool.eq_iff_iff, List.all_eq_true, List.all_eq_true]
    exact ⟨fun h x hx => h x ((hmem x).1 hx), fun h x hx => h x ((hmem x).2 hx)⟩
  by_cases hok : (l.map gr_R).all okG = true
  · have hgood := groupV_good la hok
    have sA := spec (l.map gr_R)
    have sB := (spec ((tu l 0).map gr_R)).same (m := l.map gr_R) (fun r => (hmem r).symm)
    have kA := fold_len (l.map gr_R) []
    have kB := fold_len ((tu l 0).map gr_R) []
    simp only [List.length_nil] at kA kB
    rw [groupV_ok la hok] at hgood
    rw [groupV_ok la hok, groupV_ok lb (by rw [hall]; exact hok)]
    dsimp only at hgood ⊢
    have hlen := sA.len sB
    refine Ev.pos rfl (Ev.step (fun k => by rw [wimplelaw11_GroupRows.j1]) (Ev.neg (by simp only [List.length_map]; rw [hlen]; simp) ?_))
    refine rows_l1 ⟨hgood, fun s hs => ?_, by rw [List.length_map]; omega, by rw [List.length_map]; omega⟩ _ 0 (Nat.zero_add _)
    obtain ⟨x, hx, rfl⟩ := List.mem_map.1 hs
    obtain ⟨y, hy, e⟩ := sA.one sB hx
    exact List.mem_map.2 ⟨y, hy, e⟩
  · rw [groupV_bad (fun q => hok q.2), groupV_bad (fun q => hok (by rw [← hall]; exact q.2))]
    refine Ev.pos rfl (Ev.step (fun k => by rw [wimplelaw11_GroupRows.j1]) (Ev.neg (by decide) ?_))
    exact Ev.step (fun k => by rw [wimplelaw11_GroupRows.l1]) (Ev.neg (by decide) (Ev.some _ fun _ => rfl))
theorem rows_l0 (l : List S43) (h : l.length ≤ 32) (hs : ∀ x ∈ l, x.f4.size ≤ 9223372036854775000) : ∀ i : Nat, i ≤ l.length → Ev (fun k => wimplelaw11_GroupRows.l0 k l (tu l i) ((i : Int) - 1)) true
  | 0, _ => rows_fin l h hs
  | i + 1, hi => by
    have ih := rows_l0 l h hs i (by omega)
    have hi' : i < l.length := by omega
    refine Ev.step (fun k => by rw [wimplelaw11_GroupRows.l0]) ?_
    have e0 : ((i + 1 : Nat) : Int) - 1 = (i : Int) := by omega
    rw [e0, w64 (by omega) (by omega)]
    refine Ev.pos (by omega) (Ev.pos (by omega) (Ev.pos (by omega) (Ev.call rfl (Ev.pos (by rw [tu_len]; show _ + 2 < _; omega) ?_))))
    have e1 : rd_T43 l (i : Int) = l[i] := by unfold rd_T43; rw [Int.toNat_natCast, getD_lt hi']
    rw [e1]
    have := tu_step l i hi'
    show Ev (fun k => wimplelaw11_GroupRows.l0 k l (tu l (i + 1) ++ [l[i], l[i]]) ((i : Int) - 1)) true
    rw [this]
    exact ih
theorem evz (l0 : List S43) (h : l0.length * Try.prog.bytesOf 43 ≤ 140737488351232 ∧ ∀ x ∈ l0, ok43 x) : Ev (fun k => wimplelaw11_GroupRows.f k l0) true := by
  have hs : ∀ x ∈ l0, x.f4.size ≤ 9223372036854775000 := fun x hx => by have := (h.2 x hx).2.2.2.2; omega
  unfold wimplelaw11_GroupRows.f
  refine Ev.call (g := wimplelaw11_awake.f) rfl (Ev.pos rfl ?_)
  by_cases hl : (l0.length : Int) > 32
  · exact Ev.pos hl (Ev.some _ fun _ => rfl)
  · refine Ev.neg hl ?_
    rw [w64 (by omega) (by omega)]
    have := rows_l0 l0 (by omega) hs l0.length (Nat.le_refl _)
    have e : tu l0 l0.length = [] := by unfold tu; rw [List.drop_length]; rfl
    rw [e] at this
    exact this
end Go.Proofs.Ythlajjcdmhgcmaa.Pure

namespace Go.Proofs.Ythlajjcdmhgcmaa.groupRows
open Go.ChangeShapes Go.WideShapes Go.ChangeAt Go.RowKit Go.Proofs.YthlajjcdmhgcmaaW.PrintWords Go.Proofs.Ythlajjcdmhgcmaa.PGr Go.Proofs.Ythlajjcdmhgcmaa.OpenZd Go.Proofs.Ythlajjcdmhgcmaa.OkzGr
open Go.ChangeMaps (open_string shut_string)
set_option linter.unusedVariables false
theorem own : ownKnob Try.prog.godebug = none := by kernel_rfl
theorem laidOut : laidOutB Try.prog = true := by kernel_rfl
set_option maxRecDepth 100000 in
theorem contract (H : Type) (enc : TypeId × Value → H) (W : World) (base : Nat) (args : Array Value) (ds gs : List (DataW H)) (before : List MemPlace)
    (hval : ∀ (j : Nat) t v, Try.f4.params[j]? = some t → args[j]? = some v → Value.okWide Try.prog W .any base t v)
    (hW : DataW.Whole enc Try.prog Try.f4.params.toList Rows.groupRowsSpec.vars false W args.toList ds gs before) (hsz : (DataW.weightsEach Try.prog (Try.f4.params.toList ++ Rows.groupRowsSpec.plain.varTypes Try.prog) (ds ++ gs)).all (· ≤ reachBytes) = true) :
    Calls Try.prog 4 args W fun e W' => ∃ v, e = .returned v ∧ Rows.groupRowsSpec.post enc Try.prog Try.f4 false true false false W args v W' := by
  have hW' := hW
  obtain ⟨p, q, hA0, hV, rfl, hfz, hnd⟩ := hW
  have hA : DataW.TrodAll enc Try.prog W 0 (fun _ => true) true Try.f4.params.toList args.toList ds p := hA0
  rw [Try.params4] at hA hval hsz
  obtain ⟨v0, vs0, d0, ds0, p0, q0, hargs, rfl, rfl, h0, r0⟩ := trodAll_cons hA
  obtain ⟨rfl, rfl, rfl⟩ := trodAll_nil r0
  obtain rfl : args = #[v0] := by cases args; simp_all
  obtain ⟨rfl, rfl⟩ := trodVars_none hV
  have k0 := h0
  have lt0 : ∀ x ∈ p0, x.block < W.heap.size := by obtain ⟨m, hm⟩ := k0; exact DataW.trod_lt m _ _ _ hm
  obtain ⟨fuel0, hf0⟩ := h0
  have light0 : Light Try.prog 22 d0 := light_each Try.prog hsz (j := 0) rfl rfl
  obtain ⟨A0', n0', c0', rfl⟩ := okWide_slice Try.underlying22 (hval 0 22 v0 rfl rfl)
  obtain ⟨A0, x0, c0, e0, hl0, hC0, o0⟩ := open_slice Try.underlying22 (by kernel_rfl) (opens43 enc W 0 (fun _ => true) true) hf0 light0
  obtain ⟨rfl, rfl, rfl⟩ : A0' = A0 ∧ n0' = x0.length ∧ c0' = c0 := by have e' := List.cons.inj e0; simpa using e'.1
  obtain ⟨k, h⟩ := Ev.rounds (Pure.evz x0 o0)
  clear hA0
  refine (wimplelaw11_GroupRows.calls k A0' c0' x0 true W hC0 hl0 h).mono fun e W' ⟨he, hd⟩ => ?_
  have bel : Below W.heap.size W W' := hd
  subst he
  exact ⟨_, rfl, _, _, _, [], _, [], hW', trodAll_mk1 (shut_bool Try.underlying4 _), (trodAll_cons_mk (Below.trod laidOut (by kernel_rfl) (of_decide_eq_true (by kernel_rfl)) k0 bel lt0) trodAll_mk0), rfl, bel.frame _, fun h => by cases h⟩
set_option maxRecDepth 100000 in
theorem lifted (os : Os) (started : os.Started) (H : Type) (enc : TypeId × Value → H) :
    ReturnsInHanded {} Try.checked os 4 .any (Rows.groupRowsSpec.pre6 enc Try.prog Try.f4 Rows.groupRowsRow.domain false) (Rows.groupRowsSpec.post enc Try.prog Try.f4 false true false false) := by
  refine returnsInHanded_of_change_sized (C := Try.checked) own started (by kernel_rfl) Try.func4
    (ChangeSpec.witness6 (enc := enc) (C := Try.checked) false ⟨#[], #[.slice none 0 0], []⟩ 8 (by kernel_rfl) (by kernel_rfl) (by kernel_rfl) (by kernel_rfl)) ?_
  intro W base args ds gs before hval hW _ hsz _
  exact contract H enc W base args ds gs before hval hW hsz
theorem over : Rows.groupRowsRow.holds Try.pinned (OpenSpec.ofChange Rows.groupRowsSpec) :=
  OpenClaim.holds_of_wide 4 Try.f4 rfl rfl rfl rfl rfl rfl rfl ⟨rfl, rfl, rfl, rfl, rfl⟩ rfl rfl rfl rfl rfl (by kernel_rfl) Try.func4 (by kernel_rfl)
    (of_decide_eq_true (by kernel_rfl)) (by unfold Func.isWrapper; first | (rw [if_pos (by decide +kernel)]; kernel_rfl) | (rw [if_neg (by decide +kernel)]; exact ⟨rfl, rfl⟩))
    (fun os started H enc _ => lifted os started H enc)
end Go.Proofs.Ythlajjcdmhgcmaa.groupRows
namespace Go.Proofs.Ythlajjcdmhgcmaa
theorem groupRows_holds : Rows.GroupRowsSaid := groupRows.over
end Go.Proofs.Ythlajjcdmhgcmaa
