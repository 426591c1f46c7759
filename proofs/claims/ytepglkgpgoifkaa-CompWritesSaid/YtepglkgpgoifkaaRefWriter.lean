/- The document's writer: what it holds; place, Raw, All; what its calls leave as it was. -/
import Derived.Test.YtepglkgpgoifkaaRefThy
import Derived.Test.YtepglkgpgoifkaaWriterKeep
namespace Go.Proofs.Ytepglkgpgoifkaa.Wr
open Go.RowKit Go.PlainAid Go.Maps Go.Proofs.Ytepglkgpgoifkaa.Base Go.Proofs.Ytepglkgpgoifkaa.Oct Go.Proofs.Ytepglkgpgoifkaa.Nm Go.Proofs.YtepglkgpgoifkaaW.PrintWords
set_option linter.unusedVariables false
/-- The cells of rests and places. -/
def mcells : List (ByteArray × Int) → List Value
  | [] => []
  | (r, t) :: ms => .string r :: .int .i64 t :: mcells ms
theorem mcells_app (a b : List (ByteArray × Int)) : mcells (a ++ b) = mcells a ++ mcells b := by
  induction a with
  | nil => rfl
  | cons p a ih => obtain ⟨r, t⟩ := p; simp [mcells, ih]
theorem mcells_len (a : List (ByteArray × Int)) : (mcells a).length = a.length * 2 := by
  induction a with
  | nil => rfl
  | cons p a ih => obtain ⟨r, t⟩ := p; simp [mcells, ih]; omega
theorem mcells_at (a : List (ByteArray × Int)) (j : Nat) (h : j < a.length) : (mcells a)[j * 2]? = some (.string (a.getD j (⟨#[]⟩, 0)).1) ∧ (mcells a)[j * 2 + 1]? = some (.int .i64 (a.getD j (⟨#[]⟩, 0)).2) := by
  induction a generalizing j with
  | nil => cases h
  | cons p a ih =>
    obtain ⟨r, t⟩ := p
    cases j with
    | zero => exact ⟨rfl, rfl⟩
    | succ j =>
      have := ih j (by simpa using h)
      rw [show (j + 1) * 2 = j * 2 + 1 + 1 by omega]
      simpa [mcells] using this
theorem mcells_one (a : List (ByteArray × Int)) : ∀ u ∈ mcells a, u.oneCell' = true := by
  induction a with
  | nil => intro u h; cases h
  | cons p a ih =>
    obtain ⟨r, t⟩ := p
    intro u h
    rcases List.mem_cons.1 h with rfl | h
    · rfl
    · rcases List.mem_cons.1 h with rfl | h
      · rfl
      · exact ih u h
/-- What the document's writer holds: its bytes, the rests and their places. -/
structure Rf (base : Nat) (w : World) (g : Nat) (v : Value) (S : ByteArray) (ms : List (ByteArray × Int)) : Prop where
  gb : base ≤ g
  blk : w.heap[g]? = some (.cells #[.string S, v] 28 (0, 0))
  own : w.ownsRow base 75 2 v ms.length (mcells ms)
  len : S.size ≤ 4096
  few : ms.length ≤ 256 * S.size
/-- What a call on the document's writer leaves as it was. -/
structure Kr (w w' : World) (g : Nat) : Prop where
  size : w.heap.size ≤ w'.heap.size
  block : ∀ k, k < w.heap.size → k ≠ g → (∀ cs, w.heap[k]? ≠ some (.cells cs 75 (0, 0))) → w'.heap[k]? = w.heap[k]?
section
variable {base b' g gm g2 size n : Nat} {v vs v2 : Value} {xs : List Int} {ys : List Value} {m : ByteArray → Option Int} {w w' w1 : World} {e : TypeId} {S : ByteArray} {ms : List (ByteArray × Int)}
theorem Kr.refl (w : World) (g : Nat) : Kr w w g := ⟨Nat.le_refl _, fun _ _ _ _ => rfl⟩
theorem Kr.below (hb : Below w.heap.size w w') : Kr w w' g := ⟨hb.size, fun k hk _ _ => hb.block k hk⟩
theorem Kr.trans (h : Kr w w1 g) (k : Kr w1 w' g) : Kr w w' g :=
  ⟨Nat.le_trans h.size k.size, fun i hi a c => by
    have e := h.block i hi a c
    exact (k.block i (Nat.lt_of_lt_of_le hi h.size) a (fun cs => by rw [e]; exact c cs)).trans e⟩
theorem Rf.base_le (H : Rf base w g v S ms) : base ≤ w.heap.size := Nat.le_trans H.gb (Nat.le_of_lt (blk_lt H.blk))
theorem Rf.below (H : Rf base w g v S ms) (hb : Below w.heap.size w w') : Rf base w' g v S ms := ⟨H.gb, blk_below H.blk hb, pw_own_below H.own hb, H.len, H.few⟩
theorem own_keep (h : w.ownsRow base e size v n ys) (hr : ∀ k, v.ownBlock = some k → w'.heap[k]? = w.heap[k]?) : w'.ownsRow base e size v n ys := by
  refine ⟨h.1, ?_⟩
  rcases h.2 with h2 | ⟨k, cap, cur, rfl, hg, hh, r⟩
  · exact .inl h2
  · exact .inr ⟨k, cap, cur, rfl, hg, (hr k rfl).trans hh, r⟩
theorem Wr.keep (H : Wr base w g gm v xs m) (hg : w'.heap[g]? = w.heap[g]?) (hm : w'.heap[gm]? = w.heap[gm]?) (hr : ∀ k, v.ownBlock = some k → w'.heap[k]? = w.heap[k]?) : Wr base w' g gm v xs m := by
  obtain ⟨n, D, hn, ⟨es, clock, hb, F⟩, ht⟩ := H.map
  exact ⟨H.gb, H.mb, hg.trans H.blk, own_keep H.own hr, ⟨n, D, hn, ⟨es, clock, hm.trans hb, F⟩, ht⟩, H.len⟩
theorem Rf.keep (R : Rf base w g v S ms) (hg : w'.heap[g]? = w.heap[g]?) (hr : ∀ k, v.ownBlock = some k → w'.heap[k]? = w.heap[k]?) : Rf base w' g v S ms :=
  ⟨R.gb, hg.trans R.blk, own_keep R.own hr, R.len, R.few⟩
theorem Wr.map_blk (H : Wr base w g gm v xs m) : ∃ es c, w.heap[gm]? = some (.map es c) := by
  obtain ⟨n, D, hn, ⟨es, clock, hb, F⟩, ht⟩ := H.map
  exact ⟨es, clock, hb⟩
theorem own_lt (h : w.ownsRow base e size v n ys) (k : Nat) (hk : v.ownBlock = some k) : k < w.heap.size := by
  obtain ⟨cells, h⟩ := own_typed h k hk
  exact blk_lt h
/-- The writer beside, behind a call on the document's. -/
theorem Wr.kr (H : Wr base w g gm v xs m) (R : Rf b' w g2 v2 S ms) (K : Kr w w' g2) : Wr base w' g gm v xs m := by
  obtain ⟨es, c, hm⟩ := H.map_blk
  refine H.keep (K.block g (blk_lt H.blk) (blk_ne H.blk R.blk (by decide)) ?_) (K.block gm (blk_lt hm) ?_ ?_) fun k hk => ?_
  · intro cs q; rw [H.blk] at q; injection q with q; injection q with _ q; exact absurd q (by decide)
  · rintro rfl; rw [R.blk] at hm; cases hm
  · intro cs q; rw [hm] at q; cases q
  · obtain ⟨cells, hc⟩ := own_typed H.own k hk
    refine K.block k (blk_lt hc) (blk_ne hc R.blk (by decide)) ?_
    intro cs q; rw [hc] at q; injection q with q; injection q with _ q; exact absurd q (by decide)
/-- The document's writer beside, behind a call on the writer. -/
theorem Rf.kp (R : Rf b' w g2 v2 S ms) (H : Wr base w g gm v xs m) (K : Kp w w' g gm) : Rf b' w' g2 v2 S ms := by
  obtain ⟨es, c, hm⟩ := H.map_blk
  refine R.keep (K.block g2 (blk_lt R.blk) (blk_ne R.blk H.blk (by decide)) ?_ ?_) fun k hk => ?_
  · rintro rfl; rw [R.blk] at hm; cases hm
  · intro cs q; rw [R.blk] at q; injection q with q; injection q with _ q; exact absurd q (by decide)
  · obtain ⟨cells, hc⟩ := own_typed R.own k hk
    refine K.block k (blk_lt hc) (blk_ne hc H.blk (by decide)) ?_ ?_
    · rintro rfl; rw [hc] at hm; cases hm
    · intro cs q; rw [hc] at q; injection q with q; injection q with _ q; exact absurd q (by decide)
theorem rall (R : Rf base w g v S ms) : Calls Try.prog 19 #[ptr g] w fun e w' => e = .returned (.string S) ∧ w' = w := by
  have c0 : w.cell? ⟨g, 0, none⟩ = some (.string S) := (blk_cell R.blk 0).trans rfl
  go_enter Try.func19, Try.ntmps19
  go_wp2
  go_ret
  exact ⟨rfl, rfl⟩
theorem rrawLong (R : Rf base w g v S ms) (s : ByteArray) (hl : 4096 < S.size + s.size) :
    Calls Try.prog 15 #[ptr g, .string s] w fun e w' => e = .returned (.int .i64 501) ∧ w' = w := by
  have c0 : w.cell? ⟨g, 0, none⟩ = some (.string S) := (blk_cell R.blk 0).trans rfl
  have hx := R.len
  have q : decide (4096 - (S.size : Int) < (s.size : Int)) = true := by simp; omega
  go_enter Try.func15, Try.ntmps15
  go_wp2
  go_ret
  exact ⟨rfl, rfl⟩
theorem Rf.stored (R : Rf base w g v S ms) (s : ByteArray) (hs : S.size + s.size ≤ 4096) : Rf base (w.setCell ⟨g, 0, none⟩ (.string (S ++ s))) g v (S ++ s) ms ∧ Below base w (w.setCell ⟨g, 0, none⟩ (.string (S ++ s))) ∧ Kr w (w.setCell ⟨g, 0, none⟩ (.string (S ++ s))) g := by
  refine ⟨⟨R.gb, blk_put R.blk 0 _ rfl, own_setCell R.own (own_ne R.own R.blk (by decide)) _, by rw [ByteArray.size_append]; omega, by rw [ByteArray.size_append]; have := R.few; omega⟩, (Below.refl base w).setCell R.gb _, ⟨by simp [World.setCell], fun k hk h1 h2 => Below.heap_setCell w _ _ k h1⟩⟩
theorem rrawOk (R : Rf base w g v S ms) (s : ByteArray) (hl : S.size + s.size ≤ 4096) :
    Calls Try.prog 15 #[ptr g, .string s] w fun e w' => e = .returned (.int .i64 0) ∧ Rf base w' g v (S ++ s) ms ∧ Below base w w' ∧ Kr w w' g := by
  have c0 : w.cell? ⟨g, 0, none⟩ = some (.string S) := (blk_cell R.blk 0).trans rfl
  have f0 := blk_frozen R.blk 0
  have hx := R.len
  have q : decide (4096 - (S.size : Int) < (s.size : Int)) = false := by simp; omega
  have n1 : ¬ 9223372036854775807 < S.size + s.size := by omega
  go_enter Try.func15, Try.ntmps15
  go_wp2
  go_ret
  exact ⟨rfl, R.stored s hl⟩
/-- Where a rest stands; -1: nowhere. -/
def placeM (ms : List (ByteArray × Int)) (x : ByteArray) : Int := (mOf ms x).getD (-1)
theorem mOf_at (ms : List (ByteArray × Int)) (x : ByteArray) (i : Nat) (h : i < ms.length) : mOf (ms.drop i) x = if (ms.getD i (⟨#[]⟩, 0)).1 = x then some (ms.getD i (⟨#[]⟩, 0)).2 else mOf (ms.drop (i + 1)) x := by
  rw [List.drop_eq_getElem_cons h, List.getD_eq_getElem?_getD, List.getElem?_eq_getElem h]
  rfl
set_option maxHeartbeats 2000000 in
theorem rplace (R : Rf base w g v S ms) (x : ByteArray) : Calls Try.prog 32 #[ptr g, .string x] w fun e w' => e = .returned (.int .i64 (placeM ms x)) ∧ w' = w := by
  have c1 : w.cell? ⟨g, 1, none⟩ = some v := (blk_cell R.blk 1).trans rfl
  have hlen : ms.length ≤ 1048576 := by have := R.len; have := R.few; omega
  obtain ⟨A, c, rfl, hc, hcell⟩ : ∃ A c, v = .slice A ms.length c ∧ ms.length ≤ c ∧ (ms.length = 0 ∨ ∃ k, A = some ⟨k, 0, none⟩ ∧ ∀ j, j < ms.length → w.cell? ⟨k, j * 2, none⟩ = some (.string (ms.getD j (⟨#[]⟩, 0)).1) ∧ w.cell? ⟨k, j * 2 + 1, none⟩ = some (.int .i64 (ms.getD j (⟨#[]⟩, 0)).2)) := by
    have ad : ∀ (k j : Nat), ((⟨k, 0, none⟩ : Addr).add j) = ⟨k, j, none⟩ := by
      intro k j
      unfold Addr.add
      split
      · simp_all
      · simp
    rcases R.own.2 with ⟨rfl, h0⟩ | ⟨k, cap, cur, rfl, hg, hh, hcc⟩
    · exact ⟨none, 0, by simp_all, by simp_all, .inl (by simp_all)⟩
    · refine ⟨_, _, rfl, by obtain ⟨a, b, _⟩ := hcc; omega, .inr ⟨k, rfl, fun j hj => ?_⟩⟩
      have h1 := R.own.cells (g := k) rfl _ _ (mcells_at ms j hj).1
      have h2 := R.own.cells (g := k) rfl _ _ (mcells_at ms j hj).2
      rw [ad] at h1 h2
      exact ⟨h1, h2⟩
  go_enter Try.func32, Try.ntmps32
  go_wp2
  go_loopg [5] (ms.length + 1) (fun k v5 wr => ∃ i : Nat, v5 = .int .i64 i ∧ i + k = ms.length + 1 ∧ i ≤ ms.length ∧ mOf ms x = mOf (ms.drop i) x ∧ wr = w)
  case atStart => exact ⟨0, rfl, by omega, by omega, rfl, rfl⟩
  case round =>
    obtain ⟨i, rfl, hk1, hk2, hf, rfl⟩ := hrel
    have HF := Lib.hid hf
    clear hf
    by_cases hi : i < ms.length
    · have q0 : decide ((i : Int) < (ms.length : Int)) = true := by simp; omega
      obtain ⟨k, rfl, hca⟩ : ∃ k, A = some ⟨k, 0, none⟩ ∧ ∀ j, j < ms.length → wr.cell? ⟨k, j * 2, none⟩ = some (.string (ms.getD j (⟨#[]⟩, 0)).1) ∧ wr.cell? ⟨k, j * 2 + 1, none⟩ = some (.int .i64 (ms.getD j (⟨#[]⟩, 0)).2) := by
        rcases hcell with h | h
        · omega
        · exact h
      have h1 := (hca i hi).1
      have h2 := (hca i hi).2
      have hm := mOf_at ms x i hi
      generalize ms.getD i (⟨#[]⟩, 0) = p at *
      obtain ⟨r, t⟩ := p
      simp only at h1 h2 hm
      have HM := Lib.hid hm
      clear hm hca hcell
      by_cases hr : r = x
      · subst hr
        go_wp2
        go_ret
        have e : placeM ms r = t := by unfold placeM; rw [HF.out, HM.out]; simp
        exact ⟨by rw [e]; rfl, rfl⟩
      · have qx : (r.toList == x.toList) = false := by rw [beq_eq_false_iff_ne]; exact fun e => hr (Pu.toList_inj e)
        go_wp2
        go_roundg (gk - 1)
        case measure => omega
        case rel => exact ⟨i + 1, rfl, by omega, by omega, by rw [HF.out, HM.out, if_neg hr], rfl⟩
    · have q0 : decide ((i : Int) < (ms.length : Int)) = false := by simp; omega
      go_wp2
      go_ret
      obtain rfl : i = ms.length := by omega
      have e : placeM ms x = -1 := by unfold placeM; rw [HF.out, List.drop_length]; rfl
      exact ⟨by rw [e]; rfl, rfl⟩
end
end Go.Proofs.Ytepglkgpgoifkaa.Wr
