/- Names that lie in bytes, compressed: what lies is read; what a writer puts behind lies, and all that it keeps lies where it says. No program but comp.Name's function in sight. -/
import Derived.Test.YtjklgdpffmaamaaProg
import Derived.Below
import Derived.Deep.Draws
import Derived.Deep.AppendLies
import Derived.Maps.AppendAt
import Derived.OwnWalk
import Derived.Laws.BytesArg
import Derived.Laws.MakeOwn
import Derived.Laws.OwnMore
import Derived.Deep.OwnRows
import Derived.Tactics
import Derived.Lib.ConvBytes
import Derived.Laws.Slices
import Derived.WalkKit
import Derived.KernelRfl
import Derived.RowKit3
import Derived.Deep.LoopGhost
import Derived.Deep.QuietTactic
import Derived.BigQuiet
import Derived.WideLaws
import Derived.Deep.DeepCutAuto
import Derived.Deep.CutBlock
import Derived.Deep.RegionHeld3
import Derived.Laws.Rows
import Derived.Lib.AppendStr
import Derived.ArgAppend
import Derived.Laws.IdiomCopy
import Derived.OrdersHeld
import Derived.Laws.BitsLemmas
import Derived.RowKit
import Derived.Test.YtjklgdpffmaamaaSx1
import Derived.Test.YtjklgdpffmaamaaSx2
namespace Go.Proofs.Ytjklgdpffmaamaa.Wr
open Go.RowKit Go.PlainAid Go.Proofs.Ytjklgdpffmaamaa.Base Go.Proofs.Ytjklgdpffmaamaa.Oct Go.Proofs.Ytjklgdpffmaamaa.Nm
set_option linter.unusedVariables false
/-! ### Bytes -/
theorem ext_list (s : ByteArray) (i j : Nat) : (s.extract i j).data.toList = (s.data.toList.take j).drop i := by
  rw [ByteArray.data_extract, Array.toList_extract, List.extract_eq_take_drop, List.drop_take]
theorem ext_of {a b : ByteArray} (h : a.data.toList = b.data.toList) : a = b := ByteArray.ext (Array.ext' h)
theorem app_list (a b : ByteArray) : (a ++ b).data.toList = a.data.toList ++ b.data.toList := by rw [ByteArray.data_append, Array.toList_append]
theorem ext_join (s : ByteArray) (i j k : Nat) (h1 : i ≤ j) (h2 : j ≤ k) : s.extract i j ++ s.extract j k = s.extract i k := by
  apply ext_of
  rw [app_list, ext_list, ext_list, ext_list]
  generalize s.data.toList = l
  rw [← List.take_append_drop (j - i) ((l.take k).drop i), List.drop_drop, List.take_drop, List.take_take, show min (i + (j - i)) k = j by omega, show i + (j - i) = j by omega]
theorem ext_left (a b : ByteArray) (i j : Nat) (h : j ≤ a.size) : (a ++ b).extract i j = a.extract i j := by
  apply ext_of
  rw [ext_list, ext_list, app_list, List.take_append_of_le_length (by rw [len_data]; exact h)]
theorem ext_right (a b : ByteArray) (k : Nat) : (a ++ b).extract a.size (a.size + k) = b.extract 0 k := by
  apply ext_of
  rw [ext_list, ext_list, app_list]
  rw [List.take_append, len_data, List.drop_append, List.length_take, len_data, List.drop_eq_nil_of_le (by rw [List.length_take, len_data]; omega), show min (a.size + k) a.size = a.size by omega, show a.size - a.size = 0 by omega, show a.size + k - a.size = k by omega]
  simp
theorem ext_root {s : ByteArray} {p : Nat} (h : p + 1 = s.size) (h0 : bt s p = 0) : s.extract p s.size = root := by
  have hb := bt_data s p
  rw [h0] at hb
  have hl := len_data s
  apply ext_of
  rw [ext_list, ← h, List.take_of_length_le (by omega), List.drop_eq_getElem_cons (by omega), List.drop_eq_nil_of_le (by omega)]
  rw [List.getD_eq_getElem?_getD, List.getElem?_eq_getElem (by omega)] at hb
  have : (s.data.toList[p]'(by omega)).toNat = 0 := by simpa using hb.symm
  have : s.data.toList[p]'(by omega) = 0 := UInt8.toNat_inj.1 this
  rw [this]
/-! ### Names that lie in bytes -/
inductive Lies (S : ByteArray) : Nat → ByteArray → Nat → Nat → Prop
  | fin (bg i : Nat) (h : i < S.size) (h0 : bt S i = 0) : Lies S bg root i (i + 1)
  | lab (bg i k : Nat) (r : ByteArray) (nx : Nat) (hb : bt S i = (k : Int)) (h0 : 1 ≤ k) (h1 : k ≤ 63) (h : i + 1 + k ≤ S.size) (ih : Lies S bg r (i + 1 + k) nx) : Lies S bg (S.extract i (i + 1 + k) ++ r) i nx
  | ptr (bg i b c tg : Nat) (r : ByteArray) (nx : Nat) (hb : bt S i = (b : Int)) (hc : bt S (i + 1) = (c : Int)) (h0 : 192 ≤ b) (ht : tg = (b - 192) * 256 + c) (hlt : tg < bg) (h : i + 1 < S.size) (ih : Lies S tg r tg nx) : Lies S bg r i (i + 2)
theorem Lies.more {S : ByteArray} (T : ByteArray) {bg : Nat} {r : ByteArray} {i nx : Nat} (h : Lies S bg r i nx) : Lies (S ++ T) bg r i nx := by
  have z : (S ++ T).size = S.size + T.size := ByteArray.size_append
  induction h with
  | fin bg i h h0 => exact .fin bg i (by omega) (by rw [bt_append_left _ _ _ h]; exact h0)
  | lab bg i k r nx hb h0 h1 h _ ih =>
    have := Lies.lab (S := S ++ T) bg i k r nx (by rw [bt_append_left _ _ _ (by omega)]; exact hb) h0 h1 (by omega) ih
    rwa [ext_left _ _ _ _ h] at this
  | ptr bg i b c tg r nx hb hc h0 ht hlt h _ ih =>
    exact .ptr bg i b c tg r nx (by rw [bt_append_left _ _ _ (by omega)]; exact hb) (by rw [bt_append_left _ _ _ (by omega)]; exact hc) h0 ht hlt (by omega) ih
theorem Lies.wide {S : ByteArray} {bg bg' : Nat} {r : ByteArray} {i nx : Nat} (h : Lies S bg r i nx) (hb : bg ≤ bg') : Lies S bg' r i nx := by
  induction h generalizing bg' with
  | fin bg i h h0 => exact .fin bg' i h h0
  | lab bg i k r nx hb' h0 h1 h _ ih => exact .lab bg' i k r nx hb' h0 h1 h (ih hb)
  | ptr bg i b c tg r nx hb' hc h0 ht hlt h ih _ => exact .ptr bg' i b c tg r nx hb' hc h0 ht (by omega) h ih
theorem Lies.lt {S : ByteArray} {bg : Nat} {r : ByteArray} {i nx : Nat} (h : Lies S bg r i nx) : i < S.size := by
  cases h <;> omega
theorem Lies.pos {S : ByteArray} {bg : Nat} {r : ByteArray} {i nx : Nat} (h : Lies S bg r i nx) : 1 ≤ r.size := by
  induction h with
  | fin => decide
  | lab bg i k r nx _ _ _ _ _ ih => rw [ByteArray.size_append]; omega
  | ptr _ _ _ _ _ _ _ _ _ _ _ _ _ _ ih => exact ih
/-! ### What lies is read -/
section
open Go.Proofs.Ytjklgdpffmaamaa.PCm Go.Proofs.Ytjklgdpffmaamaa.CompS Go.Proofs.Ytjklgdpffmaamaa.Pu
open Go.Proofs.YtjklgdpffmaamaaW.PrintWords (bytesOf bytesOf_length Ev)
theorem bt_is (s : ByteArray) (i : Nat) : Go.Proofs.YtjklgdpffmaamaaW.PrintWords.bt s (i : Int) = bt s i := by
  rw [bt_bytes, bt_data, List.getD_eq_getElem?_getD, List.getD_eq_getElem?_getD, bytesOf, List.getElem?_map]
  cases s.data.toList[i]? <;> rfl
theorem Lies.read {S : ByteArray} (hS : S.size ≤ 1000000) {bg : Nat} {r : ByteArray} {i nx : Nat} (h : Lies S bg r i nx) : ∀ (out : List Int) (bh : Int), out.length + r.size ≤ 255 →
    Ev (fun k => comp_Name.l0 k S (i : Int) out (bg : Int) bh) (strOfNums (out ++ bytesOf r), (if bh < 0 then (nx : Int) else bh), 0) := by
  induction h with
  | fin bg i h h0 =>
    intro out bh ho
    have z : root.size = 1 := rfl
    have hb := bt_is S i
    rw [h0] at hb
    refine Ev.step (fun k => by rw [comp_Name.l0]) (Ev.pos (by omega) ?_)
    rw [decide_eq_true (show (out.length : Int) < 255 by omega)]
    refine Ev.step (fun k => by rw [comp_Name.j1]) (Ev.pos rfl (Ev.pos (by omega) (Ev.pos (by omega) ?_)))
    rw [hb]
    refine Ev.pos (Pu.w64 (by decide) (by decide)) ?_
    rw [show bytesOf root = [0] by decide +kernel]
    by_cases hbh : bh < 0
    · refine Ev.pos hbh (Ev.pos (by omega) ?_)
      rw [if_pos hbh, Pu.w64 (x := (i : Int) + 1) (by omega) (by omega)]
      exact Ev.some _ fun _ => rfl
    · refine Ev.neg hbh (Ev.pos (by omega) ?_)
      rw [if_neg hbh]
      exact Ev.some _ fun _ => rfl
  | lab bg i k r nx hb h0 h1 h hr ih =>
    intro out bh ho
    have z : (S.extract i (i + 1 + k)).size = k + 1 := by rw [ByteArray.size_extract]; omega
    rw [ByteArray.size_append, z] at ho
    have hp := hr.pos
    refine l_lab (b := (k : Int)) hS (by omega) (by omega) ((bt_is S i).trans hb) (by omega) (by omega) (by omega) ?_
    have e : ((i : Int) + 1 + (k : Int)) = ((i + 1 + k : Nat) : Int) := by omega
    rw [e]
    have := ih (out ++ bytesOf (S.extract i (i + 1 + k))) bh (by rw [List.length_append, bytesOf_length, z]; omega)
    rw [bytesOf_append, ← List.append_assoc]
    exact this
  | ptr bg i b c tg r nx hb hc h0 ht hlt h hr ih =>
    intro out bh ho
    have hp := hr.pos
    have hb' := (bt_is S i).trans hb
    have hc' := (bt_is S (i + 1)).trans hc
    have r1 := Go.Proofs.YtjklgdpffmaamaaW.PrintWords.bt_range S (i : Int)
    have r2 := Go.Proofs.YtjklgdpffmaamaaW.PrintWords.bt_range S ((i : Int) + 1)
    have e1 : ((i + 1 : Nat) : Int) = (i : Int) + 1 := by omega
    rw [e1] at hc'
    rw [hb'] at r1
    rw [hc'] at r2
    have hto : Go.bits .or .i64 (wrap64 ((Go.bits .and .i64 (b : Int) 63) * 256)) (wrap64 (c : Int)) = (tg : Int) := by
      rw [to_eq (by omega) r1.2 r2.1 r2.2, ht]; omega
    refine l_go (b := (b : Int)) (by omega) (by omega) (by omega) hb' (by omega) (fun h => by omega) (fun _ => ?_)
    refine Ev.step (fun k => by rw [comp_Name.j2]) (Ev.neg (by simp) (Ev.pos (by omega) ?_))
    rw [Pu.w64 (x := (i : Int) + 1) (by omega) (by omega), decide_eq_true (show (i : Int) + 1 < (S.size : Int) by omega)]
    refine Ev.step (fun k => by rw [comp_Name.j3]) (Ev.pos rfl ?_)
    rw [Pu.w64 (x := (i : Int) + 1) (by omega) (by omega)]
    refine Ev.pos (by omega) (Ev.pos (by omega) (Ev.neg ?_ ?_))
    · rw [hc', hto]; omega
    · rw [hc', hto]
      by_cases hbh : bh < 0
      · refine Ev.pos hbh ?_
        rw [if_pos hbh, Pu.w64 (x := (i : Int) + 2) (by omega) (by omega)]
        have := ih out ((i : Int) + 2) ho
        rw [if_neg (by omega)] at this
        exact this
      · refine Ev.neg hbh ?_
        rw [if_neg hbh]
        have := ih out bh ho
        rw [if_neg hbh] at this
        exact this
theorem Lies.name {S : ByteArray} (hS : S.size ≤ 1000000) {r : ByteArray} {i nx : Nat} (h : Lies S i r i nx) (hr : r.size ≤ 255) : Ev (fun k => comp_Name.f k S (i : Int)) (r, (nx : Int), 0) := by
  have := h.read hS [] (-1) (by simpa using hr)
  rw [List.nil_append, nums_bytesOf, if_pos (by decide)] at this
  exact f_at this
end
/-! ### What a writer puts behind lies -/
/-- All that is kept lies where it is said to. -/
def Known (S : ByteArray) (m : ByteArray → Option Int) : Prop := ∀ r t, m r = some t → ∃ i nx : Nat, t = (i : Int) ∧ i < 16384 ∧ Lies S i r i nx
/-- The rest of what is put behind, from a place on. -/
def tailN (s : ByteArray) (p : Nat) : Option (Nat × Nat × Int) → ByteArray
  | some (_, q, t) => s.extract p q ++ p16 (Go.bits .or .i64 49152 t)
  | none => s.extract p s.size
def wroteF (i n : Nat) : Option (Nat × Nat × Int) → Nat
  | some (j, _, _) => j - i
  | none => n
theorem p16_ptr (t : Nat) (ht : t < 16384) : bt (p16 (Go.bits .or .i64 49152 (t : Int))) 0 = ((192 + t / 256 : Nat) : Int) ∧ bt (p16 (Go.bits .or .i64 49152 (t : Int))) 1 = ((t % 256 : Nat) : Int) := by
  have e : Go.bits .or .i64 49152 (t : Int) = 49152 + (t : Int) := by
    have := Pu.or_shl 14 (by decide) 3 (t : Int) (by decide) (by omega) (by omega) (by omega)
    simpa using this
  rw [e]
  unfold p16
  constructor
  · rw [bt_nums _ 0 ((49152 + (t : Int)) / 256 % 256) (by rfl) (by omega) (by omega)]; omega
  · rw [bt_nums _ 1 ((49152 + (t : Int)) % 256) (by rfl) (by omega) (by omega)]; omega
theorem find_ge (m : ByteArray → Option Int) (s : ByteArray) : ∀ (ps : List Nat) (i j p : Nat) (t : Int), findP m s ps i = some (j, p, t) → i ≤ j ∧ m (s.extract p s.size) = some t := by
  intro ps
  induction ps with
  | nil => intro i j p t h; cases h
  | cons a ps ih =>
    intro i j p t h
    rw [findP] at h
    cases hm : m (s.extract a s.size) with
    | none => rw [hm] at h; have := ih _ _ _ _ h; exact ⟨by omega, this.2⟩
    | some u =>
      rw [hm] at h
      injection h with h
      injection h with h1 h
      injection h with h2 h3
      subst h2; subst h3
      exact ⟨by omega, hm⟩
theorem placesAt_ge (s : ByteArray) : ∀ n i, s.size - i ≤ n → ∀ p ∈ placesAt s i, i ≤ p := by
  intro n
  induction n with
  | zero => intro i h p hp; rw [placesAt, if_neg (by omega)] at hp; cases hp
  | succ n ih =>
    intro i h p hp
    rw [placesAt] at hp
    by_cases hi : i < s.size
    · rw [if_pos hi] at hp
      rcases List.mem_cons.1 hp with rfl | hp
      · exact Nat.le_refl _
      · by_cases h0 : PlainAid.bt s i = 0
        · rw [if_pos h0] at hp; cases hp
        · rw [if_neg h0] at hp
          by_cases h1 : 63 < PlainAid.bt s i
          · rw [if_pos h1] at hp; cases hp
          · rw [if_neg h1] at hp
            have := ih (i + 1 + (PlainAid.bt s i).toNat) (by omega) p hp
            omega
    · rw [if_neg hi] at hp; cases hp
theorem put_lies {S s : ByteArray} {m : ByteArray → Option Int} (hm : Known S m) (bg : Nat) (hbg : S.size ≤ bg) : ∀ (n p i : Nat), s.size - p ≤ n → nameAt s p = true → ∀ T : ByteArray, (∃ U, T = S ++ U) →
    (tailN s p (findP m s (placesAt s p).dropLast i)).size + p ≤ s.size ∧
    Lies (T ++ tailN s p (findP m s (placesAt s p).dropLast i)) bg (s.extract p s.size) T.size (T ++ tailN s p (findP m s (placesAt s p).dropLast i)).size ∧
    ∀ q ∈ (placesAt s p).dropLast.take (wroteF i (placesAt s p).dropLast.length (findP m s (placesAt s p).dropLast i)), Lies (T ++ tailN s p (findP m s (placesAt s p).dropLast i)) bg (s.extract q s.size) (T.size + (q - p)) (T ++ tailN s p (findP m s (placesAt s p).dropLast i)).size := by
  intro n
  induction n with
  | zero => intro p i h hn; rw [nameAt_out (by omega)] at hn; cases hn
  | succ n ih =>
    intro p i h hn T hT
    have hp : p < s.size := by
      by_cases h : p < s.size
      · exact h
      · rw [nameAt_out (by omega)] at hn; cases hn
    by_cases h0 : bt s p = 0
    · rw [nameAt_end hp h0] at hn
      have he : p + 1 = s.size := by simpa using hn
      have er := ext_root he h0
      rw [placesAt_end hp h0]
      show (s.extract p s.size).size + p ≤ s.size ∧ Lies (T ++ s.extract p s.size) bg (s.extract p s.size) T.size (T ++ s.extract p s.size).size ∧ _
      rw [er]
      have z : (T ++ root).size = T.size + 1 := by rw [ByteArray.size_append]; rfl
      refine ⟨by show 1 + p ≤ s.size; omega, ?_, fun q hq => by simp at hq⟩
      rw [z]
      exact .fin bg T.size (by omega) (by rw [bt_append_right _ _ _ (by omega), Nat.sub_self]; exact root_bt)
    · have h63 : bt s p ≤ 63 := by
        by_cases h1 : 63 < bt s p
        · rw [nameAt_bad hp h1] at hn; cases hn
        · omega
      rw [nameAt_next hp h0 h63] at hn
      obtain ⟨k, hk⟩ : ∃ k : Nat, bt s p = (k : Int) := ⟨(bt s p).toNat, by have := bt_nonneg s p; omega⟩
      have hk0 : 1 ≤ k := by omega
      rw [hk, Int.toNat_natCast] at hn
      have hq : p + 1 + k < s.size := by
        by_cases h : p + 1 + k < s.size
        · exact h
        · rw [nameAt_out (by omega)] at hn; cases hn
      have hd : (placesAt s p).dropLast = p :: (placesAt s (p + 1 + k)).dropLast := by
        rw [placesAt_next hp h0 h63, hk, Int.toNat_natCast, List.dropLast_cons_of_ne_nil (places_ne _ _ hn)]
      rw [hd]
      cases hmp : m (s.extract p s.size) with
      | some t =>
        obtain ⟨tg, nx, rfl, hto, hl⟩ := hm _ _ hmp
        have ef : findP m s (p :: (placesAt s (p + 1 + k)).dropLast) i = some (i, p, (tg : Int)) := by rw [findP, hmp]
        rw [ef]
        obtain ⟨U, rfl⟩ := hT
        have e : tailN s p (some (i, p, (tg : Int))) = p16 (Go.bits .or .i64 49152 (tg : Int)) := by
          show s.extract p p ++ _ = _
          simp
        rw [e]
        have z : (S ++ U ++ p16 (Go.bits .or .i64 49152 (tg : Int))).size = (S ++ U).size + 2 := by rw [ByteArray.size_append, p16_size]
        have zS : S.size ≤ (S ++ U).size := by rw [ByteArray.size_append]; omega
        have hpt := p16_ptr tg hto
        refine ⟨by rw [p16_size]; omega, ?_, fun q hq => by simp [wroteF] at hq⟩
        rw [z]
        refine .ptr bg (S ++ U).size (192 + tg / 256) (tg % 256) tg _ nx ?_ ?_ (by omega) (by omega) (by have := hl.lt; omega) (by omega) ?_
        · rw [bt_append_right _ _ _ (by omega), Nat.sub_self]; exact hpt.1
        · rw [bt_append_right _ _ _ (by omega), Nat.add_sub_cancel_left]; exact hpt.2
        · rw [ByteArray.append_assoc]; exact hl.more _
      | none =>
        have ef : findP m s (p :: (placesAt s (p + 1 + k)).dropLast) i = findP m s (placesAt s (p + 1 + k)).dropLast (i + 1) := by rw [findP, hmp]
        rw [ef]
        have IH := ih (p + 1 + k) (i + 1) (by omega) hn (T ++ s.extract p (p + 1 + k)) (by obtain ⟨U, rfl⟩ := hT; exact ⟨U ++ s.extract p (p + 1 + k), by rw [ByteArray.append_assoc]⟩)
        have hge : ∀ j q t, findP m s (placesAt s (p + 1 + k)).dropLast (i + 1) = some (j, q, t) → p + 1 + k ≤ q ∧ i + 1 ≤ j := fun j q t hf =>
          ⟨placesAt_ge s _ _ (Nat.le_refl _) q (List.dropLast_subset _ ((find_le m s _ _ _ _ _ hf).2)), (find_ge m s _ _ _ _ _ hf).1⟩
        generalize findP m s (placesAt s (p + 1 + k)).dropLast (i + 1) = f at IH hge ⊢
        have ze : (s.extract p (p + 1 + k)).size = 1 + k := by rw [ByteArray.size_extract]; omega
        have et : tailN s p f = s.extract p (p + 1 + k) ++ tailN s (p + 1 + k) f := by
          match f, hge with
          | none, _ => exact (ext_join s p (p + 1 + k) s.size (by omega) (by omega)).symm
          | some (j, q, t), hge =>
            show s.extract p q ++ _ = s.extract p (p + 1 + k) ++ (s.extract (p + 1 + k) q ++ _)
            rw [← ByteArray.append_assoc, ext_join s p (p + 1 + k) q (by omega) (hge j q t rfl).1]
        rw [et, ← ByteArray.append_assoc]
        have zT : (T ++ s.extract p (p + 1 + k)).size = T.size + 1 + k := by rw [ByteArray.size_append, ze]; omega
        obtain ⟨i1, i2, i3⟩ := IH
        rw [zT] at i2 i3
        have L : Lies (T ++ s.extract p (p + 1 + k) ++ tailN s (p + 1 + k) f) bg (s.extract p s.size) T.size (T ++ s.extract p (p + 1 + k) ++ tailN s (p + 1 + k) f).size := by
          have b0 : bt (T ++ s.extract p (p + 1 + k) ++ tailN s (p + 1 + k) f) T.size = (k : Int) := by
            rw [ByteArray.append_assoc, bt_append_right _ _ _ (by omega), Nat.sub_self, bt_append_left _ _ _ (by omega)]
            have : bt (s.extract p (p + 1 + k)) 0 = bt s p := by
              rw [bt_data, bt_data, ext_list, List.getD_eq_getElem?_getD, List.getD_eq_getElem?_getD, List.getElem?_drop, List.getElem?_take_of_lt (by omega), Nat.add_zero]
            rw [this, hk]
          have := Lies.lab bg T.size k (s.extract (p + 1 + k) s.size) _ b0 hk0 (by omega) (by rw [ByteArray.size_append, zT]; omega) i2
          rw [ByteArray.append_assoc, show T.size + 1 + k = T.size + (1 + k) by omega, ext_right T _ (1 + k), ext_left _ _ _ _ (by omega)] at this
          rw [show (s.extract p (p + 1 + k)).extract 0 (1 + k) = s.extract p (p + 1 + k) by have := ext0 (s.extract p (p + 1 + k)); rwa [ze] at this, ext_join s p (p + 1 + k) s.size (by omega) (by omega), ← ByteArray.append_assoc] at this
          exact this
        refine ⟨by rw [ByteArray.size_append, ze]; omega, L, fun q hq => ?_⟩
        have hw : wroteF i (p :: (placesAt s (p + 1 + k)).dropLast).length f = wroteF (i + 1) (placesAt s (p + 1 + k)).dropLast.length f + 1 := by
          match f, hge with
          | none, _ => rfl
          | some (j, q, t), hge => have := (hge j q t rfl).2; show j - i = j - (i + 1) + 1; omega
        rw [hw, List.take_succ_cons] at hq
        rcases List.mem_cons.1 hq with rfl | hq
        · rw [Nat.sub_self, Nat.add_zero]; exact L
        · have h3 := i3 q hq
          have := placesAt_ge s _ _ (Nat.le_refl _) q (List.dropLast_subset _ (List.mem_of_mem_take hq))
          rw [show T.size + (q - p) = T.size + 1 + k + (q - (p + 1 + k)) by omega]
          exact h3
theorem putK_inv (s x : ByteArray) (at0 : Nat) (t : Int) : ∀ (ps : List Nat) (m : ByteArray → Option Int), putK m s at0 ps x = some t → m x = some t ∨ ∃ p ∈ ps, x = s.extract p s.size ∧ t = (at0 : Int) + p := by
  intro ps
  induction ps with
  | nil => intro m h; exact .inl h
  | cons p ps ih =>
    intro m h
    rcases ih _ h with h | ⟨q, hq, h⟩
    · replace h : (if x = s.extract p s.size then some ((at0 : Int) + p) else m x) = some t := h
      by_cases e : x = s.extract p s.size
      · rw [if_pos e] at h
        injection h with h
        exact .inr ⟨p, List.mem_cons_self .., e, h.symm⟩
      · rw [if_neg e] at h; exact .inl h
    · exact .inr ⟨q, List.mem_cons_of_mem _ hq, h⟩
/-- Behind a name that was put: it lies where the bytes ended, all that is kept lies; it is no longer than it is. -/
theorem put_known {S s : ByteArray} {m : ByteArray → Option Int} (hm : Known S m) (hs : nameB s = true) (hz : S.size + s.size < 16384) :
    (outN m s).size ≤ s.size ∧ Lies (S ++ outN m s) S.size s S.size (S ++ outN m s).size ∧ Known (S ++ outN m s) (putN m s S.size) := by
  obtain ⟨h1, h2, h3⟩ := name_first hs
  have eo : outN m s = tailN s 0 (findP m s (placesAt s 0).dropLast 0) := by
    unfold outN heads places
    cases findP m s (placesAt s 0).dropLast 0 with
    | none => show s = s.extract 0 s.size; rw [ext0]
    | some r => obtain ⟨i, p, t⟩ := r; rfl
  have ew : wroteN m s = wroteF 0 (placesAt s 0).dropLast.length (findP m s (placesAt s 0).dropLast 0) := by
    unfold wroteN heads places
    cases findP m s (placesAt s 0).dropLast 0 with
    | none => rfl
    | some r => obtain ⟨i, p, t⟩ := r; rfl
  have H := put_lies hm S.size (Nat.le_refl _) s.size 0 0 (by omega) h3 S ⟨⟨#[]⟩, by apply ext_of; rw [app_list]; simp⟩
  rw [← eo, ← ew, ext0] at H
  refine ⟨by have := H.1; omega, H.2.1, fun r t hr => ?_⟩
  rcases putK_inv s r S.size t _ _ hr with hr | ⟨p, hp, rfl, rfl⟩
  · obtain ⟨i, nx, e, hi, hl⟩ := hm r t hr
    exact ⟨i, nx, e, hi, hl.more _⟩
  · have hl := H.2.2 p hp
    have hps := placesAt_mem s _ 0 (Nat.le_refl _) p (List.dropLast_subset _ (List.mem_of_mem_take hp))
    rw [Nat.sub_zero] at hl
    exact ⟨S.size + p, _, by omega, by omega, hl.wide (by omega)⟩
end Go.Proofs.Ytjklgdpffmaamaa.Wr

namespace Go.Proofs.Ytjklgdpffmaamaa.Hd
open Go.RowKit Go.PlainAid Go.Proofs.Ytjklgdpffmaamaa.Base Go.Proofs.Ytjklgdpffmaamaa.Oct
set_option linter.unusedVariables false

def bi (b : Bool) : Int := bif b then 1 else 0
theorem bi_bd (b : Bool) : 0 ≤ bi b ∧ bi b ≤ 1 := by cases b <;> decide
theorem bi_inj (b : Bool) : (bi b == 1) = b := by cases b <;> rfl
theorem bw15 (b : Bool) : bitW b 15 = 32768 * bi b := by cases b <;> rfl
theorem bw10 (b : Bool) : bitW b 10 = 1024 * bi b := by cases b <;> rfl
theorem bw9 (b : Bool) : bitW b 9 = 512 * bi b := by cases b <;> rfl
theorem bw8 (b : Bool) : bitW b 8 = 256 * bi b := by cases b <;> rfl
theorem bw7 (b : Bool) : bitW b 7 = 128 * bi b := by cases b <;> rfl
theorem orj (i : Nat) (x y : Int) (hx : 0 ≤ x) (hm : x % 2 ^ i = 0) (hx1 : x < 9223372036854775808) (hy : 0 ≤ y) (hy1 : y < 2 ^ i) (hy2 : y < 9223372036854775808) : Go.bits .or .i64 x y = x + y :=
  bits_join .i64 63 (by decide) wraps_i64 i x y hx hm (by omega) hy hy1 (by omega)
def Head.sum (h : Head) : Int := 32768 * bi h.qr + 2048 * h.op + 1024 * bi h.aa + 512 * bi h.tc + 256 * bi h.rd + 128 * bi h.ra + 16 * h.z + h.rc
theorem flags_sum (h : Head) (a0 : 0 ≤ h.op) (a1 : h.op ≤ 15) (a2 : 0 ≤ h.z) (a3 : h.z ≤ 7) (a4 : 0 ≤ h.rc) (a5 : h.rc ≤ 15) : h.flagsN = h.sum := by
  have b0 := bi_bd h.qr; have b1 := bi_bd h.aa; have b2 := bi_bd h.tc; have b3 := bi_bd h.rd; have b4 := bi_bd h.ra
  unfold Head.flagsN Head.sum
  rw [bw15, bw10, bw9, bw8, bw7]
  rw [orj 15 (32768 * bi h.qr) (h.op * 2048) (by omega) (by omega) (by omega) (by omega) (by omega) (by omega)]
  rw [orj 11 _ (1024 * bi h.aa) (by omega) (by omega) (by omega) (by omega) (by omega) (by omega)]
  rw [orj 10 _ (512 * bi h.tc) (by omega) (by omega) (by omega) (by omega) (by omega) (by omega)]
  rw [orj 9 _ (256 * bi h.rd) (by omega) (by omega) (by omega) (by omega) (by omega) (by omega)]
  rw [orj 8 _ (128 * bi h.ra) (by omega) (by omega) (by omega) (by omega) (by omega) (by omega)]
  rw [orj 7 _ (h.z * 16) (by omega) (by omega) (by omega) (by omega) (by omega) (by omega)]
  rw [orj 4 _ h.rc (by omega) (by omega) (by omega) (by omega) (by omega) (by omega)]
  omega
theorem and15 (x : Int) : Go.bits .and .i64 x 15 = x % 16 := and_mask 4 (by decide) x
theorem and7 (x : Int) : Go.bits .and .i64 x 7 = x % 8 := and_mask 3 (by decide) x

/-! ### Bytes -/
theorem be2_left (s t : ByteArray) (i : Nat) (h : i + 2 ≤ s.size) : be2 (s ++ t) i = be2 s i := by
  unfold be2; rw [bt_append_left _ _ _ (by omega), bt_append_left _ _ _ (by omega)]
theorem be2_right (s t : ByteArray) (i : Nat) (h : s.size ≤ i) : be2 (s ++ t) i = be2 t (i - s.size) := by
  unfold be2; rw [bt_append_right _ _ _ (by omega), bt_append_right _ _ _ (by omega), show i + 1 - s.size = i - s.size + 1 by omega]
theorem be2_p16 (x : Int) (h0 : 0 ≤ x) (h1 : x ≤ 65535) : be2 (p16 x) 0 = x := by
  unfold be2 p16
  rw [bt_nums _ 0 (x / 256 % 256) rfl (by omega) (by omega), bt_nums _ 1 (x % 256) rfl (by omega) (by omega)]
  omega
theorem putS_size (h : Head) (a b c d : Int) : (h.putS a b c d).size = 12 := by
  simp [Head.putS, ByteArray.size_append, p16_size]
/-- Two bytes, then the rest. -/
theorem be2_at (s t : ByteArray) (x : Int) (i : Nat) (hs : s.size = i) (h0 : 0 ≤ x) (h1 : x ≤ 65535) : be2 (s ++ p16 x ++ t) i = x := by
  subst hs
  rw [be2_left _ _ _ (by rw [ByteArray.size_append, p16_size]; omega), be2_right _ _ _ (by omega), Nat.sub_self, be2_p16 x h0 h1]
theorem flagsW_sum (h : Head) (hk : h.ok) : h.flagsW = h.sum := by
  obtain ⟨_, k1, k2, k3⟩ := hk
  rw [flags_eq h k1.1 k1.2 k3.1 k3.2, flags_sum h k1.1 k1.2 k3.1 k3.2 k2.1 k2.2]
theorem sum_bd (h : Head) (hk : h.ok) : 0 ≤ h.sum ∧ h.sum ≤ 65535 := by
  obtain ⟨_, k1, k2, k3⟩ := hk
  have b0 := bi_bd h.qr; have b1 := bi_bd h.aa; have b2 := bi_bd h.tc; have b3 := bi_bd h.rd; have b4 := bi_bd h.ra
  unfold Head.sum; omega
theorem bitB_of (f k : Int) (p : Int) (b : Bool) (hp : bitB f k = (Go.bits .and .i64 (f / p) 1 == 1)) (h : f / p % 2 = bi b) : bitB f k = b := by
  rw [hp, and_1, h]; exact bi_inj b
theorem back (h : Head) (a b c d : Int) (t : ByteArray) (hm : mayB h a b c d = true) : gotH (h.putS a b c d ++ t) = h ∧ gotC (h.putS a b c d ++ t) 4 = a ∧ gotC (h.putS a b c d ++ t) 6 = b ∧ gotC (h.putS a b c d ++ t) 8 = c ∧ gotC (h.putS a b c d ++ t) 10 = d ∧ gotE (h.putS a b c d ++ t) = 0 := by
  obtain ⟨⟨h0, h1, h2, h3⟩, hk⟩ := of_decide_eq_true hm
  have hz : 12 ≤ (h.putS a b c d ++ t).size := by rw [ByteArray.size_append, putS_size]; omega
  have hf := flagsW_sum h hk
  have hb := sum_bd h hk
  rw [gotH_yes hz, gotC_yes hz, gotC_yes hz, gotC_yes hz, gotC_yes hz, gotE_yes hz]
  have e0 : be2 (h.putS a b c d ++ t) 0 = h.id := by
    unfold Head.putS
    rw [show p16 h.id ++ p16 h.flagsW ++ p16 a ++ p16 b ++ p16 c ++ p16 d ++ t = ByteArray.empty ++ p16 h.id ++ (p16 h.flagsW ++ p16 a ++ p16 b ++ p16 c ++ p16 d ++ t) by simp [ByteArray.append_assoc]]
    exact be2_at _ _ _ _ rfl hk.1.1 hk.1.2
  have e2 : be2 (h.putS a b c d ++ t) 2 = h.sum := by
    unfold Head.putS
    rw [show p16 h.id ++ p16 h.flagsW ++ p16 a ++ p16 b ++ p16 c ++ p16 d ++ t = p16 h.id ++ p16 h.flagsW ++ (p16 a ++ p16 b ++ p16 c ++ p16 d ++ t) by simp [ByteArray.append_assoc], hf]
    exact be2_at _ _ _ _ (p16_size _) hb.1 hb.2
  have e4 : be2 (h.putS a b c d ++ t) 4 = a := by
    unfold Head.putS
    rw [show p16 h.id ++ p16 h.flagsW ++ p16 a ++ p16 b ++ p16 c ++ p16 d ++ t = (p16 h.id ++ p16 h.flagsW) ++ p16 a ++ (p16 b ++ p16 c ++ p16 d ++ t) by simp [ByteArray.append_assoc]]
    exact be2_at _ _ _ _ (by simp [ByteArray.size_append, p16_size]) h0.1 h0.2
  have e6 : be2 (h.putS a b c d ++ t) 6 = b := by
    unfold Head.putS
    rw [show p16 h.id ++ p16 h.flagsW ++ p16 a ++ p16 b ++ p16 c ++ p16 d ++ t = (p16 h.id ++ p16 h.flagsW ++ p16 a) ++ p16 b ++ (p16 c ++ p16 d ++ t) by simp [ByteArray.append_assoc]]
    exact be2_at _ _ _ _ (by simp [ByteArray.size_append, p16_size]) h1.1 h1.2
  have e8 : be2 (h.putS a b c d ++ t) 8 = c := by
    unfold Head.putS
    rw [show p16 h.id ++ p16 h.flagsW ++ p16 a ++ p16 b ++ p16 c ++ p16 d ++ t = (p16 h.id ++ p16 h.flagsW ++ p16 a ++ p16 b) ++ p16 c ++ (p16 d ++ t) by simp [ByteArray.append_assoc]]
    exact be2_at _ _ _ _ (by simp [ByteArray.size_append, p16_size]) h2.1 h2.2
  have e10 : be2 (h.putS a b c d ++ t) 10 = d := by
    unfold Head.putS
    exact be2_at _ _ _ _ (by simp [ByteArray.size_append, p16_size]) h3.1 h3.2
  refine ⟨?_, e4, e6, e8, e10, rfl⟩
  obtain ⟨_, k1, k2, k3⟩ := hk
  have b0 := bi_bd h.qr; have b1 := bi_bd h.aa; have b2 := bi_bd h.tc; have b3 := bi_bd h.rd; have b4 := bi_bd h.ra
  unfold getH
  rw [e0, e2, and15, and15, and7]
  have s0 : h.sum = 32768 * bi h.qr + 2048 * h.op + 1024 * bi h.aa + 512 * bi h.tc + 256 * bi h.rd + 128 * bi h.ra + 16 * h.z + h.rc := rfl
  rw [bitB_of _ _ _ h.qr (bitB15 _) (by omega), bitB_of _ _ _ h.aa (bitB10 _) (by omega), bitB_of _ _ _ h.tc (bitB9 _) (by omega), bitB_of _ _ _ h.rd (bitB8 _) (by omega), bitB_of _ _ _ h.ra (bitB7 _) (by omega)]
  rw [show h.sum / 2048 % 16 = h.op by omega, show h.sum / 16 % 8 = h.z by omega, show h.sum % 16 = h.rc by omega]

/-! ### Any twelve bytes -/
end Go.Proofs.Ytjklgdpffmaamaa.Hd

namespace Go.Proofs.Ytjklgdpffmaamaa.Wm
open Go.RowKit Go.PlainAid Go.Proofs.Ytjklgdpffmaamaa.Base Go.Proofs.Ytjklgdpffmaamaa.Oct Go.Proofs.Ytjklgdpffmaamaa.Nm Go.Proofs.Ytjklgdpffmaamaa.Wr Go.Proofs.Ytjklgdpffmaamaa.PCm Go.Proofs.Ytjklgdpffmaamaa.CompS Go.Proofs.Ytjklgdpffmaamaa.Pu
open Go.Proofs.YtjklgdpffmaamaaW.PrintWords (Ev bytesOf bytesOf_length LeO)
set_option linter.unusedVariables false
theorem Ev.uniq {α : Type} {g : Nat → Option α} {a b : α} (h : Ev g a) (k : Ev g b) : a = b := by
  obtain ⟨K, h⟩ := h
  obtain ⟨K', k⟩ := k
  have e := (h (max K K') (Nat.le_max_left _ _)).symm.trans (k (max K K') (Nat.le_max_right _ _))
  exact Option.some.inj e
/-! ### A name that lies uncompressed -/
theorem find_none (s : ByteArray) : ∀ (ps : List Nat) (i : Nat), findP (fun _ => none) s ps i = none
  | [], _ => rfl
  | p :: ps, i => by rw [findP]; exact find_none s ps (i + 1)
theorem outN_plain (s : ByteArray) : outN (fun _ => none) s = s := by
  unfold outN; rw [find_none]
theorem ext_cut {S d : ByteArray} {i : Nat} (h : i + d.size ≤ S.size) (he : S.extract i (i + d.size) = d) : S = S.extract 0 i ++ d ++ S.extract (i + d.size) S.size := by
  have e := ext_join S 0 i (i + d.size) (by omega) (by omega)
  have e2 := ext_join S 0 (i + d.size) S.size (by omega) h
  rw [he] at e
  rw [e, e2, ext0]
theorem lies_plain {S n : ByteArray} {i : Nat} (hn : nameB n = true) (h : i + n.size ≤ S.size) (hS : S.size ≤ 16000) (he : S.extract i (i + n.size) = n) : Lies S i n i (i + n.size) := by
  have hn2 := (name_first hn).2.1
  have z : (S.extract 0 i).size = i := by rw [ByteArray.size_extract]; omega
  have H := (put_known (S := S.extract 0 i) (s := n) (m := fun _ => none) (fun r t h => by cases h) hn (by omega)).2.1
  rw [outN_plain, ByteArray.size_append, z] at H
  have := H.more (S.extract (i + n.size) S.size)
  rw [← ext_cut h he] at this
  exact this
theorem names_1 {s nm : ByteArray} {i q : Int} (h : Ev (fun k => comp_Name.f k s i) (nm, q, 0)) (hs : nm.size ≤ 255) : Ev (fun k => comp_names.f k s i 1) (nm, q, 0) := by
  show Ev (fun k => comp_names.l0 k s i (⟨#[]⟩ : ByteArray) 1 0) _
  refine Ev.step (fun k => by rw [comp_names.l0]) (Ev.pos (by decide) (Ev.bind h ?_))
  refine Ev.pos rfl (Ev.pos (by show 0 + nm.size ≤ 9223372036854775807; omega) ?_)
  refine Ev.step (fun k => by rw [comp_names.l0]) (Ev.neg (by rw [Pu.w64 (by decide) (by decide)]; decide) (Ev.some _ fun _ => ?_))
  show some ((⟨#[]⟩ : ByteArray) ++ nm, q, (0 : Int)) = _
  rw [show (⟨#[]⟩ : ByteArray) ++ nm = nm from ByteArray.empty_append]
theorem names_2 {s nm nn : ByteArray} {i p q : Int} (h : Ev (fun k => comp_Name.f k s i) (nm, p, 0)) (h2 : Ev (fun k => comp_Name.f k s p) (nn, q, 0)) (hs : nm.size ≤ 255) (hs2 : nn.size ≤ 255) : Ev (fun k => comp_names.f k s i 2) (nm ++ nn, q, 0) := by
  show Ev (fun k => comp_names.l0 k s i (⟨#[]⟩ : ByteArray) 2 0) _
  refine Ev.step (fun k => by rw [comp_names.l0]) (Ev.pos (by decide) (Ev.bind h ?_))
  refine Ev.pos rfl (Ev.pos (by show 0 + nm.size ≤ 9223372036854775807; omega) ?_)
  have e : (⟨#[]⟩ : ByteArray) ++ nm = nm := ByteArray.empty_append
  refine Ev.step (fun k => by rw [comp_names.l0]) (Ev.pos (by rw [Pu.w64 (by decide) (by decide)]; decide) (Ev.bind h2 ?_))
  dsimp only
  rw [e]
  refine Ev.pos rfl (Ev.pos (by omega) ?_)
  exact Ev.step (fun k => by rw [comp_names.l0]) (Ev.neg (by rw [Pu.w64 (x := 0 + 1) (by decide) (by decide), Pu.w64 (by decide) (by decide)]; decide) (Ev.some _ fun _ => rfl))
/-! ### Data -/
theorem shape_0 {t : Int} (h2 : t ≠ 2) (h5 : t ≠ 5) (h12 : t ≠ 12) (h15 : t ≠ 15) (h6 : t ≠ 6) : Ev (fun k => comp_shape.f k t) (0, 0, 0) := by
  refine Ev.neg h2 (Ev.neg h5 (Ev.step (fun k => by rw [comp_shape.j0]) (Ev.neg (by simpa using h12) (Ev.neg h15 (Ev.neg h6 (Ev.now _))))))
theorem shape_1 {t : Int} (h : t = 2 ∨ t = 5 ∨ t = 12) : Ev (fun k => comp_shape.f k t) (0, 1, 0) := by
  rcases h with rfl | rfl | rfl <;> exact Ev.of (comp_shape.mono _) (k := 4) (by decide +kernel)
theorem shape_15 : Ev (fun k => comp_shape.f k 15) (2, 1, 0) := Ev.of (comp_shape.mono _) (k := 4) (by decide +kernel)
theorem shape_6 : Ev (fun k => comp_shape.f k 6) (0, 2, 20) := Ev.of (comp_shape.mono _) (k := 4) (by decide +kernel)
theorem may_eq (t : Int) (s : ByteArray) (h : s.size ≤ 9223372036854775000) : rdata_May.f t s = some (Rd.mayD t s) := by unfold rdata_May.f; rw [if_pos h]
theorem data_in {s : ByteArray} {i z t : Int} {r : ByteArray × Int} (hs : s.size ≤ 1000000) (h0 : 0 ≤ i) (h1 : 0 ≤ z) (h2 : i + z ≤ (s.size : Int)) (h : Ev (fun k => comp_Data.j0 k s i z t false) r) : Ev (fun k => comp_Data.f k s i z t) r := by
  refine Ev.neg (by omega) (Ev.neg (by omega) (Ev.neg (by omega) ?_))
  rw [Pu.w64 (x := (s.size : Int) - i) (by omega) (by omega), decide_eq_false (show ¬ z > (s.size : Int) - i by omega)]
  exact h
/-- Data of a type whose bytes are left as they are. -/
theorem data_plain {s : ByteArray} {i z : Nat} {t : Int} (hs : s.size ≤ 1000000) (h2 : i + z ≤ s.size) (hsh : Ev (fun k => comp_shape.f k t) (0, 0, 0)) (hm : Rd.mayD t (s.extract i (i + z)) = true) :
    Ev (fun k => comp_Data.f k s (i : Int) (z : Int) t) (s.extract i (i + z), 0) := by
  refine data_in hs (by omega) (by omega) (by omega) ?_
  refine Ev.step (fun k => by rw [comp_Data.j0]) (Ev.neg (by decide) ?_)
  rw [Pu.w64 (x := (i : Int) + (z : Int)) (by omega) (by omega)]
  refine Ev.pos (by omega) (Ev.pos (by omega) (Ev.pos (by omega) (Ev.bind hsh (Ev.neg (by decide) (Ev.call (may_eq _ _ ?_) ?_)))))
  · rw [ByteArray.size_extract]; omega
  rw [show ((i : Int) + (z : Int)).toNat = i + z by omega, Int.toNat_natCast, hm]
  exact Ev.pos rfl (Ev.some _ fun _ => rfl)
/-- Data with names in it. -/
theorem data_names {s ns : ByteArray} {i z a more q : Nat} {many t : Int} (hs : s.size ≤ 1000000) (hn : ns.size ≤ 600) (h2 : i + z ≤ s.size) (hsh : Ev (fun k => comp_shape.f k t) ((a : Int), many, (more : Int))) (hmn : 0 < many) (ham : a + more ≤ z)
    (hq : Ev (fun k => comp_names.f k s ((i + a : Nat) : Int) many) (ns, (q : Int), 0)) (hqz : q + more = i + z) (hm : Rd.mayD t (s.extract i (i + a) ++ ns ++ s.extract q (i + z)) = true) :
    Ev (fun k => comp_Data.f k s (i : Int) (z : Int) t) (s.extract i (i + a) ++ ns ++ s.extract q (i + z), 0) := by
  refine data_in hs (by omega) (by omega) (by omega) ?_
  refine Ev.step (fun k => by rw [comp_Data.j0]) (Ev.neg (by decide) ?_)
  rw [Pu.w64 (x := (i : Int) + (z : Int)) (by omega) (by omega)]
  refine Ev.pos (by omega) (Ev.pos (by omega) (Ev.pos (by omega) (Ev.bind hsh (Ev.pos (by show many > 0; omega) ?_))))
  dsimp only
  rw [Pu.w64 (x := (a : Int) + (more : Int)) (by omega) (by omega), Pu.w64 (x := (i : Int) + (a : Int)) (by omega) (by omega), show (i : Int) + (a : Int) = ((i + a : Nat) : Int) by omega]
  refine Ev.neg (by omega) (Ev.bind hq (Ev.pos rfl ?_))
  dsimp only
  rw [Pu.w64 (x := (i : Int) + (z : Int) - (more : Int)) (by omega) (by omega)]
  rw [show ((q : Int) != (i : Int) + (z : Int) - (more : Int)) = false by simp; omega]
  refine Ev.step (fun k => by rw [comp_Data.j1]) (Ev.neg (by decide) ?_)
  rw [Pu.w64 (x := (i : Int) + (a : Int)) (by omega) (by omega), show (i : Int) + (a : Int) = ((i + a : Nat) : Int) by omega, show (i : Int) + (z : Int) = ((i + z : Nat) : Int) by omega]
  simp only [Int.toNat_natCast]
  refine Ev.pos (by omega) (Ev.pos (by omega) (Ev.pos (by omega) (Ev.pos ?_ (Ev.pos (by omega) (Ev.pos (by omega) (Ev.pos (by omega) (Ev.pos ?_ (Ev.call (may_eq _ _ ?_) ?_))))))))
  · rw [ByteArray.size_extract]; omega
  · rw [ByteArray.size_append, ByteArray.size_extract, ByteArray.size_extract]; omega
  · rw [ByteArray.size_append, ByteArray.size_append, ByteArray.size_extract, ByteArray.size_extract]; omega
  rw [hm]
  exact Ev.pos rfl (Ev.some _ fun _ => rfl)
theorem name_plain {S n : ByteArray} {i : Nat} (hn : nameB n = true) (h : i + n.size ≤ S.size) (hS : S.size ≤ 16000) (he : S.extract i (i + n.size) = n) : Ev (fun k => comp_Name.f k S (i : Int)) (n, ((i + n.size : Nat) : Int), 0) :=
  (lies_plain hn h hS he).name (by omega) (name_first hn).2.1
theorem ext_ext (s : ByteArray) (i j a b : Nat) (h : i + b ≤ j) : (s.extract i j).extract a b = s.extract (i + a) (i + b) := by
  apply ext_of
  rw [ext_list, ext_list, ext_list]
  generalize s.data.toList = l
  rw [List.drop_take, List.drop_take, List.drop_take, List.drop_take, List.take_take, List.drop_drop, show min (b - a) (j - i - a) = i + b - (i + a) by omega]
theorem endN_name {s : ByteArray} {a : Nat} (h : 0 ≤ endN s a) : nameB (s.extract a (endN s a).toNat) = true := by
  unfold endN at h ⊢
  cases hz : zeroAt s a with
  | none => rw [hz] at h; dsimp only at h; exact absurd h (by decide)
  | some p =>
    rw [hz] at h
    dsimp only at h ⊢
    by_cases hb : nameB (s.extract a (p + 1)) = true
    · rw [if_pos hb, show ((p : Int) + 1).toNat = p + 1 by omega]; exact hb
    · rw [if_neg hb] at h; exact absurd h (by decide)
/-- Data that may be, and that lies uncompressed, is read. -/
theorem data_of {S d : ByteArray} {i : Nat} {t : Int} (hS : S.size ≤ 16000) (h : i + d.size ≤ S.size) (he : S.extract i (i + d.size) = d) (hm : Rd.mayD t d = true) : Ev (fun k => comp_Data.f k S (i : Int) (d.size : Int) t) (d, 0) := by
  have sub : ∀ a b, b ≤ d.size → S.extract (i + a) (i + b) = d.extract a b := fun a b hb => by rw [← ext_ext S i (i + d.size) a b (by omega), he]
  have hm0 := hm
  unfold Rd.mayD at hm
  by_cases c1 : t < 1
  · rw [if_pos c1] at hm; cases hm
  rw [if_neg c1] at hm
  by_cases c2 : 65535 < t
  · rw [if_pos c2] at hm; cases hm
  rw [if_neg c2] at hm
  by_cases c3 : 65535 < d.size
  · rw [if_pos c3] at hm; cases hm
  rw [if_neg c3] at hm
  by_cases k1 : t = 2 ∨ t = 5 ∨ t = 12
  · have hn : nameB d = true := by
      rcases k1 with rfl | rfl | rfl <;> simpa using hm
    have H := data_names (t := t) (s := S) (i := i) (z := d.size) (a := 0) (more := 0) (q := i + d.size) (by omega) (by have := (name_first hn).2.1; omega) h (shape_1 k1) (by decide) (by omega) (names_1 (name_plain hn h hS he) (name_first hn).2.1) (by omega)
    have e : S.extract i (i + 0) ++ d ++ S.extract (i + d.size) (i + d.size) = d := by simp
    rw [e] at H
    exact H hm0
  · by_cases k2 : t = 15
    · subst k2
      have hn : 2 ≤ d.size ∧ nameB (d.extract 2 d.size) = true := by simpa using hm
      have hz : (d.extract 2 d.size).size = d.size - 2 := by rw [ByteArray.size_extract]; omega
      have hb := (name_first hn.2).2.1
      have hp := name_plain (S := S) (i := i + 2) hn.2 (by omega) hS (by rw [hz, show i + 2 + (d.size - 2) = i + d.size by omega]; exact sub 2 d.size (Nat.le_refl _))
      rw [hz, show i + 2 + (d.size - 2) = i + d.size by omega] at hp
      have H := data_names (t := 15) (s := S) (i := i) (z := d.size) (a := 2) (more := 0) (q := i + d.size) (by omega) (by omega) h shape_15 (by decide) (by omega) (names_1 hp hb) (by omega)
      rw [show S.extract i (i + 2) = d.extract 0 2 from sub 0 2 hn.1, show S.extract (i + d.size) (i + d.size) = ⟨#[]⟩ by simp; rfl, ext_join d 0 2 d.size (by omega) hn.1, ext0, show d ++ (⟨#[]⟩ : ByteArray) = d from ByteArray.append_empty] at H
      exact H hm0
    · by_cases k3 : t = 6
      · subst k3
        have hn : Rd.soaB d = true := by simpa using hm
        unfold Rd.soaB at hn
        simp only [Bool.and_eq_true, decide_eq_true_eq] at hn
        obtain ⟨a0, a1, a2⟩ := hn
        obtain ⟨p, hp⟩ : ∃ p : Nat, endN d 0 = (p : Int) := ⟨(endN d 0).toNat, by omega⟩
        have n1 := endN_name a0
        have b1 := Rd.endN_bd a0
        rw [hp, Int.toNat_natCast] at a1 a2 n1
        rw [hp] at b1
        obtain ⟨q, hq⟩ : ∃ q : Nat, endN d p = (q : Int) := ⟨(endN d p).toNat, by omega⟩
        have n2 := endN_name a1
        have b2 := Rd.endN_bd a1
        rw [hq, Int.toNat_natCast] at n2
        rw [hq] at b2 a2
        have z1 : (d.extract 0 p).size = p := by rw [ByteArray.size_extract]; omega
        have z2 : (d.extract p q).size = q - p := by rw [ByteArray.size_extract]; omega
        have f1 := (name_first n1).2.1
        have f2 := (name_first n2).2.1
        have e1 := name_plain (S := S) (i := i) n1 (by omega) hS (by rw [z1]; exact sub 0 p (by omega))
        have e2 := name_plain (S := S) (i := i + p) n2 (by omega) hS (by rw [z2, show i + p + (q - p) = i + q by omega]; exact sub p q (by omega))
        rw [z1] at e1
        rw [z2, show i + p + (q - p) = i + q by omega] at e2
        have H := data_names (t := 6) (s := S) (i := i) (z := d.size) (a := 0) (more := 20) (q := i + q) (by omega) (by rw [ByteArray.size_append]; omega) h shape_6 (by decide) (by omega) (names_2 e1 e2 f1 f2) (by omega)
        rw [show S.extract i (i + 0) = ⟨#[]⟩ by simp; rfl, sub q d.size (Nat.le_refl _), show (⟨#[]⟩ : ByteArray) ++ (d.extract 0 p ++ d.extract p q) = d.extract 0 p ++ d.extract p q from ByteArray.empty_append, ext_join d 0 p q (by omega) (by omega), ext_join d 0 q d.size (by omega) (by omega), ext0] at H
        exact H hm0
      · have H := data_plain (t := t) (s := S) (i := i) (z := d.size) (by omega) h (shape_0 (fun e => k1 (.inl e)) (fun e => k1 (.inr (.inl e))) (fun e => k1 (.inr (.inr e))) k2 k3)
        rw [he] at H
        exact H hm0
/-! ### A question, a record -/
theorem num16_ok {s : ByteArray} {i : Nat} (h : i + 2 ≤ s.size) : numV ⟨(i : Int), false⟩ (u16V s (i : Int)) = (be2 s i, ⟨((i + 2 : Nat) : Int), false⟩) := by
  unfold numV u16V
  rw [if_pos (show 0 ≤ (i : Int) ∧ (i : Int) + 2 ≤ (s.size : Int) by omega), Int.toNat_natCast]
  simp
theorem num32_ok {s : ByteArray} {i : Nat} (h : i + 4 ≤ s.size) : numV ⟨(i : Int), false⟩ (u32V s (i : Int)) = (be4 s i, ⟨((i + 4 : Nat) : Int), false⟩) := by
  unfold numV u32V
  rw [if_pos (show 0 ≤ (i : Int) ∧ (i : Int) + 4 ≤ (s.size : Int) by omega), Int.toNat_natCast]
  simp
theorem quest_ev {S n : ByteArray} {i nx : Nat} (h : Ev (fun k => comp_Name.f k S (i : Int)) (n, (nx : Int), 0)) (hx : nx + 4 ≤ S.size) : Ev (fun k => questV k S ⟨(i : Int), false⟩) (⟨n, be2 S nx, be2 S (nx + 2)⟩, ⟨((nx + 4 : Nat) : Int), be2 S nx == 0⟩) := by
  unfold questV
  refine Ev.bind h ?_
  refine Ev.neg (by simp) (Ev.some _ fun _ => ?_)
  dsimp only
  rw [num16_ok (by omega)]
  dsimp only
  rw [num16_ok (i := nx + 2) (by omega)]
  simp
  omega
theorem rec_ev {S n d : ByteArray} {i nx z : Nat} (h : Ev (fun k => comp_Name.f k S (i : Int)) (n, (nx : Int), 0)) (ht : be2 S nx ≠ 0) (hS : S.size ≤ 16000) (hz : be2 S (nx + 8) = (z : Int)) (hx : nx + 10 + z ≤ S.size) (hd : Ev (fun k => comp_Data.f k S ((nx + 10 : Nat) : Int) (z : Int) (be2 S nx)) (d, 0)) :
    Ev (fun k => recV k S ⟨(i : Int), false⟩) (⟨n, be2 S nx, be2 S (nx + 2), be4 S (nx + 4), d⟩, ⟨((nx + 10 + z : Nat) : Int), false⟩) := by
  unfold recV
  have hq := quest_ev h (by omega)
  rw [show (be2 S nx == 0) = false by simpa using ht] at hq
  have e1 : recN1 S (⟨n, be2 S nx, be2 S (nx + 2)⟩, ⟨((nx + 4 : Nat) : Int), false⟩) = (be4 S (nx + 4), ⟨((nx + 4 + 4 : Nat) : Int), false⟩) := num32_ok (by omega)
  have e2 : recN2 S (⟨n, be2 S nx, be2 S (nx + 2)⟩, ⟨((nx + 4 : Nat) : Int), false⟩) = ((z : Int), ⟨((nx + 10 : Nat) : Int), false⟩) := by
    unfold recN2
    rw [e1]
    dsimp only
    rw [num16_ok (i := nx + 4 + 4) (by omega), hz]
  refine Ev.bind hq ?_
  simp only [e1, e2]
  refine Ev.bind hd ?_
  refine Ev.neg (by simp) (Ev.some _ fun _ => ?_)
  rw [Pu.w64 (by omega) (by omega)]
  congr 4
end Go.Proofs.Ytjklgdpffmaamaa.Wm

namespace Go.Proofs.Ytjklgdpffmaamaa.Wm
open Go.RowKit Go.PlainAid Go.Proofs.Ytjklgdpffmaamaa.Base Go.Proofs.Ytjklgdpffmaamaa.Oct Go.Proofs.Ytjklgdpffmaamaa.Nm Go.Proofs.Ytjklgdpffmaamaa.Wr Go.Proofs.Ytjklgdpffmaamaa.PCm Go.Proofs.Ytjklgdpffmaamaa.CompS Go.Proofs.Ytjklgdpffmaamaa.Pu
open Go.Proofs.YtjklgdpffmaamaaW.PrintWords (Ev bytesOf bytesOf_length LeO)
set_option linter.unusedVariables false
/-! ### The writer's state -/
theorem raw_ok {st : St} {s : ByteArray} (h : (rawSt st s).lg = false) : st.lg = false ∧ st.S.size + s.size ≤ 4096 ∧ rawSt st s = ⟨st.S ++ s, st.m, false⟩ := by
  unfold rawSt at h ⊢
  by_cases c : 4096 < st.S.size + s.size
  · rw [if_pos c] at h; cases h
  · rw [if_neg c] at h ⊢
    have h : st.lg = false := h
    exact ⟨h, by omega, by rw [h]⟩
theorem name_ok {st : St} {n : ByteArray} (h : (nameSt st n).lg = false) : nameB n = true ∧ st.lg = false ∧ st.S.size + (outN st.m n).size ≤ 4096 ∧ nameSt st n = ⟨st.S ++ outN st.m n, putN st.m n st.S.size, false⟩ := by
  unfold nameSt at h ⊢
  by_cases b : nameB n = true
  · rw [if_pos b] at h ⊢
    by_cases c : 4096 < st.S.size + (outN st.m n).size
    · rw [if_pos c] at h; cases h
    · rw [if_neg c] at h ⊢
      have h : st.lg = false := h
      exact ⟨b, h, by omega, by rw [h]⟩
  · rw [if_neg b] at h; cases h
/-- All is well with the writer: what it keeps lies where it says. -/
structure Good (st : St) : Prop where
  known : Known st.S st.m
  size : st.S.size ≤ 4096
  lg : st.lg = false
theorem known_more {S : ByteArray} {m : ByteArray → Option Int} (h : Known S m) (T : ByteArray) : Known (S ++ T) m := fun r t hr => by
  obtain ⟨i, nx, e, hi, hl⟩ := h r t hr
  exact ⟨i, nx, e, hi, hl.more T⟩
theorem Good.raw {st : St} (H : st.lg = false → Good st) {s : ByteArray} (h : (rawSt st s).lg = false) : Good (rawSt st s) := by
  obtain ⟨h1, h2, h3⟩ := raw_ok h
  rw [h3]
  exact ⟨known_more (H h1).known s, by show (st.S ++ s).size ≤ 4096; rw [ByteArray.size_append]; exact h2, rfl⟩
theorem name_size {n : ByteArray} (h : nameB n = true) : n.size ≤ 255 := (name_first h).2.1
theorem Good.name {st : St} (H : st.lg = false → Good st) {n : ByteArray} (h : (nameSt st n).lg = false) : Good (nameSt st n) := by
  obtain ⟨h0, h1, h2, h3⟩ := name_ok h
  have hn := name_size h0
  have hz := (H h1).size
  rw [h3]
  exact ⟨(put_known (H h1).known h0 (by omega)).2.2, by show (st.S ++ _).size ≤ 4096; rw [ByteArray.size_append]; exact h2, rfl⟩
/-! ### Numbers -/
theorem be2_mid (a b : ByteArray) (x : Int) (i : Nat) (hi : i = a.size) (h0 : 0 ≤ x) (h1 : x ≤ 65535) : be2 (a ++ p16 x ++ b) i = x := Hd.be2_at a b x i hi.symm h0 h1
theorem be4_left (s t : ByteArray) (i : Nat) (h : i + 4 ≤ s.size) : be4 (s ++ t) i = be4 s i := by
  unfold be4
  rw [bt_append_left _ _ _ (by omega), bt_append_left _ _ _ (by omega), bt_append_left _ _ _ (by omega), bt_append_left _ _ _ (by omega)]
theorem be4_right (s t : ByteArray) (i : Nat) (h : s.size ≤ i) : be4 (s ++ t) i = be4 t (i - s.size) := by
  unfold be4
  rw [bt_append_right _ _ _ h, bt_append_right _ _ _ (by omega), bt_append_right _ _ _ (by omega), bt_append_right _ _ _ (by omega)]
  rw [show i + 1 - s.size = i - s.size + 1 by omega, show i + 2 - s.size = i - s.size + 2 by omega, show i + 3 - s.size = i - s.size + 3 by omega]
theorem be4_p32 (x : Int) (h0 : 0 ≤ x) (h1 : x ≤ 4294967295) : be4 (p32 x) 0 = x := by
  unfold be4 p32
  rw [bt_nums _ 0 ((x / 16777216) % 256) rfl (by omega) (by omega), bt_nums _ 1 ((x / 65536) % 256) rfl (by omega) (by omega), bt_nums _ 2 ((x / 256) % 256) rfl (by omega) (by omega), bt_nums _ 3 (x % 256) rfl (by omega) (by omega)]
  omega
theorem be4_mid (a b : ByteArray) (x : Int) (i : Nat) (hi : i = a.size) (h0 : 0 ≤ x) (h1 : x ≤ 4294967295) : be4 (a ++ p32 x ++ b) i = x := by
  subst hi
  rw [ByteArray.append_assoc, be4_right _ _ _ (Nat.le_refl _), Nat.sub_self, be4_left _ _ _ (by rw [p32_size]; omega), be4_p32 x h0 h1]
theorem inB_iff {x lo hi : Int} : inB x lo hi = true ↔ lo ≤ x ∧ x ≤ hi := by unfold inB; simp
/-! ### A question -/
theorem qSt_ok {st : St} {n : ByteArray} {t c : Int} (h : (qSt st n t c).lg = false) : nameB n = true ∧ st.lg = false ∧ st.S.size + (outN st.m n).size + 4 ≤ 4096 ∧ qSt st n t c = ⟨st.S ++ outN st.m n ++ (p16 t ++ p16 c), putN st.m n st.S.size, false⟩ := by
  unfold qSt at h ⊢
  obtain ⟨h1, h2, h3⟩ := raw_ok h
  obtain ⟨k0, k1, k2, k3⟩ := name_ok h1
  rw [k3] at h2 h3 ⊢
  have z : (p16 t ++ p16 c).size = 4 := by rw [ByteArray.size_append, p16_size, p16_size]
  have h2 : (st.S ++ outN st.m n).size + (p16 t ++ p16 c).size ≤ 4096 := h2
  rw [ByteArray.size_append, z] at h2
  exact ⟨k0, k1, by omega, h3⟩
theorem Good.q {st : St} (H : st.lg = false → Good st) {n : ByteArray} {t c : Int} (h : (qSt st n t c).lg = false) : Good (qSt st n t c) := by
  unfold qSt at h ⊢
  exact Good.raw (fun k => Good.name H k) h
/-- Behind a name that was put: it is read there, in whatever goes on. -/
theorem name_read {st : St} (H : Good st) {n U : ByteArray} (hn : nameB n = true) (hz : (st.S ++ outN st.m n ++ U).size ≤ 16000) : Ev (fun k => comp_Name.f k (st.S ++ outN st.m n ++ U) (st.S.size : Int)) (n, ((st.S.size + (outN st.m n).size : Nat) : Int), 0) := by
  have hs := name_size hn
  have hS := H.size
  have L := (put_known H.known hn (by omega)).2.1.more U
  rw [ByteArray.size_append] at L
  exact L.name (by omega) hs
theorem q_read {st : St} (H : Good st) {q : Qn} (hm : qMay q = true) (h : (qStep st q).lg = false) (U : ByteArray) (hz : ((qStep st q).S ++ U).size ≤ 16000) :
    Ev (fun k => questV k ((qStep st q).S ++ U) ⟨(st.S.size : Int), false⟩) (q, ⟨((qStep st q).S.size : Int), false⟩) := by
  obtain ⟨n, t, c⟩ := q
  unfold qMay at hm
  simp only [Bool.and_eq_true, inB_iff] at hm
  obtain ⟨⟨hn, t1, t2⟩, c1, c2⟩ := hm
  obtain ⟨_, _, h2, h3⟩ := qSt_ok h
  have e3 : qStep st ⟨n, t, c⟩ = ⟨st.S ++ outN st.m n ++ (p16 t ++ p16 c), putN st.m n st.S.size, false⟩ := h3
  rw [e3] at hz ⊢
  dsimp only at hz ⊢
  have eS : st.S ++ outN st.m n ++ (p16 t ++ p16 c) ++ U = st.S ++ outN st.m n ++ (p16 t ++ (p16 c ++ U)) := by simp only [ByteArray.append_assoc]
  have zS : (st.S ++ outN st.m n ++ (p16 t ++ p16 c)).size = st.S.size + (outN st.m n).size + 4 := by simp only [ByteArray.size_append, p16_size]
  have zT : (st.S ++ outN st.m n ++ (p16 t ++ p16 c) ++ U).size = st.S.size + (outN st.m n).size + 4 + U.size := by rw [ByteArray.size_append, zS]
  have hr := name_read H (n := n) (U := p16 t ++ (p16 c ++ U)) hn (by rw [← eS]; exact hz)
  rw [← eS] at hr
  have E := quest_ev hr (by rw [zT]; omega)
  have b1 : be2 (st.S ++ outN st.m n ++ (p16 t ++ p16 c) ++ U) (st.S.size + (outN st.m n).size) = t := by
    rw [show st.S ++ outN st.m n ++ (p16 t ++ p16 c) ++ U = (st.S ++ outN st.m n) ++ p16 t ++ (p16 c ++ U) by simp only [ByteArray.append_assoc]]
    exact be2_mid _ _ _ _ (by rw [ByteArray.size_append]) (by omega) t2
  have b2 : be2 (st.S ++ outN st.m n ++ (p16 t ++ p16 c) ++ U) (st.S.size + (outN st.m n).size + 2) = c := by
    rw [show st.S ++ outN st.m n ++ (p16 t ++ p16 c) ++ U = (st.S ++ outN st.m n ++ p16 t) ++ p16 c ++ U by simp only [ByteArray.append_assoc]]
    exact be2_mid _ _ _ _ (by simp only [ByteArray.size_append, p16_size]) c1 c2
  rw [b1, b2, show (t == 0) = false by simp; omega] at E
  rw [zS]
  exact E
/-! ### A record -/
theorem rSt_ok {st : St} {r : Rr} (h : (rSt st r).lg = false) : nameB r.name = true ∧ st.lg = false ∧ st.S.size + (outN st.m r.name).size + 10 + r.data.size ≤ 4096 ∧
    rSt st r = ⟨st.S ++ outN st.m r.name ++ (p16 r.type ++ p16 r.cls) ++ (p32 r.ttl ++ p16 (r.data.size : Int) ++ r.data), putN st.m r.name st.S.size, false⟩ := by
  unfold rSt at h ⊢
  obtain ⟨h1, h2, h3⟩ := raw_ok h
  obtain ⟨k0, k1, k2, k3⟩ := qSt_ok h1
  rw [k3] at h2 h3 ⊢
  have z : (p32 r.ttl ++ p16 (r.data.size : Int) ++ r.data).size = 6 + r.data.size := by simp only [ByteArray.size_append, p16_size, p32_size]
  have h2 : (st.S ++ outN st.m r.name ++ (p16 r.type ++ p16 r.cls)).size + (p32 r.ttl ++ p16 (r.data.size : Int) ++ r.data).size ≤ 4096 := h2
  rw [z] at h2
  simp only [ByteArray.size_append, p16_size] at h2
  exact ⟨k0, k1, by omega, h3⟩
theorem Good.r {st : St} (H : st.lg = false → Good st) {r : Rr} (h : (rSt st r).lg = false) : Good (rSt st r) := by
  unfold rSt at h ⊢
  exact Good.raw (fun k => Good.q H k) h
theorem r_read {st : St} (H : Good st) {r : Rr} (hm : rMay r = true) (h : (rSt st r).lg = false) (U : ByteArray) (hz : ((rSt st r).S ++ U).size ≤ 16000) :
    Ev (fun k => recV k ((rSt st r).S ++ U) ⟨(st.S.size : Int), false⟩) (r, ⟨((rSt st r).S.size : Int), false⟩) := by
  obtain ⟨n, t, c, l, d⟩ := r
  unfold rMay at hm
  simp only [Bool.and_eq_true, inB_iff] at hm
  obtain ⟨⟨⟨⟨hn, t1, t2⟩, c1, c2⟩, l1, l2⟩, hd⟩ := hm
  obtain ⟨_, _, h2, h3⟩ := rSt_ok h
  dsimp only at h2 h3 hn hd t1 t2 c1 c2 l1 l2
  rw [h3] at hz ⊢
  dsimp only at hz ⊢
  generalize hT : st.S ++ outN st.m n ++ (p16 t ++ p16 c) ++ (p32 l ++ p16 (d.size : Int) ++ d) ++ U = T at hz ⊢
  have zA : (st.S ++ outN st.m n).size = st.S.size + (outN st.m n).size := ByteArray.size_append
  have zS : (st.S ++ outN st.m n ++ (p16 t ++ p16 c) ++ (p32 l ++ p16 (d.size : Int) ++ d)).size = st.S.size + (outN st.m n).size + 10 + d.size := by simp only [ByteArray.size_append, p16_size, p32_size]; omega
  have zT : T.size = st.S.size + (outN st.m n).size + 10 + d.size + U.size := by rw [← hT, ByteArray.size_append, zS]
  have hr := name_read H (n := n) (U := p16 t ++ (p16 c ++ (p32 l ++ (p16 (d.size : Int) ++ (d ++ U))))) hn
  rw [show st.S ++ outN st.m n ++ (p16 t ++ (p16 c ++ (p32 l ++ (p16 (d.size : Int) ++ (d ++ U))))) = T by rw [← hT]; simp only [ByteArray.append_assoc]] at hr
  have b1 : be2 T (st.S.size + (outN st.m n).size) = t := by
    rw [show T = (st.S ++ outN st.m n) ++ p16 t ++ (p16 c ++ (p32 l ++ (p16 (d.size : Int) ++ (d ++ U)))) by rw [← hT]; simp only [ByteArray.append_assoc]]
    exact be2_mid _ _ _ _ (by rw [ByteArray.size_append]) (by omega) t2
  have b2 : be2 T (st.S.size + (outN st.m n).size + 2) = c := by
    rw [show T = (st.S ++ outN st.m n ++ p16 t) ++ p16 c ++ (p32 l ++ (p16 (d.size : Int) ++ (d ++ U))) by rw [← hT]; simp only [ByteArray.append_assoc]]
    exact be2_mid _ _ _ _ (by simp only [ByteArray.size_append, p16_size]) c1 c2
  have b3 : be4 T (st.S.size + (outN st.m n).size + 4) = l := by
    rw [show T = (st.S ++ outN st.m n ++ p16 t ++ p16 c) ++ p32 l ++ (p16 (d.size : Int) ++ (d ++ U)) by rw [← hT]; simp only [ByteArray.append_assoc]]
    exact be4_mid _ _ _ _ (by simp only [ByteArray.size_append, p16_size]) l1 l2
  have b4 : be2 T (st.S.size + (outN st.m n).size + 8) = (d.size : Int) := by
    rw [show T = (st.S ++ outN st.m n ++ p16 t ++ p16 c ++ p32 l) ++ p16 (d.size : Int) ++ (d ++ U) by rw [← hT]; simp only [ByteArray.append_assoc]]
    exact be2_mid _ _ _ _ (by simp only [ByteArray.size_append, p16_size, p32_size]) (by omega) (by omega)
  have hD : T.extract (st.S.size + (outN st.m n).size + 10) (st.S.size + (outN st.m n).size + 10 + d.size) = d := by
    rw [show T = (st.S ++ outN st.m n ++ p16 t ++ p16 c ++ p32 l ++ p16 (d.size : Int)) ++ (d ++ U) by rw [← hT]; simp only [ByteArray.append_assoc]]
    have zz : (st.S ++ outN st.m n ++ p16 t ++ p16 c ++ p32 l ++ p16 (d.size : Int)).size = st.S.size + (outN st.m n).size + 10 := by simp only [ByteArray.size_append, p16_size, p32_size]
    rw [← zz, ext_right, ext_left _ _ _ _ (Nat.le_refl _), ext0]
  have E := rec_ev (S := T) (i := st.S.size) (nx := st.S.size + (outN st.m n).size) (z := d.size) (d := d) (hr hz) (by rw [b1]; omega) hz b4 (by rw [zT]; omega) (by rw [b1]; exact data_of hz (by rw [zT]; omega) hD hd)
  rw [b1, b2, b3] at E
  rw [zS]
  exact E
/-! ### Lists -/
theorem foldQ_lg : ∀ (qs : List Qn) (st : St), (qs.foldl qStep st).lg = false → st.lg = false
  | [], _, h => h
  | q :: qs, st, h => (qSt_ok (foldQ_lg qs _ h)).2.1
theorem foldR_lg : ∀ (rs : List Rr) (st : St), (rs.foldl rSt st).lg = false → st.lg = false
  | [], _, h => h
  | r :: rs, st, h => (rSt_ok (foldR_lg rs _ h)).2.1
theorem foldQ_good : ∀ (qs : List Qn) (st : St), (st.lg = false → Good st) → (qs.foldl qStep st).lg = false → Good (qs.foldl qStep st)
  | [], _, H, h => H h
  | q :: qs, st, H, h => foldQ_good qs _ (fun k => Good.q H k) h
theorem foldR_good : ∀ (rs : List Rr) (st : St), (st.lg = false → Good st) → (rs.foldl rSt st).lg = false → Good (rs.foldl rSt st)
  | [], _, H, h => H h
  | r :: rs, st, H, h => foldR_good rs _ (fun k => Good.r H k) h
theorem foldQ_more : ∀ (qs : List Qn) (st : St), (qs.foldl qStep st).lg = false → ∃ V, (qs.foldl qStep st).S = st.S ++ V
  | [], st, _ => ⟨⟨#[]⟩, ByteArray.append_empty.symm⟩
  | q :: qs, st, h => by
    obtain ⟨V, hV⟩ := foldQ_more qs _ h
    obtain ⟨_, _, _, e⟩ := qSt_ok (foldQ_lg qs _ h)
    have e : qStep st q = _ := e
    refine ⟨outN st.m q.name ++ (p16 q.type ++ p16 q.cls) ++ V, ?_⟩
    rw [List.foldl_cons, hV, e]
    simp only [ByteArray.append_assoc]
theorem foldR_more : ∀ (rs : List Rr) (st : St), (rs.foldl rSt st).lg = false → ∃ V, (rs.foldl rSt st).S = st.S ++ V
  | [], st, _ => ⟨⟨#[]⟩, ByteArray.append_empty.symm⟩
  | r :: rs, st, h => by
    obtain ⟨V, hV⟩ := foldR_more rs _ h
    obtain ⟨_, _, _, e⟩ := rSt_ok (foldR_lg rs _ h)
    refine ⟨outN st.m r.name ++ (p16 r.type ++ p16 r.cls) ++ (p32 r.ttl ++ p16 (r.data.size : Int) ++ r.data) ++ V, ?_⟩
    rw [List.foldl_cons, hV, e]
    simp only [ByteArray.append_assoc]
theorem loopQ_read (T : ByteArray) (hT : T.size ≤ 16000) : ∀ (qs : List Qn) (st : St) (acc : List Qn), Good st → (∀ q ∈ qs, qMay q = true) → (qs.foldl qStep st).lg = false → (∃ U, T = (qs.foldl qStep st).S ++ U) →
    Ev (fun k => loopQ k T qs.length ⟨(st.S.size : Int), false⟩ acc) (acc ++ qs, ⟨((qs.foldl qStep st).S.size : Int), false⟩)
  | [], st, acc, _, _, _, _ => by simpa [loopQ] using Ev.now (acc, (⟨(st.S.size : Int), false⟩ : Rs))
  | q :: qs, st, acc, H, hm, h, hU => by
    have h1 := foldQ_lg qs _ h
    obtain ⟨V, hV⟩ := foldQ_more qs _ h
    obtain ⟨U, hU⟩ := hU
    have eT : T = (qStep st q).S ++ (V ++ U) := by rw [hU, List.foldl_cons, hV, ByteArray.append_assoc]
    have E := q_read H (hm q (List.mem_cons_self ..)) h1 (V ++ U) (by rw [← eT]; exact hT)
    rw [← eT] at E
    show Ev (fun k => if (false : Bool) = true then _ else _) _
    refine Ev.neg (by decide) (Ev.bind E ?_)
    have := loopQ_read T hT qs (qStep st q) (acc ++ [q]) (Good.q (fun _ => H) h1) (fun x hx => hm x (List.mem_cons_of_mem _ hx)) h ⟨U, hU⟩
    rw [List.append_assoc, List.singleton_append] at this
    exact this
theorem loopR_read (T : ByteArray) (hT : T.size ≤ 16000) : ∀ (rs : List Rr) (st : St) (acc : List Rr), Good st → (∀ r ∈ rs, rMay r = true) → (rs.foldl rSt st).lg = false → (∃ U, T = (rs.foldl rSt st).S ++ U) →
    Ev (fun k => loopR k T rs.length ⟨(st.S.size : Int), false⟩ acc) (acc ++ rs, ⟨((rs.foldl rSt st).S.size : Int), false⟩)
  | [], st, acc, _, _, _, _ => by simpa [loopR] using Ev.now (acc, (⟨(st.S.size : Int), false⟩ : Rs))
  | r :: rs, st, acc, H, hm, h, hU => by
    have h1 := foldR_lg rs _ h
    obtain ⟨V, hV⟩ := foldR_more rs _ h
    obtain ⟨U, hU⟩ := hU
    have eT : T = (rSt st r).S ++ (V ++ U) := by rw [hU, List.foldl_cons, hV, ByteArray.append_assoc]
    have E := r_read H (hm r (List.mem_cons_self ..)) h1 (V ++ U) (by rw [← eT]; exact hT)
    rw [← eT] at E
    show Ev (fun k => if (false : Bool) = true then _ else _) _
    refine Ev.neg (by decide) (Ev.bind E ?_)
    have := loopR_read T hT rs (rSt st r) (acc ++ [r]) (Good.r (fun _ => H) h1) (fun x hx => hm x (List.mem_cons_of_mem _ hx)) h ⟨U, hU⟩
    rw [List.append_assoc, List.singleton_append] at this
    exact this
theorem listQ_read {T : ByteArray} (hT : T.size ≤ 16000) {qs : List Qn} {st : St} (hl : qs.length ≤ 64) (H : Good st) (hm : ∀ q ∈ qs, qMay q = true) (h : (qs.foldl qStep st).lg = false) (hU : ∃ U, T = (qs.foldl qStep st).S ++ U) :
    Ev (fun k => listQ k T qs.length ⟨(st.S.size : Int), false⟩) (qs, ⟨((qs.foldl qStep st).S.size : Int), false⟩) := by
  unfold listQ
  rw [show (false || decide (64 < qs.length)) = false by simp; omega]
  exact loopQ_read T hT qs st [] H hm h hU
theorem listR_read {T : ByteArray} (hT : T.size ≤ 16000) {rs : List Rr} {st : St} (hl : rs.length ≤ 64) (H : Good st) (hm : ∀ r ∈ rs, rMay r = true) (h : (rs.foldl rSt st).lg = false) (hU : ∃ U, T = (rs.foldl rSt st).S ++ U) :
    Ev (fun k => listR k T rs.length ⟨(st.S.size : Int), false⟩) (rs, ⟨((rs.foldl rSt st).S.size : Int), false⟩) := by
  unfold listR
  rw [show (false || decide (64 < rs.length)) = false by simp; omega]
  exact loopR_read T hT rs st [] H hm h hU
end Go.Proofs.Ytjklgdpffmaamaa.Wm

namespace Go.Proofs.Ytjklgdpffmaamaa.Wm
open Go.RowKit Go.PlainAid Go.Proofs.Ytjklgdpffmaamaa.Base Go.Proofs.Ytjklgdpffmaamaa.Oct Go.Proofs.Ytjklgdpffmaamaa.Nm Go.Proofs.Ytjklgdpffmaamaa.Wr Go.Proofs.Ytjklgdpffmaamaa.PCm Go.Proofs.Ytjklgdpffmaamaa.CompS Go.Proofs.Ytjklgdpffmaamaa.Pu
open Go.Proofs.YtjklgdpffmaamaaW.PrintWords (Ev bytesOf bytesOf_length LeO)
set_option linter.unusedVariables false
/-! ### A name -/
theorem l_full {s : ByteArray} {i : Int} {out : List Int} {bg bh : Int} (h : 255 ≤ out.length) : Ev (fun k => comp_Name.l0 k s i out bg bh) err := by
  by_cases hi : i < (s.size : Int)
  · refine Ev.step (fun k => by rw [comp_Name.l0]) (Ev.pos hi ?_)
    rw [decide_eq_false (show ¬ (out.length : Int) < 255 by omega)]
    exact Ev.step (fun k => by rw [comp_Name.j1]) (Ev.neg (by simp) (Ev.now _))
  · exact l_end (by omega)
theorem l_short {s : ByteArray} {i : Int} {out : List Int} {bg bh b : Int} (hs : s.size ≤ 1000000) (h0 : 0 ≤ i) (h : i < (s.size : Int)) (ho : out.length < 255) (hb : Go.Proofs.YtjklgdpffmaamaaW.PrintWords.bt s i = b) (hz : b ≠ 0) (h63 : b ≤ 63) (hf : (s.size : Int) - i ≤ b) :
    Ev (fun k => comp_Name.l0 k s i out bg bh) err := by
  refine l_go h0 h ho hb hz (fun _ => ?_) (fun h => by omega)
  rw [Pu.w64 (x := (s.size : Int) - i) (by omega) (by omega), decide_eq_false (show ¬ b < (s.size : Int) - i by omega)]
  refine Ev.step (fun k => by rw [comp_Name.j2]) (Ev.neg (by simp) (Ev.neg (by omega) ?_))
  exact Ev.step (fun k => by rw [comp_Name.j3]) (Ev.neg (by simp) (Ev.now _))
theorem l_jump {s : ByteArray} {i : Int} {out : List Int} {bg bh b c tg : Int} {r : ByteArray × Int × Int} (hs : s.size ≤ 1000000) (h0 : 0 ≤ i) (h : i + 1 < (s.size : Int)) (ho : out.length < 255) (hb : Go.Proofs.YtjklgdpffmaamaaW.PrintWords.bt s i = b) (h192 : 192 ≤ b) (hc : Go.Proofs.YtjklgdpffmaamaaW.PrintWords.bt s (i + 1) = c) (htg : tg = (b - 192) * 256 + c) (hto : tg < bg)
    (k : Ev (fun k => comp_Name.l0 k s tg out tg (if bh < 0 then i + 2 else bh)) r) : Ev (fun k => comp_Name.l0 k s i out bg bh) r := by
  have r1 := Go.Proofs.YtjklgdpffmaamaaW.PrintWords.bt_range s i
  have r2 := Go.Proofs.YtjklgdpffmaamaaW.PrintWords.bt_range s (i + 1)
  rw [hb] at r1
  rw [hc] at r2
  have e := to_eq h192 r1.2 r2.1 r2.2
  refine l_go h0 (by omega) ho hb (by omega) (fun h => by omega) (fun _ => ?_)
  refine Ev.step (fun k => by rw [comp_Name.j2]) (Ev.neg (by simp) (Ev.pos (by omega) ?_))
  rw [Pu.w64 (x := i + 1) (by omega) (by omega), decide_eq_true (show i + 1 < (s.size : Int) by omega)]
  refine Ev.step (fun k => by rw [comp_Name.j3]) (Ev.pos rfl ?_)
  rw [Pu.w64 (x := i + 1) (by omega) (by omega), hc, e, ← htg]
  refine Ev.pos (by omega) (Ev.pos (by omega) (Ev.neg (by omega) ?_))
  by_cases hbh : bh < 0
  · refine Ev.pos hbh ?_
    rw [if_pos hbh] at k
    rw [Pu.w64 (x := i + 2) (by omega) (by omega)]
    exact k
  · refine Ev.neg hbh ?_
    rw [if_neg hbh] at k
    exact k
theorem meas {bg tg n l : Nat} (h : 350 * bg + 350 ≤ n + 1 + l) (h2 : tg + 1 ≤ bg) : 350 * tg + 350 ≤ n + l := by omega
theorem l_total {S : ByteArray} (hS : S.size ≤ 1000000) : ∀ (n bg i : Nat) (out : List Int) (bh : Int), 350 * bg + 350 ≤ n + out.length → out.length ≤ 330 → Ev (fun k => comp_Name.l0 k S (i : Int) out (bg : Int) bh) err ∨ ∃ r nx, Lies S bg r i nx ∧ out.length + r.size ≤ 255 := by
  intro n
  induction n with
  | zero => intro bg i out bh h h2; omega
  | succ n ih =>
    intro bg i out bh h h2
    by_cases ho : 255 ≤ out.length
    · exact .inl (l_full ho)
    by_cases hi : S.size ≤ i
    · exact .inl (l_end (by omega))
    have hb := bt_is S i
    have r0 := bt_nonneg S i
    have r1 := bt_le S i
    obtain ⟨b, eb⟩ : ∃ b : Nat, bt S i = (b : Int) := ⟨(bt S i).toNat, by omega⟩
    rw [eb] at hb r0 r1
    by_cases hz : b = 0
    · exact .inr ⟨root, i + 1, .fin bg i (by omega) (by rw [eb, hz]; rfl), by have : root.size = 1 := rfl; omega⟩
    by_cases h63 : b ≤ 63
    · by_cases hf : i + 1 + b ≤ S.size
      · have z : (S.extract i (i + 1 + b)).size = 1 + b := by rw [ByteArray.size_extract]; omega
        have e : ((i : Int) + 1 + (b : Int)) = ((i + 1 + b : Nat) : Int) := by omega
        rcases ih bg (i + 1 + b) (out ++ bytesOf (S.extract i (i + 1 + b))) bh (by rw [List.length_append, bytesOf_length, z]; omega) (by rw [List.length_append, bytesOf_length, z]; omega) with k | ⟨r, nx, k, hk⟩
        · refine .inl (l_lab (b := (b : Int)) hS (by omega) (by omega) hb (by omega) (by omega) (by omega) ?_)
          rw [e]
          exact k
        · rw [List.length_append, bytesOf_length, z] at hk
          refine .inr ⟨_, nx, .lab bg i b r nx eb (by omega) h63 hf k, ?_⟩
          rw [ByteArray.size_append, z]; omega
      · exact .inl (l_short hS (by omega) (by omega) (by omega) hb (by omega) (by omega) (by omega))
    · by_cases h192 : b < 192 ∨ S.size ≤ i + 1
      · exact .inl (l_bad hS (by omega) (by omega) (by omega) hb (by omega) (by omega))
      · have hc := bt_is S (i + 1)
        have s0 := bt_nonneg S (i + 1)
        have s1 := bt_le S (i + 1)
        obtain ⟨c, ec⟩ : ∃ c : Nat, bt S (i + 1) = (c : Int) := ⟨(bt S (i + 1)).toNat, by omega⟩
        rw [ec] at hc s0 s1
        have e1 : ((i + 1 : Nat) : Int) = (i : Int) + 1 := by omega
        rw [e1] at hc
        obtain ⟨tg, htg⟩ : ∃ tg : Nat, tg = (b - 192) * 256 + c := ⟨_, rfl⟩
        have htg2 : (tg : Int) = ((b : Int) - 192) * 256 + (c : Int) := by omega
        by_cases hto : bg ≤ tg
        · exact .inl (l_ptr hS (by omega) (by omega) (by omega) hb (by omega) hc (by omega))
        · rcases ih tg tg out (if bh < 0 then (i : Int) + 2 else bh) (meas h (by omega)) h2 with k | ⟨r, nx, k, hk⟩
          · exact .inl (l_jump hS (by omega) (by omega) (by omega) hb (by omega) hc htg2 (by omega) k)
          · exact .inr ⟨r, i + 2, .ptr bg i b c tg r nx eb ec (by omega) htg (by omega) (by omega) k, hk⟩
theorem lies_may {S : ByteArray} {bg : Nat} {r : ByteArray} {i nx : Nat} (h : Lies S bg r i nx) (hr : r.size ≤ 255) : nameB r = true := by
  induction h with
  | fin bg i h h0 => decide +kernel
  | lab bg i k r nx hb h0 h1 h _ ih =>
    have z : (S.extract i (i + 1 + k)).size = k + 1 := by rw [ByteArray.size_extract]; omega
    rw [ByteArray.size_append, z] at hr
    refine (label_ahead _ _ k h0 h1 z ?_ (ih (by omega)) (by omega)).1
    rw [bt_data, ext_list, List.getD_eq_getElem?_getD, List.getElem?_drop, List.getElem?_take_of_lt (by omega), Nat.add_zero, ← List.getD_eq_getElem?_getD, ← bt_data]
    exact hb
  | ptr _ _ _ _ _ _ _ _ _ _ _ _ _ _ ih => exact ih hr
theorem lies_next {S : ByteArray} {bg : Nat} {r : ByteArray} {i nx : Nat} (h : Lies S bg r i nx) : i < nx ∧ nx ≤ S.size := by
  induction h with
  | fin bg i h h0 => omega
  | lab bg i k r nx hb h0 h1 h _ ih => omega
  | ptr bg i b c tg r nx hb hc h0 ht hlt h _ _ => omega
/-! ### Names, data -/
abbrev no : ByteArray × Int := ((⟨#[]⟩ : ByteArray), 500)
theorem data_out {s : ByteArray} {i z t : Int} (hs : s.size ≤ 1000000) (h0 : 0 ≤ i) (h1 : 0 ≤ z) (h2 : (s.size : Int) < i + z) : Ev (fun k => comp_Data.f k s i z t) no := by
  refine Ev.neg (by omega) (Ev.neg (by omega) ?_)
  by_cases h : i > (s.size : Int)
  · exact Ev.pos h (Ev.step (fun k => by rw [comp_Data.j0]) (Ev.pos rfl (Ev.now _)))
  · refine Ev.neg h ?_
    rw [Pu.w64 (x := (s.size : Int) - i) (by omega) (by omega), decide_eq_true (show z > (s.size : Int) - i by omega)]
    exact Ev.step (fun k => by rw [comp_Data.j0]) (Ev.pos rfl (Ev.now _))
theorem data_plain_no {s : ByteArray} {i z : Nat} {t : Int} (hs : s.size ≤ 1000000) (h2 : i + z ≤ s.size) (hsh : Ev (fun k => comp_shape.f k t) (0, 0, 0)) (hm : Rd.mayD t (s.extract i (i + z)) = false) :
    Ev (fun k => comp_Data.f k s (i : Int) (z : Int) t) no := by
  refine data_in hs (by omega) (by omega) (by omega) ?_
  refine Ev.step (fun k => by rw [comp_Data.j0]) (Ev.neg (by decide) ?_)
  rw [Pu.w64 (x := (i : Int) + (z : Int)) (by omega) (by omega)]
  refine Ev.pos (by omega) (Ev.pos (by omega) (Ev.pos (by omega) (Ev.bind hsh (Ev.neg (by decide) (Ev.call (may_eq _ _ ?_) ?_)))))
  · rw [ByteArray.size_extract]; omega
  rw [show ((i : Int) + (z : Int)).toNat = i + z by omega, Int.toNat_natCast, hm]
  exact Ev.neg (by decide) (Ev.now _)
theorem data_names_no {s ns : ByteArray} {i z a more : Nat} {q e many t : Int} (hs : s.size ≤ 1000000) (hn : ns.size ≤ 600) (h2 : i + z ≤ s.size) (ha : a ≤ 100) (hmo : more ≤ 100) (hsh : Ev (fun k => comp_shape.f k t) ((a : Int), many, (more : Int))) (hmn : 0 < many)
    (hq : Ev (fun k => comp_names.f k s ((i + a : Nat) : Int) many) (ns, q, e)) (hne : e = 0 → ∃ q' : Nat, q = (q' : Int) ∧ q' ≤ s.size ∧ (q' + more = i + z → a + more ≤ z → Rd.mayD t (s.extract i (i + a) ++ ns ++ s.extract q' (i + z)) = false)) :
    Ev (fun k => comp_Data.f k s (i : Int) (z : Int) t) no := by
  refine data_in hs (by omega) (by omega) (by omega) ?_
  refine Ev.step (fun k => by rw [comp_Data.j0]) (Ev.neg (by decide) ?_)
  rw [Pu.w64 (x := (i : Int) + (z : Int)) (by omega) (by omega)]
  refine Ev.pos (by omega) (Ev.pos (by omega) (Ev.pos (by omega) (Ev.bind hsh (Ev.pos (by show many > 0; omega) ?_))))
  dsimp only
  rw [Pu.w64 (x := (a : Int) + (more : Int)) (by omega) (by omega), Pu.w64 (x := (i : Int) + (a : Int)) (by omega) (by omega), show (i : Int) + (a : Int) = ((i + a : Nat) : Int) by omega]
  by_cases ham : a + more ≤ z
  · refine Ev.neg (by omega) (Ev.bind hq ?_)
    dsimp only
    by_cases he : e = 0
    · obtain ⟨q', rfl, hql, hm⟩ := hne he
      refine Ev.pos he ?_
      rw [Pu.w64 (x := (i : Int) + (z : Int) - (more : Int)) (by omega) (by omega)]
      by_cases hqz : q' + more = i + z
      · rw [show ((q' : Int) != (i : Int) + (z : Int) - (more : Int)) = false by simp; omega]
        refine Ev.step (fun k => by rw [comp_Data.j1]) (Ev.neg (by decide) ?_)
        rw [Pu.w64 (x := (i : Int) + (a : Int)) (by omega) (by omega), show (i : Int) + (a : Int) = ((i + a : Nat) : Int) by omega, show (i : Int) + (z : Int) = ((i + z : Nat) : Int) by omega]
        simp only [Int.toNat_natCast]
        refine Ev.pos (by omega) (Ev.pos (by omega) (Ev.pos (by omega) (Ev.pos ?_ (Ev.pos (by omega) (Ev.pos (by omega) (Ev.pos (by omega) (Ev.pos ?_ (Ev.call (may_eq _ _ ?_) ?_))))))))
        · rw [ByteArray.size_extract]; omega
        · rw [ByteArray.size_append, ByteArray.size_extract, ByteArray.size_extract]; omega
        · rw [ByteArray.size_append, ByteArray.size_append, ByteArray.size_extract, ByteArray.size_extract]; omega
        rw [hm hqz ham]
        exact Ev.neg (by decide) (Ev.now _)
      · rw [show ((q' : Int) != (i : Int) + (z : Int) - (more : Int)) = true by simp; omega]
        exact Ev.step (fun k => by rw [comp_Data.j1]) (Ev.pos rfl (Ev.now _))
    · refine Ev.neg he ?_
      exact Ev.step (fun k => by rw [comp_Data.j1]) (Ev.pos rfl (Ev.now _))
  · exact Ev.pos (by omega) (Ev.now _)
theorem app_nil (s : ByteArray) : s ++ (⟨#[]⟩ : ByteArray) = s := ByteArray.append_empty
/-! ### A question, a record -/
theorem num_bad {r : Rs} {x : Int × Int × Int} (h : r.bad = true ∨ x.2.2 ≠ 0) : numV r x = (0, ⟨r.at_, true⟩) := by
  unfold numV
  rw [if_pos]
  rcases h with h | h
  · rw [h]; rfl
  · simp [h]
theorem num16_no {s : ByteArray} {i : Nat} (h : ¬ i + 2 ≤ s.size) (b : Bool) : numV ⟨(i : Int), b⟩ (u16V s (i : Int)) = (0, ⟨(i : Int), true⟩) := by
  refine num_bad (.inr ?_)
  unfold u16V
  rw [if_neg (show ¬ (0 ≤ (i : Int) ∧ (i : Int) + 2 ≤ (s.size : Int)) by omega)]
  decide
theorem num32_no {s : ByteArray} {i : Nat} (h : ¬ i + 4 ≤ s.size) (b : Bool) : numV ⟨(i : Int), b⟩ (u32V s (i : Int)) = (0, ⟨(i : Int), true⟩) := by
  refine num_bad (.inr ?_)
  unfold u32V
  rw [if_neg (show ¬ (0 ≤ (i : Int) ∧ (i : Int) + 4 ≤ (s.size : Int)) by omega)]
  decide
/-! ### Lists -/
theorem loopQ_bad {k : Nat} {S : ByteArray} (n : Nat) {r : Rs} (acc : List Qn) (h : r.bad = true) : loopQ k S n r acc = some (acc, r) := by
  cases n with
  | zero => rfl
  | succ n => unfold loopQ; rw [if_pos h]
theorem loopR_bad {k : Nat} {S : ByteArray} (n : Nat) {r : Rs} (acc : List Rr) (h : r.bad = true) : loopR k S n r acc = some (acc, r) := by
  cases n with
  | zero => rfl
  | succ n => unfold loopR; rw [if_pos h]
theorem listR_badstart {k : Nat} {S : ByteArray} (n : Nat) (j : Int) : listR k S n ⟨j, true⟩ = some ([], ⟨j, true⟩) := by
  unfold listR
  exact loopR_bad n [] rfl
end Go.Proofs.Ytjklgdpffmaamaa.Wm

namespace Go.Proofs.Ytjklgdpffmaamaa.PRf
open Go.RowKit Go.Proofs.YtjklgdpffmaamaaW.PrintWords Go.Proofs.YtjklgdpffmaamaaW.PrintLast Go.Proofs.YtjklgdpffmaamaaW.PrintMore
attribute [local go_sem] max2_int min2_int max_two min_two max_three min_three max_four min_four   -- for this text's walks alone
set_option linter.unusedVariables false
set_option linter.unusedSimpArgs false

def errW : Option Int → Value
  | none => .nilIface
  | some c => .iface 0 (.int .i64 c)
theorem errW_none : errW none = .nilIface := rfl
theorem errW_some (c : Int) : errW (some c) = .iface 0 (.int .i64 c) := rfl

-- the values' own types
/-! #### struct type 131 -/
structure S131 where
  f0 : ByteArray
  f1 : Int
end Go.Proofs.Ytjklgdpffmaamaa.PRf

namespace Go.Proofs.Ytjklgdpffmaamaa.PRf
open Go.RowKit Go.Proofs.YtjklgdpffmaamaaW.PrintWords Go.Proofs.YtjklgdpffmaamaaW.PrintLast Go.Proofs.YtjklgdpffmaamaaW.PrintMore
attribute [local go_sem] max2_int min2_int max_two min_two max_three min_three max_four min_four   -- for this text's walks alone
set_option linter.unusedVariables false
set_option linter.unusedSimpArgs false

/-! ### wimpleref1_May: function 32 -/
def wimpleref1_May.f (a0 : ByteArray) : Option (Bool) := some (Go.Proofs.Ytjklgdpffmaamaa.Nm.nameB a0)
set_option maxHeartbeats 8000000 in
set_option maxRecDepth 100000 in
theorem wimpleref1_May.calls (a0 : ByteArray) (r : Bool) (w : World) (h : wimpleref1_May.f a0 = some r) :
    Calls Try.prog 32 #[.string a0] w fun e w' => e = .returned (.bool r) ∧ Below w.heap.size w w' := by
  unfold wimpleref1_May.f at h
  simp only [Option.some.injEq] at h
  subst h
  exact Go.Proofs.Ytjklgdpffmaamaa.Nm.rmay a0 w

/-! ### wimpleref1_Num: function 54 -/
mutual
def wimpleref1_Num.j0 : Nat → ByteArray → Int → Int → Bool → Option (Int × Int × Int)
  | 0, _, _, _, _ => none
  | k + 1, x0, x1, x2, x26 => if x26 = true then (some (0, 0, 300)) else (wimpleref1_Num.l0 k x0 x1 x2 0 0)
def wimpleref1_Num.l0 : Nat → ByteArray → Int → Int → Int → Int → Option (Int × Int × Int)
  | 0, _, _, _, _, _ => none
  | k + 1, x0, x1, x2, x9, x10 => if x10 < x2 then (if 0 ≤ (wrap64 (x1 + x10)) then (if (wrap64 (x1 + x10)) < (x0.size : Int) then (wimpleref1_Num.l0 k x0 x1 x2 (Go.bits .or .i64 (wrap64 (x9 * 256)) (wrap64 (bt x0 (wrap64 (x1 + x10))))) (wrap64 (x10 + 1))) else (none)) else (none)) else (some (x9, wrap64 (x1 + x2), 0))
end
def wimpleref1_Num.f (k : Nat) (a0 : ByteArray) (a1 : Int) (a2 : Int) : Option (Int × Int × Int) := if a1 < 0 then (wimpleref1_Num.j0 k a0 a1 a2 true) else (if a1 > (a0.size : Int) then (wimpleref1_Num.j0 k a0 a1 a2 true) else (wimpleref1_Num.j0 k a0 a1 a2 (decide (a2 > (wrap64 ((a0.size : Int) - a1))))))
set_option maxHeartbeats 8000000 in
set_option maxRecDepth 100000 in
theorem wimpleref1_Num.calls (k : Nat) (a0 : ByteArray) (a1 : Int) (a2 : Int) (r1 : Int) (r2 : Int) (r3 : Int) (w : World) (h : wimpleref1_Num.f k a0 a1 a2 = some (r1, r2, r3)) :
    Calls Try.prog 54 #[.string a0, .int .i64 a1, .int .i64 a2] w fun e w' => e = .returned (.tuple #[.int .i64 r1, .int .i64 r2, .int .i64 r3]) ∧ Drawn0 w w' := by
  have H : (if a1 < 0 then (wimpleref1_Num.j0 k a0 a1 a2 true) else (if a1 > (a0.size : Int) then (wimpleref1_Num.j0 k a0 a1 a2 true) else (wimpleref1_Num.j0 k a0 a1 a2 (decide (a2 > (wrap64 ((a0.size : Int) - a1))))))) = some (r1, r2, r3) := h
  clear h
  have HC4 := Aside0.mk H
  clear H
  go_enter Try.func54, Try.ntmps54
  go_upto_region 1 with (fail)
  go_cut [26] (fun v26 wc => ∃ (kq : Nat) (x26_3 : Bool), v26 = .bool x26_3 ∧ Aside0 (wimpleref1_Num.j0 kq a0 a1 a2 x26_3 = some (r1, r2, r3)) ∧ Aside0 (kq ≤ k) ∧ Drawn0 w wc)
  case first =>
    have H := HC4.out
    clear HC4
    by_cases c5 : a1 < 0
    · rw [if_pos c5] at H
      have c5b0 : decide (a1 < 0) = true := decide_eq_true c5
      clear c5
      (first | rw [c5b0] | (simp only [i64_w, i32_w]; rw [c5b0]) | skip)
      have H' := Aside0.mk H
      clear H
      go_wp2
      go_meet
      case rel => exact ⟨_, (true), (by first | rfl | (simp; done) | (simp [*]; done)), H', ⟨by first | omega | exact Nat.le_refl _⟩, by repeat (first | exact Drawn0.refl _ | apply Drawn0.step)⟩
    · rw [if_neg c5] at H
      have c5b0 : decide (a1 < 0) = false := decide_eq_false c5
      clear c5
      (first | rw [c5b0] | (simp only [i64_w, i32_w]; rw [c5b0]) | skip)
      by_cases c6 : a1 > (a0.size : Int)
      · rw [if_pos c6] at H
        have c6b0 : decide ((a0.size : Int) < a1) = true := decide_eq_true c6
        clear c6
        have H' := Aside0.mk H
        clear H
        go_wp2
        go_meet
        case rel => exact ⟨_, (true), (by first | rfl | (simp; done) | (simp [*]; done)), H', ⟨by first | omega | exact Nat.le_refl _⟩, by repeat (first | exact Drawn0.refl _ | apply Drawn0.step)⟩
      · rw [if_neg c6] at H
        have c6b0 : decide ((a0.size : Int) < a1) = false := decide_eq_false c6
        clear c6
        have H' := Aside0.mk H
        clear H
        go_wp2
        go_meet
        case rel => exact ⟨_, (decide (a2 > (wrap64 ((a0.size : Int) - a1)))), (by first | rfl | (simp; done) | (simp [*]; done)), H', ⟨by first | omega | exact Nat.le_refl _⟩, by repeat (first | exact Drawn0.refl _ | apply Drawn0.step)⟩
  case rest =>
    clear HC4
    try clear p2
    try clear c5
    try clear c5b0
    try clear c6
    try clear c6b0
    try clear p6
    obtain ⟨kq, x26_3, rfl, HA, HJ3, ⟨mc3, rfl⟩⟩ := hcut
    cases kq with
    | zero => exact absurd HA.out (by simp [wimpleref1_Num.j0])
    | succ kj3 =>
      have H := HA.out
      clear HA
      simp only [wimpleref1_Num.j0] at H
      by_cases c7 : x26_3 = true
      · subst c7
        have H1 : (some (0, 0, 300)) = some (r1, r2, r3) := by rw [if_pos rfl] at H; exact H
        clear H
        have H := H1
        clear H1
        simp only [Option.some.injEq, Prod.mk.injEq] at H
        obtain ⟨rfl, rfl, rfl⟩ := H
        go_wp2
        go_ret3
        exact ⟨by first | rfl | (simp; done) | (simp [*]; done), by repeat (first | exact Drawn0.refl _ | apply Drawn0.step)⟩
      · replace c7 := Bool.eq_false_iff.mpr c7
        subst c7
        have H1 : (wimpleref1_Num.l0 kj3 a0 a1 a2 0 0) = some (r1, r2, r3) := by rw [if_neg (show ¬ (false = true) by decide)] at H; exact H
        clear H
        have H := H1
        clear H1
        have H' := Aside0.mk H
        clear H
        go_wp2
        go_loopg [9, 10] kj3 (fun kq v9 v10 w' => ∃ (x9_2 : Int) (x10_2 : Int), v9 = .int .i64 x9_2 ∧ v10 = .int .i64 x10_2 ∧ Aside0 (wimpleref1_Num.l0 kq a0 a1 a2 x9_2 x10_2 = some (r1, r2, r3)) ∧ Aside0 (kq ≤ kj3) ∧ Drawn0 w w')
        case atStart => exact ⟨(0), (0), (by first | rfl | (simp; done) | (simp [*]; done)), (by first | rfl | (simp; done) | (simp [*]; done)), H', ⟨Nat.le_refl _⟩, by repeat (first | exact Drawn0.refl _ | apply Drawn0.step)⟩
        case round =>
          clear H'
          try clear p2
          try clear c3
          try clear c5
          try clear c5b0
          try clear c6
          try clear c6b0
          try clear p6
          try clear c7
          try clear p2
          try clear p6
          obtain ⟨x9_2, x10_2, rfl, rfl, HA, HK2, ⟨m2, rfl⟩⟩ := hrel
          cases gk with
          | zero => exact absurd HA.out (by simp [wimpleref1_Num.l0])
          | succ k2 =>
            have H := HA.out
            clear HA
            simp only [wimpleref1_Num.l0] at H
            by_cases c8 : x10_2 < a2
            · rw [if_pos c8] at H
              have c8b0 : decide (x10_2 < a2) = true := decide_eq_true c8
              clear c8
              obtain ⟨ji9, hji9⟩ : ∃ j_ : Int, (wrap64 (a1 + x10_2)) = j_ := ⟨_, rfl⟩
              replace H : (if 0 ≤ (ji9) then (if (ji9) < (a0.size : Int) then (wimpleref1_Num.l0 k2 a0 a1 a2 (Go.bits .or .i64 (wrap64 (x9_2 * 256)) (wrap64 (bt a0 (ji9)))) (wrap64 (x10_2 + 1))) else (none)) else (none)) = some (r1, r2, r3) := by first | (rw [hji9] at H; exact H) | (simp only [hji9] at H ⊢; exact H)
              have hji9w : (IntKind.i64.wrap (a1 + x10_2)) = ji9 := (i64_w _).trans hji9
              by_cases c10 : 0 ≤ (ji9)
              · rw [if_pos c10] at H
                have c10b0 : decide (0 ≤ (ji9)) = true := decide_eq_true c10
                clear c10
                by_cases c11 : (ji9) < (a0.size : Int)
                · rw [if_pos c11] at H
                  have c11b0 : decide ((ji9) < (a0.size : Int)) = true := decide_eq_true c11
                  clear c11
                  have H' := Aside0.mk H
                  clear H
                  have p12 : 0 ≤ ((ji9) : Int) := of_decide_eq_true (by first | (with_reducible assumption) | assumption)
                  have q12 : (ji9) < (a0.size : Int) := of_decide_eq_true (by first | (with_reducible assumption) | assumption)
                  have hx12 := bt_at a0 (ji9)
                  replace p12 := eq_true p12
                  replace q12 := eq_true q12
                  go_wp2
                  go_roundg k2
                  case measure => have := HJ3.out; have := HK2.out; omega
                  case rel => exact ⟨(Go.bits .or .i64 (wrap64 (x9_2 * 256)) (wrap64 (bt a0 (ji9)))), (wrap64 (x10_2 + 1)), (by first | rfl | (simp; done) | (simp only [← hji9] <;> (first | rfl | simp)) | (simp [*]; done)), (by first | rfl | (simp; done) | (simp [*]; done)), H', ⟨by have := HJ3.out; have := HK2.out; omega⟩, by repeat (first | exact Drawn0.refl _ | apply Drawn0.step)⟩
                · rw [if_neg c11] at H
                  exact absurd H (by simp)
              · rw [if_neg c10] at H
                exact absurd H (by simp)
            · rw [if_neg c8] at H
              have c8b0 : decide (x10_2 < a2) = false := decide_eq_false c8
              clear c8
              simp only [Option.some.injEq, Prod.mk.injEq] at H
              obtain ⟨rfl, rfl, rfl⟩ := H
              go_wp2
              go_ret3
              exact ⟨by first | rfl | (simp; done) | (simp [*]; done), by repeat (first | exact Drawn0.refl _ | apply Drawn0.step)⟩

end Go.Proofs.Ytjklgdpffmaamaa.PRf

namespace Go.Proofs.Ytjklgdpffmaamaa.PRf
open Go.RowKit Go.Proofs.YtjklgdpffmaamaaW.PrintWords Go.Proofs.YtjklgdpffmaamaaW.PrintLast Go.Proofs.YtjklgdpffmaamaaW.PrintMore
attribute [local go_sem] max2_int min2_int max_two min_two max_three min_three max_four min_four   -- for this text's walks alone
set_option linter.unusedVariables false
set_option linter.unusedSimpArgs false

/-! ### wimpleref4_Name: function 79 -/
mutual
def wimpleref4_Name.l0 : Nat → ByteArray → Int → ByteArray → Int → Int → Option (ByteArray × Int × Int)
  | 0, _, _, _, _, _ => none
  | k + 1, x0, x1, x7, x8, x9 => if x1 < (x0.size : Int) then (wimpleref4_Name.j1 k x0 x1 x7 x8 x9 (decide ((x7.size : Int) ≤ 255))) else (wimpleref4_Name.j1 k x0 x1 x7 x8 x9 false)
def wimpleref4_Name.j1 : Nat → ByteArray → Int → ByteArray → Int → Int → Bool → Option (ByteArray × Int × Int)
  | 0, _, _, _, _, _, _ => none
  | k + 1, x0, x1, x7, x8, x9, x25 => if x25 = true then (if 0 ≤ x1 then (if x1 < (x0.size : Int) then (if (wrap64 (bt x0 x1)) = 0 then (if x9 < 0 then (if x7.size + 1 ≤ 9223372036854775807 then ((wimpleref1_May.f (x7 ++ (⟨#[0]⟩ : ByteArray))).bind fun t104 => (if t104 = true then (some (x7 ++ (⟨#[0]⟩ : ByteArray), wrap64 (x1 + 1), 0)) else (some ((⟨#[]⟩ : ByteArray), 0, 500)))) else (none)) else (if x7.size + 1 ≤ 9223372036854775807 then ((wimpleref1_May.f (x7 ++ (⟨#[0]⟩ : ByteArray))).bind fun t105 => (if t105 = true then (some (x7 ++ (⟨#[0]⟩ : ByteArray), x9, 0)) else (some ((⟨#[]⟩ : ByteArray), 0, 500)))) else (none))) else (if (wrap64 (bt x0 x1)) > 191 then ((wimpleref1_Num.f k x0 x1 2).bind fun bt106 => (if bt106.2.2 = 0 then (wimpleref4_Name.j2 k x0 x7 x9 bt106.1 bt106.2.1 (decide ((Go.bits .and .i64 bt106.1 16383) ≥ x8))) else (wimpleref4_Name.j2 k x0 x7 x9 bt106.1 bt106.2.1 true))) else (if (wrap64 (bt x0 x1)) > 63 then (some ((⟨#[]⟩ : ByteArray), 0, 500)) else (if (wrap64 (bt x0 x1)) > (wrap64 ((wrap64 ((x0.size : Int) - x1)) - 1)) then (some ((⟨#[]⟩ : ByteArray), 0, 500)) else (if x1 ≤ (wrap64 ((wrap64 (x1 + 1)) + (wrap64 (bt x0 x1)))) then (if (wrap64 ((wrap64 (x1 + 1)) + (wrap64 (bt x0 x1)))) ≤ (x0.size : Int) then (if x7.size + (x0.extract (x1 : Int).toNat ((wrap64 ((wrap64 (x1 + 1)) + (wrap64 (bt x0 x1)))) : Int).toNat).size ≤ 9223372036854775807 then (wimpleref4_Name.l0 k x0 (wrap64 ((wrap64 (x1 + 1)) + (wrap64 (bt x0 x1)))) (x7 ++ (x0.extract (x1 : Int).toNat ((wrap64 ((wrap64 (x1 + 1)) + (wrap64 (bt x0 x1)))) : Int).toNat)) x8 x9) else (none)) else (none)) else (none)))))) else (none)) else (none)) else (some ((⟨#[]⟩ : ByteArray), 0, 500))
def wimpleref4_Name.j2 : Nat → ByteArray → ByteArray → Int → Int → Int → Bool → Option (ByteArray × Int × Int)
  | 0, _, _, _, _, _, _ => none
  | k + 1, x0, x7, x9, x11, x12, x74 => if x74 = true then (some ((⟨#[]⟩ : ByteArray), 0, 500)) else (if x9 < 0 then (wimpleref4_Name.l0 k x0 (Go.bits .and .i64 x11 16383) x7 (Go.bits .and .i64 x11 16383) x12) else (wimpleref4_Name.l0 k x0 (Go.bits .and .i64 x11 16383) x7 (Go.bits .and .i64 x11 16383) x9))
end
def wimpleref4_Name.f (k : Nat) (a0 : ByteArray) (a1 : Int) : Option (ByteArray × Int × Int) := if a1 < 0 then (some ((⟨#[]⟩ : ByteArray), 0, 500)) else (wimpleref4_Name.l0 k a0 a1 (⟨#[]⟩ : ByteArray) a1 (-1))
set_option maxHeartbeats 8000000 in
set_option maxRecDepth 100000 in
theorem wimpleref4_Name.calls (k : Nat) (a0 : ByteArray) (a1 : Int) (r1 : ByteArray) (r2 : Int) (r3 : Int) (w : World) (h : wimpleref4_Name.f k a0 a1 = some (r1, r2, r3)) :
    Calls Try.prog 79 #[.string a0, .int .i64 a1] w fun e w' => e = .returned (.tuple #[.string r1, .int .i64 r2, .int .i64 r3]) ∧ Below w.heap.size w w' := by
  have HB := Aside0.mk (Below.refl w.heap.size w)
  have H : (if a1 < 0 then (some ((⟨#[]⟩ : ByteArray), 0, 500)) else (wimpleref4_Name.l0 k a0 a1 (⟨#[]⟩ : ByteArray) a1 (-1))) = some (r1, r2, r3) := h
  clear h
  by_cases c3 : a1 < 0
  · rw [if_pos c3] at H
    have c3b0 : decide (a1 < 0) = true := decide_eq_true c3
    clear c3
    simp only [Option.some.injEq, Prod.mk.injEq] at H
    obtain ⟨rfl, rfl, rfl⟩ := H
    go_enter Try.func79, Try.ntmps79
    go_wp2
    go_ret3
    exact ⟨by first | rfl | (simp [errW_none, errW_some] <;> rfl) | (simp [*, errW_none, errW_some] <;> rfl), by repeat (first | (with_reducible first | exact HB.out | apply below_alloc | apply pw_below_drewN | apply below_drew1) | exact HB.out)⟩
  · rw [if_neg c3] at H
    have c3b0 : decide (a1 < 0) = false := decide_eq_false c3
    clear c3
    have H' := Aside0.mk H
    clear H
    go_enter Try.func79, Try.ntmps79
    go_wp2
    go_loopg [1, 7, 8, 9] k (fun kq v1 v7 v8 v9 w' => ∃ (x1_1 : Int) (x7_1 : ByteArray) (x8_1 : Int) (x9_1 : Int), v1 = .int .i64 x1_1 ∧ v7 = .string x7_1 ∧ v8 = .int .i64 x8_1 ∧ v9 = .int .i64 x9_1 ∧ Aside0 (wimpleref4_Name.l0 kq a0 x1_1 x7_1 x8_1 x9_1 = some (r1, r2, r3)) ∧ Aside0 (kq ≤ k) ∧ Aside0 (Below w.heap.size w w'))
    case atStart => exact ⟨(a1), ((⟨#[]⟩ : ByteArray)), (a1), ((-1)), (by first | rfl | (simp; done) | (simp [*]; done)), (by first | rfl | (simp; done) | (simp [*]; done)), (by first | rfl | (simp; done) | (simp [*]; done)), (by first | rfl | (simp; done) | (simp [*]; done)), H', ⟨Nat.le_refl _⟩, ⟨by repeat (first | (with_reducible first | exact HB.out | apply below_alloc | apply pw_below_drewN | apply below_drew1) | exact HB.out)⟩⟩
    case round =>
      clear H'
      try clear p2
      try clear c3
      try clear c3b0
      obtain ⟨x1_1, x7_1, x8_1, x9_1, rfl, rfl, rfl, rfl, HA, HK1, HB⟩ := hrel
      cases gk with
      | zero => exact absurd HA.out (by simp [wimpleref4_Name.l0])
      | succ k1 =>
        have H := HA.out
        clear HA
        simp only [wimpleref4_Name.l0] at H
        have HC4 := Aside0.mk H
        clear H
        go_upto_region 5 with (fail)
        go_cut [25] (fun v25 wc => ∃ (kq : Nat) (x25_3 : Bool), v25 = .bool x25_3 ∧ Aside0 (wimpleref4_Name.j1 kq a0 x1_1 x7_1 x8_1 x9_1 x25_3 = some (r1, r2, r3)) ∧ Aside0 (kq ≤ k1) ∧ Aside0 (Below w.heap.size w wc))
        case first =>
          have H := HC4.out
          clear HC4
          by_cases c5 : x1_1 < (a0.size : Int)
          · rw [if_pos c5] at H
            have c5b0 : decide (x1_1 < (a0.size : Int)) = true := decide_eq_true c5
            clear c5
            (first | rw [c5b0] | (simp only [i64_w, i32_w]; rw [c5b0]) | skip)
            have H' := Aside0.mk H
            clear H
            go_wp2
            go_meet
            case rel => exact ⟨_, (decide ((x7_1.size : Int) ≤ 255)), (by first | rfl | (simp; done) | (simp [*]; done)), H', ⟨by have := HK1.out; first | omega | exact Nat.le_refl _⟩, ⟨by repeat (first | (with_reducible first | exact HB.out | apply below_alloc | apply pw_below_drewN | apply below_drew1) | exact HB.out)⟩⟩
          · rw [if_neg c5] at H
            have c5b0 : decide (x1_1 < (a0.size : Int)) = false := decide_eq_false c5
            clear c5
            (first | rw [c5b0] | (simp only [i64_w, i32_w]; rw [c5b0]) | skip)
            have H' := Aside0.mk H
            clear H
            go_wp2
            go_meet
            case rel => exact ⟨_, (false), (by first | rfl | (simp; done) | (simp [*]; done)), H', ⟨by have := HK1.out; first | omega | exact Nat.le_refl _⟩, ⟨by repeat (first | (with_reducible first | exact HB.out | apply below_alloc | apply pw_below_drewN | apply below_drew1) | exact HB.out)⟩⟩
        case rest =>
          clear HC4
          try clear p2
          try clear c3
          try clear c3b0
          try clear c5
          try clear c5b0
          try clear p2
          obtain ⟨kq, x25_3, rfl, HA, HJ3, HB⟩ := hcut
          cases kq with
          | zero => exact absurd HA.out (by simp [wimpleref4_Name.j1])
          | succ kj3 =>
            have H := HA.out
            clear HA
            simp only [wimpleref4_Name.j1] at H
            by_cases c6 : x25_3 = true
            · subst c6
              have H1 : (if 0 ≤ x1_1 then (if x1_1 < (a0.size : Int) then (if (wrap64 (bt a0 x1_1)) = 0 then (if x9_1 < 0 then (if x7_1.size + 1 ≤ 9223372036854775807 then ((wimpleref1_May.f (x7_1 ++ (⟨#[0]⟩ : ByteArray))).bind fun t104 => (if t104 = true then (some (x7_1 ++ (⟨#[0]⟩ : ByteArray), wrap64 (x1_1 + 1), 0)) else (some ((⟨#[]⟩ : ByteArray), 0, 500)))) else (none)) else (if x7_1.size + 1 ≤ 9223372036854775807 then ((wimpleref1_May.f (x7_1 ++ (⟨#[0]⟩ : ByteArray))).bind fun t105 => (if t105 = true then (some (x7_1 ++ (⟨#[0]⟩ : ByteArray), x9_1, 0)) else (some ((⟨#[]⟩ : ByteArray), 0, 500)))) else (none))) else (if (wrap64 (bt a0 x1_1)) > 191 then ((wimpleref1_Num.f kj3 a0 x1_1 2).bind fun bt106 => (if bt106.2.2 = 0 then (wimpleref4_Name.j2 kj3 a0 x7_1 x9_1 bt106.1 bt106.2.1 (decide ((Go.bits .and .i64 bt106.1 16383) ≥ x8_1))) else (wimpleref4_Name.j2 kj3 a0 x7_1 x9_1 bt106.1 bt106.2.1 true))) else (if (wrap64 (bt a0 x1_1)) > 63 then (some ((⟨#[]⟩ : ByteArray), 0, 500)) else (if (wrap64 (bt a0 x1_1)) > (wrap64 ((wrap64 ((a0.size : Int) - x1_1)) - 1)) then (some ((⟨#[]⟩ : ByteArray), 0, 500)) else (if x1_1 ≤ (wrap64 ((wrap64 (x1_1 + 1)) + (wrap64 (bt a0 x1_1)))) then (if (wrap64 ((wrap64 (x1_1 + 1)) + (wrap64 (bt a0 x1_1)))) ≤ (a0.size : Int) then (if x7_1.size + (a0.extract (x1_1 : Int).toNat ((wrap64 ((wrap64 (x1_1 + 1)) + (wrap64 (bt a0 x1_1)))) : Int).toNat).size ≤ 9223372036854775807 then (wimpleref4_Name.l0 kj3 a0 (wrap64 ((wrap64 (x1_1 + 1)) + (wrap64 (bt a0 x1_1)))) (x7_1 ++ (a0.extract (x1_1 : Int).toNat ((wrap64 ((wrap64 (x1_1 + 1)) + (wrap64 (bt a0 x1_1)))) : Int).toNat)) x8_1 x9_1) else (none)) else (none)) else (none)))))) else (none)) else (none)) = some (r1, r2, r3) := by rw [if_pos rfl] at H; exact H
              clear H
              have H := H1
              clear H1
              by_cases c7 : 0 ≤ x1_1
              · rw [if_pos c7] at H
                have c7b0 : decide (0 ≤ x1_1) = true := decide_eq_true c7
                clear c7
                by_cases c8 : x1_1 < (a0.size : Int)
                · rw [if_pos c8] at H
                  have c8b0 : decide (x1_1 < (a0.size : Int)) = true := decide_eq_true c8
                  clear c8
                  by_cases c10 : (wrap64 (bt a0 x1_1)) = 0
                  · rw [if_pos c10] at H
                    have c10b0 : ((wrap64 (bt a0 x1_1)) == 0) = true := beq_iff_eq.mpr c10
                    have c10b1 : ((wrap64 (bt a0 x1_1)) != 0) = false := bne_eq_false_iff_eq.mpr c10
                    clear c10
                    by_cases c11 : x9_1 < 0
                    · rw [if_pos c11] at H
                      have c11b0 : decide (x9_1 < 0) = true := decide_eq_true c11
                      clear c11
                      by_cases c12 : x7_1.size + 1 ≤ 9223372036854775807
                      · rw [if_pos c12] at H
                        have c12b0 := eq_true c12
                        have c12b1 : decide (x7_1.size + 1 ≤ 9223372036854775807) = true := decide_eq_true c12
                        try have c12b2 : (9223372036854775807 < x7_1.size + 1) = False := eq_false (Nat.not_lt.2 c12)
                        replace H := Option.bind_eq_some_iff.mp H
                        obtain ⟨t104, A130, H⟩ := H
                        replace H : (if t104 = true then (some (x7_1 ++ (⟨#[0]⟩ : ByteArray), wrap64 (x1_1 + 1), 0)) else (some ((⟨#[]⟩ : ByteArray), 0, 500))) = some (r1, r2, r3) := H
                        have A13 := Aside0.mk A130
                        clear A130
                        by_cases c14 : t104 = true
                        · subst c14
                          have H1 : (some (x7_1 ++ (⟨#[0]⟩ : ByteArray), wrap64 (x1_1 + 1), 0)) = some (r1, r2, r3) := by rw [if_pos rfl] at H; exact H
                          clear H
                          have H := H1
                          clear H1
                          simp only [Option.some.injEq, Prod.mk.injEq] at H
                          obtain ⟨rfl, rfl, rfl⟩ := H
                          have p9 : 0 ≤ (x1_1 : Int) := of_decide_eq_true (by first | (with_reducible assumption) | assumption)
                          have q9 : x1_1 < (a0.size : Int) := of_decide_eq_true (by first | (with_reducible assumption) | assumption)
                          have hx9 := bt_at a0 x1_1
                          replace p9 := eq_true p9
                          replace q9 := eq_true q9
                          go_wp2_with (first | ((with_reducible refine gate_dst (N := 53) rfl ?_); (try (refine gate_guard (by rfl) ?_; dsimp only)); (with_reducible refine gate_callee (f := 32) rfl ?_); refine goesL_ (some 53) rfl rfl Try.func32 (by kernel_rfl) rfl #[.string (x7_1 ++ (⟨#[0]⟩ : ByteArray))] rfl (by (try simp only [List.map_toArray, List.map_cons, List.map_nil]); first | done | rfl | (simp only [List.length_drop, List.length_take]; rfl)) ?_; (with_reducible refine (wimpleref1_May.calls (x7_1 ++ (⟨#[0]⟩ : ByteArray)) true _ A13.out).mono ?_); rintro e w15 ⟨rfl, hb⟩; refine ⟨_, rfl, ?_⟩; have n0_ := Aside0.mk (below_step (by repeat (first | (with_reducible first | exact HB.out | apply below_alloc | apply pw_below_drewN | apply below_drew1) | exact HB.out)) hb); clear HB; have HB := n0_; clear n0_; (try clear hb); (try clear hb2); (try clear hk); (try clear hi)))
                          go_ret3
                          exact ⟨by first | rfl | (simp [errW_none, errW_some] <;> rfl) | (simp [*, errW_none, errW_some] <;> rfl), by repeat (first | (with_reducible first | exact HB.out | apply below_alloc | apply pw_below_drewN | apply below_drew1) | exact HB.out)⟩
                        · replace c14 := Bool.eq_false_iff.mpr c14
                          subst c14
                          have H1 : (some ((⟨#[]⟩ : ByteArray), 0, 500)) = some (r1, r2, r3) := by rw [if_neg (show ¬ (false = true) by decide)] at H; exact H
                          clear H
                          have H := H1
                          clear H1
                          simp only [Option.some.injEq, Prod.mk.injEq] at H
                          obtain ⟨rfl, rfl, rfl⟩ := H
                          have p9 : 0 ≤ (x1_1 : Int) := of_decide_eq_true (by first | (with_reducible assumption) | assumption)
                          have q9 : x1_1 < (a0.size : Int) := of_decide_eq_true (by first | (with_reducible assumption) | assumption)
                          have hx9 := bt_at a0 x1_1
                          replace p9 := eq_true p9
                          replace q9 := eq_true q9
                          go_wp2_with (first | ((with_reducible refine gate_dst (N := 53) rfl ?_); (try (refine gate_guard (by rfl) ?_; dsimp only)); (with_reducible refine gate_callee (f := 32) rfl ?_); refine goesL_ (some 53) rfl rfl Try.func32 (by kernel_rfl) rfl #[.string (x7_1 ++ (⟨#[0]⟩ : ByteArray))] rfl (by (try simp only [List.map_toArray, List.map_cons, List.map_nil]); first | done | rfl | (simp only [List.length_drop, List.length_take]; rfl)) ?_; (with_reducible refine (wimpleref1_May.calls (x7_1 ++ (⟨#[0]⟩ : ByteArray)) false _ A13.out).mono ?_); rintro e w16 ⟨rfl, hb⟩; refine ⟨_, rfl, ?_⟩; have n0_ := Aside0.mk (below_step (by repeat (first | (with_reducible first | exact HB.out | apply below_alloc | apply pw_below_drewN | apply below_drew1) | exact HB.out)) hb); clear HB; have HB := n0_; clear n0_; (try clear hb); (try clear hb2); (try clear hk); (try clear hi)))
                          go_ret3
                          exact ⟨by first | rfl | (simp [errW_none, errW_some] <;> rfl) | (simp [*, errW_none, errW_some] <;> rfl), by repeat (first | (with_reducible first | exact HB.out | apply below_alloc | apply pw_below_drewN | apply below_drew1) | exact HB.out)⟩
                      · rw [if_neg c12] at H
                        exact absurd H (by simp)
                    · rw [if_neg c11] at H
                      have c11b0 : decide (x9_1 < 0) = false := decide_eq_false c11
                      clear c11
                      by_cases c17 : x7_1.size + 1 ≤ 9223372036854775807
                      · rw [if_pos c17] at H
                        have c17b0 := eq_true c17
                        have c17b1 : decide (x7_1.size + 1 ≤ 9223372036854775807) = true := decide_eq_true c17
                        try have c17b2 : (9223372036854775807 < x7_1.size + 1) = False := eq_false (Nat.not_lt.2 c17)
                        replace H := Option.bind_eq_some_iff.mp H
                        obtain ⟨t105, A180, H⟩ := H
                        replace H : (if t105 = true then (some (x7_1 ++ (⟨#[0]⟩ : ByteArray), x9_1, 0)) else (some ((⟨#[]⟩ : ByteArray), 0, 500))) = some (r1, r2, r3) := H
                        have A18 := Aside0.mk A180
                        clear A180
                        by_cases c19 : t105 = true
                        · subst c19
                          have H1 : (some (x7_1 ++ (⟨#[0]⟩ : ByteArray), x9_1, 0)) = some (r1, r2, r3) := by rw [if_pos rfl] at H; exact H
                          clear H
                          have H := H1
                          clear H1
                          simp only [Option.some.injEq, Prod.mk.injEq] at H
                          obtain ⟨rfl, rfl, rfl⟩ := H
                          have p9 : 0 ≤ (x1_1 : Int) := of_decide_eq_true (by first | (with_reducible assumption) | assumption)
                          have q9 : x1_1 < (a0.size : Int) := of_decide_eq_true (by first | (with_reducible assumption) | assumption)
                          have hx9 := bt_at a0 x1_1
                          replace p9 := eq_true p9
                          replace q9 := eq_true q9
                          go_wp2_with (first | ((with_reducible refine gate_dst (N := 53) rfl ?_); (try (refine gate_guard (by rfl) ?_; dsimp only)); (with_reducible refine gate_callee (f := 32) rfl ?_); refine goesL_ (some 53) rfl rfl Try.func32 (by kernel_rfl) rfl #[.string (x7_1 ++ (⟨#[0]⟩ : ByteArray))] rfl (by (try simp only [List.map_toArray, List.map_cons, List.map_nil]); first | done | rfl | (simp only [List.length_drop, List.length_take]; rfl)) ?_; (with_reducible refine (wimpleref1_May.calls (x7_1 ++ (⟨#[0]⟩ : ByteArray)) true _ A18.out).mono ?_); rintro e w20 ⟨rfl, hb⟩; refine ⟨_, rfl, ?_⟩; have n0_ := Aside0.mk (below_step (by repeat (first | (with_reducible first | exact HB.out | apply below_alloc | apply pw_below_drewN | apply below_drew1) | exact HB.out)) hb); clear HB; have HB := n0_; clear n0_; (try clear hb); (try clear hb2); (try clear hk); (try clear hi)))
                          go_ret3
                          exact ⟨by first | rfl | (simp [errW_none, errW_some] <;> rfl) | (simp [*, errW_none, errW_some] <;> rfl), by repeat (first | (with_reducible first | exact HB.out | apply below_alloc | apply pw_below_drewN | apply below_drew1) | exact HB.out)⟩
                        · replace c19 := Bool.eq_false_iff.mpr c19
                          subst c19
                          have H1 : (some ((⟨#[]⟩ : ByteArray), 0, 500)) = some (r1, r2, r3) := by rw [if_neg (show ¬ (false = true) by decide)] at H; exact H
                          clear H
                          have H := H1
                          clear H1
                          simp only [Option.some.injEq, Prod.mk.injEq] at H
                          obtain ⟨rfl, rfl, rfl⟩ := H
                          have p9 : 0 ≤ (x1_1 : Int) := of_decide_eq_true (by first | (with_reducible assumption) | assumption)
                          have q9 : x1_1 < (a0.size : Int) := of_decide_eq_true (by first | (with_reducible assumption) | assumption)
                          have hx9 := bt_at a0 x1_1
                          replace p9 := eq_true p9
                          replace q9 := eq_true q9
                          go_wp2_with (first | ((with_reducible refine gate_dst (N := 53) rfl ?_); (try (refine gate_guard (by rfl) ?_; dsimp only)); (with_reducible refine gate_callee (f := 32) rfl ?_); refine goesL_ (some 53) rfl rfl Try.func32 (by kernel_rfl) rfl #[.string (x7_1 ++ (⟨#[0]⟩ : ByteArray))] rfl (by (try simp only [List.map_toArray, List.map_cons, List.map_nil]); first | done | rfl | (simp only [List.length_drop, List.length_take]; rfl)) ?_; (with_reducible refine (wimpleref1_May.calls (x7_1 ++ (⟨#[0]⟩ : ByteArray)) false _ A18.out).mono ?_); rintro e w21 ⟨rfl, hb⟩; refine ⟨_, rfl, ?_⟩; have n0_ := Aside0.mk (below_step (by repeat (first | (with_reducible first | exact HB.out | apply below_alloc | apply pw_below_drewN | apply below_drew1) | exact HB.out)) hb); clear HB; have HB := n0_; clear n0_; (try clear hb); (try clear hb2); (try clear hk); (try clear hi)))
                          go_ret3
                          exact ⟨by first | rfl | (simp [errW_none, errW_some] <;> rfl) | (simp [*, errW_none, errW_some] <;> rfl), by repeat (first | (with_reducible first | exact HB.out | apply below_alloc | apply pw_below_drewN | apply below_drew1) | exact HB.out)⟩
                      · rw [if_neg c17] at H
                        exact absurd H (by simp)
                  · rw [if_neg c10] at H
                    have c10b0 : ((wrap64 (bt a0 x1_1)) == 0) = false := beq_eq_false_iff_ne.mpr c10
                    have c10b1 : ((wrap64 (bt a0 x1_1)) != 0) = true := bne_iff_ne.mpr c10
                    by_cases c22 : (wrap64 (bt a0 x1_1)) > 191
                    · rw [if_pos c22] at H
                      have c22b0 : decide (191 < (wrap64 (bt a0 x1_1))) = true := decide_eq_true c22
                      clear c22
                      replace H := Option.bind_eq_some_iff.mp H
                      obtain ⟨⟨t106, t107, t108⟩, A230, H⟩ := H
                      replace H : (if t108 = 0 then (wimpleref4_Name.j2 kj3 a0 x7_1 x9_1 t106 t107 (decide ((Go.bits .and .i64 t106 16383) ≥ x8_1))) else (wimpleref4_Name.j2 kj3 a0 x7_1 x9_1 t106 t107 true)) = some (r1, r2, r3) := H
                      have A23 := Aside0.mk A230
                      clear A230
                      have HC24 := Aside0.mk H
                      clear H
                      have p9 : 0 ≤ (x1_1 : Int) := of_decide_eq_true (by first | (with_reducible assumption) | assumption)
                      have q9 : x1_1 < (a0.size : Int) := of_decide_eq_true (by first | (with_reducible assumption) | assumption)
                      have hx9 := bt_at a0 x1_1
                      replace p9 := eq_true p9
                      replace q9 := eq_true q9
                      go_upto_region 18 with (first | ((with_reducible refine gate_dst (N := 63) rfl ?_); (try (refine gate_guard (by rfl) ?_; dsimp only)); (with_reducible refine gate_callee (f := 54) rfl ?_); refine goesL_ (some 63) rfl rfl Try.func54 (by kernel_rfl) rfl #[.string a0, .int .i64 x1_1, .int .i64 2] rfl (by (try simp only [List.map_toArray, List.map_cons, List.map_nil]); first | done | rfl | (simp only [List.length_drop, List.length_take]; rfl)) ?_; (with_reducible refine (wimpleref1_Num.calls kj3 a0 x1_1 2 t106 t107 t108 _ A23.out).mono ?_); rintro e w' ⟨rfl, ⟨nd, rfl⟩⟩; refine ⟨_, rfl, ?_⟩))
                      (try simp only [Act.put, List.setIfInBounds_toArray, List.set_cons_zero, List.set_cons_succ])
                      go_cut [74] (fun v74 wc => ∃ (kq : Nat) (x74_23 : Bool), v74 = .bool x74_23 ∧ Aside0 (wimpleref4_Name.j2 kq a0 x7_1 x9_1 t106 t107 x74_23 = some (r1, r2, r3)) ∧ Aside0 (kq ≤ kj3) ∧ Aside0 (Below w.heap.size w wc))
                      case first =>
                        have H := HC24.out
                        clear HC24
                        by_cases c25 : t108 = 0
                        · rw [if_pos c25] at H
                          have c25b0 : (t108 == 0) = true := beq_iff_eq.mpr c25
                          have c25b1 : (t108 != 0) = false := bne_eq_false_iff_eq.mpr c25
                          clear c25
                          (first | rw [c25b0] | (simp only [i64_w, i32_w]; rw [c25b0]) | skip)
                          have H' := Aside0.mk H
                          clear H
                          go_wp2
                          go_meet
                          case rel => exact ⟨_, (decide ((Go.bits .and .i64 t106 16383) ≥ x8_1)), (by first | rfl | (simp; done) | (simp [*]; done)), H', ⟨by have := HK1.out; have := HJ3.out; first | omega | exact Nat.le_refl _⟩, ⟨by repeat (first | (with_reducible first | exact HB.out | apply below_alloc | apply pw_below_drewN | apply below_drew1) | exact HB.out)⟩⟩
                        · rw [if_neg c25] at H
                          have c25b0 : (t108 == 0) = false := beq_eq_false_iff_ne.mpr c25
                          have c25b1 : (t108 != 0) = true := bne_iff_ne.mpr c25
                          (first | rw [c25b0] | (simp only [i64_w, i32_w]; rw [c25b0]) | skip)
                          have H' := Aside0.mk H
                          clear H
                          go_wp2
                          go_meet
                          case rel => exact ⟨_, (true), (by first | rfl | (simp; done) | (simp [*]; done)), H', ⟨by have := HK1.out; have := HJ3.out; first | omega | exact Nat.le_refl _⟩, ⟨by repeat (first | (with_reducible first | exact HB.out | apply below_alloc | apply pw_below_drewN | apply below_drew1) | exact HB.out)⟩⟩
                      case rest =>
                        clear HC24
                        try clear c1
                        try clear c2
                        try clear p2
                        try clear c3
                        try clear c3b0
                        try clear c5
                        try clear c5b0
                        try clear c6
                        try clear p6
                        try clear c7
                        try clear c7b0
                        try clear c8
                        try clear c8b0
                        try clear p9
                        try clear q9
                        try clear hx9
                        try clear c10
                        try clear c10b0
                        try clear c10b1
                        try clear c11
                        try clear c11b0
                        try clear c12
                        try clear c12b0
                        try clear c12b1
                        try clear c12b2
                        try clear c14
                        try clear c17
                        try clear c17b0
                        try clear c17b1
                        try clear c17b2
                        try clear c19
                        try clear c22
                        try clear c22b0
                        try clear c25
                        try clear c25b0
                        try clear c25b1
                        try clear p2
                        try clear p9
                        try clear q9
                        obtain ⟨kq, x74_23, rfl, HA, HJ23, HB⟩ := hcut
                        cases kq with
                        | zero => exact absurd HA.out (by simp [wimpleref4_Name.j2])
                        | succ kj23 =>
                          have H := HA.out
                          clear HA
                          simp only [wimpleref4_Name.j2] at H
                          by_cases c26 : x74_23 = true
                          · subst c26
                            have H1 : (some ((⟨#[]⟩ : ByteArray), 0, 500)) = some (r1, r2, r3) := by rw [if_pos rfl] at H; exact H
                            clear H
                            have H := H1
                            clear H1
                            simp only [Option.some.injEq, Prod.mk.injEq] at H
                            obtain ⟨rfl, rfl, rfl⟩ := H
                            go_wp2
                            go_ret3
                            exact ⟨by first | rfl | (simp [errW_none, errW_some] <;> rfl) | (simp [*, errW_none, errW_some] <;> rfl), by repeat (first | (with_reducible first | exact HB.out | apply below_alloc | apply pw_below_drewN | apply below_drew1) | exact HB.out)⟩
                          · replace c26 := Bool.eq_false_iff.mpr c26
                            subst c26
                            have H1 : (if x9_1 < 0 then (wimpleref4_Name.l0 kj23 a0 (Go.bits .and .i64 t106 16383) x7_1 (Go.bits .and .i64 t106 16383) t107) else (wimpleref4_Name.l0 kj23 a0 (Go.bits .and .i64 t106 16383) x7_1 (Go.bits .and .i64 t106 16383) x9_1)) = some (r1, r2, r3) := by rw [if_neg (show ¬ (false = true) by decide)] at H; exact H
                            clear H
                            have H := H1
                            clear H1
                            by_cases c27 : x9_1 < 0
                            · rw [if_pos c27] at H
                              have c27b0 : decide (x9_1 < 0) = true := decide_eq_true c27
                              clear c27
                              have H' := Aside0.mk H
                              clear H
                              go_wp2
                              go_roundg kj23
                              case measure => have := HK1.out; have := HJ3.out; have := HJ23.out; omega
                              case rel => exact ⟨(Go.bits .and .i64 t106 16383), (x7_1), (Go.bits .and .i64 t106 16383), (t107), (by first | rfl | (simp; done) | (simp [*]; done)), (by first | rfl | (simp; done) | (simp [*]; done)), (by first | rfl | (simp; done) | (simp [*]; done)), (by first | rfl | (simp; done) | (simp [*]; done)), H', ⟨by have := HK1.out; have := HJ3.out; have := HJ23.out; omega⟩, ⟨by repeat (first | (with_reducible first | exact HB.out | apply below_alloc | apply pw_below_drewN | apply below_drew1) | exact HB.out)⟩⟩
                            · rw [if_neg c27] at H
                              have c27b0 : decide (x9_1 < 0) = false := decide_eq_false c27
                              clear c27
                              have H' := Aside0.mk H
                              clear H
                              go_wp2
                              go_roundg kj23
                              case measure => have := HK1.out; have := HJ3.out; have := HJ23.out; omega
                              case rel => exact ⟨(Go.bits .and .i64 t106 16383), (x7_1), (Go.bits .and .i64 t106 16383), (x9_1), (by first | rfl | (simp; done) | (simp [*]; done)), (by first | rfl | (simp; done) | (simp [*]; done)), (by first | rfl | (simp; done) | (simp [*]; done)), (by first | rfl | (simp; done) | (simp [*]; done)), H', ⟨by have := HK1.out; have := HJ3.out; have := HJ23.out; omega⟩, ⟨by repeat (first | (with_reducible first | exact HB.out | apply below_alloc | apply pw_below_drewN | apply below_drew1) | exact HB.out)⟩⟩
                    · rw [if_neg c22] at H
                      have c22b0 : decide (191 < (wrap64 (bt a0 x1_1))) = false := decide_eq_false c22
                      clear c22
                      by_cases c28 : (wrap64 (bt a0 x1_1)) > 63
                      · rw [if_pos c28] at H
                        have c28b0 : decide (63 < (wrap64 (bt a0 x1_1))) = true := decide_eq_true c28
                        clear c28
                        simp only [Option.some.injEq, Prod.mk.injEq] at H
                        obtain ⟨rfl, rfl, rfl⟩ := H
                        have p9 : 0 ≤ (x1_1 : Int) := of_decide_eq_true (by first | (with_reducible assumption) | assumption)
                        have q9 : x1_1 < (a0.size : Int) := of_decide_eq_true (by first | (with_reducible assumption) | assumption)
                        have hx9 := bt_at a0 x1_1
                        replace p9 := eq_true p9
                        replace q9 := eq_true q9
                        go_wp2
                        go_ret3
                        exact ⟨by first | rfl | (simp [errW_none, errW_some] <;> rfl) | (simp [*, errW_none, errW_some] <;> rfl), by repeat (first | (with_reducible first | exact HB.out | apply below_alloc | apply pw_below_drewN | apply below_drew1) | exact HB.out)⟩
                      · rw [if_neg c28] at H
                        have c28b0 : decide (63 < (wrap64 (bt a0 x1_1))) = false := decide_eq_false c28
                        clear c28
                        by_cases c29 : (wrap64 (bt a0 x1_1)) > (wrap64 ((wrap64 ((a0.size : Int) - x1_1)) - 1))
                        · rw [if_pos c29] at H
                          have c29b0 : decide ((wrap64 ((wrap64 ((a0.size : Int) - x1_1)) - 1)) < (wrap64 (bt a0 x1_1))) = true := decide_eq_true c29
                          clear c29
                          simp only [Option.some.injEq, Prod.mk.injEq] at H
                          obtain ⟨rfl, rfl, rfl⟩ := H
                          have p9 : 0 ≤ (x1_1 : Int) := of_decide_eq_true (by first | (with_reducible assumption) | assumption)
                          have q9 : x1_1 < (a0.size : Int) := of_decide_eq_true (by first | (with_reducible assumption) | assumption)
                          have hx9 := bt_at a0 x1_1
                          replace p9 := eq_true p9
                          replace q9 := eq_true q9
                          go_wp2
                          go_ret3
                          exact ⟨by first | rfl | (simp [errW_none, errW_some] <;> rfl) | (simp [*, errW_none, errW_some] <;> rfl), by repeat (first | (with_reducible first | exact HB.out | apply below_alloc | apply pw_below_drewN | apply below_drew1) | exact HB.out)⟩
                        · rw [if_neg c29] at H
                          have c29b0 : decide ((wrap64 ((wrap64 ((a0.size : Int) - x1_1)) - 1)) < (wrap64 (bt a0 x1_1))) = false := decide_eq_false c29
                          clear c29
                          have c30b0 := eq_true (of_decide_eq_true (by first | (with_reducible assumption) | assumption) : 0 ≤ x1_1)
                          by_cases c31 : x1_1 ≤ (wrap64 ((wrap64 (x1_1 + 1)) + (wrap64 (bt a0 x1_1))))
                          · rw [if_pos c31] at H
                            have c31b0 := eq_true c31
                            have c31b1 : decide (x1_1 ≤ (wrap64 ((wrap64 (x1_1 + 1)) + (wrap64 (bt a0 x1_1))))) = true := decide_eq_true c31
                            by_cases c32 : (wrap64 ((wrap64 (x1_1 + 1)) + (wrap64 (bt a0 x1_1)))) ≤ (a0.size : Int)
                            · rw [if_pos c32] at H
                              have c32b0 := eq_true c32
                              have c32b1 : decide ((wrap64 ((wrap64 (x1_1 + 1)) + (wrap64 (bt a0 x1_1)))) ≤ (a0.size : Int)) = true := decide_eq_true c32
                              by_cases c33 : x7_1.size + (a0.extract (x1_1 : Int).toNat ((wrap64 ((wrap64 (x1_1 + 1)) + (wrap64 (bt a0 x1_1)))) : Int).toNat).size ≤ 9223372036854775807
                              · rw [if_pos c33] at H
                                have c33b0 := eq_true c33
                                have c33b1 : decide (x7_1.size + (a0.extract (x1_1 : Int).toNat ((wrap64 ((wrap64 (x1_1 + 1)) + (wrap64 (bt a0 x1_1)))) : Int).toNat).size ≤ 9223372036854775807) = true := decide_eq_true c33
                                try have c33b2 : (9223372036854775807 < x7_1.size + (a0.extract (x1_1 : Int).toNat ((wrap64 ((wrap64 (x1_1 + 1)) + (wrap64 (bt a0 x1_1)))) : Int).toNat).size) = False := eq_false (Nat.not_lt.2 c33)
                                have H' := Aside0.mk H
                                clear H
                                have p9 : 0 ≤ (x1_1 : Int) := of_decide_eq_true (by first | (with_reducible assumption) | assumption)
                                have q9 : x1_1 < (a0.size : Int) := of_decide_eq_true (by first | (with_reducible assumption) | assumption)
                                have hx9 := bt_at a0 x1_1
                                replace p9 := eq_true p9
                                replace q9 := eq_true q9
                                go_wp2
                                go_roundg kj3
                                case measure => have := HK1.out; have := HJ3.out; omega
                                case rel => exact ⟨(wrap64 ((wrap64 (x1_1 + 1)) + (wrap64 (bt a0 x1_1)))), (x7_1 ++ (a0.extract (x1_1 : Int).toNat ((wrap64 ((wrap64 (x1_1 + 1)) + (wrap64 (bt a0 x1_1)))) : Int).toNat)), (x8_1), (x9_1), (by first | rfl | (simp; done) | (simp [*]; done)), (by first | rfl | (simp; done) | (simp [*]; done)), (by first | rfl | (simp; done) | (simp [*]; done)), (by first | rfl | (simp; done) | (simp [*]; done)), H', ⟨by have := HK1.out; have := HJ3.out; omega⟩, ⟨by repeat (first | (with_reducible first | exact HB.out | apply below_alloc | apply pw_below_drewN | apply below_drew1) | exact HB.out)⟩⟩
                              · rw [if_neg c33] at H
                                exact absurd H (by simp)
                            · rw [if_neg c32] at H
                              exact absurd H (by simp)
                          · rw [if_neg c31] at H
                            exact absurd H (by simp)
                · rw [if_neg c8] at H
                  exact absurd H (by simp)
              · rw [if_neg c7] at H
                exact absurd H (by simp)
            · replace c6 := Bool.eq_false_iff.mpr c6
              subst c6
              have H1 : (some ((⟨#[]⟩ : ByteArray), 0, 500)) = some (r1, r2, r3) := by rw [if_neg (show ¬ (false = true) by decide)] at H; exact H
              clear H
              have H := H1
              clear H1
              simp only [Option.some.injEq, Prod.mk.injEq] at H
              obtain ⟨rfl, rfl, rfl⟩ := H
              go_wp2
              go_ret3
              exact ⟨by first | rfl | (simp [errW_none, errW_some] <;> rfl) | (simp [*, errW_none, errW_some] <;> rfl), by repeat (first | (with_reducible first | exact HB.out | apply below_alloc | apply pw_below_drewN | apply below_drew1) | exact HB.out)⟩

/-! ### wimpleref4_DataMay: function 98 -/
def wimpleref4_DataMay.f (a0 : Int) (a1 : ByteArray) : Option (Bool) := if a1.size ≤ 9223372036854775000 then some (Go.Proofs.Ytjklgdpffmaamaa.Rd.mayD a0 a1) else none
set_option maxHeartbeats 8000000 in
set_option maxRecDepth 100000 in
theorem wimpleref4_DataMay.calls (a0 : Int) (a1 : ByteArray) (r : Bool) (w : World) (h : wimpleref4_DataMay.f a0 a1 = some r) :
    Calls Try.prog 98 #[.int .i64 a0, .string a1] w fun e w' => e = .returned (.bool r) ∧ Below w.heap.size w w' := by
  unfold wimpleref4_DataMay.f at h
  split at h
  · rename_i hs
    simp only [Option.some.injEq] at h
    subst h
    exact Go.Proofs.Ytjklgdpffmaamaa.Rd.rdmay a0 a1 w hs
  · cases h

end Go.Proofs.Ytjklgdpffmaamaa.PRf

namespace Go.Proofs.Ytjklgdpffmaamaa.Wm
open Go.RowKit Go.PlainAid Go.Proofs.Ytjklgdpffmaamaa.Base Go.Proofs.Ytjklgdpffmaamaa.Oct Go.Proofs.Ytjklgdpffmaamaa.Nm Go.Proofs.Ytjklgdpffmaamaa.Wr Go.Proofs.Ytjklgdpffmaamaa.CompS Go.Proofs.Ytjklgdpffmaamaa.Pu
open Go.Proofs.Ytjklgdpffmaamaa.PCm (comp_Name.f comp_Name.l0 comp_Data.f comp_names.f comp_shape.f)
open Go.Proofs.Ytjklgdpffmaamaa.PRf (wimpleref1_Num.f wimpleref1_Num.l0 wimpleref1_Num.j0 wimpleref4_Name.f wimpleref4_Name.l0 wimpleref4_Name.j1 wimpleref4_Name.j2 wimpleref1_May.f)
open Go.Proofs.YtjklgdpffmaamaaW.PrintWords (Ev bytesOf bytesOf_length LeO)
set_option linter.unusedVariables false
/-! ### Numbers -/
theorem rn_step {s : ByteArray} {i j : Nat} {n x : Int} {r : Int × Int × Int} (hs : s.size ≤ 1000000) (h : i + j < s.size) (hj : (j : Int) < n) (h0 : 0 ≤ x) (h1 : x ≤ 16777215)
    (k : Ev (fun k => wimpleref1_Num.l0 k s (i : Int) n (x * 256 + bt s (i + j)) ((j + 1 : Nat) : Int)) r) : Ev (fun k => wimpleref1_Num.l0 k s (i : Int) n x (j : Int)) r := by
  have r0 := bt_nonneg s (i + j)
  have r1 := bt_le s (i + j)
  refine Ev.step (fun k => by rw [wimpleref1_Num.l0]) (Ev.pos hj ?_)
  rw [Pu.w64 (x := (i : Int) + (j : Int)) (by omega) (by omega), show (i : Int) + (j : Int) = ((i + j : Nat) : Int) by omega, bt_is, Pu.w64 (x := x * 256) (by omega) (by omega), Pu.w64 (x := bt s (i + j)) (by omega) (by omega),
    Pu.or_shl8 _ _ h0 (by omega) r0 (by omega), Pu.w64 (x := (j : Int) + 1) (by omega) (by omega), show (j : Int) + 1 = ((j + 1 : Nat) : Int) by omega]
  exact Ev.pos (by omega) (Ev.pos (by omega) k)
theorem rn_end {s : ByteArray} {i : Nat} {j n x : Int} (h : n ≤ j) (hi : i ≤ 1000000) (hn : 0 ≤ n) (hn2 : n ≤ 4) : Ev (fun k => wimpleref1_Num.l0 k s (i : Int) n x j) (x, (i : Int) + n, 0) := by
  refine Ev.step (fun k => by rw [wimpleref1_Num.l0]) (Ev.neg (by omega) ?_)
  rw [Pu.w64 (x := (i : Int) + n) (by omega) (by omega)]
  exact Ev.some _ fun _ => rfl
theorem rn_in {s : ByteArray} {i : Nat} {n : Int} {r : Int × Int × Int} (hs : s.size ≤ 1000000) (hn : 0 ≤ n) (h : (i : Int) + n ≤ (s.size : Int)) (k : Ev (fun k => wimpleref1_Num.l0 k s (i : Int) n 0 0) r) : Ev (fun k => wimpleref1_Num.f k s (i : Int) n) r := by
  refine Ev.neg (by omega) (Ev.neg (by omega) ?_)
  rw [Pu.w64 (x := (s.size : Int) - (i : Int)) (by omega) (by omega), decide_eq_false (by omega)]
  exact Ev.step (fun k => by rw [wimpleref1_Num.j0]) (Ev.neg (by simp) k)
theorem rn_cut {s : ByteArray} {i : Nat} {n : Int} (hs : s.size ≤ 1000000) (hn : 0 ≤ n) (hn2 : n ≤ 4) (h : (s.size : Int) < (i : Int) + n) : Ev (fun k => wimpleref1_Num.f k s (i : Int) n) (0, 0, 300) := by
  refine Ev.neg (by omega) ?_
  by_cases hi : (i : Int) > (s.size : Int)
  · exact Ev.pos hi (Ev.step (fun k => by rw [wimpleref1_Num.j0]) (Ev.pos rfl (Ev.some _ fun _ => rfl)))
  · refine Ev.neg hi ?_
    rw [Pu.w64 (x := (s.size : Int) - (i : Int)) (by omega) (by omega), decide_eq_true (by omega)]
    exact Ev.step (fun k => by rw [wimpleref1_Num.j0]) (Ev.pos rfl (Ev.some _ fun _ => rfl))
theorem rnum2 {s : ByteArray} {i : Nat} (hs : s.size ≤ 1000000) (h : i + 2 ≤ s.size) : Ev (fun k => wimpleref1_Num.f k s (i : Int) 2) (be2 s i, ((i + 2 : Nat) : Int), 0) := by
  have r0 := bt_nonneg s i
  have r1 := bt_le s i
  refine rn_in hs (by decide) (by omega) (rn_step (j := 0) hs (by omega) (by decide) (by decide) (by decide) ?_)
  refine rn_step (j := 1) hs (by omega) (by decide) (by rw [Nat.add_zero]; omega) (by rw [Nat.add_zero]; omega) ?_
  have := rn_end (s := s) (i := i) (j := ((1 + 1 : Nat) : Int)) (n := 2) (x := (0 * 256 + bt s (i + 0)) * 256 + bt s (i + 1)) (by decide) (by omega) (by decide) (by decide)
  rw [Nat.add_zero, Int.zero_mul, Int.zero_add] at this ⊢
  exact this
theorem rnum4 {s : ByteArray} {i : Nat} (hs : s.size ≤ 1000000) (h : i + 4 ≤ s.size) : Ev (fun k => wimpleref1_Num.f k s (i : Int) 4) (be4 s i, ((i + 4 : Nat) : Int), 0) := by
  have r0 := bt_nonneg s i
  have r1 := bt_le s i
  have q0 := bt_nonneg s (i + 1)
  have q1 := bt_le s (i + 1)
  have p0 := bt_nonneg s (i + 2)
  have p1 := bt_le s (i + 2)
  refine rn_in hs (by decide) (by omega) (rn_step (j := 0) hs (by omega) (by decide) (by decide) (by decide) ?_)
  rw [Nat.add_zero, Int.zero_mul, Int.zero_add]
  refine rn_step (j := 1) hs (by omega) (by decide) (by omega) (by omega) ?_
  refine rn_step (j := 2) hs (by omega) (by decide) (by omega) (by omega) ?_
  refine rn_step (j := 3) hs (by omega) (by decide) (by omega) (by omega) ?_
  exact rn_end (s := s) (i := i) (j := ((3 + 1 : Nat) : Int)) (n := 4) (by decide) (by omega) (by decide) (by decide)
/-! ### A name, round by round -/
theorem rl_end {s : ByteArray} {i : Int} {out : ByteArray} {bg bh : Int} (h : (s.size : Int) ≤ i) : Ev (fun k => wimpleref4_Name.l0 k s i out bg bh) err := by
  refine Ev.step (fun k => by rw [wimpleref4_Name.l0]) (Ev.neg (by omega) ?_)
  exact Ev.step (fun k => by rw [wimpleref4_Name.j1]) (Ev.neg (by simp) (Ev.some _ fun _ => rfl))
theorem rl_over {s : ByteArray} {i : Int} {out : ByteArray} {bg bh : Int} (h : 255 < out.size) : Ev (fun k => wimpleref4_Name.l0 k s i out bg bh) err := by
  by_cases hi : i < (s.size : Int)
  · refine Ev.step (fun k => by rw [wimpleref4_Name.l0]) (Ev.pos hi ?_)
    rw [decide_eq_false (show ¬ (out.size : Int) ≤ 255 by omega)]
    exact Ev.step (fun k => by rw [wimpleref4_Name.j1]) (Ev.neg (by simp) (Ev.some _ fun _ => rfl))
  · exact rl_end (by omega)
section
variable {s : ByteArray} {i : Nat} {out : ByteArray} {bg bh : Int} {b c : Nat} {r : ByteArray × Int × Int}
theorem rl_zero (hs : s.size ≤ 1000000) (h : i < s.size) (ho : out.size ≤ 255) (hb : bt s i = 0) : Ev (fun k => wimpleref4_Name.l0 k s (i : Int) out bg bh) (if nameB (out ++ root) = true then (out ++ root, (if bh < 0 then ((i + 1 : Nat) : Int) else bh), 0) else err) := by
  have hb' := (bt_is s i).trans hb
  refine Ev.step (fun k => by rw [wimpleref4_Name.l0]) (Ev.pos (by omega) ?_)
  rw [decide_eq_true (show (out.size : Int) ≤ 255 by omega)]
  refine Ev.step (fun k => by rw [wimpleref4_Name.j1]) (Ev.pos rfl (Ev.pos (by omega) (Ev.pos (by omega) ?_)))
  rw [hb']
  refine Ev.pos (Pu.w64 (by decide) (by decide)) ?_
  rw [Pu.w64 (x := (i : Int) + 1) (by omega) (by omega), show (i : Int) + 1 = ((i + 1 : Nat) : Int) by omega]
  by_cases hm : nameB (out ++ root) = true
  · rw [if_pos hm]
    by_cases hbh : bh < 0
    · rw [show (if bh < 0 then ((i + 1 : Nat) : Int) else bh) = ((i + 1 : Nat) : Int) from if_pos hbh]
      exact Ev.pos hbh (Ev.pos (by omega) (Ev.call rfl (Ev.pos hm (Ev.some _ fun _ => rfl))))
    · rw [show (if bh < 0 then ((i + 1 : Nat) : Int) else bh) = bh from if_neg hbh]
      exact Ev.neg hbh (Ev.pos (by omega) (Ev.call rfl (Ev.pos hm (Ev.some _ fun _ => rfl))))
  · rw [if_neg hm]
    by_cases hbh : bh < 0
    · exact Ev.pos hbh (Ev.pos (by omega) (Ev.call rfl (Ev.neg hm (Ev.some _ fun _ => rfl))))
    · exact Ev.neg hbh (Ev.pos (by omega) (Ev.call rfl (Ev.neg hm (Ev.some _ fun _ => rfl))))
theorem rl_lab (hs : s.size ≤ 1000000) (ho : out.size ≤ 255) (hb : bt s i = (b : Int)) (hz : b ≠ 0) (h63 : b ≤ 63) (hf : i + 1 + b ≤ s.size)
    (h : Ev (fun k => wimpleref4_Name.l0 k s ((i + 1 + b : Nat) : Int) (out ++ s.extract i (i + 1 + b)) bg bh) r) : Ev (fun k => wimpleref4_Name.l0 k s (i : Int) out bg bh) r := by
  have hb' := (bt_is s i).trans hb
  refine Ev.step (fun k => by rw [wimpleref4_Name.l0]) (Ev.pos (by omega) ?_)
  rw [decide_eq_true (show (out.size : Int) ≤ 255 by omega)]
  refine Ev.step (fun k => by rw [wimpleref4_Name.j1]) (Ev.pos rfl (Ev.pos (by omega) (Ev.pos (by omega) ?_)))
  rw [hb', Pu.w64 (x := (b : Int)) (by omega) (by omega)]
  refine Ev.neg (by omega) (Ev.neg (by omega) (Ev.neg (by omega) ?_))
  rw [Pu.w64 (x := (s.size : Int) - (i : Int)) (by omega) (by omega), Pu.w64 (x := (s.size : Int) - (i : Int) - 1) (by omega) (by omega), Pu.w64 (x := (i : Int) + 1) (by omega) (by omega), Pu.w64 (x := (i : Int) + 1 + (b : Int)) (by omega) (by omega), show (i : Int) + 1 + (b : Int) = ((i + 1 + b : Nat) : Int) by omega]
  simp only [Int.toNat_natCast]
  refine Ev.neg (by omega) (Ev.pos (by omega) (Ev.pos (by omega) (Ev.pos ?_ h)))
  rw [ByteArray.size_extract]; omega
theorem rl_short (hs : s.size ≤ 1000000) (h : i < s.size) (ho : out.size ≤ 255) (hb : bt s i = (b : Int)) (hz : b ≠ 0) (h191 : b ≤ 191) (hf : 63 < b ∨ s.size < i + 1 + b) : Ev (fun k => wimpleref4_Name.l0 k s (i : Int) out bg bh) err := by
  have hb' := (bt_is s i).trans hb
  refine Ev.step (fun k => by rw [wimpleref4_Name.l0]) (Ev.pos (by omega) ?_)
  rw [decide_eq_true (show (out.size : Int) ≤ 255 by omega)]
  refine Ev.step (fun k => by rw [wimpleref4_Name.j1]) (Ev.pos rfl (Ev.pos (by omega) (Ev.pos (by omega) ?_)))
  rw [hb', Pu.w64 (x := (b : Int)) (by omega) (by omega)]
  refine Ev.neg (by omega) (Ev.neg (by omega) ?_)
  by_cases h6 : 63 < b
  · exact Ev.pos (by omega) (Ev.some _ fun _ => rfl)
  · rw [Pu.w64 (x := (s.size : Int) - (i : Int)) (by omega) (by omega), Pu.w64 (x := (s.size : Int) - (i : Int) - 1) (by omega) (by omega)]
    exact Ev.neg (by omega) (Ev.pos (by omega) (Ev.some _ fun _ => rfl))
theorem rl_cut (hs : s.size ≤ 1000000) (h : i < s.size) (ho : out.size ≤ 255) (hb : bt s i = (b : Int)) (h192 : 192 ≤ b) (hf : s.size ≤ i + 1) : Ev (fun k => wimpleref4_Name.l0 k s (i : Int) out bg bh) err := by
  have hb' := (bt_is s i).trans hb
  have r1 := bt_le s i
  refine Ev.step (fun k => by rw [wimpleref4_Name.l0]) (Ev.pos (by omega) ?_)
  rw [decide_eq_true (show (out.size : Int) ≤ 255 by omega)]
  refine Ev.step (fun k => by rw [wimpleref4_Name.j1]) (Ev.pos rfl (Ev.pos (by omega) (Ev.pos (by omega) ?_)))
  rw [hb', Pu.w64 (x := (b : Int)) (by omega) (by omega)]
  refine Ev.neg (by omega) (Ev.pos (by omega) (Ev.bind (rn_cut hs (by decide) (by decide) (by omega)) (Ev.neg (by show ¬ (300 : Int) = 0; decide) ?_)))
  exact Ev.step (fun k => by rw [wimpleref4_Name.j2]) (Ev.pos rfl (Ev.some _ fun _ => rfl))
theorem rl_ptr (hs : s.size ≤ 1000000) (h : i + 1 < s.size) (ho : out.size ≤ 255) (hb : bt s i = (b : Int)) (h192 : 192 ≤ b) (hc : bt s (i + 1) = (c : Int)) 
    (h1 : bg ≤ (((b - 192) * 256 + c : Nat) : Int) → r = err) (h2 : (((b - 192) * 256 + c : Nat) : Int) < bg → Ev (fun k => wimpleref4_Name.l0 k s (((b - 192) * 256 + c : Nat) : Int) out (((b - 192) * 256 + c : Nat) : Int) (if bh < 0 then ((i + 2 : Nat) : Int) else bh)) r) :
    Ev (fun k => wimpleref4_Name.l0 k s (i : Int) out bg bh) r := by
  have hb' := (bt_is s i).trans hb
  have r1 := bt_le s i
  have r2 := bt_le s (i + 1)
  have e2 : be2 s i = (b : Int) * 256 + (c : Int) := by unfold be2; rw [hb, hc]
  have em : Go.bits .and .i64 (be2 s i) 16383 = (((b - 192) * 256 + c : Nat) : Int) := by rw [and_16383, e2]; omega
  refine Ev.step (fun k => by rw [wimpleref4_Name.l0]) (Ev.pos (by omega) ?_)
  rw [decide_eq_true (show (out.size : Int) ≤ 255 by omega)]
  refine Ev.step (fun k => by rw [wimpleref4_Name.j1]) (Ev.pos rfl (Ev.pos (by omega) (Ev.pos (by omega) ?_)))
  rw [hb', Pu.w64 (x := (b : Int)) (by omega) (by omega)]
  refine Ev.neg (by omega) (Ev.pos (by omega) (Ev.bind (rnum2 hs (by omega)) (Ev.pos rfl ?_)))
  dsimp only
  rw [em]
  by_cases hg : bg ≤ (((b - 192) * 256 + c : Nat) : Int)
  · rw [decide_eq_true (by omega), h1 hg]
    exact Ev.step (fun k => by rw [wimpleref4_Name.j2]) (Ev.pos rfl (Ev.some _ fun _ => rfl))
  · rw [decide_eq_false (by omega)]
    have h2 := h2 (by omega)
    refine Ev.step (fun k => by rw [wimpleref4_Name.j2]) (Ev.neg (by simp) ?_)
    rw [em]
    by_cases hbh : bh < 0
    · rw [if_pos hbh] at h2
      exact Ev.pos hbh h2
    · rw [if_neg hbh] at h2
      exact Ev.neg hbh h2
end
/-! ### A name -/
theorem lies_rread {S : ByteArray} (hS : S.size ≤ 1000000) {bg : Nat} {r : ByteArray} {i nx : Nat} (h : Lies S bg r i nx) : ∀ (out : ByteArray) (bh : Int), nameB (out ++ r) = true →
    Ev (fun k => wimpleref4_Name.l0 k S (i : Int) out (bg : Int) bh) (out ++ r, (if bh < 0 then (nx : Int) else bh), 0) := by
  induction h with
  | fin bg i h h0 =>
    intro out bh ho
    have z := name_size ho
    rw [ByteArray.size_append] at z
    have := rl_zero (bg := (bg : Int)) (bh := bh) hS h (show out.size ≤ 255 by omega) h0
    rw [if_pos ho] at this
    exact this
  | lab bg i k r nx hb h0 h1 h hr ih =>
    intro out bh ho
    have z := name_size ho
    rw [ByteArray.size_append, ByteArray.size_append] at z
    rw [← ByteArray.append_assoc] at ho ⊢
    exact rl_lab hS (by omega) hb (by omega) h1 h (ih _ bh ho)
  | ptr bg i b c tg r nx hb hc h0 ht hlt h hr ih =>
    intro out bh ho
    have z := name_size ho
    rw [ByteArray.size_append] at z
    subst ht
    refine rl_ptr hS h (by omega) hb h0 hc (fun h => by omega) (fun _ => ?_)
    have := ih out (if bh < 0 then ((i + 2 : Nat) : Int) else bh) ho
    by_cases hbh : bh < 0
    · rw [if_pos hbh] at this ⊢
      rw [if_neg (by omega)] at this
      exact this
    · rw [if_neg hbh] at this ⊢
      rw [if_neg hbh] at this
      exact this
theorem rmeas {bg tg n l : Nat} (h : 350 * bg + 350 ≤ n + 1 + l) (h2 : tg + 1 ≤ bg) : 350 * tg + 350 ≤ n + l := by omega
theorem name_over {s : ByteArray} (h : 255 < s.size) : nameB s = false := by
  cases e : nameB s with
  | false => rfl
  | true => have := name_size e; omega
theorem rl_total {S : ByteArray} (hS : S.size ≤ 1000000) : ∀ (n bg i : Nat) (out : ByteArray) (bh : Int), 350 * bg + 350 ≤ n + out.size → out.size ≤ 330 → Ev (fun k => wimpleref4_Name.l0 k S (i : Int) out (bg : Int) bh) err ∨ ∃ r nx, Lies S bg r i nx ∧ out.size + r.size ≤ 255 := by
  intro n
  induction n with
  | zero => intro bg i out bh h h2; omega
  | succ n ih =>
    intro bg i out bh h h2
    by_cases ho : 255 < out.size
    · exact .inl (rl_over ho)
    by_cases hi : S.size ≤ i
    · exact .inl (rl_end (by omega))
    have r0 := bt_nonneg S i
    have r1 := bt_le S i
    obtain ⟨b, eb⟩ : ∃ b : Nat, bt S i = (b : Int) := ⟨(bt S i).toNat, by omega⟩
    rw [eb] at r0 r1
    by_cases hz : b = 0
    · have z1 : root.size = 1 := rfl
      by_cases h255 : out.size = 255
      · have := rl_zero (bg := (bg : Int)) (bh := bh) hS (show i < S.size by omega) (show out.size ≤ 255 by omega) (by rw [eb, hz]; rfl)
        rw [if_neg (by rw [name_over (by rw [ByteArray.size_append]; omega)]; simp)] at this
        exact .inl this
      · exact .inr ⟨root, i + 1, .fin bg i (by omega) (by rw [eb, hz]; rfl), by omega⟩
    by_cases h63 : b ≤ 63
    · by_cases hf : i + 1 + b ≤ S.size
      · have z : (S.extract i (i + 1 + b)).size = 1 + b := by rw [ByteArray.size_extract]; omega
        rcases ih bg (i + 1 + b) (out ++ S.extract i (i + 1 + b)) bh (by rw [ByteArray.size_append, z]; omega) (by rw [ByteArray.size_append, z]; omega) with k | ⟨r, nx, k, hk⟩
        · exact .inl (rl_lab hS (by omega) eb hz h63 hf k)
        · rw [ByteArray.size_append, z] at hk
          refine .inr ⟨_, nx, .lab bg i b r nx eb (by omega) h63 hf k, ?_⟩
          rw [ByteArray.size_append, z]; omega
      · exact .inl (rl_short hS (by omega) (by omega) eb hz (by omega) (.inr (by omega)))
    · by_cases h191 : b ≤ 191
      · exact .inl (rl_short hS (by omega) (by omega) eb hz h191 (.inl (by omega)))
      · by_cases hc1 : S.size ≤ i + 1
        · exact .inl (rl_cut hS (by omega) (by omega) eb (by omega) hc1)
        · have s0 := bt_nonneg S (i + 1)
          have s1 := bt_le S (i + 1)
          obtain ⟨c, ec⟩ : ∃ c : Nat, bt S (i + 1) = (c : Int) := ⟨(bt S (i + 1)).toNat, by omega⟩
          obtain ⟨tg, htg⟩ : ∃ tg : Nat, tg = (b - 192) * 256 + c := ⟨_, rfl⟩
          by_cases hto : bg ≤ tg
          · exact .inl (rl_ptr hS (by omega) (by omega) eb (by omega) ec (fun _ => rfl) (fun h => by rw [← htg] at h; omega))
          · rcases ih tg tg out (if bh < 0 then ((i + 2 : Nat) : Int) else bh) (rmeas h (by omega)) h2 with k | ⟨r, nx, k, hk⟩
            · refine .inl (rl_ptr hS (by omega) (by omega) eb (by omega) ec (fun _ => rfl) (fun _ => ?_))
              rw [← htg]; exact k
            · exact .inr ⟨r, i + 2, .ptr bg i b c tg r nx eb ec (by omega) htg (by omega) (by omega) k, hk⟩
theorem rf_at {s : ByteArray} {i : Nat} {r : ByteArray × Int × Int} (h : Ev (fun k => wimpleref4_Name.l0 k s (i : Int) (⟨#[]⟩ : ByteArray) (i : Int) (-1)) r) : Ev (fun k => wimpleref4_Name.f k s (i : Int)) r := Ev.neg (by omega) h
/-- A name at a place: the document and comp.Name say the same. -/
theorem name_both {S : ByteArray} (hS : S.size ≤ 1000000) (i : Nat) : (Ev (fun k => comp_Name.f k S (i : Int)) err ∧ Ev (fun k => wimpleref4_Name.f k S (i : Int)) err) ∨
    ∃ r nx, nameB r = true ∧ i < nx ∧ nx ≤ S.size ∧ Ev (fun k => comp_Name.f k S (i : Int)) (r, (nx : Int), 0) ∧ Ev (fun k => wimpleref4_Name.f k S (i : Int)) (r, (nx : Int), 0) := by
  have lies : ∀ (r : ByteArray) (nx : Nat), Lies S i r i nx → r.size ≤ 255 → ∃ r nx, nameB r = true ∧ i < nx ∧ nx ≤ S.size ∧ Ev (fun k => comp_Name.f k S (i : Int)) (r, (nx : Int), 0) ∧ Ev (fun k => wimpleref4_Name.f k S (i : Int)) (r, (nx : Int), 0) := by
    intro r nx k hk
    have hn := lies_may k hk
    have h1 := k.name (S := S) hS hk
    have h2 := lies_rread hS k (⟨#[]⟩ : ByteArray) (-1) (by rw [show (⟨#[]⟩ : ByteArray) ++ r = r from ByteArray.empty_append]; exact hn)
    rw [show (⟨#[]⟩ : ByteArray) ++ r = r from ByteArray.empty_append, if_pos (by decide)] at h2
    exact ⟨r, nx, hn, (lies_next k).1, (lies_next k).2, h1, rf_at h2⟩
  rcases l_total hS (350 * i + 350) i i [] (-1) (by simp) (by simp) with k | ⟨r, nx, k, hk⟩
  · rcases rl_total hS (350 * i + 350) i i (⟨#[]⟩ : ByteArray) (-1) (by simp) (by show 0 ≤ 330; omega) with q | ⟨r, nx, q, hq⟩
    · exact .inl ⟨f_at k, rf_at q⟩
    · exact .inr (lies r nx q (by have : (⟨#[]⟩ : ByteArray).size = 0 := rfl; omega))
  · exact .inr (lies r nx k (by simpa using hk))
end Go.Proofs.Ytjklgdpffmaamaa.Wm
