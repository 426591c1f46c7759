/- The statement PadCuts: an answer that is too long is told without its parts, then without padding, then not at all, for every name, number of records and bound. -/
import Derived.Deep.RegionHeld3
import Derived.Lib.ConvBytes
import Derived.Laws.IdiomStrings
import Derived.Shelf.Strings.Builder1
import Derived.Deep.AppendLies
import Derived.Deep.LoopGhost
import Derived.Deep.CutBlock
import Derived.Test.YtjklgdpffmaamaaRows
import Derived.WalkKit
import Derived.ProofKit
import Derived.OpenShut
import Derived.ShutString
import Derived.ChangeOld
import Derived.Below
import Derived.SizedLaws
import Derived.Carry
import Derived.Test.YtjklgdpffmaamaaSr41
import Derived.Test.YtjklgdpffmaamaaSr42
namespace Go.Proofs.Ytjklgdpffmaamaa.CompS
open Go.RowKit Go.Proofs.Ytjklgdpffmaamaa.PCm Go.Proofs.YtjklgdpffmaamaaW.PrintWords Go.Proofs.Ytjklgdpffmaamaa.Pu
set_option linter.unusedVariables false
theorem f_at {s : ByteArray} {i : Nat} {r : ByteArray × Int × Int} (h : Ev (fun k => comp_Name.l0 k s (i : Int) [] (i : Int) (-1)) r) : Ev (fun k => comp_Name.f k s (i : Int)) r := Ev.neg (by omega) h
theorem l_go {s : ByteArray} {i : Int} {out : List Int} {bg bh b : Int} {r : ByteArray × Int × Int} (h0 : 0 ≤ i) (h : i < (s.size : Int)) (ho : out.length < 255) (hb : bt s i = b) (hz : b ≠ 0)
    (h1 : b ≤ 63 → Ev (fun k => comp_Name.j2 k s i out bg bh b (decide (b < wrap64 ((s.size : Int) - i)))) r) (h2 : 63 < b → Ev (fun k => comp_Name.j2 k s i out bg bh b false) r) : Ev (fun k => comp_Name.l0 k s i out bg bh) r := by
  have hr := bt_range s i
  rw [hb] at hr
  refine Ev.step (fun k => by rw [comp_Name.l0]) (Ev.pos h ?_)
  rw [decide_eq_true (show (out.length : Int) < 255 by omega)]
  refine Ev.step (fun k => by rw [comp_Name.j1]) (Ev.pos rfl (Ev.pos h0 (Ev.pos h ?_)))
  rw [hb, w64 (x := b) (by omega) (by omega)]
  refine Ev.neg hz ?_
  by_cases hc : b ≤ 63
  · exact Ev.pos hc (h1 hc)
  · exact Ev.neg hc (h2 (by omega))
theorem l_lab {s : ByteArray} {i : Int} {out : List Int} {bg bh b : Int} {r : ByteArray × Int × Int} (hs : s.size ≤ 1000000) (h0 : 0 ≤ i) (ho : out.length < 255) (hb : bt s i = b) (hz : b ≠ 0) (h63 : b ≤ 63) (hf : b < (s.size : Int) - i)
    (h : Ev (fun k => comp_Name.l0 k s (i + 1 + b) (out ++ bytesOf (s.extract i.toNat (i + 1 + b).toNat)) bg bh) r) : Ev (fun k => comp_Name.l0 k s i out bg bh) r := by
  have hr := bt_range s i
  rw [hb] at hr
  refine l_go h0 (by omega) ho hb hz (fun _ => ?_) (fun h => by omega)
  rw [w64 (x := (s.size : Int) - i) (by omega) (by omega), decide_eq_true hf]
  refine Ev.step (fun k => by rw [comp_Name.j2]) (Ev.pos rfl ?_)
  rw [w64 (x := i + 1) (by omega) (by omega), w64 (x := i + 1 + b) (by omega) (by omega), w64 (x := 1 + b) (by omega) (by omega), w64 (x := i + (1 + b)) (by omega) (by omega), show i + (1 + b) = i + 1 + b by omega]
  refine Ev.pos (by omega) (Ev.pos (by omega) (Ev.pos (by omega) (Ev.pos ?_ h)))
  rw [ByteArray.size_extract]; omega
/-- Where a pointer leads. -/
theorem to_eq {b c : Int} (hb : 192 ≤ b) (hb2 : b ≤ 255) (hc : 0 ≤ c) (hc2 : c ≤ 255) : Go.bits .or .i64 (wrap64 ((Go.bits .and .i64 b 63) * 256)) (wrap64 c) = (b - 192) * 256 + c := by
  rw [and_63, w64 (x := c) (by omega) (by omega), show b % 64 = b - 192 by omega, w64 (by omega) (by omega), or_shl8 _ _ (by omega) (by omega) hc hc2]
end Go.Proofs.Ytjklgdpffmaamaa.CompS

namespace Go.Proofs.Ytjklgdpffmaamaa.Wr
open Go.RowKit Go.PlainAid Go.Proofs.Ytjklgdpffmaamaa.Base Go.Proofs.Ytjklgdpffmaamaa.Oct Go.Proofs.Ytjklgdpffmaamaa.Nm
set_option linter.unusedVariables false
/-! ### Bytes -/
theorem ext_list (s : ByteArray) (i j : Nat) : (s.extract i j).data.toList = (s.data.toList.take j).drop i := by
  rw [ByteArray.data_extract, Array.toList_extract, List.extract_eq_take_drop, List.drop_take]
theorem ext_of {a b : ByteArray} (h : a.data.toList = b.data.toList) : a = b := ByteArray.ext (Array.ext' h)
theorem app_list (a b : ByteArray) : (a ++ b).data.toList = a.data.toList ++ b.data.toList := by rw [ByteArray.data_append, Array.toList_append]
theorem ext_join (s : ByteArray) (i j k : Nat) (h1 : i ≤ j) (h2 : j ≤ k) : s.extract i j ++ s.extract j k = s.extract i k := by
  apply ext_of
  rw [app_list, ext_list, ext_list, ext_list]
  generalize s.data.toList = l
  rw [← List.take_append_drop (j - i) ((l.take k).drop i), List.drop_drop, List.take_drop, List.take_take, show min (i + (j - i)) k = j by omega, show i + (j - i) = j by omega]
theorem ext_left (a b : ByteArray) (i j : Nat) (h : j ≤ a.size) : (a ++ b).extract i j = a.extract i j := by
  apply ext_of
  rw [ext_list, ext_list, app_list, List.take_append_of_le_length (by rw [len_data]; exact h)]
theorem ext_right (a b : ByteArray) (k : Nat) : (a ++ b).extract a.size (a.size + k) = b.extract 0 k := by
  apply ext_of
  rw [ext_list, ext_list, app_list]
  rw [List.take_append, len_data, List.drop_append, List.length_take, len_data, List.drop_eq_nil_of_le (by rw [List.length_take, len_data]; omega), show min (a.size + k) a.size = a.size by omega, show a.size - a.size = 0 by omega, show a.size + k - a.size = k by omega]
  simp
theorem ext_root {s : ByteArray} {p : Nat} (h : p + 1 = s.size) (h0 : bt s p = 0) : s.extract p s.size = root := by
  have hb := bt_data s p
  rw [h0] at hb
  have hl := len_data s
  apply ext_of
  rw [ext_list, ← h, List.take_of_length_le (by omega), List.drop_eq_getElem_cons (by omega), List.drop_eq_nil_of_le (by omega)]
  rw [List.getD_eq_getElem?_getD, List.getElem?_eq_getElem (by omega)] at hb
  have : (s.data.toList[p]'(by omega)).toNat = 0 := by simpa using hb.symm
  have : s.data.toList[p]'(by omega) = 0 := UInt8.toNat_inj.1 this
  rw [this]
/-! ### Names that lie in bytes -/
inductive Lies (S : ByteArray) : Nat → ByteArray → Nat → Nat → Prop
  | fin (bg i : Nat) (h : i < S.size) (h0 : bt S i = 0) : Lies S bg root i (i + 1)
  | lab (bg i k : Nat) (r : ByteArray) (nx : Nat) (hb : bt S i = (k : Int)) (h0 : 1 ≤ k) (h1 : k ≤ 63) (h : i + 1 + k ≤ S.size) (ih : Lies S bg r (i + 1 + k) nx) : Lies S bg (S.extract i (i + 1 + k) ++ r) i nx
  | ptr (bg i b c tg : Nat) (r : ByteArray) (nx : Nat) (hb : bt S i = (b : Int)) (hc : bt S (i + 1) = (c : Int)) (h0 : 192 ≤ b) (ht : tg = (b - 192) * 256 + c) (hlt : tg < bg) (h : i + 1 < S.size) (ih : Lies S tg r tg nx) : Lies S bg r i (i + 2)
theorem Lies.more {S : ByteArray} (T : ByteArray) {bg : Nat} {r : ByteArray} {i nx : Nat} (h : Lies S bg r i nx) : Lies (S ++ T) bg r i nx := by
  have z : (S ++ T).size = S.size + T.size := ByteArray.size_append
  induction h with
  | fin bg i h h0 => exact .fin bg i (by omega) (by rw [bt_append_left _ _ _ h]; exact h0)
  | lab bg i k r nx hb h0 h1 h _ ih =>
    have := Lies.lab (S := S ++ T) bg i k r nx (by rw [bt_append_left _ _ _ (by omega)]; exact hb) h0 h1 (by omega) ih
    rwa [ext_left _ _ _ _ h] at this
  | ptr bg i b c tg r nx hb hc h0 ht hlt h _ ih =>
    exact .ptr bg i b c tg r nx (by rw [bt_append_left _ _ _ (by omega)]; exact hb) (by rw [bt_append_left _ _ _ (by omega)]; exact hc) h0 ht hlt (by omega) ih
theorem Lies.wide {S : ByteArray} {bg bg' : Nat} {r : ByteArray} {i nx : Nat} (h : Lies S bg r i nx) (hb : bg ≤ bg') : Lies S bg' r i nx := by
  induction h generalizing bg' with
  | fin bg i h h0 => exact .fin bg' i h h0
  | lab bg i k r nx hb' h0 h1 h _ ih => exact .lab bg' i k r nx hb' h0 h1 h (ih hb)
  | ptr bg i b c tg r nx hb' hc h0 ht hlt h ih _ => exact .ptr bg' i b c tg r nx hb' hc h0 ht (by omega) h ih
theorem Lies.lt {S : ByteArray} {bg : Nat} {r : ByteArray} {i nx : Nat} (h : Lies S bg r i nx) : i < S.size := by
  cases h <;> omega
theorem Lies.pos {S : ByteArray} {bg : Nat} {r : ByteArray} {i nx : Nat} (h : Lies S bg r i nx) : 1 ≤ r.size := by
  induction h with
  | fin => decide
  | lab bg i k r nx _ _ _ _ _ ih => rw [ByteArray.size_append]; omega
  | ptr _ _ _ _ _ _ _ _ _ _ _ _ _ _ ih => exact ih
/-! ### What lies is read -/
section
open Go.Proofs.Ytjklgdpffmaamaa.PCm Go.Proofs.Ytjklgdpffmaamaa.CompS Go.Proofs.Ytjklgdpffmaamaa.Pu
open Go.Proofs.YtjklgdpffmaamaaW.PrintWords (bytesOf bytesOf_length Ev)
theorem bt_is (s : ByteArray) (i : Nat) : Go.Proofs.YtjklgdpffmaamaaW.PrintWords.bt s (i : Int) = bt s i := by
  rw [bt_bytes, bt_data, List.getD_eq_getElem?_getD, List.getD_eq_getElem?_getD, bytesOf, List.getElem?_map]
  cases s.data.toList[i]? <;> rfl
theorem Lies.read {S : ByteArray} (hS : S.size ≤ 1000000) {bg : Nat} {r : ByteArray} {i nx : Nat} (h : Lies S bg r i nx) : ∀ (out : List Int) (bh : Int), out.length + r.size ≤ 255 →
    Ev (fun k => comp_Name.l0 k S (i : Int) out (bg : Int) bh) (strOfNums (out ++ bytesOf r), (if bh < 0 then (nx : Int) else bh), 0) := by
  induction h with
  | fin bg i h h0 =>
    intro out bh ho
    have z : root.size = 1 := rfl
    have hb := bt_is S i
    rw [h0] at hb
    refine Ev.step (fun k => by rw [comp_Name.l0]) (Ev.pos (by omega) ?_)
    rw [decide_eq_true (show (out.length : Int) < 255 by omega)]
    refine Ev.step (fun k => by rw [comp_Name.j1]) (Ev.pos rfl (Ev.pos (by omega) (Ev.pos (by omega) ?_)))
    rw [hb]
    refine Ev.pos (Pu.w64 (by decide) (by decide)) ?_
    rw [show bytesOf root = [0] by decide +kernel]
    by_cases hbh : bh < 0
    · refine Ev.pos hbh (Ev.pos (by omega) ?_)
      rw [if_pos hbh, Pu.w64 (x := (i : Int) + 1) (by omega) (by omega)]
      exact Ev.some _ fun _ => rfl
    · refine Ev.neg hbh (Ev.pos (by omega) ?_)
      rw [if_neg hbh]
      exact Ev.some _ fun _ => rfl
  | lab bg i k r nx hb h0 h1 h hr ih =>
    intro out bh ho
    have z : (S.extract i (i + 1 + k)).size = k + 1 := by rw [ByteArray.size_extract]; omega
    rw [ByteArray.size_append, z] at ho
    have hp := hr.pos
    refine l_lab (b := (k : Int)) hS (by omega) (by omega) ((bt_is S i).trans hb) (by omega) (by omega) (by omega) ?_
    have e : ((i : Int) + 1 + (k : Int)) = ((i + 1 + k : Nat) : Int) := by omega
    rw [e]
    have := ih (out ++ bytesOf (S.extract i (i + 1 + k))) bh (by rw [List.length_append, bytesOf_length, z]; omega)
    rw [bytesOf_append, ← List.append_assoc]
    exact this
  | ptr bg i b c tg r nx hb hc h0 ht hlt h hr ih =>
    intro out bh ho
    have hp := hr.pos
    have hb' := (bt_is S i).trans hb
    have hc' := (bt_is S (i + 1)).trans hc
    have r1 := Go.Proofs.YtjklgdpffmaamaaW.PrintWords.bt_range S (i : Int)
    have r2 := Go.Proofs.YtjklgdpffmaamaaW.PrintWords.bt_range S ((i : Int) + 1)
    have e1 : ((i + 1 : Nat) : Int) = (i : Int) + 1 := by omega
    rw [e1] at hc'
    rw [hb'] at r1
    rw [hc'] at r2
    have hto : Go.bits .or .i64 (wrap64 ((Go.bits .and .i64 (b : Int) 63) * 256)) (wrap64 (c : Int)) = (tg : Int) := by
      rw [to_eq (by omega) r1.2 r2.1 r2.2, ht]; omega
    refine l_go (b := (b : Int)) (by omega) (by omega) (by omega) hb' (by omega) (fun h => by omega) (fun _ => ?_)
    refine Ev.step (fun k => by rw [comp_Name.j2]) (Ev.neg (by simp) (Ev.pos (by omega) ?_))
    rw [Pu.w64 (x := (i : Int) + 1) (by omega) (by omega), decide_eq_true (show (i : Int) + 1 < (S.size : Int) by omega)]
    refine Ev.step (fun k => by rw [comp_Name.j3]) (Ev.pos rfl ?_)
    rw [Pu.w64 (x := (i : Int) + 1) (by omega) (by omega)]
    refine Ev.pos (by omega) (Ev.pos (by omega) (Ev.neg ?_ ?_))
    · rw [hc', hto]; omega
    · rw [hc', hto]
      by_cases hbh : bh < 0
      · refine Ev.pos hbh ?_
        rw [if_pos hbh, Pu.w64 (x := (i : Int) + 2) (by omega) (by omega)]
        have := ih out ((i : Int) + 2) ho
        rw [if_neg (by omega)] at this
        exact this
      · refine Ev.neg hbh ?_
        rw [if_neg hbh]
        have := ih out bh ho
        rw [if_neg hbh] at this
        exact this
theorem Lies.name {S : ByteArray} (hS : S.size ≤ 1000000) {r : ByteArray} {i nx : Nat} (h : Lies S i r i nx) (hr : r.size ≤ 255) : Ev (fun k => comp_Name.f k S (i : Int)) (r, (nx : Int), 0) := by
  have := h.read hS [] (-1) (by simpa using hr)
  rw [List.nil_append, nums_bytesOf, if_pos (by decide)] at this
  exact f_at this
end
/-! ### What a writer puts behind lies -/
/-- All that is kept lies where it is said to. -/
def Known (S : ByteArray) (m : ByteArray → Option Int) : Prop := ∀ r t, m r = some t → ∃ i nx : Nat, t = (i : Int) ∧ i < 16384 ∧ Lies S i r i nx
/-- The rest of what is put behind, from a place on. -/
def tailN (s : ByteArray) (p : Nat) : Option (Nat × Nat × Int) → ByteArray
  | some (_, q, t) => s.extract p q ++ p16 (Go.bits .or .i64 49152 t)
  | none => s.extract p s.size
def wroteF (i n : Nat) : Option (Nat × Nat × Int) → Nat
  | some (j, _, _) => j - i
  | none => n
theorem p16_ptr (t : Nat) (ht : t < 16384) : bt (p16 (Go.bits .or .i64 49152 (t : Int))) 0 = ((192 + t / 256 : Nat) : Int) ∧ bt (p16 (Go.bits .or .i64 49152 (t : Int))) 1 = ((t % 256 : Nat) : Int) := by
  have e : Go.bits .or .i64 49152 (t : Int) = 49152 + (t : Int) := by
    have := Pu.or_shl 14 (by decide) 3 (t : Int) (by decide) (by omega) (by omega) (by omega)
    simpa using this
  rw [e]
  unfold p16
  constructor
  · rw [bt_nums _ 0 ((49152 + (t : Int)) / 256 % 256) (by rfl) (by omega) (by omega)]; omega
  · rw [bt_nums _ 1 ((49152 + (t : Int)) % 256) (by rfl) (by omega) (by omega)]; omega
theorem find_ge (m : ByteArray → Option Int) (s : ByteArray) : ∀ (ps : List Nat) (i j p : Nat) (t : Int), findP m s ps i = some (j, p, t) → i ≤ j ∧ m (s.extract p s.size) = some t := by
  intro ps
  induction ps with
  | nil => intro i j p t h; cases h
  | cons a ps ih =>
    intro i j p t h
    rw [findP] at h
    cases hm : m (s.extract a s.size) with
    | none => rw [hm] at h; have := ih _ _ _ _ h; exact ⟨by omega, this.2⟩
    | some u =>
      rw [hm] at h
      injection h with h
      injection h with h1 h
      injection h with h2 h3
      subst h2; subst h3
      exact ⟨by omega, hm⟩
theorem placesAt_ge (s : ByteArray) : ∀ n i, s.size - i ≤ n → ∀ p ∈ placesAt s i, i ≤ p := by
  intro n
  induction n with
  | zero => intro i h p hp; rw [placesAt, if_neg (by omega)] at hp; cases hp
  | succ n ih =>
    intro i h p hp
    rw [placesAt] at hp
    by_cases hi : i < s.size
    · rw [if_pos hi] at hp
      rcases List.mem_cons.1 hp with rfl | hp
      · exact Nat.le_refl _
      · by_cases h0 : PlainAid.bt s i = 0
        · rw [if_pos h0] at hp; cases hp
        · rw [if_neg h0] at hp
          by_cases h1 : 63 < PlainAid.bt s i
          · rw [if_pos h1] at hp; cases hp
          · rw [if_neg h1] at hp
            have := ih (i + 1 + (PlainAid.bt s i).toNat) (by omega) p hp
            omega
    · rw [if_neg hi] at hp; cases hp
theorem put_lies {S s : ByteArray} {m : ByteArray → Option Int} (hm : Known S m) (bg : Nat) (hbg : S.size ≤ bg) : ∀ (n p i : Nat), s.size - p ≤ n → nameAt s p = true → ∀ T : ByteArray, (∃ U, T = S ++ U) →
    (tailN s p (findP m s (placesAt s p).dropLast i)).size + p ≤ s.size ∧
    Lies (T ++ tailN s p (findP m s (placesAt s p).dropLast i)) bg (s.extract p s.size) T.size (T ++ tailN s p (findP m s (placesAt s p).dropLast i)).size ∧
    ∀ q ∈ (placesAt s p).dropLast.take (wroteF i (placesAt s p).dropLast.length (findP m s (placesAt s p).dropLast i)), Lies (T ++ tailN s p (findP m s (placesAt s p).dropLast i)) bg (s.extract q s.size) (T.size + (q - p)) (T ++ tailN s p (findP m s (placesAt s p).dropLast i)).size := by
  intro n
  induction n with
  | zero => intro p i h hn; rw [nameAt_out (by omega)] at hn; cases hn
  | succ n ih =>
    intro p i h hn T hT
    have hp : p < s.size := by
      by_cases h : p < s.size
      · exact h
      · rw [nameAt_out (by omega)] at hn; cases hn
    by_cases h0 : bt s p = 0
    · rw [nameAt_end hp h0] at hn
      have he : p + 1 = s.size := by simpa using hn
      have er := ext_root he h0
      rw [placesAt_end hp h0]
      show (s.extract p s.size).size + p ≤ s.size ∧ Lies (T ++ s.extract p s.size) bg (s.extract p s.size) T.size (T ++ s.extract p s.size).size ∧ _
      rw [er]
      have z : (T ++ root).size = T.size + 1 := by rw [ByteArray.size_append]; rfl
      refine ⟨by show 1 + p ≤ s.size; omega, ?_, fun q hq => by simp at hq⟩
      rw [z]
      exact .fin bg T.size (by omega) (by rw [bt_append_right _ _ _ (by omega), Nat.sub_self]; exact root_bt)
    · have h63 : bt s p ≤ 63 := by
        by_cases h1 : 63 < bt s p
        · rw [nameAt_bad hp h1] at hn; cases hn
        · omega
      rw [nameAt_next hp h0 h63] at hn
      obtain ⟨k, hk⟩ : ∃ k : Nat, bt s p = (k : Int) := ⟨(bt s p).toNat, by have := bt_nonneg s p; omega⟩
      have hk0 : 1 ≤ k := by omega
      rw [hk, Int.toNat_natCast] at hn
      have hq : p + 1 + k < s.size := by
        by_cases h : p + 1 + k < s.size
        · exact h
        · rw [nameAt_out (by omega)] at hn; cases hn
      have hd : (placesAt s p).dropLast = p :: (placesAt s (p + 1 + k)).dropLast := by
        rw [placesAt_next hp h0 h63, hk, Int.toNat_natCast, List.dropLast_cons_of_ne_nil (places_ne _ _ hn)]
      rw [hd]
      cases hmp : m (s.extract p s.size) with
      | some t =>
        obtain ⟨tg, nx, rfl, hto, hl⟩ := hm _ _ hmp
        have ef : findP m s (p :: (placesAt s (p + 1 + k)).dropLast) i = some (i, p, (tg : Int)) := by rw [findP, hmp]
        rw [ef]
        obtain ⟨U, rfl⟩ := hT
        have e : tailN s p (some (i, p, (tg : Int))) = p16 (Go.bits .or .i64 49152 (tg : Int)) := by
          show s.extract p p ++ _ = _
          simp
        rw [e]
        have z : (S ++ U ++ p16 (Go.bits .or .i64 49152 (tg : Int))).size = (S ++ U).size + 2 := by rw [ByteArray.size_append, p16_size]
        have zS : S.size ≤ (S ++ U).size := by rw [ByteArray.size_append]; omega
        have hpt := p16_ptr tg hto
        refine ⟨by rw [p16_size]; omega, ?_, fun q hq => by simp [wroteF] at hq⟩
        rw [z]
        refine .ptr bg (S ++ U).size (192 + tg / 256) (tg % 256) tg _ nx ?_ ?_ (by omega) (by omega) (by have := hl.lt; omega) (by omega) ?_
        · rw [bt_append_right _ _ _ (by omega), Nat.sub_self]; exact hpt.1
        · rw [bt_append_right _ _ _ (by omega), Nat.add_sub_cancel_left]; exact hpt.2
        · rw [ByteArray.append_assoc]; exact hl.more _
      | none =>
        have ef : findP m s (p :: (placesAt s (p + 1 + k)).dropLast) i = findP m s (placesAt s (p + 1 + k)).dropLast (i + 1) := by rw [findP, hmp]
        rw [ef]
        have IH := ih (p + 1 + k) (i + 1) (by omega) hn (T ++ s.extract p (p + 1 + k)) (by obtain ⟨U, rfl⟩ := hT; exact ⟨U ++ s.extract p (p + 1 + k), by rw [ByteArray.append_assoc]⟩)
        have hge : ∀ j q t, findP m s (placesAt s (p + 1 + k)).dropLast (i + 1) = some (j, q, t) → p + 1 + k ≤ q ∧ i + 1 ≤ j := fun j q t hf =>
          ⟨placesAt_ge s _ _ (Nat.le_refl _) q (List.dropLast_subset _ ((find_le m s _ _ _ _ _ hf).2)), (find_ge m s _ _ _ _ _ hf).1⟩
        generalize findP m s (placesAt s (p + 1 + k)).dropLast (i + 1) = f at IH hge ⊢
        have ze : (s.extract p (p + 1 + k)).size = 1 + k := by rw [ByteArray.size_extract]; omega
        have et : tailN s p f = s.extract p (p + 1 + k) ++ tailN s (p + 1 + k) f := by
          match f, hge with
          | none, _ => exact (ext_join s p (p + 1 + k) s.size (by omega) (by omega)).symm
          | some (j, q, t), hge =>
            show s.extract p q ++ _ = s.extract p (p + 1 + k) ++ (s.extract (p + 1 + k) q ++ _)
            rw [← ByteArray.append_assoc, ext_join s p (p + 1 + k) q (by omega) (hge j q t rfl).1]
        rw [et, ← ByteArray.append_assoc]
        have zT : (T ++ s.extract p (p + 1 + k)).size = T.size + 1 + k := by rw [ByteArray.size_append, ze]; omega
        obtain ⟨i1, i2, i3⟩ := IH
        rw [zT] at i2 i3
        have L : Lies (T ++ s.extract p (p + 1 + k) ++ tailN s (p + 1 + k) f) bg (s.extract p s.size) T.size (T ++ s.extract p (p + 1 + k) ++ tailN s (p + 1 + k) f).size := by
          have b0 : bt (T ++ s.extract p (p + 1 + k) ++ tailN s (p + 1 + k) f) T.size = (k : Int) := by
            rw [ByteArray.append_assoc, bt_append_right _ _ _ (by omega), Nat.sub_self, bt_append_left _ _ _ (by omega)]
            have : bt (s.extract p (p + 1 + k)) 0 = bt s p := by
              rw [bt_data, bt_data, ext_list, List.getD_eq_getElem?_getD, List.getD_eq_getElem?_getD, List.getElem?_drop, List.getElem?_take_of_lt (by omega), Nat.add_zero]
            rw [this, hk]
          have := Lies.lab bg T.size k (s.extract (p + 1 + k) s.size) _ b0 hk0 (by omega) (by rw [ByteArray.size_append, zT]; omega) i2
          rw [ByteArray.append_assoc, show T.size + 1 + k = T.size + (1 + k) by omega, ext_right T _ (1 + k), ext_left _ _ _ _ (by omega)] at this
          rw [show (s.extract p (p + 1 + k)).extract 0 (1 + k) = s.extract p (p + 1 + k) by have := ext0 (s.extract p (p + 1 + k)); rwa [ze] at this, ext_join s p (p + 1 + k) s.size (by omega) (by omega), ← ByteArray.append_assoc] at this
          exact this
        refine ⟨by rw [ByteArray.size_append, ze]; omega, L, fun q hq => ?_⟩
        have hw : wroteF i (p :: (placesAt s (p + 1 + k)).dropLast).length f = wroteF (i + 1) (placesAt s (p + 1 + k)).dropLast.length f + 1 := by
          match f, hge with
          | none, _ => rfl
          | some (j, q, t), hge => have := (hge j q t rfl).2; show j - i = j - (i + 1) + 1; omega
        rw [hw, List.take_succ_cons] at hq
        rcases List.mem_cons.1 hq with rfl | hq
        · rw [Nat.sub_self, Nat.add_zero]; exact L
        · have h3 := i3 q hq
          have := placesAt_ge s _ _ (Nat.le_refl _) q (List.dropLast_subset _ (List.mem_of_mem_take hq))
          rw [show T.size + (q - p) = T.size + 1 + k + (q - (p + 1 + k)) by omega]
          exact h3
theorem putK_inv (s x : ByteArray) (at0 : Nat) (t : Int) : ∀ (ps : List Nat) (m : ByteArray → Option Int), putK m s at0 ps x = some t → m x = some t ∨ ∃ p ∈ ps, x = s.extract p s.size ∧ t = (at0 : Int) + p := by
  intro ps
  induction ps with
  | nil => intro m h; exact .inl h
  | cons p ps ih =>
    intro m h
    rcases ih _ h with h | ⟨q, hq, h⟩
    · replace h : (if x = s.extract p s.size then some ((at0 : Int) + p) else m x) = some t := h
      by_cases e : x = s.extract p s.size
      · rw [if_pos e] at h
        injection h with h
        exact .inr ⟨p, List.mem_cons_self .., e, h.symm⟩
      · rw [if_neg e] at h; exact .inl h
    · exact .inr ⟨q, List.mem_cons_of_mem _ hq, h⟩
/-- Behind a name that was put: it lies where the bytes ended, all that is kept lies; it is no longer than it is. -/
theorem put_known {S s : ByteArray} {m : ByteArray → Option Int} (hm : Known S m) (hs : nameB s = true) (hz : S.size + s.size < 16384) :
    (outN m s).size ≤ s.size ∧ Lies (S ++ outN m s) S.size s S.size (S ++ outN m s).size ∧ Known (S ++ outN m s) (putN m s S.size) := by
  obtain ⟨h1, h2, h3⟩ := name_first hs
  have eo : outN m s = tailN s 0 (findP m s (placesAt s 0).dropLast 0) := by
    unfold outN heads places
    cases findP m s (placesAt s 0).dropLast 0 with
    | none => show s = s.extract 0 s.size; rw [ext0]
    | some r => obtain ⟨i, p, t⟩ := r; rfl
  have ew : wroteN m s = wroteF 0 (placesAt s 0).dropLast.length (findP m s (placesAt s 0).dropLast 0) := by
    unfold wroteN heads places
    cases findP m s (placesAt s 0).dropLast 0 with
    | none => rfl
    | some r => obtain ⟨i, p, t⟩ := r; rfl
  have H := put_lies hm S.size (Nat.le_refl _) s.size 0 0 (by omega) h3 S ⟨⟨#[]⟩, by apply ext_of; rw [app_list]; simp⟩
  rw [← eo, ← ew, ext0] at H
  refine ⟨by have := H.1; omega, H.2.1, fun r t hr => ?_⟩
  rcases putK_inv s r S.size t _ _ hr with hr | ⟨p, hp, rfl, rfl⟩
  · obtain ⟨i, nx, e, hi, hl⟩ := hm r t hr
    exact ⟨i, nx, e, hi, hl.more _⟩
  · have hl := H.2.2 p hp
    have hps := placesAt_mem s _ 0 (Nat.le_refl _) p (List.dropLast_subset _ (List.mem_of_mem_take hp))
    rw [Nat.sub_zero] at hl
    exact ⟨S.size + p, _, by omega, by omega, hl.wide (by omega)⟩
end Go.Proofs.Ytjklgdpffmaamaa.Wr

namespace Go.Proofs.Ytjklgdpffmaamaa.Hd
open Go.RowKit Go.PlainAid Go.Proofs.Ytjklgdpffmaamaa.Base Go.Proofs.Ytjklgdpffmaamaa.Oct
set_option linter.unusedVariables false

def bi (b : Bool) : Int := bif b then 1 else 0
theorem bi_bd (b : Bool) : 0 ≤ bi b ∧ bi b ≤ 1 := by cases b <;> decide
theorem bi_inj (b : Bool) : (bi b == 1) = b := by cases b <;> rfl
theorem bw15 (b : Bool) : bitW b 15 = 32768 * bi b := by cases b <;> rfl
theorem bw10 (b : Bool) : bitW b 10 = 1024 * bi b := by cases b <;> rfl
theorem bw9 (b : Bool) : bitW b 9 = 512 * bi b := by cases b <;> rfl
theorem bw8 (b : Bool) : bitW b 8 = 256 * bi b := by cases b <;> rfl
theorem bw7 (b : Bool) : bitW b 7 = 128 * bi b := by cases b <;> rfl
theorem orj (i : Nat) (x y : Int) (hx : 0 ≤ x) (hm : x % 2 ^ i = 0) (hx1 : x < 9223372036854775808) (hy : 0 ≤ y) (hy1 : y < 2 ^ i) (hy2 : y < 9223372036854775808) : Go.bits .or .i64 x y = x + y :=
  bits_join .i64 63 (by decide) wraps_i64 i x y hx hm (by omega) hy hy1 (by omega)
def Head.sum (h : Head) : Int := 32768 * bi h.qr + 2048 * h.op + 1024 * bi h.aa + 512 * bi h.tc + 256 * bi h.rd + 128 * bi h.ra + 16 * h.z + h.rc
theorem flags_sum (h : Head) (a0 : 0 ≤ h.op) (a1 : h.op ≤ 15) (a2 : 0 ≤ h.z) (a3 : h.z ≤ 7) (a4 : 0 ≤ h.rc) (a5 : h.rc ≤ 15) : h.flagsN = h.sum := by
  have b0 := bi_bd h.qr; have b1 := bi_bd h.aa; have b2 := bi_bd h.tc; have b3 := bi_bd h.rd; have b4 := bi_bd h.ra
  unfold Head.flagsN Head.sum
  rw [bw15, bw10, bw9, bw8, bw7]
  rw [orj 15 (32768 * bi h.qr) (h.op * 2048) (by omega) (by omega) (by omega) (by omega) (by omega) (by omega)]
  rw [orj 11 _ (1024 * bi h.aa) (by omega) (by omega) (by omega) (by omega) (by omega) (by omega)]
  rw [orj 10 _ (512 * bi h.tc) (by omega) (by omega) (by omega) (by omega) (by omega) (by omega)]
  rw [orj 9 _ (256 * bi h.rd) (by omega) (by omega) (by omega) (by omega) (by omega) (by omega)]
  rw [orj 8 _ (128 * bi h.ra) (by omega) (by omega) (by omega) (by omega) (by omega) (by omega)]
  rw [orj 7 _ (h.z * 16) (by omega) (by omega) (by omega) (by omega) (by omega) (by omega)]
  rw [orj 4 _ h.rc (by omega) (by omega) (by omega) (by omega) (by omega) (by omega)]
  omega
theorem and15 (x : Int) : Go.bits .and .i64 x 15 = x % 16 := and_mask 4 (by decide) x
theorem and7 (x : Int) : Go.bits .and .i64 x 7 = x % 8 := and_mask 3 (by decide) x

/-! ### Bytes -/
theorem be2_left (s t : ByteArray) (i : Nat) (h : i + 2 ≤ s.size) : be2 (s ++ t) i = be2 s i := by
  unfold be2; rw [bt_append_left _ _ _ (by omega), bt_append_left _ _ _ (by omega)]
theorem be2_right (s t : ByteArray) (i : Nat) (h : s.size ≤ i) : be2 (s ++ t) i = be2 t (i - s.size) := by
  unfold be2; rw [bt_append_right _ _ _ (by omega), bt_append_right _ _ _ (by omega), show i + 1 - s.size = i - s.size + 1 by omega]
theorem be2_p16 (x : Int) (h0 : 0 ≤ x) (h1 : x ≤ 65535) : be2 (p16 x) 0 = x := by
  unfold be2 p16
  rw [bt_nums _ 0 (x / 256 % 256) rfl (by omega) (by omega), bt_nums _ 1 (x % 256) rfl (by omega) (by omega)]
  omega
theorem putS_size (h : Head) (a b c d : Int) : (h.putS a b c d).size = 12 := by
  simp [Head.putS, ByteArray.size_append, p16_size]
/-- Two bytes, then the rest. -/
theorem be2_at (s t : ByteArray) (x : Int) (i : Nat) (hs : s.size = i) (h0 : 0 ≤ x) (h1 : x ≤ 65535) : be2 (s ++ p16 x ++ t) i = x := by
  subst hs
  rw [be2_left _ _ _ (by rw [ByteArray.size_append, p16_size]; omega), be2_right _ _ _ (by omega), Nat.sub_self, be2_p16 x h0 h1]
theorem flagsW_sum (h : Head) (hk : h.ok) : h.flagsW = h.sum := by
  obtain ⟨_, k1, k2, k3⟩ := hk
  rw [flags_eq h k1.1 k1.2 k3.1 k3.2, flags_sum h k1.1 k1.2 k3.1 k3.2 k2.1 k2.2]
theorem sum_bd (h : Head) (hk : h.ok) : 0 ≤ h.sum ∧ h.sum ≤ 65535 := by
  obtain ⟨_, k1, k2, k3⟩ := hk
  have b0 := bi_bd h.qr; have b1 := bi_bd h.aa; have b2 := bi_bd h.tc; have b3 := bi_bd h.rd; have b4 := bi_bd h.ra
  unfold Head.sum; omega
theorem bitB_of (f k : Int) (p : Int) (b : Bool) (hp : bitB f k = (Go.bits .and .i64 (f / p) 1 == 1)) (h : f / p % 2 = bi b) : bitB f k = b := by
  rw [hp, and_1, h]; exact bi_inj b
theorem back (h : Head) (a b c d : Int) (t : ByteArray) (hm : mayB h a b c d = true) : gotH (h.putS a b c d ++ t) = h ∧ gotC (h.putS a b c d ++ t) 4 = a ∧ gotC (h.putS a b c d ++ t) 6 = b ∧ gotC (h.putS a b c d ++ t) 8 = c ∧ gotC (h.putS a b c d ++ t) 10 = d ∧ gotE (h.putS a b c d ++ t) = 0 := by
  obtain ⟨⟨h0, h1, h2, h3⟩, hk⟩ := of_decide_eq_true hm
  have hz : 12 ≤ (h.putS a b c d ++ t).size := by rw [ByteArray.size_append, putS_size]; omega
  have hf := flagsW_sum h hk
  have hb := sum_bd h hk
  rw [gotH_yes hz, gotC_yes hz, gotC_yes hz, gotC_yes hz, gotC_yes hz, gotE_yes hz]
  have e0 : be2 (h.putS a b c d ++ t) 0 = h.id := by
    unfold Head.putS
    rw [show p16 h.id ++ p16 h.flagsW ++ p16 a ++ p16 b ++ p16 c ++ p16 d ++ t = ByteArray.empty ++ p16 h.id ++ (p16 h.flagsW ++ p16 a ++ p16 b ++ p16 c ++ p16 d ++ t) by simp [ByteArray.append_assoc]]
    exact be2_at _ _ _ _ rfl hk.1.1 hk.1.2
  have e2 : be2 (h.putS a b c d ++ t) 2 = h.sum := by
    unfold Head.putS
    rw [show p16 h.id ++ p16 h.flagsW ++ p16 a ++ p16 b ++ p16 c ++ p16 d ++ t = p16 h.id ++ p16 h.flagsW ++ (p16 a ++ p16 b ++ p16 c ++ p16 d ++ t) by simp [ByteArray.append_assoc], hf]
    exact be2_at _ _ _ _ (p16_size _) hb.1 hb.2
  have e4 : be2 (h.putS a b c d ++ t) 4 = a := by
    unfold Head.putS
    rw [show p16 h.id ++ p16 h.flagsW ++ p16 a ++ p16 b ++ p16 c ++ p16 d ++ t = (p16 h.id ++ p16 h.flagsW) ++ p16 a ++ (p16 b ++ p16 c ++ p16 d ++ t) by simp [ByteArray.append_assoc]]
    exact be2_at _ _ _ _ (by simp [ByteArray.size_append, p16_size]) h0.1 h0.2
  have e6 : be2 (h.putS a b c d ++ t) 6 = b := by
    unfold Head.putS
    rw [show p16 h.id ++ p16 h.flagsW ++ p16 a ++ p16 b ++ p16 c ++ p16 d ++ t = (p16 h.id ++ p16 h.flagsW ++ p16 a) ++ p16 b ++ (p16 c ++ p16 d ++ t) by simp [ByteArray.append_assoc]]
    exact be2_at _ _ _ _ (by simp [ByteArray.size_append, p16_size]) h1.1 h1.2
  have e8 : be2 (h.putS a b c d ++ t) 8 = c := by
    unfold Head.putS
    rw [show p16 h.id ++ p16 h.flagsW ++ p16 a ++ p16 b ++ p16 c ++ p16 d ++ t = (p16 h.id ++ p16 h.flagsW ++ p16 a ++ p16 b) ++ p16 c ++ (p16 d ++ t) by simp [ByteArray.append_assoc]]
    exact be2_at _ _ _ _ (by simp [ByteArray.size_append, p16_size]) h2.1 h2.2
  have e10 : be2 (h.putS a b c d ++ t) 10 = d := by
    unfold Head.putS
    exact be2_at _ _ _ _ (by simp [ByteArray.size_append, p16_size]) h3.1 h3.2
  refine ⟨?_, e4, e6, e8, e10, rfl⟩
  obtain ⟨_, k1, k2, k3⟩ := hk
  have b0 := bi_bd h.qr; have b1 := bi_bd h.aa; have b2 := bi_bd h.tc; have b3 := bi_bd h.rd; have b4 := bi_bd h.ra
  unfold getH
  rw [e0, e2, and15, and15, and7]
  have s0 : h.sum = 32768 * bi h.qr + 2048 * h.op + 1024 * bi h.aa + 512 * bi h.tc + 256 * bi h.rd + 128 * bi h.ra + 16 * h.z + h.rc := rfl
  rw [bitB_of _ _ _ h.qr (bitB15 _) (by omega), bitB_of _ _ _ h.aa (bitB10 _) (by omega), bitB_of _ _ _ h.tc (bitB9 _) (by omega), bitB_of _ _ _ h.rd (bitB8 _) (by omega), bitB_of _ _ _ h.ra (bitB7 _) (by omega)]
  rw [show h.sum / 2048 % 16 = h.op by omega, show h.sum / 16 % 8 = h.z by omega, show h.sum % 16 = h.rc by omega]

/-! ### Any twelve bytes -/
end Go.Proofs.Ytjklgdpffmaamaa.Hd

namespace Go.Proofs.Ytjklgdpffmaamaa.Wm
open Go.RowKit Go.PlainAid Go.Proofs.Ytjklgdpffmaamaa.Base Go.Proofs.Ytjklgdpffmaamaa.Oct Go.Proofs.Ytjklgdpffmaamaa.Nm Go.Proofs.Ytjklgdpffmaamaa.Wr Go.Proofs.Ytjklgdpffmaamaa.PCm Go.Proofs.Ytjklgdpffmaamaa.CompS Go.Proofs.Ytjklgdpffmaamaa.Pu
open Go.Proofs.YtjklgdpffmaamaaW.PrintWords (Ev bytesOf bytesOf_length LeO)
set_option linter.unusedVariables false
/-! ### A name that lies uncompressed -/
theorem find_none (s : ByteArray) : ∀ (ps : List Nat) (i : Nat), findP (fun _ => none) s ps i = none
  | [], _ => rfl
  | p :: ps, i => by rw [findP]; exact find_none s ps (i + 1)
theorem outN_plain (s : ByteArray) : outN (fun _ => none) s = s := by
  unfold outN; rw [find_none]
/-! ### Data -/
/-! ### A question, a record -/
end Go.Proofs.Ytjklgdpffmaamaa.Wm

namespace Go.Proofs.Ytjklgdpffmaamaa.Wm
open Go.RowKit Go.PlainAid Go.Proofs.Ytjklgdpffmaamaa.Base Go.Proofs.Ytjklgdpffmaamaa.Oct Go.Proofs.Ytjklgdpffmaamaa.Nm Go.Proofs.Ytjklgdpffmaamaa.Wr Go.Proofs.Ytjklgdpffmaamaa.PCm Go.Proofs.Ytjklgdpffmaamaa.CompS Go.Proofs.Ytjklgdpffmaamaa.Pu
open Go.Proofs.YtjklgdpffmaamaaW.PrintWords (Ev bytesOf bytesOf_length LeO)
set_option linter.unusedVariables false
/-! ### The writer's state -/
theorem raw_ok {st : St} {s : ByteArray} (h : (rawSt st s).lg = false) : st.lg = false ∧ st.S.size + s.size ≤ 4096 ∧ rawSt st s = ⟨st.S ++ s, st.m, false⟩ := by
  unfold rawSt at h ⊢
  by_cases c : 4096 < st.S.size + s.size
  · rw [if_pos c] at h; cases h
  · rw [if_neg c] at h ⊢
    have h : st.lg = false := h
    exact ⟨h, by omega, by rw [h]⟩
theorem name_ok {st : St} {n : ByteArray} (h : (nameSt st n).lg = false) : nameB n = true ∧ st.lg = false ∧ st.S.size + (outN st.m n).size ≤ 4096 ∧ nameSt st n = ⟨st.S ++ outN st.m n, putN st.m n st.S.size, false⟩ := by
  unfold nameSt at h ⊢
  by_cases b : nameB n = true
  · rw [if_pos b] at h ⊢
    by_cases c : 4096 < st.S.size + (outN st.m n).size
    · rw [if_pos c] at h; cases h
    · rw [if_neg c] at h ⊢
      have h : st.lg = false := h
      exact ⟨b, h, by omega, by rw [h]⟩
  · rw [if_neg b] at h; cases h
/-- All is well with the writer: what it keeps lies where it says. -/
structure Good (st : St) : Prop where
  known : Known st.S st.m
  size : st.S.size ≤ 4096
  lg : st.lg = false
theorem known_more {S : ByteArray} {m : ByteArray → Option Int} (h : Known S m) (T : ByteArray) : Known (S ++ T) m := fun r t hr => by
  obtain ⟨i, nx, e, hi, hl⟩ := h r t hr
  exact ⟨i, nx, e, hi, hl.more T⟩
theorem Good.raw {st : St} (H : st.lg = false → Good st) {s : ByteArray} (h : (rawSt st s).lg = false) : Good (rawSt st s) := by
  obtain ⟨h1, h2, h3⟩ := raw_ok h
  rw [h3]
  exact ⟨known_more (H h1).known s, by show (st.S ++ s).size ≤ 4096; rw [ByteArray.size_append]; exact h2, rfl⟩
theorem name_size {n : ByteArray} (h : nameB n = true) : n.size ≤ 255 := (name_first h).2.1
theorem Good.name {st : St} (H : st.lg = false → Good st) {n : ByteArray} (h : (nameSt st n).lg = false) : Good (nameSt st n) := by
  obtain ⟨h0, h1, h2, h3⟩ := name_ok h
  have hn := name_size h0
  have hz := (H h1).size
  rw [h3]
  exact ⟨(put_known (H h1).known h0 (by omega)).2.2, by show (st.S ++ _).size ≤ 4096; rw [ByteArray.size_append]; exact h2, rfl⟩
/-! ### Numbers -/
theorem inB_iff {x lo hi : Int} : inB x lo hi = true ↔ lo ≤ x ∧ x ≤ hi := by unfold inB; simp
/-! ### A question -/
theorem qSt_ok {st : St} {n : ByteArray} {t c : Int} (h : (qSt st n t c).lg = false) : nameB n = true ∧ st.lg = false ∧ st.S.size + (outN st.m n).size + 4 ≤ 4096 ∧ qSt st n t c = ⟨st.S ++ outN st.m n ++ (p16 t ++ p16 c), putN st.m n st.S.size, false⟩ := by
  unfold qSt at h ⊢
  obtain ⟨h1, h2, h3⟩ := raw_ok h
  obtain ⟨k0, k1, k2, k3⟩ := name_ok h1
  rw [k3] at h2 h3 ⊢
  have z : (p16 t ++ p16 c).size = 4 := by rw [ByteArray.size_append, p16_size, p16_size]
  have h2 : (st.S ++ outN st.m n).size + (p16 t ++ p16 c).size ≤ 4096 := h2
  rw [ByteArray.size_append, z] at h2
  exact ⟨k0, k1, by omega, h3⟩
theorem Good.q {st : St} (H : st.lg = false → Good st) {n : ByteArray} {t c : Int} (h : (qSt st n t c).lg = false) : Good (qSt st n t c) := by
  unfold qSt at h ⊢
  exact Good.raw (fun k => Good.name H k) h
/-! ### A record -/
theorem rSt_ok {st : St} {r : Rr} (h : (rSt st r).lg = false) : nameB r.name = true ∧ st.lg = false ∧ st.S.size + (outN st.m r.name).size + 10 + r.data.size ≤ 4096 ∧
    rSt st r = ⟨st.S ++ outN st.m r.name ++ (p16 r.type ++ p16 r.cls) ++ (p32 r.ttl ++ p16 (r.data.size : Int) ++ r.data), putN st.m r.name st.S.size, false⟩ := by
  unfold rSt at h ⊢
  obtain ⟨h1, h2, h3⟩ := raw_ok h
  obtain ⟨k0, k1, k2, k3⟩ := qSt_ok h1
  rw [k3] at h2 h3 ⊢
  have z : (p32 r.ttl ++ p16 (r.data.size : Int) ++ r.data).size = 6 + r.data.size := by simp only [ByteArray.size_append, p16_size, p32_size]
  have h2 : (st.S ++ outN st.m r.name ++ (p16 r.type ++ p16 r.cls)).size + (p32 r.ttl ++ p16 (r.data.size : Int) ++ r.data).size ≤ 4096 := h2
  rw [z] at h2
  simp only [ByteArray.size_append, p16_size] at h2
  exact ⟨k0, k1, by omega, h3⟩
theorem Good.r {st : St} (H : st.lg = false → Good st) {r : Rr} (h : (rSt st r).lg = false) : Good (rSt st r) := by
  unfold rSt at h ⊢
  exact Good.raw (fun k => Good.q H k) h
/-! ### Lists -/
theorem foldQ_lg : ∀ (qs : List Qn) (st : St), (qs.foldl qStep st).lg = false → st.lg = false
  | [], _, h => h
  | q :: qs, st, h => (qSt_ok (foldQ_lg qs _ h)).2.1
theorem foldR_lg : ∀ (rs : List Rr) (st : St), (rs.foldl rSt st).lg = false → st.lg = false
  | [], _, h => h
  | r :: rs, st, h => (rSt_ok (foldR_lg rs _ h)).2.1
theorem foldQ_good : ∀ (qs : List Qn) (st : St), (st.lg = false → Good st) → (qs.foldl qStep st).lg = false → Good (qs.foldl qStep st)
  | [], _, H, h => H h
  | q :: qs, st, H, h => foldQ_good qs _ (fun k => Good.q H k) h
theorem foldR_good : ∀ (rs : List Rr) (st : St), (st.lg = false → Good st) → (rs.foldl rSt st).lg = false → Good (rs.foldl rSt st)
  | [], _, H, h => H h
  | r :: rs, st, H, h => foldR_good rs _ (fun k => Good.r H k) h
theorem foldQ_more : ∀ (qs : List Qn) (st : St), (qs.foldl qStep st).lg = false → ∃ V, (qs.foldl qStep st).S = st.S ++ V
  | [], st, _ => ⟨⟨#[]⟩, ByteArray.append_empty.symm⟩
  | q :: qs, st, h => by
    obtain ⟨V, hV⟩ := foldQ_more qs _ h
    obtain ⟨_, _, _, e⟩ := qSt_ok (foldQ_lg qs _ h)
    have e : qStep st q = _ := e
    refine ⟨outN st.m q.name ++ (p16 q.type ++ p16 q.cls) ++ V, ?_⟩
    rw [List.foldl_cons, hV, e]
    simp only [ByteArray.append_assoc]
theorem foldR_more : ∀ (rs : List Rr) (st : St), (rs.foldl rSt st).lg = false → ∃ V, (rs.foldl rSt st).S = st.S ++ V
  | [], st, _ => ⟨⟨#[]⟩, ByteArray.append_empty.symm⟩
  | r :: rs, st, h => by
    obtain ⟨V, hV⟩ := foldR_more rs _ h
    obtain ⟨_, _, _, e⟩ := rSt_ok (foldR_lg rs _ h)
    refine ⟨outN st.m r.name ++ (p16 r.type ++ p16 r.cls) ++ (p32 r.ttl ++ p16 (r.data.size : Int) ++ r.data) ++ V, ?_⟩
    rw [List.foldl_cons, hV, e]
    simp only [ByteArray.append_assoc]
end Go.Proofs.Ytjklgdpffmaamaa.Wm

namespace Go.Proofs.Ytjklgdpffmaamaa.Wm
open Go.RowKit Go.PlainAid Go.Proofs.Ytjklgdpffmaamaa.Base Go.Proofs.Ytjklgdpffmaamaa.Oct Go.Proofs.Ytjklgdpffmaamaa.Nm Go.Proofs.Ytjklgdpffmaamaa.Wr Go.Proofs.Ytjklgdpffmaamaa.PCm Go.Proofs.Ytjklgdpffmaamaa.CompS Go.Proofs.Ytjklgdpffmaamaa.Pu
open Go.Proofs.YtjklgdpffmaamaaW.PrintWords (Ev bytesOf bytesOf_length LeO)
set_option linter.unusedVariables false
theorem st0_ok {hS : ByteArray} (h : hS.size = 12) : st0 hS = ⟨hS, fun _ => none, false⟩ := by
  unfold st0 rawSt
  rw [if_neg (by show ¬ 4096 < 0 + hS.size; omega)]
  rw [show (⟨#[]⟩ : ByteArray) ++ hS = hS from ByteArray.empty_append]
theorem st0_good {hS : ByteArray} (h : hS.size = 12) : Good (st0 hS) := by
  rw [st0_ok h]
  exact ⟨(fun r t k => by cases k), by show hS.size ≤ 4096; omega, rfl⟩
theorem putOk_parts {m : MsgV} (h : putOk m = true) : hOk m = true ∧ hStr m = m.h.putS m.qs.length m.an.length m.ns.length m.ar.length ∧ (m.qs.length ≤ 64 ∧ m.an.length ≤ 64 ∧ m.ns.length ≤ 64 ∧ m.ar.length ≤ 64) ∧ (∀ q ∈ m.qs, qMay q = true) ∧ (∀ r ∈ m.an, rMay r = true) ∧ (∀ r ∈ m.ns, rMay r = true) ∧ (∀ r ∈ m.ar, rMay r = true) := by
  unfold putOk at h
  simp only [Bool.and_eq_true] at h
  obtain ⟨h0, h1⟩ := h
  have hl := fits_len h1
  unfold fitsB at h1
  simp only [Bool.and_eq_true, List.all_eq_true] at h1
  obtain ⟨⟨⟨⟨_, a⟩, _, b⟩, _, c⟩, _, d⟩ := h1
  refine ⟨h0, ?_, hl, a, b, c, d⟩
  unfold hStr Hd.wroteS
  exact if_pos h0
structure Steps (m : MsgV) where
  g0 : Good (st0 (hStr m))
  gq : Good (m.qs.foldl qStep (st0 (hStr m)))
  ga : Good (m.an.foldl rSt (m.qs.foldl qStep (st0 (hStr m))))
  gn : Good (m.ns.foldl rSt (m.an.foldl rSt (m.qs.foldl qStep (st0 (hStr m)))))
  gr : Good (putEnd m)
theorem steps {m : MsgV} (hok : putOk m = true) (hl : (putEnd m).lg = false) : Steps m := by
  obtain ⟨h0, hs, _⟩ := putOk_parts hok
  have z : (hStr m).size = 12 := by rw [hs, Hd.putS_size]
  have l3 := foldR_lg m.ar _ hl
  have l2 := foldR_lg m.ns _ l3
  have l1 := foldR_lg m.an _ l2
  have G0 := st0_good z
  have G1 := foldQ_good m.qs _ (fun _ => G0) l1
  have G2 := foldR_good m.an _ (fun _ => G1) l2
  have G3 := foldR_good m.ns _ (fun _ => G2) l3
  exact ⟨G0, G1, G2, G3, foldR_good m.ar _ (fun _ => G3) hl⟩
theorem put_S {m : MsgV} (hok : putOk m = true) (hl : (putEnd m).lg = false) : putS m = (putEnd m).S ∧ putE m = 0 ∧ 12 ≤ (putEnd m).S.size ∧ (putEnd m).S.size ≤ 4096 := by
  unfold putS putE
  rw [if_pos hok, if_pos hok, if_neg (by rw [hl]; decide), if_neg (by rw [hl]; decide)]
  obtain ⟨h0, hs, _⟩ := putOk_parts hok
  have z : (hStr m).size = 12 := by rw [hs, Hd.putS_size]
  obtain ⟨G0, G1, G2, G3, G4⟩ := steps hok hl
  obtain ⟨V1, e1⟩ := foldQ_more m.qs (st0 (hStr m)) G1.lg
  obtain ⟨V2, e2⟩ := foldR_more m.an _ G2.lg
  obtain ⟨V3, e3⟩ := foldR_more m.ns _ G3.lg
  obtain ⟨V4, e4⟩ := foldR_more m.ar _ G4.lg
  have e4 : (putEnd m).S = (m.ns.foldl rSt (m.an.foldl rSt (m.qs.foldl qStep (st0 (hStr m))))).S ++ V4 := e4
  have s0 : (st0 (hStr m)).S = hStr m := by rw [st0_ok z]
  refine ⟨rfl, rfl, ?_, G4.size⟩
  rw [e4, e3, e2, e1, s0]
  simp only [ByteArray.size_append]
  omega
theorem put_err {m : MsgV} (h : ¬ (putOk m = true ∧ (putEnd m).lg = false)) : putS m = ⟨#[]⟩ ∧ (putE m = 700 ∧ putOk m = false ∨ putE m = 701 ∧ putOk m = true ∧ (putEnd m).lg = true) := by
  unfold putS putE
  by_cases hok : putOk m = true
  · have hl : (putEnd m).lg = true := by
      cases hl : (putEnd m).lg with
      | true => rfl
      | false => exact absurd ⟨hok, hl⟩ h
    rw [if_pos hok, if_pos hok, if_pos hl, if_pos hl]
    exact ⟨rfl, .inr ⟨rfl, hok, hl⟩⟩
  · rw [if_neg hok, if_neg hok]
    exact ⟨rfl, .inl ⟨rfl, by simpa using hok⟩⟩
end Go.Proofs.Ytjklgdpffmaamaa.Wm

namespace Go.Proofs.Ytjklgdpffmaamaa.Pad
open Go.RowKit Go.PlainAid Go.Proofs.Ytjklgdpffmaamaa.Base Go.Proofs.Ytjklgdpffmaamaa.Oct Go.Proofs.Ytjklgdpffmaamaa.Wm Go.Proofs.Ytjklgdpffmaamaa.OptH
open Go.Proofs.YtjklgdpffmaamaaW.PrintWords (blk_cell blk_below blk_put blk_frozen blk_ne blk_new blk_lt blk_grown blk_alloc own_nil add_field)
set_option linter.unusedVariables false
set_option linter.unusedSimpArgs false
abbrev padR (m : MsgV) (d : ByteArray) : MsgV := withM m d none 0
def optD (k : Nat) : ByteArray := p16 12 ++ p16 (k : Int) ++ zeros k
def roomN (m : MsgV) (b : Int) : Nat := (roomI ((putS (padR m ⟨#[]⟩)).size : Int) b).toNat
def padS (m : MsgV) (b : Int) : ByteArray := if putE (padR m ⟨#[]⟩) = 0 then putS (padR m (optD (roomN m b))) else ⟨#[]⟩
def padE (m : MsgV) (b : Int) : Int := if putE (padR m ⟨#[]⟩) = 0 then putE (padR m (optD (roomN m b))) else putE (padR m ⟨#[]⟩)
theorem putS_size (m : MsgV) : (putS m).size ≤ 4096 := by
  by_cases H : putOk m = true ∧ (putEnd m).lg = false
  · obtain ⟨s1, s2, s3, s4⟩ := put_S H.1 H.2
    rw [s1]; exact s4
  · unfold putS
    by_cases h : putOk m = true
    · rw [if_pos h]
      have hl : (putEnd m).lg = true := by
        cases e : (putEnd m).lg with
        | true => rfl
        | false => exact absurd ⟨h, e⟩ H
      rw [if_pos hl]; decide
    · rw [if_neg h]; decide
set_option maxHeartbeats 4000000 in
set_option maxRecDepth 100000 in
theorem paddedc (m : MsgV) (b : Int) (hb1 : 1 ≤ b) (hb2 : b ≤ 1000) (w : World) (hm : m.Lies w) (ha : m.ar.length ≤ 63) :
    Calls Try.prog 47 #[.agg m.cells, .int .i64 b] w fun e w' => e = .returned (.tuple #[.string (padS m b), .int .i64 (padE m b)]) ∧ Below w.heap.size w w' := by
  have Bx : Below w.heap.size w (w.alloc (.cells m.cells 27)) := (Below.refl _ _).alloc (Nat.le_refl _) _
  have bM := blk_new w (.cells m.cells 27)
  have HM := Lib.hid hm
  clear hm
  go_enter Try.func47, Try.ntmps47
  go_upto_region 1 with (fail)
  generalize w.alloc (.cells m.cells 27) = w1 at *
  have x0 : w1.cell? ⟨w.heap.size, 0, none⟩ = some (.int .i64 m.h.id) := (blk_cell bM 0).trans rfl
  have x1 : w1.cell? ⟨w.heap.size, 1, none⟩ = some (.bool m.h.qr) := (blk_cell bM 1).trans rfl
  have x2 : w1.cell? ⟨w.heap.size, 2, none⟩ = some (.int .i64 m.h.op) := (blk_cell bM 2).trans rfl
  have x3 : w1.cell? ⟨w.heap.size, 3, none⟩ = some (.bool m.h.aa) := (blk_cell bM 3).trans rfl
  have x4 : w1.cell? ⟨w.heap.size, 4, none⟩ = some (.bool m.h.tc) := (blk_cell bM 4).trans rfl
  have x5 : w1.cell? ⟨w.heap.size, 5, none⟩ = some (.bool m.h.rd) := (blk_cell bM 5).trans rfl
  have x6 : w1.cell? ⟨w.heap.size, 6, none⟩ = some (.bool m.h.ra) := (blk_cell bM 6).trans rfl
  have x7 : w1.cell? ⟨w.heap.size, 7, none⟩ = some (.int .i64 m.h.z) := (blk_cell bM 7).trans rfl
  have x8 : w1.cell? ⟨w.heap.size, 8, none⟩ = some (.int .i64 m.h.rc) := (blk_cell bM 8).trans rfl
  have x9 : w1.cell? ⟨w.heap.size, 9, none⟩ = some (.slice m.Aq m.qs.length m.cq) := (blk_cell bM 9).trans rfl
  have x10 : w1.cell? ⟨w.heap.size, 10, none⟩ = some (.slice m.Aa m.an.length m.ca) := (blk_cell bM 10).trans rfl
  have x11 : w1.cell? ⟨w.heap.size, 11, none⟩ = some (.slice m.An m.ns.length m.cn) := (blk_cell bM 11).trans rfl
  have x12 : w1.cell? ⟨w.heap.size, 12, none⟩ = some (.slice m.Ar m.ar.length m.cr) := (blk_cell bM 12).trans rfl
  go_wp2_with fail
  refine (withc m (-1) ⟨#[]⟩ (.inl ⟨rfl, rfl⟩) w1 (HM.out.below Bx) ha).mono ?_
  rintro e w2 ⟨A1, c1, rfl, hm2, hb⟩
  replace Bx := Bx.trans (hb.mono Bx.size)
  replace bM := blk_below bM hb
  clear x0 x1 x2 x3 x4 x5 x6 x7 x8 x9 x10 x11 x12
  clear hb
  have kp := putc _ w2 hm2
  go_wp2_with fail
  refine kp.mono ?_
  rintro e w3 ⟨rfl, hb⟩
  replace Bx := Bx.trans (hb.mono Bx.size)
  replace bM := blk_below bM hb
  clear hb kp hm2
  have eS : putS (withM m ⟨#[]⟩ A1 c1) = putS (padR m ⟨#[]⟩) := rfl
  have eE : putE (withM m ⟨#[]⟩ A1 c1) = putE (padR m ⟨#[]⟩) := rfl
  rw [eS, eE]
  clear eS eE
  by_cases h0 : putE (padR m ⟨#[]⟩) = 0
  case neg =>
    have t0 : (putE (padR m ⟨#[]⟩) != 0) = true := by simpa using h0
    have e1 : padS m b = ⟨#[]⟩ := if_neg h0
    have e2 : padE m b = putE (padR m ⟨#[]⟩) := if_neg h0
    have HE := Lib.hid (And.intro e1 e2)
    clear h0 e1 e2
    generalize putE (padR m ⟨#[]⟩) = te at *
    generalize putS (padR m ⟨#[]⟩) = ts at *
    go_wp2_with fail
    go_ret2
    refine ⟨?_, Bx⟩
    rw [HE.out.1, HE.out.2]
    rfl
  have t0 : (putE (padR m ⟨#[]⟩) != 0) = false := by simpa using h0
  have e1 : padS m b = putS (padR m (optD (roomN m b))) := if_pos h0
  have e2 : padE m b = putE (padR m (optD (roomN m b))) := if_pos h0
  have rb := room_bd ((putS (padR m ⟨#[]⟩)).size : Int) b hb1
  have er : roomI ((putS (padR m ⟨#[]⟩)).size : Int) b = ((roomN m b : Nat) : Int) := by unfold roomN; omega
  have hz := putS_size (padR m ⟨#[]⟩)
  have kr := fun w => roomc ((putS (padR m ⟨#[]⟩)).size : Int) b (by omega) (by omega) w
  rw [er] at kr
  have hk : roomN m b ≤ 60000 := by omega
  have HE := Lib.hid (And.intro e1 e2)
  clear h0 e1 e2 er rb
  generalize roomN m b = k at *
  generalize putE (padR m ⟨#[]⟩) = te at *
  generalize putS (padR m ⟨#[]⟩) = ts at *
  have kw := fun w' (B : Below w.heap.size w w') => withc m (k : Int) (optD k) (.inr ⟨k, rfl, hk, rfl⟩) w' (HM.out.below B) ha
  have Bd : Below w.heap.size w w3.drew := Bx.drew
  have bd : w3.drew.heap[w.heap.size]? = _ := bM
  have x0 : w3.drew.cell? ⟨w.heap.size, 0, none⟩ = some (.int .i64 m.h.id) := (blk_cell bd 0).trans rfl
  have x1 : w3.drew.cell? ⟨w.heap.size, 1, none⟩ = some (.bool m.h.qr) := (blk_cell bd 1).trans rfl
  have x2 : w3.drew.cell? ⟨w.heap.size, 2, none⟩ = some (.int .i64 m.h.op) := (blk_cell bd 2).trans rfl
  have x3 : w3.drew.cell? ⟨w.heap.size, 3, none⟩ = some (.bool m.h.aa) := (blk_cell bd 3).trans rfl
  have x4 : w3.drew.cell? ⟨w.heap.size, 4, none⟩ = some (.bool m.h.tc) := (blk_cell bd 4).trans rfl
  have x5 : w3.drew.cell? ⟨w.heap.size, 5, none⟩ = some (.bool m.h.rd) := (blk_cell bd 5).trans rfl
  have x6 : w3.drew.cell? ⟨w.heap.size, 6, none⟩ = some (.bool m.h.ra) := (blk_cell bd 6).trans rfl
  have x7 : w3.drew.cell? ⟨w.heap.size, 7, none⟩ = some (.int .i64 m.h.z) := (blk_cell bd 7).trans rfl
  have x8 : w3.drew.cell? ⟨w.heap.size, 8, none⟩ = some (.int .i64 m.h.rc) := (blk_cell bd 8).trans rfl
  have x9 : w3.drew.cell? ⟨w.heap.size, 9, none⟩ = some (.slice m.Aq m.qs.length m.cq) := (blk_cell bd 9).trans rfl
  have x10 : w3.drew.cell? ⟨w.heap.size, 10, none⟩ = some (.slice m.Aa m.an.length m.ca) := (blk_cell bd 10).trans rfl
  have x11 : w3.drew.cell? ⟨w.heap.size, 11, none⟩ = some (.slice m.An m.ns.length m.cn) := (blk_cell bd 11).trans rfl
  have x12 : w3.drew.cell? ⟨w.heap.size, 12, none⟩ = some (.slice m.Ar m.ar.length m.cr) := (blk_cell bd 12).trans rfl
  go_upto_region 4 with (fail)
  go_region_held3 (fun w' => w'.cell? ⟨w.heap.size, 0, none⟩ = some (.int .i64 m.h.id) ∧ w'.cell? ⟨w.heap.size, 1, none⟩ = some (.bool m.h.qr) ∧ w'.cell? ⟨w.heap.size, 2, none⟩ = some (.int .i64 m.h.op) ∧ w'.cell? ⟨w.heap.size, 3, none⟩ = some (.bool m.h.aa) ∧ w'.cell? ⟨w.heap.size, 4, none⟩ = some (.bool m.h.tc) ∧ w'.cell? ⟨w.heap.size, 5, none⟩ = some (.bool m.h.rd) ∧ w'.cell? ⟨w.heap.size, 6, none⟩ = some (.bool m.h.ra) ∧ w'.cell? ⟨w.heap.size, 7, none⟩ = some (.int .i64 m.h.z) ∧ w'.cell? ⟨w.heap.size, 8, none⟩ = some (.int .i64 m.h.rc) ∧ w'.cell? ⟨w.heap.size, 9, none⟩ = some (.slice m.Aq m.qs.length m.cq) ∧ w'.cell? ⟨w.heap.size, 10, none⟩ = some (.slice m.Aa m.an.length m.ca) ∧ w'.cell? ⟨w.heap.size, 11, none⟩ = some (.slice m.An m.ns.length m.cn) ∧ w'.cell? ⟨w.heap.size, 12, none⟩ = some (.slice m.Ar m.ar.length m.cr))
    (first | go_keep | (go_split_ands; refine ⟨?_, ?_, ?_, ?_, ?_, ?_, ?_, ?_, ?_, ?_, ?_, ?_, ?_⟩ <;> assumption))
    (first
      | (go_at_call 28; refine (kr _).mono ?_; rintro e w' ⟨rfl, rfl⟩)
      | (go_at_call 78; refine (kw _ Bd).mono ?_; rintro e w4 ⟨A2, c2, rfl, hm4, hb4⟩; have Bd := Bd.trans (hb4.mono Bd.size); have bd := blk_below bd hb4; have x0 : w4.cell? ⟨w.heap.size, 0, none⟩ = some (.int .i64 m.h.id) := (blk_cell bd 0).trans rfl; have x1 : w4.cell? ⟨w.heap.size, 1, none⟩ = some (.bool m.h.qr) := (blk_cell bd 1).trans rfl; have x2 : w4.cell? ⟨w.heap.size, 2, none⟩ = some (.int .i64 m.h.op) := (blk_cell bd 2).trans rfl; have x3 : w4.cell? ⟨w.heap.size, 3, none⟩ = some (.bool m.h.aa) := (blk_cell bd 3).trans rfl; have x4 : w4.cell? ⟨w.heap.size, 4, none⟩ = some (.bool m.h.tc) := (blk_cell bd 4).trans rfl; have x5 : w4.cell? ⟨w.heap.size, 5, none⟩ = some (.bool m.h.rd) := (blk_cell bd 5).trans rfl; have x6 : w4.cell? ⟨w.heap.size, 6, none⟩ = some (.bool m.h.ra) := (blk_cell bd 6).trans rfl; have x7 : w4.cell? ⟨w.heap.size, 7, none⟩ = some (.int .i64 m.h.z) := (blk_cell bd 7).trans rfl; have x8 : w4.cell? ⟨w.heap.size, 8, none⟩ = some (.int .i64 m.h.rc) := (blk_cell bd 8).trans rfl; have x9 : w4.cell? ⟨w.heap.size, 9, none⟩ = some (.slice m.Aq m.qs.length m.cq) := (blk_cell bd 9).trans rfl; have x10 : w4.cell? ⟨w.heap.size, 10, none⟩ = some (.slice m.Aa m.an.length m.ca) := (blk_cell bd 10).trans rfl; have x11 : w4.cell? ⟨w.heap.size, 11, none⟩ = some (.slice m.An m.ns.length m.cn) := (blk_cell bd 11).trans rfl; have x12 : w4.cell? ⟨w.heap.size, 12, none⟩ = some (.slice m.Ar m.ar.length m.cr) := (blk_cell bd 12).trans rfl)
      | (go_at_call 34; refine (putc _ w4 hm4).mono ?_; rintro e w5 ⟨rfl, hb5⟩; have Bd := Bd.trans (hb5.mono Bd.size); have bd := blk_below bd hb5; have x0 : w5.cell? ⟨w.heap.size, 0, none⟩ = some (.int .i64 m.h.id) := (blk_cell bd 0).trans rfl; have x1 : w5.cell? ⟨w.heap.size, 1, none⟩ = some (.bool m.h.qr) := (blk_cell bd 1).trans rfl; have x2 : w5.cell? ⟨w.heap.size, 2, none⟩ = some (.int .i64 m.h.op) := (blk_cell bd 2).trans rfl; have x3 : w5.cell? ⟨w.heap.size, 3, none⟩ = some (.bool m.h.aa) := (blk_cell bd 3).trans rfl; have x4 : w5.cell? ⟨w.heap.size, 4, none⟩ = some (.bool m.h.tc) := (blk_cell bd 4).trans rfl; have x5 : w5.cell? ⟨w.heap.size, 5, none⟩ = some (.bool m.h.rd) := (blk_cell bd 5).trans rfl; have x6 : w5.cell? ⟨w.heap.size, 6, none⟩ = some (.bool m.h.ra) := (blk_cell bd 6).trans rfl; have x7 : w5.cell? ⟨w.heap.size, 7, none⟩ = some (.int .i64 m.h.z) := (blk_cell bd 7).trans rfl; have x8 : w5.cell? ⟨w.heap.size, 8, none⟩ = some (.int .i64 m.h.rc) := (blk_cell bd 8).trans rfl; have x9 : w5.cell? ⟨w.heap.size, 9, none⟩ = some (.slice m.Aq m.qs.length m.cq) := (blk_cell bd 9).trans rfl; have x10 : w5.cell? ⟨w.heap.size, 10, none⟩ = some (.slice m.Aa m.an.length m.ca) := (blk_cell bd 10).trans rfl; have x11 : w5.cell? ⟨w.heap.size, 11, none⟩ = some (.slice m.An m.ns.length m.cn) := (blk_cell bd 11).trans rfl; have x12 : w5.cell? ⟨w.heap.size, 12, none⟩ = some (.slice m.Ar m.ar.length m.cr) := (blk_cell bd 12).trans rfl))
  all_goals
    go_wp2_with fail
    go_ret2
    refine ⟨?_, Bd⟩
    rw [HE.out.1, HE.out.2]
    rfl
end Go.Proofs.Ytjklgdpffmaamaa.Pad

namespace Go.Proofs.Ytjklgdpffmaamaa.BRow
open Go.RowKit Go.PlainAid Go.Proofs.Ytjklgdpffmaamaa.Base
set_option linter.unusedVariables false
/-- Block g begins with the bytes l, none of them frozen. -/
def Is (w : World) (e g : Nat) (l : List UInt8) : Prop := ∃ cs lo hi, w.heap[g]? = some (.cells cs e (lo, hi)) ∧ l.length ≤ lo ∧ l.length ≤ cs.size ∧ ∀ j, j < l.length → cs[j]? = some (.int .u8 ((l.getD j 0).toNat : Int))
section
variable {w w' : World} {e g : Nat} {l : List UInt8}
theorem Is.lt (h : Is w e g l) : g < w.heap.size := by
  obtain ⟨cs, lo, hi, h, _⟩ := h
  exact (Array.getElem?_eq_some_iff.1 h).1
theorem Is.cell (h : Is w e g l) (j : Nat) (hj : j < l.length) : w.cell? ⟨g, j, none⟩ = some (.int .u8 ((l.getD j 0).toNat : Int)) := by
  obtain ⟨cs, lo, hi, hb, _, _, hc⟩ := h
  simp [World.cell?, hb, hc j hj]
theorem Is.free (h : Is w e g l) (j : Nat) (hj : j < l.length) : w.frozen? ⟨g, j, none⟩ = false := by
  obtain ⟨cs, lo, hi, hb, hlo, _, hc⟩ := h
  simp [World.frozen?, hb]
  omega
theorem Is.below (h : Is w e g l) (hb : Below w.heap.size w w') : Is w' e g l := by
  have hlt := h.lt
  obtain ⟨cs, lo, hi, hk, r⟩ := h
  exact ⟨cs, lo, hi, (hb.block g hlt).trans hk, r⟩
theorem Is.set (h : Is w e g l) (j : Nat) (hj : j < l.length) (v : UInt8) : Is (w.setCell ⟨g, j, none⟩ (.int .u8 (v.toNat : Int))) e g (l.set j v) := by
  obtain ⟨cs, lo, hi, hk, h1, h2, hc⟩ := h
  refine ⟨cs.setIfInBounds j (.int .u8 (v.toNat : Int)), lo, hi, ?_, by rw [List.length_set]; exact h1, by rw [List.length_set, Array.size_setIfInBounds]; exact h2, fun i hi' => ?_⟩
  · have hlt := (Array.getElem?_eq_some_iff.1 hk).1
    have hg : w.heap[g] = .cells cs e (lo, hi) := (Array.getElem?_eq_some_iff.1 hk).2
    unfold World.setCell
    rw [Array.getElem?_eq_getElem (by simpa using hlt)]
    rw [Array.getElem_modify_self, hg]
    rfl
  · rw [List.length_set] at hi'
    by_cases e' : j = i
    · subst e'
      rw [Array.getElem?_setIfInBounds_self_of_lt (by omega)]
      simp [List.getD_eq_getElem?_getD, hj]
    · rw [Array.getElem?_setIfInBounds_ne e', hc i hi']
      simp [List.getD_eq_getElem?_getD, List.getElem?_set_ne e']
theorem Is.back {P : Program} (h : Is w e g l) (src dst cap n : Nat) (hs : P.underlying src = some (.slice e)) (he : P.underlying e = some (.int .u8)) (hd : P.underlying dst = some .string) (hn : n = l.length) :
    (convert src dst (.slice (some ⟨g, 0, none⟩) n cap)).run P w = .ok (.string ⟨l.toArray⟩) w := by
  subst hn
  refine run_convert_bytes_back w src dst e ⟨g, 0, none⟩ cap l hs he hd fun j hj => ?_
  have := h.cell j hj
  have ea : (⟨g, 0, none⟩ : Addr).add j = ⟨g, j, none⟩ := by
    unfold Addr.add
    split
    · simp_all
    · simp
  rw [ea, this]
  simp [List.getD_eq_getElem?_getD, hj]
end
/-- '[]byte(s)': a new block, the elder ones as they were. -/
theorem made (w : World) (e : Nat) (s : ByteArray) : Below w.heap.size w (Lib.bytesWorld w e s) ∧ Is (Lib.bytesWorld w e s) e w.heap.size s.data.toList ∧ (Lib.bytesWorld w e s).heap.size = w.heap.size + 1 := by
  refine ⟨⟨rfl, rfl, rfl, by rw [Lib.bytesWorld_size]; omega, fun j hj => Lib.bytesWorld_at_old w e s j hj⟩, ⟨_, _, _, Lib.bytesWorld_at_new w e s, ?_, ?_, ?_⟩, Lib.bytesWorld_size w e s⟩
  · unfold Lib.bytesCells; simp
  · unfold Lib.bytesCells; simp
  · intro j hj
    have hj' : j < s.data.size := by simpa using hj
    unfold Lib.bytesCells
    rw [Array.getElem?_append_left (by simpa using hj')]
    simp [List.getD_eq_getElem?_getD, Array.getElem?_eq_getElem hj']
end Go.Proofs.Ytjklgdpffmaamaa.BRow

namespace Go.Proofs.Ytjklgdpffmaamaa.Bld
open Go.RowKit Go.Shelf Go.Proofs.Ytjklgdpffmaamaa.Base
set_option linter.unusedVariables false
set_option linter.unusedSimpArgs false
/-- A builder in block b holds the bytes l. -/
def Is (w : World) (B b : Nat) (l : List UInt8) : Prop := Lib.IsBuilder 137 5 B b (Lib.byteCells l) w
theorem info_Byte : ∃ i0, Try.prog.info? 5 = some i0 ∧ i0.zero = some (.int .u8 0) ∧ i0.size = 1 ∧ i0.bytes = 1 := info_parts (by kernel_rfl)
theorem sizeB : ∃ j, Try.prog.info? 137 = some j ∧ j.size = 2 := Option.map_eq_some_iff.1 (by kernel_rfl)
theorem liesB : liesAt Try.prog Try.prog.depth 137 (2 / Try.prog.cellsOf 137) 0 137 1 = true := by kernel_rfl
set_option maxHeartbeats 1000000 in
set_option maxRecDepth 100000 in
theorem check_used (b : Nat) (w : World) (h0 : w.cell? ⟨b, 0, none⟩ = some (.pointer (some ⟨b, 0, none⟩))) :
    Calls Try.prog 99 #[.pointer (some ⟨b, 0, none⟩)] w fun e w' => e = .returned (.tuple #[]) ∧ w' = w := by
  obtain ⟨j, hj, _⟩ := sizeB
  go_enter Try.func99, Try.ntmps99
  go_wp2
  rw [Lib.run_neq_ptr_same w _ Try.underlying135 hj]
  go_wp2
  go_end0
  exact ⟨rfl, rfl⟩
set_option maxHeartbeats 1000000 in
set_option maxRecDepth 100000 in
theorem check_fresh (b : Nat) (w : World) (h0 : w.cell? ⟨b, 0, none⟩ = some (.pointer none)) (hsh : w.shape? b = some (137, 2)) (hfz : w.frozen? ⟨b, 0, none⟩ = false) :
    Calls Try.prog 99 #[.pointer (some ⟨b, 0, none⟩)] w fun e w' => e = .returned (.tuple #[]) ∧ w' = w.setCell ⟨b, 0, none⟩ (.pointer (some ⟨b, 0, none⟩)) := by
  obtain ⟨j, hj, hjs⟩ := sizeB
  go_enter Try.func99, Try.ntmps99
  go_wp2
  rw [Lib.run_to_unsafe w ⟨b, 0, none⟩ Try.underlying135 Try.underlying172 hj (by rw [hjs]; decide) hsh (Nat.zero_lt_succ 1)]
  simp only [Result.andThen]
  rw [Oper.upon_value]
  go_wp2
  rw [run_callFunc_extern Try.func108 (by kernel_rfl) (by kernel_rfl) (by kernel_rfl) (e := Extern.AbiNoEscape.same) (by kernel_rfl)]
  rw [Lib.run_noEscape]
  simp only [Result.andThen]
  rw [Oper.upon_value]
  go_wp2
  rw [Lib.run_from_unsafe w ⟨b, 0, none⟩ Try.underlying172 Try.underlying135 hj hsh liesB]
  simp only [Result.andThen]
  rw [Oper.upon_value]
  go_wp2
  go_end0
  exact ⟨rfl, rfl⟩
theorem checkc (B b : Nat) (bs : List Value) (w : World) (h : Lib.IsBuilder 137 5 B b bs w) :
    Calls Try.prog 99 #[.pointer (some ⟨b, 0, none⟩)] w fun e w' => e = .returned (.tuple #[]) ∧ (Lib.BuilderAt 137 5 B b (.pointer (some ⟨b, 0, none⟩)) bs w' ∧ Below B w w') := by
  rcases h with h | h
  · refine (check_fresh b w h.cell0 h.shape h.frozen0).mono ?_
    rintro e w' ⟨rfl, rfl⟩
    exact ⟨rfl, h.used _, (Below.refl B w).setCell (p := ⟨b, 0, none⟩) h.1 _⟩
  · refine (check_used b w h.cell0).mono ?_
    rintro e w' ⟨rfl, rfl⟩
    exact ⟨rfl, h, Below.refl B _⟩
set_option maxHeartbeats 2000000 in
set_option maxRecDepth 100000 in
theorem bytec (B b : Nat) (l : List UInt8) (x : UInt8) (w : World) (h : Is w B b l) (hlen : l.length + 1 ≤ 140737488355328) (hBw : B ≤ w.heap.size) :
    Calls Try.prog 74 #[.pointer (some ⟨b, 0, none⟩), .int .u8 (x.toNat : Int)] w fun e w' => e = .returned .nilIface ∧ (Is w' B b (l ++ [x]) ∧ Below B w w') := by
  obtain ⟨i0, hi, hz0, hz1, hz2⟩ := info_Byte
  have hl : (Lib.byteCells l).length = l.length := Lib.byteCells_length l
  go_enter Try.func74, Try.ntmps74
  go_wp2_with (go_at_call 99; refine (checkc B b _ _ h).mono ?_)
  rintro e w1 ⟨rfl, h1, hb1⟩
  obtain ⟨hB, v, hbk, hown, hne⟩ := h1
  have c0 : w1.cell? ⟨b, 0, none⟩ = some (.pointer (some ⟨b, 0, none⟩)) := by rw [Lib.cell_of_heap hbk]; rfl
  have c1 : w1.cell? ⟨b, 1, none⟩ = some v := by rw [Lib.cell_of_heap hbk]; rfl
  go_wp2_with (at_builtin; refine wpList_append_own _ rfl _ _ 56 rfl B 5 i0 (.int .u8 0) 1 1 Try.underlying56 hi hz0 hz1 hz2 rfl (by decide) _ _ _ rfl (hown.alloc _) ⟨w1.heap.size, 0, none⟩ 1 1 [.int .u8 (x.toNat : Int)] rfl rfl ?c1 ?c2 ?c3 ?c4 ?c5 ?_)
  case c1 =>
    intro j u hj
    match j, hj with
    | 0, hj => simp at hj; subst hj; simp [Addr.add]
  case c2 => intro u hu; simp at hu; subst hu; rfl
  case c3 => unfold maxLen; omega
  case c4 => omega
  case c5 => have := hb1.size; simp; omega
  intro v' w2 hown' hgrow _
  have hlt : b < w1.heap.size := by
    rcases Nat.lt_or_ge b w1.heap.size with h' | h'
    · exact h'
    · simp [Array.getElem?_eq_none h'] at hbk
  have hb2 : w2.heap[b]? = some (.cells #[.pointer (some ⟨b, 0, none⟩), v] 137 (0, 0)) := by
    rw [hgrow.block b (by simp; omega) (fun e => hne e.symm), Lib.alloc_old w1 _ b hlt]
    exact hbk
  have d0 : w2.cell? ⟨b, 0, none⟩ = some (.pointer (some ⟨b, 0, none⟩)) := by rw [Lib.cell_of_heap hb2]; rfl
  have d1 : w2.cell? ⟨b, 1, none⟩ = some v := by rw [Lib.cell_of_heap hb2]; rfl
  have f1 : w2.frozen? ⟨b, 1, none⟩ = false := Lib.frozen_of_heap hb2 1
  obtain ⟨g, cap, rfl⟩ : ∃ g cap, v' = .slice (some ⟨g, 0, none⟩) (l.length + 1) cap := by
    rcases hown'.2 with ⟨_, h0⟩ | ⟨g, cap, cur, hv, _⟩
    · omega
    · exact ⟨g, cap, hv⟩
  go_wp2
  go_ret
  have eb : Lib.byteCells (l ++ [x]) = Lib.byteCells l ++ [.int .u8 (x.toNat : Int)] := by simp [Lib.byteCells]
  refine ⟨rfl, Or.inr ?_, ?_⟩
  · rw [eb]
    exact Lib.BuilderAt.put (T := 137) (e := 5) hB hb2 (bs' := Lib.byteCells l ++ [.int .u8 (x.toNat : Int)]) (by rw [List.length_append, hl]; exact hown') (by decide)
  · exact ((hb1.alloc (by have := hb1.size; omega) _).grown hgrow (by have := hb1.size; simp; omega) (fun k hk => (hown.lt k hk).1)).setCell (p := ⟨b, 1, none⟩) hB _
set_option maxHeartbeats 2000000 in
set_option maxRecDepth 100000 in
theorem stringc (B b : Nat) (l : List UInt8) (s : ByteArray) (w : World) (h : Is w B b l) (hlen : l.length + s.size ≤ 140737488355328) (hBw : B ≤ w.heap.size) :
    Calls Try.prog 75 #[.pointer (some ⟨b, 0, none⟩), .string s] w fun e w' => e = .returned (.tuple #[.int .i64 s.size, .nilIface]) ∧ (Is w' B b (l ++ s.data.toList) ∧ Below B w w') := by
  obtain ⟨i0, hi, hz0, hz1, hz2⟩ := info_Byte
  have hl : (Lib.byteCells l).length = l.length := Lib.byteCells_length l
  go_enter Try.func75, Try.ntmps75
  go_wp2_with (go_at_call 99; refine (checkc B b _ _ h).mono ?_)
  rintro e w1 ⟨rfl, h1, hb1⟩
  obtain ⟨hB, v, hbk, hown, hne⟩ := h1
  have c0 : w1.cell? ⟨b, 0, none⟩ = some (.pointer (some ⟨b, 0, none⟩)) := by rw [Lib.cell_of_heap hbk]; rfl
  have c1 : w1.cell? ⟨b, 1, none⟩ = some v := by rw [Lib.cell_of_heap hbk]; rfl
  go_wp2_with (at_builtin; refine Lib.wpList_append_own_string _ rfl _ _ 56 9 rfl B 5 i0 Try.underlying56 Try.underlying9 hi hz0 hz1 hz2 _ _ _ rfl hown s rfl ?c3 ?c4 ?c5 ?_)
  case c3 => unfold maxLen; omega
  case c4 => omega
  case c5 => have := hb1.size; omega
  intro v' w2 hown' hgrow _
  have hlt : b < w1.heap.size := by
    rcases Nat.lt_or_ge b w1.heap.size with h' | h'
    · exact h'
    · simp [Array.getElem?_eq_none h'] at hbk
  have hb2 : w2.heap[b]? = some (.cells #[.pointer (some ⟨b, 0, none⟩), v] 137 (0, 0)) := by
    rw [hgrow.block b hlt (fun e => hne e.symm)]
    exact hbk
  have d0 : w2.cell? ⟨b, 0, none⟩ = some (.pointer (some ⟨b, 0, none⟩)) := by rw [Lib.cell_of_heap hb2]; rfl
  have d1 : w2.cell? ⟨b, 1, none⟩ = some v := by rw [Lib.cell_of_heap hb2]; rfl
  have f1 : w2.frozen? ⟨b, 1, none⟩ = false := Lib.frozen_of_heap hb2 1
  obtain ⟨ao, n', cap, rfl⟩ : ∃ ao n' cap, v' = .slice ao n' cap := by
    rcases hown'.2 with ⟨hv, _⟩ | ⟨g, cap, cur, hv, _⟩
    · exact ⟨_, _, _, hv⟩
    · exact ⟨_, _, _, hv⟩
  go_wp2
  go_ret2
  have eb : Lib.byteCells (l ++ s.data.toList) = Lib.byteCells l ++ Lib.strCells s := by simp [Lib.byteCells, Lib.strCells]
  refine ⟨rfl, Or.inr ?_, ?_⟩
  · rw [eb]
    exact Lib.BuilderAt.put (T := 137) (e := 5) hB hb2 (bs' := Lib.byteCells l ++ Lib.strCells s) (by rw [List.length_append, hl, Lib.strCells_length]; exact hown') (by decide)
  · exact (hb1.grown hgrow (by have := hb1.size; omega) (fun k hk => (hown.lt k hk).1)).setCell (p := ⟨b, 1, none⟩) hB _
def lays_ren : Go.Shelf.Ren := ⟨fun | 169 => 77 | n => n, fun | 70 => 135 | 9 => 9 | 0 => 0 | 72 => 137 | 37 => 56 | 127 => 164 | 3 => 3 | 5 => 5 | n => n, fun | n => n⟩
theorem lays : Go.Proofs.Lays.n169 Try.prog lays_ren := {
  mixed := by kernel_rfl
  f169 := Try.func77.trans (congrArg some (by kernel_rfl))
  t0 := Try.underlying0
  a0 := Try.isAgg0
  z0 := Try.sizeOf0
  v0 := Try.zeroValue0
  t3 := Try.underlying3
  a3 := Try.isAgg3
  z3 := Try.sizeOf3
  v3 := Try.zeroValue3
  t9 := Try.underlying9
  a9 := Try.isAgg9
  z9 := Try.sizeOf9
  v9 := Try.zeroValue9
  t37 := Try.underlying56
  a37 := Try.isAgg56
  z37 := Try.sizeOf56
  v37 := Try.zeroValue56
  t70 := Try.underlying135
  a70 := Try.isAgg135
  z70 := Try.sizeOf135
  v70 := Try.zeroValue135
  t72 := Try.underlying137
  a72 := Try.isAgg137
  z72 := Try.sizeOf137
  v72 := Try.zeroValue137
  t127 := Try.underlying164
  a127 := Try.isAgg164
  z127 := Try.sizeOf164
  v127 := Try.zeroValue164 }
theorem extra : Builder.Extra Try.prog lays_ren := {
  sizeBuilder := by kernel_rfl
  liesBuilder := by kernel_rfl
  t5 := Try.underlying5
  a5 := Try.isAgg5
  z5 := Try.sizeOf5
  v5 := Try.zeroValue5
  infoByte := by kernel_rfl
  cellsByte := by kernel_rfl
  sizeByte := by kernel_rfl
  neB5 := by decide }
theorem strc (B b : Nat) (l : List UInt8) (w : World) (h : Is w B b l) (hBw : B ≤ w.heap.size) :
    Calls Try.prog 77 #[.pointer (some ⟨b, 0, none⟩)] w fun e w' => e = .returned (.string ⟨l.toArray⟩) ∧ Below B w w' := Any.Builder_String_any lays extra B b l w h hBw
theorem Is.below {w w' : World} {B b : Nat} {l : List UInt8} (h : Is w B b l) (hb : Below w.heap.size w w') : Is w' B b l := by
  have H : ∀ p, Lib.BuilderAt 137 5 B b p (Lib.byteCells l) w → Lib.BuilderAt 137 5 B b p (Lib.byteCells l) w' := by
    rintro p ⟨h1, v, h2, h3, h4⟩
    have hlt : b < w.heap.size := Lib.BuilderAt.lt ⟨h1, v, h2, h3, h4⟩
    exact ⟨h1, v, (hb.block b hlt).trans h2, Sl.own_below h3 hb, h4⟩
  exact h.imp (H _) (H _)
theorem fresh (w : World) : Is (w.alloc (.cells #[.pointer none, .slice none 0 0] 137)) w.heap.size w.heap.size [] := Lib.fresh_isBuilder _ _ w
end Go.Proofs.Ytjklgdpffmaamaa.Bld

namespace Go.Proofs.Ytjklgdpffmaamaa.Fo
open Go.RowKit Go.PlainAid Go.Proofs.Ytjklgdpffmaamaa.Base Go.Proofs.Ytjklgdpffmaamaa.Oct Go.Proofs.Ytjklgdpffmaamaa.Sl Go.Proofs.Ytjklgdpffmaamaa.Nm
set_option linter.unusedVariables false
set_option linter.unusedSimpArgs false
def lowB (x : UInt8) : UInt8 := if 65 ≤ x.toNat ∧ x.toNat ≤ 90 then UInt8.ofNat (x.toNat + 32) else x
def foldS (s : ByteArray) : ByteArray := ⟨(s.data.toList.map lowB).toArray⟩
theorem foldS_size (s : ByteArray) : (foldS s).size = s.size := by unfold foldS; show ((s.data.toList.map lowB).toArray).size = s.data.size; simp
theorem low_nat (x : UInt8) : (lowB x).toNat = if 65 ≤ x.toNat ∧ x.toNat ≤ 90 then x.toNat + 32 else x.toNat := by
  unfold lowB
  split
  · rw [UInt8.toNat_ofNat']; omega
  · rfl
theorem foldc (x : UInt8) (w : World) : Calls Try.prog 100 #[.int .u8 (x.toNat : Int)] w fun e w' => e = .returned (.int .u8 ((lowB x).toNat : Int)) ∧ w' = w := by
  have hx : x.toNat < 256 := x.toNat_lt
  by_cases h : 65 ≤ x.toNat ∧ x.toNat ≤ 90
  · have e1 : lowB x = UInt8.ofNat (x.toNat + 32) := if_pos h
    have q1 : decide ((65 : Int) ≤ x.toNat) = true := by simp; omega
    have q2 : decide ((x.toNat : Int) ≤ 90) = true := by simp; omega
    have hn : (lowB x).toNat = x.toNat + 32 := by rw [low_nat, if_pos h]
    have hw : IntKind.u8.wrap ((x.toNat : Int) + 32) = ((lowB x).toNat : Int) := by
      rw [hn]
      show (((x.toNat : Int) + 32) % 256) = _
      omega
    go_enter Try.func100, Try.ntmps100
    go_wp2
    go_ret
    first
    | exact ⟨by rw [hw], rfl⟩
    | exact ⟨by rw [← hw]; rfl, rfl⟩
  · have e1 : lowB x = x := if_neg h
    by_cases h1 : 65 ≤ x.toNat
    · have q1 : decide ((65 : Int) ≤ x.toNat) = true := by simp; omega
      have q2 : decide ((x.toNat : Int) ≤ 90) = false := by simp; omega
      go_enter Try.func100, Try.ntmps100
      go_wp2
      go_ret
      exact ⟨by rw [e1]; rfl, rfl⟩
    · have q1 : decide ((65 : Int) ≤ x.toNat) = false := by simp; omega
      go_enter Try.func100, Try.ntmps100
      go_wp2
      go_ret
      exact ⟨by rw [e1]; rfl, rfl⟩
/-- The first i bytes folded. -/
def part (l : List UInt8) (i : Nat) : List UInt8 := (l.take i).map lowB ++ l.drop i
theorem part_length (l : List UInt8) (i : Nat) : (part l i).length = l.length := by unfold part; simp; omega
theorem part_get (l : List UInt8) (i : Nat) (h : i < l.length) : (part l i).getD i 0 = l.getD i 0 := by
  unfold part
  rw [List.getD_eq_getElem?_getD, List.getElem?_append_right (by simp; omega)]
  simp [List.getD_eq_getElem?_getD, Nat.min_eq_left (Nat.le_of_lt h)]
theorem part_set (l : List UInt8) (i : Nat) (h : i < l.length) : (part l i).set i (lowB (l.getD i 0)) = part l (i + 1) := by
  unfold part
  rw [List.drop_eq_getElem_cons h, List.take_succ_eq_append_getElem h, List.map_append]
  rw [List.set_append_right _ _ (by simp; omega)]
  have e : i - (List.map lowB (List.take i l)).length = 0 := by simp; omega
  rw [e]
  rw [List.set_cons_zero]
  simp [List.getD_eq_getElem?_getD, h]
theorem part_all (l : List UInt8) : part l l.length = l.map lowB := by unfold part; simp
set_option maxHeartbeats 2000000 in
theorem foldedc (l : ByteArray) (hl : l.size ≤ 255) (w : World) : Calls Try.prog 76 #[.string l] w fun e w' => e = .returned (.string (foldS l)) ∧ Below w.heap.size w w' := by
  have kc := fun w => Lib.run_convert_string_bytes (P := Try.prog) w 9 56 5 l Try.underlying9 Try.underlying56 Try.underlying5
  have hz : l.data.toList.length = l.size := by show _ = l.data.size; simp
  go_enter Try.func76, Try.ntmps76
  go_upto_region 2 with (fail)
  obtain ⟨Bm, hI, hz1⟩ := BRow.made w 5 l
  generalize Lib.bytesWorld w 5 l = w1 at *
  generalize grownCap w l.size 0 5 = cap at *
  obtain ⟨g, hg⟩ : ∃ g, g = w.heap.size := ⟨_, rfl⟩
  rw [← hg] at hI hz1 Bm ⊢
  have HG := Lib.hid (Nat.le_of_eq hg.symm)
  rw [hg] at Bm
  clear kc hg
  go_wp2_with fail
  go_loopg [4, 9] (l.size + 1) (fun k v4 v9 wr => ∃ i : Nat, v9 = .int .i64 i ∧ i + k = l.size + 1 ∧ i ≤ l.size ∧ BRow.Is wr 5 g (part l.data.toList i) ∧ Below w.heap.size w wr)
  case atStart => exact ⟨0, rfl, by omega, by omega, by simpa [part] using hI, Bm⟩
  case round =>
    obtain ⟨i, rfl, hk1, hk2, HI, HB⟩ := hrel
    have HI' := Lib.hid HI
    have HB' := Lib.hid HB
    by_cases h : i < l.size
    · have q : decide ((i : Int) < l.size) = true := by simp; omega
      have hi : i < (part l.data.toList i).length := by rw [part_length]; omega
      have ci := HI.cell i hi
      have fi := HI.free i hi
      rw [part_get _ _ (by omega)] at ci
      have kf := fun w => foldc (l.data.toList.getD i 0) w
      have HS := HI.set i hi (lowB (l.data.toList.getD i 0))
      rw [part_set _ _ (by omega)] at HS
      have HS' := Lib.hid HS
      have hin : (0 : Int) ≤ (i : Int) ∧ (i : Int) < (l.size : Int) := by omega
      clear HI HB HS
      generalize l.data.toList.getD i 0 = x at *
      go_wp2_with (go_at_call 100; refine (kf _).mono ?_; rintro e w2 ⟨rfl, rfl⟩)
      go_roundg (l.size - i)
      case measure => omega
      case rel => exact ⟨i + 1, rfl, by omega, by omega, HS'.out, HB'.out.setCell HG.out _⟩
    · have q : decide ((i : Int) < l.size) = false := by simp; omega
      have ei : i = l.data.toList.length := by omega
      rw [ei, part_all] at HI
      have kb := BRow.Is.back (P := Try.prog) HI 56 9 cap l.size Try.underlying56 Try.underlying5 Try.underlying9 (by rw [List.length_map]; exact hz.symm)
      clear HI ei
      go_wp2_with fail
      go_ret
      exact ⟨rfl, HB'.out⟩
/-- Where the labels of a name begin, and its end. -/
structure Pl (s : ByteArray) (ps : List Nat) : Prop where
  first : ps.getD 0 0 = 0
  pos : 0 < ps.length
  len : ps.length ≤ 255
  next : ∀ j, j + 1 < ps.length → ps.getD (j + 1) 0 = ps.getD j 0 + 1 + (bt s (ps.getD j 0)).toNat ∧ bt s (ps.getD j 0) ≤ 63 ∧ ps.getD (j + 1) 0 < s.size
  last : ps.getD (ps.length - 1) 0 + 1 = s.size ∧ bt s (ps.getD (ps.length - 1) 0) = 0
theorem pl_at (s : ByteArray) : ∀ d i, s.size - i ≤ d → nameAt s i = true → (placesAt s i).getD 0 0 = i ∧ 0 < (placesAt s i).length ∧ (placesAt s i).length + i ≤ s.size ∧
    (∀ j, j + 1 < (placesAt s i).length → (placesAt s i).getD (j + 1) 0 = (placesAt s i).getD j 0 + 1 + (bt s ((placesAt s i).getD j 0)).toNat ∧ bt s ((placesAt s i).getD j 0) ≤ 63 ∧ (placesAt s i).getD (j + 1) 0 < s.size) ∧
    ((placesAt s i).getD ((placesAt s i).length - 1) 0 + 1 = s.size ∧ bt s ((placesAt s i).getD ((placesAt s i).length - 1) 0) = 0) := by
  intro d
  induction d with
  | zero => intro i hd h; rw [nameAt_out (by omega)] at h; cases h
  | succ d ih =>
    intro i hd h
    by_cases hi : i < s.size
    · by_cases h0 : bt s i = 0
      · rw [nameAt_end hi h0] at h
        have := of_decide_eq_true h
        rw [placesAt_end hi h0]
        exact ⟨rfl, by simp, by simp; omega, fun j hj => by simp at hj, by simpa using this, by simpa using h0⟩
      · by_cases h1 : bt s i ≤ 63
        · rw [nameAt_next hi h0 h1] at h
          obtain ⟨a, b, c, e, f1, f2⟩ := ih _ (by omega) h
          rw [placesAt_next hi h0 h1]
          generalize placesAt s (i + 1 + (bt s i).toNat) = r at *
          have hlt : i + 1 + (bt s i).toNat < s.size := by omega
          refine ⟨rfl, by simp, by simp; omega, fun j hj => ?_, ?_, ?_⟩
          · cases j with
            | zero => exact ⟨by simpa using a, by simpa using h1, by show r.getD 0 0 < s.size; rw [a]; exact hlt⟩
            | succ j => simpa using e j (by simpa using hj)
          · obtain ⟨n, hn⟩ : ∃ n, r.length = n + 1 := ⟨r.length - 1, by omega⟩
            rw [List.length_cons, hn]
            rw [hn] at f1
            simpa using f1
          · obtain ⟨n, hn⟩ : ∃ n, r.length = n + 1 := ⟨r.length - 1, by omega⟩
            rw [List.length_cons, hn]
            rw [hn] at f2
            simpa using f2
        · rw [nameAt_bad hi (by omega)] at h; cases h
    · rw [nameAt_out (by omega)] at h; cases h
theorem pl {s : ByteArray} (h : nameB s = true) : Pl s (places s) := by
  unfold nameB at h
  rw [Bool.and_eq_true, decide_eq_true_iff] at h
  obtain ⟨a, b, c, e, f⟩ := pl_at s s.size 0 (by omega) h.2
  exact ⟨a, b, by unfold places; omega, e, f⟩
theorem own_lower {w : World} {b b' : Nat} {e : TypeId} {size n : Nat} {v : Value} {xs : List Value} (h : w.ownsRow b e size v n xs) (hb : b' ≤ b) : w.ownsRow b' e size v n xs := by
  refine ⟨h.1, ?_⟩
  rcases h.2 with ⟨h1, h2⟩ | ⟨g, cap, cur, h1, h2, r⟩
  · exact .inl ⟨h1, h2⟩
  · exact .inr ⟨g, cap, cur, h1, Nat.le_trans hb h2, r⟩
/-- A name's labels. -/
def labs (s : ByteArray) (ps : List Nat) (n : Nat) : List ByteArray := (List.range n).map fun j => s.extract (ps.getD j 0 + 1) (ps.getD (j + 1) 0)
theorem labs_snoc (s : ByteArray) (ps : List Nat) (n : Nat) : labs s ps (n + 1) = labs s ps n ++ [s.extract (ps.getD n 0 + 1) (ps.getD (n + 1) 0)] := by
  unfold labs; rw [List.range_succ, List.map_append]; rfl
def scells (xs : List ByteArray) : List Value := xs.map fun (k : ByteArray) => .string k
theorem info_str : (Try.prog.info? 9).map (fun i => (i.zero, i.size, i.bytes)) = some (some (.string ⟨#[]⟩), 1, 16) := by kernel_rfl
def LabelsPost (s : ByteArray) (w : World) (e : Ending) (w' : World) : Prop :=
  Below w.heap.size w w' ∧ (nameB s = false → ∃ v, e = .returned (.tuple #[v, .bool false])) ∧
  (nameB s = true → ∃ v, e = .returned (.tuple #[v, .bool true]) ∧ w'.ownsRow w.heap.size 9 1 v ((places s).length - 1) (scells (labs s (places s) ((places s).length - 1))))
set_option maxHeartbeats 2000000 in
set_option maxRecDepth 100000 in
theorem labelsc (s : ByteArray) (w : World) : Calls Try.prog 73 #[.string s] w (LabelsPost s w) := by
  have kp := places_any s w
  by_cases hn : nameB s = true
  case neg =>
    have hf : nameB s = false := by simpa using hn
    go_enter Try.func73, Try.ntmps73
    go_wp2_with fail
    refine kp.mono ?_
    rintro e w1 ⟨v, rfl, hb, _⟩
    rw [hf]
    clear kp
    go_wp2_with fail
    go_ret2
    exact ⟨hb, fun _ => ⟨_, rfl⟩, fun h => by rw [hf] at h; cases h⟩
  have HP := Lib.hid (pl hn)
  have HN := Lib.hid hn
  go_enter Try.func73, Try.ntmps73
  go_wp2_with fail
  refine kp.mono ?_
  rintro e w1 ⟨v, rfl, hb, ho⟩
  rw [hn]
  have own := ho hn
  clear kp ho hn
  go_wp2_with fail
  obtain ⟨hlp, hll⟩ : 0 < (places s).length ∧ (places s).length ≤ 255 := ⟨HP.out.pos, HP.out.len⟩
  obtain ⟨pg, pc, hv, hpb⟩ : ∃ g c, v = .slice (some ⟨g, 0, none⟩) (places s).length c ∧ w.heap.size ≤ g := by
    rcases own.2 with ⟨_, h0⟩ | ⟨g, cap, cur, hv, hg, _⟩
    · omega
    · exact ⟨g, cap, hv, hg⟩
  subst hv
  have hcell : ∀ j, j < (places s).length → w1.cell? ⟨pg, j, none⟩ = some (.int .i64 ((places s).getD j 0 : Nat)) := fun j hj => by
    have := own.cells (g := pg) rfl j (.int .i64 ((places s).getD j 0 : Nat)) (by simp [pcells, List.getElem?_eq_getElem hj, List.getD_eq_getElem?_getD])
    rwa [show (⟨pg, 0, none⟩ : Addr).add j = ⟨pg, j, none⟩ by unfold Addr.add; split <;> simp_all] at this
  have hpl : (places s).length ≤ pc := by
    rcases own.2 with ⟨h0, _⟩ | ⟨g, cap, cur, hv, _, _, hc, _⟩
    · cases h0
    · injection hv with _ _ hc'; omega
  have hlt := own.lt pg rfl
  have HC := Lib.hid hcell
  clear hcell own
  go_loopg [6, 7] ((places s).length + 1) (fun k v6 v7 wr => ∃ i : Nat, v7 = .int .i64 ((i + 1 : Nat) : Int) ∧ i + k = (places s).length + 1 ∧ i < (places s).length ∧ wr.ownsRow w1.heap.size 9 1 v6 i (scells (labs s (places s) i)) ∧ Below w1.heap.size w1 wr)
  case atStart => exact ⟨0, rfl, by omega, by omega, World.ownsRow_nil _ _ _ _, Below.refl _ _⟩
  case round =>
    obtain ⟨i, rfl, hk, hil, HO, HB⟩ := hrel
    have HB' := Lib.hid HB
    by_cases h : i + 1 < (places s).length
    · obtain ⟨i1, hi1⟩ : ∃ i1 : Nat, i1 = i + 1 := ⟨_, rfl⟩
      have q : decide ((i1 : Int) < (places s).length) = true := by simp; omega
      have c0 : wr.cell? ⟨pg, i, none⟩ = _ := (HB.cell hlt.2).trans (HC.out i hil)
      have c1 : wr.cell? ⟨pg, i1, none⟩ = _ := (HB.cell hlt.2).trans (HC.out i1 (by omega))
      obtain ⟨n1, n2, n3⟩ := HP.out.next i h
      have hsn := labs_snoc s (places s) i
      rw [← hi1] at hsn n1 n3 ⊢
      generalize (places s).getD i 0 = x at *
      generalize (places s).getD i1 0 = y at *
      have nb := bt_nonneg s x
      have m1 : (0 : Int) ≤ (i : Int) := by omega
      have m2 : (i : Int) < ((places s).length : Int) := by omega
      have m3 : (0 : Int) ≤ (i1 : Int) := by omega
      have m4 : (i1 : Int) < ((places s).length : Int) := by omega
      have m5 : (0 : Int) ≤ (x : Int) + 1 := by omega
      have m6 : (x : Int) + 1 ≤ (y : Int) := by omega
      have m7 : (y : Int) ≤ (s.size : Int) := by omega
      have m8 : x + 1 ≤ y := by omega
      have m9 : y ≤ s.size := by omega
      have ag : u6.ownBlock ≠ some pg := fun e => by have := (HO.lt pg e).1; omega
      have hsz := HB.size
      have HSN := Lib.hid hsn
      have HI1 := Lib.hid hi1
      obtain ⟨i0, hi0, hz0, hz1, hz2⟩ := info_parts info_str
      have b1 : i ≤ 255 := by omega
      have b2 : y ≤ s.size := by omega
      have k63 : i + 1 ≤ maxLen := by unfold maxLen; omega
      have kby : (i + 1) * 16 ≤ 140737488355328 := by omega
      have kb1 : w1.heap.size ≤ wr.heap.size + 1 := by omega
      have kpg : pg < wr.heap.size + 1 := by omega
      have e1 : IntKind.i64.wrap ((i1 : Int) - 1) = (i : Int) := by rw [IntWalk.i64_in _ (by omega)]; omega
      have hs255 : s.size ≤ 255 := by have := HN.out; unfold nameB at this; rw [Bool.and_eq_true, decide_eq_true_iff] at this; exact this.1
      have e2 : IntKind.i64.wrap ((x : Int) + 1) = (x : Int) + 1 := IntWalk.i64_in _ (by omega)
      clear hs255 hsn HB n1 n2 n3 nb hi1 hlp hll hpb hpl hlt b1 b2 m8 m9
      go_wp2_with fail
      go_region_held3 (fun w' => w'.cell? ⟨pg, i, none⟩ = some (.int .i64 (x : Int)) ∧ w'.cell? ⟨pg, i1, none⟩ = some (.int .i64 (y : Int)))
        (first
          | go_keep
          | (go_split_ands
             refine ⟨?_, ?_⟩
             · (rw [hgrow.cell_far _ (by simp; exact kpg) (Ne.symm ag)]; assumption)
             · (rw [hgrow.cell_far _ (by simp; exact kpg) (Ne.symm ag)]; assumption)))
        ((refine step_append_lies _ (by rfl) _ _ _ (by rfl) w1.heap.size 9 i0 _ 1 16 Try.underlying132 hi0 hz0 hz1 hz2 rfl (Nat.lt_succ_self 0) u6 i _ (by rfl) ((HO.alloc _).drew)
            ⟨wr.heap.size, 0, none⟩ 1 1 [.string (s.extract (x + 1) y)] (by rfl) (by rfl) (World.news_of_block (cs := #[.string (s.extract (x + 1) y)]) (t := 9) (fr := (0, 0)) (heap_alloc_new wr _)) (by simp [Value.oneCell'])
            (Nat.lt_succ_self 0) k63 kby (by simp; exact kb1) (wr.heap.size + 1) (by simp) ?_; intro gg cap w2 hown1 hgrow hat hlt2))
      go_wp2_with fail
      go_roundg ((places s).length - i)
      case measure => omega
      case rel =>
        refine ⟨i + 1, congrArg (Value.int .i64) (by have := HI1.out; rw [w64 (by omega) (by omega)]; omega), by omega, by have := HI1.out; omega, ?_, ?_⟩
        · have hq := HSN.out
          rw [HI1.out] at hq
          rw [hq]
          simpa [scells] using hown1
        · exact (((HB'.out.drew).alloc hsz _).grown hgrow (by simp; omega) (fun k hk => (HO.lt k hk).1))
    · have q : decide (((i + 1 : Nat) : Int) < (places s).length) = false := by simp; omega
      go_wp2_with fail
      go_ret2
      refine ⟨hb.trans (HB'.out.mono hb.size), ?_, ?_⟩
      · intro hf
        rw [HN.out] at hf
        cases hf
      · intro _
        refine ⟨_, rfl, ?_⟩
        obtain rfl : i = (places s).length - 1 := by omega
        exact own_lower HO hb.size
theorem pre_step (s : ByteArray) (p q : Nat) (h1 : p + 1 ≤ q) (hq : q ≤ s.size) (x : UInt8) (hx : s.data.toList.getD p 0 = x) (hl : x.toNat ≤ 63) :
    (s.data.toList.take q).map lowB = ((s.data.toList.take p).map lowB ++ [x]) ++ (foldS (s.extract (p + 1) q)).data.toList := by
  have hsz : s.data.toList.length = s.size := by show _ = s.data.size; simp
  have hp : p < s.data.toList.length := by omega
  have ex : lowB x = x := if_neg (by omega)
  have e1 : (foldS (s.extract (p + 1) q)).data.toList = ((s.data.toList.drop (p + 1)).take (q - (p + 1))).map lowB := by
    unfold foldS
    simp [ByteArray.data_extract, List.take_drop]
  rw [e1]
  have e2 : s.data.toList.take q = s.data.toList.take p ++ [x] ++ (s.data.toList.drop (p + 1)).take (q - (p + 1)) := by
    have hx' : s.data.toList[p] = x := by rw [← hx, List.getD_eq_getElem?_getD, List.getElem?_eq_getElem hp]; rfl
    rw [← hx', List.append_assoc, List.singleton_append]
    conv => lhs; rw [show q = p + (1 + (q - (p + 1))) by omega]
    rw [List.take_add, List.drop_eq_getElem_cons hp, Nat.add_comm 1, List.take_succ_cons]
  rw [e2]
  simp [ex]
/-- rel.Fold: a name with small letters; the empty string for what is no name. -/
def foldN (s : ByteArray) : ByteArray := if nameB s = true then foldS s else ⟨#[]⟩
set_option maxHeartbeats 2000000 in
set_option maxRecDepth 100000 in
theorem foldNc (s : ByteArray) (w : World) : Calls Try.prog 46 #[.string s] w fun e w' => e = .returned (.string (foldN s)) ∧ Below w.heap.size w w' := by
  have kl := labelsc s w
  by_cases hn : nameB s = true
  case neg =>
    have hf : nameB s = false := by simpa using hn
    go_enter Try.func46, Try.ntmps46
    go_wp2_with fail
    refine kl.mono ?_
    rintro e w1 ⟨hb, h1, _⟩
    obtain ⟨v, rfl⟩ := h1 hf
    clear kl
    go_wp2_with fail
    go_ret
    exact ⟨by unfold foldN; rw [if_neg hn]; rfl, hb⟩
  have HP := Lib.hid (pl hn)
  have HN := Lib.hid hn
  go_enter Try.func46, Try.ntmps46
  go_wp2_with fail
  refine kl.mono ?_
  rintro e w1 ⟨hb, _, h2⟩
  obtain ⟨v, rfl, own⟩ := h2 hn
  clear kl h2 hn
  obtain ⟨hlp, hll⟩ : 0 < (places s).length ∧ (places s).length ≤ 255 := ⟨HP.out.pos, HP.out.len⟩
  obtain ⟨n, hpn⟩ : ∃ n, (places s).length = n + 1 := ⟨(places s).length - 1, by omega⟩
  rw [hpn, Nat.add_sub_cancel] at own
  have hn255 : n ≤ 255 := by omega
  have hs255 : s.size ≤ 255 := by have := HN.out; unfold nameB at this; rw [Bool.and_eq_true, decide_eq_true_iff] at this; exact this.1
  obtain ⟨A, c, rfl, hA⟩ : ∃ A c, v = .slice A n c ∧ (n = 0 ∨ n ≤ c ∧ ∃ g, A = some ⟨g, 0, none⟩ ∧ g < w1.heap.size ∧ ∀ j, j < n → w1.cell? ⟨g, j, none⟩ = some (.string (s.extract ((places s).getD j 0 + 1) ((places s).getD (j + 1) 0)))) := by
    rcases own.2 with ⟨hv, h0⟩ | ⟨g, cap, cur, hv, r1, r2, r3, _⟩
    · exact ⟨none, 0, by rw [h0]; exact hv, .inl h0⟩
    · refine ⟨_, _, hv, .inr ⟨r3, g, rfl, (own.lt g (by rw [hv]; rfl)).2, fun j hj => ?_⟩⟩
      have := own.cells (g := g) (by rw [hv]; rfl) j (.string (s.extract ((places s).getD j 0 + 1) ((places s).getD (j + 1) 0))) (by simp [scells, labs, hj])
      rwa [show (⟨g, 0, none⟩ : Addr).add j = ⟨g, j, none⟩ by unfold Addr.add; split <;> simp_all] at this
  clear own
  go_upto_region 5 with (fail)
  have HA := Lib.hid hA
  have HPN := Lib.hid hpn
  clear hA hpn hlp
  have B2 : Below w1.heap.size w1 (w1.alloc (.cells #[.pointer none, .slice none 0 0] 137)) := (Below.refl _ _).alloc (Nat.le_refl _) _
  have IB := Bld.fresh w1
  generalize w1.alloc (.cells #[.pointer none, .slice none 0 0] 137) = w2 at *
  have hsb := hb.size
  obtain ⟨gB, hgB⟩ : ∃ g, g = w1.heap.size := ⟨_, rfl⟩
  rw [show Bld.Is w2 w1.heap.size w1.heap.size [] = Bld.Is w2 w1.heap.size gB [] by rw [hgB]] at IB
  rw [← hgB]
  clear hgB
  go_wp2_with fail
  go_loopg [7, 17] (n + 1) (fun k v7 v17 wr => ∃ i : Nat, v17 = .int .i64 (i : Int) ∧ i + k = n + 1 ∧ i ≤ n ∧ Bld.Is wr w1.heap.size gB ((s.data.toList.take ((places s).getD i 0)).map lowB) ∧ Below w1.heap.size w1 wr)
  case atStart => exact ⟨0, rfl, by omega, by omega, by rw [HP.out.first]; exact IB, B2⟩
  case round =>
    obtain ⟨i, rfl, hk, hil, HI, HB⟩ := hrel
    have HB' := Lib.hid HB
    have HI' := Lib.hid HI
    clear HI
    by_cases h : i < n
    · have q : decide ((i : Int) < (n : Int)) = true := by simp; omega
      obtain ⟨hnc, g, rfl, hg, hcell⟩ : n ≤ c ∧ ∃ g, A = some ⟨g, 0, none⟩ ∧ g < w1.heap.size ∧ ∀ j, j < n → w1.cell? ⟨g, j, none⟩ = some (.string (s.extract ((places s).getD j 0 + 1) ((places s).getD (j + 1) 0))) := by
        rcases HA.out with h0 | h1
        · omega
        · exact h1
      have c0 : wr.cell? ⟨g, i, none⟩ = _ := (HB.cell hg).trans (hcell i h)
      have hpn := HPN.out
      obtain ⟨n1, n2, n3⟩ := HP.out.next i (by omega)
      clear hcell hpn
      generalize (places s).getD i 0 = x at *
      generalize hy : (places s).getD (i + 1) 0 = y at *
      have nb := bt_nonneg s x
      have bd := bt_data s x
      obtain ⟨u, hu⟩ : ∃ u, s.data.toList.getD x 0 = u := ⟨_, rfl⟩
      rw [hu] at bd
      have hu63 : u.toNat ≤ 63 := by omega
      have HST := Lib.hid (pre_step s x y (by omega) (by omega) u hu hu63)
      have hls : (s.extract (x + 1) y).size = u.toNat := by rw [ByteArray.size_extract]; omega
      generalize s.extract (x + 1) y = l at *
      have kf := foldedc l (by omega)
      have e1 : IntKind.u8.wrap (l.size : Int) = (u.toNat : Int) := by rw [hls]; show ((u.toNat : Int) % 256) = _; omega
      have hlen : ((s.data.toList.take x).map lowB).length ≤ 255 := by rw [List.length_map, List.length_take]; omega
      have m1 : (0 : Int) ≤ (i : Int) := by omega
      have HX := Lib.hid hlen
      have HL := Lib.hid hls
      have HU := Lib.hid hu63
      have HY := Lib.hid hy
      have hBr := HB.size
      clear n1 n2 n3 nb bd hu hu63 hlen hls hy HB
      go_wp2_with fail
      refine (Bld.bytec w1.heap.size gB _ u wr HI'.out (by have := HX.out; omega) hBr).mono ?_
      rintro e w3 ⟨rfl, I3, B3⟩
      have B3' := HB'.out.trans B3
      have I3' := Lib.hid I3
      clear I3
      go_wp2_with fail
      refine (kf _).mono ?_
      rintro e w4 ⟨rfl, b4⟩
      have B4 := B3'.trans (b4.mono B3'.size)
      have I4 := Lib.hid (I3'.out.below b4)
      have hB4 := B4.size
      clear b4
      go_wp2_with fail
      refine (Bld.stringc w1.heap.size gB _ (foldS l) w4 I4.out (by have h1 := HX.out; have h2 := HL.out; have h3 := HU.out; rw [foldS_size, List.length_append]; simp only [List.length_cons, List.length_nil]; omega) hB4).mono ?_
      rintro e w5 ⟨rfl, I5, B5⟩
      have B5' := B4.trans B5
      have I5' := Lib.hid I5
      clear I5 B5 B3 B3' B4
      go_wp2_with fail
      go_roundg (n - i)
      case measure => omega
      case rel =>
        refine ⟨i + 1, by first | rfl | exact congrArg (Value.int .i64) (by rw [w64 (by omega) (by omega)]; omega), by omega, by omega, ?_, B5'⟩
        rw [HY.out, HST.out]
        exact I5'.out
    · have q : decide ((i : Int) < (n : Int)) = false := by simp; omega
      obtain rfl : i = n := by omega
      have hlen : ((s.data.toList.take ((places s).getD i 0)).map lowB).length ≤ 255 := by rw [List.length_map, List.length_take, len_data]; omega
      have hBr := HB.size
      have HX := Lib.hid hlen
      clear hlen HB
      go_wp2_with fail
      refine (Bld.stringc w1.heap.size gB _ ⟨#[0]⟩ wr HI'.out (by have h1 := HX.out; show _ + 1 ≤ _; omega) hBr).mono ?_
      rintro e w5 ⟨rfl, I5, B5⟩
      have B5' := HB'.out.trans B5
      have I5' := Lib.hid I5
      have e1 : ((s.data.toList.take ((places s).getD i 0)).map lowB) ++ (⟨#[0]⟩ : ByteArray).data.toList = s.data.toList.map lowB := by
        obtain ⟨a1, a2⟩ := HP.out.last
        rw [HPN.out, Nat.add_sub_cancel] at a1 a2
        generalize (places s).getD i 0 = x at *
        have hz := len_data s
        have hx : x < s.data.toList.length := by omega
        have bd := bt_data s x
        rw [a2, List.getD_eq_getElem?_getD, List.getElem?_eq_getElem hx] at bd
        have hu : s.data.toList[x] = 0 := by
          apply UInt8.toNat_inj.1
          have : ((s.data.toList[x]).toNat : Int) = 0 := bd.symm
          simpa using this
        have e2 : s.data.toList = s.data.toList.take x ++ [0] := by
          conv => lhs; rw [← List.take_append_drop x s.data.toList, List.drop_eq_getElem_cons hx, hu, List.drop_eq_nil_of_le (by omega)]
        conv => rhs; rw [e2]
        rw [List.map_append]
        rfl
      have kst : Calls Try.prog 77 #[.pointer (some ⟨gB, 0, none⟩)] w5 fun e w' => e = .returned (.string (foldN s)) ∧ Below w1.heap.size w5 w' := by
        have hI := I5'.out
        rw [e1] at hI
        have := Bld.strc w1.heap.size gB _ w5 hI B5'.size
        unfold foldN
        rw [if_pos HN.out]
        exact this
      clear I5 B5 e1
      go_wp2_with fail
      refine kst.mono ?_
      rintro e w6 ⟨rfl, B6⟩
      have B6' := B5'.trans B6
      clear B6 kst
      go_wp2_with fail
      go_ret
      exact ⟨rfl, hb.trans (B6'.mono hb.size)⟩
end Go.Proofs.Ytjklgdpffmaamaa.Fo

namespace Go.Proofs.Ytjklgdpffmaamaa.Pad
open Go.RowKit Go.PlainAid Go.Proofs.Ytjklgdpffmaamaa.Base Go.Proofs.Ytjklgdpffmaamaa.Oct Go.Proofs.Ytjklgdpffmaamaa.Nm Go.Proofs.Ytjklgdpffmaamaa.Wm Go.Proofs.Ytjklgdpffmaamaa.OptH Go.Proofs.Ytjklgdpffmaamaa.Fo
open Go.Proofs.YtjklgdpffmaamaaW.PrintWords (blk_cell blk_below blk_put blk_frozen blk_ne blk_new blk_lt blk_grown blk_alloc)
set_option linter.unusedVariables false
set_option linter.unusedSimpArgs false
theorem one_q {w : World} {b : Nat} {q : Qn} (h : w.heap[b]? = some (.cells #[.string q.name, .int .i64 q.type, .int .i64 q.cls] 40 (0, 0))) : QCells w (some ⟨b, 0, none⟩) [q] :=
  .inr ⟨_, rfl, fun j hj => by
    obtain rfl : j = 0 := by simpa using hj
    exact ⟨(blk_cell h 0).trans rfl, (blk_cell h 1).trans rfl, (blk_cell h 2).trans rfl⟩⟩
def qMsg (id : Int) (n : ByteArray) (t : Int) : MsgV := msgOf ⟨id, false, 0, false, false, false, false, 0, 0⟩ [⟨foldN n, t, 1⟩] [] [] []
def fineB (id : Int) (n : ByteArray) (t : Int) : Bool := decide (0 ≤ id) && decide (id ≤ 65535) && nameB n && decide (1 ≤ t) && decide (t ≤ 65535)
def queryS (id : Int) (n : ByteArray) (t : Int) : ByteArray := if fineB id n t = true then padS (qMsg id n t) 128 else ⟨#[]⟩
def queryE (id : Int) (n : ByteArray) (t : Int) : Int := if fineB id n t = true then 0 else 1000
set_option maxHeartbeats 4000000 in
set_option maxRecDepth 100000 in
theorem queryc (id : Int) (n : ByteArray) (t : Int) (w : World) : Calls Try.prog 24 #[.int .i64 id, .agg #[.string n, .int .i64 t]] w fun e w' => e = .returned (.tuple #[.string (queryS id n t), .int .i64 (queryE id n t)]) ∧ Below w.heap.size w w' := by
  have Bx : Below w.heap.size w (w.alloc (.cells #[.string n, .int .i64 t] 43)) := (Below.refl _ _).alloc (Nat.le_refl _) _
  have bS := blk_new w (.cells #[.string n, .int .i64 t] 43)
  have km := fun w => may n w
  have bad : ∀ {w' : World}, fineB id n t = false → Below w.heap.size w w' → (Ending.returned (.tuple #[.string ⟨#[]⟩, .int .i64 1000]) = .returned (.tuple #[.string (queryS id n t), .int .i64 (queryE id n t)]) ∧ Below w.heap.size w w') := by
    intro w' hf hb
    unfold queryS queryE
    rw [if_neg (by rw [hf]; decide), if_neg (by rw [hf]; decide)]
    exact ⟨rfl, hb⟩
  by_cases h0 : id < 0
  · have q0 : decide (id < 0) = true := decide_eq_true h0
    have hf : fineB id n t = false := by unfold fineB; rw [decide_eq_false (show ¬ 0 ≤ id by omega)]; rfl
    have HF := Lib.hid hf
    clear h0 hf
    go_enter Try.func24, Try.ntmps24
    go_wp2_with fail
    go_ret2
    exact bad HF.out Bx
  have q0 : decide (id < 0) = false := decide_eq_false h0
  by_cases h1 : 65535 < id
  · have q1 : decide (65535 < id) = true := decide_eq_true h1
    have hf : fineB id n t = false := by unfold fineB; rw [decide_eq_false (show ¬ id ≤ 65535 by omega)]; simp
    have HF := Lib.hid hf
    clear h0 h1 hf
    go_enter Try.func24, Try.ntmps24
    go_wp2_with fail
    go_ret2
    exact bad HF.out Bx
  have q1 : decide (65535 < id) = false := decide_eq_false h1
  have hbig := Lib.hid (show 0 ≤ id ∧ id ≤ 65535 by omega)
  clear h0 h1
  by_cases hn : nameB n = true
  case neg =>
    have hn : nameB n = false := by simpa using hn
    have hf : fineB id n t = false := by unfold fineB; rw [hn]; simp
    have HF := Lib.hid hf
    rw [hn] at km
    clear hf hn
    have s0 : (w.alloc (.cells #[.string n, .int .i64 t] 43)).cell? ⟨w.heap.size, 0, none⟩ = some (.string n) := (blk_cell bS 0).trans rfl
    go_enter Try.func24, Try.ntmps24
    go_wp2_with fail
    refine (km _).mono ?_
    rintro e w2 ⟨rfl, hb⟩
    replace Bx := Bx.trans (hb.mono Bx.size)
    clear hb
    go_wp2_with fail
    go_ret2
    exact bad HF.out Bx
  rw [hn] at km
  have HN := Lib.hid hn
  clear hn
  go_enter Try.func24, Try.ntmps24
  go_upto_region 1 with (fail)
  generalize w.alloc (.cells #[.string n, .int .i64 t] 43) = w1 at *
  have s0 : w1.cell? ⟨w.heap.size, 0, none⟩ = some (.string n) := (blk_cell bS 0).trans rfl
  go_wp2_with fail
  refine (km _).mono ?_
  rintro e w2 ⟨rfl, hb⟩
  replace Bx := Bx.trans (hb.mono Bx.size)
  replace bS := blk_below bS hb
  clear hb s0 km
  have s0 : w2.cell? ⟨w.heap.size, 0, none⟩ = some (.string n) := (blk_cell bS 0).trans rfl
  have s1 : w2.cell? ⟨w.heap.size, 1, none⟩ = some (.int .i64 t) := (blk_cell bS 1).trans rfl
  by_cases h0 : t < 1
  · have q2 : decide (t < 1) = true := decide_eq_true h0
    have hf : fineB id n t = false := by unfold fineB; rw [decide_eq_false (show ¬ 1 ≤ t by omega)]; simp
    have HF := Lib.hid hf
    clear h0 hf
    go_wp2_with fail
    go_ret2
    exact bad HF.out Bx
  have q2 : decide (t < 1) = false := decide_eq_false h0
  by_cases h1 : 65535 < t
  · have q3 : decide (65535 < t) = true := decide_eq_true h1
    have hf : fineB id n t = false := by unfold fineB; rw [decide_eq_false (show ¬ t ≤ 65535 by omega)]; simp
    have HF := Lib.hid hf
    clear h0 h1 hf
    go_wp2_with fail
    go_ret2
    exact bad HF.out Bx
  have q3 : decide (65535 < t) = false := decide_eq_false h1
  have hf : fineB id n t = true := by
    have := hbig.out
    unfold fineB
    rw [HN.out, decide_eq_true this.1, decide_eq_true this.2, decide_eq_true (show 1 ≤ t by omega), decide_eq_true (show t ≤ 65535 by omega)]
    rfl
  have e1 : queryS id n t = padS (qMsg id n t) 128 := if_pos hf
  have e2 : queryE id n t = 0 := if_pos hf
  have HE := Lib.hid (And.intro e1 e2)
  clear h0 h1 hf e1 e2 bad
  go_upto_region 3 with (fail)
  have Bd : Below w.heap.size w w2.drew := Bx.drew
  have bd : w2.drew.heap[w.heap.size]? = _ := bS
  have d0 : w2.drew.cell? ⟨w.heap.size, 0, none⟩ = some (.string n) := s0
  have d1 : w2.drew.cell? ⟨w.heap.size, 1, none⟩ = some (.int .i64 t) := s1
  have kf := fun w => foldNc n w
  go_cut [6] (fun v6 wc => ∃ gq, v6 = .pointer (some ⟨gq, 0, none⟩) ∧ wc.heap[gq]? = some (.cells #[.string (foldN n), .int .i64 t, .int .i64 1] 40 (0, 0)) ∧ Below w.heap.size w wc)
  case first =>
    have hne1 : ¬ w.heap.size = w2.heap.size := Nat.ne_of_lt (blk_lt bS)
    have hne1' : ¬ w2.heap.size = w.heap.size := fun e => hne1 e.symm
    have B0 : Below w2.heap.size w2 (w2.alloc (.cells #[.string ⟨#[]⟩, .int .i64 0, .int .i64 0] 40)) := (Below.refl _ _).alloc (Nat.le_refl _) _
    have bq0 := blk_new w2 (.cells #[.string ⟨#[]⟩, .int .i64 0, .int .i64 0] 40)
    have BdB : Below w.heap.size w (w2.alloc (.cells #[.string ⟨#[]⟩, .int .i64 0, .int .i64 0] 40)).drew := (Bx.trans (B0.mono Bx.size)).drew
    have bdB : (w2.alloc (.cells #[.string ⟨#[]⟩, .int .i64 0, .int .i64 0] 40)).drew.heap[w.heap.size]? = _ := blk_alloc bS _
    have bqB : (w2.alloc (.cells #[.string ⟨#[]⟩, .int .i64 0, .int .i64 0] 40)).drew.heap[w2.heap.size]? = _ := bq0
    go_region_held3 (fun w' => w'.cell? ⟨w.heap.size, 0, none⟩ = some (.string n) ∧ w'.cell? ⟨w.heap.size, 1, none⟩ = some (.int .i64 t))
      (first | go_keep | (go_split_ands; refine ⟨?_, ?_⟩ <;> assumption))
      (first
        | (go_at_call 46; with_reducible refine (kf w2.drew).mono ?_; rintro e w' ⟨rfl, hb⟩; have Bd := Bd.trans (hb.mono Bd.size); have bd := blk_below bd hb; have d0 : w'.cell? ⟨w.heap.size, 0, none⟩ = some (.string n) := (blk_cell bd 0).trans rfl; have d1 : w'.cell? ⟨w.heap.size, 1, none⟩ = some (.int .i64 t) := (blk_cell bd 1).trans rfl; have hne2 : ¬ w.heap.size = w'.heap.size := Nat.ne_of_lt (blk_lt bd))
        | (go_at_call 46; with_reducible refine (kf (w2.alloc (.cells #[.string ⟨#[]⟩, .int .i64 0, .int .i64 0] 40)).drew).mono ?_; rintro e w' ⟨rfl, hb⟩; have Bd := BdB.trans (hb.mono BdB.size); have bd := blk_below bdB hb; have bq := blk_below bqB hb; have d0 : w'.cell? ⟨w.heap.size, 0, none⟩ = some (.string n) := (blk_cell bd 0).trans rfl; have d1 : w'.cell? ⟨w.heap.size, 1, none⟩ = some (.int .i64 t) := (blk_cell bd 1).trans rfl; have p0 : w'.cell? ⟨w2.heap.size, 0, none⟩ = some (.string ⟨#[]⟩) := (blk_cell bq 0).trans rfl; have p1 : w'.cell? ⟨w2.heap.size, 1, none⟩ = some (.int .i64 0) := (blk_cell bq 1).trans rfl; have p2 : w'.cell? ⟨w2.heap.size, 2, none⟩ = some (.int .i64 0) := (blk_cell bq 2).trans rfl; have g0 := blk_frozen bq 0; have g1 := blk_frozen bq 1; have g2 := blk_frozen bq 2))
    · try go_wp2_with fail
      go_meet
      case rel => exact ⟨w'.heap.size, rfl, blk_new w' _, Bd.alloc Bd.size _⟩
    · try go_wp2_with fail
      go_meet
      case rel =>
        have b3 := blk_put (blk_put (blk_put bq 0 (.string (foldN n)) rfl) 1 (.int .i64 t) rfl) 2 (.int .i64 1) rfl
        exact ⟨w2.heap.size, rfl, by simpa using b3, ((Bd.setCell (p := ⟨w2.heap.size, 0, none⟩) Bx.size _).setCell (p := ⟨w2.heap.size, 1, none⟩) Bx.size _).setCell (p := ⟨w2.heap.size, 2, none⟩) Bx.size _⟩
  case rest =>
    obtain ⟨gq, rfl, bq, Bq⟩ := hcut
    have k0 : wc.cell? ⟨gq, 0, none⟩ = some (.string (foldN n)) := (blk_cell bq 0).trans rfl
    have k1 : wc.cell? ⟨gq, 1, none⟩ = some (.int .i64 t) := (blk_cell bq 1).trans rfl
    have k2 : wc.cell? ⟨gq, 2, none⟩ = some (.int .i64 1) := (blk_cell bq 2).trans rfl
    have B1 := Bq.alloc Bq.size (.cells #[.string (foldN n), .int .i64 t, .int .i64 1] 40)
    have kp := paddedc ⟨⟨id, false, 0, false, false, false, false, 0, 0⟩, some ⟨wc.heap.size, 0, none⟩, 1, [⟨foldN n, t, 1⟩], none, 0, [], none, 0, [], none, 0, []⟩ 128 (by decide) (by decide) (wc.alloc (.cells #[.string (foldN n), .int .i64 t, .int .i64 1] 40))
      ⟨one_q (q := ⟨foldN n, t, 1⟩) (blk_new wc _), .inl rfl, .inl rfl, .inl rfl, Nat.le_refl _, Nat.le_refl _, Nat.le_refl _, Nat.le_refl _, (by intro r hr; cases hr), (by intro r hr; cases hr), (by intro r hr; cases hr)⟩ (Nat.zero_le _)
    have eS : padS ⟨⟨id, false, 0, false, false, false, false, 0, 0⟩, some ⟨wc.heap.size, 0, none⟩, 1, [⟨foldN n, t, 1⟩], none, 0, [], none, 0, [], none, 0, []⟩ 128 = padS (qMsg id n t) 128 := rfl
    rw [eS] at kp
    clear eS bq bS Bx Bd bd d0 d1 s0 s1
    generalize padS (qMsg id n t) 128 = ps at *
    generalize padE _ 128 = pe at kp
    go_wp2_with fail
    refine kp.mono ?_
    rintro e w5 ⟨rfl, hb⟩
    have B5 := B1.trans (hb.mono B1.size)
    clear hb kp
    go_wp2_with fail
    go_ret2
    refine ⟨?_, B5⟩
    rw [HE.out.1, HE.out.2]
    rfl
end Go.Proofs.Ytjklgdpffmaamaa.Pad

namespace Go.Proofs.Ytjklgdpffmaamaa.Pad
open Go.RowKit Go.PlainAid Go.Proofs.Ytjklgdpffmaamaa.Base Go.Proofs.Ytjklgdpffmaamaa.Oct Go.Proofs.Ytjklgdpffmaamaa.Wm Go.Proofs.Ytjklgdpffmaamaa.OptH
open Go.Proofs.YtjklgdpffmaamaaW.PrintWords (blk_cell blk_below blk_put blk_frozen blk_ne blk_new blk_lt blk_grown blk_alloc)
set_option linter.unusedVariables false
set_option linter.unusedSimpArgs false
/-- A message cut short. -/
abbrev shortM (m : MsgV) : MsgV := ⟨⟨m.h.id, m.h.qr, m.h.op, m.h.aa, true, m.h.rd, m.h.ra, m.h.z, m.h.rc⟩, m.Aq, m.cq, m.qs, none, 0, [], none, 0, [], none, 0, []⟩
theorem short_lies {m : MsgV} {w : World} (h : m.Lies w) : (shortM m).Lies w :=
  ⟨h.q, .inl rfl, .inl rfl, .inl rfl, h.lq, Nat.le_refl _, Nat.le_refl _, Nat.le_refl _, (by intro r hr; cases hr), (by intro r hr; cases hr), (by intro r hr; cases hr)⟩
abbrev fn (f : Nat) (b : Nat) : Value := .func (.func f) #[] #[.pointer (some ⟨b, 0, none⟩)]
abbrev fns (edns : Bool) (gm gs : Nat) : Array Value := if edns = true then #[fn 83 gm, fn 84 gs, fn 85 gs] else #[fn 81 gm, fn 82 gs]
abbrev nF (edns : Bool) : Nat := if edns = true then 3 else 2
def FormsPost (m : MsgV) (edns : Bool) (w : World) (e : Ending) (w' : World) : Prop :=
  ∃ gm gs g, e = .returned (.slice (some ⟨g, 0, none⟩) (nF edns) (nF edns)) ∧ w'.heap[gm]? = some (.cells m.cells 27 (0, 0)) ∧ w'.heap[gs]? = some (.cells (shortM m).cells 27 (0, 0)) ∧ w'.heap[g]? = some (.cells (fns edns gm gs) 103 (0, 0)) ∧ Below w.heap.size w w'
set_option maxHeartbeats 4000000 in
set_option maxRecDepth 100000 in
theorem formsc (m : MsgV) (edns : Bool) (w : World) : Calls Try.prog 55 #[.agg m.cells, .bool edns] w fun e w' => FormsPost m edns w e w' := by
  have Bx : Below w.heap.size w (w.alloc (.cells m.cells 27)) := (Below.refl _ _).alloc (Nat.le_refl _) _
  have bM := blk_new w (.cells m.cells 27)
  go_enter Try.func55, Try.ntmps55
  go_upto_region 1 with (fail)
  generalize w.alloc (.cells m.cells 27) = w1 at *
  have x0 : w1.cell? ⟨w.heap.size, 0, none⟩ = some (.int .i64 m.h.id) := (blk_cell bM 0).trans rfl
  have x1 : w1.cell? ⟨w.heap.size, 1, none⟩ = some (.bool m.h.qr) := (blk_cell bM 1).trans rfl
  have x2 : w1.cell? ⟨w.heap.size, 2, none⟩ = some (.int .i64 m.h.op) := (blk_cell bM 2).trans rfl
  have x3 : w1.cell? ⟨w.heap.size, 3, none⟩ = some (.bool m.h.aa) := (blk_cell bM 3).trans rfl
  have x4 : w1.cell? ⟨w.heap.size, 4, none⟩ = some (.bool m.h.tc) := (blk_cell bM 4).trans rfl
  have x5 : w1.cell? ⟨w.heap.size, 5, none⟩ = some (.bool m.h.rd) := (blk_cell bM 5).trans rfl
  have x6 : w1.cell? ⟨w.heap.size, 6, none⟩ = some (.bool m.h.ra) := (blk_cell bM 6).trans rfl
  have x7 : w1.cell? ⟨w.heap.size, 7, none⟩ = some (.int .i64 m.h.z) := (blk_cell bM 7).trans rfl
  have x8 : w1.cell? ⟨w.heap.size, 8, none⟩ = some (.int .i64 m.h.rc) := (blk_cell bM 8).trans rfl
  have x9 : w1.cell? ⟨w.heap.size, 9, none⟩ = some (.slice m.Aq m.qs.length m.cq) := (blk_cell bM 9).trans rfl
  have x10 : w1.cell? ⟨w.heap.size, 10, none⟩ = some (.slice m.Aa m.an.length m.ca) := (blk_cell bM 10).trans rfl
  have x11 : w1.cell? ⟨w.heap.size, 11, none⟩ = some (.slice m.An m.ns.length m.cn) := (blk_cell bM 11).trans rfl
  have x12 : w1.cell? ⟨w.heap.size, 12, none⟩ = some (.slice m.Ar m.ar.length m.cr) := (blk_cell bM 12).trans rfl
  have B2 := Bx.alloc Bx.size (.cells m.cells 27)
  have bM2 := blk_alloc bM (.cells m.cells 27)
  have bS2 := blk_new w1 (.cells m.cells 27)
  go_upto_region 2 with (fail)
  generalize w1.alloc (.cells #[.int .i64 m.h.id, .bool m.h.qr, .int .i64 m.h.op, .bool m.h.aa, .bool m.h.tc, .bool m.h.rd, .bool m.h.ra, .int .i64 m.h.z, .int .i64 m.h.rc, .slice m.Aq m.qs.length m.cq, .slice m.Aa m.an.length m.ca, .slice m.An m.ns.length m.cn, .slice m.Ar m.ar.length m.cr] 27) = w2 at *
  obtain ⟨gs, hgs⟩ : ∃ gs, gs = w1.heap.size := ⟨_, rfl⟩
  have hge : w.heap.size ≤ gs := by rw [hgs]; exact Bx.size
  have hne : w.heap.size ≠ gs := by rw [hgs]; exact Nat.ne_of_lt (blk_lt bM)
  rw [← hgs] at bS2 ⊢
  clear x0 x1 x2 x3 x4 x5 x6 x7 x8 x9 x10 x11 x12
  clear hgs bM Bx
  have y0 : w2.cell? ⟨gs, 0, none⟩ = some (.int .i64 m.h.id) := (blk_cell bS2 0).trans rfl
  have y1 : w2.cell? ⟨gs, 1, none⟩ = some (.bool m.h.qr) := (blk_cell bS2 1).trans rfl
  have y2 : w2.cell? ⟨gs, 2, none⟩ = some (.int .i64 m.h.op) := (blk_cell bS2 2).trans rfl
  have y3 : w2.cell? ⟨gs, 3, none⟩ = some (.bool m.h.aa) := (blk_cell bS2 3).trans rfl
  have y4 : w2.cell? ⟨gs, 4, none⟩ = some (.bool m.h.tc) := (blk_cell bS2 4).trans rfl
  have y5 : w2.cell? ⟨gs, 5, none⟩ = some (.bool m.h.rd) := (blk_cell bS2 5).trans rfl
  have y6 : w2.cell? ⟨gs, 6, none⟩ = some (.bool m.h.ra) := (blk_cell bS2 6).trans rfl
  have y7 : w2.cell? ⟨gs, 7, none⟩ = some (.int .i64 m.h.z) := (blk_cell bS2 7).trans rfl
  have y8 : w2.cell? ⟨gs, 8, none⟩ = some (.int .i64 m.h.rc) := (blk_cell bS2 8).trans rfl
  have y9 : w2.cell? ⟨gs, 9, none⟩ = some (.slice m.Aq m.qs.length m.cq) := (blk_cell bS2 9).trans rfl
  have y10 : w2.cell? ⟨gs, 10, none⟩ = some (.slice m.Aa m.an.length m.ca) := (blk_cell bS2 10).trans rfl
  have y11 : w2.cell? ⟨gs, 11, none⟩ = some (.slice m.An m.ns.length m.cn) := (blk_cell bS2 11).trans rfl
  have y12 : w2.cell? ⟨gs, 12, none⟩ = some (.slice m.Ar m.ar.length m.cr) := (blk_cell bS2 12).trans rfl
  have f0 := blk_frozen bS2 0
  have f1 := blk_frozen bS2 1
  have f2 := blk_frozen bS2 2
  have f3 := blk_frozen bS2 3
  have f4 := blk_frozen bS2 4
  have f5 := blk_frozen bS2 5
  have f6 := blk_frozen bS2 6
  have f7 := blk_frozen bS2 7
  have f8 := blk_frozen bS2 8
  have f9 := blk_frozen bS2 9
  have f10 := blk_frozen bS2 10
  have f11 := blk_frozen bS2 11
  have f12 := blk_frozen bS2 12
  go_upto_if 13 with (fail)
  have bS3 := blk_put (blk_put (blk_put (blk_put bS2 4 (.bool true) rfl) 10 (.slice none 0 0) rfl) 11 (.slice none 0 0) rfl) 12 (.slice none 0 0) rfl
  have bM3 := blk_set_ne (p := ⟨gs, 12, none⟩) (blk_set_ne (p := ⟨gs, 11, none⟩) (blk_set_ne (p := ⟨gs, 10, none⟩) (blk_set_ne (p := ⟨gs, 4, none⟩) bM2 hne (.bool true)) hne (.slice none 0 0)) hne (.slice none 0 0)) hne (.slice none 0 0)
  have B3 := (((B2.setCell (p := ⟨gs, 4, none⟩) hge (.bool true)).setCell (p := ⟨gs, 10, none⟩) hge (.slice none 0 0)).setCell (p := ⟨gs, 11, none⟩) hge (.slice none 0 0)).setCell (p := ⟨gs, 12, none⟩) hge (.slice none 0 0)
  generalize (((w2.setCell ⟨gs, 4, none⟩ (.bool true)).setCell ⟨gs, 10, none⟩ (.slice none 0 0)).setCell ⟨gs, 11, none⟩ (.slice none 0 0)).setCell ⟨gs, 12, none⟩ (.slice none 0 0) = w3 at *
  replace bS3 : w3.heap[gs]? = some (.cells (shortM m).cells 27 (0, 0)) := by
    show w3.heap[gs]? = some (.cells #[.int .i64 m.h.id, .bool m.h.qr, .int .i64 m.h.op, .bool m.h.aa, .bool true, .bool m.h.rd, .bool m.h.ra, .int .i64 m.h.z, .int .i64 m.h.rc, .slice m.Aq m.qs.length m.cq, .slice none 0 0, .slice none 0 0, .slice none 0 0] 27 (0, 0))
    simpa using bS3
  clear y0 y1 y2 y3 y4 y5 y6 y7 y8 y9 y10 y11 y12 f0 f1 f2 f3 f4 f5 f6 f7 f8 f9 f10 f11 f12 bM2 bS2 B2
  cases edns with
  | false =>
    go_wp2_with fail
    go_ret
    exact ⟨w.heap.size, gs, w3.heap.size, rfl, blk_alloc bM3 _, blk_alloc bS3 _, blk_new w3 _, B3.alloc B3.size _⟩
  | true =>
    go_wp2_with fail
    go_ret
    exact ⟨w.heap.size, gs, w3.heap.size, rfl, blk_alloc bM3 _, blk_alloc bS3 _, blk_new w3 _, B3.alloc B3.size _⟩
set_option maxHeartbeats 2000000 in
set_option maxRecDepth 100000 in
theorem fn1c (X : MsgV) (b : Nat) (w : World) (hb : w.heap[b]? = some (.cells X.cells 27 (0, 0))) (hX : X.Lies w) : Calls Try.prog 81 #[.pointer (some ⟨b, 0, none⟩)] w fun e w' => e = .returned (.tuple #[.string (putS X), .int .i64 (putE X)]) ∧ Below w.heap.size w w' := by
  have x0 : w.cell? ⟨b, 0, none⟩ = some (.int .i64 X.h.id) := (blk_cell hb 0).trans rfl
  have x1 : w.cell? ⟨b, 1, none⟩ = some (.bool X.h.qr) := (blk_cell hb 1).trans rfl
  have x2 : w.cell? ⟨b, 2, none⟩ = some (.int .i64 X.h.op) := (blk_cell hb 2).trans rfl
  have x3 : w.cell? ⟨b, 3, none⟩ = some (.bool X.h.aa) := (blk_cell hb 3).trans rfl
  have x4 : w.cell? ⟨b, 4, none⟩ = some (.bool X.h.tc) := (blk_cell hb 4).trans rfl
  have x5 : w.cell? ⟨b, 5, none⟩ = some (.bool X.h.rd) := (blk_cell hb 5).trans rfl
  have x6 : w.cell? ⟨b, 6, none⟩ = some (.bool X.h.ra) := (blk_cell hb 6).trans rfl
  have x7 : w.cell? ⟨b, 7, none⟩ = some (.int .i64 X.h.z) := (blk_cell hb 7).trans rfl
  have x8 : w.cell? ⟨b, 8, none⟩ = some (.int .i64 X.h.rc) := (blk_cell hb 8).trans rfl
  have x9 : w.cell? ⟨b, 9, none⟩ = some (.slice X.Aq X.qs.length X.cq) := (blk_cell hb 9).trans rfl
  have x10 : w.cell? ⟨b, 10, none⟩ = some (.slice X.Aa X.an.length X.ca) := (blk_cell hb 10).trans rfl
  have x11 : w.cell? ⟨b, 11, none⟩ = some (.slice X.An X.ns.length X.cn) := (blk_cell hb 11).trans rfl
  have x12 : w.cell? ⟨b, 12, none⟩ = some (.slice X.Ar X.ar.length X.cr) := (blk_cell hb 12).trans rfl
  clear hb
  go_enter Try.func81, Try.ntmps81
  have kp := putc X w hX
  go_wp2_with fail
  refine kp.mono ?_
  rintro e w5 ⟨rfl, hb⟩
  clear kp
  go_wp2_with fail
  go_ret2
  exact ⟨rfl, hb⟩
set_option maxHeartbeats 2000000 in
set_option maxRecDepth 100000 in
theorem fn2c (X : MsgV) (b : Nat) (w : World) (hb : w.heap[b]? = some (.cells X.cells 27 (0, 0))) (hX : X.Lies w) : Calls Try.prog 82 #[.pointer (some ⟨b, 0, none⟩)] w fun e w' => e = .returned (.tuple #[.string (putS X), .int .i64 (putE X)]) ∧ Below w.heap.size w w' := by
  have x0 : w.cell? ⟨b, 0, none⟩ = some (.int .i64 X.h.id) := (blk_cell hb 0).trans rfl
  have x1 : w.cell? ⟨b, 1, none⟩ = some (.bool X.h.qr) := (blk_cell hb 1).trans rfl
  have x2 : w.cell? ⟨b, 2, none⟩ = some (.int .i64 X.h.op) := (blk_cell hb 2).trans rfl
  have x3 : w.cell? ⟨b, 3, none⟩ = some (.bool X.h.aa) := (blk_cell hb 3).trans rfl
  have x4 : w.cell? ⟨b, 4, none⟩ = some (.bool X.h.tc) := (blk_cell hb 4).trans rfl
  have x5 : w.cell? ⟨b, 5, none⟩ = some (.bool X.h.rd) := (blk_cell hb 5).trans rfl
  have x6 : w.cell? ⟨b, 6, none⟩ = some (.bool X.h.ra) := (blk_cell hb 6).trans rfl
  have x7 : w.cell? ⟨b, 7, none⟩ = some (.int .i64 X.h.z) := (blk_cell hb 7).trans rfl
  have x8 : w.cell? ⟨b, 8, none⟩ = some (.int .i64 X.h.rc) := (blk_cell hb 8).trans rfl
  have x9 : w.cell? ⟨b, 9, none⟩ = some (.slice X.Aq X.qs.length X.cq) := (blk_cell hb 9).trans rfl
  have x10 : w.cell? ⟨b, 10, none⟩ = some (.slice X.Aa X.an.length X.ca) := (blk_cell hb 10).trans rfl
  have x11 : w.cell? ⟨b, 11, none⟩ = some (.slice X.An X.ns.length X.cn) := (blk_cell hb 11).trans rfl
  have x12 : w.cell? ⟨b, 12, none⟩ = some (.slice X.Ar X.ar.length X.cr) := (blk_cell hb 12).trans rfl
  clear hb
  go_enter Try.func82, Try.ntmps82
  have kp := putc X w hX
  go_wp2_with fail
  refine kp.mono ?_
  rintro e w5 ⟨rfl, hb⟩
  clear kp
  go_wp2_with fail
  go_ret2
  exact ⟨rfl, hb⟩
set_option maxHeartbeats 2000000 in
set_option maxRecDepth 100000 in
theorem fn3c (X : MsgV) (b : Nat) (w : World) (hb : w.heap[b]? = some (.cells X.cells 27 (0, 0))) (hX : X.Lies w) (hl : X.ar.length ≤ 63) : Calls Try.prog 83 #[.pointer (some ⟨b, 0, none⟩)] w fun e w' => e = .returned (.tuple #[.string (padS X 468), .int .i64 (padE X 468)]) ∧ Below w.heap.size w w' := by
  have x0 : w.cell? ⟨b, 0, none⟩ = some (.int .i64 X.h.id) := (blk_cell hb 0).trans rfl
  have x1 : w.cell? ⟨b, 1, none⟩ = some (.bool X.h.qr) := (blk_cell hb 1).trans rfl
  have x2 : w.cell? ⟨b, 2, none⟩ = some (.int .i64 X.h.op) := (blk_cell hb 2).trans rfl
  have x3 : w.cell? ⟨b, 3, none⟩ = some (.bool X.h.aa) := (blk_cell hb 3).trans rfl
  have x4 : w.cell? ⟨b, 4, none⟩ = some (.bool X.h.tc) := (blk_cell hb 4).trans rfl
  have x5 : w.cell? ⟨b, 5, none⟩ = some (.bool X.h.rd) := (blk_cell hb 5).trans rfl
  have x6 : w.cell? ⟨b, 6, none⟩ = some (.bool X.h.ra) := (blk_cell hb 6).trans rfl
  have x7 : w.cell? ⟨b, 7, none⟩ = some (.int .i64 X.h.z) := (blk_cell hb 7).trans rfl
  have x8 : w.cell? ⟨b, 8, none⟩ = some (.int .i64 X.h.rc) := (blk_cell hb 8).trans rfl
  have x9 : w.cell? ⟨b, 9, none⟩ = some (.slice X.Aq X.qs.length X.cq) := (blk_cell hb 9).trans rfl
  have x10 : w.cell? ⟨b, 10, none⟩ = some (.slice X.Aa X.an.length X.ca) := (blk_cell hb 10).trans rfl
  have x11 : w.cell? ⟨b, 11, none⟩ = some (.slice X.An X.ns.length X.cn) := (blk_cell hb 11).trans rfl
  have x12 : w.cell? ⟨b, 12, none⟩ = some (.slice X.Ar X.ar.length X.cr) := (blk_cell hb 12).trans rfl
  clear hb
  go_enter Try.func83, Try.ntmps83
  have kp := paddedc X 468 (by decide) (by decide) w hX hl
  go_wp2_with fail
  refine kp.mono ?_
  rintro e w5 ⟨rfl, hb⟩
  clear kp
  go_wp2_with fail
  go_ret2
  exact ⟨rfl, hb⟩
set_option maxHeartbeats 2000000 in
set_option maxRecDepth 100000 in
theorem fn4c (X : MsgV) (b : Nat) (w : World) (hb : w.heap[b]? = some (.cells X.cells 27 (0, 0))) (hX : X.Lies w) (hl : X.ar.length ≤ 63) : Calls Try.prog 84 #[.pointer (some ⟨b, 0, none⟩)] w fun e w' => e = .returned (.tuple #[.string (padS X 468), .int .i64 (padE X 468)]) ∧ Below w.heap.size w w' := by
  have x0 : w.cell? ⟨b, 0, none⟩ = some (.int .i64 X.h.id) := (blk_cell hb 0).trans rfl
  have x1 : w.cell? ⟨b, 1, none⟩ = some (.bool X.h.qr) := (blk_cell hb 1).trans rfl
  have x2 : w.cell? ⟨b, 2, none⟩ = some (.int .i64 X.h.op) := (blk_cell hb 2).trans rfl
  have x3 : w.cell? ⟨b, 3, none⟩ = some (.bool X.h.aa) := (blk_cell hb 3).trans rfl
  have x4 : w.cell? ⟨b, 4, none⟩ = some (.bool X.h.tc) := (blk_cell hb 4).trans rfl
  have x5 : w.cell? ⟨b, 5, none⟩ = some (.bool X.h.rd) := (blk_cell hb 5).trans rfl
  have x6 : w.cell? ⟨b, 6, none⟩ = some (.bool X.h.ra) := (blk_cell hb 6).trans rfl
  have x7 : w.cell? ⟨b, 7, none⟩ = some (.int .i64 X.h.z) := (blk_cell hb 7).trans rfl
  have x8 : w.cell? ⟨b, 8, none⟩ = some (.int .i64 X.h.rc) := (blk_cell hb 8).trans rfl
  have x9 : w.cell? ⟨b, 9, none⟩ = some (.slice X.Aq X.qs.length X.cq) := (blk_cell hb 9).trans rfl
  have x10 : w.cell? ⟨b, 10, none⟩ = some (.slice X.Aa X.an.length X.ca) := (blk_cell hb 10).trans rfl
  have x11 : w.cell? ⟨b, 11, none⟩ = some (.slice X.An X.ns.length X.cn) := (blk_cell hb 11).trans rfl
  have x12 : w.cell? ⟨b, 12, none⟩ = some (.slice X.Ar X.ar.length X.cr) := (blk_cell hb 12).trans rfl
  clear hb
  go_enter Try.func84, Try.ntmps84
  have kp := paddedc X 468 (by decide) (by decide) w hX hl
  go_wp2_with fail
  refine kp.mono ?_
  rintro e w5 ⟨rfl, hb⟩
  clear kp
  go_wp2_with fail
  go_ret2
  exact ⟨rfl, hb⟩
set_option maxHeartbeats 2000000 in
set_option maxRecDepth 100000 in
theorem fn5c (X : MsgV) (b : Nat) (w : World) (hb : w.heap[b]? = some (.cells X.cells 27 (0, 0))) (hX : X.Lies w) (hl : X.ar.length ≤ 63) : Calls Try.prog 85 #[.pointer (some ⟨b, 0, none⟩)] w fun e w' => e = .returned (.tuple #[.string (putS (padR X ⟨#[]⟩)), .int .i64 (putE (padR X ⟨#[]⟩))]) ∧ Below w.heap.size w w' := by
  have x0 : w.cell? ⟨b, 0, none⟩ = some (.int .i64 X.h.id) := (blk_cell hb 0).trans rfl
  have x1 : w.cell? ⟨b, 1, none⟩ = some (.bool X.h.qr) := (blk_cell hb 1).trans rfl
  have x2 : w.cell? ⟨b, 2, none⟩ = some (.int .i64 X.h.op) := (blk_cell hb 2).trans rfl
  have x3 : w.cell? ⟨b, 3, none⟩ = some (.bool X.h.aa) := (blk_cell hb 3).trans rfl
  have x4 : w.cell? ⟨b, 4, none⟩ = some (.bool X.h.tc) := (blk_cell hb 4).trans rfl
  have x5 : w.cell? ⟨b, 5, none⟩ = some (.bool X.h.rd) := (blk_cell hb 5).trans rfl
  have x6 : w.cell? ⟨b, 6, none⟩ = some (.bool X.h.ra) := (blk_cell hb 6).trans rfl
  have x7 : w.cell? ⟨b, 7, none⟩ = some (.int .i64 X.h.z) := (blk_cell hb 7).trans rfl
  have x8 : w.cell? ⟨b, 8, none⟩ = some (.int .i64 X.h.rc) := (blk_cell hb 8).trans rfl
  have x9 : w.cell? ⟨b, 9, none⟩ = some (.slice X.Aq X.qs.length X.cq) := (blk_cell hb 9).trans rfl
  have x10 : w.cell? ⟨b, 10, none⟩ = some (.slice X.Aa X.an.length X.ca) := (blk_cell hb 10).trans rfl
  have x11 : w.cell? ⟨b, 11, none⟩ = some (.slice X.An X.ns.length X.cn) := (blk_cell hb 11).trans rfl
  have x12 : w.cell? ⟨b, 12, none⟩ = some (.slice X.Ar X.ar.length X.cr) := (blk_cell hb 12).trans rfl
  clear hb
  go_enter Try.func85, Try.ntmps85
  go_wp2_with fail
  refine (withc X (-1) ⟨#[]⟩ (.inl ⟨rfl, rfl⟩) w hX hl).mono ?_
  rintro e w4 ⟨A1, c1, rfl, hm2, hb4⟩
  have kp := putc _ w4 hm2
  go_wp2_with fail
  refine kp.mono ?_
  rintro e w5 ⟨rfl, hb⟩
  have B := hb4.trans (hb.mono hb4.size)
  clear kp hb hb4
  go_wp2_with fail
  go_ret2
  exact ⟨rfl, B⟩
/-- The ways in which an answer may go, the best first. -/
def formL (m : MsgV) (edns : Bool) : List (ByteArray × Int) :=
  if edns = true then [(padS m 468, padE m 468), (padS (shortM m) 468, padE (shortM m) 468), (putS (padR (shortM m) ⟨#[]⟩), putE (padR (shortM m) ⟨#[]⟩))] else [(putS m, putE m), (putS (shortM m), putE (shortM m))]
def pick (most : Int) : List (ByteArray × Int) → ByteArray × Int
  | [] => (⟨#[]⟩, 1001)
  | p :: l => if p.2 = 0 ∧ (p.1.size : Int) ≤ most then (p.1, 0) else pick most l
def ansP (m : MsgV) (edns : Bool) (most : Int) : ByteArray × Int :=
  if putE m = 700 then (⟨#[]⟩, 1000) else if putE m = 701 then (⟨#[]⟩, 1001) else if edns = true ∧ 64 ≤ m.ar.length then (⟨#[]⟩, 1000) else if most < 12 then (⟨#[]⟩, 1001) else pick most (formL m edns)
theorem pick_skip {most : Int} {p : ByteArray × Int} {l : List (ByteArray × Int)} (h : ¬ (p.2 = 0 ∧ (p.1.size : Int) ≤ most)) : pick most (p :: l) = pick most l := if_neg h
theorem pick_take {most : Int} {s : ByteArray} {e : Int} {l : List (ByteArray × Int)} (h0 : e = 0) (h : (s.size : Int) ≤ most) : pick most ((s, e) :: l) = (s, 0) := if_pos ⟨h0, h⟩
set_option maxHeartbeats 4000000 in
set_option maxRecDepth 100000 in
theorem answerc (m : MsgV) (edns : Bool) (most : Int) (w : World) (hm : m.Lies w) : Calls Try.prog 29 #[.agg m.cells, .bool edns, .int .i64 most] w fun e w' => e = .returned (.tuple #[.string (ansP m edns most).1, .int .i64 (ansP m edns most).2]) ∧ Below w.heap.size w w' := by
  have Bx : Below w.heap.size w (w.alloc (.cells m.cells 27)) := (Below.refl _ _).alloc (Nat.le_refl _) _
  have bM := blk_new w (.cells m.cells 27)
  have HM := Lib.hid hm
  clear hm
  go_enter Try.func29, Try.ntmps29
  go_upto_region 1 with (fail)
  generalize w.alloc (.cells m.cells 27) = w1 at *
  have x0 : w1.cell? ⟨w.heap.size, 0, none⟩ = some (.int .i64 m.h.id) := (blk_cell bM 0).trans rfl
  have x1 : w1.cell? ⟨w.heap.size, 1, none⟩ = some (.bool m.h.qr) := (blk_cell bM 1).trans rfl
  have x2 : w1.cell? ⟨w.heap.size, 2, none⟩ = some (.int .i64 m.h.op) := (blk_cell bM 2).trans rfl
  have x3 : w1.cell? ⟨w.heap.size, 3, none⟩ = some (.bool m.h.aa) := (blk_cell bM 3).trans rfl
  have x4 : w1.cell? ⟨w.heap.size, 4, none⟩ = some (.bool m.h.tc) := (blk_cell bM 4).trans rfl
  have x5 : w1.cell? ⟨w.heap.size, 5, none⟩ = some (.bool m.h.rd) := (blk_cell bM 5).trans rfl
  have x6 : w1.cell? ⟨w.heap.size, 6, none⟩ = some (.bool m.h.ra) := (blk_cell bM 6).trans rfl
  have x7 : w1.cell? ⟨w.heap.size, 7, none⟩ = some (.int .i64 m.h.z) := (blk_cell bM 7).trans rfl
  have x8 : w1.cell? ⟨w.heap.size, 8, none⟩ = some (.int .i64 m.h.rc) := (blk_cell bM 8).trans rfl
  have x9 : w1.cell? ⟨w.heap.size, 9, none⟩ = some (.slice m.Aq m.qs.length m.cq) := (blk_cell bM 9).trans rfl
  have x10 : w1.cell? ⟨w.heap.size, 10, none⟩ = some (.slice m.Aa m.an.length m.ca) := (blk_cell bM 10).trans rfl
  have x11 : w1.cell? ⟨w.heap.size, 11, none⟩ = some (.slice m.An m.ns.length m.cn) := (blk_cell bM 11).trans rfl
  have x12 : w1.cell? ⟨w.heap.size, 12, none⟩ = some (.slice m.Ar m.ar.length m.cr) := (blk_cell bM 12).trans rfl
  have kp := putc m w1 (HM.out.below Bx)
  go_wp2_with fail
  refine kp.mono ?_
  rintro e w2 ⟨rfl, hb⟩
  replace Bx := Bx.trans (hb.mono Bx.size)
  replace bM := blk_below bM hb
  clear x0 x1 x2 x3 x4 x5 x6 x7 x8 x9 x10 x11 x12
  clear hb kp
  have HA := Lib.hid (show ansP m edns most = if putE m = 700 then (⟨#[]⟩, 1000) else if putE m = 701 then (⟨#[]⟩, 1001) else if edns = true ∧ 64 ≤ m.ar.length then (⟨#[]⟩, 1000) else if most < 12 then (⟨#[]⟩, 1001) else pick most (formL m edns) from rfl)
  by_cases h0 : putE m = 700
  · have t0 : (putE m == 700) = true := by simpa using h0
    have HR := Lib.hid (HA.out.trans (if_pos h0))
    clear h0 HA
    generalize putE m = te at *
    go_wp2_with fail
    go_ret2
    refine ⟨?_, Bx⟩
    rw [HR.out]
    rfl
  have t0 : (putE m == 700) = false := by simpa using h0
  have HB := Lib.hid (HA.out.trans (if_neg h0))
  clear HA
  by_cases h1 : putE m = 701
  · have t1 : (putE m == 701) = true := by simpa using h1
    have HR := Lib.hid (HB.out.trans (if_pos h1))
    clear h0 h1 HB
    generalize putE m = te at *
    go_wp2_with fail
    go_ret2
    refine ⟨?_, Bx⟩
    rw [HR.out]
    rfl
  have t1 : (putE m == 701) = false := by simpa using h1
  have HC := Lib.hid (HB.out.trans (if_neg h1))
  clear h0 h1 HB
  have te : ∃ te, te = putE m := ⟨_, rfl⟩
  obtain ⟨te, hte⟩ := te
  rw [← hte] at t0 t1 ⊢
  clear hte
  have x12 : w2.cell? ⟨w.heap.size, 12, none⟩ = some (.slice m.Ar m.ar.length m.cr) := (blk_cell bM 12).trans rfl
  cases edns with
  | false =>
    have HD := Lib.hid (HC.out.trans (if_neg (fun k => by cases k.1)))
    clear HC
    by_cases h3 : most < 12
    · have q3 : decide (most < 12) = true := decide_eq_true h3
      have HR := Lib.hid (HD.out.trans (if_pos h3))
      clear h3 HD
      go_wp2_with fail
      go_ret2
      refine ⟨?_, Bx⟩
      rw [HR.out]
      rfl
    have q3 : decide (most < 12) = false := decide_eq_false h3
    have HF := Lib.hid (HD.out.trans (if_neg h3))
    clear h3 HD
    have y0 : w2.cell? ⟨w.heap.size, 0, none⟩ = some (.int .i64 m.h.id) := (blk_cell bM 0).trans rfl
    have y1 : w2.cell? ⟨w.heap.size, 1, none⟩ = some (.bool m.h.qr) := (blk_cell bM 1).trans rfl
    have y2 : w2.cell? ⟨w.heap.size, 2, none⟩ = some (.int .i64 m.h.op) := (blk_cell bM 2).trans rfl
    have y3 : w2.cell? ⟨w.heap.size, 3, none⟩ = some (.bool m.h.aa) := (blk_cell bM 3).trans rfl
    have y4 : w2.cell? ⟨w.heap.size, 4, none⟩ = some (.bool m.h.tc) := (blk_cell bM 4).trans rfl
    have y5 : w2.cell? ⟨w.heap.size, 5, none⟩ = some (.bool m.h.rd) := (blk_cell bM 5).trans rfl
    have y6 : w2.cell? ⟨w.heap.size, 6, none⟩ = some (.bool m.h.ra) := (blk_cell bM 6).trans rfl
    have y7 : w2.cell? ⟨w.heap.size, 7, none⟩ = some (.int .i64 m.h.z) := (blk_cell bM 7).trans rfl
    have y8 : w2.cell? ⟨w.heap.size, 8, none⟩ = some (.int .i64 m.h.rc) := (blk_cell bM 8).trans rfl
    have y9 : w2.cell? ⟨w.heap.size, 9, none⟩ = some (.slice m.Aq m.qs.length m.cq) := (blk_cell bM 9).trans rfl
    have y10 : w2.cell? ⟨w.heap.size, 10, none⟩ = some (.slice m.Aa m.an.length m.ca) := (blk_cell bM 10).trans rfl
    have y11 : w2.cell? ⟨w.heap.size, 11, none⟩ = some (.slice m.An m.ns.length m.cn) := (blk_cell bM 11).trans rfl
    have y12 : w2.cell? ⟨w.heap.size, 12, none⟩ = some (.slice m.Ar m.ar.length m.cr) := (blk_cell bM 12).trans rfl
    go_wp2_with fail
    refine (formsc m false w2).mono ?_
    rintro e w3 ⟨gm, gs, g, rfl, bm, bs, bg, hb⟩
    have B3 := Bx.trans (hb.mono Bx.size)
    clear y0 y1 y2 y3 y4 y5 y6 y7 y8 y9 y10 y11 y12 x12 bM hb Bx
    have c0 : w3.cell? ⟨g, 0, none⟩ = some (fn 81 gm) := (blk_cell bg 0).trans rfl
    have c1 : w3.cell? ⟨g, 1, none⟩ = some (fn 82 gs) := (blk_cell bg 1).trans rfl
    have hgl := blk_lt bg
    simp only [nF, if_true, if_false, Bool.false_eq_true] at *
    go_wp2_with fail
    go_loopg [11, 12, 13, 40] 3 (fun k v11 v12 v13 v40 wr => ∃ i : Nat, v40 = .int .i64 (i : Int) ∧ i + k = 3 ∧ i ≤ 2 ∧ Below w3.heap.size w3 wr ∧ pick most (([(putS m, putE m), (putS (shortM m), putE (shortM m))] : List (ByteArray × Int)).drop i) = pick most (formL m false))
    case atStart => exact ⟨0, rfl, rfl, by omega, Below.refl _ _, rfl⟩
    case round =>
      obtain ⟨i, rfl, hk, hi, hBW, hp⟩ := hrel
      have HBW := Lib.hid hBW
      have hi' : i = 0 ∨ i = 1 ∨ i = 2 := by omega
      rcases hi' with rfl | rfl | rfl
      · have d : wr.cell? ⟨g, 0, none⟩ = some (fn 81 gm) := (hBW.cell hgl).trans c0
        have kq := fn1c m gm wr (blk_below bm hBW) (HM.out.below (B3.trans (hBW.mono B3.size)))
        obtain ⟨s1, hs1⟩ : ∃ s, s = putS m := ⟨_, rfl⟩
        obtain ⟨e1, he1⟩ : ∃ e, e = putE m := ⟨_, rfl⟩
        rw [← hs1, ← he1] at kq
        have hp' : pick most ((s1, e1) :: [(putS (shortM m), putE (shortM m))]) = pick most (formL m false) := by rw [hs1, he1]; exact hp
        have HP := Lib.hid hp'
        have HK := Lib.hid hk
        clear hp hp' hs1 he1 hBW c0 c1 hi hk bm bs bg
        go_wp2_with fail
        refine kq.mono ?_
        rintro e w5 ⟨rfl, hb⟩
        have B5 := HBW.out.trans (hb.mono HBW.out.size)
        clear hb kq
        by_cases h0 : e1 = 0
        · have t3 : (e1 == 0) = true := by simpa using h0
          by_cases h1 : (s1.size : Int) ≤ most
          · have t4 : decide ((s1.size : Int) ≤ most) = true := decide_eq_true h1
            have HT := Lib.hid (HF.out.trans (HP.out.symm.trans (pick_take h0 h1)))
            clear h0 h1
            go_wp2_with fail
            go_ret2
            refine ⟨?_, B3.trans (B5.mono B3.size)⟩
            rw [HT.out]
            rfl
          · have t4 : decide ((s1.size : Int) ≤ most) = false := decide_eq_false h1
            have HN := Lib.hid ((pick_skip (show ¬ (e1 = 0 ∧ (s1.size : Int) ≤ most) from fun k => h1 k.2)).symm.trans HP.out)
            clear h0 h1
            go_wp2_with fail
            go_roundg 2
            case measure => have := HK.out; omega
            case rel => exact ⟨1, rfl, rfl, by omega, B5, HN.out⟩
        · have t3 : (e1 == 0) = false := by simpa using h0
          have HN := Lib.hid ((pick_skip (show ¬ (e1 = 0 ∧ (s1.size : Int) ≤ most) from fun k => h0 k.1)).symm.trans HP.out)
          clear h0
          go_wp2_with fail
          go_roundg 2
          case measure => have := HK.out; omega
          case rel => exact ⟨1, rfl, rfl, by omega, B5, HN.out⟩
      · have d : wr.cell? ⟨g, 1, none⟩ = some (fn 82 gs) := (hBW.cell hgl).trans c1
        have kq := fn2c (shortM m) gs wr (blk_below bs hBW) (short_lies (HM.out.below (B3.trans (hBW.mono B3.size))))
        obtain ⟨s1, hs1⟩ : ∃ s, s = putS (shortM m) := ⟨_, rfl⟩
        obtain ⟨e1, he1⟩ : ∃ e, e = putE (shortM m) := ⟨_, rfl⟩
        rw [← hs1, ← he1] at kq
        have hp' : pick most ((s1, e1) :: []) = pick most (formL m false) := by rw [hs1, he1]; exact hp
        have HP := Lib.hid hp'
        have HK := Lib.hid hk
        clear hp hp' hs1 he1 hBW c0 c1 hi hk bm bs bg
        go_wp2_with fail
        refine kq.mono ?_
        rintro e w5 ⟨rfl, hb⟩
        have B5 := HBW.out.trans (hb.mono HBW.out.size)
        clear hb kq
        by_cases h0 : e1 = 0
        · have t3 : (e1 == 0) = true := by simpa using h0
          by_cases h1 : (s1.size : Int) ≤ most
          · have t4 : decide ((s1.size : Int) ≤ most) = true := decide_eq_true h1
            have HT := Lib.hid (HF.out.trans (HP.out.symm.trans (pick_take h0 h1)))
            clear h0 h1
            go_wp2_with fail
            go_ret2
            refine ⟨?_, B3.trans (B5.mono B3.size)⟩
            rw [HT.out]
            rfl
          · have t4 : decide ((s1.size : Int) ≤ most) = false := decide_eq_false h1
            have HN := Lib.hid ((pick_skip (show ¬ (e1 = 0 ∧ (s1.size : Int) ≤ most) from fun k => h1 k.2)).symm.trans HP.out)
            clear h0 h1
            go_wp2_with fail
            go_roundg 1
            case measure => have := HK.out; omega
            case rel => exact ⟨2, rfl, rfl, by omega, B5, HN.out⟩
        · have t3 : (e1 == 0) = false := by simpa using h0
          have HN := Lib.hid ((pick_skip (show ¬ (e1 = 0 ∧ (s1.size : Int) ≤ most) from fun k => h0 k.1)).symm.trans HP.out)
          clear h0
          go_wp2_with fail
          go_roundg 1
          case measure => have := HK.out; omega
          case rel => exact ⟨2, rfl, rfl, by omega, B5, HN.out⟩
      · have HT := Lib.hid (HF.out.trans hp.symm)
        clear hp
        go_wp2_with fail
        go_ret2
        refine ⟨?_, B3.trans (HBW.out.mono B3.size)⟩
        rw [HT.out]
        rfl
  | true =>
    by_cases h2 : 64 ≤ m.ar.length
    · have q2 : decide ((64 : Int) ≤ (m.ar.length : Int)) = true := by simp; omega
      have HR := Lib.hid (HC.out.trans (if_pos ⟨rfl, h2⟩))
      clear h2 HC
      go_wp2_with fail
      go_ret2
      refine ⟨?_, Bx⟩
      rw [HR.out]
      rfl
    have q2 : decide ((64 : Int) ≤ (m.ar.length : Int)) = false := by simp; omega
    have hl : m.ar.length ≤ 63 := by omega
    have HD := Lib.hid (HC.out.trans (if_neg (fun k => h2 k.2)))
    clear h2 HC
    by_cases h3 : most < 12
    · have q3 : decide (most < 12) = true := decide_eq_true h3
      have HR := Lib.hid (HD.out.trans (if_pos h3))
      clear h3 HD
      go_wp2_with fail
      go_ret2
      refine ⟨?_, Bx⟩
      rw [HR.out]
      rfl
    have q3 : decide (most < 12) = false := decide_eq_false h3
    have HF := Lib.hid (HD.out.trans (if_neg h3))
    clear h3 HD
    have y0 : w2.cell? ⟨w.heap.size, 0, none⟩ = some (.int .i64 m.h.id) := (blk_cell bM 0).trans rfl
    have y1 : w2.cell? ⟨w.heap.size, 1, none⟩ = some (.bool m.h.qr) := (blk_cell bM 1).trans rfl
    have y2 : w2.cell? ⟨w.heap.size, 2, none⟩ = some (.int .i64 m.h.op) := (blk_cell bM 2).trans rfl
    have y3 : w2.cell? ⟨w.heap.size, 3, none⟩ = some (.bool m.h.aa) := (blk_cell bM 3).trans rfl
    have y4 : w2.cell? ⟨w.heap.size, 4, none⟩ = some (.bool m.h.tc) := (blk_cell bM 4).trans rfl
    have y5 : w2.cell? ⟨w.heap.size, 5, none⟩ = some (.bool m.h.rd) := (blk_cell bM 5).trans rfl
    have y6 : w2.cell? ⟨w.heap.size, 6, none⟩ = some (.bool m.h.ra) := (blk_cell bM 6).trans rfl
    have y7 : w2.cell? ⟨w.heap.size, 7, none⟩ = some (.int .i64 m.h.z) := (blk_cell bM 7).trans rfl
    have y8 : w2.cell? ⟨w.heap.size, 8, none⟩ = some (.int .i64 m.h.rc) := (blk_cell bM 8).trans rfl
    have y9 : w2.cell? ⟨w.heap.size, 9, none⟩ = some (.slice m.Aq m.qs.length m.cq) := (blk_cell bM 9).trans rfl
    have y10 : w2.cell? ⟨w.heap.size, 10, none⟩ = some (.slice m.Aa m.an.length m.ca) := (blk_cell bM 10).trans rfl
    have y11 : w2.cell? ⟨w.heap.size, 11, none⟩ = some (.slice m.An m.ns.length m.cn) := (blk_cell bM 11).trans rfl
    have y12 : w2.cell? ⟨w.heap.size, 12, none⟩ = some (.slice m.Ar m.ar.length m.cr) := (blk_cell bM 12).trans rfl
    go_wp2_with fail
    refine (formsc m true w2).mono ?_
    rintro e w3 ⟨gm, gs, g, rfl, bm, bs, bg, hb⟩
    have B3 := Bx.trans (hb.mono Bx.size)
    clear y0 y1 y2 y3 y4 y5 y6 y7 y8 y9 y10 y11 y12 x12 bM hb Bx
    have c0 : w3.cell? ⟨g, 0, none⟩ = some (fn 83 gm) := (blk_cell bg 0).trans rfl
    have c1 : w3.cell? ⟨g, 1, none⟩ = some (fn 84 gs) := (blk_cell bg 1).trans rfl
    have c2 : w3.cell? ⟨g, 2, none⟩ = some (fn 85 gs) := (blk_cell bg 2).trans rfl
    have hgl := blk_lt bg
    simp only [nF, if_true, if_false, Bool.false_eq_true] at *
    go_wp2_with fail
    go_loopg [11, 12, 13, 40] 4 (fun k v11 v12 v13 v40 wr => ∃ i : Nat, v40 = .int .i64 (i : Int) ∧ i + k = 4 ∧ i ≤ 3 ∧ Below w3.heap.size w3 wr ∧ pick most (([(padS m 468, padE m 468), (padS (shortM m) 468, padE (shortM m) 468), (putS (padR (shortM m) ⟨#[]⟩), putE (padR (shortM m) ⟨#[]⟩))] : List (ByteArray × Int)).drop i) = pick most (formL m true))
    case atStart => exact ⟨0, rfl, rfl, by omega, Below.refl _ _, rfl⟩
    case round =>
      obtain ⟨i, rfl, hk, hi, hBW, hp⟩ := hrel
      have HBW := Lib.hid hBW
      have hi' : i = 0 ∨ i = 1 ∨ i = 2 ∨ i = 3 := by omega
      rcases hi' with rfl | rfl | rfl | rfl
      · have d : wr.cell? ⟨g, 0, none⟩ = some (fn 83 gm) := (hBW.cell hgl).trans c0
        have kq := fn3c m gm wr (blk_below bm hBW) (HM.out.below (B3.trans (hBW.mono B3.size))) hl
        obtain ⟨s1, hs1⟩ : ∃ s, s = padS m 468 := ⟨_, rfl⟩
        obtain ⟨e1, he1⟩ : ∃ e, e = padE m 468 := ⟨_, rfl⟩
        rw [← hs1, ← he1] at kq
        have hp' : pick most ((s1, e1) :: [(padS (shortM m) 468, padE (shortM m) 468), (putS (padR (shortM m) ⟨#[]⟩), putE (padR (shortM m) ⟨#[]⟩))]) = pick most (formL m true) := by rw [hs1, he1]; exact hp
        have HP := Lib.hid hp'
        have HK := Lib.hid hk
        clear hp hp' hs1 he1 hBW c0 c1 c2 hi hk bm bs bg
        go_wp2_with fail
        refine kq.mono ?_
        rintro e w5 ⟨rfl, hb⟩
        have B5 := HBW.out.trans (hb.mono HBW.out.size)
        clear hb kq
        by_cases h0 : e1 = 0
        · have t3 : (e1 == 0) = true := by simpa using h0
          by_cases h1 : (s1.size : Int) ≤ most
          · have t4 : decide ((s1.size : Int) ≤ most) = true := decide_eq_true h1
            have HT := Lib.hid (HF.out.trans (HP.out.symm.trans (pick_take h0 h1)))
            clear h0 h1
            go_wp2_with fail
            go_ret2
            refine ⟨?_, B3.trans (B5.mono B3.size)⟩
            rw [HT.out]
            rfl
          · have t4 : decide ((s1.size : Int) ≤ most) = false := decide_eq_false h1
            have HN := Lib.hid ((pick_skip (show ¬ (e1 = 0 ∧ (s1.size : Int) ≤ most) from fun k => h1 k.2)).symm.trans HP.out)
            clear h0 h1
            go_wp2_with fail
            go_roundg 3
            case measure => have := HK.out; omega
            case rel => exact ⟨1, rfl, rfl, by omega, B5, HN.out⟩
        · have t3 : (e1 == 0) = false := by simpa using h0
          have HN := Lib.hid ((pick_skip (show ¬ (e1 = 0 ∧ (s1.size : Int) ≤ most) from fun k => h0 k.1)).symm.trans HP.out)
          clear h0
          go_wp2_with fail
          go_roundg 3
          case measure => have := HK.out; omega
          case rel => exact ⟨1, rfl, rfl, by omega, B5, HN.out⟩
      · have d : wr.cell? ⟨g, 1, none⟩ = some (fn 84 gs) := (hBW.cell hgl).trans c1
        have kq := fn4c (shortM m) gs wr (blk_below bs hBW) (short_lies (HM.out.below (B3.trans (hBW.mono B3.size)))) (Nat.zero_le _)
        obtain ⟨s1, hs1⟩ : ∃ s, s = padS (shortM m) 468 := ⟨_, rfl⟩
        obtain ⟨e1, he1⟩ : ∃ e, e = padE (shortM m) 468 := ⟨_, rfl⟩
        rw [← hs1, ← he1] at kq
        have hp' : pick most ((s1, e1) :: [(putS (padR (shortM m) ⟨#[]⟩), putE (padR (shortM m) ⟨#[]⟩))]) = pick most (formL m true) := by rw [hs1, he1]; exact hp
        have HP := Lib.hid hp'
        have HK := Lib.hid hk
        clear hp hp' hs1 he1 hBW c0 c1 c2 hi hk bm bs bg
        go_wp2_with fail
        refine kq.mono ?_
        rintro e w5 ⟨rfl, hb⟩
        have B5 := HBW.out.trans (hb.mono HBW.out.size)
        clear hb kq
        by_cases h0 : e1 = 0
        · have t3 : (e1 == 0) = true := by simpa using h0
          by_cases h1 : (s1.size : Int) ≤ most
          · have t4 : decide ((s1.size : Int) ≤ most) = true := decide_eq_true h1
            have HT := Lib.hid (HF.out.trans (HP.out.symm.trans (pick_take h0 h1)))
            clear h0 h1
            go_wp2_with fail
            go_ret2
            refine ⟨?_, B3.trans (B5.mono B3.size)⟩
            rw [HT.out]
            rfl
          · have t4 : decide ((s1.size : Int) ≤ most) = false := decide_eq_false h1
            have HN := Lib.hid ((pick_skip (show ¬ (e1 = 0 ∧ (s1.size : Int) ≤ most) from fun k => h1 k.2)).symm.trans HP.out)
            clear h0 h1
            go_wp2_with fail
            go_roundg 2
            case measure => have := HK.out; omega
            case rel => exact ⟨2, rfl, rfl, by omega, B5, HN.out⟩
        · have t3 : (e1 == 0) = false := by simpa using h0
          have HN := Lib.hid ((pick_skip (show ¬ (e1 = 0 ∧ (s1.size : Int) ≤ most) from fun k => h0 k.1)).symm.trans HP.out)
          clear h0
          go_wp2_with fail
          go_roundg 2
          case measure => have := HK.out; omega
          case rel => exact ⟨2, rfl, rfl, by omega, B5, HN.out⟩
      · have d : wr.cell? ⟨g, 2, none⟩ = some (fn 85 gs) := (hBW.cell hgl).trans c2
        have kq := fn5c (shortM m) gs wr (blk_below bs hBW) (short_lies (HM.out.below (B3.trans (hBW.mono B3.size)))) (Nat.zero_le _)
        obtain ⟨s1, hs1⟩ : ∃ s, s = putS (padR (shortM m) ⟨#[]⟩) := ⟨_, rfl⟩
        obtain ⟨e1, he1⟩ : ∃ e, e = putE (padR (shortM m) ⟨#[]⟩) := ⟨_, rfl⟩
        rw [← hs1, ← he1] at kq
        have hp' : pick most ((s1, e1) :: []) = pick most (formL m true) := by rw [hs1, he1]; exact hp
        have HP := Lib.hid hp'
        have HK := Lib.hid hk
        clear hp hp' hs1 he1 hBW c0 c1 c2 hi hk bm bs bg
        go_wp2_with fail
        refine kq.mono ?_
        rintro e w5 ⟨rfl, hb⟩
        have B5 := HBW.out.trans (hb.mono HBW.out.size)
        clear hb kq
        by_cases h0 : e1 = 0
        · have t3 : (e1 == 0) = true := by simpa using h0
          by_cases h1 : (s1.size : Int) ≤ most
          · have t4 : decide ((s1.size : Int) ≤ most) = true := decide_eq_true h1
            have HT := Lib.hid (HF.out.trans (HP.out.symm.trans (pick_take h0 h1)))
            clear h0 h1
            go_wp2_with fail
            go_ret2
            refine ⟨?_, B3.trans (B5.mono B3.size)⟩
            rw [HT.out]
            rfl
          · have t4 : decide ((s1.size : Int) ≤ most) = false := decide_eq_false h1
            have HN := Lib.hid ((pick_skip (show ¬ (e1 = 0 ∧ (s1.size : Int) ≤ most) from fun k => h1 k.2)).symm.trans HP.out)
            clear h0 h1
            go_wp2_with fail
            go_roundg 1
            case measure => have := HK.out; omega
            case rel => exact ⟨3, rfl, rfl, by omega, B5, HN.out⟩
        · have t3 : (e1 == 0) = false := by simpa using h0
          have HN := Lib.hid ((pick_skip (show ¬ (e1 = 0 ∧ (s1.size : Int) ≤ most) from fun k => h0 k.1)).symm.trans HP.out)
          clear h0
          go_wp2_with fail
          go_roundg 1
          case measure => have := HK.out; omega
          case rel => exact ⟨3, rfl, rfl, by omega, B5, HN.out⟩
      · have HT := Lib.hid (HF.out.trans hp.symm)
        clear hp
        go_wp2_with fail
        go_ret2
        refine ⟨?_, B3.trans (HBW.out.mono B3.size)⟩
        rw [HT.out]
        rfl
end Go.Proofs.Ytjklgdpffmaamaa.Pad

namespace Go.Proofs.Ytjklgdpffmaamaa.Pad
open Go.RowKit Go.PlainAid Go.Proofs.Ytjklgdpffmaamaa.Base Go.Proofs.Ytjklgdpffmaamaa.Oct Go.Proofs.Ytjklgdpffmaamaa.Wm Go.Proofs.Ytjklgdpffmaamaa.OptH
open Go.Proofs.YtjklgdpffmaamaaW.PrintWords (blk_cell blk_below blk_put blk_frozen blk_ne blk_new blk_lt blk_grown blk_alloc)
set_option linter.unusedVariables false
set_option linter.unusedSimpArgs false
def mZ : MsgV := ⟨⟨0, false, 0, false, false, false, false, 0, 0⟩, none, 0, [], none, 0, [], none, 0, [], none, 0, []⟩
theorem mZ_lies (w : World) : mZ.Lies w := ⟨.inl rfl, .inl rfl, .inl rfl, .inl rfl, Nat.le_refl _, Nat.le_refl _, Nat.le_refl _, Nat.le_refl _, (by intro r hr; cases hr), (by intro r hr; cases hr), (by intro r hr; cases hr)⟩
theorem a1 : (queryS 258 ⟨#[1, 65, 0]⟩ 1).size = 128 ∧ (queryS 258 ⟨#[1, 65, 0]⟩ 1).extract 0 2 = ⟨#[1, 2]⟩ ∧ bt (queryS 258 ⟨#[1, 65, 0]⟩ 1) 13 = 97 ∧ queryE 258 ⟨#[1, 65, 0]⟩ 1 = 0 ∧ queryE (-1) ⟨#[0]⟩ 1 = 1000 := by decide +kernel
theorem a2 : (ansP mZ true 1232).1.size = 468 ∧ (ansP mZ true 1232).2 = 0 ∧ ansP mZ false 512 = (zeros 12, 0) ∧ ansP mZ false 5 = (⟨#[]⟩, 1001) := by decide +kernel
set_option maxHeartbeats 4000000 in
set_option maxRecDepth 100000 in
theorem awake10 (w : World) : Calls Try.prog 23 #[] w fun e w' => e = .returned (.bool true) ∧ Below w.heap.size w w' := by
  obtain ⟨s1, s2, s3, s4, s5⟩ := a1
  obtain ⟨u1, u2, u3, u4⟩ := a2
  have k1 := fun w => queryc 258 ⟨#[1, 65, 0]⟩ 1 w
  have k2 := fun w => queryc (-1) ⟨#[0]⟩ 1 w
  have k3 := fun w => answerc mZ true 1232 w (mZ_lies w)
  have k4 := fun w => answerc mZ false 512 w (mZ_lies w)
  have k5 := fun w => answerc mZ false 5 w (mZ_lies w)
  rw [s4] at k1
  rw [s5] at k2
  rw [u2] at k3
  rw [u3] at k4
  rw [u4] at k5
  dsimp only at k4 k5
  clear s4 s5 u2 u3 u4
  generalize queryS 258 ⟨#[1, 65, 0]⟩ 1 = S at *
  generalize queryS (-1) ⟨#[0]⟩ 1 = S2 at *
  generalize (ansP mZ true 1232).1 = T at *
  have n0 := fun w => Hd.numc 0 w
  have n1 := fun w => Hd.numc 1000 w
  have n2 := fun w => Hd.numc 1001 w
  have kr := fun w => roomc 5 10 (by decide) (by decide) w
  rw [show roomI 5 10 = 1 by decide] at kr
  have km : ∀ W : World, (Instr.makeSlice 56 (.int .i64 12) (.int .i64 12)).run Try.prog W = .ok (.slice (some ⟨W.heap.size, 0, none⟩) 12 12) (W.alloc (.cells (madeCells #[.int .u8 0] 12) 5)) := fun w => make_zeros 12 (by decide) w
  have kz : ∀ W : World, (convert 56 9 (.slice (some ⟨W.heap.size, 0, none⟩) 12 12)).run Try.prog (W.alloc (.cells (madeCells #[.int .u8 0] 12) 5)) = .ok (.string (zeros 12)) (W.alloc (.cells (madeCells #[.int .u8 0] 12) 5)) := fun w => conv_zeros 12 w
  have gb := get_bt S
  generalize zeros 12 = Z at *
  go_enter Try.func23, Try.ntmps23
  go_wp2_with fail
  refine (k1 _).mono ?_
  rintro e w1 ⟨rfl, B⟩
  go_wp2_with fail
  refine (k2 _).mono ?_
  rintro e w2 ⟨rfl, hb⟩
  replace B := B.trans (hb.mono B.size)
  clear hb
  go_wp2_with fail
  refine (k3 _).mono ?_
  rintro e w3 ⟨rfl, hb⟩
  replace B := B.trans (hb.mono B.size)
  clear hb
  go_wp2_with fail
  refine (k4 _).mono ?_
  rintro e w4 ⟨rfl, hb⟩
  replace B := B.trans (hb.mono B.size)
  clear hb
  go_wp2_with fail
  refine (k5 _).mono ?_
  rintro e w5 ⟨rfl, hb⟩
  replace B := B.trans (hb.mono B.size)
  clear hb k1 k2 k3 k4 k5
  go_wp2_with fail
  refine (n0 _).mono ?_
  rintro e w6 ⟨rfl, rfl⟩
  go_wp2_with fail
  refine (n1 _).mono ?_
  rintro e w6 ⟨rfl, rfl⟩
  go_wp2_with fail
  refine (n0 _).mono ?_
  rintro e w6 ⟨rfl, rfl⟩
  go_wp2_with fail
  refine (n0 _).mono ?_
  rintro e w6 ⟨rfl, rfl⟩
  go_wp2_with fail
  refine (n2 _).mono ?_
  rintro e w6 ⟨rfl, rfl⟩
  go_wp2_with fail
  refine (kr _).mono ?_
  rintro e w6 ⟨rfl, rfl⟩
  go_wp2_with fail
  go_ret
  exact ⟨rfl, B.alloc B.size _⟩
end Go.Proofs.Ytjklgdpffmaamaa.Pad

namespace Go.Proofs.Ytjklgdpffmaamaa.Pad
open Go.RowKit Go.PlainAid Go.Proofs.Ytjklgdpffmaamaa.Base Go.Proofs.Ytjklgdpffmaamaa.Oct Go.Proofs.Ytjklgdpffmaamaa.Nm Go.Proofs.Ytjklgdpffmaamaa.Wr Go.Proofs.Ytjklgdpffmaamaa.Wm Go.Proofs.Ytjklgdpffmaamaa.Fo
set_option linter.unusedVariables false
theorem may_41 {d : ByteArray} (h : d.size ≤ 65535) : Rd.mayD 41 d = true := by
  unfold Rd.mayD
  rw [if_neg (by decide), if_neg (by decide), if_neg (by omega)]
  simp
/-- An OPT behind: eleven bytes and its data. -/
theorem opt_st {st : St} (H : Wm.Good st) (d : ByteArray) (hz : st.S.size + 11 + d.size ≤ 4096) : (rSt st (optR d)).lg = false ∧ (rSt st (optR d)).S.size = st.S.size + 11 + d.size := by
  have hn : nameB (optR d).name = true := by show nameB root = true; decide +kernel
  have ho : (outN st.m (optR d).name).size = 1 := by show (outN st.m root).size = 1; rw [outN_root]; rfl
  have z4 : (p16 (optR d).type ++ p16 (optR d).cls).size = 4 := by rw [ByteArray.size_append, p16_size, p16_size]
  have z6 : (p32 (optR d).ttl ++ p16 ((optR d).data.size : Int) ++ (optR d).data).size = 6 + d.size := by simp only [ByteArray.size_append, p16_size, p32_size]; rfl
  have e : rSt st (optR d) = ⟨st.S ++ outN st.m (optR d).name ++ (p16 (optR d).type ++ p16 (optR d).cls) ++ (p32 (optR d).ttl ++ p16 ((optR d).data.size : Int) ++ (optR d).data), putN st.m (optR d).name st.S.size, st.lg⟩ := by
    unfold rSt qSt nameSt
    rw [if_pos hn, if_neg (by omega)]
    unfold rawSt
    have c1 : ¬ 4096 < (st.S ++ outN st.m (optR d).name).size + (p16 (optR d).type ++ p16 (optR d).cls).size := by rw [ByteArray.size_append, z4]; omega
    have c2 : ¬ 4096 < (st.S ++ outN st.m (optR d).name ++ (p16 (optR d).type ++ p16 (optR d).cls)).size + (p32 (optR d).ttl ++ p16 ((optR d).data.size : Int) ++ (optR d).data).size := by rw [ByteArray.size_append, ByteArray.size_append, z4, z6]; omega
    simp only [if_neg c1, if_neg c2]
  rw [e]
  refine ⟨H.lg, ?_⟩
  simp only [ByteArray.size_append, ho, p16_size, p32_size]
  show st.S.size + 1 + (2 + 2) + (4 + 2 + d.size) = _
  omega
theorem opt_may {d : ByteArray} (h : d.size ≤ 65535) : rMay (optR d) = true := by
  unfold rMay
  simp only [Bool.and_eq_true, inB_iff]
  exact ⟨⟨⟨⟨by show nameB root = true; decide +kernel, show (1 : Int) ≤ 41 by decide, show (41 : Int) ≤ 65535 by decide⟩, show (0 : Int) ≤ 1232 by decide, show (1232 : Int) ≤ 65535 by decide⟩, show (0 : Int) ≤ 0 by decide, show (0 : Int) ≤ 4294967295 by decide⟩, may_41 h⟩
theorem optD_size (k : Nat) : (optD k).size = 4 + k := by unfold optD; simp only [ByteArray.size_append, p16_size, zeros_size]
end Go.Proofs.Ytjklgdpffmaamaa.Pad

namespace Go.Proofs.Ytjklgdpffmaamaa.Pad
open Go.RowKit Go.PlainAid Go.Proofs.Ytjklgdpffmaamaa.Base Go.Proofs.Ytjklgdpffmaamaa.Oct Go.Proofs.Ytjklgdpffmaamaa.Nm Go.Proofs.Ytjklgdpffmaamaa.Wr Go.Proofs.Ytjklgdpffmaamaa.Wm Go.Proofs.Ytjklgdpffmaamaa.Fo
set_option linter.unusedVariables false
def rC (n : ByteArray) : Rr := ⟨n, 1, 1, 0, ⟨#[97, 98, 99, 100]⟩⟩
/-- A record whose name is kept: two bytes for the name. -/
theorem r_known {st : St} (H : Wm.Good st) {r : Rr} (hn : nameB r.name = true) (h0 : r.name ≠ root) (hm : (st.m r.name).isSome = true) (hz : st.S.size + (12 + r.data.size) ≤ 4096) :
    (rSt st r).lg = false ∧ (rSt st r).S.size = st.S.size + (12 + r.data.size) ∧ ((rSt st r).m r.name).isSome = true := by
  have ho := outN_known hn h0 hm
  have z4 : (p16 r.type ++ p16 r.cls).size = 4 := by rw [ByteArray.size_append, p16_size, p16_size]
  have z6 : (p32 r.ttl ++ p16 (r.data.size : Int) ++ r.data).size = 6 + r.data.size := by simp only [ByteArray.size_append, p16_size, p32_size]
  have e : rSt st r = ⟨st.S ++ outN st.m r.name ++ (p16 r.type ++ p16 r.cls) ++ (p32 r.ttl ++ p16 (r.data.size : Int) ++ r.data), putN st.m r.name st.S.size, st.lg⟩ := by
    unfold rSt qSt nameSt
    rw [if_pos hn, if_neg (by omega)]
    unfold rawSt
    have c1 : ¬ 4096 < (st.S ++ outN st.m r.name).size + (p16 r.type ++ p16 r.cls).size := by rw [ByteArray.size_append, z4]; omega
    have c2 : ¬ 4096 < (st.S ++ outN st.m r.name ++ (p16 r.type ++ p16 r.cls)).size + (p32 r.ttl ++ p16 (r.data.size : Int) ++ r.data).size := by rw [ByteArray.size_append, ByteArray.size_append, z4, z6]; omega
    simp only [if_neg c1, if_neg c2]
  rw [e]
  refine ⟨H.lg, ?_, putN_some (m := st.m) r.name st.S.size hm⟩
  simp only [ByteArray.size_append, ho, p16_size, p32_size]
  omega
theorem fold_known {r : Rr} (hn : nameB r.name = true) (h0 : r.name ≠ root) (e : Nat) (he : e = 12 + r.data.size) : ∀ (j : Nat) (st : St), Wm.Good st → (st.m r.name).isSome = true →
    st.S.size + j * e ≤ 4096 → ((List.replicate j r).foldl rSt st).lg = false ∧ ((List.replicate j r).foldl rSt st).S.size = st.S.size + j * e ∧ Wm.Good ((List.replicate j r).foldl rSt st) := by
  intro j
  induction j with
  | zero => intro st H hm hz; exact ⟨H.lg, by simp, H⟩
  | succ j ih =>
    intro st H hm hz
    rw [Nat.succ_mul] at hz
    rw [List.replicate_succ, List.foldl_cons, Nat.succ_mul]
    obtain ⟨a1, a2, a3⟩ := r_known H hn h0 hm (by omega)
    obtain ⟨i1, i2, i3⟩ := ih _ (Wm.Good.r (fun _ => H) a1) a3 (by rw [a2, ← he]; omega)
    exact ⟨i1, by rw [i2, a2, ← he]; omega, i3⟩
def odZ : Option ByteArray → Nat
  | none => 0
  | some d => 11 + d.size
def hC (tc : Bool) : Hd.Head := ⟨0, true, 0, false, tc, false, false, 0, 0⟩
/-- A question, k records, perhaps an OPT. -/
theorem cut_put (tc : Bool) {n : ByteArray} (hn : nameB n = true) (h0 : n ≠ root) (k : Nat) (hk : k ≤ 31) (od : Option ByteArray) (hd : ∀ d, od = some d → d.size ≤ 1000) :
    putE (msgOf (hC tc) [⟨n, 1, 1⟩] (List.replicate k (rC n)) [] ((od.map optR).toList)) = 0 ∧ (putS (msgOf (hC tc) [⟨n, 1, 1⟩] (List.replicate k (rC n)) [] ((od.map optR).toList))).size = 16 + n.size + 16 * k + odZ od := by
  have hs := name_size hn
  have hl : ((od.map optR).toList).length ≤ 1 := by cases od <;> simp
  have hok : putOk (msgOf (hC tc) [⟨n, 1, 1⟩] (List.replicate k (rC n)) [] ((od.map optR).toList)) = true := by
    unfold putOk
    rw [Bool.and_eq_true]
    refine ⟨?_, ?_⟩
    · show Hd.mayB (hC tc) ((1 : Nat) : Int) (((List.replicate k (rC n)).length : Nat) : Int) ((0 : Nat) : Int) ((((od.map optR).toList).length : Nat) : Int) = true
      rw [List.length_replicate]
      refine decide_eq_true ⟨⟨⟨by decide, by decide⟩, ⟨by omega, by omega⟩, ⟨by decide, by decide⟩, ⟨by omega, by omega⟩⟩, ?_⟩
      exact ⟨⟨show (0 : Int) ≤ 0 by decide, show (0 : Int) ≤ 65535 by decide⟩, ⟨show (0 : Int) ≤ 0 by decide, show (0 : Int) ≤ 15 by decide⟩, ⟨show (0 : Int) ≤ 0 by decide, show (0 : Int) ≤ 15 by decide⟩, ⟨show (0 : Int) ≤ 0 by decide, show (0 : Int) ≤ 7 by decide⟩⟩
    · show fitsB [⟨n, 1, 1⟩] (List.replicate k (rC n)) [] ((od.map optR).toList) = true
      have mq : qMay ⟨n, 1, 1⟩ = true := by
        unfold qMay
        simp only [Bool.and_eq_true, inB_iff]
        exact ⟨⟨hn, by decide, by decide⟩, by decide, by decide⟩
      have mr : rMay (rC n) = true := by
        unfold rMay
        simp only [Bool.and_eq_true, inB_iff]
        exact ⟨⟨⟨⟨hn, show (1 : Int) ≤ 1 by decide, show (1 : Int) ≤ 65535 by decide⟩, show (0 : Int) ≤ 1 by decide, show (1 : Int) ≤ 65535 by decide⟩, show (0 : Int) ≤ 0 by decide, show (0 : Int) ≤ 4294967295 by decide⟩, show Rd.mayD 1 ⟨#[97, 98, 99, 100]⟩ = true by decide +kernel⟩
      unfold fitsB
      simp only [Bool.and_eq_true, List.all_eq_true, decide_eq_true_eq, List.length_replicate]
      refine ⟨⟨⟨⟨by simp, fun q hq => ?_⟩, by omega, fun q hq => ?_⟩, by decide, fun q hq => by simp at hq⟩, by omega, fun q hq => ?_⟩
      · rw [List.mem_singleton.1 hq]; exact mq
      · rw [List.eq_of_mem_replicate hq]; exact mr
      · cases od with
        | none => simp at hq
        | some d =>
          have : q = optR d := by simpa using hq
          rw [this]
          have := hd d rfl
          exact opt_may (by omega)
  generalize hM : msgOf (hC tc) [⟨n, 1, 1⟩] (List.replicate k (rC n)) [] ((od.map optR).toList) = M at *
  obtain ⟨k0, e0, _⟩ := putOk_parts hok
  have z : (hStr M).size = 12 := by rw [e0, Hd.putS_size]
  have es := st0_ok z
  have q : (qSt (st0 (hStr M)) n 1 1) = ⟨hStr M ++ n ++ (p16 1 ++ p16 1), putN (fun _ => none) n 12, false⟩ := by
    rw [es]
    unfold qSt nameSt
    rw [if_pos hn]
    dsimp only
    rw [outN_plain, if_neg (by omega), z]
    unfold rawSt
    rw [if_neg (by simp only [ByteArray.size_append, p16_size]; omega)]
  have G : Wm.Good (qSt (st0 (hStr M)) n 1 1) := Wm.Good.q (fun _ => st0_good z) (by rw [q])
  have zz : (qSt (st0 (hStr M)) n 1 1).S.size = 16 + n.size := by
    rw [q]; simp only [ByteArray.size_append, p16_size, z]; omega
  have hm : ((qSt (st0 (hStr M)) n 1 1).m n).isSome = true := by
    rw [q]; exact putN_self _ _ hn h0
  obtain ⟨a1, a2, a3⟩ := fold_known (r := rC n) hn h0 16 rfl k _ G hm (by rw [zz]; omega)
  rw [zz] at a2
  have hE : putEnd M = ((od.map optR).toList).foldl rSt ((List.replicate k (rC n)).foldl rSt (qSt (st0 (hStr M)) n 1 1)) := by
    unfold putEnd putSt
    subst hM
    rfl
  have F : (putEnd M).lg = false ∧ (putEnd M).S.size = 16 + n.size + 16 * k + odZ od := by
    rw [hE]
    cases od with
    | none => exact ⟨a1, by show ((List.replicate k (rC n)).foldl rSt _).S.size = _ + 0; rw [a2]; omega⟩
    | some d =>
      have hd' := hd d rfl
      obtain ⟨b1, b2⟩ := opt_st a3 d (by rw [a2]; omega)
      exact ⟨b1, by show (rSt _ (optR d)).S.size = _ + (11 + d.size); rw [b2, a2]; omega⟩
  obtain ⟨s1, s2, s3, s4⟩ := put_S hok F.1
  exact ⟨s2, by rw [s1]; exact F.2⟩
/-- The message of PadCuts. -/
def cM (tc : Bool) (n : ByteArray) (k : Nat) : MsgV := msgOf (hC tc) [⟨n, 1, 1⟩] (List.replicate k (rC n)) [] []
theorem short_tc {n : ByteArray} (hn : nameB n = true) (h0 : n ≠ root) : bt (putS (cM true n 0)) 2 = 130 := by
  have hs := name_size hn
  obtain ⟨p1, p2⟩ := cut_put true hn h0 0 (by decide) none (fun d h => by cases h)
  have H : putOk (cM true n 0) = true ∧ (putEnd (cM true n 0)).lg = false := by
    by_cases H : putOk (cM true n 0) = true ∧ (putEnd (cM true n 0)).lg = false
    · exact H
    · obtain ⟨_, s2⟩ := put_err H
      have p1 : putE (cM true n 0) = 0 := p1
      rcases s2 with ⟨h', _⟩ | ⟨h', _⟩ <;> rw [h'] at p1 <;> exact absurd p1 (by decide)
  obtain ⟨s1, s2, s3, s4⟩ := put_S H.1 H.2
  obtain ⟨k0, e0, _⟩ := putOk_parts H.1
  have z : (hStr (cM true n 0)).size = 12 := by rw [e0, Hd.putS_size]
  have q : (putEnd (cM true n 0)).S = hStr (cM true n 0) ++ n ++ (p16 1 ++ p16 1) := by
    show (qSt (st0 (hStr (cM true n 0))) n 1 1).S = _
    rw [st0_ok z]
    unfold qSt nameSt
    rw [if_pos hn]
    dsimp only
    rw [outN_plain, if_neg (by omega), z]
    unfold rawSt
    rw [if_neg (by simp only [ByteArray.size_append, p16_size]; omega)]
  rw [s1, q, bt_append_left _ _ _ (by rw [ByteArray.size_append]; omega), bt_append_left _ _ _ (by omega), e0]
  show bt ((hC true).putS ((1 : Nat) : Int) ((0 : Nat) : Int) ((0 : Nat) : Int) ((0 : Nat) : Int)) 2 = 130
  decide +kernel
/-- Filled up to a multiple of 468. -/
theorem cut_pad (tc : Bool) {n : ByteArray} (hn : nameB n = true) (h0 : n ≠ root) (k : Nat) (hk : k ≤ 31) : padE (cM tc n k) 468 = 0 ∧ (padS (cM tc n k) 468).size = (16 + n.size + 16 * k + 15 + 467) / 468 * 468 := by
  have hs := name_size hn
  obtain ⟨p1, p2⟩ := cut_put tc hn h0 k hk (some ⟨#[]⟩) (fun d h => by cases h; decide)
  have p1 : putE (padR (cM tc n k) ⟨#[]⟩) = 0 := p1
  have p2 : (putS (padR (cM tc n k) ⟨#[]⟩)).size = 16 + n.size + 16 * k + (11 + 0) := p2
  obtain ⟨r0, r1⟩ := room_bd ((27 + n.size + 16 * k : Nat) : Int) 468 (by decide)
  have r2 := room_fill ((27 + n.size + 16 * k : Nat) : Int) 468 (by omega) (by decide)
  obtain ⟨r, hr⟩ : ∃ r : Nat, roomI ((27 + n.size + 16 * k : Nat) : Int) 468 = (r : Int) := ⟨(roomI ((27 + n.size + 16 * k : Nat) : Int) 468).toNat, by omega⟩
  have hN : roomN (cM tc n k) 468 = r := by
    unfold roomN
    rw [p2, show 16 + n.size + 16 * k + (11 + 0) = 27 + n.size + 16 * k by omega, hr]
    rfl
  rw [hr] at r0 r1 r2
  obtain ⟨q1, q2⟩ := cut_put tc hn h0 k hk (some (optD r)) (fun d h => by cases h; rw [optD_size]; omega)
  have q1 : putE (padR (cM tc n k) (optD r)) = 0 := q1
  have q2 : (putS (padR (cM tc n k) (optD r))).size = 16 + n.size + 16 * k + (11 + (optD r).size) := q2
  rw [optD_size] at q2
  unfold padE padS
  rw [if_pos p1, if_pos p1, hN]
  refine ⟨q1, ?_⟩
  rw [q2]
  omega
theorem pick_cons (most : Int) (s : ByteArray) (e : Int) (l : List (ByteArray × Int)) (he : e = 0) : pick most ((s, e) :: l) = if (s.size : Int) ≤ most then (s, 0) else pick most l := by
  by_cases h : (s.size : Int) ≤ most
  · rw [if_pos h]; exact if_pos ⟨he, h⟩
  · rw [if_neg h]; exact if_neg (fun k => h k.2)
/-- What comes without an OPT. -/
theorem ans0 {n : ByteArray} (hn : nameB n = true) (h0 : n ≠ root) (k : Nat) (hk : k ≤ 31) (b : Int) :
    (((16 + n.size + 16 * k : Nat) : Int) ≤ b → (ansP (cM false n k) false b).2 = 0 ∧ (ansP (cM false n k) false b).1.size = 16 + n.size + 16 * k) ∧
    (b < ((16 + n.size + 16 * k : Nat) : Int) → ((16 + n.size : Nat) : Int) ≤ b → (ansP (cM false n k) false b).2 = 0 ∧ (ansP (cM false n k) false b).1.size = 16 + n.size ∧ bt (ansP (cM false n k) false b).1 2 = 130) ∧
    (b < ((16 + n.size : Nat) : Int) → ansP (cM false n k) false b = (⟨#[]⟩, 1001)) := by
  obtain ⟨p1, p2⟩ := cut_put false hn h0 k hk none (fun d h => by cases h)
  have p1 : putE (cM false n k) = 0 := p1
  have p2 : (putS (cM false n k)).size = 16 + n.size + 16 * k + 0 := p2
  obtain ⟨q1, q2⟩ := cut_put true hn h0 0 (by decide) none (fun d h => by cases h)
  have q1 : putE (shortM (cM false n k)) = 0 := q1
  have q2 : (putS (shortM (cM false n k))).size = 16 + n.size + 16 * 0 + 0 := q2
  have tb : bt (putS (shortM (cM false n k))) 2 = 130 := short_tc hn h0
  have hA : ansP (cM false n k) false b = if b < 12 then (⟨#[]⟩, 1001) else if ((putS (cM false n k)).size : Int) ≤ b then (putS (cM false n k), 0) else if ((putS (shortM (cM false n k))).size : Int) ≤ b then (putS (shortM (cM false n k)), 0) else (⟨#[]⟩, 1001) := by
    unfold ansP
    rw [if_neg (by rw [p1]; decide), if_neg (by rw [p1]; decide), if_neg (fun k => by cases k.1)]
    congr 1
    show pick b [(putS (cM false n k), putE (cM false n k)), (putS (shortM (cM false n k)), putE (shortM (cM false n k)))] = _
    rw [pick_cons _ _ _ _ p1, pick_cons _ _ _ _ q1]
    rfl
  rw [hA]
  rw [p2, q2]
  refine ⟨fun h => ?_, fun h h' => ?_, fun h => ?_⟩
  · rw [if_neg (by omega), if_pos (by omega)]; exact ⟨rfl, p2⟩
  · rw [if_neg (by omega), if_neg (by omega), if_pos (by omega)]; exact ⟨rfl, q2, tb⟩
  · by_cases hb : b < 12
    · rw [if_pos hb]
    · rw [if_neg hb, if_neg (by omega), if_neg (by omega)]
def wantN (z k : Nat) (b : Int) : Nat :=
  if (((16 + z + 16 * k + 15 + 467) / 468 * 468 : Nat) : Int) ≤ b then (16 + z + 16 * k + 15 + 467) / 468 * 468 else if (((16 + z + 15 + 467) / 468 * 468 : Nat) : Int) ≤ b then (16 + z + 15 + 467) / 468 * 468 else if ((16 + z + 11 : Nat) : Int) ≤ b then 16 + z + 11 else 0
/-- What comes with an OPT. -/
theorem ans1 {n : ByteArray} (hn : nameB n = true) (h0 : n ≠ root) (k : Nat) (hk : k ≤ 31) (b : Int) :
    (ansP (cM false n k) true b).1.size = wantN n.size k b ∧ (ansP (cM false n k) true b).2 = if wantN n.size k b = 0 then 1001 else 0 := by
  obtain ⟨p1, p2⟩ := cut_put false hn h0 k hk none (fun d h => by cases h)
  have p1 : putE (cM false n k) = 0 := p1
  obtain ⟨a1, a2⟩ := cut_pad false hn h0 k hk
  obtain ⟨b1, b2⟩ := cut_pad true hn h0 0 (by decide)
  have b1 : padE (shortM (cM false n k)) 468 = 0 := b1
  have b2 : (padS (shortM (cM false n k)) 468).size = (16 + n.size + 16 * 0 + 15 + 467) / 468 * 468 := b2
  obtain ⟨c1, c2⟩ := cut_put true hn h0 0 (by decide) (some ⟨#[]⟩) (fun d h => by cases h; decide)
  have c1 : putE (padR (shortM (cM false n k)) ⟨#[]⟩) = 0 := c1
  have c2 : (putS (padR (shortM (cM false n k)) ⟨#[]⟩)).size = 16 + n.size + 16 * 0 + (11 + 0) := c2
  have hA : ansP (cM false n k) true b = if b < 12 then (⟨#[]⟩, 1001) else if ((padS (cM false n k) 468).size : Int) ≤ b then (padS (cM false n k) 468, 0) else if ((padS (shortM (cM false n k)) 468).size : Int) ≤ b then (padS (shortM (cM false n k)) 468, 0) else if ((putS (padR (shortM (cM false n k)) ⟨#[]⟩)).size : Int) ≤ b then (putS (padR (shortM (cM false n k)) ⟨#[]⟩), 0) else (⟨#[]⟩, 1001) := by
    unfold ansP
    rw [if_neg (by rw [p1]; decide), if_neg (by rw [p1]; decide), if_neg (fun q => absurd q.2 (by show ¬ 64 ≤ 0; decide))]
    congr 1
    show pick b [(padS (cM false n k) 468, padE (cM false n k) 468), (padS (shortM (cM false n k)) 468, padE (shortM (cM false n k)) 468), (putS (padR (shortM (cM false n k)) ⟨#[]⟩), putE (padR (shortM (cM false n k)) ⟨#[]⟩))] = _
    rw [pick_cons _ _ _ _ a1, pick_cons _ _ _ _ b1, pick_cons _ _ _ _ c1]
    rfl
  rw [hA]
  unfold wantN
  rw [a2, b2, c2]
  simp only [Nat.mul_zero, Nat.add_zero]
  by_cases hb : b < 12
  · rw [if_pos hb, if_neg (by omega), if_neg (by omega), if_neg (by omega)]; exact ⟨rfl, rfl⟩
  · rw [if_neg hb]
    by_cases x1 : (((16 + n.size + 16 * k + 15 + 467) / 468 * 468 : Nat) : Int) ≤ b
    · rw [if_pos x1, if_pos x1]
      exact ⟨a2, by rw [if_neg (by omega)]⟩
    · rw [if_neg x1, if_neg x1]
      by_cases x2 : (((16 + n.size + 15 + 467) / 468 * 468 : Nat) : Int) ≤ b
      · rw [if_pos x2, if_pos x2]
        exact ⟨b2, by rw [if_neg (by omega)]⟩
      · rw [if_neg x2, if_neg x2]
        by_cases x3 : ((16 + n.size + 11 : Nat) : Int) ≤ b
        · rw [if_pos x3, if_pos x3]
          exact ⟨c2, by rw [if_neg (by omega)]⟩
        · rw [if_neg x3, if_neg x3]
          exact ⟨rfl, rfl⟩
end Go.Proofs.Ytjklgdpffmaamaa.Pad

namespace Go.Proofs.Ytjklgdpffmaamaa.PadCuts
open Go.RowKit Go.PlainAid Go.Proofs.Ytjklgdpffmaamaa.Base Go.Proofs.Ytjklgdpffmaamaa.Oct Go.Proofs.Ytjklgdpffmaamaa.Nm Go.Proofs.Ytjklgdpffmaamaa.Wm Go.Proofs.Ytjklgdpffmaamaa.Pad
open Go.Proofs.YtjklgdpffmaamaaW.PrintWords (blk_cell blk_below blk_put blk_frozen blk_ne blk_new blk_lt blk_grown blk_alloc own_nil)
set_option linter.unusedVariables false
set_option linter.unusedSimpArgs false
theorem lies {n : ByteArray} {gq k c : Nat} {A : Option Addr} {B : Nat} {W : World} (bq : W.heap[gq]? = some (.cells #[.string n, .int .i64 1, .int .i64 1] 40 (0, 0))) (ho : W.ownsRow B 53 5 (.slice A k c) k (cellsR (List.replicate k (rC n)))) : MsgV.Lies ⟨hC false, some ⟨gq, 0, none⟩, 1, [⟨n, 1, 1⟩], A, c, List.replicate k (rC n), none, 0, [], none, 0, []⟩ W := by
  have ho' : W.ownsRow B 53 5 (.slice A k c) (List.replicate k (rC n)).length (cellsR (List.replicate k (rC n))) := by rw [List.length_replicate]; exact ho
  refine ⟨one_q (q := ⟨n, 1, 1⟩) bq, own_rcells ho', .inl rfl, .inl rfl, Nat.le_refl _, ?_, Nat.le_refl _, Nat.le_refl _, ?_, (by intro r hr; cases hr), (by intro r hr; cases hr)⟩
  · show (List.replicate k (rC n)).length ≤ c
    rw [List.length_replicate]
    exact own_cap ho
  · intro r hr
    rw [List.eq_of_mem_replicate hr]
    show (4 : Nat) ≤ _
    decide
set_option maxHeartbeats 4000000 in
set_option maxRecDepth 100000 in
theorem walk (n : ByteArray) (many most : Int) (w : World) (hz : n.size ≤ 140737488351232) (_ : (Lit.int .i64 many).wf = true) (_ : (Lit.int .i64 most).wf = true) : Calls Try.prog 8 #[.string n, .int .i64 many, .int .i64 most] w fun e w' => e = .returned (.bool true) ∧ Below w.heap.size w w' := by
  have ka := awake10
  have km := fun w => rmay n w
  by_cases hn : nameB n = true
  case neg =>
    have hn : nameB n = false := by simpa using hn
    rw [hn] at km
    clear hn
    go_enter Try.func8, Try.ntmps8
    go_wp2_with fail
    refine (ka _).mono ?_
    rintro e w1 ⟨rfl, B⟩
    go_wp2_with fail
    refine (km _).mono ?_
    rintro e w2 ⟨rfl, hb⟩
    replace B := B.trans (hb.mono B.size)
    go_wp2_with fail
    go_ret
    exact ⟨rfl, B⟩
  rw [hn] at km
  by_cases h0 : n = Wr.root
  · have t0 : (n.toList == ([0] : List UInt8)) = true := by rw [h0]; decide +kernel
    clear hn h0
    go_enter Try.func8, Try.ntmps8
    go_wp2_with fail
    refine (ka _).mono ?_
    rintro e w1 ⟨rfl, B⟩
    go_wp2_with fail
    refine (km _).mono ?_
    rintro e w2 ⟨rfl, hb⟩
    replace B := B.trans (hb.mono B.size)
    go_wp2_with fail
    go_ret
    exact ⟨rfl, B⟩
  have t0 : (n.toList == ([0] : List UInt8)) = false := by
    rw [beq_eq_false_iff_ne]
    intro h
    exact h0 (Pu.toList_inj (h.trans (by decide +kernel)))
  obtain ⟨k, hk, hx⟩ : ∃ k : Nat, k ≤ 31 ∧ Go.bits .and .i64 many 31 = (k : Int) := ⟨(many % 32).toNat, by omega, by rw [show (31 : Int) = 2 ^ 5 - 1 by decide, Base.and_mask 5 (by decide)]; omega⟩
  obtain ⟨b, ⟨b0, b1⟩, hy⟩ : ∃ c : Int, (0 ≤ c ∧ c ≤ 1023) ∧ Go.bits .and .i64 most 1023 = c := ⟨most % 1024, by omega, by rw [show (1023 : Int) = 2 ^ 10 - 1 by decide, Base.and_mask 10 (by decide)]; rfl⟩
  have HN := Lib.hid hn
  have H0 := Lib.hid h0
  have n255 := name_size hn
  clear hn h0
  go_enter Try.func8, Try.ntmps8
  go_wp2_with fail
  refine (ka _).mono ?_
  rintro e w1 ⟨rfl, B⟩
  go_wp2_with fail
  refine (km _).mono ?_
  rintro e w2 ⟨rfl, hb⟩
  replace B := B.trans (hb.mono B.size)
  clear hb ka km
  go_upto_region 7 with (fail)
  have sB := B.size
  have bq : ((w2.alloc (.cells #[.string n, .int .i64 1, .int .i64 1] 40)).alloc (.cells #[.int .i64 0, .bool true, .int .i64 0, .bool false, .bool false, .bool false, .bool false, .int .i64 0, .int .i64 0, .slice (some ⟨w2.heap.size, 0, none⟩) 1 1, .slice none 0 0, .slice none 0 0, .slice none 0 0] 27)).heap[w2.heap.size]? = _ := blk_alloc (blk_new w2 _) _
  have bm : ((w2.alloc (.cells #[.string n, .int .i64 1, .int .i64 1] 40)).alloc (.cells #[.int .i64 0, .bool true, .int .i64 0, .bool false, .bool false, .bool false, .bool false, .int .i64 0, .int .i64 0, .slice (some ⟨w2.heap.size, 0, none⟩) 1 1, .slice none 0 0, .slice none 0 0, .slice none 0 0] 27)).heap[w2.heap.size + 1]? = some (.cells #[.int .i64 0, .bool true, .int .i64 0, .bool false, .bool false, .bool false, .bool false, .int .i64 0, .int .i64 0, .slice (some ⟨w2.heap.size, 0, none⟩) 1 1, .slice none 0 0, .slice none 0 0, .slice none 0 0] 27 (0, 0)) := by
    have h := blk_new (w2.alloc (.cells #[.string n, .int .i64 1, .int .i64 1] 40)) (.cells #[.int .i64 0, .bool true, .int .i64 0, .bool false, .bool false, .bool false, .bool false, .int .i64 0, .int .i64 0, .slice (some ⟨w2.heap.size, 0, none⟩) 1 1, .slice none 0 0, .slice none 0 0, .slice none 0 0] 27)
    rw [OptH.asz] at h
    exact h
  have B2 := (B.alloc sB (.cells #[.string n, .int .i64 1, .int .i64 1] 40)).alloc (by rw [OptH.asz]; omega) (.cells #[.int .i64 0, .bool true, .int .i64 0, .bool false, .bool false, .bool false, .bool false, .int .i64 0, .int .i64 0, .slice (some ⟨w2.heap.size, 0, none⟩) 1 1, .slice none 0 0, .slice none 0 0, .slice none 0 0] 27)
  have hgm : w.heap.size ≤ w2.heap.size + 1 := by omega
  generalize (w2.alloc (.cells #[.string n, .int .i64 1, .int .i64 1] 40)).alloc (.cells #[.int .i64 0, .bool true, .int .i64 0, .bool false, .bool false, .bool false, .bool false, .int .i64 0, .int .i64 0, .slice (some ⟨w2.heap.size, 0, none⟩) 1 1, .slice none 0 0, .slice none 0 0, .slice none 0 0] 27) = w3 at *
  have hne : w2.heap.size ≠ w2.heap.size + 1 := by omega
  obtain ⟨gm, hgm'⟩ : ∃ g, g = w2.heap.size + 1 := ⟨_, rfl⟩
  rw [← hgm'] at bm hgm hne ⊢
  clear hgm'
  generalize w2.heap.size = gq at *
  have hgl := blk_lt bm
  have HGM := Lib.hid (And.intro hgm hne)
  have HW3 := Lib.hid B2.size
  clear B sB hgm hne
  go_wp2_with fail
  go_loopg [9] (k + 1) (fun kk v9 wr => ∃ (i : Nat) (A : Option Addr) (c : Nat), v9 = .int .i64 (i : Int) ∧ i + kk = k + 1 ∧ i ≤ k ∧ wr.heap[gm]? = some (.cells #[.int .i64 0, .bool true, .int .i64 0, .bool false, .bool false, .bool false, .bool false, .int .i64 0, .int .i64 0, .slice (some ⟨gq, 0, none⟩) 1 1, .slice A i c, .slice none 0 0, .slice none 0 0] 27 (0, 0)) ∧ wr.heap[gq]? = some (.cells #[.string n, .int .i64 1, .int .i64 1] 40 (0, 0)) ∧ wr.ownsRow w3.heap.size 53 5 (.slice A i c) i (cellsR (List.replicate i (rC n))) ∧ Below w.heap.size w wr ∧ w3.heap.size ≤ wr.heap.size)
  case atStart => exact ⟨0, none, 0, rfl, by omega, by omega, bm, bq, own_nil _ _ _ _, B2, Nat.le_refl _⟩
  case round =>
    obtain ⟨i, A, c, rfl, hkk, hi, bm1, bq1, ho, B1, hs3⟩ := hrel
    clear bm bq B2
    by_cases h : i < k
    · have q : decide ((i : Int) < (k : Int)) = true := by simp; omega
      have c10 : wr.cell? ⟨gm, 10, none⟩ = some (.slice A i c) := (blk_cell bm1 10).trans rfl
      have f10 := blk_frozen bm1 10
      have hlt := blk_lt bm1
      have HK := Lib.hid hkk
      clear hkk
      go_wp2_with (at_builtin; refine app_elem w3.heap.size rfl _ _ 25 53 (.agg #[.string ⟨#[]⟩, .int .i64 0, .int .i64 0, .int .i64 0, .string ⟨#[]⟩]) 5 56 rfl Try.underlying25 info_R rfl (by decide) ho (cellR (rC n)) rfl rfl rfl ?h1 hs3 ?hn ?hl ?_)
      case h1 => exact ⟨rfl, rfl, rfl, rfl, rfl⟩
      case hn => omega
      case hl => omega
      intro v3 w4 ho4 hg4
      obtain ⟨A3, c3, rfl⟩ := Sl.own_slice ho4
      have bm4 := blk_grown (blk_alloc bm1 (.cells (cellR (rC n)) 53)) hg4 (own_ne ho bm1 (by decide))
      have bq4 := blk_grown (blk_alloc bq1 (.cells (cellR (rC n)) 53)) hg4 (own_ne ho bq1 (by decide))
      have B4 := (B1.alloc B1.size (.cells (cellR (rC n)) 53)).grown hg4 (by rw [OptH.asz]; have := B1.size; omega) (fun kk e => Nat.le_trans HW3.out (Sl.own_base ho kk e))
      have hs4 : w3.heap.size ≤ w4.heap.size := by have := hg4.size; rw [OptH.asz] at this; omega
      have d10 : w4.cell? ⟨gm, 10, none⟩ = some (.slice A i c) := (blk_cell bm4 10).trans rfl
      have e10 := blk_frozen bm4 10
      have bm5 := blk_put bm4 10 (.slice A3 (i + 1) c3) rfl
      have bq5 := blk_set_ne (p := ⟨gm, 10, none⟩) bq4 HGM.out.2 (.slice A3 (i + 1) c3)
      have B5 := B4.setCell (p := ⟨gm, 10, none⟩) HGM.out.1 (.slice A3 (i + 1) c3)
      have ho5 := putAll_own 10 [.slice A3 (i + 1) c3] ho4 (own_ne ho4 bm4 (by decide))
      simp only [putAll] at ho5
      have hs5 : w3.heap.size ≤ (w4.setCell ⟨gm, 10, none⟩ (.slice A3 (i + 1) c3)).heap.size := by simp [World.setCell]; exact hs4
      clear c10 f10 hlt bm1 bq1 ho B1 hs3 ho4 hg4 bm4 bq4 B4 hs4
      go_wp2_with fail
      go_roundg (k - i)
      case measure => have := HK.out; omega
      case rel =>
        refine ⟨i + 1, A3, c3, by first | rfl | exact congrArg (Value.int .i64) (by rw [w64 (by omega) (by omega)]; omega), by omega, by omega, by simpa using bm5, bq5, ?_, B5, hs5⟩
        rw [List.replicate_succ', cellsR_app]
        simpa [cellsR] using ho5
    · have q : decide ((i : Int) < (k : Int)) = false := by simp; omega
      obtain rfl : i = k := by omega
      have hL := Lib.hid (lies bq1 ho)
      have a0 := ans0 HN.out H0.out i hk b
      have a1 := ans1 HN.out H0.out i hk b
      have k0 : Calls Try.prog 29 #[.agg #[.int .i64 0, .bool true, .int .i64 0, .bool false, .bool false, .bool false, .bool false, .int .i64 0, .int .i64 0, .slice (some ⟨gq, 0, none⟩) 1 1, .slice A i c, .slice none 0 0, .slice none 0 0], .bool false, .int .i64 b] wr fun e w' => e = .returned (.tuple #[.string (ansP (cM false n i) false b).1, .int .i64 (ansP (cM false n i) false b).2]) ∧ Below wr.heap.size wr w' := by
        have := answerc ⟨hC false, some ⟨gq, 0, none⟩, 1, [⟨n, 1, 1⟩], A, c, List.replicate i (rC n), none, 0, [], none, 0, []⟩ false b wr hL.out
        simp only [MsgV.cells, List.length_replicate, List.length_cons, List.length_nil] at this
        exact this
      have x0 : wr.cell? ⟨gm, 0, none⟩ = some (.int .i64 0) := (blk_cell bm1 0).trans rfl
      have x1 : wr.cell? ⟨gm, 1, none⟩ = some (.bool true) := (blk_cell bm1 1).trans rfl
      have x2 : wr.cell? ⟨gm, 2, none⟩ = some (.int .i64 0) := (blk_cell bm1 2).trans rfl
      have x3 : wr.cell? ⟨gm, 3, none⟩ = some (.bool false) := (blk_cell bm1 3).trans rfl
      have x4 : wr.cell? ⟨gm, 4, none⟩ = some (.bool false) := (blk_cell bm1 4).trans rfl
      have x5 : wr.cell? ⟨gm, 5, none⟩ = some (.bool false) := (blk_cell bm1 5).trans rfl
      have x6 : wr.cell? ⟨gm, 6, none⟩ = some (.bool false) := (blk_cell bm1 6).trans rfl
      have x7 : wr.cell? ⟨gm, 7, none⟩ = some (.int .i64 0) := (blk_cell bm1 7).trans rfl
      have x8 : wr.cell? ⟨gm, 8, none⟩ = some (.int .i64 0) := (blk_cell bm1 8).trans rfl
      have x9 : wr.cell? ⟨gm, 9, none⟩ = some (.slice (some ⟨gq, 0, none⟩) 1 1) := (blk_cell bm1 9).trans rfl
      have x10 : wr.cell? ⟨gm, 10, none⟩ = some (.slice A i c) := (blk_cell bm1 10).trans rfl
      have x11 : wr.cell? ⟨gm, 11, none⟩ = some (.slice none 0 0) := (blk_cell bm1 11).trans rfl
      have x12 : wr.cell? ⟨gm, 12, none⟩ = some (.slice none 0 0) := (blk_cell bm1 12).trans rfl
      obtain ⟨S, hS⟩ : ∃ S, S = (ansP (cM false n i) false b).1 := ⟨_, rfl⟩
      obtain ⟨E, hE⟩ : ∃ E, E = (ansP (cM false n i) false b).2 := ⟨_, rfl⟩
      rw [← hS, ← hE] at k0
      have hP : ansP (cM false n i) false b = (S, E) := by rw [hS, hE]
      rw [hP] at a0
      dsimp only at a0
      have A0 := Lib.hid a0
      have A1 := Lib.hid a1
      have HBQ := Lib.hid (And.intro bm1 (And.intro B1 HGM.out))
      clear a0 a1 hS hE hP ho bq1 bm1 B1 hs3 hgl
      go_wp2_with fail
      refine k0.mono ?_
      rintro e w5 ⟨rfl, hb⟩
      have bm5 := blk_below HBQ.out.1 hb
      have B5 := HBQ.out.2.1.trans (hb.mono HBQ.out.2.1.size)
      have k1 : Calls Try.prog 29 #[.agg #[.int .i64 0, .bool true, .int .i64 0, .bool false, .bool false, .bool false, .bool false, .int .i64 0, .int .i64 0, .slice (some ⟨gq, 0, none⟩) 1 1, .slice A i c, .slice none 0 0, .slice none 0 0], .bool true, .int .i64 b] w5 fun e w' => e = .returned (.tuple #[.string (ansP (cM false n i) true b).1, .int .i64 (ansP (cM false n i) true b).2]) ∧ Below w5.heap.size w5 w' := by
        have := answerc ⟨hC false, some ⟨gq, 0, none⟩, 1, [⟨n, 1, 1⟩], A, c, List.replicate i (rC n), none, 0, [], none, 0, []⟩ true b w5 (hL.out.below hb)
        simp only [MsgV.cells, List.length_replicate, List.length_cons, List.length_nil] at this
        exact this
      clear x0 x1 x2 x3 x4 x5 x6 x7 x8 x9 x10 x11 x12
      clear k0 hb HBQ hL
      go_upto_block 2 with (fail)
      go_cut [66] (fun v66 wc => wc = w5)
      case first =>
        by_cases h1 : 16 + (n.size : Int) + 16 * (i : Int) ≤ b
        · have q1 : decide (16 + (n.size : Int) + 16 * (i : Int) ≤ b) = true := decide_eq_true h1
          obtain ⟨rfl, hz⟩ := A0.out.1 (by omega)
          have q2 : ((S.size : Int) != 16 + (n.size : Int) + 16 * (i : Int)) = false := by
            have : (S.size : Int) = 16 + (n.size : Int) + 16 * (i : Int) := by rw [hz]; omega
            rw [this]; simp
          have kn := fun w => Hd.numc 0 w
          clear h1 hz A0 A1 k1
          go_wp2_with fail
          refine (kn _).mono ?_
          rintro e w6 ⟨rfl, rfl⟩
          go_wp2_with fail
          go_meet
          case rel => rfl
        · have q1 : decide (16 + (n.size : Int) + 16 * (i : Int) ≤ b) = false := decide_eq_false h1
          by_cases h2 : 16 + (n.size : Int) ≤ b
          · have q2 : decide (16 + (n.size : Int) ≤ b) = true := decide_eq_true h2
            obtain ⟨rfl, hz, tb⟩ := A0.out.2.1 (by omega) (by omega)
            have q3 : ((S.size : Int) != 16 + (n.size : Int)) = false := by
              have : (S.size : Int) = 16 + (n.size : Int) := by rw [hz]; omega
              rw [this]; simp
            have gb := get_bt S
            have kb : Go.bits .and .u8 130 2 = 2 := by decide
            have hz2 : decide ((2 : Int) < (S.size : Int)) = true := by simp; omega
            have hz3 : 2 < S.size := by omega
            have kn := fun w => Hd.numc 0 w
            clear h1 h2 hz A0 A1 k1
            go_wp2_with fail
            refine (kn _).mono ?_
            rintro e w6 ⟨rfl, rfl⟩
            go_wp2_with fail
            go_meet
            case rel => rfl
          · have q2 : decide (16 + (n.size : Int) ≤ b) = false := decide_eq_false h2
            have hh := A0.out.2.2 (by omega)
            injection hh with hh1 hh2
            subst hh1 hh2
            have kn := fun w => Hd.numc 1001 w
            clear h1 h2 A0 A1 k1
            go_wp2_with fail
            refine (kn _).mono ?_
            rintro e w6 ⟨rfl, rfl⟩
            go_wp2_with fail
            go_meet
            case rel => rfl
      case rest =>
        clear A0
        have x0 : w5.cell? ⟨gm, 0, none⟩ = some (.int .i64 0) := (blk_cell bm5 0).trans rfl
        have x1 : w5.cell? ⟨gm, 1, none⟩ = some (.bool true) := (blk_cell bm5 1).trans rfl
        have x2 : w5.cell? ⟨gm, 2, none⟩ = some (.int .i64 0) := (blk_cell bm5 2).trans rfl
        have x3 : w5.cell? ⟨gm, 3, none⟩ = some (.bool false) := (blk_cell bm5 3).trans rfl
        have x4 : w5.cell? ⟨gm, 4, none⟩ = some (.bool false) := (blk_cell bm5 4).trans rfl
        have x5 : w5.cell? ⟨gm, 5, none⟩ = some (.bool false) := (blk_cell bm5 5).trans rfl
        have x6 : w5.cell? ⟨gm, 6, none⟩ = some (.bool false) := (blk_cell bm5 6).trans rfl
        have x7 : w5.cell? ⟨gm, 7, none⟩ = some (.int .i64 0) := (blk_cell bm5 7).trans rfl
        have x8 : w5.cell? ⟨gm, 8, none⟩ = some (.int .i64 0) := (blk_cell bm5 8).trans rfl
        have x9 : w5.cell? ⟨gm, 9, none⟩ = some (.slice (some ⟨gq, 0, none⟩) 1 1) := (blk_cell bm5 9).trans rfl
        have x10 : w5.cell? ⟨gm, 10, none⟩ = some (.slice A i c) := (blk_cell bm5 10).trans rfl
        have x11 : w5.cell? ⟨gm, 11, none⟩ = some (.slice none 0 0) := (blk_cell bm5 11).trans rfl
        have x12 : w5.cell? ⟨gm, 12, none⟩ = some (.slice none 0 0) := (blk_cell bm5 12).trans rfl
        subst hcut
        clear bm5
        obtain ⟨T, hT⟩ : ∃ S, S = (ansP (cM false n i) true b).1 := ⟨_, rfl⟩
        obtain ⟨F, hF⟩ : ∃ E, E = (ansP (cM false n i) true b).2 := ⟨_, rfl⟩
        rw [← hT, ← hF] at k1
        have a1 := A1.out
        rw [← hT, ← hF] at a1
        have A2 := Lib.hid a1
        clear A1 a1 hT hF
        go_wp2_with fail
        refine k1.mono ?_
        rintro e w6 ⟨rfl, hb⟩
        replace B5 := B5.trans (hb.mono B5.size)
        clear x0 x1 x2 x3 x4 x5 x6 x7 x8 x9 x10 x11 x12
        clear hb k1
        go_upto_block 3 with (fail)
        go_cut [19] (fun v19 wc => v19 = .int .i64 ((wantN n.size i b : Nat) : Int) ∧ wc = w6)
        case first =>
          have W := Lib.hid (show wantN n.size i b = if (((16 + n.size + 16 * i + 15 + 467) / 468 * 468 : Nat) : Int) ≤ b then (16 + n.size + 16 * i + 15 + 467) / 468 * 468 else if (((16 + n.size + 15 + 467) / 468 * 468 : Nat) : Int) ≤ b then (16 + n.size + 15 + 467) / 468 * 468 else if ((16 + n.size + 11 : Nat) : Int) ≤ b then 16 + n.size + 11 else 0 from rfl)
          by_cases h1 : (16 + (n.size : Int) + 16 * (i : Int) + 15 + 467) / 468 * 468 ≤ b
          · have q1 : decide ((16 + (n.size : Int) + 16 * (i : Int) + 15 + 467) / 468 * 468 ≤ b) = true := decide_eq_true h1
            have V := Lib.hid (W.out.trans (if_pos (by omega)))
            clear h1 W
            go_wp2_with fail
            go_meet
            case rel => exact ⟨congrArg (Value.int .i64) (by rw [V.out]; omega), rfl⟩
          · have q1 : decide ((16 + (n.size : Int) + 16 * (i : Int) + 15 + 467) / 468 * 468 ≤ b) = false := decide_eq_false h1
            by_cases h2 : (16 + (n.size : Int) + 15 + 467) / 468 * 468 ≤ b
            · have q2 : decide ((16 + (n.size : Int) + 15 + 467) / 468 * 468 ≤ b) = true := decide_eq_true h2
              have V := Lib.hid ((W.out.trans (if_neg (by omega))).trans (if_pos (by omega)))
              clear h1 h2 W
              go_wp2_with fail
              go_meet
              case rel => exact ⟨congrArg (Value.int .i64) (by rw [V.out]; omega), rfl⟩
            · have q2 : decide ((16 + (n.size : Int) + 15 + 467) / 468 * 468 ≤ b) = false := decide_eq_false h2
              by_cases h3 : 16 + (n.size : Int) + 11 ≤ b
              · have q3 : decide (16 + (n.size : Int) + 11 ≤ b) = true := decide_eq_true h3
                have V := Lib.hid (((W.out.trans (if_neg (by omega))).trans (if_neg (by omega))).trans (if_pos (by omega)))
                clear h1 h2 h3 W
                go_wp2_with fail
                go_meet
                case rel => exact ⟨congrArg (Value.int .i64) (by rw [V.out]; omega), rfl⟩
              · have q3 : decide (16 + (n.size : Int) + 11 ≤ b) = false := decide_eq_false h3
                have V := Lib.hid (((W.out.trans (if_neg (by omega))).trans (if_neg (by omega))).trans (if_neg (by omega)))
                clear h1 h2 h3 W
                go_wp2_with fail
                go_meet
                case rel => exact ⟨congrArg (Value.int .i64) (by rw [V.out]; rfl), rfl⟩
        case rest =>
          obtain ⟨rfl, rfl⟩ := hcut
          obtain ⟨t1, t2⟩ := A2.out
          clear A2
          generalize wantN n.size i b = wt at *
          by_cases h4 : wt = 0
          · rw [if_pos h4] at t2
            subst h4 t2
            have kn := fun w => Hd.numc 1001 w
            obtain rfl : T = ByteArray.empty := ByteArray.ext (Array.eq_empty_of_size_eq_zero t1)
            clear t1
            go_wp2_with fail
            refine (kn _).mono ?_
            rintro e w7 ⟨rfl, rfl⟩
            go_wp2_with fail
            refine (kn _).mono ?_
            rintro e w7 ⟨rfl, rfl⟩
            go_wp2_with fail
            go_ret
            exact ⟨rfl, B5⟩
          · rw [if_neg h4] at t2
            subst t2
            subst t1
            have q6 : decide ((0 : Int) < (T.size : Int)) = true := by simp; omega
            have q7 : decide (0 < T.size) = true := by simp; omega
            have q8 : 0 < T.size := by omega
            have kn := fun w => Hd.numc 0 w
            clear h4
            go_wp2_with fail
            refine (kn _).mono ?_
            rintro e w7 ⟨rfl, rfl⟩
            go_wp2_with fail
            go_ret
            exact ⟨rfl, B5⟩
end Go.Proofs.Ytjklgdpffmaamaa.PadCuts

namespace Go.Proofs.Ytjklgdpffmaamaa.padCuts
open Go.ChangeShapes Go.WideShapes Go.ChangeAt Go.RowKit Go.Proofs.YtjklgdpffmaamaaW.PrintWords
open Go.ChangeMaps (open_string shut_string)
set_option linter.unusedVariables false
theorem own : ownKnob Try.prog.godebug = none := by kernel_rfl
theorem laidOut : laidOutB Try.prog = true := by kernel_rfl
set_option maxRecDepth 100000 in
theorem lifted (os : Os) (started : os.Started) (H : Type) (enc : TypeId × Value → H) :
    ReturnsInHanded {} Try.checked os 8 .any (Rows.padCutsSpec.pre6 enc Try.prog Try.f8 Rows.padCutsRow.domain false) (Rows.padCutsSpec.post enc Try.prog Try.f8 false true false false) := by
  refine returnsInHanded_of_change_sized (C := Try.checked) own started (by kernel_rfl) Try.func8
    (ChangeSpec.witness6 (enc := enc) (C := Try.checked) false ⟨#[], #[.string ByteArray.empty, .int .i64 0, .int .i64 0], []⟩ 8 (by kernel_rfl) (by kernel_rfl) (by kernel_rfl) (by kernel_rfl)) ?_
  intro W base args ds gs before hval0 hW hcnd hsz0 _
  have hsz : (DataW.weightsEach Try.prog (Try.f8.params.toList ++ Rows.padCutsSpec.plain.varTypes Try.prog) (ds ++ gs)).all (· ≤ reachBytes) = true := hsz0
  have hval : ∀ (j : Nat) t v, Try.f8.params[j]? = some t → args[j]? = some v → Value.okWide Try.prog W .any base t v := hval0
  have hW' := hW
  obtain ⟨p, q, hA0, hV, rfl, hfz, hnd⟩ := hW
  have hA : DataW.TrodAll enc Try.prog W 0 (fun _ => true) true Try.f8.params.toList args.toList ds p := hA0
  rw [Try.params8] at hA hval hsz
  obtain ⟨v0, vs0, d0, ds0, p0, q0, hargs, rfl, rfl, h0, r0⟩ := trodAll_cons hA
  obtain ⟨v1, vs1, d1, ds1, p1, q1, rfl, rfl, rfl, h1, r1⟩ := trodAll_cons r0
  obtain ⟨v2, vs2, d2, ds2, p2, q2, rfl, rfl, rfl, h2, r2⟩ := trodAll_cons r1
  obtain ⟨rfl, rfl, rfl⟩ := trodAll_nil r2
  obtain rfl : args = #[v0, v1, v2] := by cases args; simp_all
  obtain ⟨rfl, rfl⟩ := trodVars_none hV
  have k0 := h0
  have lt0 : ∀ x ∈ p0, x.block < W.heap.size := by obtain ⟨m, hm⟩ := k0; exact DataW.trod_lt m _ _ _ hm
  obtain ⟨a0, rfl, y01, y02, y0⟩ := open_string Try.underlying9 (hval 0 9 v0 rfl rfl) h0
  have w0 : a0.size ≤ 140737488351232 := by
    subst y01
    have z := sized_string hsz (j := 0) (t := 9) rfl rfl
    rw [Array.length_toList] at z
    exact z
  have k1 := h1
  have lt1 : ∀ x ∈ p1, x.block < W.heap.size := by obtain ⟨m, hm⟩ := k1; exact DataW.trod_lt m _ _ _ hm
  obtain ⟨a1, rfl, _, _, w1⟩ := open_int Try.underlying3 (hval 1 3 v1 rfl rfl) h1
  have k2 := h2
  have lt2 : ∀ x ∈ p2, x.block < W.heap.size := by obtain ⟨m, hm⟩ := k2; exact DataW.trod_lt m _ _ _ hm
  obtain ⟨a2, rfl, _, _, w2⟩ := open_int Try.underlying3 (hval 2 3 v2 rfl rfl) h2
  clear hA0 hval0 hsz0 hsz
  refine (PadCuts.walk a0 a1 a2 W w0 w1 w2).mono fun e W' ⟨he, bel⟩ => ?_
  subst he
  exact ⟨_, rfl, _, _, _, [], _, [], hW', trodAll_mk1 (shut_bool Try.underlying4 _), (trodAll_cons_mk (Below.trod laidOut (by kernel_rfl) (of_decide_eq_true (by kernel_rfl)) k0 bel lt0) (trodAll_cons_mk (Below.trod laidOut (by kernel_rfl) (of_decide_eq_true (by kernel_rfl)) k1 bel lt1) (trodAll_cons_mk (Below.trod laidOut (by kernel_rfl) (of_decide_eq_true (by kernel_rfl)) k2 bel lt2) trodAll_mk0))), rfl, bel.frame _, fun h => by cases h⟩
theorem over : Rows.padCutsRow.holds Try.pinned (OpenSpec.ofChange Rows.padCutsSpec) :=
  OpenClaim.holds_of_wide 8 Try.f8 rfl rfl rfl rfl rfl rfl rfl ⟨rfl, rfl, rfl, rfl, rfl⟩ rfl rfl rfl rfl rfl (by kernel_rfl) Try.func8 (by kernel_rfl)
    (of_decide_eq_true (by kernel_rfl)) (by unfold Func.isWrapper; first | (rw [if_pos (by decide +kernel)]; kernel_rfl) | (rw [if_neg (by decide +kernel)]; exact ⟨rfl, rfl⟩))
    (fun os started H enc _ => lifted os started H enc)
end Go.Proofs.Ytjklgdpffmaamaa.padCuts
namespace Go.Proofs.Ytjklgdpffmaamaa
theorem padCuts_holds : Rows.PadCutsSaid := padCuts.over
end Go.Proofs.Ytjklgdpffmaamaa
