/- What comp.Name answers, round by round: a label, a pointer, an end, a byte that is none. -/
import Derived.Test.YtepglkgpgoifkaaPure
import Derived.Test.YtepglkgpgoifkaaPClx1
import Derived.Test.YtepglkgpgoifkaaPClx2
namespace Go.Proofs.Ytepglkgpgoifkaa.CompS
open Go.RowKit Go.Proofs.Ytepglkgpgoifkaa.PCl Go.Proofs.YtepglkgpgoifkaaW.PrintWords Go.Proofs.Ytepglkgpgoifkaa.Pu
set_option linter.unusedVariables false
abbrev err : ByteArray × Int × Int := ((⟨#[]⟩ : ByteArray), 0, 500)
theorem bt_end (a t : ByteArray) (j : Nat) : bt (a ++ t) ((a.size : Int) + (j : Int)) = bt t (j : Int) := by
  rw [show (a.size : Int) + (j : Int) = ((a.size + j : Nat) : Int) by omega, bt_bytes, bt_bytes, bytesOf_append, List.getD_eq_getElem?_getD, List.getD_eq_getElem?_getD, List.getElem?_append_right (by rw [bytesOf_length]; omega), bytesOf_length, Nat.add_sub_cancel_left]
theorem f_at {s : ByteArray} {i : Nat} {r : ByteArray × Int × Int} (h : Ev (fun k => comp_Name.l0 k s (i : Int) [] (i : Int) (-1)) r) : Ev (fun k => comp_Name.f k s (i : Int)) r := Ev.neg (by omega) h
theorem f_neg {s : ByteArray} {i : Int} (h : i < 0) : Ev (fun k => comp_Name.f k s i) err := Ev.pos h (Ev.some _ fun _ => rfl)
theorem l_end {s : ByteArray} {i : Int} {out : List Int} {bg bh : Int} (h : (s.size : Int) ≤ i) : Ev (fun k => comp_Name.l0 k s i out bg bh) err := by
  refine Ev.step (fun k => by rw [comp_Name.l0]) (Ev.neg (by omega) ?_)
  exact Ev.step (fun k => by rw [comp_Name.j1]) (Ev.neg (by simp) (Ev.some _ fun _ => rfl))
theorem l_go {s : ByteArray} {i : Int} {out : List Int} {bg bh b : Int} {r : ByteArray × Int × Int} (h0 : 0 ≤ i) (h : i < (s.size : Int)) (ho : out.length < 255) (hb : bt s i = b) (hz : b ≠ 0)
    (h1 : b ≤ 63 → Ev (fun k => comp_Name.j2 k s i out bg bh b (decide (b < wrap64 ((s.size : Int) - i)))) r) (h2 : 63 < b → Ev (fun k => comp_Name.j2 k s i out bg bh b false) r) : Ev (fun k => comp_Name.l0 k s i out bg bh) r := by
  have hr := bt_range s i
  rw [hb] at hr
  refine Ev.step (fun k => by rw [comp_Name.l0]) (Ev.pos h ?_)
  rw [decide_eq_true (show (out.length : Int) < 255 by omega)]
  refine Ev.step (fun k => by rw [comp_Name.j1]) (Ev.pos rfl (Ev.pos h0 (Ev.pos h ?_)))
  rw [hb, w64 (x := b) (by omega) (by omega)]
  refine Ev.neg hz ?_
  by_cases hc : b ≤ 63
  · exact Ev.pos hc (h1 hc)
  · exact Ev.neg hc (h2 (by omega))
theorem l_lab {s : ByteArray} {i : Int} {out : List Int} {bg bh b : Int} {r : ByteArray × Int × Int} (hs : s.size ≤ 1000000) (h0 : 0 ≤ i) (ho : out.length < 255) (hb : bt s i = b) (hz : b ≠ 0) (h63 : b ≤ 63) (hf : b < (s.size : Int) - i)
    (h : Ev (fun k => comp_Name.l0 k s (i + 1 + b) (out ++ bytesOf (s.extract i.toNat (i + 1 + b).toNat)) bg bh) r) : Ev (fun k => comp_Name.l0 k s i out bg bh) r := by
  have hr := bt_range s i
  rw [hb] at hr
  refine l_go h0 (by omega) ho hb hz (fun _ => ?_) (fun h => by omega)
  rw [w64 (x := (s.size : Int) - i) (by omega) (by omega), decide_eq_true hf]
  refine Ev.step (fun k => by rw [comp_Name.j2]) (Ev.pos rfl ?_)
  rw [w64 (x := i + 1) (by omega) (by omega), w64 (x := i + 1 + b) (by omega) (by omega), w64 (x := 1 + b) (by omega) (by omega), w64 (x := i + (1 + b)) (by omega) (by omega), show i + (1 + b) = i + 1 + b by omega]
  refine Ev.pos (by omega) (Ev.pos (by omega) (Ev.pos (by omega) (Ev.pos ?_ h)))
  rw [ByteArray.size_extract]; omega
theorem l_bad {s : ByteArray} {i : Int} {out : List Int} {bg bh b : Int} (hs : s.size ≤ 1000000) (h0 : 0 ≤ i) (h : i < (s.size : Int)) (ho : out.length < 255) (hb : bt s i = b) (h64 : 64 ≤ b) (hn : b < 192 ∨ (s.size : Int) ≤ i + 1) : Ev (fun k => comp_Name.l0 k s i out bg bh) err := by
  refine l_go h0 h ho hb (by omega) (fun h => by omega) (fun _ => ?_)
  refine Ev.step (fun k => by rw [comp_Name.j2]) (Ev.neg (by simp) ?_)
  by_cases hc : b ≥ 192
  · refine Ev.pos hc ?_
    rw [w64 (x := i + 1) (by omega) (by omega), decide_eq_false (show ¬ i + 1 < (s.size : Int) by omega)]
    exact Ev.step (fun k => by rw [comp_Name.j3]) (Ev.neg (by simp) (Ev.some _ fun _ => rfl))
  · exact Ev.neg hc (Ev.step (fun k => by rw [comp_Name.j3]) (Ev.neg (by simp) (Ev.some _ fun _ => rfl)))
/-- Where a pointer leads. -/
theorem to_eq {b c : Int} (hb : 192 ≤ b) (hb2 : b ≤ 255) (hc : 0 ≤ c) (hc2 : c ≤ 255) : Go.bits .or .i64 (wrap64 ((Go.bits .and .i64 b 63) * 256)) (wrap64 c) = (b - 192) * 256 + c := by
  rw [and_63, w64 (x := c) (by omega) (by omega), show b % 64 = b - 192 by omega, w64 (by omega) (by omega), or_shl8 _ _ (by omega) (by omega) hc hc2]
theorem l_ptr {s : ByteArray} {i : Int} {out : List Int} {bg bh b c : Int} (hs : s.size ≤ 1000000) (h0 : 0 ≤ i) (h : i + 1 < (s.size : Int)) (ho : out.length < 255) (hb : bt s i = b) (h192 : 192 ≤ b) (hc : bt s (i + 1) = c) (hto : bg ≤ (b - 192) * 256 + c) :
    Ev (fun k => comp_Name.l0 k s i out bg bh) err := by
  have r1 := bt_range s i
  have r2 := bt_range s (i + 1)
  rw [hb] at r1
  rw [hc] at r2
  refine l_go h0 (by omega) ho hb (by omega) (fun h => by omega) (fun _ => ?_)
  refine Ev.step (fun k => by rw [comp_Name.j2]) (Ev.neg (by simp) (Ev.pos h192 ?_))
  rw [w64 (x := i + 1) (by omega) (by omega), decide_eq_true h]
  refine Ev.step (fun k => by rw [comp_Name.j3]) (Ev.pos rfl ?_)
  rw [w64 (x := i + 1) (by omega) (by omega)]
  refine Ev.pos (by omega) (Ev.pos h (Ev.pos ?_ (Ev.some _ fun _ => rfl)))
  rw [hc, to_eq h192 r1.2 r2.1 r2.2]
  exact hto
/-- A pointer's two bytes. -/
theorem ptr_eq (k : Int) (h0 : 0 ≤ k) (h1 : k < 16384) : wimplelaw5_pointer.f k = some (strOfNums [192 + k / 256, k % 256]) := by
  unfold wimplelaw5_pointer.f
  have e : Go.bits .or .i64 192 (k / 256) = 192 + k / 256 := by
    have := or_shl 6 (by decide) 3 (k / 256) (by decide) (by omega) (by omega) (by omega)
    simpa using this
  rw [and_63, show k / 256 % 64 = k / 256 by omega, e, show (192 + k / 256) % 256 = 192 + k / 256 by omega]
theorem num_eq (x : Int) : wimplelaw0_Num.f x = some x := rfl
end Go.Proofs.Ytepglkgpgoifkaa.CompS
