/- The pure statement of CompLoops: pointers that lead nowhere, bytes that are no name, places that are none, are refused. -/
import Derived.Test.YtepglkgpgoifkaaCompS
import Derived.Test.YtepglkgpgoifkaaPClx3
namespace Go.Proofs.Ytepglkgpgoifkaa.Pure
open Go.RowKit Go.Proofs.Ytepglkgpgoifkaa.PCl Go.Proofs.YtepglkgpgoifkaaW.PrintWords Go.Proofs.Ytepglkgpgoifkaa.Pu Go.Proofs.Ytepglkgpgoifkaa.CompS
set_option linter.unusedVariables false
theorem two_size (a b : Int) : (strOfNums [a, b]).size = 2 := rfl
theorem two_0 (a b : Int) (h0 : 0 ≤ a) (h1 : a ≤ 255) (h2 : 0 ≤ b) (h3 : b ≤ 255) : bt (strOfNums [a, b]) ((0 : Nat) : Int) = a := by
  rw [bt_bytes, bytesOf_nums (by intro x hx; simp at hx; omega)]; rfl
theorem two_1 (a b : Int) (h0 : 0 ≤ a) (h1 : a ≤ 255) (h2 : 0 ≤ b) (h3 : b ≤ 255) : bt (strOfNums [a, b]) ((1 : Nat) : Int) = b := by
  rw [bt_bytes, bytesOf_nums (by intro x hx; simp at hx; omega)]; rfl
/-- A pointer at the end of s (with t behind it) that leads not ahead. -/
theorem ptr_at (s t : ByteArray) (k bg : Int) (out : List Int) (bh : Int) (hs : s.size ≤ 1002) (ht : t.size ≤ 100) (ho : out.length < 255) (h0 : 0 ≤ k) (h1 : k < 16384) (hb : bg ≤ k) :
    Ev (fun n => comp_Name.l0 n (s ++ (strOfNums [192 + k / 256, k % 256] ++ t)) (s.size : Int) out bg bh) err := by
  have z : (s ++ (strOfNums [192 + k / 256, k % 256] ++ t)).size = s.size + (2 + t.size) := by simp [ByteArray.size_append, two_size]
  have e0 : bt (s ++ (strOfNums [192 + k / 256, k % 256] ++ t)) (s.size : Int) = 192 + k / 256 := by
    rw [show (s.size : Int) = (s.size : Int) + ((0 : Nat) : Int) by omega, bt_end]
    rw [bt_bytes, bytesOf_append, bytesOf_nums (by intro x hx; simp at hx; omega)]; rfl
  have e1 : bt (s ++ (strOfNums [192 + k / 256, k % 256] ++ t)) ((s.size : Int) + 1) = k % 256 := by
    rw [show (s.size : Int) + 1 = (s.size : Int) + ((1 : Nat) : Int) by omega, bt_end]
    rw [bt_bytes, bytesOf_append, bytesOf_nums (by intro x hx; simp at hx; omega)]; rfl
  exact l_ptr (by omega) (by omega) (by omega) ho e0 (by omega) e1 (by omega)
theorem and_range (x : Int) : Go.bits .and .i64 x 63 = x % 64 ∧ Go.bits .and .i64 x 127 = x % 128 := ⟨and_63 x, and_127 x⟩
theorem CompLoops : wimplelaw5_CompLoops.Pure := by
  intro a0 a1 _ w1
  have ha := wf_i64 w1
  refine Ev.rounds ?_
  unfold wimplelaw5_CompLoops.f
  refine Ev.call rfl (Ev.pos rfl ?_)
  by_cases hk : (a0.size : Int) > 1000
  · exact Ev.pos hk (Ev.some _ fun _ => rfl)
  refine Ev.neg hk ?_
  have b63 : 0 ≤ a1 % 64 ∧ a1 % 64 < 64 := by omega
  have b127 : 0 ≤ a1 % 128 ∧ a1 % 128 < 128 := by omega
  have P1 := ptr_eq (a0.size : Int) (by omega) (by omega)
  have P2 := ptr_eq ((a0.size : Int) + 2 + a1 % 64) (by omega) (by omega)
  have P3 := ptr_eq ((a0.size : Int) + 2) (by omega) (by omega)
  have wa : wrap64 ((a0.size : Int) + 2) = (a0.size : Int) + 2 := w64 (by omega) (by omega)
  have wb : wrap64 ((a0.size : Int) + 2 + a1 % 64) = (a0.size : Int) + 2 + a1 % 64 := w64 (by omega) (by omega)
  have wc : wrap64 (64 + a1 % 128) % 256 = 64 + a1 % 128 := by rw [w64 (by omega) (by omega)]; omega
  have wd : wrap64 (-1 - a1 % 64) = -1 - a1 % 64 := w64 (by omega) (by omega)
  have zl : (a0 ++ (⟨#[1, 97]⟩ : ByteArray)).size = a0.size + 2 := by rw [ByteArray.size_append]; rfl
  -- the eight answers
  have E1 : Ev (fun n => comp_Name.f n (a0 ++ strOfNums [192 + (a0.size : Int) / 256, (a0.size : Int) % 256]) (a0.size : Int)) err := by
    have := ptr_at a0 ⟨#[]⟩ (a0.size : Int) (a0.size : Int) [] (-1) (by omega) (by decide) (by decide) (by omega) (by omega) (by omega)
    rw [show ∀ x : ByteArray, x ++ (⟨#[]⟩ : ByteArray) = x from fun x => ByteArray.append_empty] at this
    exact f_at this
  have E2 : Ev (fun n => comp_Name.f n ((a0 ++ strOfNums [192 + ((a0.size : Int) + 2 + a1 % 64) / 256, ((a0.size : Int) + 2 + a1 % 64) % 256]) ++ strOfNums (List.replicate 70 0)) (a0.size : Int)) err := by
    rw [ByteArray.append_assoc]
    exact f_at (ptr_at a0 (strOfNums (List.replicate 70 0)) _ _ _ _ (by omega) (by decide) (by decide) (by omega) (by omega) (by omega))
  have lab : ∀ (k : Int), 0 ≤ k → k < 16384 → (a0.size : Int) ≤ k → Ev (fun n => comp_Name.f n ((a0 ++ (⟨#[1, 97]⟩ : ByteArray)) ++ strOfNums [192 + k / 256, k % 256]) (a0.size : Int)) err := by
    intro k k0 k1 k2
    have e0 : bt ((a0 ++ (⟨#[1, 97]⟩ : ByteArray)) ++ strOfNums [192 + k / 256, k % 256]) (a0.size : Int) = 1 := by
      rw [ByteArray.append_assoc, show (a0.size : Int) = (a0.size : Int) + ((0 : Nat) : Int) by omega, bt_end, bt_bytes, bytesOf_append]; rfl
    have zz : ((a0 ++ (⟨#[1, 97]⟩ : ByteArray)) ++ strOfNums [192 + k / 256, k % 256]).size = a0.size + 2 + 2 := by rw [ByteArray.size_append, zl, two_size]
    refine f_at (l_lab (b := 1) (by omega) (by omega) (by decide) e0 (by decide) (by decide) (by omega) ?_)
    have := ptr_at (a0 ++ (⟨#[1, 97]⟩ : ByteArray)) ⟨#[]⟩ k (a0.size : Int) ([] ++ bytesOf (((a0 ++ (⟨#[1, 97]⟩ : ByteArray)) ++ strOfNums [192 + k / 256, k % 256]).extract (a0.size : Int).toNat ((a0.size : Int) + 1 + 1).toNat)) (-1) (by omega) (by decide) (by rw [List.nil_append, bytesOf_length, ByteArray.size_extract]; omega) k0 k1 k2
    rw [show ∀ x : ByteArray, x ++ (⟨#[]⟩ : ByteArray) = x from fun x => ByteArray.append_empty, zl] at this
    rw [show (a0.size : Int) + 1 + 1 = ((a0.size + 2 : Nat) : Int) by omega]
    exact this
  have E3 := lab (a0.size : Int) (by omega) (by omega) (by omega)
  have E4 := lab ((a0.size : Int) + 2) (by omega) (by omega) (by omega)
  have E5 : Ev (fun n => comp_Name.f n (a0 ++ (⟨#[192]⟩ : ByteArray)) (a0.size : Int)) err := by
    have e0 : bt (a0 ++ (⟨#[192]⟩ : ByteArray)) (a0.size : Int) = 192 := by
      rw [show (a0.size : Int) = (a0.size : Int) + ((0 : Nat) : Int) by omega, bt_end]; rfl
    have zz : (a0 ++ (⟨#[192]⟩ : ByteArray)).size = a0.size + 1 := by rw [ByteArray.size_append]; rfl
    exact f_at (l_bad (by omega) (by omega) (by omega) (by decide) e0 (by decide) (.inr (by omega)))
  have E6 : Ev (fun n => comp_Name.f n (a0 ++ strOfNums [64 + a1 % 128, 0]) (a0.size : Int)) err := by
    have e0 : bt (a0 ++ strOfNums [64 + a1 % 128, 0]) (a0.size : Int) = 64 + a1 % 128 := by
      rw [show (a0.size : Int) = (a0.size : Int) + ((0 : Nat) : Int) by omega, bt_end, two_0 _ _ (by omega) (by omega) (by omega) (by omega)]
    have zz : (a0 ++ strOfNums [64 + a1 % 128, 0]).size = a0.size + 2 := by rw [ByteArray.size_append, two_size]
    exact f_at (l_bad (by omega) (by omega) (by omega) (by decide) e0 (by omega) (.inl (by omega)))
  have E7 : Ev (fun n => comp_Name.f n a0 (-1 - a1 % 64)) err := f_neg (by omega)
  have E8 : Ev (fun n => comp_Name.f n a0 (a0.size : Int)) err := f_at (l_end (by omega))
  rw [P1]
  refine Ev.call rfl (Ev.pos (by rw [two_size]; omega) (Ev.bind E1 ?_))
  dsimp only
  rw [and_63, and_127, wa, wb, wc, P2, P3]
  refine Ev.call rfl ?_
  refine Ev.pos (by rw [two_size]; omega) ?_
  refine Ev.pos (by decide) ?_
  refine Ev.call rfl ?_
  refine Ev.pos (by rw [ByteArray.size_append, two_size, show (strOfNums (List.replicate 70 0)).size = 70 from rfl]; omega) ?_
  refine Ev.bind E2 ?_
  refine Ev.pos (by omega) ?_
  refine Ev.call rfl ?_
  refine Ev.pos (by rw [zl, two_size]; omega) ?_
  refine Ev.bind E3 ?_
  refine Ev.call rfl ?_
  refine Ev.pos (by rw [zl, two_size]; omega) ?_
  refine Ev.bind E4 ?_
  refine Ev.pos (by omega) ?_
  refine Ev.bind E5 ?_
  refine Ev.call rfl ?_
  refine Ev.pos (by rw [two_size]; omega) ?_
  refine Ev.bind E6 ?_
  dsimp only
  rw [wd]
  refine Ev.bind E7 (Ev.bind E8 ?_)
  dsimp only
  refine Ev.call (num_eq _) (Ev.pos rfl ?_)
  refine Ev.call (num_eq _) (Ev.pos rfl ?_)
  refine Ev.call (num_eq _) (Ev.pos rfl ?_)
  refine Ev.call (num_eq _) (Ev.pos rfl ?_)
  refine Ev.call (num_eq _) (Ev.pos rfl ?_)
  refine Ev.call (num_eq _) (Ev.pos rfl ?_)
  refine Ev.call (num_eq _) (Ev.pos rfl ?_)
  refine Ev.call (num_eq _) (Ev.some _ fun _ => rfl)
end Go.Proofs.Ytepglkgpgoifkaa.Pure
