/- Plain facts of constants: what wimplelaw4's calls answer. -/
import Derived.Test.YtndcjleadggibaaTxt
namespace Go.Proofs.Ytndcjleadggibaa.Rd
open Go.RowKit Go.PlainAid Go.Proofs.Ytndcjleadggibaa.Base Go.Proofs.Ytndcjleadggibaa.Oct Go.Proofs.Ytndcjleadggibaa.Sl Go.Proofs.Ytndcjleadggibaa.Nm Go.Lib
set_option linter.unusedVariables false

def sA : ByteArray := ⟨#[0, 0, 1, 2]⟩
def sM : ByteArray := ⟨#[0, 5, 1, 109, 0]⟩
def sH : ByteArray := ⟨#[1, 109, 0]⟩
def s0 : ByteArray := ⟨#[0]⟩
def sS : ByteArray := ⟨#[0, 0, 0, 0, 0, 0, 0, 0, 0, 0, 0, 0, 0, 0, 0, 0, 0, 0, 0, 0, 0, 7]⟩
def sT : ByteArray := ⟨#[2, 97, 98, 0]⟩
def sAB : ByteArray := ⟨#[97, 98]⟩
def xS : Soa := ⟨s0, s0, 0, 0, 0, 0, 7⟩
theorem aw_a : aS 258 = sA := by kernel_rfl
theorem aw_ae : aE 258 = 0 := by kernel_rfl
theorem aw_x : addrX sA = 258 := by kernel_rfl
theorem aw_xe : addrE sA = 0 := by kernel_rfl
theorem aw_n1 : nameB sH = true := by
  have b0 : bt sH 0 = 1 := by kernel_rfl
  have b2 : bt sH 2 = 0 := by kernel_rfl
  have z : sH.size = 3 := by kernel_rfl
  unfold nameB
  rw [nameAt_next (by omega) (by rw [b0]; decide) (by rw [b0]; decide), b0]
  rw [show 0 + 1 + (1 : Int).toNat = 2 from rfl, nameAt_end (by omega) b2, z]
  rfl
theorem aw_n0 : nameB s0 = true := by
  have b0 : bt s0 0 = 0 := by kernel_rfl
  have z : s0.size = 1 := by kernel_rfl
  unfold nameB
  rw [nameAt_end (by omega) b0, z]
  rfl
theorem aw_mb : mxB 5 sH = true := by unfold mxB; rw [aw_n1]; rfl
theorem aw_m : mxS 5 sH = sM := by unfold mxS; rw [aw_mb]; kernel_rfl
theorem aw_me : mxE 5 sH = 0 := by unfold mxE; rw [aw_mb]; rfl
theorem aw_e2 : sM.extract 2 sM.size = sH := by kernel_rfl
theorem aw_hm : mayD 15 sM = true := by
  rw [mayD_body (by decide) (by decide) (by decide), aw_e2, aw_n1]; kernel_rfl
theorem aw_hb : hostB 15 sM = true := by unfold hostB; rw [aw_hm]; rfl
theorem aw_h : hostS 15 sM = sH := by unfold hostS; rw [aw_hb, aw_e2]; rfl
theorem aw_he : hostE 15 sM = 0 := by unfold hostE; rw [aw_hb]; rfl
theorem aw_so : xS.ok = true := by
  unfold Soa.ok xS
  simp only
  rw [aw_n0]; kernel_rfl
theorem aw_s : xS.S = sS := by unfold Soa.S; rw [aw_so]; kernel_rfl
theorem aw_se : xS.E = 0 := by unfold Soa.E; rw [aw_so]; rfl
theorem aw_ea : endN sS 0 = 1 := by
  have b0 : bt sS 0 = 0 := by kernel_rfl
  rw [endN_of (i := 0) rfl (by decide) b0, show sS.extract 0 (0 + 1) = s0 by kernel_rfl, aw_n0]; rfl
theorem aw_eb : endN sS 1 = 2 := by
  have b0 : bt sS 1 = 0 := by kernel_rfl
  rw [endN_of (i := 1) rfl (by decide) b0, show sS.extract 1 (1 + 1) = s0 by kernel_rfl, aw_n0]; rfl
theorem aw_um : mayD 6 sS = true := by
  rw [mayD_body (by decide) (by decide) (by decide)]
  have : soaB sS = true := by unfold soaB; rw [aw_ea]; rw [show (1 : Int).toNat = 1 from rfl, aw_eb]; rfl
  rw [this]; rfl
theorem aw_u : unX sS = ⟨s0, s0, 0, 0, 0, 0, 7⟩ := by
  unfold unX
  rw [aw_um, if_pos rfl]
  unfold soaOf eB eA
  rw [aw_ea]
  rw [show (1 : Int).toNat = 1 from rfl, aw_eb]
  kernel_rfl
theorem aw_ue : unE sS = 0 := by unfold unE; rw [aw_um]; rfl
theorem aw_t : txS [sAB, emp] = sT := by kernel_rfl
theorem aw_te : txE [sAB, emp] = 0 := by kernel_rfl
theorem aw_b : aS (-1) = emp := by kernel_rfl
theorem aw_be : aE (-1) = 400 := by kernel_rfl
theorem aw_m1 : mayD 1 sA = true := by rw [mayD_body (by decide) (by decide) (by decide)]; rfl
theorem aw_m2 : mayD 1 emp = false := by rw [mayD_body (by decide) (by decide) (by decide)]; rfl
theorem aw_m3 : mayD 0 emp = false := by unfold mayD; rfl

def sP : ByteArray := { data := #[1, 97, 0] }
def sN : ByteArray := { data := #[0, 1, 97, 0, 0, 0, 0, 1, 0, 0, 0, 2, 0, 0, 0, 3, 0, 0, 0, 4, 0, 0, 0, 5] }
theorem nm_p : nameB sP = true := by
  have b0 : bt sP 0 = 1 := by kernel_rfl
  have b2 : bt sP 2 = 0 := by kernel_rfl
  have z : sP.size = 3 := by kernel_rfl
  unfold nameB
  rw [nameAt_next (by omega) (by rw [b0]; decide) (by rw [b0]; decide), b0]
  rw [show 0 + 1 + (1 : Int).toNat = 2 from rfl, nameAt_end (by omega) b2, z]
  rfl
theorem nm_a : nameB { data := #[97] } = false := by
  have b0 : bt { data := #[97] } 0 = 97 := by kernel_rfl
  unfold nameB
  rw [nameAt_bad (by decide) (by rw [b0]; decide)]
  simp
theorem nm_e : nameB { data := #[] } = false := nameB_small rfl
end Go.Proofs.Ytndcjleadggibaa.Rd
