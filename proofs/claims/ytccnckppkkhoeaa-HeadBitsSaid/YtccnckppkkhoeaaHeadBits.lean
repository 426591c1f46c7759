/- wimplelaw6.HeadBits answers true, for all whole numbers. -/
import Derived.Test.YtccnckppkkhoeaaHeadBitsA
import Derived.Test.YtccnckppkkhoeaaHeadBitsB
import Derived.Test.YtccnckppkkhoeaaHeadBitsC
import Derived.Test.YtccnckppkkhoeaaHeadBitsD
namespace Go.Proofs.Ytccnckppkkhoeaa.Hd
open Go.RowKit Go.PlainAid Go.Proofs.Ytccnckppkkhoeaa.Base Go.Proofs.Ytccnckppkkhoeaa.Oct
set_option linter.unusedVariables false

theorem bits_walk (u : Int) (w : World) (_ : (Lit.int .i64 u).wf = true) :
    Calls Try.prog 9 #[.int .i64 u] w fun e w' => e = .returned (.bool true) ∧ Below w.heap.size w w' := by
  have hu := and15 u
  have h16 : u % 16 = 0 ∨ u % 16 = 1 ∨ u % 16 = 2 ∨ u % 16 = 3 ∨ u % 16 = 4 ∨ u % 16 = 5 ∨ u % 16 = 6 ∨ u % 16 = 7 ∨ u % 16 = 8 ∨ u % 16 = 9 ∨ u % 16 = 10 ∨ u % 16 = 11 ∨ u % 16 = 12 ∨ u % 16 = 13 ∨ u % 16 = 14 ∨ u % 16 = 15 := by omega
  rcases h16 with h | h | h | h | h | h | h | h | h | h | h | h | h | h | h | h
  · exact bits_0 u w (by rw [hu, h])
  · exact bits_1 u w (by rw [hu, h])
  · exact bits_2 u w (by rw [hu, h])
  · exact bits_3 u w (by rw [hu, h])
  · exact bits_4 u w (by rw [hu, h])
  · exact bits_5 u w (by rw [hu, h])
  · exact bits_6 u w (by rw [hu, h])
  · exact bits_7 u w (by rw [hu, h])
  · exact bits_8 u w (by rw [hu, h])
  · exact bits_9 u w (by rw [hu, h])
  · exact bits_10 u w (by rw [hu, h])
  · exact bits_11 u w (by rw [hu, h])
  · exact bits_12 u w (by rw [hu, h])
  · exact bits_13 u w (by rw [hu, h])
  · exact bits_14 u w (by rw [hu, h])
  · exact bits_15 u w (by rw [hu, h])
end Go.Proofs.Ytccnckppkkhoeaa.Hd
