/- wimplelaw6.HeadBits answers true, for all whole numbers. -/
import Derived.Test.YtccnckppkkhoeaaHeadAwake
import Derived.Test.YtccnckppkkhoeaaHeadPure
import Derived.Test.YtccnckppkkhoeaaZeros
import Derived.Lib.Hide
import Derived.Deep.DeepCutAuto
import Derived.Deep.CutBlock
import Derived.BigRegion
import Derived.RegionTactic
import Derived.Deep.RegionWith
import Derived.Lib.QuietBelow
import Derived.BigQuiet
namespace Go.Proofs.Ytccnckppkkhoeaa.Hd
open Go.RowKit Go.PlainAid Go.Proofs.Ytccnckppkkhoeaa.Base Go.Proofs.Ytccnckppkkhoeaa.Oct
set_option linter.unusedVariables false

def bS (k : Nat) : ByteArray := ⟨#[0, 0]⟩ ++ strOfNums [IntKind.u8.wrap (2 ^ k / 256), IntKind.u8.wrap (Go.bits .and .i64 (2 ^ k) 255)] ++ zeros 8
theorem conv2 (p q : Int) (W : World) (b : Nat) (h0 : W.cell? ⟨b, 0, none⟩ = some (.int .u8 p)) (h1 : W.cell? ⟨b, 1, none⟩ = some (.int .u8 q)) : (convert 49 9 (.slice (some ⟨b, 0, none⟩) 2 2)).run Try.prog W = .ok (.string (strOfNums [p, q])) W :=
  run_convert_bytes_arg (P := Try.prog) W 49 5 Try.underlying49 Try.underlying5 b 0 2 2 [p, q] rfl
    (fun i hi => by obtain rfl | rfl : i = 0 ∨ i = 1 := by omega
                    · exact h0
                    · exact h1) 9 Try.underlying9
theorem conv8 (W : World) (b : Nat) (h0 : W.cell? ⟨b, 0, none⟩ = some (.int .u8 0)) (h1 : W.cell? ⟨b, 1, none⟩ = some (.int .u8 0)) (h2 : W.cell? ⟨b, 2, none⟩ = some (.int .u8 0)) (h3 : W.cell? ⟨b, 3, none⟩ = some (.int .u8 0)) (h4 : W.cell? ⟨b, 4, none⟩ = some (.int .u8 0)) (h5 : W.cell? ⟨b, 5, none⟩ = some (.int .u8 0)) (h6 : W.cell? ⟨b, 6, none⟩ = some (.int .u8 0)) (h7 : W.cell? ⟨b, 7, none⟩ = some (.int .u8 0)) : (convert 49 9 (.slice (some ⟨b, 0, none⟩) 8 8)).run Try.prog W = .ok (.string (zeros 8)) W :=
  run_convert_bytes_arg (P := Try.prog) W 49 5 Try.underlying49 Try.underlying5 b 0 8 8 (List.replicate 8 0) rfl
    (fun i hi => by obtain rfl | rfl | rfl | rfl | rfl | rfl | rfl | rfl : i = 0 ∨ i = 1 ∨ i = 2 ∨ i = 3 ∨ i = 4 ∨ i = 5 ∨ i = 6 ∨ i = 7 := by omega
                    · exact h0
                    · exact h1
                    · exact h2
                    · exact h3
                    · exact h4
                    · exact h5
                    · exact h6
                    · exact h7) 9 Try.underlying9
theorem strs_size (p q : Int) : (strOfNums [p, q]).size = 2 := by simp [strOfNums_size]
end Go.Proofs.Ytccnckppkkhoeaa.Hd
