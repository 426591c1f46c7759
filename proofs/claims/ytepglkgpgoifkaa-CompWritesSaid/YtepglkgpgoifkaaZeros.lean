/- string(make([]byte, n)): n zeros. -/
import Derived.Test.YtepglkgpgoifkaaOct
import Derived.Deep.OwnRows
namespace Go.Proofs.Ytepglkgpgoifkaa.Oct
open Go.RowKit Go.PlainAid Go.Proofs.Ytepglkgpgoifkaa.Base
set_option linter.unusedVariables false

/-! ### string(make([]byte, n)) -/
def zeros (m : Nat) : ByteArray := strOfNums (List.replicate m 0)
theorem zeros_size (m : Nat) : (zeros m).size = m := by simp [zeros, strOfNums_size]
theorem info_u8 : (Try.prog.info? 5).map (fun i => (i.zero, i.size, i.bytes)) = some (some (.int .u8 0), 1, 1) := by kernel_rfl
theorem make_zeros (m : Nat) (hm : m ≤ 281474976710656) (W : World) : (Instr.makeSlice 42 (.int .i64 (m : Int)) (.int .i64 (m : Int))).run Try.prog W = .ok (.slice (some ⟨W.heap.size, 0, none⟩) m m) (W.alloc (.cells (madeCells #[.int .u8 0] m) 5)) :=
  run_make_row' 42 5 (.int .u8 0) 1 Try.underlying42 info_u8 rfl .i64 .i64 m (by omega) (by omega) W
theorem conv_zeros (m : Nat) (W : World) : (convert 42 9 (.slice (some ⟨W.heap.size, 0, none⟩) m m)).run Try.prog (W.alloc (.cells (madeCells #[.int .u8 0] m) 5)) = .ok (.string (zeros m)) (W.alloc (.cells (madeCells #[.int .u8 0] m) 5)) :=
  run_convert_bytes_arg (P := Try.prog) _ 42 5 Try.underlying42 Try.underlying5 W.heap.size 0 m m (List.replicate m 0) (by simp)
    (fun i hi => by
      have h1 : (madeCells #[Value.int .u8 0] m)[i]? = some (.int .u8 0) := by simp [madeCells, hi, Nat.mod_one]
      rw [Nat.zero_add, World.cell?_alloc_new]
      rw [h1]
      simp [List.getD_eq_getElem?_getD, hi]) 9 Try.underlying9
end Go.Proofs.Ytepglkgpgoifkaa.Oct
