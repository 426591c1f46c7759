-- Written by a program of this session out of the translation (the kit's print, changed: ppatch.py); not the kit's own print.
import Derived.Test.YtndcjleadggibaaProg
import Derived.Below
import Derived.Deep.Draws
import Derived.Deep.AppendLies
import Derived.Maps.AppendAt
import Derived.OwnWalk
import Derived.Laws.BytesArg
import Derived.Laws.MakeOwn
import Derived.Laws.OwnMore
import Derived.Deep.OwnRows
import Derived.Tactics
import Derived.Lib.ConvBytes
import Derived.Laws.Slices
import Derived.WalkKit
import Derived.KernelRfl
import Derived.RowKit3
import Derived.Deep.LoopGhost
import Derived.Deep.QuietTactic
import Derived.BigQuiet
import Derived.WideLaws
import Derived.Deep.DeepCutAuto
import Derived.Deep.CutBlock
import Derived.Deep.RegionHeld3
import Derived.Laws.Rows
import Derived.Lib.AppendStr
import Derived.ArgAppend
import Derived.Laws.IdiomCopy
import Derived.OrdersHeld
import Derived.Laws.BitsLemmas
import Derived.RowKit
import Derived.Test.YtndcjleadggibaaStepStr
import Derived.Test.YtndcjleadggibaaDataA
import Derived.Test.YtndcjleadggibaaSoaRefGet
import Derived.Test.YtndcjleadggibaaWWords
import Derived.Test.YtndcjleadggibaaWLast
import Derived.Test.YtndcjleadggibaaWTab
import Derived.Test.YtndcjleadggibaaWFour
import Derived.Test.YtndcjleadggibaaWQPut
import Derived.Test.YtndcjleadggibaaWApart
import Derived.Test.YtndcjleadggibaaWArr
import Derived.Test.YtndcjleadggibaaWZeros
import Derived.Test.YtndcjleadggibaaWFoot
import Derived.Test.YtndcjleadggibaaWKept
import Derived.Test.YtndcjleadggibaaWShare
import Derived.Test.YtndcjleadggibaaWN
import Derived.Test.YtndcjleadggibaaWFootNe
import Derived.Test.YtndcjleadggibaaWAt
import Derived.Test.YtndcjleadggibaaWEqStruct
import Derived.Test.YtndcjleadggibaaWRepsOne
import Derived.Test.YtndcjleadggibaaWInv
import Derived.Test.YtndcjleadggibaaWInvWords
import Derived.Test.YtndcjleadggibaaWGuard
import Derived.Test.YtndcjleadggibaaWNEv
import Derived.Test.YtndcjleadggibaaWMore
namespace Go.Proofs.Ytndcjleadggibaa.PRdT
open Go.RowKit Go.Proofs.YtndcjleadggibaaW.PrintWords Go.Proofs.YtndcjleadggibaaW.PrintLast Go.Proofs.YtndcjleadggibaaW.PrintMore
attribute [local go_sem] max2_int min2_int max_two min_two max_three min_three max_four min_four   -- for this text's walks alone
set_option linter.unusedVariables false
set_option linter.unusedSimpArgs false



def errW : Option Int → Value
  | none => .nilIface
  | some c => .iface 0 (.int .i64 c)
theorem errW_none : errW none = .nilIface := rfl
theorem errW_some (c : Int) : errW (some c) = .iface 0 (.int .i64 c) := rfl

theorem info3 : (Try.prog.info? 3).map (fun i => (i.zero, i.size, i.bytes)) = some (some (.int .i64 0), 1, 8) := by kernel_rfl
theorem info5 : (Try.prog.info? 5).map (fun i => (i.zero, i.size, i.bytes)) = some (some (.int .u8 0), 1, 1) := by kernel_rfl
theorem info9 : (Try.prog.info? 9).map (fun i => (i.zero, i.size, i.bytes)) = some (some (.string ⟨#[]⟩), 1, 16) := by kernel_rfl
-- the values' own types

end Go.Proofs.Ytndcjleadggibaa.PRdT
