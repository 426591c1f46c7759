-- PRINTED BY print.sh 35421559b90ae4d0a3588c463048766b98c2df88dd9212a6774a882060cdf62d: not written by this session
import Derived.Test.YtccnckppkkhoeaaProg
import Derived.Below
import Derived.Deep.Draws
import Derived.Deep.AppendLies
import Derived.Maps.AppendAt
import Derived.OwnWalk
import Derived.Laws.BytesArg
import Derived.Laws.MakeOwn
import Derived.Laws.OwnMore
import Derived.Deep.OwnRows
import Derived.Tactics
import Derived.Lib.ConvBytes
import Derived.Laws.Slices
import Derived.WalkKit
import Derived.KernelRfl
import Derived.RowKit3
import Derived.Deep.LoopGhost
import Derived.Deep.QuietTactic
import Derived.BigQuiet
import Derived.WideLaws
import Derived.Deep.DeepCutAuto
import Derived.Deep.CutBlock
import Derived.Deep.RegionHeld3
import Derived.Laws.Rows
import Derived.Lib.AppendStr
import Derived.ArgAppend
import Derived.Laws.IdiomCopy
import Derived.OrdersHeld
import Derived.Laws.BitsLemmas
import Derived.RowKit
import Derived.Test.YtccnckppkkhoeaaWWords
import Derived.Test.YtccnckppkkhoeaaWLast
import Derived.Test.YtccnckppkkhoeaaWTab
import Derived.Test.YtccnckppkkhoeaaWFour
import Derived.Test.YtccnckppkkhoeaaWQPut
import Derived.Test.YtccnckppkkhoeaaWApart
import Derived.Test.YtccnckppkkhoeaaWArr
import Derived.Test.YtccnckppkkhoeaaWZeros
import Derived.Test.YtccnckppkkhoeaaWFoot
import Derived.Test.YtccnckppkkhoeaaWKept
import Derived.Test.YtccnckppkkhoeaaWShare
import Derived.Test.YtccnckppkkhoeaaWN
import Derived.Test.YtccnckppkkhoeaaWFootNe
import Derived.Test.YtccnckppkkhoeaaWAt
import Derived.Test.YtccnckppkkhoeaaWEqStruct
import Derived.Test.YtccnckppkkhoeaaWRepsOne
import Derived.Test.YtccnckppkkhoeaaWInv
import Derived.Test.YtccnckppkkhoeaaWInvWords
import Derived.Test.YtccnckppkkhoeaaWGuard
import Derived.Test.YtccnckppkkhoeaaWNEv
import Derived.Test.YtccnckppkkhoeaaWMore
namespace Go.Proofs.Ytccnckppkkhoeaa.POctets
open Go.RowKit Go.Proofs.YtccnckppkkhoeaaW.PrintWords Go.Proofs.YtccnckppkkhoeaaW.PrintLast Go.Proofs.YtccnckppkkhoeaaW.PrintMore
attribute [local go_sem] max2_int min2_int max_two min_two max_three min_three max_four min_four   -- for this text's walks alone
set_option linter.unusedVariables false
set_option linter.unusedSimpArgs false



def errW : Option Int → Value
  | none => .nilIface
  | some c => .iface 0 (.int .i64 c)
theorem errW_none : errW none = .nilIface := rfl
theorem errW_some (c : Int) : errW (some c) = .iface 0 (.int .i64 c) := rfl

theorem info5 : (Try.prog.info? 5).map (fun i => (i.zero, i.size, i.bytes)) = some (some (.int .u8 0), 1, 1) := by kernel_rfl
-- the values' own types

end Go.Proofs.Ytccnckppkkhoeaa.POctets
