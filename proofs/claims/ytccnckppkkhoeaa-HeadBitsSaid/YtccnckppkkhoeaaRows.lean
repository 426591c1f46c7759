/-
  No cell of these rows narrows 'for every input' (looked for: loops, veiled, ifaces, maps, wideKeys, modest, calm, conditions, laid).
  DERIVED. THE GIVEN ROWS OF THIS SEAT. 13 by the template 'for every input the law returns true; each argument reads behind the call as it read before'; 0 by the template 'total and deterministic' (their statements: YtccnckppkkhoeaaTotals.lean).
  GIVEN WITH THE SEED: the statements are not yours to turn. If you find one false, say at which input.
  Laid BY PROGRAM, IN A SANDBOX (cutbox-rows.mjs): the forced cells as the released guide's own fill.sh prints them over the translation 33fe9ce813a01503… (all of the seat's roots in one cut). By AI agents, Wed Nov 11 2026. No macro, syntax, notation, axiom, sorry.
-/
import Derived.Test.YtccnckppkkhoeaaChecked
import GoSem.Claim
import GoSem.ClaimJoined
import GoSem.ClaimMapViews
import Derived.JoinedTies
import Derived.KernelRfl
namespace Go.Proofs.Ytccnckppkkhoeaa
/- THE CELL 'sum', in the pinned program and in every row, IS THE sha256 OF THE DUMP (.gsa) THAT YtccnckppkkhoeaaProg.lean LOADS. Nothing in Lean hashes anything: it is a label: what it is worth is what the hold of that sum in a sandbox is worth. -/
noncomputable def Try.pinned : Pinned := { name := "ytccnckppkkhoeaa", sum := "33fe9ce813a0150305e86979b05ecc820f73e31689e48654a668063a8bc1aa30", checked := Try.checked }
namespace Rows
def none {H : Type} : Left H := { results := [], args := [] }

/-- 'wimplelaw3.Octets': WHATEVER THE INPUT: true; the input reads as it did. -/
def octetsSpec : ChangeSpec := { name := "octets", fn := fun _ => fun
  | [d1, d2, d3] => { results := [.lit (.bool true)], args := [d1, d2, d3] }
  | _ => none }
def octetsRow : OpenClaim := { program := "ytccnckppkkhoeaa", sum := "33fe9ce813a0150305e86979b05ecc820f73e31689e48654a668063a8bc1aa30", func := "wimple/wimplelaw3.Octets", spec := "octets", apart := false }
def OctetsSaid : Prop := octetsRow.holds Try.pinned (OpenSpec.ofChange octetsSpec)

/-- ITS FALSE NEIGHBOUR: 'it returns false'. Refute it at one input. -/
def octetsWrong : ChangeSpec := { name := "octets", fn := fun _ => fun
  | [d1, d2, d3] => { results := [.lit (.bool false)], args := [d1, d2, d3] }
  | _ => none }
def OctetsWrongFalsely : Prop := octetsRow.holds Try.pinned (OpenSpec.ofChange octetsWrong)

/-- 'wimplelaw3.OctetBack': WHATEVER THE INPUT: true; the input reads as it did. -/
def octetBackSpec : ChangeSpec := { name := "octetBack", fn := fun _ => fun
  | [d1, d2] => { results := [.lit (.bool true)], args := [d1, d2] }
  | _ => none }
def octetBackRow : OpenClaim := { program := "ytccnckppkkhoeaa", sum := "33fe9ce813a0150305e86979b05ecc820f73e31689e48654a668063a8bc1aa30", func := "wimple/wimplelaw3.OctetBack", spec := "octetBack", apart := false }
def OctetBackSaid : Prop := octetBackRow.holds Try.pinned (OpenSpec.ofChange octetBackSpec)

/-- ITS FALSE NEIGHBOUR: 'it returns false'. Refute it at one input. -/
def octetBackWrong : ChangeSpec := { name := "octetBack", fn := fun _ => fun
  | [d1, d2] => { results := [.lit (.bool false)], args := [d1, d2] }
  | _ => none }
def OctetBackWrongFalsely : Prop := octetBackRow.holds Try.pinned (OpenSpec.ofChange octetBackWrong)

/-- 'wimplelaw3.OctetEnds': WHATEVER THE INPUT: true; the input reads as it did. -/
def octetEndsSpec : ChangeSpec := { name := "octetEnds", fn := fun _ => fun
  | [d1, d2, d3] => { results := [.lit (.bool true)], args := [d1, d2, d3] }
  | _ => none }
def octetEndsRow : OpenClaim := { program := "ytccnckppkkhoeaa", sum := "33fe9ce813a0150305e86979b05ecc820f73e31689e48654a668063a8bc1aa30", func := "wimple/wimplelaw3.OctetEnds", spec := "octetEnds", apart := false }
def OctetEndsSaid : Prop := octetEndsRow.holds Try.pinned (OpenSpec.ofChange octetEndsSpec)

/-- ITS FALSE NEIGHBOUR: 'it returns false'. Refute it at one input. -/
def octetEndsWrong : ChangeSpec := { name := "octetEnds", fn := fun _ => fun
  | [d1, d2, d3] => { results := [.lit (.bool false)], args := [d1, d2, d3] }
  | _ => none }
def OctetEndsWrongFalsely : Prop := octetEndsRow.holds Try.pinned (OpenSpec.ofChange octetEndsWrong)

/-- 'wimplelaw3.OctetRows': WHATEVER THE INPUT: true; the input reads as it did. -/
def octetRowsSpec : ChangeSpec := { name := "octetRows", fn := fun _ => fun
  | [d] => { results := [.lit (.bool true)], args := [d] }
  | _ => none }
def octetRowsRow : OpenClaim := { program := "ytccnckppkkhoeaa", sum := "33fe9ce813a0150305e86979b05ecc820f73e31689e48654a668063a8bc1aa30", func := "wimple/wimplelaw3.OctetRows", spec := "octetRows", apart := false }
def OctetRowsSaid : Prop := octetRowsRow.holds Try.pinned (OpenSpec.ofChange octetRowsSpec)

/-- ITS FALSE NEIGHBOUR: 'it returns false'. Refute it at one input. -/
def octetRowsWrong : ChangeSpec := { name := "octetRows", fn := fun _ => fun
  | [d] => { results := [.lit (.bool false)], args := [d] }
  | _ => none }
def OctetRowsWrongFalsely : Prop := octetRowsRow.holds Try.pinned (OpenSpec.ofChange octetRowsWrong)

/-- 'wimplelaw6.Heads': WHATEVER THE INPUT: true; the input reads as it did. -/
def headsSpec : ChangeSpec := { name := "heads", fn := fun _ => fun
  | [d1, d2, d3, d4, d5, d6] => { results := [.lit (.bool true)], args := [d1, d2, d3, d4, d5, d6] }
  | _ => none }
def headsRow : OpenClaim := { program := "ytccnckppkkhoeaa", sum := "33fe9ce813a0150305e86979b05ecc820f73e31689e48654a668063a8bc1aa30", func := "wimple/wimplelaw6.Heads", spec := "heads", unfollowed := true, recurses := true, apart := false }
def HeadsSaid : Prop := headsRow.holds Try.pinned (OpenSpec.ofChange headsSpec)

/-- ITS FALSE NEIGHBOUR: 'it returns false'. Refute it at one input. -/
def headsWrong : ChangeSpec := { name := "heads", fn := fun _ => fun
  | [d1, d2, d3, d4, d5, d6] => { results := [.lit (.bool false)], args := [d1, d2, d3, d4, d5, d6] }
  | _ => none }
def HeadsWrongFalsely : Prop := headsRow.holds Try.pinned (OpenSpec.ofChange headsWrong)

/-- 'wimplelaw6.HeadBack': WHATEVER THE INPUT: true; the input reads as it did. -/
def headBackSpec : ChangeSpec := { name := "headBack", fn := fun _ => fun
  | [d1, d2, d3, d4] => { results := [.lit (.bool true)], args := [d1, d2, d3, d4] }
  | _ => none }
def headBackRow : OpenClaim := { program := "ytccnckppkkhoeaa", sum := "33fe9ce813a0150305e86979b05ecc820f73e31689e48654a668063a8bc1aa30", func := "wimple/wimplelaw6.HeadBack", spec := "headBack", unfollowed := true, recurses := true, apart := false }
def HeadBackSaid : Prop := headBackRow.holds Try.pinned (OpenSpec.ofChange headBackSpec)

/-- ITS FALSE NEIGHBOUR: 'it returns false'. Refute it at one input. -/
def headBackWrong : ChangeSpec := { name := "headBack", fn := fun _ => fun
  | [d1, d2, d3, d4] => { results := [.lit (.bool false)], args := [d1, d2, d3, d4] }
  | _ => none }
def HeadBackWrongFalsely : Prop := headBackRow.holds Try.pinned (OpenSpec.ofChange headBackWrong)

/-- 'wimplelaw6.HeadBits': WHATEVER THE INPUT: true; the input reads as it did. -/
def headBitsSpec : ChangeSpec := { name := "headBits", fn := fun _ => fun
  | [d] => { results := [.lit (.bool true)], args := [d] }
  | _ => none }
def headBitsRow : OpenClaim := { program := "ytccnckppkkhoeaa", sum := "33fe9ce813a0150305e86979b05ecc820f73e31689e48654a668063a8bc1aa30", func := "wimple/wimplelaw6.HeadBits", spec := "headBits", unfollowed := true, recurses := true, apart := false }
def HeadBitsSaid : Prop := headBitsRow.holds Try.pinned (OpenSpec.ofChange headBitsSpec)

/-- ITS FALSE NEIGHBOUR: 'it returns false'. Refute it at one input. -/
def headBitsWrong : ChangeSpec := { name := "headBits", fn := fun _ => fun
  | [d] => { results := [.lit (.bool false)], args := [d] }
  | _ => none }
def HeadBitsWrongFalsely : Prop := headBitsRow.holds Try.pinned (OpenSpec.ofChange headBitsWrong)

/-- 'wimplelaw6.HeadForms': WHATEVER THE INPUT: true; the input reads as it did. -/
def headFormsSpec : ChangeSpec := { name := "headForms", fn := fun _ => fun
  | [d1, d2] => { results := [.lit (.bool true)], args := [d1, d2] }
  | _ => none }
def headFormsRow : OpenClaim := { program := "ytccnckppkkhoeaa", sum := "33fe9ce813a0150305e86979b05ecc820f73e31689e48654a668063a8bc1aa30", func := "wimple/wimplelaw6.HeadForms", spec := "headForms", unfollowed := true, recurses := true, apart := false }
def HeadFormsSaid : Prop := headFormsRow.holds Try.pinned (OpenSpec.ofChange headFormsSpec)

/-- ITS FALSE NEIGHBOUR: 'it returns false'. Refute it at one input. -/
def headFormsWrong : ChangeSpec := { name := "headForms", fn := fun _ => fun
  | [d1, d2] => { results := [.lit (.bool false)], args := [d1, d2] }
  | _ => none }
def HeadFormsWrongFalsely : Prop := headFormsRow.holds Try.pinned (OpenSpec.ofChange headFormsWrong)

/-- 'wimplelaw8.Opts': WHATEVER THE INPUT: true; the input reads as it did. -/
def optsSpec : ChangeSpec := { name := "opts", fn := fun _ => fun
  | [d1, d2, d3] => { results := [.lit (.bool true)], args := [d1, d2, d3] }
  | _ => none }
def optsRow : OpenClaim := { program := "ytccnckppkkhoeaa", sum := "33fe9ce813a0150305e86979b05ecc820f73e31689e48654a668063a8bc1aa30", func := "wimple/wimplelaw8.Opts", spec := "opts", apart := false }
def OptsSaid : Prop := optsRow.holds Try.pinned (OpenSpec.ofChange optsSpec)

/-- ITS FALSE NEIGHBOUR: 'it returns false'. Refute it at one input. -/
def optsWrong : ChangeSpec := { name := "opts", fn := fun _ => fun
  | [d1, d2, d3] => { results := [.lit (.bool false)], args := [d1, d2, d3] }
  | _ => none }
def OptsWrongFalsely : Prop := optsRow.holds Try.pinned (OpenSpec.ofChange optsWrong)

/-- 'wimplelaw8.OptBack': WHATEVER THE INPUT: true; the input reads as it did. -/
def optBackSpec : ChangeSpec := { name := "optBack", fn := fun _ => fun
  | [d1, d2] => { results := [.lit (.bool true)], args := [d1, d2] }
  | _ => none }
def optBackRow : OpenClaim := { program := "ytccnckppkkhoeaa", sum := "33fe9ce813a0150305e86979b05ecc820f73e31689e48654a668063a8bc1aa30", func := "wimple/wimplelaw8.OptBack", spec := "optBack", apart := false }
def OptBackSaid : Prop := optBackRow.holds Try.pinned (OpenSpec.ofChange optBackSpec)

/-- ITS FALSE NEIGHBOUR: 'it returns false'. Refute it at one input. -/
def optBackWrong : ChangeSpec := { name := "optBack", fn := fun _ => fun
  | [d1, d2] => { results := [.lit (.bool false)], args := [d1, d2] }
  | _ => none }
def OptBackWrongFalsely : Prop := optBackRow.holds Try.pinned (OpenSpec.ofChange optBackWrong)

/-- 'wimplelaw8.OptForms': WHATEVER THE INPUT: true; the input reads as it did. -/
def optFormsSpec : ChangeSpec := { name := "optForms", fn := fun _ => fun
  | [d1, d2] => { results := [.lit (.bool true)], args := [d1, d2] }
  | _ => none }
def optFormsRow : OpenClaim := { program := "ytccnckppkkhoeaa", sum := "33fe9ce813a0150305e86979b05ecc820f73e31689e48654a668063a8bc1aa30", func := "wimple/wimplelaw8.OptForms", spec := "optForms", apart := false }
def OptFormsSaid : Prop := optFormsRow.holds Try.pinned (OpenSpec.ofChange optFormsSpec)

/-- ITS FALSE NEIGHBOUR: 'it returns false'. Refute it at one input. -/
def optFormsWrong : ChangeSpec := { name := "optForms", fn := fun _ => fun
  | [d1, d2] => { results := [.lit (.bool false)], args := [d1, d2] }
  | _ => none }
def OptFormsWrongFalsely : Prop := optFormsRow.holds Try.pinned (OpenSpec.ofChange optFormsWrong)

/-- 'wimplelaw8.OptCuts': WHATEVER THE INPUT: true; the input reads as it did. -/
def optCutsSpec : ChangeSpec := { name := "optCuts", fn := fun _ => fun
  | [d1, d2, d3] => { results := [.lit (.bool true)], args := [d1, d2, d3] }
  | _ => none }
def optCutsRow : OpenClaim := { program := "ytccnckppkkhoeaa", sum := "33fe9ce813a0150305e86979b05ecc820f73e31689e48654a668063a8bc1aa30", func := "wimple/wimplelaw8.OptCuts", spec := "optCuts", apart := false }
def OptCutsSaid : Prop := optCutsRow.holds Try.pinned (OpenSpec.ofChange optCutsSpec)

/-- ITS FALSE NEIGHBOUR: 'it returns false'. Refute it at one input. -/
def optCutsWrong : ChangeSpec := { name := "optCuts", fn := fun _ => fun
  | [d1, d2, d3] => { results := [.lit (.bool false)], args := [d1, d2, d3] }
  | _ => none }
def OptCutsWrongFalsely : Prop := optCutsRow.holds Try.pinned (OpenSpec.ofChange optCutsWrong)

/-- 'wimplelaw8.OptFinds': WHATEVER THE INPUT: true; the input reads as it did. -/
def optFindsSpec : ChangeSpec := { name := "optFinds", fn := fun _ => fun
  | [d1, d2, d3] => { results := [.lit (.bool true)], args := [d1, d2, d3] }
  | _ => none }
def optFindsRow : OpenClaim := { program := "ytccnckppkkhoeaa", sum := "33fe9ce813a0150305e86979b05ecc820f73e31689e48654a668063a8bc1aa30", func := "wimple/wimplelaw8.OptFinds", spec := "optFinds", apart := false }
def OptFindsSaid : Prop := optFindsRow.holds Try.pinned (OpenSpec.ofChange optFindsSpec)

/-- ITS FALSE NEIGHBOUR: 'it returns false'. Refute it at one input. -/
def optFindsWrong : ChangeSpec := { name := "optFinds", fn := fun _ => fun
  | [d1, d2, d3] => { results := [.lit (.bool false)], args := [d1, d2, d3] }
  | _ => none }
def OptFindsWrongFalsely : Prop := optFindsRow.holds Try.pinned (OpenSpec.ofChange optFindsWrong)

/- THE SECOND FORM. 'bulk': how many values and letters a reading holds, each counted each time it is reached (what is shared counts as often as it is met; a slice's spare places count too). A statement '..UptoSaid' is the law's where the arguments, and the package variables that the reading takes, are together of bulk at most 1048576: NARROWER than '..Said'. Prove '..Said' where nothing that the law and all that it calls make is longer than what came in: it says more and counts as full. Else prove '..UptoSaid'. A law counts once. -/
mutual
def uptoBulk {H : Type} : DataW H → Nat
  | .lit (.string bytes) => bytes.length + 1
  | .lit _ => 1
  | .nil => 1
  | .ptr d => uptoBulk d + 1
  | .slice elems spare => uptoBulkAll elems + uptoBulkAll spare + 1
  | .agg parts => uptoBulkAll parts + 1
  | .iface _ d => uptoBulk d + 1
  | .map entries => uptoBulkEntries entries + 1
  | .held _ => 1
def uptoBulkAll {H : Type} : List (DataW H) → Nat
  | [] => 0
  | d :: r => uptoBulk d + uptoBulkAll r
def uptoBulkEntries {H : Type} : List (Lit × DataW H) → Nat
  | [] => 0
  | x :: r => uptoBulkEntry x + uptoBulkEntries r
def uptoBulkEntry {H : Type} : Lit × DataW H → Nat
  | (.string bytes, d) => bytes.length + uptoBulk d + 1
  | (_, d) => uptoBulk d + 1
 end
def uptoSmall : (H : Type) → List (DataW H) → Bool := fun _ ds => decide (uptoBulkAll ds ≤ 1048576)
def OpenSpec.upto (s : _root_.Go.ChangeSpec) : _root_.Go.OpenSpec := { _root_.Go.OpenSpec.ofChange s with cond := some uptoSmall }

/-- 'wimplelaw3.Octets', WHERE WHAT IT READS IS OF BULK AT MOST 1048576: true; the input reads as it did. -/
def octetsUptoRow : OpenClaim := { program := "ytccnckppkkhoeaa", sum := "33fe9ce813a0150305e86979b05ecc820f73e31689e48654a668063a8bc1aa30", func := "wimple/wimplelaw3.Octets", spec := "octets", apart := false, narrowed := true }
def OctetsUptoSaid : Prop := octetsUptoRow.holds Try.pinned (OpenSpec.upto octetsSpec)

/-- 'wimplelaw3.OctetBack', WHERE WHAT IT READS IS OF BULK AT MOST 1048576: true; the input reads as it did. -/
def octetBackUptoRow : OpenClaim := { program := "ytccnckppkkhoeaa", sum := "33fe9ce813a0150305e86979b05ecc820f73e31689e48654a668063a8bc1aa30", func := "wimple/wimplelaw3.OctetBack", spec := "octetBack", apart := false, narrowed := true }
def OctetBackUptoSaid : Prop := octetBackUptoRow.holds Try.pinned (OpenSpec.upto octetBackSpec)

/-- 'wimplelaw3.OctetEnds', WHERE WHAT IT READS IS OF BULK AT MOST 1048576: true; the input reads as it did. -/
def octetEndsUptoRow : OpenClaim := { program := "ytccnckppkkhoeaa", sum := "33fe9ce813a0150305e86979b05ecc820f73e31689e48654a668063a8bc1aa30", func := "wimple/wimplelaw3.OctetEnds", spec := "octetEnds", apart := false, narrowed := true }
def OctetEndsUptoSaid : Prop := octetEndsUptoRow.holds Try.pinned (OpenSpec.upto octetEndsSpec)

/-- 'wimplelaw3.OctetRows', WHERE WHAT IT READS IS OF BULK AT MOST 1048576: true; the input reads as it did. -/
def octetRowsUptoRow : OpenClaim := { program := "ytccnckppkkhoeaa", sum := "33fe9ce813a0150305e86979b05ecc820f73e31689e48654a668063a8bc1aa30", func := "wimple/wimplelaw3.OctetRows", spec := "octetRows", apart := false, narrowed := true }
def OctetRowsUptoSaid : Prop := octetRowsUptoRow.holds Try.pinned (OpenSpec.upto octetRowsSpec)

/-- 'wimplelaw6.Heads', WHERE WHAT IT READS IS OF BULK AT MOST 1048576: true; the input reads as it did. -/
def headsUptoRow : OpenClaim := { program := "ytccnckppkkhoeaa", sum := "33fe9ce813a0150305e86979b05ecc820f73e31689e48654a668063a8bc1aa30", func := "wimple/wimplelaw6.Heads", spec := "heads", unfollowed := true, recurses := true, apart := false, narrowed := true }
def HeadsUptoSaid : Prop := headsUptoRow.holds Try.pinned (OpenSpec.upto headsSpec)

/-- 'wimplelaw6.HeadBack', WHERE WHAT IT READS IS OF BULK AT MOST 1048576: true; the input reads as it did. -/
def headBackUptoRow : OpenClaim := { program := "ytccnckppkkhoeaa", sum := "33fe9ce813a0150305e86979b05ecc820f73e31689e48654a668063a8bc1aa30", func := "wimple/wimplelaw6.HeadBack", spec := "headBack", unfollowed := true, recurses := true, apart := false, narrowed := true }
def HeadBackUptoSaid : Prop := headBackUptoRow.holds Try.pinned (OpenSpec.upto headBackSpec)

/-- 'wimplelaw6.HeadBits', WHERE WHAT IT READS IS OF BULK AT MOST 1048576: true; the input reads as it did. -/
def headBitsUptoRow : OpenClaim := { program := "ytccnckppkkhoeaa", sum := "33fe9ce813a0150305e86979b05ecc820f73e31689e48654a668063a8bc1aa30", func := "wimple/wimplelaw6.HeadBits", spec := "headBits", unfollowed := true, recurses := true, apart := false, narrowed := true }
def HeadBitsUptoSaid : Prop := headBitsUptoRow.holds Try.pinned (OpenSpec.upto headBitsSpec)

/-- 'wimplelaw6.HeadForms', WHERE WHAT IT READS IS OF BULK AT MOST 1048576: true; the input reads as it did. -/
def headFormsUptoRow : OpenClaim := { program := "ytccnckppkkhoeaa", sum := "33fe9ce813a0150305e86979b05ecc820f73e31689e48654a668063a8bc1aa30", func := "wimple/wimplelaw6.HeadForms", spec := "headForms", unfollowed := true, recurses := true, apart := false, narrowed := true }
def HeadFormsUptoSaid : Prop := headFormsUptoRow.holds Try.pinned (OpenSpec.upto headFormsSpec)

/-- 'wimplelaw8.Opts', WHERE WHAT IT READS IS OF BULK AT MOST 1048576: true; the input reads as it did. -/
def optsUptoRow : OpenClaim := { program := "ytccnckppkkhoeaa", sum := "33fe9ce813a0150305e86979b05ecc820f73e31689e48654a668063a8bc1aa30", func := "wimple/wimplelaw8.Opts", spec := "opts", apart := false, narrowed := true }
def OptsUptoSaid : Prop := optsUptoRow.holds Try.pinned (OpenSpec.upto optsSpec)

/-- 'wimplelaw8.OptBack', WHERE WHAT IT READS IS OF BULK AT MOST 1048576: true; the input reads as it did. -/
def optBackUptoRow : OpenClaim := { program := "ytccnckppkkhoeaa", sum := "33fe9ce813a0150305e86979b05ecc820f73e31689e48654a668063a8bc1aa30", func := "wimple/wimplelaw8.OptBack", spec := "optBack", apart := false, narrowed := true }
def OptBackUptoSaid : Prop := optBackUptoRow.holds Try.pinned (OpenSpec.upto optBackSpec)

/-- 'wimplelaw8.OptForms', WHERE WHAT IT READS IS OF BULK AT MOST 1048576: true; the input reads as it did. -/
def optFormsUptoRow : OpenClaim := { program := "ytccnckppkkhoeaa", sum := "33fe9ce813a0150305e86979b05ecc820f73e31689e48654a668063a8bc1aa30", func := "wimple/wimplelaw8.OptForms", spec := "optForms", apart := false, narrowed := true }
def OptFormsUptoSaid : Prop := optFormsUptoRow.holds Try.pinned (OpenSpec.upto optFormsSpec)

/-- 'wimplelaw8.OptCuts', WHERE WHAT IT READS IS OF BULK AT MOST 1048576: true; the input reads as it did. -/
def optCutsUptoRow : OpenClaim := { program := "ytccnckppkkhoeaa", sum := "33fe9ce813a0150305e86979b05ecc820f73e31689e48654a668063a8bc1aa30", func := "wimple/wimplelaw8.OptCuts", spec := "optCuts", apart := false, narrowed := true }
def OptCutsUptoSaid : Prop := optCutsUptoRow.holds Try.pinned (OpenSpec.upto optCutsSpec)

/-- 'wimplelaw8.OptFinds', WHERE WHAT IT READS IS OF BULK AT MOST 1048576: true; the input reads as it did. -/
def optFindsUptoRow : OpenClaim := { program := "ytccnckppkkhoeaa", sum := "33fe9ce813a0150305e86979b05ecc820f73e31689e48654a668063a8bc1aa30", func := "wimple/wimplelaw8.OptFinds", spec := "optFinds", apart := false, narrowed := true }
def OptFindsUptoSaid : Prop := optFindsUptoRow.holds Try.pinned (OpenSpec.upto optFindsSpec)

end Rows
end Go.Proofs.Ytccnckppkkhoeaa
