/-
  No cell of these rows narrows 'for every input' (looked for: loops, veiled, ifaces, maps, wideKeys, modest, calm, conditions, laid).
  DERIVED. THE GIVEN ROWS OF THIS SEAT. 10 by the template 'for every input the law returns true; each argument reads behind the call as it read before'; 0 by the template 'total and deterministic' (their statements: YtndcjleadggibaaTotals.lean).
  GIVEN WITH THE SEED: the statements are not yours to turn. If you find one false, say at which input.
  Laid BY PROGRAM, IN A SANDBOX (cutbox-rows.mjs): the forced cells as the released guide's own fill.sh prints them over the translation 5777d58d37a446dc… (all of the seat's roots in one cut). By AI agents, Wed Nov 11 2026. No macro, syntax, notation, axiom, sorry.
-/
import Derived.Test.YtndcjleadggibaaChecked
import GoSem.Claim
import GoSem.ClaimJoined
import GoSem.ClaimMapViews
import Derived.JoinedTies
import Derived.KernelRfl
namespace Go.Proofs.Ytndcjleadggibaa
/- THE CELL 'sum', in the pinned program and in every row, IS THE sha256 OF THE DUMP (.gsa) THAT YtndcjleadggibaaProg.lean LOADS. Nothing in Lean hashes anything: it is a label: what it is worth is what the hold of that sum in a sandbox is worth. -/
noncomputable def Try.pinned : Pinned := { name := "ytndcjleadggibaa", sum := "5777d58d37a446dcc1489c42fc41ffc43748c86ae21ff9df2deb0396904779c3", checked := Try.checked }
namespace Rows
def none {H : Type} : Left H := { results := [], args := [] }

/-- 'wimplelaw8.Opts': WHATEVER THE INPUT: true; the input reads as it did. -/
def optsSpec : ChangeSpec := { name := "opts", fn := fun _ => fun
  | [d1, d2, d3] => { results := [.lit (.bool true)], args := [d1, d2, d3] }
  | _ => none }
def optsRow : OpenClaim := { program := "ytndcjleadggibaa", sum := "5777d58d37a446dcc1489c42fc41ffc43748c86ae21ff9df2deb0396904779c3", func := "wimple/wimplelaw8.Opts", spec := "opts", apart := false }
def OptsSaid : Prop := optsRow.holds Try.pinned (OpenSpec.ofChange optsSpec)

/-- ITS FALSE NEIGHBOUR: 'it returns false'. Refute it at one input. -/
def optsWrong : ChangeSpec := { name := "opts", fn := fun _ => fun
  | [d1, d2, d3] => { results := [.lit (.bool false)], args := [d1, d2, d3] }
  | _ => none }
def OptsWrongFalsely : Prop := optsRow.holds Try.pinned (OpenSpec.ofChange optsWrong)

/-- 'wimplelaw8.OptBack': WHATEVER THE INPUT: true; the input reads as it did. -/
def optBackSpec : ChangeSpec := { name := "optBack", fn := fun _ => fun
  | [d1, d2] => { results := [.lit (.bool true)], args := [d1, d2] }
  | _ => none }
def optBackRow : OpenClaim := { program := "ytndcjleadggibaa", sum := "5777d58d37a446dcc1489c42fc41ffc43748c86ae21ff9df2deb0396904779c3", func := "wimple/wimplelaw8.OptBack", spec := "optBack", apart := false }
def OptBackSaid : Prop := optBackRow.holds Try.pinned (OpenSpec.ofChange optBackSpec)

/-- ITS FALSE NEIGHBOUR: 'it returns false'. Refute it at one input. -/
def optBackWrong : ChangeSpec := { name := "optBack", fn := fun _ => fun
  | [d1, d2] => { results := [.lit (.bool false)], args := [d1, d2] }
  | _ => none }
def OptBackWrongFalsely : Prop := optBackRow.holds Try.pinned (OpenSpec.ofChange optBackWrong)

/-- 'wimplelaw8.OptForms': WHATEVER THE INPUT: true; the input reads as it did. -/
def optFormsSpec : ChangeSpec := { name := "optForms", fn := fun _ => fun
  | [d1, d2] => { results := [.lit (.bool true)], args := [d1, d2] }
  | _ => none }
def optFormsRow : OpenClaim := { program := "ytndcjleadggibaa", sum := "5777d58d37a446dcc1489c42fc41ffc43748c86ae21ff9df2deb0396904779c3", func := "wimple/wimplelaw8.OptForms", spec := "optForms", apart := false }
def OptFormsSaid : Prop := optFormsRow.holds Try.pinned (OpenSpec.ofChange optFormsSpec)

/-- ITS FALSE NEIGHBOUR: 'it returns false'. Refute it at one input. -/
def optFormsWrong : ChangeSpec := { name := "optForms", fn := fun _ => fun
  | [d1, d2] => { results := [.lit (.bool false)], args := [d1, d2] }
  | _ => none }
def OptFormsWrongFalsely : Prop := optFormsRow.holds Try.pinned (OpenSpec.ofChange optFormsWrong)

/-- 'wimplelaw8.OptCuts': WHATEVER THE INPUT: true; the input reads as it did. -/
def optCutsSpec : ChangeSpec := { name := "optCuts", fn := fun _ => fun
  | [d1, d2, d3] => { results := [.lit (.bool true)], args := [d1, d2, d3] }
  | _ => none }
def optCutsRow : OpenClaim := { program := "ytndcjleadggibaa", sum := "5777d58d37a446dcc1489c42fc41ffc43748c86ae21ff9df2deb0396904779c3", func := "wimple/wimplelaw8.OptCuts", spec := "optCuts", apart := false }
def OptCutsSaid : Prop := optCutsRow.holds Try.pinned (OpenSpec.ofChange optCutsSpec)

/-- ITS FALSE NEIGHBOUR: 'it returns false'. Refute it at one input. -/
def optCutsWrong : ChangeSpec := { name := "optCuts", fn := fun _ => fun
  | [d1, d2, d3] => { results := [.lit (.bool false)], args := [d1, d2, d3] }
  | _ => none }
def OptCutsWrongFalsely : Prop := optCutsRow.holds Try.pinned (OpenSpec.ofChange optCutsWrong)

/-- 'wimplelaw8.OptFinds': WHATEVER THE INPUT: true; the input reads as it did. -/
def optFindsSpec : ChangeSpec := { name := "optFinds", fn := fun _ => fun
  | [d1, d2, d3] => { results := [.lit (.bool true)], args := [d1, d2, d3] }
  | _ => none }
def optFindsRow : OpenClaim := { program := "ytndcjleadggibaa", sum := "5777d58d37a446dcc1489c42fc41ffc43748c86ae21ff9df2deb0396904779c3", func := "wimple/wimplelaw8.OptFinds", spec := "optFinds", apart := false }
def OptFindsSaid : Prop := optFindsRow.holds Try.pinned (OpenSpec.ofChange optFindsSpec)

/-- ITS FALSE NEIGHBOUR: 'it returns false'. Refute it at one input. -/
def optFindsWrong : ChangeSpec := { name := "optFinds", fn := fun _ => fun
  | [d1, d2, d3] => { results := [.lit (.bool false)], args := [d1, d2, d3] }
  | _ => none }
def OptFindsWrongFalsely : Prop := optFindsRow.holds Try.pinned (OpenSpec.ofChange optFindsWrong)

/-- 'wimplelaw4.Rdatas': WHATEVER THE INPUT: true; the input reads as it did. -/
def rdatasSpec : ChangeSpec := { name := "rdatas", fn := fun _ => fun
  | [d1, d2, d3, d4, d5, d6] => { results := [.lit (.bool true)], args := [d1, d2, d3, d4, d5, d6] }
  | _ => none }
def rdatasRow : OpenClaim := { program := "ytndcjleadggibaa", sum := "5777d58d37a446dcc1489c42fc41ffc43748c86ae21ff9df2deb0396904779c3", func := "wimple/wimplelaw4.Rdatas", spec := "rdatas", apart := false }
def RdatasSaid : Prop := rdatasRow.holds Try.pinned (OpenSpec.ofChange rdatasSpec)

/-- ITS FALSE NEIGHBOUR: 'it returns false'. Refute it at one input. -/
def rdatasWrong : ChangeSpec := { name := "rdatas", fn := fun _ => fun
  | [d1, d2, d3, d4, d5, d6] => { results := [.lit (.bool false)], args := [d1, d2, d3, d4, d5, d6] }
  | _ => none }
def RdatasWrongFalsely : Prop := rdatasRow.holds Try.pinned (OpenSpec.ofChange rdatasWrong)

/-- 'wimplelaw4.RdataBack': WHATEVER THE INPUT: true; the input reads as it did. -/
def rdataBackSpec : ChangeSpec := { name := "rdataBack", fn := fun _ => fun
  | [d1, d2, d3, d4] => { results := [.lit (.bool true)], args := [d1, d2, d3, d4] }
  | _ => none }
def rdataBackRow : OpenClaim := { program := "ytndcjleadggibaa", sum := "5777d58d37a446dcc1489c42fc41ffc43748c86ae21ff9df2deb0396904779c3", func := "wimple/wimplelaw4.RdataBack", spec := "rdataBack", apart := false }
def RdataBackSaid : Prop := rdataBackRow.holds Try.pinned (OpenSpec.ofChange rdataBackSpec)

/-- ITS FALSE NEIGHBOUR: 'it returns false'. Refute it at one input. -/
def rdataBackWrong : ChangeSpec := { name := "rdataBack", fn := fun _ => fun
  | [d1, d2, d3, d4] => { results := [.lit (.bool false)], args := [d1, d2, d3, d4] }
  | _ => none }
def RdataBackWrongFalsely : Prop := rdataBackRow.holds Try.pinned (OpenSpec.ofChange rdataBackWrong)

/-- 'wimplelaw4.RdataForms': WHATEVER THE INPUT: true; the input reads as it did. -/
def rdataFormsSpec : ChangeSpec := { name := "rdataForms", fn := fun _ => fun
  | [d1, d2, d3] => { results := [.lit (.bool true)], args := [d1, d2, d3] }
  | _ => none }
def rdataFormsRow : OpenClaim := { program := "ytndcjleadggibaa", sum := "5777d58d37a446dcc1489c42fc41ffc43748c86ae21ff9df2deb0396904779c3", func := "wimple/wimplelaw4.RdataForms", spec := "rdataForms", apart := false }
def RdataFormsSaid : Prop := rdataFormsRow.holds Try.pinned (OpenSpec.ofChange rdataFormsSpec)

/-- ITS FALSE NEIGHBOUR: 'it returns false'. Refute it at one input. -/
def rdataFormsWrong : ChangeSpec := { name := "rdataForms", fn := fun _ => fun
  | [d1, d2, d3] => { results := [.lit (.bool false)], args := [d1, d2, d3] }
  | _ => none }
def RdataFormsWrongFalsely : Prop := rdataFormsRow.holds Try.pinned (OpenSpec.ofChange rdataFormsWrong)

/-- 'wimplelaw4.RdataTxts': WHATEVER THE INPUT: true; the input reads as it did. -/
def rdataTxtsSpec : ChangeSpec := { name := "rdataTxts", fn := fun _ => fun
  | [d1, d2] => { results := [.lit (.bool true)], args := [d1, d2] }
  | _ => none }
def rdataTxtsRow : OpenClaim := { program := "ytndcjleadggibaa", sum := "5777d58d37a446dcc1489c42fc41ffc43748c86ae21ff9df2deb0396904779c3", func := "wimple/wimplelaw4.RdataTxts", spec := "rdataTxts", apart := false }
def RdataTxtsSaid : Prop := rdataTxtsRow.holds Try.pinned (OpenSpec.ofChange rdataTxtsSpec)

/-- ITS FALSE NEIGHBOUR: 'it returns false'. Refute it at one input. -/
def rdataTxtsWrong : ChangeSpec := { name := "rdataTxts", fn := fun _ => fun
  | [d1, d2] => { results := [.lit (.bool false)], args := [d1, d2] }
  | _ => none }
def RdataTxtsWrongFalsely : Prop := rdataTxtsRow.holds Try.pinned (OpenSpec.ofChange rdataTxtsWrong)

/-- 'wimplelaw4.RdataNumbers': WHATEVER THE INPUT: true; the input reads as it did. -/
def rdataNumbersSpec : ChangeSpec := { name := "rdataNumbers", fn := fun _ => fun
  | [d1, d2] => { results := [.lit (.bool true)], args := [d1, d2] }
  | _ => none }
def rdataNumbersRow : OpenClaim := { program := "ytndcjleadggibaa", sum := "5777d58d37a446dcc1489c42fc41ffc43748c86ae21ff9df2deb0396904779c3", func := "wimple/wimplelaw4.RdataNumbers", spec := "rdataNumbers", apart := false }
def RdataNumbersSaid : Prop := rdataNumbersRow.holds Try.pinned (OpenSpec.ofChange rdataNumbersSpec)

/-- ITS FALSE NEIGHBOUR: 'it returns false'. Refute it at one input. -/
def rdataNumbersWrong : ChangeSpec := { name := "rdataNumbers", fn := fun _ => fun
  | [d1, d2] => { results := [.lit (.bool false)], args := [d1, d2] }
  | _ => none }
def RdataNumbersWrongFalsely : Prop := rdataNumbersRow.holds Try.pinned (OpenSpec.ofChange rdataNumbersWrong)

/- THE SECOND FORM. 'bulk': how many values and letters a reading holds, each counted each time it is reached (what is shared counts as often as it is met; a slice's spare places count too). A statement '..UptoSaid' is the law's where the arguments, and the package variables that the reading takes, are together of bulk at most 1048576: NARROWER than '..Said'. Prove '..Said' where nothing that the law and all that it calls make is longer than what came in: it says more and counts as full. Else prove '..UptoSaid'. A law counts once. -/
mutual
def uptoBulk {H : Type} : DataW H → Nat
  | .lit (.string bytes) => bytes.length + 1
  | .lit _ => 1
  | .nil => 1
  | .ptr d => uptoBulk d + 1
  | .slice elems spare => uptoBulkAll elems + uptoBulkAll spare + 1
  | .agg parts => uptoBulkAll parts + 1
  | .iface _ d => uptoBulk d + 1
  | .map entries => uptoBulkEntries entries + 1
  | .held _ => 1
def uptoBulkAll {H : Type} : List (DataW H) → Nat
  | [] => 0
  | d :: r => uptoBulk d + uptoBulkAll r
def uptoBulkEntries {H : Type} : List (Lit × DataW H) → Nat
  | [] => 0
  | x :: r => uptoBulkEntry x + uptoBulkEntries r
def uptoBulkEntry {H : Type} : Lit × DataW H → Nat
  | (.string bytes, d) => bytes.length + uptoBulk d + 1
  | (_, d) => uptoBulk d + 1
 end
def uptoSmall : (H : Type) → List (DataW H) → Bool := fun _ ds => decide (uptoBulkAll ds ≤ 1048576)
def OpenSpec.upto (s : _root_.Go.ChangeSpec) : _root_.Go.OpenSpec := { _root_.Go.OpenSpec.ofChange s with cond := some uptoSmall }

/-- 'wimplelaw8.Opts', WHERE WHAT IT READS IS OF BULK AT MOST 1048576: true; the input reads as it did. -/
def optsUptoRow : OpenClaim := { program := "ytndcjleadggibaa", sum := "5777d58d37a446dcc1489c42fc41ffc43748c86ae21ff9df2deb0396904779c3", func := "wimple/wimplelaw8.Opts", spec := "opts", apart := false, narrowed := true }
def OptsUptoSaid : Prop := optsUptoRow.holds Try.pinned (OpenSpec.upto optsSpec)

/-- 'wimplelaw8.OptBack', WHERE WHAT IT READS IS OF BULK AT MOST 1048576: true; the input reads as it did. -/
def optBackUptoRow : OpenClaim := { program := "ytndcjleadggibaa", sum := "5777d58d37a446dcc1489c42fc41ffc43748c86ae21ff9df2deb0396904779c3", func := "wimple/wimplelaw8.OptBack", spec := "optBack", apart := false, narrowed := true }
def OptBackUptoSaid : Prop := optBackUptoRow.holds Try.pinned (OpenSpec.upto optBackSpec)

/-- 'wimplelaw8.OptForms', WHERE WHAT IT READS IS OF BULK AT MOST 1048576: true; the input reads as it did. -/
def optFormsUptoRow : OpenClaim := { program := "ytndcjleadggibaa", sum := "5777d58d37a446dcc1489c42fc41ffc43748c86ae21ff9df2deb0396904779c3", func := "wimple/wimplelaw8.OptForms", spec := "optForms", apart := false, narrowed := true }
def OptFormsUptoSaid : Prop := optFormsUptoRow.holds Try.pinned (OpenSpec.upto optFormsSpec)

/-- 'wimplelaw8.OptCuts', WHERE WHAT IT READS IS OF BULK AT MOST 1048576: true; the input reads as it did. -/
def optCutsUptoRow : OpenClaim := { program := "ytndcjleadggibaa", sum := "5777d58d37a446dcc1489c42fc41ffc43748c86ae21ff9df2deb0396904779c3", func := "wimple/wimplelaw8.OptCuts", spec := "optCuts", apart := false, narrowed := true }
def OptCutsUptoSaid : Prop := optCutsUptoRow.holds Try.pinned (OpenSpec.upto optCutsSpec)

/-- 'wimplelaw8.OptFinds', WHERE WHAT IT READS IS OF BULK AT MOST 1048576: true; the input reads as it did. -/
def optFindsUptoRow : OpenClaim := { program := "ytndcjleadggibaa", sum := "5777d58d37a446dcc1489c42fc41ffc43748c86ae21ff9df2deb0396904779c3", func := "wimple/wimplelaw8.OptFinds", spec := "optFinds", apart := false, narrowed := true }
def OptFindsUptoSaid : Prop := optFindsUptoRow.holds Try.pinned (OpenSpec.upto optFindsSpec)

/-- 'wimplelaw4.Rdatas', WHERE WHAT IT READS IS OF BULK AT MOST 1048576: true; the input reads as it did. -/
def rdatasUptoRow : OpenClaim := { program := "ytndcjleadggibaa", sum := "5777d58d37a446dcc1489c42fc41ffc43748c86ae21ff9df2deb0396904779c3", func := "wimple/wimplelaw4.Rdatas", spec := "rdatas", apart := false, narrowed := true }
def RdatasUptoSaid : Prop := rdatasUptoRow.holds Try.pinned (OpenSpec.upto rdatasSpec)

/-- 'wimplelaw4.RdataBack', WHERE WHAT IT READS IS OF BULK AT MOST 1048576: true; the input reads as it did. -/
def rdataBackUptoRow : OpenClaim := { program := "ytndcjleadggibaa", sum := "5777d58d37a446dcc1489c42fc41ffc43748c86ae21ff9df2deb0396904779c3", func := "wimple/wimplelaw4.RdataBack", spec := "rdataBack", apart := false, narrowed := true }
def RdataBackUptoSaid : Prop := rdataBackUptoRow.holds Try.pinned (OpenSpec.upto rdataBackSpec)

/-- 'wimplelaw4.RdataForms', WHERE WHAT IT READS IS OF BULK AT MOST 1048576: true; the input reads as it did. -/
def rdataFormsUptoRow : OpenClaim := { program := "ytndcjleadggibaa", sum := "5777d58d37a446dcc1489c42fc41ffc43748c86ae21ff9df2deb0396904779c3", func := "wimple/wimplelaw4.RdataForms", spec := "rdataForms", apart := false, narrowed := true }
def RdataFormsUptoSaid : Prop := rdataFormsUptoRow.holds Try.pinned (OpenSpec.upto rdataFormsSpec)

/-- 'wimplelaw4.RdataTxts', WHERE WHAT IT READS IS OF BULK AT MOST 1048576: true; the input reads as it did. -/
def rdataTxtsUptoRow : OpenClaim := { program := "ytndcjleadggibaa", sum := "5777d58d37a446dcc1489c42fc41ffc43748c86ae21ff9df2deb0396904779c3", func := "wimple/wimplelaw4.RdataTxts", spec := "rdataTxts", apart := false, narrowed := true }
def RdataTxtsUptoSaid : Prop := rdataTxtsUptoRow.holds Try.pinned (OpenSpec.upto rdataTxtsSpec)

/-- 'wimplelaw4.RdataNumbers', WHERE WHAT IT READS IS OF BULK AT MOST 1048576: true; the input reads as it did. -/
def rdataNumbersUptoRow : OpenClaim := { program := "ytndcjleadggibaa", sum := "5777d58d37a446dcc1489c42fc41ffc43748c86ae21ff9df2deb0396904779c3", func := "wimple/wimplelaw4.RdataNumbers", spec := "rdataNumbers", apart := false, narrowed := true }
def RdataNumbersUptoSaid : Prop := rdataNumbersUptoRow.holds Try.pinned (OpenSpec.upto rdataNumbersSpec)

end Rows
end Go.Proofs.Ytndcjleadggibaa
