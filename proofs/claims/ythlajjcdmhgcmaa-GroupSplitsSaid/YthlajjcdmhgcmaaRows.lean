/-
  No cell of these rows narrows 'for every input' (looked for: loops, veiled, ifaces, maps, wideKeys, modest, calm, conditions, laid).
  DERIVED. THE GIVEN ROWS OF THIS SEAT. 6 by the template 'for every input the law returns true; each argument reads behind the call as it read before'; 0 by the template 'total and deterministic' (their statements: YthlajjcdmhgcmaaTotals.lean).
  GIVEN WITH THE SEED: the statements are not yours to turn. If you find one false, say at which input.
  Laid BY PROGRAM, IN A SANDBOX (cutbox-rows.mjs): the forced cells as the released guide's own fill.sh prints them over the translation 68e2c99802f95397… (all of the seat's roots in one cut). By AI agents, Wed Nov 11 2026. No macro, syntax, notation, axiom, sorry.
-/
import Derived.Test.YthlajjcdmhgcmaaChecked
import GoSem.Claim
import GoSem.ClaimJoined
import GoSem.ClaimMapViews
import Derived.JoinedTies
import Derived.KernelRfl
namespace Go.Proofs.Ythlajjcdmhgcmaa
/- THE CELL 'sum', in the pinned program and in every row, IS THE sha256 OF THE DUMP (.gsa) THAT YthlajjcdmhgcmaaProg.lean LOADS. Nothing in Lean hashes anything: it is a label: what it is worth is what the hold of that sum in a sandbox is worth. -/
noncomputable def Try.pinned : Pinned := { name := "ythlajjcdmhgcmaa", sum := "68e2c99802f95397ce003c6a52484aec5c3cdaec39294e511c9c11e8b6dbfa94", checked := Try.checked }
namespace Rows
def none {H : Type} : Left H := { results := [], args := [] }

/-- 'wimplelaw11.Groups': WHATEVER THE INPUT: true; the input reads as it did. -/
def groupsSpec : ChangeSpec := { name := "groups", fn := fun _ => fun
  | [d1, d2] => { results := [.lit (.bool true)], args := [d1, d2] }
  | _ => none }
def groupsRow : OpenClaim := { program := "ythlajjcdmhgcmaa", sum := "68e2c99802f95397ce003c6a52484aec5c3cdaec39294e511c9c11e8b6dbfa94", func := "wimple/wimplelaw11.Groups", spec := "groups", inPlace := ["internal/abi.NoEscape"], recurses := true, plainKeys := false, apart := false }
def GroupsSaid : Prop := groupsRow.holds Try.pinned (OpenSpec.ofChange groupsSpec)

/-- ITS FALSE NEIGHBOUR: 'it returns false'. Refute it at one input. -/
def groupsWrong : ChangeSpec := { name := "groups", fn := fun _ => fun
  | [d1, d2] => { results := [.lit (.bool false)], args := [d1, d2] }
  | _ => none }
def GroupsWrongFalsely : Prop := groupsRow.holds Try.pinned (OpenSpec.ofChange groupsWrong)

/-- 'wimplelaw11.GroupRows': WHATEVER THE INPUT: true; the input reads as it did. -/
def groupRowsSpec : ChangeSpec := { name := "groupRows", fn := fun _ => fun
  | [d] => { results := [.lit (.bool true)], args := [d] }
  | _ => none }
def groupRowsRow : OpenClaim := { program := "ythlajjcdmhgcmaa", sum := "68e2c99802f95397ce003c6a52484aec5c3cdaec39294e511c9c11e8b6dbfa94", func := "wimple/wimplelaw11.GroupRows", spec := "groupRows", inPlace := ["internal/abi.NoEscape"], recurses := true, plainKeys := false, apart := false }
def GroupRowsSaid : Prop := groupRowsRow.holds Try.pinned (OpenSpec.ofChange groupRowsSpec)

/-- ITS FALSE NEIGHBOUR: 'it returns false'. Refute it at one input. -/
def groupRowsWrong : ChangeSpec := { name := "groupRows", fn := fun _ => fun
  | [d] => { results := [.lit (.bool false)], args := [d] }
  | _ => none }
def GroupRowsWrongFalsely : Prop := groupRowsRow.holds Try.pinned (OpenSpec.ofChange groupRowsWrong)

/-- 'wimplelaw11.GroupBack': WHATEVER THE INPUT: true; the input reads as it did. -/
def groupBackSpec : ChangeSpec := { name := "groupBack", fn := fun _ => fun
  | [d] => { results := [.lit (.bool true)], args := [d] }
  | _ => none }
def groupBackRow : OpenClaim := { program := "ythlajjcdmhgcmaa", sum := "68e2c99802f95397ce003c6a52484aec5c3cdaec39294e511c9c11e8b6dbfa94", func := "wimple/wimplelaw11.GroupBack", spec := "groupBack", inPlace := ["internal/abi.NoEscape"], recurses := true, plainKeys := false, apart := false }
def GroupBackSaid : Prop := groupBackRow.holds Try.pinned (OpenSpec.ofChange groupBackSpec)

/-- ITS FALSE NEIGHBOUR: 'it returns false'. Refute it at one input. -/
def groupBackWrong : ChangeSpec := { name := "groupBack", fn := fun _ => fun
  | [d] => { results := [.lit (.bool false)], args := [d] }
  | _ => none }
def GroupBackWrongFalsely : Prop := groupBackRow.holds Try.pinned (OpenSpec.ofChange groupBackWrong)

/-- 'wimplelaw11.GroupForms': WHATEVER THE INPUT: true; the input reads as it did. -/
def groupFormsSpec : ChangeSpec := { name := "groupForms", fn := fun _ => fun
  | [d1, d2] => { results := [.lit (.bool true)], args := [d1, d2] }
  | _ => none }
def groupFormsRow : OpenClaim := { program := "ythlajjcdmhgcmaa", sum := "68e2c99802f95397ce003c6a52484aec5c3cdaec39294e511c9c11e8b6dbfa94", func := "wimple/wimplelaw11.GroupForms", spec := "groupForms", inPlace := ["internal/abi.NoEscape"], recurses := true, plainKeys := false, apart := false }
def GroupFormsSaid : Prop := groupFormsRow.holds Try.pinned (OpenSpec.ofChange groupFormsSpec)

/-- ITS FALSE NEIGHBOUR: 'it returns false'. Refute it at one input. -/
def groupFormsWrong : ChangeSpec := { name := "groupForms", fn := fun _ => fun
  | [d1, d2] => { results := [.lit (.bool false)], args := [d1, d2] }
  | _ => none }
def GroupFormsWrongFalsely : Prop := groupFormsRow.holds Try.pinned (OpenSpec.ofChange groupFormsWrong)

/-- 'wimplelaw11.GroupSplits': WHATEVER THE INPUT: true; the input reads as it did. -/
def groupSplitsSpec : ChangeSpec := { name := "groupSplits", fn := fun _ => fun
  | [d] => { results := [.lit (.bool true)], args := [d] }
  | _ => none }
def groupSplitsRow : OpenClaim := { program := "ythlajjcdmhgcmaa", sum := "68e2c99802f95397ce003c6a52484aec5c3cdaec39294e511c9c11e8b6dbfa94", func := "wimple/wimplelaw11.GroupSplits", spec := "groupSplits", inPlace := ["internal/abi.NoEscape"], recurses := true, plainKeys := false, apart := false }
def GroupSplitsSaid : Prop := groupSplitsRow.holds Try.pinned (OpenSpec.ofChange groupSplitsSpec)

/-- ITS FALSE NEIGHBOUR: 'it returns false'. Refute it at one input. -/
def groupSplitsWrong : ChangeSpec := { name := "groupSplits", fn := fun _ => fun
  | [d] => { results := [.lit (.bool false)], args := [d] }
  | _ => none }
def GroupSplitsWrongFalsely : Prop := groupSplitsRow.holds Try.pinned (OpenSpec.ofChange groupSplitsWrong)

/-- 'wimplelaw11.GroupTtls': WHATEVER THE INPUT: true; the input reads as it did. -/
def groupTtlsSpec : ChangeSpec := { name := "groupTtls", fn := fun _ => fun
  | [d] => { results := [.lit (.bool true)], args := [d] }
  | _ => none }
def groupTtlsRow : OpenClaim := { program := "ythlajjcdmhgcmaa", sum := "68e2c99802f95397ce003c6a52484aec5c3cdaec39294e511c9c11e8b6dbfa94", func := "wimple/wimplelaw11.GroupTtls", spec := "groupTtls", inPlace := ["internal/abi.NoEscape"], recurses := true, plainKeys := false, apart := false }
def GroupTtlsSaid : Prop := groupTtlsRow.holds Try.pinned (OpenSpec.ofChange groupTtlsSpec)

/-- ITS FALSE NEIGHBOUR: 'it returns false'. Refute it at one input. -/
def groupTtlsWrong : ChangeSpec := { name := "groupTtls", fn := fun _ => fun
  | [d] => { results := [.lit (.bool false)], args := [d] }
  | _ => none }
def GroupTtlsWrongFalsely : Prop := groupTtlsRow.holds Try.pinned (OpenSpec.ofChange groupTtlsWrong)

/- THE SECOND FORM. 'bulk': how many values and letters a reading holds, each counted each time it is reached (what is shared counts as often as it is met; a slice's spare places count too). A statement '..UptoSaid' is the law's where the arguments, and the package variables that the reading takes, are together of bulk at most 1048576: NARROWER than '..Said'. Prove '..Said' where nothing that the law and all that it calls make is longer than what came in: it says more and counts as full. Else prove '..UptoSaid'. A law counts once. -/
mutual
def uptoBulk {H : Type} : DataW H → Nat
  | .lit (.string bytes) => bytes.length + 1
  | .lit _ => 1
  | .nil => 1
  | .ptr d => uptoBulk d + 1
  | .slice elems spare => uptoBulkAll elems + uptoBulkAll spare + 1
  | .agg parts => uptoBulkAll parts + 1
  | .iface _ d => uptoBulk d + 1
  | .map entries => uptoBulkEntries entries + 1
  | .held _ => 1
def uptoBulkAll {H : Type} : List (DataW H) → Nat
  | [] => 0
  | d :: r => uptoBulk d + uptoBulkAll r
def uptoBulkEntries {H : Type} : List (Lit × DataW H) → Nat
  | [] => 0
  | x :: r => uptoBulkEntry x + uptoBulkEntries r
def uptoBulkEntry {H : Type} : Lit × DataW H → Nat
  | (.string bytes, d) => bytes.length + uptoBulk d + 1
  | (_, d) => uptoBulk d + 1
 end
def uptoSmall : (H : Type) → List (DataW H) → Bool := fun _ ds => decide (uptoBulkAll ds ≤ 1048576)
def OpenSpec.upto (s : _root_.Go.ChangeSpec) : _root_.Go.OpenSpec := { _root_.Go.OpenSpec.ofChange s with cond := some uptoSmall }

/-- 'wimplelaw11.Groups', WHERE WHAT IT READS IS OF BULK AT MOST 1048576: true; the input reads as it did. -/
def groupsUptoRow : OpenClaim := { program := "ythlajjcdmhgcmaa", sum := "68e2c99802f95397ce003c6a52484aec5c3cdaec39294e511c9c11e8b6dbfa94", func := "wimple/wimplelaw11.Groups", spec := "groups", inPlace := ["internal/abi.NoEscape"], recurses := true, plainKeys := false, apart := false, narrowed := true }
def GroupsUptoSaid : Prop := groupsUptoRow.holds Try.pinned (OpenSpec.upto groupsSpec)

/-- 'wimplelaw11.GroupRows', WHERE WHAT IT READS IS OF BULK AT MOST 1048576: true; the input reads as it did. -/
def groupRowsUptoRow : OpenClaim := { program := "ythlajjcdmhgcmaa", sum := "68e2c99802f95397ce003c6a52484aec5c3cdaec39294e511c9c11e8b6dbfa94", func := "wimple/wimplelaw11.GroupRows", spec := "groupRows", inPlace := ["internal/abi.NoEscape"], recurses := true, plainKeys := false, apart := false, narrowed := true }
def GroupRowsUptoSaid : Prop := groupRowsUptoRow.holds Try.pinned (OpenSpec.upto groupRowsSpec)

/-- 'wimplelaw11.GroupBack', WHERE WHAT IT READS IS OF BULK AT MOST 1048576: true; the input reads as it did. -/
def groupBackUptoRow : OpenClaim := { program := "ythlajjcdmhgcmaa", sum := "68e2c99802f95397ce003c6a52484aec5c3cdaec39294e511c9c11e8b6dbfa94", func := "wimple/wimplelaw11.GroupBack", spec := "groupBack", inPlace := ["internal/abi.NoEscape"], recurses := true, plainKeys := false, apart := false, narrowed := true }
def GroupBackUptoSaid : Prop := groupBackUptoRow.holds Try.pinned (OpenSpec.upto groupBackSpec)

/-- 'wimplelaw11.GroupForms', WHERE WHAT IT READS IS OF BULK AT MOST 1048576: true; the input reads as it did. -/
def groupFormsUptoRow : OpenClaim := { program := "ythlajjcdmhgcmaa", sum := "68e2c99802f95397ce003c6a52484aec5c3cdaec39294e511c9c11e8b6dbfa94", func := "wimple/wimplelaw11.GroupForms", spec := "groupForms", inPlace := ["internal/abi.NoEscape"], recurses := true, plainKeys := false, apart := false, narrowed := true }
def GroupFormsUptoSaid : Prop := groupFormsUptoRow.holds Try.pinned (OpenSpec.upto groupFormsSpec)

/-- 'wimplelaw11.GroupSplits', WHERE WHAT IT READS IS OF BULK AT MOST 1048576: true; the input reads as it did. -/
def groupSplitsUptoRow : OpenClaim := { program := "ythlajjcdmhgcmaa", sum := "68e2c99802f95397ce003c6a52484aec5c3cdaec39294e511c9c11e8b6dbfa94", func := "wimple/wimplelaw11.GroupSplits", spec := "groupSplits", inPlace := ["internal/abi.NoEscape"], recurses := true, plainKeys := false, apart := false, narrowed := true }
def GroupSplitsUptoSaid : Prop := groupSplitsUptoRow.holds Try.pinned (OpenSpec.upto groupSplitsSpec)

/-- 'wimplelaw11.GroupTtls', WHERE WHAT IT READS IS OF BULK AT MOST 1048576: true; the input reads as it did. -/
def groupTtlsUptoRow : OpenClaim := { program := "ythlajjcdmhgcmaa", sum := "68e2c99802f95397ce003c6a52484aec5c3cdaec39294e511c9c11e8b6dbfa94", func := "wimple/wimplelaw11.GroupTtls", spec := "groupTtls", inPlace := ["internal/abi.NoEscape"], recurses := true, plainKeys := false, apart := false, narrowed := true }
def GroupTtlsUptoSaid : Prop := groupTtlsUptoRow.holds Try.pinned (OpenSpec.upto groupTtlsSpec)

end Rows
end Go.Proofs.Ythlajjcdmhgcmaa
