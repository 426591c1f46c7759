/-
  No cell of these rows narrows 'for every input' (looked for: loops, veiled, ifaces, maps, wideKeys, modest, calm, conditions, laid).
  DERIVED. THE GIVEN ROWS OF THIS SEAT. 9 by the template 'for every input the law returns true; each argument reads behind the call as it read before'; 0 by the template 'total and deterministic' (their statements: YtepglkgpgoifkaaTotals.lean).
  GIVEN WITH THE SEED: the statements are not yours to turn. If you find one false, say at which input.
  Laid BY PROGRAM, IN A SANDBOX (cutbox-rows.mjs): the forced cells as the released guide's own fill.sh prints them over the translation cdf93a0578926c97… (all of the seat's roots in one cut). By AI agents, Wed Nov 11 2026. No macro, syntax, notation, axiom, sorry.
-/
import Derived.Test.YtepglkgpgoifkaaChecked
import GoSem.Claim
import GoSem.ClaimJoined
import GoSem.ClaimMapViews
import Derived.JoinedTies
import Derived.KernelRfl
namespace Go.Proofs.Ytepglkgpgoifkaa
/- THE CELL 'sum', in the pinned program and in every row, IS THE sha256 OF THE DUMP (.gsa) THAT YtepglkgpgoifkaaProg.lean LOADS. Nothing in Lean hashes anything: it is a label: what it is worth is what the hold of that sum in a sandbox is worth. -/
noncomputable def Try.pinned : Pinned := { name := "ytepglkgpgoifkaa", sum := "cdf93a0578926c97b57f7275ed60b71bfdde5e0d3ea20194d0a6b54c418394a6", checked := Try.checked }
namespace Rows
def none {H : Type} : Left H := { results := [], args := [] }

/-- 'wimplelaw5.CompWrites': WHATEVER THE INPUT: true; the input reads as it did. -/
def compWritesSpec : ChangeSpec := { name := "compWrites", fn := fun _ => fun
  | [d1, d2] => { results := [.lit (.bool true)], args := [d1, d2] }
  | _ => none }
def compWritesRow : OpenClaim := { program := "ytepglkgpgoifkaa", sum := "cdf93a0578926c97b57f7275ed60b71bfdde5e0d3ea20194d0a6b54c418394a6", func := "wimple/wimplelaw5.CompWrites", spec := "compWrites", apart := false }
def CompWritesSaid : Prop := compWritesRow.holds Try.pinned (OpenSpec.ofChange compWritesSpec)

/-- ITS FALSE NEIGHBOUR: 'it returns false'. Refute it at one input. -/
def compWritesWrong : ChangeSpec := { name := "compWrites", fn := fun _ => fun
  | [d1, d2] => { results := [.lit (.bool false)], args := [d1, d2] }
  | _ => none }
def CompWritesWrongFalsely : Prop := compWritesRow.holds Try.pinned (OpenSpec.ofChange compWritesWrong)

/-- 'wimplelaw5.CompBack': WHATEVER THE INPUT: true; the input reads as it did. -/
def compBackSpec : ChangeSpec := { name := "compBack", fn := fun _ => fun
  | [d1, d2] => { results := [.lit (.bool true)], args := [d1, d2] }
  | _ => none }
def compBackRow : OpenClaim := { program := "ytepglkgpgoifkaa", sum := "cdf93a0578926c97b57f7275ed60b71bfdde5e0d3ea20194d0a6b54c418394a6", func := "wimple/wimplelaw5.CompBack", spec := "compBack", apart := false }
def CompBackSaid : Prop := compBackRow.holds Try.pinned (OpenSpec.ofChange compBackSpec)

/-- ITS FALSE NEIGHBOUR: 'it returns false'. Refute it at one input. -/
def compBackWrong : ChangeSpec := { name := "compBack", fn := fun _ => fun
  | [d1, d2] => { results := [.lit (.bool false)], args := [d1, d2] }
  | _ => none }
def CompBackWrongFalsely : Prop := compBackRow.holds Try.pinned (OpenSpec.ofChange compBackWrong)

/-- 'wimplelaw5.CompLoops': WHATEVER THE INPUT: true; the input reads as it did. -/
def compLoopsSpec : ChangeSpec := { name := "compLoops", fn := fun _ => fun
  | [d1, d2] => { results := [.lit (.bool true)], args := [d1, d2] }
  | _ => none }
def compLoopsRow : OpenClaim := { program := "ytepglkgpgoifkaa", sum := "cdf93a0578926c97b57f7275ed60b71bfdde5e0d3ea20194d0a6b54c418394a6", func := "wimple/wimplelaw5.CompLoops", spec := "compLoops", apart := false }
def CompLoopsSaid : Prop := compLoopsRow.holds Try.pinned (OpenSpec.ofChange compLoopsSpec)

/-- ITS FALSE NEIGHBOUR: 'it returns false'. Refute it at one input. -/
def compLoopsWrong : ChangeSpec := { name := "compLoops", fn := fun _ => fun
  | [d1, d2] => { results := [.lit (.bool false)], args := [d1, d2] }
  | _ => none }
def CompLoopsWrongFalsely : Prop := compLoopsRow.holds Try.pinned (OpenSpec.ofChange compLoopsWrong)

/-- 'wimplelaw5.CompShares': WHATEVER THE INPUT: true; the input reads as it did. -/
def compSharesSpec : ChangeSpec := { name := "compShares", fn := fun _ => fun
  | [d1, d2, d3] => { results := [.lit (.bool true)], args := [d1, d2, d3] }
  | _ => none }
def compSharesRow : OpenClaim := { program := "ytepglkgpgoifkaa", sum := "cdf93a0578926c97b57f7275ed60b71bfdde5e0d3ea20194d0a6b54c418394a6", func := "wimple/wimplelaw5.CompShares", spec := "compShares", apart := false }
def CompSharesSaid : Prop := compSharesRow.holds Try.pinned (OpenSpec.ofChange compSharesSpec)

/-- ITS FALSE NEIGHBOUR: 'it returns false'. Refute it at one input. -/
def compSharesWrong : ChangeSpec := { name := "compShares", fn := fun _ => fun
  | [d1, d2, d3] => { results := [.lit (.bool false)], args := [d1, d2, d3] }
  | _ => none }
def CompSharesWrongFalsely : Prop := compSharesRow.holds Try.pinned (OpenSpec.ofChange compSharesWrong)

/-- 'wimplelaw5.CompFull': WHATEVER THE INPUT: true; the input reads as it did. -/
def compFullSpec : ChangeSpec := { name := "compFull", fn := fun _ => fun
  | [d1, d2] => { results := [.lit (.bool true)], args := [d1, d2] }
  | _ => none }
def compFullRow : OpenClaim := { program := "ytepglkgpgoifkaa", sum := "cdf93a0578926c97b57f7275ed60b71bfdde5e0d3ea20194d0a6b54c418394a6", func := "wimple/wimplelaw5.CompFull", spec := "compFull", apart := false }
def CompFullSaid : Prop := compFullRow.holds Try.pinned (OpenSpec.ofChange compFullSpec)

/-- ITS FALSE NEIGHBOUR: 'it returns false'. Refute it at one input. -/
def compFullWrong : ChangeSpec := { name := "compFull", fn := fun _ => fun
  | [d1, d2] => { results := [.lit (.bool false)], args := [d1, d2] }
  | _ => none }
def CompFullWrongFalsely : Prop := compFullRow.holds Try.pinned (OpenSpec.ofChange compFullWrong)

/-- 'wimplelaw5.CompData': WHATEVER THE INPUT: true; the input reads as it did. -/
def compDataSpec : ChangeSpec := { name := "compData", fn := fun _ => fun
  | [d1, d2, d3] => { results := [.lit (.bool true)], args := [d1, d2, d3] }
  | _ => none }
def compDataRow : OpenClaim := { program := "ytepglkgpgoifkaa", sum := "cdf93a0578926c97b57f7275ed60b71bfdde5e0d3ea20194d0a6b54c418394a6", func := "wimple/wimplelaw5.CompData", spec := "compData", apart := false }
def CompDataSaid : Prop := compDataRow.holds Try.pinned (OpenSpec.ofChange compDataSpec)

/-- ITS FALSE NEIGHBOUR: 'it returns false'. Refute it at one input. -/
def compDataWrong : ChangeSpec := { name := "compData", fn := fun _ => fun
  | [d1, d2, d3] => { results := [.lit (.bool false)], args := [d1, d2, d3] }
  | _ => none }
def CompDataWrongFalsely : Prop := compDataRow.holds Try.pinned (OpenSpec.ofChange compDataWrong)

/-- 'wimplelaw5.CompTwice': WHATEVER THE INPUT: true; the input reads as it did. -/
def compTwiceSpec : ChangeSpec := { name := "compTwice", fn := fun _ => fun
  | [d] => { results := [.lit (.bool true)], args := [d] }
  | _ => none }
def compTwiceRow : OpenClaim := { program := "ytepglkgpgoifkaa", sum := "cdf93a0578926c97b57f7275ed60b71bfdde5e0d3ea20194d0a6b54c418394a6", func := "wimple/wimplelaw5.CompTwice", spec := "compTwice", apart := false }
def CompTwiceSaid : Prop := compTwiceRow.holds Try.pinned (OpenSpec.ofChange compTwiceSpec)

/-- ITS FALSE NEIGHBOUR: 'it returns false'. Refute it at one input. -/
def compTwiceWrong : ChangeSpec := { name := "compTwice", fn := fun _ => fun
  | [d] => { results := [.lit (.bool false)], args := [d] }
  | _ => none }
def CompTwiceWrongFalsely : Prop := compTwiceRow.holds Try.pinned (OpenSpec.ofChange compTwiceWrong)

/-- 'wimplelaw20.Replies': WHATEVER THE INPUT: true; the input reads as it did. -/
def repliesSpec : ChangeSpec := { name := "replies", fn := fun _ => fun
  | [d1, d2] => { results := [.lit (.bool true)], args := [d1, d2] }
  | _ => none }
def repliesRow : OpenClaim := { program := "ytepglkgpgoifkaa", sum := "cdf93a0578926c97b57f7275ed60b71bfdde5e0d3ea20194d0a6b54c418394a6", func := "wimple/wimplelaw20.Replies", spec := "replies", unfollowed := true, recurses := true, apart := false }
def RepliesSaid : Prop := repliesRow.holds Try.pinned (OpenSpec.ofChange repliesSpec)

/-- ITS FALSE NEIGHBOUR: 'it returns false'. Refute it at one input. -/
def repliesWrong : ChangeSpec := { name := "replies", fn := fun _ => fun
  | [d1, d2] => { results := [.lit (.bool false)], args := [d1, d2] }
  | _ => none }
def RepliesWrongFalsely : Prop := repliesRow.holds Try.pinned (OpenSpec.ofChange repliesWrong)

/-- 'wimplelaw20.ReplyForms': WHATEVER THE INPUT: true; the input reads as it did. -/
def replyFormsSpec : ChangeSpec := { name := "replyForms", fn := fun _ => fun
  | [d1, d2, d3] => { results := [.lit (.bool true)], args := [d1, d2, d3] }
  | _ => none }
def replyFormsRow : OpenClaim := { program := "ytepglkgpgoifkaa", sum := "cdf93a0578926c97b57f7275ed60b71bfdde5e0d3ea20194d0a6b54c418394a6", func := "wimple/wimplelaw20.ReplyForms", spec := "replyForms", unfollowed := true, recurses := true, apart := false }
def ReplyFormsSaid : Prop := replyFormsRow.holds Try.pinned (OpenSpec.ofChange replyFormsSpec)

/-- ITS FALSE NEIGHBOUR: 'it returns false'. Refute it at one input. -/
def replyFormsWrong : ChangeSpec := { name := "replyForms", fn := fun _ => fun
  | [d1, d2, d3] => { results := [.lit (.bool false)], args := [d1, d2, d3] }
  | _ => none }
def ReplyFormsWrongFalsely : Prop := replyFormsRow.holds Try.pinned (OpenSpec.ofChange replyFormsWrong)

/- THE SECOND FORM. 'bulk': how many values and letters a reading holds, each counted each time it is reached (what is shared counts as often as it is met; a slice's spare places count too). A statement '..UptoSaid' is the law's where the arguments, and the package variables that the reading takes, are together of bulk at most 1048576: NARROWER than '..Said'. Prove '..Said' where nothing that the law and all that it calls make is longer than what came in: it says more and counts as full. Else prove '..UptoSaid'. A law counts once. -/
mutual
def uptoBulk {H : Type} : DataW H → Nat
  | .lit (.string bytes) => bytes.length + 1
  | .lit _ => 1
  | .nil => 1
  | .ptr d => uptoBulk d + 1
  | .slice elems spare => uptoBulkAll elems + uptoBulkAll spare + 1
  | .agg parts => uptoBulkAll parts + 1
  | .iface _ d => uptoBulk d + 1
  | .map entries => uptoBulkEntries entries + 1
  | .held _ => 1
def uptoBulkAll {H : Type} : List (DataW H) → Nat
  | [] => 0
  | d :: r => uptoBulk d + uptoBulkAll r
def uptoBulkEntries {H : Type} : List (Lit × DataW H) → Nat
  | [] => 0
  | x :: r => uptoBulkEntry x + uptoBulkEntries r
def uptoBulkEntry {H : Type} : Lit × DataW H → Nat
  | (.string bytes, d) => bytes.length + uptoBulk d + 1
  | (_, d) => uptoBulk d + 1
 end
def uptoSmall : (H : Type) → List (DataW H) → Bool := fun _ ds => decide (uptoBulkAll ds ≤ 1048576)
def OpenSpec.upto (s : _root_.Go.ChangeSpec) : _root_.Go.OpenSpec := { _root_.Go.OpenSpec.ofChange s with cond := some uptoSmall }

/-- 'wimplelaw5.CompWrites', WHERE WHAT IT READS IS OF BULK AT MOST 1048576: true; the input reads as it did. -/
def compWritesUptoRow : OpenClaim := { program := "ytepglkgpgoifkaa", sum := "cdf93a0578926c97b57f7275ed60b71bfdde5e0d3ea20194d0a6b54c418394a6", func := "wimple/wimplelaw5.CompWrites", spec := "compWrites", apart := false, narrowed := true }
def CompWritesUptoSaid : Prop := compWritesUptoRow.holds Try.pinned (OpenSpec.upto compWritesSpec)

/-- 'wimplelaw5.CompBack', WHERE WHAT IT READS IS OF BULK AT MOST 1048576: true; the input reads as it did. -/
def compBackUptoRow : OpenClaim := { program := "ytepglkgpgoifkaa", sum := "cdf93a0578926c97b57f7275ed60b71bfdde5e0d3ea20194d0a6b54c418394a6", func := "wimple/wimplelaw5.CompBack", spec := "compBack", apart := false, narrowed := true }
def CompBackUptoSaid : Prop := compBackUptoRow.holds Try.pinned (OpenSpec.upto compBackSpec)

/-- 'wimplelaw5.CompLoops', WHERE WHAT IT READS IS OF BULK AT MOST 1048576: true; the input reads as it did. -/
def compLoopsUptoRow : OpenClaim := { program := "ytepglkgpgoifkaa", sum := "cdf93a0578926c97b57f7275ed60b71bfdde5e0d3ea20194d0a6b54c418394a6", func := "wimple/wimplelaw5.CompLoops", spec := "compLoops", apart := false, narrowed := true }
def CompLoopsUptoSaid : Prop := compLoopsUptoRow.holds Try.pinned (OpenSpec.upto compLoopsSpec)

/-- 'wimplelaw5.CompShares', WHERE WHAT IT READS IS OF BULK AT MOST 1048576: true; the input reads as it did. -/
def compSharesUptoRow : OpenClaim := { program := "ytepglkgpgoifkaa", sum := "cdf93a0578926c97b57f7275ed60b71bfdde5e0d3ea20194d0a6b54c418394a6", func := "wimple/wimplelaw5.CompShares", spec := "compShares", apart := false, narrowed := true }
def CompSharesUptoSaid : Prop := compSharesUptoRow.holds Try.pinned (OpenSpec.upto compSharesSpec)

/-- 'wimplelaw5.CompFull', WHERE WHAT IT READS IS OF BULK AT MOST 1048576: true; the input reads as it did. -/
def compFullUptoRow : OpenClaim := { program := "ytepglkgpgoifkaa", sum := "cdf93a0578926c97b57f7275ed60b71bfdde5e0d3ea20194d0a6b54c418394a6", func := "wimple/wimplelaw5.CompFull", spec := "compFull", apart := false, narrowed := true }
def CompFullUptoSaid : Prop := compFullUptoRow.holds Try.pinned (OpenSpec.upto compFullSpec)

/-- 'wimplelaw5.CompData', WHERE WHAT IT READS IS OF BULK AT MOST 1048576: true; the input reads as it did. -/
def compDataUptoRow : OpenClaim := { program := "ytepglkgpgoifkaa", sum := "cdf93a0578926c97b57f7275ed60b71bfdde5e0d3ea20194d0a6b54c418394a6", func := "wimple/wimplelaw5.CompData", spec := "compData", apart := false, narrowed := true }
def CompDataUptoSaid : Prop := compDataUptoRow.holds Try.pinned (OpenSpec.upto compDataSpec)

/-- 'wimplelaw5.CompTwice', WHERE WHAT IT READS IS OF BULK AT MOST 1048576: true; the input reads as it did. -/
def compTwiceUptoRow : OpenClaim := { program := "ytepglkgpgoifkaa", sum := "cdf93a0578926c97b57f7275ed60b71bfdde5e0d3ea20194d0a6b54c418394a6", func := "wimple/wimplelaw5.CompTwice", spec := "compTwice", apart := false, narrowed := true }
def CompTwiceUptoSaid : Prop := compTwiceUptoRow.holds Try.pinned (OpenSpec.upto compTwiceSpec)

/-- 'wimplelaw20.Replies', WHERE WHAT IT READS IS OF BULK AT MOST 1048576: true; the input reads as it did. -/
def repliesUptoRow : OpenClaim := { program := "ytepglkgpgoifkaa", sum := "cdf93a0578926c97b57f7275ed60b71bfdde5e0d3ea20194d0a6b54c418394a6", func := "wimple/wimplelaw20.Replies", spec := "replies", unfollowed := true, recurses := true, apart := false, narrowed := true }
def RepliesUptoSaid : Prop := repliesUptoRow.holds Try.pinned (OpenSpec.upto repliesSpec)

/-- 'wimplelaw20.ReplyForms', WHERE WHAT IT READS IS OF BULK AT MOST 1048576: true; the input reads as it did. -/
def replyFormsUptoRow : OpenClaim := { program := "ytepglkgpgoifkaa", sum := "cdf93a0578926c97b57f7275ed60b71bfdde5e0d3ea20194d0a6b54c418394a6", func := "wimple/wimplelaw20.ReplyForms", spec := "replyForms", unfollowed := true, recurses := true, apart := false, narrowed := true }
def ReplyFormsUptoSaid : Prop := replyFormsUptoRow.holds Try.pinned (OpenSpec.upto replyFormsSpec)

end Rows
end Go.Proofs.Ytepglkgpgoifkaa
