/-
  No cell of these rows narrows 'for every input' (looked for: loops, veiled, ifaces, maps, wideKeys, modest, calm, conditions, laid).
  DERIVED. THE GIVEN ROWS OF THIS SEAT. 14 by the template 'for every input the law returns true; each argument reads behind the call as it read before'; 0 by the template 'total and deterministic' (their statements: YtjklgdpffmaamaaTotals.lean).
  GIVEN WITH THE SEED: the statements are not yours to turn. If you find one false, say at which input.
  Laid BY PROGRAM, IN A SANDBOX (cutbox-rows.mjs): the forced cells as the released guide's own fill.sh prints them over the translation 7298ff17cf362466… (all of the seat's roots in one cut). By AI agents, Wed Nov 11 2026. No macro, syntax, notation, axiom, sorry.
-/
import Derived.Test.YtjklgdpffmaamaaChecked
import GoSem.Claim
import GoSem.ClaimJoined
import GoSem.ClaimMapViews
import Derived.JoinedTies
import Derived.KernelRfl
namespace Go.Proofs.Ytjklgdpffmaamaa
/- THE CELL 'sum', in the pinned program and in every row, IS THE sha256 OF THE DUMP (.gsa) THAT YtjklgdpffmaamaaProg.lean LOADS. Nothing in Lean hashes anything: it is a label: what it is worth is what the hold of that sum in a sandbox is worth. -/
noncomputable def Try.pinned : Pinned := { name := "ytjklgdpffmaamaa", sum := "7298ff17cf36246652ee2cd2de9d6ec66f8e38574f595ff5b5308b9c6681d22a", checked := Try.checked }
namespace Rows
def none {H : Type} : Left H := { results := [], args := [] }

/-- 'wimplelaw20.Replies': WHATEVER THE INPUT: true; the input reads as it did. -/
def repliesSpec : ChangeSpec := { name := "replies", fn := fun _ => fun
  | [d1, d2] => { results := [.lit (.bool true)], args := [d1, d2] }
  | _ => none }
def repliesRow : OpenClaim := { program := "ytjklgdpffmaamaa", sum := "7298ff17cf36246652ee2cd2de9d6ec66f8e38574f595ff5b5308b9c6681d22a", func := "wimple/wimplelaw20.Replies", spec := "replies", unfollowed := true, recurses := true, apart := false }
def RepliesSaid : Prop := repliesRow.holds Try.pinned (OpenSpec.ofChange repliesSpec)

/-- ITS FALSE NEIGHBOUR: 'it returns false'. Refute it at one input. -/
def repliesWrong : ChangeSpec := { name := "replies", fn := fun _ => fun
  | [d1, d2] => { results := [.lit (.bool false)], args := [d1, d2] }
  | _ => none }
def RepliesWrongFalsely : Prop := repliesRow.holds Try.pinned (OpenSpec.ofChange repliesWrong)

/-- 'wimplelaw20.ReplyForms': WHATEVER THE INPUT: true; the input reads as it did. -/
def replyFormsSpec : ChangeSpec := { name := "replyForms", fn := fun _ => fun
  | [d1, d2, d3] => { results := [.lit (.bool true)], args := [d1, d2, d3] }
  | _ => none }
def replyFormsRow : OpenClaim := { program := "ytjklgdpffmaamaa", sum := "7298ff17cf36246652ee2cd2de9d6ec66f8e38574f595ff5b5308b9c6681d22a", func := "wimple/wimplelaw20.ReplyForms", spec := "replyForms", unfollowed := true, recurses := true, apart := false }
def ReplyFormsSaid : Prop := replyFormsRow.holds Try.pinned (OpenSpec.ofChange replyFormsSpec)

/-- ITS FALSE NEIGHBOUR: 'it returns false'. Refute it at one input. -/
def replyFormsWrong : ChangeSpec := { name := "replyForms", fn := fun _ => fun
  | [d1, d2, d3] => { results := [.lit (.bool false)], args := [d1, d2, d3] }
  | _ => none }
def ReplyFormsWrongFalsely : Prop := replyFormsRow.holds Try.pinned (OpenSpec.ofChange replyFormsWrong)

/-- 'wimplelaw10.PadQueries': WHATEVER THE INPUT: true; the input reads as it did. -/
def padQueriesSpec : ChangeSpec := { name := "padQueries", fn := fun _ => fun
  | [d1, d2, d3] => { results := [.lit (.bool true)], args := [d1, d2, d3] }
  | _ => none }
def padQueriesRow : OpenClaim := { program := "ytjklgdpffmaamaa", sum := "7298ff17cf36246652ee2cd2de9d6ec66f8e38574f595ff5b5308b9c6681d22a", func := "wimple/wimplelaw10.PadQueries", spec := "padQueries", inPlace := ["internal/abi.NoEscape"], unfollowed := true, recurses := true, apart := false }
def PadQueriesSaid : Prop := padQueriesRow.holds Try.pinned (OpenSpec.ofChange padQueriesSpec)

/-- ITS FALSE NEIGHBOUR: 'it returns false'. Refute it at one input. -/
def padQueriesWrong : ChangeSpec := { name := "padQueries", fn := fun _ => fun
  | [d1, d2, d3] => { results := [.lit (.bool false)], args := [d1, d2, d3] }
  | _ => none }
def PadQueriesWrongFalsely : Prop := padQueriesRow.holds Try.pinned (OpenSpec.ofChange padQueriesWrong)

/-- 'wimplelaw10.PadRooms': WHATEVER THE INPUT: true; the input reads as it did. -/
def padRoomsSpec : ChangeSpec := { name := "padRooms", fn := fun _ => fun
  | [d1, d2] => { results := [.lit (.bool true)], args := [d1, d2] }
  | _ => none }
def padRoomsRow : OpenClaim := { program := "ytjklgdpffmaamaa", sum := "7298ff17cf36246652ee2cd2de9d6ec66f8e38574f595ff5b5308b9c6681d22a", func := "wimple/wimplelaw10.PadRooms", spec := "padRooms", inPlace := ["internal/abi.NoEscape"], unfollowed := true, recurses := true, apart := false }
def PadRoomsSaid : Prop := padRoomsRow.holds Try.pinned (OpenSpec.ofChange padRoomsSpec)

/-- ITS FALSE NEIGHBOUR: 'it returns false'. Refute it at one input. -/
def padRoomsWrong : ChangeSpec := { name := "padRooms", fn := fun _ => fun
  | [d1, d2] => { results := [.lit (.bool false)], args := [d1, d2] }
  | _ => none }
def PadRoomsWrongFalsely : Prop := padRoomsRow.holds Try.pinned (OpenSpec.ofChange padRoomsWrong)

/-- 'wimplelaw10.PadAnswers': WHATEVER THE INPUT: true; the input reads as it did. -/
def padAnswersSpec : ChangeSpec := { name := "padAnswers", fn := fun _ => fun
  | [d1, d2] => { results := [.lit (.bool true)], args := [d1, d2] }
  | _ => none }
def padAnswersRow : OpenClaim := { program := "ytjklgdpffmaamaa", sum := "7298ff17cf36246652ee2cd2de9d6ec66f8e38574f595ff5b5308b9c6681d22a", func := "wimple/wimplelaw10.PadAnswers", spec := "padAnswers", inPlace := ["internal/abi.NoEscape"], unfollowed := true, recurses := true, apart := false }
def PadAnswersSaid : Prop := padAnswersRow.holds Try.pinned (OpenSpec.ofChange padAnswersSpec)

/-- ITS FALSE NEIGHBOUR: 'it returns false'. Refute it at one input. -/
def padAnswersWrong : ChangeSpec := { name := "padAnswers", fn := fun _ => fun
  | [d1, d2] => { results := [.lit (.bool false)], args := [d1, d2] }
  | _ => none }
def PadAnswersWrongFalsely : Prop := padAnswersRow.holds Try.pinned (OpenSpec.ofChange padAnswersWrong)

/-- 'wimplelaw10.PadCuts': WHATEVER THE INPUT: true; the input reads as it did. -/
def padCutsSpec : ChangeSpec := { name := "padCuts", fn := fun _ => fun
  | [d1, d2, d3] => { results := [.lit (.bool true)], args := [d1, d2, d3] }
  | _ => none }
def padCutsRow : OpenClaim := { program := "ytjklgdpffmaamaa", sum := "7298ff17cf36246652ee2cd2de9d6ec66f8e38574f595ff5b5308b9c6681d22a", func := "wimple/wimplelaw10.PadCuts", spec := "padCuts", inPlace := ["internal/abi.NoEscape"], unfollowed := true, recurses := true, apart := false }
def PadCutsSaid : Prop := padCutsRow.holds Try.pinned (OpenSpec.ofChange padCutsSpec)

/-- ITS FALSE NEIGHBOUR: 'it returns false'. Refute it at one input. -/
def padCutsWrong : ChangeSpec := { name := "padCuts", fn := fun _ => fun
  | [d1, d2, d3] => { results := [.lit (.bool false)], args := [d1, d2, d3] }
  | _ => none }
def PadCutsWrongFalsely : Prop := padCutsRow.holds Try.pinned (OpenSpec.ofChange padCutsWrong)

/-- 'wimplelaw10.PadForms': WHATEVER THE INPUT: true; the input reads as it did. -/
def padFormsSpec : ChangeSpec := { name := "padForms", fn := fun _ => fun
  | [d1, d2, d3] => { results := [.lit (.bool true)], args := [d1, d2, d3] }
  | _ => none }
def padFormsRow : OpenClaim := { program := "ytjklgdpffmaamaa", sum := "7298ff17cf36246652ee2cd2de9d6ec66f8e38574f595ff5b5308b9c6681d22a", func := "wimple/wimplelaw10.PadForms", spec := "padForms", inPlace := ["internal/abi.NoEscape"], unfollowed := true, recurses := true, apart := false }
def PadFormsSaid : Prop := padFormsRow.holds Try.pinned (OpenSpec.ofChange padFormsSpec)

/-- ITS FALSE NEIGHBOUR: 'it returns false'. Refute it at one input. -/
def padFormsWrong : ChangeSpec := { name := "padForms", fn := fun _ => fun
  | [d1, d2, d3] => { results := [.lit (.bool false)], args := [d1, d2, d3] }
  | _ => none }
def PadFormsWrongFalsely : Prop := padFormsRow.holds Try.pinned (OpenSpec.ofChange padFormsWrong)

/-- 'wimplelaw10.PadAlike': WHATEVER THE INPUT: true; the input reads as it did. -/
def padAlikeSpec : ChangeSpec := { name := "padAlike", fn := fun _ => fun
  | [d1, d2, d3, d4] => { results := [.lit (.bool true)], args := [d1, d2, d3, d4] }
  | _ => none }
def padAlikeRow : OpenClaim := { program := "ytjklgdpffmaamaa", sum := "7298ff17cf36246652ee2cd2de9d6ec66f8e38574f595ff5b5308b9c6681d22a", func := "wimple/wimplelaw10.PadAlike", spec := "padAlike", inPlace := ["internal/abi.NoEscape"], unfollowed := true, recurses := true, apart := false }
def PadAlikeSaid : Prop := padAlikeRow.holds Try.pinned (OpenSpec.ofChange padAlikeSpec)

/-- ITS FALSE NEIGHBOUR: 'it returns false'. Refute it at one input. -/
def padAlikeWrong : ChangeSpec := { name := "padAlike", fn := fun _ => fun
  | [d1, d2, d3, d4] => { results := [.lit (.bool false)], args := [d1, d2, d3, d4] }
  | _ => none }
def PadAlikeWrongFalsely : Prop := padAlikeRow.holds Try.pinned (OpenSpec.ofChange padAlikeWrong)

/-- 'wimplelaw7.WireBack': WHATEVER THE INPUT: true; the input reads as it did. -/
def wireBackSpec : ChangeSpec := { name := "wireBack", fn := fun _ => fun
  | [d1, d2, d3] => { results := [.lit (.bool true)], args := [d1, d2, d3] }
  | _ => none }
def wireBackRow : OpenClaim := { program := "ytjklgdpffmaamaa", sum := "7298ff17cf36246652ee2cd2de9d6ec66f8e38574f595ff5b5308b9c6681d22a", func := "wimple/wimplelaw7.WireBack", spec := "wireBack", unfollowed := true, recurses := true, apart := false }
def WireBackSaid : Prop := wireBackRow.holds Try.pinned (OpenSpec.ofChange wireBackSpec)

/-- ITS FALSE NEIGHBOUR: 'it returns false'. Refute it at one input. -/
def wireBackWrong : ChangeSpec := { name := "wireBack", fn := fun _ => fun
  | [d1, d2, d3] => { results := [.lit (.bool false)], args := [d1, d2, d3] }
  | _ => none }
def WireBackWrongFalsely : Prop := wireBackRow.holds Try.pinned (OpenSpec.ofChange wireBackWrong)

/-- 'wimplelaw7.WireTurned': WHATEVER THE INPUT: true; the input reads as it did. -/
def wireTurnedSpec : ChangeSpec := { name := "wireTurned", fn := fun _ => fun
  | [d1, d2, d3] => { results := [.lit (.bool true)], args := [d1, d2, d3] }
  | _ => none }
def wireTurnedRow : OpenClaim := { program := "ytjklgdpffmaamaa", sum := "7298ff17cf36246652ee2cd2de9d6ec66f8e38574f595ff5b5308b9c6681d22a", func := "wimple/wimplelaw7.WireTurned", spec := "wireTurned", unfollowed := true, recurses := true, apart := false }
def WireTurnedSaid : Prop := wireTurnedRow.holds Try.pinned (OpenSpec.ofChange wireTurnedSpec)

/-- ITS FALSE NEIGHBOUR: 'it returns false'. Refute it at one input. -/
def wireTurnedWrong : ChangeSpec := { name := "wireTurned", fn := fun _ => fun
  | [d1, d2, d3] => { results := [.lit (.bool false)], args := [d1, d2, d3] }
  | _ => none }
def WireTurnedWrongFalsely : Prop := wireTurnedRow.holds Try.pinned (OpenSpec.ofChange wireTurnedWrong)

/-- 'wimplelaw7.WireForms': WHATEVER THE INPUT: true; the input reads as it did. -/
def wireFormsSpec : ChangeSpec := { name := "wireForms", fn := fun _ => fun
  | [d1, d2] => { results := [.lit (.bool true)], args := [d1, d2] }
  | _ => none }
def wireFormsRow : OpenClaim := { program := "ytjklgdpffmaamaa", sum := "7298ff17cf36246652ee2cd2de9d6ec66f8e38574f595ff5b5308b9c6681d22a", func := "wimple/wimplelaw7.WireForms", spec := "wireForms", unfollowed := true, recurses := true, apart := false }
def WireFormsSaid : Prop := wireFormsRow.holds Try.pinned (OpenSpec.ofChange wireFormsSpec)

/-- ITS FALSE NEIGHBOUR: 'it returns false'. Refute it at one input. -/
def wireFormsWrong : ChangeSpec := { name := "wireForms", fn := fun _ => fun
  | [d1, d2] => { results := [.lit (.bool false)], args := [d1, d2] }
  | _ => none }
def WireFormsWrongFalsely : Prop := wireFormsRow.holds Try.pinned (OpenSpec.ofChange wireFormsWrong)

/-- 'wimplelaw7.WireSizes': WHATEVER THE INPUT: true; the input reads as it did. -/
def wireSizesSpec : ChangeSpec := { name := "wireSizes", fn := fun _ => fun
  | [d1, d2, d3] => { results := [.lit (.bool true)], args := [d1, d2, d3] }
  | _ => none }
def wireSizesRow : OpenClaim := { program := "ytjklgdpffmaamaa", sum := "7298ff17cf36246652ee2cd2de9d6ec66f8e38574f595ff5b5308b9c6681d22a", func := "wimple/wimplelaw7.WireSizes", spec := "wireSizes", unfollowed := true, recurses := true, apart := false }
def WireSizesSaid : Prop := wireSizesRow.holds Try.pinned (OpenSpec.ofChange wireSizesSpec)

/-- ITS FALSE NEIGHBOUR: 'it returns false'. Refute it at one input. -/
def wireSizesWrong : ChangeSpec := { name := "wireSizes", fn := fun _ => fun
  | [d1, d2, d3] => { results := [.lit (.bool false)], args := [d1, d2, d3] }
  | _ => none }
def WireSizesWrongFalsely : Prop := wireSizesRow.holds Try.pinned (OpenSpec.ofChange wireSizesWrong)

/-- 'wimplelaw7.WireCounts': WHATEVER THE INPUT: true; the input reads as it did. -/
def wireCountsSpec : ChangeSpec := { name := "wireCounts", fn := fun _ => fun
  | [d1, d2] => { results := [.lit (.bool true)], args := [d1, d2] }
  | _ => none }
def wireCountsRow : OpenClaim := { program := "ytjklgdpffmaamaa", sum := "7298ff17cf36246652ee2cd2de9d6ec66f8e38574f595ff5b5308b9c6681d22a", func := "wimple/wimplelaw7.WireCounts", spec := "wireCounts", unfollowed := true, recurses := true, apart := false }
def WireCountsSaid : Prop := wireCountsRow.holds Try.pinned (OpenSpec.ofChange wireCountsSpec)

/-- ITS FALSE NEIGHBOUR: 'it returns false'. Refute it at one input. -/
def wireCountsWrong : ChangeSpec := { name := "wireCounts", fn := fun _ => fun
  | [d1, d2] => { results := [.lit (.bool false)], args := [d1, d2] }
  | _ => none }
def WireCountsWrongFalsely : Prop := wireCountsRow.holds Try.pinned (OpenSpec.ofChange wireCountsWrong)

/-- 'wimplelaw7.WirePlain': WHATEVER THE INPUT: true; the input reads as it did. -/
def wirePlainSpec : ChangeSpec := { name := "wirePlain", fn := fun _ => fun
  | [d1, d2, d3] => { results := [.lit (.bool true)], args := [d1, d2, d3] }
  | _ => none }
def wirePlainRow : OpenClaim := { program := "ytjklgdpffmaamaa", sum := "7298ff17cf36246652ee2cd2de9d6ec66f8e38574f595ff5b5308b9c6681d22a", func := "wimple/wimplelaw7.WirePlain", spec := "wirePlain", unfollowed := true, recurses := true, apart := false }
def WirePlainSaid : Prop := wirePlainRow.holds Try.pinned (OpenSpec.ofChange wirePlainSpec)

/-- ITS FALSE NEIGHBOUR: 'it returns false'. Refute it at one input. -/
def wirePlainWrong : ChangeSpec := { name := "wirePlain", fn := fun _ => fun
  | [d1, d2, d3] => { results := [.lit (.bool false)], args := [d1, d2, d3] }
  | _ => none }
def WirePlainWrongFalsely : Prop := wirePlainRow.holds Try.pinned (OpenSpec.ofChange wirePlainWrong)

/- THE SECOND FORM. 'bulk': how many values and letters a reading holds, each counted each time it is reached (what is shared counts as often as it is met; a slice's spare places count too). A statement '..UptoSaid' is the law's where the arguments, and the package variables that the reading takes, are together of bulk at most 1048576: NARROWER than '..Said'. Prove '..Said' where nothing that the law and all that it calls make is longer than what came in: it says more and counts as full. Else prove '..UptoSaid'. A law counts once. -/
mutual
def uptoBulk {H : Type} : DataW H → Nat
  | .lit (.string bytes) => bytes.length + 1
  | .lit _ => 1
  | .nil => 1
  | .ptr d => uptoBulk d + 1
  | .slice elems spare => uptoBulkAll elems + uptoBulkAll spare + 1
  | .agg parts => uptoBulkAll parts + 1
  | .iface _ d => uptoBulk d + 1
  | .map entries => uptoBulkEntries entries + 1
  | .held _ => 1
def uptoBulkAll {H : Type} : List (DataW H) → Nat
  | [] => 0
  | d :: r => uptoBulk d + uptoBulkAll r
def uptoBulkEntries {H : Type} : List (Lit × DataW H) → Nat
  | [] => 0
  | x :: r => uptoBulkEntry x + uptoBulkEntries r
def uptoBulkEntry {H : Type} : Lit × DataW H → Nat
  | (.string bytes, d) => bytes.length + uptoBulk d + 1
  | (_, d) => uptoBulk d + 1
 end
def uptoSmall : (H : Type) → List (DataW H) → Bool := fun _ ds => decide (uptoBulkAll ds ≤ 1048576)
def OpenSpec.upto (s : _root_.Go.ChangeSpec) : _root_.Go.OpenSpec := { _root_.Go.OpenSpec.ofChange s with cond := some uptoSmall }

/-- 'wimplelaw20.Replies', WHERE WHAT IT READS IS OF BULK AT MOST 1048576: true; the input reads as it did. -/
def repliesUptoRow : OpenClaim := { program := "ytjklgdpffmaamaa", sum := "7298ff17cf36246652ee2cd2de9d6ec66f8e38574f595ff5b5308b9c6681d22a", func := "wimple/wimplelaw20.Replies", spec := "replies", unfollowed := true, recurses := true, apart := false, narrowed := true }
def RepliesUptoSaid : Prop := repliesUptoRow.holds Try.pinned (OpenSpec.upto repliesSpec)

/-- 'wimplelaw20.ReplyForms', WHERE WHAT IT READS IS OF BULK AT MOST 1048576: true; the input reads as it did. -/
def replyFormsUptoRow : OpenClaim := { program := "ytjklgdpffmaamaa", sum := "7298ff17cf36246652ee2cd2de9d6ec66f8e38574f595ff5b5308b9c6681d22a", func := "wimple/wimplelaw20.ReplyForms", spec := "replyForms", unfollowed := true, recurses := true, apart := false, narrowed := true }
def ReplyFormsUptoSaid : Prop := replyFormsUptoRow.holds Try.pinned (OpenSpec.upto replyFormsSpec)

/-- 'wimplelaw10.PadQueries', WHERE WHAT IT READS IS OF BULK AT MOST 1048576: true; the input reads as it did. -/
def padQueriesUptoRow : OpenClaim := { program := "ytjklgdpffmaamaa", sum := "7298ff17cf36246652ee2cd2de9d6ec66f8e38574f595ff5b5308b9c6681d22a", func := "wimple/wimplelaw10.PadQueries", spec := "padQueries", inPlace := ["internal/abi.NoEscape"], unfollowed := true, recurses := true, apart := false, narrowed := true }
def PadQueriesUptoSaid : Prop := padQueriesUptoRow.holds Try.pinned (OpenSpec.upto padQueriesSpec)

/-- 'wimplelaw10.PadRooms', WHERE WHAT IT READS IS OF BULK AT MOST 1048576: true; the input reads as it did. -/
def padRoomsUptoRow : OpenClaim := { program := "ytjklgdpffmaamaa", sum := "7298ff17cf36246652ee2cd2de9d6ec66f8e38574f595ff5b5308b9c6681d22a", func := "wimple/wimplelaw10.PadRooms", spec := "padRooms", inPlace := ["internal/abi.NoEscape"], unfollowed := true, recurses := true, apart := false, narrowed := true }
def PadRoomsUptoSaid : Prop := padRoomsUptoRow.holds Try.pinned (OpenSpec.upto padRoomsSpec)

/-- 'wimplelaw10.PadAnswers', WHERE WHAT IT READS IS OF BULK AT MOST 1048576: true; the input reads as it did. -/
def padAnswersUptoRow : OpenClaim := { program := "ytjklgdpffmaamaa", sum := "7298ff17cf36246652ee2cd2de9d6ec66f8e38574f595ff5b5308b9c6681d22a", func := "wimple/wimplelaw10.PadAnswers", spec := "padAnswers", inPlace := ["internal/abi.NoEscape"], unfollowed := true, recurses := true, apart := false, narrowed := true }
def PadAnswersUptoSaid : Prop := padAnswersUptoRow.holds Try.pinned (OpenSpec.upto padAnswersSpec)

/-- 'wimplelaw10.PadCuts', WHERE WHAT IT READS IS OF BULK AT MOST 1048576: true; the input reads as it did. -/
def padCutsUptoRow : OpenClaim := { program := "ytjklgdpffmaamaa", sum := "7298ff17cf36246652ee2cd2de9d6ec66f8e38574f595ff5b5308b9c6681d22a", func := "wimple/wimplelaw10.PadCuts", spec := "padCuts", inPlace := ["internal/abi.NoEscape"], unfollowed := true, recurses := true, apart := false, narrowed := true }
def PadCutsUptoSaid : Prop := padCutsUptoRow.holds Try.pinned (OpenSpec.upto padCutsSpec)

/-- 'wimplelaw10.PadForms', WHERE WHAT IT READS IS OF BULK AT MOST 1048576: true; the input reads as it did. -/
def padFormsUptoRow : OpenClaim := { program := "ytjklgdpffmaamaa", sum := "7298ff17cf36246652ee2cd2de9d6ec66f8e38574f595ff5b5308b9c6681d22a", func := "wimple/wimplelaw10.PadForms", spec := "padForms", inPlace := ["internal/abi.NoEscape"], unfollowed := true, recurses := true, apart := false, narrowed := true }
def PadFormsUptoSaid : Prop := padFormsUptoRow.holds Try.pinned (OpenSpec.upto padFormsSpec)

/-- 'wimplelaw10.PadAlike', WHERE WHAT IT READS IS OF BULK AT MOST 1048576: true; the input reads as it did. -/
def padAlikeUptoRow : OpenClaim := { program := "ytjklgdpffmaamaa", sum := "7298ff17cf36246652ee2cd2de9d6ec66f8e38574f595ff5b5308b9c6681d22a", func := "wimple/wimplelaw10.PadAlike", spec := "padAlike", inPlace := ["internal/abi.NoEscape"], unfollowed := true, recurses := true, apart := false, narrowed := true }
def PadAlikeUptoSaid : Prop := padAlikeUptoRow.holds Try.pinned (OpenSpec.upto padAlikeSpec)

/-- 'wimplelaw7.WireBack', WHERE WHAT IT READS IS OF BULK AT MOST 1048576: true; the input reads as it did. -/
def wireBackUptoRow : OpenClaim := { program := "ytjklgdpffmaamaa", sum := "7298ff17cf36246652ee2cd2de9d6ec66f8e38574f595ff5b5308b9c6681d22a", func := "wimple/wimplelaw7.WireBack", spec := "wireBack", unfollowed := true, recurses := true, apart := false, narrowed := true }
def WireBackUptoSaid : Prop := wireBackUptoRow.holds Try.pinned (OpenSpec.upto wireBackSpec)

/-- 'wimplelaw7.WireTurned', WHERE WHAT IT READS IS OF BULK AT MOST 1048576: true; the input reads as it did. -/
def wireTurnedUptoRow : OpenClaim := { program := "ytjklgdpffmaamaa", sum := "7298ff17cf36246652ee2cd2de9d6ec66f8e38574f595ff5b5308b9c6681d22a", func := "wimple/wimplelaw7.WireTurned", spec := "wireTurned", unfollowed := true, recurses := true, apart := false, narrowed := true }
def WireTurnedUptoSaid : Prop := wireTurnedUptoRow.holds Try.pinned (OpenSpec.upto wireTurnedSpec)

/-- 'wimplelaw7.WireForms', WHERE WHAT IT READS IS OF BULK AT MOST 1048576: true; the input reads as it did. -/
def wireFormsUptoRow : OpenClaim := { program := "ytjklgdpffmaamaa", sum := "7298ff17cf36246652ee2cd2de9d6ec66f8e38574f595ff5b5308b9c6681d22a", func := "wimple/wimplelaw7.WireForms", spec := "wireForms", unfollowed := true, recurses := true, apart := false, narrowed := true }
def WireFormsUptoSaid : Prop := wireFormsUptoRow.holds Try.pinned (OpenSpec.upto wireFormsSpec)

/-- 'wimplelaw7.WireSizes', WHERE WHAT IT READS IS OF BULK AT MOST 1048576: true; the input reads as it did. -/
def wireSizesUptoRow : OpenClaim := { program := "ytjklgdpffmaamaa", sum := "7298ff17cf36246652ee2cd2de9d6ec66f8e38574f595ff5b5308b9c6681d22a", func := "wimple/wimplelaw7.WireSizes", spec := "wireSizes", unfollowed := true, recurses := true, apart := false, narrowed := true }
def WireSizesUptoSaid : Prop := wireSizesUptoRow.holds Try.pinned (OpenSpec.upto wireSizesSpec)

/-- 'wimplelaw7.WireCounts', WHERE WHAT IT READS IS OF BULK AT MOST 1048576: true; the input reads as it did. -/
def wireCountsUptoRow : OpenClaim := { program := "ytjklgdpffmaamaa", sum := "7298ff17cf36246652ee2cd2de9d6ec66f8e38574f595ff5b5308b9c6681d22a", func := "wimple/wimplelaw7.WireCounts", spec := "wireCounts", unfollowed := true, recurses := true, apart := false, narrowed := true }
def WireCountsUptoSaid : Prop := wireCountsUptoRow.holds Try.pinned (OpenSpec.upto wireCountsSpec)

/-- 'wimplelaw7.WirePlain', WHERE WHAT IT READS IS OF BULK AT MOST 1048576: true; the input reads as it did. -/
def wirePlainUptoRow : OpenClaim := { program := "ytjklgdpffmaamaa", sum := "7298ff17cf36246652ee2cd2de9d6ec66f8e38574f595ff5b5308b9c6681d22a", func := "wimple/wimplelaw7.WirePlain", spec := "wirePlain", unfollowed := true, recurses := true, apart := false, narrowed := true }
def WirePlainUptoSaid : Prop := wirePlainUptoRow.holds Try.pinned (OpenSpec.upto wirePlainSpec)

end Rows
end Go.Proofs.Ytjklgdpffmaamaa
