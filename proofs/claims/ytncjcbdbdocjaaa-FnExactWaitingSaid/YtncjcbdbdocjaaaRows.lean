/-
  No cell of these rows narrows 'for every input' (looked for: loops, veiled, ifaces, maps, wideKeys, modest, calm, conditions, laid).
  DERIVED. THE GIVEN ROWS OF THIS SEAT. 11 by the template 'for every input the law returns true; each argument reads behind the call as it read before'; 0 by the template 'total and deterministic' (their statements: YtncjcbdbdocjaaaTotals.lean).
  GIVEN WITH THE SEED: the statements are not yours to turn. If you find one false, say at which input.
  Laid BY PROGRAM, IN A SANDBOX (cutbox-rows.mjs): the forced cells as the released guide's own fill.sh prints them over the translation 079588fdc6cf7079… (all of the seat's roots in one cut). By AI agents, Wed Nov 11 2026. No macro, syntax, notation, axiom, sorry.
-/
import Derived.Test.YtncjcbdbdocjaaaChecked
import GoSem.Claim
import GoSem.ClaimJoined
import GoSem.ClaimMapViews
import Derived.JoinedTies
import Derived.KernelRfl
namespace Go.Proofs.Ytncjcbdbdocjaaa
/- THE CELL 'sum', in the pinned program and in every row, IS THE sha256 OF THE DUMP (.gsa) THAT YtncjcbdbdocjaaaProg.lean LOADS. Nothing in Lean hashes anything: it is a label: what it is worth is what the hold of that sum in a sandbox is worth. -/
noncomputable def Try.pinned : Pinned := { name := "ytncjcbdbdocjaaa", sum := "079588fdc6cf7079278dbdf156530236e8e7b5a7ee9ad0bc86ed69646c92c263", checked := Try.checked }
namespace Rows
def none {H : Type} : Left H := { results := [], args := [] }

/-- 'laws.FnVote': WHATEVER THE INPUT: true; the input reads as it did. -/
def fnVoteSpec : ChangeSpec := { name := "fnVote", fn := fun _ => fun
  | [d] => { results := [.lit (.bool true)], args := [d] }
  | _ => none }
def fnVoteRow : OpenClaim := { program := "ytncjcbdbdocjaaa", sum := "079588fdc6cf7079278dbdf156530236e8e7b5a7ee9ad0bc86ed69646c92c263", func := "loop.example/g00801/laws.FnVote", spec := "fnVote", apart := false }
def FnVoteSaid : Prop := fnVoteRow.holds Try.pinned (OpenSpec.ofChange fnVoteSpec)

/-- ITS FALSE NEIGHBOUR: 'it returns false'. Refute it at one input. -/
def fnVoteWrong : ChangeSpec := { name := "fnVote", fn := fun _ => fun
  | [d] => { results := [.lit (.bool false)], args := [d] }
  | _ => none }
def FnVoteWrongFalsely : Prop := fnVoteRow.holds Try.pinned (OpenSpec.ofChange fnVoteWrong)

/-- 'laws.FnExactAcctTake': WHATEVER THE INPUT: true; the input reads as it did. -/
def fnExactAcctTakeSpec : ChangeSpec := { name := "fnExactAcctTake", fn := fun _ => fun
  | [d1, d2] => { results := [.lit (.bool true)], args := [d1, d2] }
  | _ => none }
def fnExactAcctTakeRow : OpenClaim := { program := "ytncjcbdbdocjaaa", sum := "079588fdc6cf7079278dbdf156530236e8e7b5a7ee9ad0bc86ed69646c92c263", func := "loop.example/g00801/laws.FnExactAcctTake", spec := "fnExactAcctTake", apart := false }
def FnExactAcctTakeSaid : Prop := fnExactAcctTakeRow.holds Try.pinned (OpenSpec.ofChange fnExactAcctTakeSpec)

/-- ITS FALSE NEIGHBOUR: 'it returns false'. Refute it at one input. -/
def fnExactAcctTakeWrong : ChangeSpec := { name := "fnExactAcctTake", fn := fun _ => fun
  | [d1, d2] => { results := [.lit (.bool false)], args := [d1, d2] }
  | _ => none }
def FnExactAcctTakeWrongFalsely : Prop := fnExactAcctTakeRow.holds Try.pinned (OpenSpec.ofChange fnExactAcctTakeWrong)

/-- 'laws.FnExactAcctShut': WHATEVER THE INPUT: true; the input reads as it did. -/
def fnExactAcctShutSpec : ChangeSpec := { name := "fnExactAcctShut", fn := fun _ => fun
  | [d1, d2] => { results := [.lit (.bool true)], args := [d1, d2] }
  | _ => none }
def fnExactAcctShutRow : OpenClaim := { program := "ytncjcbdbdocjaaa", sum := "079588fdc6cf7079278dbdf156530236e8e7b5a7ee9ad0bc86ed69646c92c263", func := "loop.example/g00801/laws.FnExactAcctShut", spec := "fnExactAcctShut", apart := false }
def FnExactAcctShutSaid : Prop := fnExactAcctShutRow.holds Try.pinned (OpenSpec.ofChange fnExactAcctShutSpec)

/-- ITS FALSE NEIGHBOUR: 'it returns false'. Refute it at one input. -/
def fnExactAcctShutWrong : ChangeSpec := { name := "fnExactAcctShut", fn := fun _ => fun
  | [d1, d2] => { results := [.lit (.bool false)], args := [d1, d2] }
  | _ => none }
def FnExactAcctShutWrongFalsely : Prop := fnExactAcctShutRow.holds Try.pinned (OpenSpec.ofChange fnExactAcctShutWrong)

/-- 'laws.FnExactAcctAdd': WHATEVER THE INPUT: true; the input reads as it did. -/
def fnExactAcctAddSpec : ChangeSpec := { name := "fnExactAcctAdd", fn := fun _ => fun
  | [d1, d2] => { results := [.lit (.bool true)], args := [d1, d2] }
  | _ => none }
def fnExactAcctAddRow : OpenClaim := { program := "ytncjcbdbdocjaaa", sum := "079588fdc6cf7079278dbdf156530236e8e7b5a7ee9ad0bc86ed69646c92c263", func := "loop.example/g00801/laws.FnExactAcctAdd", spec := "fnExactAcctAdd", apart := false }
def FnExactAcctAddSaid : Prop := fnExactAcctAddRow.holds Try.pinned (OpenSpec.ofChange fnExactAcctAddSpec)

/-- ITS FALSE NEIGHBOUR: 'it returns false'. Refute it at one input. -/
def fnExactAcctAddWrong : ChangeSpec := { name := "fnExactAcctAdd", fn := fun _ => fun
  | [d1, d2] => { results := [.lit (.bool false)], args := [d1, d2] }
  | _ => none }
def FnExactAcctAddWrongFalsely : Prop := fnExactAcctAddRow.holds Try.pinned (OpenSpec.ofChange fnExactAcctAddWrong)

/-- 'laws.FnExactPropGot': WHATEVER THE INPUT: true; the input reads as it did. -/
def fnExactPropGotSpec : ChangeSpec := { name := "fnExactPropGot", fn := fun _ => fun
  | [d1, d2] => { results := [.lit (.bool true)], args := [d1, d2] }
  | _ => none }
def fnExactPropGotRow : OpenClaim := { program := "ytncjcbdbdocjaaa", sum := "079588fdc6cf7079278dbdf156530236e8e7b5a7ee9ad0bc86ed69646c92c263", func := "loop.example/g00801/laws.FnExactPropGot", spec := "fnExactPropGot", apart := false }
def FnExactPropGotSaid : Prop := fnExactPropGotRow.holds Try.pinned (OpenSpec.ofChange fnExactPropGotSpec)

/-- ITS FALSE NEIGHBOUR: 'it returns false'. Refute it at one input. -/
def fnExactPropGotWrong : ChangeSpec := { name := "fnExactPropGot", fn := fun _ => fun
  | [d1, d2] => { results := [.lit (.bool false)], args := [d1, d2] }
  | _ => none }
def FnExactPropGotWrongFalsely : Prop := fnExactPropGotRow.holds Try.pinned (OpenSpec.ofChange fnExactPropGotWrong)

/-- 'laws.FnExactRecBytes': WHATEVER THE INPUT: true; the input reads as it did. -/
def fnExactRecBytesSpec : ChangeSpec := { name := "fnExactRecBytes", fn := fun _ => fun
  | [d] => { results := [.lit (.bool true)], args := [d] }
  | _ => none }
def fnExactRecBytesRow : OpenClaim := { program := "ytncjcbdbdocjaaa", sum := "079588fdc6cf7079278dbdf156530236e8e7b5a7ee9ad0bc86ed69646c92c263", func := "loop.example/g00801/laws.FnExactRecBytes", spec := "fnExactRecBytes", apart := false }
def FnExactRecBytesSaid : Prop := fnExactRecBytesRow.holds Try.pinned (OpenSpec.ofChange fnExactRecBytesSpec)

/-- ITS FALSE NEIGHBOUR: 'it returns false'. Refute it at one input. -/
def fnExactRecBytesWrong : ChangeSpec := { name := "fnExactRecBytes", fn := fun _ => fun
  | [d] => { results := [.lit (.bool false)], args := [d] }
  | _ => none }
def FnExactRecBytesWrongFalsely : Prop := fnExactRecBytesRow.holds Try.pinned (OpenSpec.ofChange fnExactRecBytesWrong)

/-- 'laws.FnExactPropHear': WHATEVER THE INPUT: true; the input reads as it did. -/
def fnExactPropHearSpec : ChangeSpec := { name := "fnExactPropHear", fn := fun _ => fun
  | [d1, d2, d3, d4] => { results := [.lit (.bool true)], args := [d1, d2, d3, d4] }
  | _ => none }
def fnExactPropHearRow : OpenClaim := { program := "ytncjcbdbdocjaaa", sum := "079588fdc6cf7079278dbdf156530236e8e7b5a7ee9ad0bc86ed69646c92c263", func := "loop.example/g00801/laws.FnExactPropHear", spec := "fnExactPropHear", apart := false }
def FnExactPropHearSaid : Prop := fnExactPropHearRow.holds Try.pinned (OpenSpec.ofChange fnExactPropHearSpec)

/-- ITS FALSE NEIGHBOUR: 'it returns false'. Refute it at one input. -/
def fnExactPropHearWrong : ChangeSpec := { name := "fnExactPropHear", fn := fun _ => fun
  | [d1, d2, d3, d4] => { results := [.lit (.bool false)], args := [d1, d2, d3, d4] }
  | _ => none }
def FnExactPropHearWrongFalsely : Prop := fnExactPropHearRow.holds Try.pinned (OpenSpec.ofChange fnExactPropHearWrong)

/-- 'laws.FnExactAcctOk': WHATEVER THE INPUT: true; the input reads as it did. -/
def fnExactAcctOkSpec : ChangeSpec := { name := "fnExactAcctOk", fn := fun _ => fun
  | [d1, d2, d3] => { results := [.lit (.bool true)], args := [d1, d2, d3] }
  | _ => none }
def fnExactAcctOkRow : OpenClaim := { program := "ytncjcbdbdocjaaa", sum := "079588fdc6cf7079278dbdf156530236e8e7b5a7ee9ad0bc86ed69646c92c263", func := "loop.example/g00801/laws.FnExactAcctOk", spec := "fnExactAcctOk", apart := false }
def FnExactAcctOkSaid : Prop := fnExactAcctOkRow.holds Try.pinned (OpenSpec.ofChange fnExactAcctOkSpec)

/-- ITS FALSE NEIGHBOUR: 'it returns false'. Refute it at one input. -/
def fnExactAcctOkWrong : ChangeSpec := { name := "fnExactAcctOk", fn := fun _ => fun
  | [d1, d2, d3] => { results := [.lit (.bool false)], args := [d1, d2, d3] }
  | _ => none }
def FnExactAcctOkWrongFalsely : Prop := fnExactAcctOkRow.holds Try.pinned (OpenSpec.ofChange fnExactAcctOkWrong)

/-- 'laws.FnExactAcctRep': WHATEVER THE INPUT: true; the input reads as it did. -/
def fnExactAcctRepSpec : ChangeSpec := { name := "fnExactAcctRep", fn := fun _ => fun
  | [d1, d2, d3, d4] => { results := [.lit (.bool true)], args := [d1, d2, d3, d4] }
  | _ => none }
def fnExactAcctRepRow : OpenClaim := { program := "ytncjcbdbdocjaaa", sum := "079588fdc6cf7079278dbdf156530236e8e7b5a7ee9ad0bc86ed69646c92c263", func := "loop.example/g00801/laws.FnExactAcctRep", spec := "fnExactAcctRep", apart := false }
def FnExactAcctRepSaid : Prop := fnExactAcctRepRow.holds Try.pinned (OpenSpec.ofChange fnExactAcctRepSpec)

/-- ITS FALSE NEIGHBOUR: 'it returns false'. Refute it at one input. -/
def fnExactAcctRepWrong : ChangeSpec := { name := "fnExactAcctRep", fn := fun _ => fun
  | [d1, d2, d3, d4] => { results := [.lit (.bool false)], args := [d1, d2, d3, d4] }
  | _ => none }
def FnExactAcctRepWrongFalsely : Prop := fnExactAcctRepRow.holds Try.pinned (OpenSpec.ofChange fnExactAcctRepWrong)

/-- 'laws.FnExactAcctMark': WHATEVER THE INPUT: true; the input reads as it did. -/
def fnExactAcctMarkSpec : ChangeSpec := { name := "fnExactAcctMark", fn := fun _ => fun
  | [d1, d2] => { results := [.lit (.bool true)], args := [d1, d2] }
  | _ => none }
def fnExactAcctMarkRow : OpenClaim := { program := "ytncjcbdbdocjaaa", sum := "079588fdc6cf7079278dbdf156530236e8e7b5a7ee9ad0bc86ed69646c92c263", func := "loop.example/g00801/laws.FnExactAcctMark", spec := "fnExactAcctMark", apart := false }
def FnExactAcctMarkSaid : Prop := fnExactAcctMarkRow.holds Try.pinned (OpenSpec.ofChange fnExactAcctMarkSpec)

/-- ITS FALSE NEIGHBOUR: 'it returns false'. Refute it at one input. -/
def fnExactAcctMarkWrong : ChangeSpec := { name := "fnExactAcctMark", fn := fun _ => fun
  | [d1, d2] => { results := [.lit (.bool false)], args := [d1, d2] }
  | _ => none }
def FnExactAcctMarkWrongFalsely : Prop := fnExactAcctMarkRow.holds Try.pinned (OpenSpec.ofChange fnExactAcctMarkWrong)

/-- 'laws.FnExactWaiting': WHATEVER THE INPUT: true; the input reads as it did. -/
def fnExactWaitingSpec : ChangeSpec := { name := "fnExactWaiting", fn := fun _ => fun
  | [d] => { results := [.lit (.bool true)], args := [d] }
  | _ => none }
def fnExactWaitingRow : OpenClaim := { program := "ytncjcbdbdocjaaa", sum := "079588fdc6cf7079278dbdf156530236e8e7b5a7ee9ad0bc86ed69646c92c263", func := "loop.example/g00801/laws.FnExactWaiting", spec := "fnExactWaiting", apart := false }
def FnExactWaitingSaid : Prop := fnExactWaitingRow.holds Try.pinned (OpenSpec.ofChange fnExactWaitingSpec)

/-- ITS FALSE NEIGHBOUR: 'it returns false'. Refute it at one input. -/
def fnExactWaitingWrong : ChangeSpec := { name := "fnExactWaiting", fn := fun _ => fun
  | [d] => { results := [.lit (.bool false)], args := [d] }
  | _ => none }
def FnExactWaitingWrongFalsely : Prop := fnExactWaitingRow.holds Try.pinned (OpenSpec.ofChange fnExactWaitingWrong)

/- THE SECOND FORM. 'bulk': how many values and letters a reading holds, each counted each time it is reached (what is shared counts as often as it is met; a slice's spare places count too). A statement '..UptoSaid' is the law's where the arguments, and the package variables that the reading takes, are together of bulk at most 1048576: NARROWER than '..Said'. Prove '..Said' where nothing that the law and all that it calls make is longer than what came in: it says more and counts as full. Else prove '..UptoSaid'. A law counts once. -/
mutual
def uptoBulk {H : Type} : DataW H → Nat
  | .lit (.string bytes) => bytes.length + 1
  | .lit _ => 1
  | .nil => 1
  | .ptr d => uptoBulk d + 1
  | .slice elems spare => uptoBulkAll elems + uptoBulkAll spare + 1
  | .agg parts => uptoBulkAll parts + 1
  | .iface _ d => uptoBulk d + 1
  | .map entries => uptoBulkEntries entries + 1
  | .held _ => 1
def uptoBulkAll {H : Type} : List (DataW H) → Nat
  | [] => 0
  | d :: r => uptoBulk d + uptoBulkAll r
def uptoBulkEntries {H : Type} : List (Lit × DataW H) → Nat
  | [] => 0
  | x :: r => uptoBulkEntry x + uptoBulkEntries r
def uptoBulkEntry {H : Type} : Lit × DataW H → Nat
  | (.string bytes, d) => bytes.length + uptoBulk d + 1
  | (_, d) => uptoBulk d + 1
 end
def uptoSmall : (H : Type) → List (DataW H) → Bool := fun _ ds => decide (uptoBulkAll ds ≤ 1048576)
def OpenSpec.upto (s : _root_.Go.ChangeSpec) : _root_.Go.OpenSpec := { _root_.Go.OpenSpec.ofChange s with cond := some uptoSmall }

/-- 'laws.FnVote', WHERE WHAT IT READS IS OF BULK AT MOST 1048576: true; the input reads as it did. -/
def fnVoteUptoRow : OpenClaim := { program := "ytncjcbdbdocjaaa", sum := "079588fdc6cf7079278dbdf156530236e8e7b5a7ee9ad0bc86ed69646c92c263", func := "loop.example/g00801/laws.FnVote", spec := "fnVote", apart := false, narrowed := true }
def FnVoteUptoSaid : Prop := fnVoteUptoRow.holds Try.pinned (OpenSpec.upto fnVoteSpec)

/-- 'laws.FnExactAcctTake', WHERE WHAT IT READS IS OF BULK AT MOST 1048576: true; the input reads as it did. -/
def fnExactAcctTakeUptoRow : OpenClaim := { program := "ytncjcbdbdocjaaa", sum := "079588fdc6cf7079278dbdf156530236e8e7b5a7ee9ad0bc86ed69646c92c263", func := "loop.example/g00801/laws.FnExactAcctTake", spec := "fnExactAcctTake", apart := false, narrowed := true }
def FnExactAcctTakeUptoSaid : Prop := fnExactAcctTakeUptoRow.holds Try.pinned (OpenSpec.upto fnExactAcctTakeSpec)

/-- 'laws.FnExactAcctShut', WHERE WHAT IT READS IS OF BULK AT MOST 1048576: true; the input reads as it did. -/
def fnExactAcctShutUptoRow : OpenClaim := { program := "ytncjcbdbdocjaaa", sum := "079588fdc6cf7079278dbdf156530236e8e7b5a7ee9ad0bc86ed69646c92c263", func := "loop.example/g00801/laws.FnExactAcctShut", spec := "fnExactAcctShut", apart := false, narrowed := true }
def FnExactAcctShutUptoSaid : Prop := fnExactAcctShutUptoRow.holds Try.pinned (OpenSpec.upto fnExactAcctShutSpec)

/-- 'laws.FnExactAcctAdd', WHERE WHAT IT READS IS OF BULK AT MOST 1048576: true; the input reads as it did. -/
def fnExactAcctAddUptoRow : OpenClaim := { program := "ytncjcbdbdocjaaa", sum := "079588fdc6cf7079278dbdf156530236e8e7b5a7ee9ad0bc86ed69646c92c263", func := "loop.example/g00801/laws.FnExactAcctAdd", spec := "fnExactAcctAdd", apart := false, narrowed := true }
def FnExactAcctAddUptoSaid : Prop := fnExactAcctAddUptoRow.holds Try.pinned (OpenSpec.upto fnExactAcctAddSpec)

/-- 'laws.FnExactPropGot', WHERE WHAT IT READS IS OF BULK AT MOST 1048576: true; the input reads as it did. -/
def fnExactPropGotUptoRow : OpenClaim := { program := "ytncjcbdbdocjaaa", sum := "079588fdc6cf7079278dbdf156530236e8e7b5a7ee9ad0bc86ed69646c92c263", func := "loop.example/g00801/laws.FnExactPropGot", spec := "fnExactPropGot", apart := false, narrowed := true }
def FnExactPropGotUptoSaid : Prop := fnExactPropGotUptoRow.holds Try.pinned (OpenSpec.upto fnExactPropGotSpec)

/-- 'laws.FnExactRecBytes', WHERE WHAT IT READS IS OF BULK AT MOST 1048576: true; the input reads as it did. -/
def fnExactRecBytesUptoRow : OpenClaim := { program := "ytncjcbdbdocjaaa", sum := "079588fdc6cf7079278dbdf156530236e8e7b5a7ee9ad0bc86ed69646c92c263", func := "loop.example/g00801/laws.FnExactRecBytes", spec := "fnExactRecBytes", apart := false, narrowed := true }
def FnExactRecBytesUptoSaid : Prop := fnExactRecBytesUptoRow.holds Try.pinned (OpenSpec.upto fnExactRecBytesSpec)

/-- 'laws.FnExactPropHear', WHERE WHAT IT READS IS OF BULK AT MOST 1048576: true; the input reads as it did. -/
def fnExactPropHearUptoRow : OpenClaim := { program := "ytncjcbdbdocjaaa", sum := "079588fdc6cf7079278dbdf156530236e8e7b5a7ee9ad0bc86ed69646c92c263", func := "loop.example/g00801/laws.FnExactPropHear", spec := "fnExactPropHear", apart := false, narrowed := true }
def FnExactPropHearUptoSaid : Prop := fnExactPropHearUptoRow.holds Try.pinned (OpenSpec.upto fnExactPropHearSpec)

/-- 'laws.FnExactAcctOk', WHERE WHAT IT READS IS OF BULK AT MOST 1048576: true; the input reads as it did. -/
def fnExactAcctOkUptoRow : OpenClaim := { program := "ytncjcbdbdocjaaa", sum := "079588fdc6cf7079278dbdf156530236e8e7b5a7ee9ad0bc86ed69646c92c263", func := "loop.example/g00801/laws.FnExactAcctOk", spec := "fnExactAcctOk", apart := false, narrowed := true }
def FnExactAcctOkUptoSaid : Prop := fnExactAcctOkUptoRow.holds Try.pinned (OpenSpec.upto fnExactAcctOkSpec)

/-- 'laws.FnExactAcctRep', WHERE WHAT IT READS IS OF BULK AT MOST 1048576: true; the input reads as it did. -/
def fnExactAcctRepUptoRow : OpenClaim := { program := "ytncjcbdbdocjaaa", sum := "079588fdc6cf7079278dbdf156530236e8e7b5a7ee9ad0bc86ed69646c92c263", func := "loop.example/g00801/laws.FnExactAcctRep", spec := "fnExactAcctRep", apart := false, narrowed := true }
def FnExactAcctRepUptoSaid : Prop := fnExactAcctRepUptoRow.holds Try.pinned (OpenSpec.upto fnExactAcctRepSpec)

/-- 'laws.FnExactAcctMark', WHERE WHAT IT READS IS OF BULK AT MOST 1048576: true; the input reads as it did. -/
def fnExactAcctMarkUptoRow : OpenClaim := { program := "ytncjcbdbdocjaaa", sum := "079588fdc6cf7079278dbdf156530236e8e7b5a7ee9ad0bc86ed69646c92c263", func := "loop.example/g00801/laws.FnExactAcctMark", spec := "fnExactAcctMark", apart := false, narrowed := true }
def FnExactAcctMarkUptoSaid : Prop := fnExactAcctMarkUptoRow.holds Try.pinned (OpenSpec.upto fnExactAcctMarkSpec)

/-- 'laws.FnExactWaiting', WHERE WHAT IT READS IS OF BULK AT MOST 1048576: true; the input reads as it did. -/
def fnExactWaitingUptoRow : OpenClaim := { program := "ytncjcbdbdocjaaa", sum := "079588fdc6cf7079278dbdf156530236e8e7b5a7ee9ad0bc86ed69646c92c263", func := "loop.example/g00801/laws.FnExactWaiting", spec := "fnExactWaiting", apart := false, narrowed := true }
def FnExactWaitingUptoSaid : Prop := fnExactWaitingUptoRow.holds Try.pinned (OpenSpec.upto fnExactWaitingSpec)

end Rows
end Go.Proofs.Ytncjcbdbdocjaaa
