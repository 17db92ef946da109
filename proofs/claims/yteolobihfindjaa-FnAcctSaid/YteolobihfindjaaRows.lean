/-
  No cell of these rows narrows 'for every input' (looked for: loops, veiled, ifaces, maps, wideKeys, modest, calm, conditions, laid).
  DERIVED. THE GIVEN ROWS OF THIS SEAT. 12 by the template 'for every input the law returns true; each argument reads behind the call as it read before'; 0 by the template 'total and deterministic' (their statements: YteolobihfindjaaTotals.lean).
  GIVEN WITH THE SEED: the statements are not yours to turn. If you find one false, say at which input.
  Laid BY PROGRAM, IN A SANDBOX (cutbox-rows.mjs): the forced cells as the released guide's own fill.sh prints them over the translation 21bb45c963df2b38… (all of the seat's roots in one cut). By AI agents, Wed Nov 11 2026. No macro, syntax, notation, axiom, sorry.
-/
import Derived.Test.YteolobihfindjaaChecked
import GoSem.Claim
import GoSem.ClaimJoined
import GoSem.ClaimMapViews
import Derived.JoinedTies
import Derived.KernelRfl
namespace Go.Proofs.Yteolobihfindjaa
/- THE CELL 'sum', in the pinned program and in every row, IS THE sha256 OF THE DUMP (.gsa) THAT YteolobihfindjaaProg.lean LOADS. Nothing in Lean hashes anything: it is a label: what it is worth is what the hold of that sum in a sandbox is worth. -/
noncomputable def Try.pinned : Pinned := { name := "yteolobihfindjaa", sum := "21bb45c963df2b38b2fee2bbe1212ac2c1e26ba6beaf83860b66e7117a99c6c0", checked := Try.checked }
namespace Rows
def none {H : Type} : Left H := { results := [], args := [] }

/-- 'laws.FnBallot': WHATEVER THE INPUT: true; the input reads as it did. -/
def fnBallotSpec : ChangeSpec := { name := "fnBallot", fn := fun _ => fun
  | [d] => { results := [.lit (.bool true)], args := [d] }
  | _ => none }
def fnBallotRow : OpenClaim := { program := "yteolobihfindjaa", sum := "21bb45c963df2b38b2fee2bbe1212ac2c1e26ba6beaf83860b66e7117a99c6c0", func := "loop.example/g00801/laws.FnBallot", spec := "fnBallot", apart := false }
def FnBallotSaid : Prop := fnBallotRow.holds Try.pinned (OpenSpec.ofChange fnBallotSpec)

/-- ITS FALSE NEIGHBOUR: 'it returns false'. Refute it at one input. -/
def fnBallotWrong : ChangeSpec := { name := "fnBallot", fn := fun _ => fun
  | [d] => { results := [.lit (.bool false)], args := [d] }
  | _ => none }
def FnBallotWrongFalsely : Prop := fnBallotRow.holds Try.pinned (OpenSpec.ofChange fnBallotWrong)

/-- 'laws.FnPromise': WHATEVER THE INPUT: true; the input reads as it did. -/
def fnPromiseSpec : ChangeSpec := { name := "fnPromise", fn := fun _ => fun
  | [d] => { results := [.lit (.bool true)], args := [d] }
  | _ => none }
def fnPromiseRow : OpenClaim := { program := "yteolobihfindjaa", sum := "21bb45c963df2b38b2fee2bbe1212ac2c1e26ba6beaf83860b66e7117a99c6c0", func := "loop.example/g00801/laws.FnPromise", spec := "fnPromise", apart := false }
def FnPromiseSaid : Prop := fnPromiseRow.holds Try.pinned (OpenSpec.ofChange fnPromiseSpec)

/-- ITS FALSE NEIGHBOUR: 'it returns false'. Refute it at one input. -/
def fnPromiseWrong : ChangeSpec := { name := "fnPromise", fn := fun _ => fun
  | [d] => { results := [.lit (.bool false)], args := [d] }
  | _ => none }
def FnPromiseWrongFalsely : Prop := fnPromiseRow.holds Try.pinned (OpenSpec.ofChange fnPromiseWrong)

/-- 'laws.FnExactPropOk': WHATEVER THE INPUT: true; the input reads as it did. -/
def fnExactPropOkSpec : ChangeSpec := { name := "fnExactPropOk", fn := fun _ => fun
  | [d] => { results := [.lit (.bool true)], args := [d] }
  | _ => none }
def fnExactPropOkRow : OpenClaim := { program := "yteolobihfindjaa", sum := "21bb45c963df2b38b2fee2bbe1212ac2c1e26ba6beaf83860b66e7117a99c6c0", func := "loop.example/g00801/laws.FnExactPropOk", spec := "fnExactPropOk", apart := false }
def FnExactPropOkSaid : Prop := fnExactPropOkRow.holds Try.pinned (OpenSpec.ofChange fnExactPropOkSpec)

/-- ITS FALSE NEIGHBOUR: 'it returns false'. Refute it at one input. -/
def fnExactPropOkWrong : ChangeSpec := { name := "fnExactPropOk", fn := fun _ => fun
  | [d] => { results := [.lit (.bool false)], args := [d] }
  | _ => none }
def FnExactPropOkWrongFalsely : Prop := fnExactPropOkRow.holds Try.pinned (OpenSpec.ofChange fnExactPropOkWrong)

/-- 'laws.FnExactPropReady': WHATEVER THE INPUT: true; the input reads as it did. -/
def fnExactPropReadySpec : ChangeSpec := { name := "fnExactPropReady", fn := fun _ => fun
  | [d1, d2] => { results := [.lit (.bool true)], args := [d1, d2] }
  | _ => none }
def fnExactPropReadyRow : OpenClaim := { program := "yteolobihfindjaa", sum := "21bb45c963df2b38b2fee2bbe1212ac2c1e26ba6beaf83860b66e7117a99c6c0", func := "loop.example/g00801/laws.FnExactPropReady", spec := "fnExactPropReady", apart := false }
def FnExactPropReadySaid : Prop := fnExactPropReadyRow.holds Try.pinned (OpenSpec.ofChange fnExactPropReadySpec)

/-- ITS FALSE NEIGHBOUR: 'it returns false'. Refute it at one input. -/
def fnExactPropReadyWrong : ChangeSpec := { name := "fnExactPropReady", fn := fun _ => fun
  | [d1, d2] => { results := [.lit (.bool false)], args := [d1, d2] }
  | _ => none }
def FnExactPropReadyWrongFalsely : Prop := fnExactPropReadyRow.holds Try.pinned (OpenSpec.ofChange fnExactPropReadyWrong)

/-- 'laws.FnExactPropWon': WHATEVER THE INPUT: true; the input reads as it did. -/
def fnExactPropWonSpec : ChangeSpec := { name := "fnExactPropWon", fn := fun _ => fun
  | [d1, d2] => { results := [.lit (.bool true)], args := [d1, d2] }
  | _ => none }
def fnExactPropWonRow : OpenClaim := { program := "yteolobihfindjaa", sum := "21bb45c963df2b38b2fee2bbe1212ac2c1e26ba6beaf83860b66e7117a99c6c0", func := "loop.example/g00801/laws.FnExactPropWon", spec := "fnExactPropWon", apart := false }
def FnExactPropWonSaid : Prop := fnExactPropWonRow.holds Try.pinned (OpenSpec.ofChange fnExactPropWonSpec)

/-- ITS FALSE NEIGHBOUR: 'it returns false'. Refute it at one input. -/
def fnExactPropWonWrong : ChangeSpec := { name := "fnExactPropWon", fn := fun _ => fun
  | [d1, d2] => { results := [.lit (.bool false)], args := [d1, d2] }
  | _ => none }
def FnExactPropWonWrongFalsely : Prop := fnExactPropWonRow.holds Try.pinned (OpenSpec.ofChange fnExactPropWonWrong)

/-- 'laws.FnExactPropNew': WHATEVER THE INPUT: true; the input reads as it did. -/
def fnExactPropNewSpec : ChangeSpec := { name := "fnExactPropNew", fn := fun _ => fun
  | [d1, d2] => { results := [.lit (.bool true)], args := [d1, d2] }
  | _ => none }
def fnExactPropNewRow : OpenClaim := { program := "yteolobihfindjaa", sum := "21bb45c963df2b38b2fee2bbe1212ac2c1e26ba6beaf83860b66e7117a99c6c0", func := "loop.example/g00801/laws.FnExactPropNew", spec := "fnExactPropNew", apart := false }
def FnExactPropNewSaid : Prop := fnExactPropNewRow.holds Try.pinned (OpenSpec.ofChange fnExactPropNewSpec)

/-- ITS FALSE NEIGHBOUR: 'it returns false'. Refute it at one input. -/
def fnExactPropNewWrong : ChangeSpec := { name := "fnExactPropNew", fn := fun _ => fun
  | [d1, d2] => { results := [.lit (.bool false)], args := [d1, d2] }
  | _ => none }
def FnExactPropNewWrongFalsely : Prop := fnExactPropNewRow.holds Try.pinned (OpenSpec.ofChange fnExactPropNewWrong)

/-- 'laws.FnExactPacketOk': WHATEVER THE INPUT: true; the input reads as it did. -/
def fnExactPacketOkSpec : ChangeSpec := { name := "fnExactPacketOk", fn := fun _ => fun
  | [d] => { results := [.lit (.bool true)], args := [d] }
  | _ => none }
def fnExactPacketOkRow : OpenClaim := { program := "yteolobihfindjaa", sum := "21bb45c963df2b38b2fee2bbe1212ac2c1e26ba6beaf83860b66e7117a99c6c0", func := "loop.example/g00801/laws.FnExactPacketOk", spec := "fnExactPacketOk", apart := false }
def FnExactPacketOkSaid : Prop := fnExactPacketOkRow.holds Try.pinned (OpenSpec.ofChange fnExactPacketOkSpec)

/-- ITS FALSE NEIGHBOUR: 'it returns false'. Refute it at one input. -/
def fnExactPacketOkWrong : ChangeSpec := { name := "fnExactPacketOk", fn := fun _ => fun
  | [d] => { results := [.lit (.bool false)], args := [d] }
  | _ => none }
def FnExactPacketOkWrongFalsely : Prop := fnExactPacketOkRow.holds Try.pinned (OpenSpec.ofChange fnExactPacketOkWrong)

/-- 'laws.FnExactRecOk': WHATEVER THE INPUT: true; the input reads as it did. -/
def fnExactRecOkSpec : ChangeSpec := { name := "fnExactRecOk", fn := fun _ => fun
  | [d] => { results := [.lit (.bool true)], args := [d] }
  | _ => none }
def fnExactRecOkRow : OpenClaim := { program := "yteolobihfindjaa", sum := "21bb45c963df2b38b2fee2bbe1212ac2c1e26ba6beaf83860b66e7117a99c6c0", func := "loop.example/g00801/laws.FnExactRecOk", spec := "fnExactRecOk", apart := false }
def FnExactRecOkSaid : Prop := fnExactRecOkRow.holds Try.pinned (OpenSpec.ofChange fnExactRecOkSpec)

/-- ITS FALSE NEIGHBOUR: 'it returns false'. Refute it at one input. -/
def fnExactRecOkWrong : ChangeSpec := { name := "fnExactRecOk", fn := fun _ => fun
  | [d] => { results := [.lit (.bool false)], args := [d] }
  | _ => none }
def FnExactRecOkWrongFalsely : Prop := fnExactRecOkRow.holds Try.pinned (OpenSpec.ofChange fnExactRecOkWrong)

/-- 'laws.FnExactFinalOf': WHATEVER THE INPUT: true; the input reads as it did. -/
def fnExactFinalOfSpec : ChangeSpec := { name := "fnExactFinalOf", fn := fun _ => fun
  | [d] => { results := [.lit (.bool true)], args := [d] }
  | _ => none }
def fnExactFinalOfRow : OpenClaim := { program := "yteolobihfindjaa", sum := "21bb45c963df2b38b2fee2bbe1212ac2c1e26ba6beaf83860b66e7117a99c6c0", func := "loop.example/g00801/laws.FnExactFinalOf", spec := "fnExactFinalOf", apart := false }
def FnExactFinalOfSaid : Prop := fnExactFinalOfRow.holds Try.pinned (OpenSpec.ofChange fnExactFinalOfSpec)

/-- ITS FALSE NEIGHBOUR: 'it returns false'. Refute it at one input. -/
def fnExactFinalOfWrong : ChangeSpec := { name := "fnExactFinalOf", fn := fun _ => fun
  | [d] => { results := [.lit (.bool false)], args := [d] }
  | _ => none }
def FnExactFinalOfWrongFalsely : Prop := fnExactFinalOfRow.holds Try.pinned (OpenSpec.ofChange fnExactFinalOfWrong)

/-- 'laws.FnExactAcctSame': WHATEVER THE INPUT: true; the input reads as it did. -/
def fnExactAcctSameSpec : ChangeSpec := { name := "fnExactAcctSame", fn := fun _ => fun
  | [d1, d2] => { results := [.lit (.bool true)], args := [d1, d2] }
  | _ => none }
def fnExactAcctSameRow : OpenClaim := { program := "yteolobihfindjaa", sum := "21bb45c963df2b38b2fee2bbe1212ac2c1e26ba6beaf83860b66e7117a99c6c0", func := "loop.example/g00801/laws.FnExactAcctSame", spec := "fnExactAcctSame", apart := false }
def FnExactAcctSameSaid : Prop := fnExactAcctSameRow.holds Try.pinned (OpenSpec.ofChange fnExactAcctSameSpec)

/-- ITS FALSE NEIGHBOUR: 'it returns false'. Refute it at one input. -/
def fnExactAcctSameWrong : ChangeSpec := { name := "fnExactAcctSame", fn := fun _ => fun
  | [d1, d2] => { results := [.lit (.bool false)], args := [d1, d2] }
  | _ => none }
def FnExactAcctSameWrongFalsely : Prop := fnExactAcctSameRow.holds Try.pinned (OpenSpec.ofChange fnExactAcctSameWrong)

/-- 'laws.FnAcct': WHATEVER THE INPUT: true; the input reads as it did. -/
def fnAcctSpec : ChangeSpec := { name := "fnAcct", fn := fun _ => fun
  | [d] => { results := [.lit (.bool true)], args := [d] }
  | _ => none }
def fnAcctRow : OpenClaim := { program := "yteolobihfindjaa", sum := "21bb45c963df2b38b2fee2bbe1212ac2c1e26ba6beaf83860b66e7117a99c6c0", func := "loop.example/g00801/laws.FnAcct", spec := "fnAcct", apart := false }
def FnAcctSaid : Prop := fnAcctRow.holds Try.pinned (OpenSpec.ofChange fnAcctSpec)

/-- ITS FALSE NEIGHBOUR: 'it returns false'. Refute it at one input. -/
def fnAcctWrong : ChangeSpec := { name := "fnAcct", fn := fun _ => fun
  | [d] => { results := [.lit (.bool false)], args := [d] }
  | _ => none }
def FnAcctWrongFalsely : Prop := fnAcctRow.holds Try.pinned (OpenSpec.ofChange fnAcctWrong)

/-- 'laws.FnExactNetTwice': WHATEVER THE INPUT: true; the input reads as it did. -/
def fnExactNetTwiceSpec : ChangeSpec := { name := "fnExactNetTwice", fn := fun _ => fun
  | [d1, d2] => { results := [.lit (.bool true)], args := [d1, d2] }
  | _ => none }
def fnExactNetTwiceRow : OpenClaim := { program := "yteolobihfindjaa", sum := "21bb45c963df2b38b2fee2bbe1212ac2c1e26ba6beaf83860b66e7117a99c6c0", func := "loop.example/g00801/laws.FnExactNetTwice", spec := "fnExactNetTwice", apart := false }
def FnExactNetTwiceSaid : Prop := fnExactNetTwiceRow.holds Try.pinned (OpenSpec.ofChange fnExactNetTwiceSpec)

/-- ITS FALSE NEIGHBOUR: 'it returns false'. Refute it at one input. -/
def fnExactNetTwiceWrong : ChangeSpec := { name := "fnExactNetTwice", fn := fun _ => fun
  | [d1, d2] => { results := [.lit (.bool false)], args := [d1, d2] }
  | _ => none }
def FnExactNetTwiceWrongFalsely : Prop := fnExactNetTwiceRow.holds Try.pinned (OpenSpec.ofChange fnExactNetTwiceWrong)

/- THE SECOND FORM. 'bulk': how many values and letters a reading holds, each counted each time it is reached (what is shared counts as often as it is met; a slice's spare places count too). A statement '..UptoSaid' is the law's where the arguments, and the package variables that the reading takes, are together of bulk at most 1048576: NARROWER than '..Said'. Prove '..Said' where nothing that the law and all that it calls make is longer than what came in: it says more and counts as full. Else prove '..UptoSaid'. A law counts once. -/
mutual
def uptoBulk {H : Type} : DataW H → Nat
  | .lit (.string bytes) => bytes.length + 1
  | .lit _ => 1
  | .nil => 1
  | .ptr d => uptoBulk d + 1
  | .slice elems spare => uptoBulkAll elems + uptoBulkAll spare + 1
  | .agg parts => uptoBulkAll parts + 1
  | .iface _ d => uptoBulk d + 1
  | .map entries => uptoBulkEntries entries + 1
  | .held _ => 1
def uptoBulkAll {H : Type} : List (DataW H) → Nat
  | [] => 0
  | d :: r => uptoBulk d + uptoBulkAll r
def uptoBulkEntries {H : Type} : List (Lit × DataW H) → Nat
  | [] => 0
  | x :: r => uptoBulkEntry x + uptoBulkEntries r
def uptoBulkEntry {H : Type} : Lit × DataW H → Nat
  | (.string bytes, d) => bytes.length + uptoBulk d + 1
  | (_, d) => uptoBulk d + 1
 end
def uptoSmall : (H : Type) → List (DataW H) → Bool := fun _ ds => decide (uptoBulkAll ds ≤ 1048576)
def OpenSpec.upto (s : _root_.Go.ChangeSpec) : _root_.Go.OpenSpec := { _root_.Go.OpenSpec.ofChange s with cond := some uptoSmall }

/-- 'laws.FnBallot', WHERE WHAT IT READS IS OF BULK AT MOST 1048576: true; the input reads as it did. -/
def fnBallotUptoRow : OpenClaim := { program := "yteolobihfindjaa", sum := "21bb45c963df2b38b2fee2bbe1212ac2c1e26ba6beaf83860b66e7117a99c6c0", func := "loop.example/g00801/laws.FnBallot", spec := "fnBallot", apart := false, narrowed := true }
def FnBallotUptoSaid : Prop := fnBallotUptoRow.holds Try.pinned (OpenSpec.upto fnBallotSpec)

/-- 'laws.FnPromise', WHERE WHAT IT READS IS OF BULK AT MOST 1048576: true; the input reads as it did. -/
def fnPromiseUptoRow : OpenClaim := { program := "yteolobihfindjaa", sum := "21bb45c963df2b38b2fee2bbe1212ac2c1e26ba6beaf83860b66e7117a99c6c0", func := "loop.example/g00801/laws.FnPromise", spec := "fnPromise", apart := false, narrowed := true }
def FnPromiseUptoSaid : Prop := fnPromiseUptoRow.holds Try.pinned (OpenSpec.upto fnPromiseSpec)

/-- 'laws.FnExactPropOk', WHERE WHAT IT READS IS OF BULK AT MOST 1048576: true; the input reads as it did. -/
def fnExactPropOkUptoRow : OpenClaim := { program := "yteolobihfindjaa", sum := "21bb45c963df2b38b2fee2bbe1212ac2c1e26ba6beaf83860b66e7117a99c6c0", func := "loop.example/g00801/laws.FnExactPropOk", spec := "fnExactPropOk", apart := false, narrowed := true }
def FnExactPropOkUptoSaid : Prop := fnExactPropOkUptoRow.holds Try.pinned (OpenSpec.upto fnExactPropOkSpec)

/-- 'laws.FnExactPropReady', WHERE WHAT IT READS IS OF BULK AT MOST 1048576: true; the input reads as it did. -/
def fnExactPropReadyUptoRow : OpenClaim := { program := "yteolobihfindjaa", sum := "21bb45c963df2b38b2fee2bbe1212ac2c1e26ba6beaf83860b66e7117a99c6c0", func := "loop.example/g00801/laws.FnExactPropReady", spec := "fnExactPropReady", apart := false, narrowed := true }
def FnExactPropReadyUptoSaid : Prop := fnExactPropReadyUptoRow.holds Try.pinned (OpenSpec.upto fnExactPropReadySpec)

/-- 'laws.FnExactPropWon', WHERE WHAT IT READS IS OF BULK AT MOST 1048576: true; the input reads as it did. -/
def fnExactPropWonUptoRow : OpenClaim := { program := "yteolobihfindjaa", sum := "21bb45c963df2b38b2fee2bbe1212ac2c1e26ba6beaf83860b66e7117a99c6c0", func := "loop.example/g00801/laws.FnExactPropWon", spec := "fnExactPropWon", apart := false, narrowed := true }
def FnExactPropWonUptoSaid : Prop := fnExactPropWonUptoRow.holds Try.pinned (OpenSpec.upto fnExactPropWonSpec)

/-- 'laws.FnExactPropNew', WHERE WHAT IT READS IS OF BULK AT MOST 1048576: true; the input reads as it did. -/
def fnExactPropNewUptoRow : OpenClaim := { program := "yteolobihfindjaa", sum := "21bb45c963df2b38b2fee2bbe1212ac2c1e26ba6beaf83860b66e7117a99c6c0", func := "loop.example/g00801/laws.FnExactPropNew", spec := "fnExactPropNew", apart := false, narrowed := true }
def FnExactPropNewUptoSaid : Prop := fnExactPropNewUptoRow.holds Try.pinned (OpenSpec.upto fnExactPropNewSpec)

/-- 'laws.FnExactPacketOk', WHERE WHAT IT READS IS OF BULK AT MOST 1048576: true; the input reads as it did. -/
def fnExactPacketOkUptoRow : OpenClaim := { program := "yteolobihfindjaa", sum := "21bb45c963df2b38b2fee2bbe1212ac2c1e26ba6beaf83860b66e7117a99c6c0", func := "loop.example/g00801/laws.FnExactPacketOk", spec := "fnExactPacketOk", apart := false, narrowed := true }
def FnExactPacketOkUptoSaid : Prop := fnExactPacketOkUptoRow.holds Try.pinned (OpenSpec.upto fnExactPacketOkSpec)

/-- 'laws.FnExactRecOk', WHERE WHAT IT READS IS OF BULK AT MOST 1048576: true; the input reads as it did. -/
def fnExactRecOkUptoRow : OpenClaim := { program := "yteolobihfindjaa", sum := "21bb45c963df2b38b2fee2bbe1212ac2c1e26ba6beaf83860b66e7117a99c6c0", func := "loop.example/g00801/laws.FnExactRecOk", spec := "fnExactRecOk", apart := false, narrowed := true }
def FnExactRecOkUptoSaid : Prop := fnExactRecOkUptoRow.holds Try.pinned (OpenSpec.upto fnExactRecOkSpec)

/-- 'laws.FnExactFinalOf', WHERE WHAT IT READS IS OF BULK AT MOST 1048576: true; the input reads as it did. -/
def fnExactFinalOfUptoRow : OpenClaim := { program := "yteolobihfindjaa", sum := "21bb45c963df2b38b2fee2bbe1212ac2c1e26ba6beaf83860b66e7117a99c6c0", func := "loop.example/g00801/laws.FnExactFinalOf", spec := "fnExactFinalOf", apart := false, narrowed := true }
def FnExactFinalOfUptoSaid : Prop := fnExactFinalOfUptoRow.holds Try.pinned (OpenSpec.upto fnExactFinalOfSpec)

/-- 'laws.FnExactAcctSame', WHERE WHAT IT READS IS OF BULK AT MOST 1048576: true; the input reads as it did. -/
def fnExactAcctSameUptoRow : OpenClaim := { program := "yteolobihfindjaa", sum := "21bb45c963df2b38b2fee2bbe1212ac2c1e26ba6beaf83860b66e7117a99c6c0", func := "loop.example/g00801/laws.FnExactAcctSame", spec := "fnExactAcctSame", apart := false, narrowed := true }
def FnExactAcctSameUptoSaid : Prop := fnExactAcctSameUptoRow.holds Try.pinned (OpenSpec.upto fnExactAcctSameSpec)

/-- 'laws.FnAcct', WHERE WHAT IT READS IS OF BULK AT MOST 1048576: true; the input reads as it did. -/
def fnAcctUptoRow : OpenClaim := { program := "yteolobihfindjaa", sum := "21bb45c963df2b38b2fee2bbe1212ac2c1e26ba6beaf83860b66e7117a99c6c0", func := "loop.example/g00801/laws.FnAcct", spec := "fnAcct", apart := false, narrowed := true }
def FnAcctUptoSaid : Prop := fnAcctUptoRow.holds Try.pinned (OpenSpec.upto fnAcctSpec)

/-- 'laws.FnExactNetTwice', WHERE WHAT IT READS IS OF BULK AT MOST 1048576: true; the input reads as it did. -/
def fnExactNetTwiceUptoRow : OpenClaim := { program := "yteolobihfindjaa", sum := "21bb45c963df2b38b2fee2bbe1212ac2c1e26ba6beaf83860b66e7117a99c6c0", func := "loop.example/g00801/laws.FnExactNetTwice", spec := "fnExactNetTwice", apart := false, narrowed := true }
def FnExactNetTwiceUptoSaid : Prop := fnExactNetTwiceUptoRow.holds Try.pinned (OpenSpec.upto fnExactNetTwiceSpec)

end Rows
end Go.Proofs.Yteolobihfindjaa
