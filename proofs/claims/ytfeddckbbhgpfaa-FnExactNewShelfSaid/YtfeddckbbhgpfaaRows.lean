/-
  No cell of these rows narrows 'for every input' (looked for: loops, veiled, ifaces, maps, wideKeys, modest, calm, conditions, laid).
  DERIVED. THE GIVEN ROWS OF THIS SEAT. 5 by the template 'for every input the law returns true; each argument reads behind the call as it read before'; 0 by the template 'total and deterministic' (their statements: YtfeddckbbhgpfaaTotals.lean).
  GIVEN WITH THE SEED: the statements are not yours to turn. If you find one false, say at which input.
  Laid BY PROGRAM, IN A SANDBOX (cutbox-rows.mjs): the forced cells as the released guide's own fill.sh prints them over the translation 0866d909d4976696… (all of the seat's roots in one cut). By AI agents, Wed Nov 11 2026. No macro, syntax, notation, axiom, sorry.
-/
import Derived.Test.YtfeddckbbhgpfaaChecked
import GoSem.Claim
import GoSem.ClaimJoined
import GoSem.ClaimMapViews
import Derived.JoinedTies
import Derived.KernelRfl
namespace Go.Proofs.Ytfeddckbbhgpfaa
/- THE CELL 'sum', in the pinned program and in every row, IS THE sha256 OF THE DUMP (.gsa) THAT YtfeddckbbhgpfaaProg.lean LOADS. Nothing in Lean hashes anything: it is a label: what it is worth is what the hold of that sum in a sandbox is worth. -/
noncomputable def Try.pinned : Pinned := { name := "ytfeddckbbhgpfaa", sum := "0866d909d4976696e27aa3b2564a4d1dde3ad7a08e9c6218c657c44e26b39f82", checked := Try.checked }
namespace Rows
def none {H : Type} : Left H := { results := [], args := [] }

/-- 'laws.FnExactNewShelf': WHATEVER THE INPUT: true; the input reads as it did. -/
def fnExactNewShelfSpec : ChangeSpec := { name := "fnExactNewShelf", fn := fun _ => fun
  | [] => { results := [.lit (.bool true)], args := [] }
  | _ => none }
def fnExactNewShelfRow : OpenClaim := { program := "ytfeddckbbhgpfaa", sum := "0866d909d4976696e27aa3b2564a4d1dde3ad7a08e9c6218c657c44e26b39f82", func := "loop.example/g00851/laws.FnExactNewShelf", spec := "fnExactNewShelf", apart := false }
def FnExactNewShelfSaid : Prop := fnExactNewShelfRow.holds Try.pinned (OpenSpec.ofChange fnExactNewShelfSpec)

/-- ITS FALSE NEIGHBOUR: 'it returns false'. Refute it at one input. -/
def fnExactNewShelfWrong : ChangeSpec := { name := "fnExactNewShelf", fn := fun _ => fun
  | [] => { results := [.lit (.bool false)], args := [] }
  | _ => none }
def FnExactNewShelfWrongFalsely : Prop := fnExactNewShelfRow.holds Try.pinned (OpenSpec.ofChange fnExactNewShelfWrong)

/-- 'laws.FnExactViewOk': WHATEVER THE INPUT: true; the input reads as it did. -/
def fnExactViewOkSpec : ChangeSpec := { name := "fnExactViewOk", fn := fun _ => fun
  | [d] => { results := [.lit (.bool true)], args := [d] }
  | _ => none }
def fnExactViewOkRow : OpenClaim := { program := "ytfeddckbbhgpfaa", sum := "0866d909d4976696e27aa3b2564a4d1dde3ad7a08e9c6218c657c44e26b39f82", func := "loop.example/g00851/laws.FnExactViewOk", spec := "fnExactViewOk", apart := false }
def FnExactViewOkSaid : Prop := fnExactViewOkRow.holds Try.pinned (OpenSpec.ofChange fnExactViewOkSpec)

/-- ITS FALSE NEIGHBOUR: 'it returns false'. Refute it at one input. -/
def fnExactViewOkWrong : ChangeSpec := { name := "fnExactViewOk", fn := fun _ => fun
  | [d] => { results := [.lit (.bool false)], args := [d] }
  | _ => none }
def FnExactViewOkWrongFalsely : Prop := fnExactViewOkRow.holds Try.pinned (OpenSpec.ofChange fnExactViewOkWrong)

/-- 'laws.FnExactStaleIn': WHATEVER THE INPUT: true; the input reads as it did. -/
def fnExactStaleInSpec : ChangeSpec := { name := "fnExactStaleIn", fn := fun _ => fun
  | [d1, d2] => { results := [.lit (.bool true)], args := [d1, d2] }
  | _ => none }
def fnExactStaleInRow : OpenClaim := { program := "ytfeddckbbhgpfaa", sum := "0866d909d4976696e27aa3b2564a4d1dde3ad7a08e9c6218c657c44e26b39f82", func := "loop.example/g00851/laws.FnExactStaleIn", spec := "fnExactStaleIn", apart := false }
def FnExactStaleInSaid : Prop := fnExactStaleInRow.holds Try.pinned (OpenSpec.ofChange fnExactStaleInSpec)

/-- ITS FALSE NEIGHBOUR: 'it returns false'. Refute it at one input. -/
def fnExactStaleInWrong : ChangeSpec := { name := "fnExactStaleIn", fn := fun _ => fun
  | [d1, d2] => { results := [.lit (.bool false)], args := [d1, d2] }
  | _ => none }
def FnExactStaleInWrongFalsely : Prop := fnExactStaleInRow.holds Try.pinned (OpenSpec.ofChange fnExactStaleInWrong)

/-- 'laws.FnExactNewSched': WHATEVER THE INPUT: true; the input reads as it did. -/
def fnExactNewSchedSpec : ChangeSpec := { name := "fnExactNewSched", fn := fun _ => fun
  | [d] => { results := [.lit (.bool true)], args := [d] }
  | _ => none }
def fnExactNewSchedRow : OpenClaim := { program := "ytfeddckbbhgpfaa", sum := "0866d909d4976696e27aa3b2564a4d1dde3ad7a08e9c6218c657c44e26b39f82", func := "loop.example/g00851/laws.FnExactNewSched", spec := "fnExactNewSched", apart := false }
def FnExactNewSchedSaid : Prop := fnExactNewSchedRow.holds Try.pinned (OpenSpec.ofChange fnExactNewSchedSpec)

/-- ITS FALSE NEIGHBOUR: 'it returns false'. Refute it at one input. -/
def fnExactNewSchedWrong : ChangeSpec := { name := "fnExactNewSched", fn := fun _ => fun
  | [d] => { results := [.lit (.bool false)], args := [d] }
  | _ => none }
def FnExactNewSchedWrongFalsely : Prop := fnExactNewSchedRow.holds Try.pinned (OpenSpec.ofChange fnExactNewSchedWrong)

/-- 'laws.FnExactGuessOf': WHATEVER THE INPUT: true; the input reads as it did. -/
def fnExactGuessOfSpec : ChangeSpec := { name := "fnExactGuessOf", fn := fun _ => fun
  | [d1, d2] => { results := [.lit (.bool true)], args := [d1, d2] }
  | _ => none }
def fnExactGuessOfRow : OpenClaim := { program := "ytfeddckbbhgpfaa", sum := "0866d909d4976696e27aa3b2564a4d1dde3ad7a08e9c6218c657c44e26b39f82", func := "loop.example/g00851/laws.FnExactGuessOf", spec := "fnExactGuessOf", apart := false }
def FnExactGuessOfSaid : Prop := fnExactGuessOfRow.holds Try.pinned (OpenSpec.ofChange fnExactGuessOfSpec)

/-- ITS FALSE NEIGHBOUR: 'it returns false'. Refute it at one input. -/
def fnExactGuessOfWrong : ChangeSpec := { name := "fnExactGuessOf", fn := fun _ => fun
  | [d1, d2] => { results := [.lit (.bool false)], args := [d1, d2] }
  | _ => none }
def FnExactGuessOfWrongFalsely : Prop := fnExactGuessOfRow.holds Try.pinned (OpenSpec.ofChange fnExactGuessOfWrong)

/- THE SECOND FORM. 'bulk': how many values and letters a reading holds, each counted each time it is reached (what is shared counts as often as it is met; a slice's spare places count too). A statement '..UptoSaid' is the law's where the arguments, and the package variables that the reading takes, are together of bulk at most 1048576: NARROWER than '..Said'. Prove '..Said' where nothing that the law and all that it calls make is longer than what came in: it says more and counts as full. Else prove '..UptoSaid'. A law counts once. -/
mutual
def uptoBulk {H : Type} : DataW H → Nat
  | .lit (.string bytes) => bytes.length + 1
  | .lit _ => 1
  | .nil => 1
  | .ptr d => uptoBulk d + 1
  | .slice elems spare => uptoBulkAll elems + uptoBulkAll spare + 1
  | .agg parts => uptoBulkAll parts + 1
  | .iface _ d => uptoBulk d + 1
  | .map entries => uptoBulkEntries entries + 1
  | .held _ => 1
def uptoBulkAll {H : Type} : List (DataW H) → Nat
  | [] => 0
  | d :: r => uptoBulk d + uptoBulkAll r
def uptoBulkEntries {H : Type} : List (Lit × DataW H) → Nat
  | [] => 0
  | x :: r => uptoBulkEntry x + uptoBulkEntries r
def uptoBulkEntry {H : Type} : Lit × DataW H → Nat
  | (.string bytes, d) => bytes.length + uptoBulk d + 1
  | (_, d) => uptoBulk d + 1
 end
def uptoSmall : (H : Type) → List (DataW H) → Bool := fun _ ds => decide (uptoBulkAll ds ≤ 1048576)
def OpenSpec.upto (s : _root_.Go.ChangeSpec) : _root_.Go.OpenSpec := { _root_.Go.OpenSpec.ofChange s with cond := some uptoSmall }

/-- 'laws.FnExactNewShelf', WHERE WHAT IT READS IS OF BULK AT MOST 1048576: true; the input reads as it did. -/
def fnExactNewShelfUptoRow : OpenClaim := { program := "ytfeddckbbhgpfaa", sum := "0866d909d4976696e27aa3b2564a4d1dde3ad7a08e9c6218c657c44e26b39f82", func := "loop.example/g00851/laws.FnExactNewShelf", spec := "fnExactNewShelf", apart := false, narrowed := true }
def FnExactNewShelfUptoSaid : Prop := fnExactNewShelfUptoRow.holds Try.pinned (OpenSpec.upto fnExactNewShelfSpec)

/-- 'laws.FnExactViewOk', WHERE WHAT IT READS IS OF BULK AT MOST 1048576: true; the input reads as it did. -/
def fnExactViewOkUptoRow : OpenClaim := { program := "ytfeddckbbhgpfaa", sum := "0866d909d4976696e27aa3b2564a4d1dde3ad7a08e9c6218c657c44e26b39f82", func := "loop.example/g00851/laws.FnExactViewOk", spec := "fnExactViewOk", apart := false, narrowed := true }
def FnExactViewOkUptoSaid : Prop := fnExactViewOkUptoRow.holds Try.pinned (OpenSpec.upto fnExactViewOkSpec)

/-- 'laws.FnExactStaleIn', WHERE WHAT IT READS IS OF BULK AT MOST 1048576: true; the input reads as it did. -/
def fnExactStaleInUptoRow : OpenClaim := { program := "ytfeddckbbhgpfaa", sum := "0866d909d4976696e27aa3b2564a4d1dde3ad7a08e9c6218c657c44e26b39f82", func := "loop.example/g00851/laws.FnExactStaleIn", spec := "fnExactStaleIn", apart := false, narrowed := true }
def FnExactStaleInUptoSaid : Prop := fnExactStaleInUptoRow.holds Try.pinned (OpenSpec.upto fnExactStaleInSpec)

/-- 'laws.FnExactNewSched', WHERE WHAT IT READS IS OF BULK AT MOST 1048576: true; the input reads as it did. -/
def fnExactNewSchedUptoRow : OpenClaim := { program := "ytfeddckbbhgpfaa", sum := "0866d909d4976696e27aa3b2564a4d1dde3ad7a08e9c6218c657c44e26b39f82", func := "loop.example/g00851/laws.FnExactNewSched", spec := "fnExactNewSched", apart := false, narrowed := true }
def FnExactNewSchedUptoSaid : Prop := fnExactNewSchedUptoRow.holds Try.pinned (OpenSpec.upto fnExactNewSchedSpec)

/-- 'laws.FnExactGuessOf', WHERE WHAT IT READS IS OF BULK AT MOST 1048576: true; the input reads as it did. -/
def fnExactGuessOfUptoRow : OpenClaim := { program := "ytfeddckbbhgpfaa", sum := "0866d909d4976696e27aa3b2564a4d1dde3ad7a08e9c6218c657c44e26b39f82", func := "loop.example/g00851/laws.FnExactGuessOf", spec := "fnExactGuessOf", apart := false, narrowed := true }
def FnExactGuessOfUptoSaid : Prop := fnExactGuessOfUptoRow.holds Try.pinned (OpenSpec.upto fnExactGuessOfSpec)

end Rows
end Go.Proofs.Ytfeddckbbhgpfaa
