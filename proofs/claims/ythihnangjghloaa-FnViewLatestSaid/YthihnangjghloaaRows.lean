/-
  No cell of these rows narrows 'for every input' (looked for: loops, veiled, ifaces, maps, wideKeys, modest, calm, conditions, laid).
  DERIVED. THE GIVEN ROWS OF THIS SEAT. 4 by the template 'for every input the law returns true; each argument reads behind the call as it read before'; 0 by the template 'total and deterministic' (their statements: YthihnangjghloaaTotals.lean).
  GIVEN WITH THE SEED: the statements are not yours to turn. If you find one false, say at which input.
  Laid BY PROGRAM, IN A SANDBOX (cutbox-rows.mjs): the forced cells as the released guide's own fill.sh prints them over the translation 5494c28ce6ebc736… (all of the seat's roots in one cut). By AI agents, Wed Nov 11 2026. No macro, syntax, notation, axiom, sorry.
-/
import Derived.Test.YthihnangjghloaaChecked
import GoSem.Claim
import GoSem.ClaimJoined
import GoSem.ClaimMapViews
import Derived.JoinedTies
import Derived.KernelRfl
namespace Go.Proofs.Ythihnangjghloaa
/- THE CELL 'sum', in the pinned program and in every row, IS THE sha256 OF THE DUMP (.gsa) THAT YthihnangjghloaaProg.lean LOADS. Nothing in Lean hashes anything: it is a label: what it is worth is what the hold of that sum in a sandbox is worth. -/
noncomputable def Try.pinned : Pinned := { name := "ythihnangjghloaa", sum := "5494c28ce6ebc736b23043816d7b303e5e6292ecf95be9c1d3913beb56dafb4c", checked := Try.checked }
namespace Rows
def none {H : Type} : Left H := { results := [], args := [] }

/-- 'laws.FnViewLatest': WHATEVER THE INPUT: true; the input reads as it did. -/
def fnViewLatestSpec : ChangeSpec := { name := "fnViewLatest", fn := fun _ => fun
  | [d] => { results := [.lit (.bool true)], args := [d] }
  | _ => none }
def fnViewLatestRow : OpenClaim := { program := "ythihnangjghloaa", sum := "5494c28ce6ebc736b23043816d7b303e5e6292ecf95be9c1d3913beb56dafb4c", func := "loop.example/g00851/laws.FnViewLatest", spec := "fnViewLatest", apart := false }
def FnViewLatestSaid : Prop := fnViewLatestRow.holds Try.pinned (OpenSpec.ofChange fnViewLatestSpec)

/-- ITS FALSE NEIGHBOUR: 'it returns false'. Refute it at one input. -/
def fnViewLatestWrong : ChangeSpec := { name := "fnViewLatest", fn := fun _ => fun
  | [d] => { results := [.lit (.bool false)], args := [d] }
  | _ => none }
def FnViewLatestWrongFalsely : Prop := fnViewLatestRow.holds Try.pinned (OpenSpec.ofChange fnViewLatestWrong)

/-- 'laws.FnExactDecided': WHATEVER THE INPUT: true; the input reads as it did. -/
def fnExactDecidedSpec : ChangeSpec := { name := "fnExactDecided", fn := fun _ => fun
  | [d1, d2] => { results := [.lit (.bool true)], args := [d1, d2] }
  | _ => none }
def fnExactDecidedRow : OpenClaim := { program := "ythihnangjghloaa", sum := "5494c28ce6ebc736b23043816d7b303e5e6292ecf95be9c1d3913beb56dafb4c", func := "loop.example/g00851/laws.FnExactDecided", spec := "fnExactDecided", apart := false }
def FnExactDecidedSaid : Prop := fnExactDecidedRow.holds Try.pinned (OpenSpec.ofChange fnExactDecidedSpec)

/-- ITS FALSE NEIGHBOUR: 'it returns false'. Refute it at one input. -/
def fnExactDecidedWrong : ChangeSpec := { name := "fnExactDecided", fn := fun _ => fun
  | [d1, d2] => { results := [.lit (.bool false)], args := [d1, d2] }
  | _ => none }
def FnExactDecidedWrongFalsely : Prop := fnExactDecidedRow.holds Try.pinned (OpenSpec.ofChange fnExactDecidedWrong)

/-- 'laws.FnExactSendsOf': WHATEVER THE INPUT: true; the input reads as it did. -/
def fnExactSendsOfSpec : ChangeSpec := { name := "fnExactSendsOf", fn := fun _ => fun
  | [d] => { results := [.lit (.bool true)], args := [d] }
  | _ => none }
def fnExactSendsOfRow : OpenClaim := { program := "ythihnangjghloaa", sum := "5494c28ce6ebc736b23043816d7b303e5e6292ecf95be9c1d3913beb56dafb4c", func := "loop.example/g00851/laws.FnExactSendsOf", spec := "fnExactSendsOf", unfollowed := true, recurses := true, apart := false }
def FnExactSendsOfSaid : Prop := fnExactSendsOfRow.holds Try.pinned (OpenSpec.ofChange fnExactSendsOfSpec)

/-- ITS FALSE NEIGHBOUR: 'it returns false'. Refute it at one input. -/
def fnExactSendsOfWrong : ChangeSpec := { name := "fnExactSendsOf", fn := fun _ => fun
  | [d] => { results := [.lit (.bool false)], args := [d] }
  | _ => none }
def FnExactSendsOfWrongFalsely : Prop := fnExactSendsOfRow.holds Try.pinned (OpenSpec.ofChange fnExactSendsOfWrong)

/-- 'laws.FnGuess': WHATEVER THE INPUT: true; the input reads as it did. -/
def fnGuessSpec : ChangeSpec := { name := "fnGuess", fn := fun _ => fun
  | [d] => { results := [.lit (.bool true)], args := [d] }
  | _ => none }
def fnGuessRow : OpenClaim := { program := "ythihnangjghloaa", sum := "5494c28ce6ebc736b23043816d7b303e5e6292ecf95be9c1d3913beb56dafb4c", func := "loop.example/g00851/laws.FnGuess", spec := "fnGuess", apart := false }
def FnGuessSaid : Prop := fnGuessRow.holds Try.pinned (OpenSpec.ofChange fnGuessSpec)

/-- ITS FALSE NEIGHBOUR: 'it returns false'. Refute it at one input. -/
def fnGuessWrong : ChangeSpec := { name := "fnGuess", fn := fun _ => fun
  | [d] => { results := [.lit (.bool false)], args := [d] }
  | _ => none }
def FnGuessWrongFalsely : Prop := fnGuessRow.holds Try.pinned (OpenSpec.ofChange fnGuessWrong)

/- THE SECOND FORM. 'bulk': how many values and letters a reading holds, each counted each time it is reached (what is shared counts as often as it is met; a slice's spare places count too). A statement '..UptoSaid' is the law's where the arguments, and the package variables that the reading takes, are together of bulk at most 1048576: NARROWER than '..Said'. Prove '..Said' where nothing that the law and all that it calls make is longer than what came in: it says more and counts as full. Else prove '..UptoSaid'. A law counts once. -/
mutual
def uptoBulk {H : Type} : DataW H → Nat
  | .lit (.string bytes) => bytes.length + 1
  | .lit _ => 1
  | .nil => 1
  | .ptr d => uptoBulk d + 1
  | .slice elems spare => uptoBulkAll elems + uptoBulkAll spare + 1
  | .agg parts => uptoBulkAll parts + 1
  | .iface _ d => uptoBulk d + 1
  | .map entries => uptoBulkEntries entries + 1
  | .held _ => 1
def uptoBulkAll {H : Type} : List (DataW H) → Nat
  | [] => 0
  | d :: r => uptoBulk d + uptoBulkAll r
def uptoBulkEntries {H : Type} : List (Lit × DataW H) → Nat
  | [] => 0
  | x :: r => uptoBulkEntry x + uptoBulkEntries r
def uptoBulkEntry {H : Type} : Lit × DataW H → Nat
  | (.string bytes, d) => bytes.length + uptoBulk d + 1
  | (_, d) => uptoBulk d + 1
 end
def uptoSmall : (H : Type) → List (DataW H) → Bool := fun _ ds => decide (uptoBulkAll ds ≤ 1048576)
def OpenSpec.upto (s : _root_.Go.ChangeSpec) : _root_.Go.OpenSpec := { _root_.Go.OpenSpec.ofChange s with cond := some uptoSmall }

/-- 'laws.FnViewLatest', WHERE WHAT IT READS IS OF BULK AT MOST 1048576: true; the input reads as it did. -/
def fnViewLatestUptoRow : OpenClaim := { program := "ythihnangjghloaa", sum := "5494c28ce6ebc736b23043816d7b303e5e6292ecf95be9c1d3913beb56dafb4c", func := "loop.example/g00851/laws.FnViewLatest", spec := "fnViewLatest", apart := false, narrowed := true }
def FnViewLatestUptoSaid : Prop := fnViewLatestUptoRow.holds Try.pinned (OpenSpec.upto fnViewLatestSpec)

/-- 'laws.FnExactDecided', WHERE WHAT IT READS IS OF BULK AT MOST 1048576: true; the input reads as it did. -/
def fnExactDecidedUptoRow : OpenClaim := { program := "ythihnangjghloaa", sum := "5494c28ce6ebc736b23043816d7b303e5e6292ecf95be9c1d3913beb56dafb4c", func := "loop.example/g00851/laws.FnExactDecided", spec := "fnExactDecided", apart := false, narrowed := true }
def FnExactDecidedUptoSaid : Prop := fnExactDecidedUptoRow.holds Try.pinned (OpenSpec.upto fnExactDecidedSpec)

/-- 'laws.FnExactSendsOf', WHERE WHAT IT READS IS OF BULK AT MOST 1048576: true; the input reads as it did. -/
def fnExactSendsOfUptoRow : OpenClaim := { program := "ythihnangjghloaa", sum := "5494c28ce6ebc736b23043816d7b303e5e6292ecf95be9c1d3913beb56dafb4c", func := "loop.example/g00851/laws.FnExactSendsOf", spec := "fnExactSendsOf", unfollowed := true, recurses := true, apart := false, narrowed := true }
def FnExactSendsOfUptoSaid : Prop := fnExactSendsOfUptoRow.holds Try.pinned (OpenSpec.upto fnExactSendsOfSpec)

/-- 'laws.FnGuess', WHERE WHAT IT READS IS OF BULK AT MOST 1048576: true; the input reads as it did. -/
def fnGuessUptoRow : OpenClaim := { program := "ythihnangjghloaa", sum := "5494c28ce6ebc736b23043816d7b303e5e6292ecf95be9c1d3913beb56dafb4c", func := "loop.example/g00851/laws.FnGuess", spec := "fnGuess", apart := false, narrowed := true }
def FnGuessUptoSaid : Prop := fnGuessUptoRow.holds Try.pinned (OpenSpec.upto fnGuessSpec)

end Rows
end Go.Proofs.Ythihnangjghloaa
