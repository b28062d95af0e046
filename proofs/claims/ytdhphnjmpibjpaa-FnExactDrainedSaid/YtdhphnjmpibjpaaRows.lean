/-
  No cell of these rows narrows 'for every input' (looked for: loops, veiled, ifaces, maps, wideKeys, modest, calm, conditions, laid).
  DERIVED. THE GIVEN ROWS OF THIS SEAT. 7 by the template 'for every input the law returns true; each argument reads behind the call as it read before'; 0 by the template 'total and deterministic' (their statements: YtdhphnjmpibjpaaTotals.lean).
  GIVEN WITH THE SEED: the statements are not yours to turn. If you find one false, say at which input.
  Laid BY PROGRAM, IN A SANDBOX (cutbox-rows.mjs): the forced cells as the released guide's own fill.sh prints them over the translation 1553fa5c1b01b88c… (all of the seat's roots in one cut). By AI agents, Wed Nov 11 2026. No macro, syntax, notation, axiom, sorry.
-/
import Derived.Test.YtdhphnjmpibjpaaChecked
import GoSem.Claim
import GoSem.ClaimJoined
import GoSem.ClaimMapViews
import Derived.JoinedTies
import Derived.KernelRfl
namespace Go.Proofs.Ytdhphnjmpibjpaa
/- THE CELL 'sum', in the pinned program and in every row, IS THE sha256 OF THE DUMP (.gsa) THAT YtdhphnjmpibjpaaProg.lean LOADS. Nothing in Lean hashes anything: it is a label: what it is worth is what the hold of that sum in a sandbox is worth. -/
noncomputable def Try.pinned : Pinned := { name := "ytdhphnjmpibjpaa", sum := "1553fa5c1b01b88c4d1e5cbab7304785a44f9866c80272678940f679dd9e36f4", checked := Try.checked }
namespace Rows
def none {H : Type} : Left H := { results := [], args := [] }

/-- 'laws.FnExactActWord': WHATEVER THE INPUT: true; the input reads as it did. -/
def fnExactActWordSpec : ChangeSpec := { name := "fnExactActWord", fn := fun _ => fun
  | [d] => { results := [.lit (.bool true)], args := [d] }
  | _ => none }
def fnExactActWordRow : OpenClaim := { program := "ytdhphnjmpibjpaa", sum := "1553fa5c1b01b88c4d1e5cbab7304785a44f9866c80272678940f679dd9e36f4", func := "loop.example/g00501/laws.FnExactActWord", spec := "fnExactActWord", apart := false }
def FnExactActWordSaid : Prop := fnExactActWordRow.holds Try.pinned (OpenSpec.ofChange fnExactActWordSpec)

/-- ITS FALSE NEIGHBOUR: 'it returns false'. Refute it at one input. -/
def fnExactActWordWrong : ChangeSpec := { name := "fnExactActWord", fn := fun _ => fun
  | [d] => { results := [.lit (.bool false)], args := [d] }
  | _ => none }
def FnExactActWordWrongFalsely : Prop := fnExactActWordRow.holds Try.pinned (OpenSpec.ofChange fnExactActWordWrong)

/-- 'laws.FnExactStateWord': WHATEVER THE INPUT: true; the input reads as it did. -/
def fnExactStateWordSpec : ChangeSpec := { name := "fnExactStateWord", fn := fun _ => fun
  | [d] => { results := [.lit (.bool true)], args := [d] }
  | _ => none }
def fnExactStateWordRow : OpenClaim := { program := "ytdhphnjmpibjpaa", sum := "1553fa5c1b01b88c4d1e5cbab7304785a44f9866c80272678940f679dd9e36f4", func := "loop.example/g00501/laws.FnExactStateWord", spec := "fnExactStateWord", apart := false }
def FnExactStateWordSaid : Prop := fnExactStateWordRow.holds Try.pinned (OpenSpec.ofChange fnExactStateWordSpec)

/-- ITS FALSE NEIGHBOUR: 'it returns false'. Refute it at one input. -/
def fnExactStateWordWrong : ChangeSpec := { name := "fnExactStateWord", fn := fun _ => fun
  | [d] => { results := [.lit (.bool false)], args := [d] }
  | _ => none }
def FnExactStateWordWrongFalsely : Prop := fnExactStateWordRow.holds Try.pinned (OpenSpec.ofChange fnExactStateWordWrong)

/-- 'laws.FnExactInOk': WHATEVER THE INPUT: true; the input reads as it did. -/
def fnExactInOkSpec : ChangeSpec := { name := "fnExactInOk", fn := fun _ => fun
  | [d] => { results := [.lit (.bool true)], args := [d] }
  | _ => none }
def fnExactInOkRow : OpenClaim := { program := "ytdhphnjmpibjpaa", sum := "1553fa5c1b01b88c4d1e5cbab7304785a44f9866c80272678940f679dd9e36f4", func := "loop.example/g00501/laws.FnExactInOk", spec := "fnExactInOk", apart := false }
def FnExactInOkSaid : Prop := fnExactInOkRow.holds Try.pinned (OpenSpec.ofChange fnExactInOkSpec)

/-- ITS FALSE NEIGHBOUR: 'it returns false'. Refute it at one input. -/
def fnExactInOkWrong : ChangeSpec := { name := "fnExactInOk", fn := fun _ => fun
  | [d] => { results := [.lit (.bool false)], args := [d] }
  | _ => none }
def FnExactInOkWrongFalsely : Prop := fnExactInOkRow.holds Try.pinned (OpenSpec.ofChange fnExactInOkWrong)

/-- 'laws.FnExactOutOk': WHATEVER THE INPUT: true; the input reads as it did. -/
def fnExactOutOkSpec : ChangeSpec := { name := "fnExactOutOk", fn := fun _ => fun
  | [d] => { results := [.lit (.bool true)], args := [d] }
  | _ => none }
def fnExactOutOkRow : OpenClaim := { program := "ytdhphnjmpibjpaa", sum := "1553fa5c1b01b88c4d1e5cbab7304785a44f9866c80272678940f679dd9e36f4", func := "loop.example/g00501/laws.FnExactOutOk", spec := "fnExactOutOk", apart := false }
def FnExactOutOkSaid : Prop := fnExactOutOkRow.holds Try.pinned (OpenSpec.ofChange fnExactOutOkSpec)

/-- ITS FALSE NEIGHBOUR: 'it returns false'. Refute it at one input. -/
def fnExactOutOkWrong : ChangeSpec := { name := "fnExactOutOk", fn := fun _ => fun
  | [d] => { results := [.lit (.bool false)], args := [d] }
  | _ => none }
def FnExactOutOkWrongFalsely : Prop := fnExactOutOkRow.holds Try.pinned (OpenSpec.ofChange fnExactOutOkWrong)

/-- 'laws.FnExactLegal': WHATEVER THE INPUT: true; the input reads as it did. -/
def fnExactLegalSpec : ChangeSpec := { name := "fnExactLegal", fn := fun _ => fun
  | [d1, d2] => { results := [.lit (.bool true)], args := [d1, d2] }
  | _ => none }
def fnExactLegalRow : OpenClaim := { program := "ytdhphnjmpibjpaa", sum := "1553fa5c1b01b88c4d1e5cbab7304785a44f9866c80272678940f679dd9e36f4", func := "loop.example/g00501/laws.FnExactLegal", spec := "fnExactLegal", apart := false }
def FnExactLegalSaid : Prop := fnExactLegalRow.holds Try.pinned (OpenSpec.ofChange fnExactLegalSpec)

/-- ITS FALSE NEIGHBOUR: 'it returns false'. Refute it at one input. -/
def fnExactLegalWrong : ChangeSpec := { name := "fnExactLegal", fn := fun _ => fun
  | [d1, d2] => { results := [.lit (.bool false)], args := [d1, d2] }
  | _ => none }
def FnExactLegalWrongFalsely : Prop := fnExactLegalRow.holds Try.pinned (OpenSpec.ofChange fnExactLegalWrong)

/-- 'laws.FnExactAddBytes': WHATEVER THE INPUT: true; the input reads as it did. -/
def fnExactAddBytesSpec : ChangeSpec := { name := "fnExactAddBytes", fn := fun _ => fun
  | [d1, d2] => { results := [.lit (.bool true)], args := [d1, d2] }
  | _ => none }
def fnExactAddBytesRow : OpenClaim := { program := "ytdhphnjmpibjpaa", sum := "1553fa5c1b01b88c4d1e5cbab7304785a44f9866c80272678940f679dd9e36f4", func := "loop.example/g00501/laws.FnExactAddBytes", spec := "fnExactAddBytes", apart := false }
def FnExactAddBytesSaid : Prop := fnExactAddBytesRow.holds Try.pinned (OpenSpec.ofChange fnExactAddBytesSpec)

/-- ITS FALSE NEIGHBOUR: 'it returns false'. Refute it at one input. -/
def fnExactAddBytesWrong : ChangeSpec := { name := "fnExactAddBytes", fn := fun _ => fun
  | [d1, d2] => { results := [.lit (.bool false)], args := [d1, d2] }
  | _ => none }
def FnExactAddBytesWrongFalsely : Prop := fnExactAddBytesRow.holds Try.pinned (OpenSpec.ofChange fnExactAddBytesWrong)

/-- 'laws.FnExactDrained': WHATEVER THE INPUT: true; the input reads as it did. -/
def fnExactDrainedSpec : ChangeSpec := { name := "fnExactDrained", fn := fun _ => fun
  | [d1, d2] => { results := [.lit (.bool true)], args := [d1, d2] }
  | _ => none }
def fnExactDrainedRow : OpenClaim := { program := "ytdhphnjmpibjpaa", sum := "1553fa5c1b01b88c4d1e5cbab7304785a44f9866c80272678940f679dd9e36f4", func := "loop.example/g00501/laws.FnExactDrained", spec := "fnExactDrained", apart := false }
def FnExactDrainedSaid : Prop := fnExactDrainedRow.holds Try.pinned (OpenSpec.ofChange fnExactDrainedSpec)

/-- ITS FALSE NEIGHBOUR: 'it returns false'. Refute it at one input. -/
def fnExactDrainedWrong : ChangeSpec := { name := "fnExactDrained", fn := fun _ => fun
  | [d1, d2] => { results := [.lit (.bool false)], args := [d1, d2] }
  | _ => none }
def FnExactDrainedWrongFalsely : Prop := fnExactDrainedRow.holds Try.pinned (OpenSpec.ofChange fnExactDrainedWrong)

/- THE SECOND FORM. 'bulk': how many values and letters a reading holds, each counted each time it is reached (what is shared counts as often as it is met; a slice's spare places count too). A statement '..UptoSaid' is the law's where the arguments, and the package variables that the reading takes, are together of bulk at most 1048576: NARROWER than '..Said'. Prove '..Said' where nothing that the law and all that it calls make is longer than what came in: it says more and counts as full. Else prove '..UptoSaid'. A law counts once. -/
mutual
def uptoBulk {H : Type} : DataW H → Nat
  | .lit (.string bytes) => bytes.length + 1
  | .lit _ => 1
  | .nil => 1
  | .ptr d => uptoBulk d + 1
  | .slice elems spare => uptoBulkAll elems + uptoBulkAll spare + 1
  | .agg parts => uptoBulkAll parts + 1
  | .iface _ d => uptoBulk d + 1
  | .map entries => uptoBulkEntries entries + 1
  | .held _ => 1
def uptoBulkAll {H : Type} : List (DataW H) → Nat
  | [] => 0
  | d :: r => uptoBulk d + uptoBulkAll r
def uptoBulkEntries {H : Type} : List (Lit × DataW H) → Nat
  | [] => 0
  | x :: r => uptoBulkEntry x + uptoBulkEntries r
def uptoBulkEntry {H : Type} : Lit × DataW H → Nat
  | (.string bytes, d) => bytes.length + uptoBulk d + 1
  | (_, d) => uptoBulk d + 1
 end
def uptoSmall : (H : Type) → List (DataW H) → Bool := fun _ ds => decide (uptoBulkAll ds ≤ 1048576)
def OpenSpec.upto (s : _root_.Go.ChangeSpec) : _root_.Go.OpenSpec := { _root_.Go.OpenSpec.ofChange s with cond := some uptoSmall }

/-- 'laws.FnExactActWord', WHERE WHAT IT READS IS OF BULK AT MOST 1048576: true; the input reads as it did. -/
def fnExactActWordUptoRow : OpenClaim := { program := "ytdhphnjmpibjpaa", sum := "1553fa5c1b01b88c4d1e5cbab7304785a44f9866c80272678940f679dd9e36f4", func := "loop.example/g00501/laws.FnExactActWord", spec := "fnExactActWord", apart := false, narrowed := true }
def FnExactActWordUptoSaid : Prop := fnExactActWordUptoRow.holds Try.pinned (OpenSpec.upto fnExactActWordSpec)

/-- 'laws.FnExactStateWord', WHERE WHAT IT READS IS OF BULK AT MOST 1048576: true; the input reads as it did. -/
def fnExactStateWordUptoRow : OpenClaim := { program := "ytdhphnjmpibjpaa", sum := "1553fa5c1b01b88c4d1e5cbab7304785a44f9866c80272678940f679dd9e36f4", func := "loop.example/g00501/laws.FnExactStateWord", spec := "fnExactStateWord", apart := false, narrowed := true }
def FnExactStateWordUptoSaid : Prop := fnExactStateWordUptoRow.holds Try.pinned (OpenSpec.upto fnExactStateWordSpec)

/-- 'laws.FnExactInOk', WHERE WHAT IT READS IS OF BULK AT MOST 1048576: true; the input reads as it did. -/
def fnExactInOkUptoRow : OpenClaim := { program := "ytdhphnjmpibjpaa", sum := "1553fa5c1b01b88c4d1e5cbab7304785a44f9866c80272678940f679dd9e36f4", func := "loop.example/g00501/laws.FnExactInOk", spec := "fnExactInOk", apart := false, narrowed := true }
def FnExactInOkUptoSaid : Prop := fnExactInOkUptoRow.holds Try.pinned (OpenSpec.upto fnExactInOkSpec)

/-- 'laws.FnExactOutOk', WHERE WHAT IT READS IS OF BULK AT MOST 1048576: true; the input reads as it did. -/
def fnExactOutOkUptoRow : OpenClaim := { program := "ytdhphnjmpibjpaa", sum := "1553fa5c1b01b88c4d1e5cbab7304785a44f9866c80272678940f679dd9e36f4", func := "loop.example/g00501/laws.FnExactOutOk", spec := "fnExactOutOk", apart := false, narrowed := true }
def FnExactOutOkUptoSaid : Prop := fnExactOutOkUptoRow.holds Try.pinned (OpenSpec.upto fnExactOutOkSpec)

/-- 'laws.FnExactLegal', WHERE WHAT IT READS IS OF BULK AT MOST 1048576: true; the input reads as it did. -/
def fnExactLegalUptoRow : OpenClaim := { program := "ytdhphnjmpibjpaa", sum := "1553fa5c1b01b88c4d1e5cbab7304785a44f9866c80272678940f679dd9e36f4", func := "loop.example/g00501/laws.FnExactLegal", spec := "fnExactLegal", apart := false, narrowed := true }
def FnExactLegalUptoSaid : Prop := fnExactLegalUptoRow.holds Try.pinned (OpenSpec.upto fnExactLegalSpec)

/-- 'laws.FnExactAddBytes', WHERE WHAT IT READS IS OF BULK AT MOST 1048576: true; the input reads as it did. -/
def fnExactAddBytesUptoRow : OpenClaim := { program := "ytdhphnjmpibjpaa", sum := "1553fa5c1b01b88c4d1e5cbab7304785a44f9866c80272678940f679dd9e36f4", func := "loop.example/g00501/laws.FnExactAddBytes", spec := "fnExactAddBytes", apart := false, narrowed := true }
def FnExactAddBytesUptoSaid : Prop := fnExactAddBytesUptoRow.holds Try.pinned (OpenSpec.upto fnExactAddBytesSpec)

/-- 'laws.FnExactDrained', WHERE WHAT IT READS IS OF BULK AT MOST 1048576: true; the input reads as it did. -/
def fnExactDrainedUptoRow : OpenClaim := { program := "ytdhphnjmpibjpaa", sum := "1553fa5c1b01b88c4d1e5cbab7304785a44f9866c80272678940f679dd9e36f4", func := "loop.example/g00501/laws.FnExactDrained", spec := "fnExactDrained", apart := false, narrowed := true }
def FnExactDrainedUptoSaid : Prop := fnExactDrainedUptoRow.holds Try.pinned (OpenSpec.upto fnExactDrainedSpec)

end Rows
end Go.Proofs.Ytdhphnjmpibjpaa
