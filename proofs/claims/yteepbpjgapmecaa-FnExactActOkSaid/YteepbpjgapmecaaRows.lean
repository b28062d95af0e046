/-
  No cell of these rows narrows 'for every input' (looked for: loops, veiled, ifaces, maps, wideKeys, modest, calm, conditions, laid).
  DERIVED. THE GIVEN ROWS OF THIS SEAT. 12 by the template 'for every input the law returns true; each argument reads behind the call as it read before'; 0 by the template 'total and deterministic' (their statements: YteepbpjgapmecaaTotals.lean).
  GIVEN WITH THE SEED: the statements are not yours to turn. If you find one false, say at which input.
  Laid BY PROGRAM, IN A SANDBOX (cutbox-rows.mjs): the forced cells as the released guide's own fill.sh prints them over the translation a8b499a84e111d83… (all of the seat's roots in one cut). By AI agents, Wed Nov 11 2026. No macro, syntax, notation, axiom, sorry.
-/
import Derived.Test.YteepbpjgapmecaaChecked
import GoSem.Claim
import GoSem.ClaimJoined
import GoSem.ClaimMapViews
import Derived.JoinedTies
import Derived.KernelRfl
namespace Go.Proofs.Yteepbpjgapmecaa
/- THE CELL 'sum', in the pinned program and in every row, IS THE sha256 OF THE DUMP (.gsa) THAT YteepbpjgapmecaaProg.lean LOADS. Nothing in Lean hashes anything: it is a label: what it is worth is what the hold of that sum in a sandbox is worth. -/
noncomputable def Try.pinned : Pinned := { name := "yteepbpjgapmecaa", sum := "a8b499a84e111d831a0a17558694dc378ee7502ad993cdae0964bf92fb771bd4", checked := Try.checked }
namespace Rows
def none {H : Type} : Left H := { results := [], args := [] }

/-- 'laws.FnExactActOk': WHATEVER THE INPUT: true; the input reads as it did. -/
def fnExactActOkSpec : ChangeSpec := { name := "fnExactActOk", fn := fun _ => fun
  | [d] => { results := [.lit (.bool true)], args := [d] }
  | _ => none }
def fnExactActOkRow : OpenClaim := { program := "yteepbpjgapmecaa", sum := "a8b499a84e111d831a0a17558694dc378ee7502ad993cdae0964bf92fb771bd4", func := "loop.example/g00501/laws.FnExactActOk", spec := "fnExactActOk", apart := false }
def FnExactActOkSaid : Prop := fnExactActOkRow.holds Try.pinned (OpenSpec.ofChange fnExactActOkSpec)

/-- ITS FALSE NEIGHBOUR: 'it returns false'. Refute it at one input. -/
def fnExactActOkWrong : ChangeSpec := { name := "fnExactActOk", fn := fun _ => fun
  | [d] => { results := [.lit (.bool false)], args := [d] }
  | _ => none }
def FnExactActOkWrongFalsely : Prop := fnExactActOkRow.holds Try.pinned (OpenSpec.ofChange fnExactActOkWrong)

/-- 'laws.FnExactStatusOf': WHATEVER THE INPUT: true; the input reads as it did. -/
def fnExactStatusOfSpec : ChangeSpec := { name := "fnExactStatusOf", fn := fun _ => fun
  | [d1, d2] => { results := [.lit (.bool true)], args := [d1, d2] }
  | _ => none }
def fnExactStatusOfRow : OpenClaim := { program := "yteepbpjgapmecaa", sum := "a8b499a84e111d831a0a17558694dc378ee7502ad993cdae0964bf92fb771bd4", func := "loop.example/g00501/laws.FnExactStatusOf", spec := "fnExactStatusOf", unfollowed := true, recurses := true, apart := false }
def FnExactStatusOfSaid : Prop := fnExactStatusOfRow.holds Try.pinned (OpenSpec.ofChange fnExactStatusOfSpec)

/-- ITS FALSE NEIGHBOUR: 'it returns false'. Refute it at one input. -/
def fnExactStatusOfWrong : ChangeSpec := { name := "fnExactStatusOf", fn := fun _ => fun
  | [d1, d2] => { results := [.lit (.bool false)], args := [d1, d2] }
  | _ => none }
def FnExactStatusOfWrongFalsely : Prop := fnExactStatusOfRow.holds Try.pinned (OpenSpec.ofChange fnExactStatusOfWrong)

/-- 'laws.FnExactMayTell': WHATEVER THE INPUT: true; the input reads as it did. -/
def fnExactMayTellSpec : ChangeSpec := { name := "fnExactMayTell", fn := fun _ => fun
  | [d] => { results := [.lit (.bool true)], args := [d] }
  | _ => none }
def fnExactMayTellRow : OpenClaim := { program := "yteepbpjgapmecaa", sum := "a8b499a84e111d831a0a17558694dc378ee7502ad993cdae0964bf92fb771bd4", func := "loop.example/g00501/laws.FnExactMayTell", spec := "fnExactMayTell", unfollowed := true, recurses := true, apart := false }
def FnExactMayTellSaid : Prop := fnExactMayTellRow.holds Try.pinned (OpenSpec.ofChange fnExactMayTellSpec)

/-- ITS FALSE NEIGHBOUR: 'it returns false'. Refute it at one input. -/
def fnExactMayTellWrong : ChangeSpec := { name := "fnExactMayTell", fn := fun _ => fun
  | [d] => { results := [.lit (.bool false)], args := [d] }
  | _ => none }
def FnExactMayTellWrongFalsely : Prop := fnExactMayTellRow.holds Try.pinned (OpenSpec.ofChange fnExactMayTellWrong)

/-- 'laws.FnExactPending': WHATEVER THE INPUT: true; the input reads as it did. -/
def fnExactPendingSpec : ChangeSpec := { name := "fnExactPending", fn := fun _ => fun
  | [d] => { results := [.lit (.bool true)], args := [d] }
  | _ => none }
def fnExactPendingRow : OpenClaim := { program := "yteepbpjgapmecaa", sum := "a8b499a84e111d831a0a17558694dc378ee7502ad993cdae0964bf92fb771bd4", func := "loop.example/g00501/laws.FnExactPending", spec := "fnExactPending", unfollowed := true, recurses := true, apart := false }
def FnExactPendingSaid : Prop := fnExactPendingRow.holds Try.pinned (OpenSpec.ofChange fnExactPendingSpec)

/-- ITS FALSE NEIGHBOUR: 'it returns false'. Refute it at one input. -/
def fnExactPendingWrong : ChangeSpec := { name := "fnExactPending", fn := fun _ => fun
  | [d] => { results := [.lit (.bool false)], args := [d] }
  | _ => none }
def FnExactPendingWrongFalsely : Prop := fnExactPendingRow.holds Try.pinned (OpenSpec.ofChange fnExactPendingWrong)

/-- 'laws.FnExactPushed': WHATEVER THE INPUT: true; the input reads as it did. -/
def fnExactPushedSpec : ChangeSpec := { name := "fnExactPushed", fn := fun _ => fun
  | [d1, d2] => { results := [.lit (.bool true)], args := [d1, d2] }
  | _ => none }
def fnExactPushedRow : OpenClaim := { program := "yteepbpjgapmecaa", sum := "a8b499a84e111d831a0a17558694dc378ee7502ad993cdae0964bf92fb771bd4", func := "loop.example/g00501/laws.FnExactPushed", spec := "fnExactPushed", inPlace := ["internal/bytealg.IndexByteString", "internal/bytealg.IndexString"], unfollowed := true, recurses := true, named := ["internal/bytealg.MaxLen"], apart := false }
def FnExactPushedSaid : Prop := fnExactPushedRow.holds Try.pinned (OpenSpec.ofChange fnExactPushedSpec)

/-- ITS FALSE NEIGHBOUR: 'it returns false'. Refute it at one input. -/
def fnExactPushedWrong : ChangeSpec := { name := "fnExactPushed", fn := fun _ => fun
  | [d1, d2] => { results := [.lit (.bool false)], args := [d1, d2] }
  | _ => none }
def FnExactPushedWrongFalsely : Prop := fnExactPushedRow.holds Try.pinned (OpenSpec.ofChange fnExactPushedWrong)

/-- 'laws.FnExactSameSession': WHATEVER THE INPUT: true; the input reads as it did. -/
def fnExactSameSessionSpec : ChangeSpec := { name := "fnExactSameSession", fn := fun _ => fun
  | [d1, d2] => { results := [.lit (.bool true)], args := [d1, d2] }
  | _ => none }
def fnExactSameSessionRow : OpenClaim := { program := "yteepbpjgapmecaa", sum := "a8b499a84e111d831a0a17558694dc378ee7502ad993cdae0964bf92fb771bd4", func := "loop.example/g00501/laws.FnExactSameSession", spec := "fnExactSameSession", unfollowed := true, recurses := true, apart := false }
def FnExactSameSessionSaid : Prop := fnExactSameSessionRow.holds Try.pinned (OpenSpec.ofChange fnExactSameSessionSpec)

/-- ITS FALSE NEIGHBOUR: 'it returns false'. Refute it at one input. -/
def fnExactSameSessionWrong : ChangeSpec := { name := "fnExactSameSession", fn := fun _ => fun
  | [d1, d2] => { results := [.lit (.bool false)], args := [d1, d2] }
  | _ => none }
def FnExactSameSessionWrongFalsely : Prop := fnExactSameSessionRow.holds Try.pinned (OpenSpec.ofChange fnExactSameSessionWrong)

/-- 'laws.FnAddBytes': WHATEVER THE INPUT: true; the input reads as it did. -/
def fnAddBytesSpec : ChangeSpec := { name := "fnAddBytes", fn := fun _ => fun
  | [d] => { results := [.lit (.bool true)], args := [d] }
  | _ => none }
def fnAddBytesRow : OpenClaim := { program := "yteepbpjgapmecaa", sum := "a8b499a84e111d831a0a17558694dc378ee7502ad993cdae0964bf92fb771bd4", func := "loop.example/g00501/laws.FnAddBytes", spec := "fnAddBytes", apart := false }
def FnAddBytesSaid : Prop := fnAddBytesRow.holds Try.pinned (OpenSpec.ofChange fnAddBytesSpec)

/-- ITS FALSE NEIGHBOUR: 'it returns false'. Refute it at one input. -/
def fnAddBytesWrong : ChangeSpec := { name := "fnAddBytes", fn := fun _ => fun
  | [d] => { results := [.lit (.bool false)], args := [d] }
  | _ => none }
def FnAddBytesWrongFalsely : Prop := fnAddBytesRow.holds Try.pinned (OpenSpec.ofChange fnAddBytesWrong)

/-- 'laws.FnExactPicked': WHATEVER THE INPUT: true; the input reads as it did. -/
def fnExactPickedSpec : ChangeSpec := { name := "fnExactPicked", fn := fun _ => fun
  | [d1, d2] => { results := [.lit (.bool true)], args := [d1, d2] }
  | _ => none }
def fnExactPickedRow : OpenClaim := { program := "yteepbpjgapmecaa", sum := "a8b499a84e111d831a0a17558694dc378ee7502ad993cdae0964bf92fb771bd4", func := "loop.example/g00501/laws.FnExactPicked", spec := "fnExactPicked", unfollowed := true, recurses := true, apart := false }
def FnExactPickedSaid : Prop := fnExactPickedRow.holds Try.pinned (OpenSpec.ofChange fnExactPickedSpec)

/-- ITS FALSE NEIGHBOUR: 'it returns false'. Refute it at one input. -/
def fnExactPickedWrong : ChangeSpec := { name := "fnExactPicked", fn := fun _ => fun
  | [d1, d2] => { results := [.lit (.bool false)], args := [d1, d2] }
  | _ => none }
def FnExactPickedWrongFalsely : Prop := fnExactPickedRow.holds Try.pinned (OpenSpec.ofChange fnExactPickedWrong)

/-- 'laws.FnExactReadFilter': WHATEVER THE INPUT: true; the input reads as it did. -/
def fnExactReadFilterSpec : ChangeSpec := { name := "fnExactReadFilter", fn := fun _ => fun
  | [d] => { results := [.lit (.bool true)], args := [d] }
  | _ => none }
def fnExactReadFilterRow : OpenClaim := { program := "yteepbpjgapmecaa", sum := "a8b499a84e111d831a0a17558694dc378ee7502ad993cdae0964bf92fb771bd4", func := "loop.example/g00501/laws.FnExactReadFilter", spec := "fnExactReadFilter", inPlace := ["internal/bytealg.IndexByteString", "internal/bytealg.IndexString"], unfollowed := true, recurses := true, named := ["internal/bytealg.MaxLen"], apart := false }
def FnExactReadFilterSaid : Prop := fnExactReadFilterRow.holds Try.pinned (OpenSpec.ofChange fnExactReadFilterSpec)

/-- ITS FALSE NEIGHBOUR: 'it returns false'. Refute it at one input. -/
def fnExactReadFilterWrong : ChangeSpec := { name := "fnExactReadFilter", fn := fun _ => fun
  | [d] => { results := [.lit (.bool false)], args := [d] }
  | _ => none }
def FnExactReadFilterWrongFalsely : Prop := fnExactReadFilterRow.holds Try.pinned (OpenSpec.ofChange fnExactReadFilterWrong)

/-- 'laws.FnExactClosed': WHATEVER THE INPUT: true; the input reads as it did. -/
def fnExactClosedSpec : ChangeSpec := { name := "fnExactClosed", fn := fun _ => fun
  | [d] => { results := [.lit (.bool true)], args := [d] }
  | _ => none }
def fnExactClosedRow : OpenClaim := { program := "yteepbpjgapmecaa", sum := "a8b499a84e111d831a0a17558694dc378ee7502ad993cdae0964bf92fb771bd4", func := "loop.example/g00501/laws.FnExactClosed", spec := "fnExactClosed", apart := false }
def FnExactClosedSaid : Prop := fnExactClosedRow.holds Try.pinned (OpenSpec.ofChange fnExactClosedSpec)

/-- ITS FALSE NEIGHBOUR: 'it returns false'. Refute it at one input. -/
def fnExactClosedWrong : ChangeSpec := { name := "fnExactClosed", fn := fun _ => fun
  | [d] => { results := [.lit (.bool false)], args := [d] }
  | _ => none }
def FnExactClosedWrongFalsely : Prop := fnExactClosedRow.holds Try.pinned (OpenSpec.ofChange fnExactClosedWrong)

/-- 'laws.FnDrained': WHATEVER THE INPUT: true; the input reads as it did. -/
def fnDrainedSpec : ChangeSpec := { name := "fnDrained", fn := fun _ => fun
  | [d] => { results := [.lit (.bool true)], args := [d] }
  | _ => none }
def fnDrainedRow : OpenClaim := { program := "yteepbpjgapmecaa", sum := "a8b499a84e111d831a0a17558694dc378ee7502ad993cdae0964bf92fb771bd4", func := "loop.example/g00501/laws.FnDrained", spec := "fnDrained", apart := false }
def FnDrainedSaid : Prop := fnDrainedRow.holds Try.pinned (OpenSpec.ofChange fnDrainedSpec)

/-- ITS FALSE NEIGHBOUR: 'it returns false'. Refute it at one input. -/
def fnDrainedWrong : ChangeSpec := { name := "fnDrained", fn := fun _ => fun
  | [d] => { results := [.lit (.bool false)], args := [d] }
  | _ => none }
def FnDrainedWrongFalsely : Prop := fnDrainedRow.holds Try.pinned (OpenSpec.ofChange fnDrainedWrong)

/-- 'laws.FnFilter': WHATEVER THE INPUT: true; the input reads as it did. -/
def fnFilterSpec : ChangeSpec := { name := "fnFilter", fn := fun _ => fun
  | [d] => { results := [.lit (.bool true)], args := [d] }
  | _ => none }
def fnFilterRow : OpenClaim := { program := "yteepbpjgapmecaa", sum := "a8b499a84e111d831a0a17558694dc378ee7502ad993cdae0964bf92fb771bd4", func := "loop.example/g00501/laws.FnFilter", spec := "fnFilter", inPlace := ["internal/bytealg.IndexByteString", "internal/bytealg.IndexString"], unfollowed := true, recurses := true, named := ["internal/bytealg.MaxLen"], apart := false }
def FnFilterSaid : Prop := fnFilterRow.holds Try.pinned (OpenSpec.ofChange fnFilterSpec)

/-- ITS FALSE NEIGHBOUR: 'it returns false'. Refute it at one input. -/
def fnFilterWrong : ChangeSpec := { name := "fnFilter", fn := fun _ => fun
  | [d] => { results := [.lit (.bool false)], args := [d] }
  | _ => none }
def FnFilterWrongFalsely : Prop := fnFilterRow.holds Try.pinned (OpenSpec.ofChange fnFilterWrong)

/- THE SECOND FORM. 'bulk': how many values and letters a reading holds, each counted each time it is reached (what is shared counts as often as it is met; a slice's spare places count too). A statement '..UptoSaid' is the law's where the arguments, and the package variables that the reading takes, are together of bulk at most 1048576: NARROWER than '..Said'. Prove '..Said' where nothing that the law and all that it calls make is longer than what came in: it says more and counts as full. Else prove '..UptoSaid'. A law counts once. -/
mutual
def uptoBulk {H : Type} : DataW H → Nat
  | .lit (.string bytes) => bytes.length + 1
  | .lit _ => 1
  | .nil => 1
  | .ptr d => uptoBulk d + 1
  | .slice elems spare => uptoBulkAll elems + uptoBulkAll spare + 1
  | .agg parts => uptoBulkAll parts + 1
  | .iface _ d => uptoBulk d + 1
  | .map entries => uptoBulkEntries entries + 1
  | .held _ => 1
def uptoBulkAll {H : Type} : List (DataW H) → Nat
  | [] => 0
  | d :: r => uptoBulk d + uptoBulkAll r
def uptoBulkEntries {H : Type} : List (Lit × DataW H) → Nat
  | [] => 0
  | x :: r => uptoBulkEntry x + uptoBulkEntries r
def uptoBulkEntry {H : Type} : Lit × DataW H → Nat
  | (.string bytes, d) => bytes.length + uptoBulk d + 1
  | (_, d) => uptoBulk d + 1
 end
def uptoSmall : (H : Type) → List (DataW H) → Bool := fun _ ds => decide (uptoBulkAll ds ≤ 1048576)
def OpenSpec.upto (s : _root_.Go.ChangeSpec) : _root_.Go.OpenSpec := { _root_.Go.OpenSpec.ofChange s with cond := some uptoSmall }

/-- 'laws.FnExactActOk', WHERE WHAT IT READS IS OF BULK AT MOST 1048576: true; the input reads as it did. -/
def fnExactActOkUptoRow : OpenClaim := { program := "yteepbpjgapmecaa", sum := "a8b499a84e111d831a0a17558694dc378ee7502ad993cdae0964bf92fb771bd4", func := "loop.example/g00501/laws.FnExactActOk", spec := "fnExactActOk", apart := false, narrowed := true }
def FnExactActOkUptoSaid : Prop := fnExactActOkUptoRow.holds Try.pinned (OpenSpec.upto fnExactActOkSpec)

/-- 'laws.FnExactStatusOf', WHERE WHAT IT READS IS OF BULK AT MOST 1048576: true; the input reads as it did. -/
def fnExactStatusOfUptoRow : OpenClaim := { program := "yteepbpjgapmecaa", sum := "a8b499a84e111d831a0a17558694dc378ee7502ad993cdae0964bf92fb771bd4", func := "loop.example/g00501/laws.FnExactStatusOf", spec := "fnExactStatusOf", unfollowed := true, recurses := true, apart := false, narrowed := true }
def FnExactStatusOfUptoSaid : Prop := fnExactStatusOfUptoRow.holds Try.pinned (OpenSpec.upto fnExactStatusOfSpec)

/-- 'laws.FnExactMayTell', WHERE WHAT IT READS IS OF BULK AT MOST 1048576: true; the input reads as it did. -/
def fnExactMayTellUptoRow : OpenClaim := { program := "yteepbpjgapmecaa", sum := "a8b499a84e111d831a0a17558694dc378ee7502ad993cdae0964bf92fb771bd4", func := "loop.example/g00501/laws.FnExactMayTell", spec := "fnExactMayTell", unfollowed := true, recurses := true, apart := false, narrowed := true }
def FnExactMayTellUptoSaid : Prop := fnExactMayTellUptoRow.holds Try.pinned (OpenSpec.upto fnExactMayTellSpec)

/-- 'laws.FnExactPending', WHERE WHAT IT READS IS OF BULK AT MOST 1048576: true; the input reads as it did. -/
def fnExactPendingUptoRow : OpenClaim := { program := "yteepbpjgapmecaa", sum := "a8b499a84e111d831a0a17558694dc378ee7502ad993cdae0964bf92fb771bd4", func := "loop.example/g00501/laws.FnExactPending", spec := "fnExactPending", unfollowed := true, recurses := true, apart := false, narrowed := true }
def FnExactPendingUptoSaid : Prop := fnExactPendingUptoRow.holds Try.pinned (OpenSpec.upto fnExactPendingSpec)

/-- 'laws.FnExactPushed', WHERE WHAT IT READS IS OF BULK AT MOST 1048576: true; the input reads as it did. -/
def fnExactPushedUptoRow : OpenClaim := { program := "yteepbpjgapmecaa", sum := "a8b499a84e111d831a0a17558694dc378ee7502ad993cdae0964bf92fb771bd4", func := "loop.example/g00501/laws.FnExactPushed", spec := "fnExactPushed", inPlace := ["internal/bytealg.IndexByteString", "internal/bytealg.IndexString"], unfollowed := true, recurses := true, named := ["internal/bytealg.MaxLen"], apart := false, narrowed := true }
def FnExactPushedUptoSaid : Prop := fnExactPushedUptoRow.holds Try.pinned (OpenSpec.upto fnExactPushedSpec)

/-- 'laws.FnExactSameSession', WHERE WHAT IT READS IS OF BULK AT MOST 1048576: true; the input reads as it did. -/
def fnExactSameSessionUptoRow : OpenClaim := { program := "yteepbpjgapmecaa", sum := "a8b499a84e111d831a0a17558694dc378ee7502ad993cdae0964bf92fb771bd4", func := "loop.example/g00501/laws.FnExactSameSession", spec := "fnExactSameSession", unfollowed := true, recurses := true, apart := false, narrowed := true }
def FnExactSameSessionUptoSaid : Prop := fnExactSameSessionUptoRow.holds Try.pinned (OpenSpec.upto fnExactSameSessionSpec)

/-- 'laws.FnAddBytes', WHERE WHAT IT READS IS OF BULK AT MOST 1048576: true; the input reads as it did. -/
def fnAddBytesUptoRow : OpenClaim := { program := "yteepbpjgapmecaa", sum := "a8b499a84e111d831a0a17558694dc378ee7502ad993cdae0964bf92fb771bd4", func := "loop.example/g00501/laws.FnAddBytes", spec := "fnAddBytes", apart := false, narrowed := true }
def FnAddBytesUptoSaid : Prop := fnAddBytesUptoRow.holds Try.pinned (OpenSpec.upto fnAddBytesSpec)

/-- 'laws.FnExactPicked', WHERE WHAT IT READS IS OF BULK AT MOST 1048576: true; the input reads as it did. -/
def fnExactPickedUptoRow : OpenClaim := { program := "yteepbpjgapmecaa", sum := "a8b499a84e111d831a0a17558694dc378ee7502ad993cdae0964bf92fb771bd4", func := "loop.example/g00501/laws.FnExactPicked", spec := "fnExactPicked", unfollowed := true, recurses := true, apart := false, narrowed := true }
def FnExactPickedUptoSaid : Prop := fnExactPickedUptoRow.holds Try.pinned (OpenSpec.upto fnExactPickedSpec)

/-- 'laws.FnExactReadFilter', WHERE WHAT IT READS IS OF BULK AT MOST 1048576: true; the input reads as it did. -/
def fnExactReadFilterUptoRow : OpenClaim := { program := "yteepbpjgapmecaa", sum := "a8b499a84e111d831a0a17558694dc378ee7502ad993cdae0964bf92fb771bd4", func := "loop.example/g00501/laws.FnExactReadFilter", spec := "fnExactReadFilter", inPlace := ["internal/bytealg.IndexByteString", "internal/bytealg.IndexString"], unfollowed := true, recurses := true, named := ["internal/bytealg.MaxLen"], apart := false, narrowed := true }
def FnExactReadFilterUptoSaid : Prop := fnExactReadFilterUptoRow.holds Try.pinned (OpenSpec.upto fnExactReadFilterSpec)

/-- 'laws.FnExactClosed', WHERE WHAT IT READS IS OF BULK AT MOST 1048576: true; the input reads as it did. -/
def fnExactClosedUptoRow : OpenClaim := { program := "yteepbpjgapmecaa", sum := "a8b499a84e111d831a0a17558694dc378ee7502ad993cdae0964bf92fb771bd4", func := "loop.example/g00501/laws.FnExactClosed", spec := "fnExactClosed", apart := false, narrowed := true }
def FnExactClosedUptoSaid : Prop := fnExactClosedUptoRow.holds Try.pinned (OpenSpec.upto fnExactClosedSpec)

/-- 'laws.FnDrained', WHERE WHAT IT READS IS OF BULK AT MOST 1048576: true; the input reads as it did. -/
def fnDrainedUptoRow : OpenClaim := { program := "yteepbpjgapmecaa", sum := "a8b499a84e111d831a0a17558694dc378ee7502ad993cdae0964bf92fb771bd4", func := "loop.example/g00501/laws.FnDrained", spec := "fnDrained", apart := false, narrowed := true }
def FnDrainedUptoSaid : Prop := fnDrainedUptoRow.holds Try.pinned (OpenSpec.upto fnDrainedSpec)

/-- 'laws.FnFilter', WHERE WHAT IT READS IS OF BULK AT MOST 1048576: true; the input reads as it did. -/
def fnFilterUptoRow : OpenClaim := { program := "yteepbpjgapmecaa", sum := "a8b499a84e111d831a0a17558694dc378ee7502ad993cdae0964bf92fb771bd4", func := "loop.example/g00501/laws.FnFilter", spec := "fnFilter", inPlace := ["internal/bytealg.IndexByteString", "internal/bytealg.IndexString"], unfollowed := true, recurses := true, named := ["internal/bytealg.MaxLen"], apart := false, narrowed := true }
def FnFilterUptoSaid : Prop := fnFilterUptoRow.holds Try.pinned (OpenSpec.upto fnFilterSpec)

end Rows
end Go.Proofs.Yteepbpjgapmecaa
