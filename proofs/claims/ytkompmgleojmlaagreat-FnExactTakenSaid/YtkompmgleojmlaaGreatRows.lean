/-
  No cell of these rows narrows 'for every input' (looked for: loops, veiled, ifaces, maps, wideKeys, modest, calm, conditions, laid).
  DERIVED. THE GIVEN ROWS OF THIS SEAT. 6 by the template 'for every input the law returns true; each argument reads behind the call as it read before'; 0 by the template 'total and deterministic' (their statements: YtkompmgleojmlaaGreatTotals.lean).
  GIVEN WITH THE SEED: the statements are not yours to turn. If you find one false, say at which input.
  Laid BY PROGRAM, IN A SANDBOX (cutbox-rows.mjs): the forced cells as the released guide's own fill.sh prints them over the translation 73a6c4f63e1d83a9… (all of the seat's roots in one cut). By AI agents, Wed Nov 11 2026. No macro, syntax, notation, axiom, sorry.
-/
import Derived.Test.YtkompmgleojmlaaGreatChecked
import GoSem.Claim
import GoSem.ClaimJoined
import GoSem.ClaimMapViews
import Derived.JoinedTies
import Derived.KernelRfl
namespace Go.Proofs.YtkompmgleojmlaaGreat
/- THE CELL 'sum', in the pinned program and in every row, IS THE sha256 OF THE DUMP (.gsa) THAT YtkompmgleojmlaaGreatProg.lean LOADS. Nothing in Lean hashes anything: it is a label: what it is worth is what the hold of that sum in a sandbox is worth. -/
noncomputable def Tryz.pinned : Pinned := { name := "ytkompmgleojmlaagreat", sum := "73a6c4f63e1d83a96f63a87b686ca7934375ee536a68d3edd4b25aa6876b09bb", checked := Tryz.checked }
namespace Rows
def none {H : Type} : Left H := { results := [], args := [] }

/-- 'laws.FnExactServerOk': WHATEVER THE INPUT: true; the input reads as it did. -/
def fnExactServerOkSpec : ChangeSpec := { name := "fnExactServerOk", fn := fun _ => fun
  | [d] => { results := [.lit (.bool true)], args := [d] }
  | _ => none }
def fnExactServerOkRow : OpenClaim := { program := "ytkompmgleojmlaagreat", sum := "73a6c4f63e1d83a96f63a87b686ca7934375ee536a68d3edd4b25aa6876b09bb", func := "loop.example/g00501/laws.FnExactServerOk", spec := "fnExactServerOk", inPlace := ["internal/bytealg.IndexByteString", "internal/bytealg.IndexString"], unfollowed := true, recurses := true, named := ["internal/bytealg.MaxLen"], apart := false }
def FnExactServerOkSaid : Prop := fnExactServerOkRow.holds Tryz.pinned (OpenSpec.ofChange fnExactServerOkSpec)

/-- ITS FALSE NEIGHBOUR: 'it returns false'. Refute it at one input. -/
def fnExactServerOkWrong : ChangeSpec := { name := "fnExactServerOk", fn := fun _ => fun
  | [d] => { results := [.lit (.bool false)], args := [d] }
  | _ => none }
def FnExactServerOkWrongFalsely : Prop := fnExactServerOkRow.holds Tryz.pinned (OpenSpec.ofChange fnExactServerOkWrong)

/-- 'laws.FnExactFanOut': WHATEVER THE INPUT: true; the input reads as it did. -/
def fnExactFanOutSpec : ChangeSpec := { name := "fnExactFanOut", fn := fun _ => fun
  | [d1, d2] => { results := [.lit (.bool true)], args := [d1, d2] }
  | _ => none }
def fnExactFanOutRow : OpenClaim := { program := "ytkompmgleojmlaagreat", sum := "73a6c4f63e1d83a96f63a87b686ca7934375ee536a68d3edd4b25aa6876b09bb", func := "loop.example/g00501/laws.FnExactFanOut", spec := "fnExactFanOut", inPlace := ["internal/bytealg.IndexByteString", "internal/bytealg.IndexString"], unfollowed := true, recurses := true, named := ["internal/bytealg.MaxLen"], apart := false }
def FnExactFanOutSaid : Prop := fnExactFanOutRow.holds Tryz.pinned (OpenSpec.ofChange fnExactFanOutSpec)

/-- ITS FALSE NEIGHBOUR: 'it returns false'. Refute it at one input. -/
def fnExactFanOutWrong : ChangeSpec := { name := "fnExactFanOut", fn := fun _ => fun
  | [d1, d2] => { results := [.lit (.bool false)], args := [d1, d2] }
  | _ => none }
def FnExactFanOutWrongFalsely : Prop := fnExactFanOutRow.holds Tryz.pinned (OpenSpec.ofChange fnExactFanOutWrong)

/-- 'laws.FnExactDropped': WHATEVER THE INPUT: true; the input reads as it did. -/
def fnExactDroppedSpec : ChangeSpec := { name := "fnExactDropped", fn := fun _ => fun
  | [d1, d2] => { results := [.lit (.bool true)], args := [d1, d2] }
  | _ => none }
def fnExactDroppedRow : OpenClaim := { program := "ytkompmgleojmlaagreat", sum := "73a6c4f63e1d83a96f63a87b686ca7934375ee536a68d3edd4b25aa6876b09bb", func := "loop.example/g00501/laws.FnExactDropped", spec := "fnExactDropped", inPlace := ["internal/bytealg.IndexByteString", "internal/bytealg.IndexString"], unfollowed := true, recurses := true, named := ["internal/bytealg.MaxLen"], apart := false }
def FnExactDroppedSaid : Prop := fnExactDroppedRow.holds Tryz.pinned (OpenSpec.ofChange fnExactDroppedSpec)

/-- ITS FALSE NEIGHBOUR: 'it returns false'. Refute it at one input. -/
def fnExactDroppedWrong : ChangeSpec := { name := "fnExactDropped", fn := fun _ => fun
  | [d1, d2] => { results := [.lit (.bool false)], args := [d1, d2] }
  | _ => none }
def FnExactDroppedWrongFalsely : Prop := fnExactDroppedRow.holds Tryz.pinned (OpenSpec.ofChange fnExactDroppedWrong)

/-- 'laws.FnExactGiven': WHATEVER THE INPUT: true; the input reads as it did. -/
def fnExactGivenSpec : ChangeSpec := { name := "fnExactGiven", fn := fun _ => fun
  | [d1, d2, d3] => { results := [.lit (.bool true)], args := [d1, d2, d3] }
  | _ => none }
def fnExactGivenRow : OpenClaim := { program := "ytkompmgleojmlaagreat", sum := "73a6c4f63e1d83a96f63a87b686ca7934375ee536a68d3edd4b25aa6876b09bb", func := "loop.example/g00501/laws.FnExactGiven", spec := "fnExactGiven", inPlace := ["internal/bytealg.IndexByteString", "internal/bytealg.IndexString"], unfollowed := true, recurses := true, named := ["internal/bytealg.MaxLen"], apart := false }
def FnExactGivenSaid : Prop := fnExactGivenRow.holds Tryz.pinned (OpenSpec.ofChange fnExactGivenSpec)

/-- ITS FALSE NEIGHBOUR: 'it returns false'. Refute it at one input. -/
def fnExactGivenWrong : ChangeSpec := { name := "fnExactGiven", fn := fun _ => fun
  | [d1, d2, d3] => { results := [.lit (.bool false)], args := [d1, d2, d3] }
  | _ => none }
def FnExactGivenWrongFalsely : Prop := fnExactGivenRow.holds Tryz.pinned (OpenSpec.ofChange fnExactGivenWrong)

/-- 'laws.FnExactTaken': WHATEVER THE INPUT: true; the input reads as it did. -/
def fnExactTakenSpec : ChangeSpec := { name := "fnExactTaken", fn := fun _ => fun
  | [d1, d2, d3] => { results := [.lit (.bool true)], args := [d1, d2, d3] }
  | _ => none }
def fnExactTakenRow : OpenClaim := { program := "ytkompmgleojmlaagreat", sum := "73a6c4f63e1d83a96f63a87b686ca7934375ee536a68d3edd4b25aa6876b09bb", func := "loop.example/g00501/laws.FnExactTaken", spec := "fnExactTaken", inPlace := ["internal/bytealg.IndexByteString", "internal/bytealg.IndexString"], unfollowed := true, recurses := true, named := ["internal/bytealg.MaxLen"], apart := false }
def FnExactTakenSaid : Prop := fnExactTakenRow.holds Tryz.pinned (OpenSpec.ofChange fnExactTakenSpec)

/-- ITS FALSE NEIGHBOUR: 'it returns false'. Refute it at one input. -/
def fnExactTakenWrong : ChangeSpec := { name := "fnExactTaken", fn := fun _ => fun
  | [d1, d2, d3] => { results := [.lit (.bool false)], args := [d1, d2, d3] }
  | _ => none }
def FnExactTakenWrongFalsely : Prop := fnExactTakenRow.holds Tryz.pinned (OpenSpec.ofChange fnExactTakenWrong)

/-- 'laws.FnExactTicked': WHATEVER THE INPUT: true; the input reads as it did. -/
def fnExactTickedSpec : ChangeSpec := { name := "fnExactTicked", fn := fun _ => fun
  | [d] => { results := [.lit (.bool true)], args := [d] }
  | _ => none }
def fnExactTickedRow : OpenClaim := { program := "ytkompmgleojmlaagreat", sum := "73a6c4f63e1d83a96f63a87b686ca7934375ee536a68d3edd4b25aa6876b09bb", func := "loop.example/g00501/laws.FnExactTicked", spec := "fnExactTicked", inPlace := ["internal/bytealg.IndexByteString", "internal/bytealg.IndexString"], unfollowed := true, recurses := true, named := ["internal/bytealg.MaxLen"], apart := false }
def FnExactTickedSaid : Prop := fnExactTickedRow.holds Tryz.pinned (OpenSpec.ofChange fnExactTickedSpec)

/-- ITS FALSE NEIGHBOUR: 'it returns false'. Refute it at one input. -/
def fnExactTickedWrong : ChangeSpec := { name := "fnExactTicked", fn := fun _ => fun
  | [d] => { results := [.lit (.bool false)], args := [d] }
  | _ => none }
def FnExactTickedWrongFalsely : Prop := fnExactTickedRow.holds Tryz.pinned (OpenSpec.ofChange fnExactTickedWrong)

/- THE SECOND FORM. 'bulk': how many values and letters a reading holds, each counted each time it is reached (what is shared counts as often as it is met; a slice's spare places count too). A statement '..UptoSaid' is the law's where the arguments, and the package variables that the reading takes, are together of bulk at most 1048576: NARROWER than '..Said'. Prove '..Said' where nothing that the law and all that it calls make is longer than what came in: it says more and counts as full. Else prove '..UptoSaid'. A law counts once. -/
mutual
def uptoBulk {H : Type} : DataW H → Nat
  | .lit (.string bytes) => bytes.length + 1
  | .lit _ => 1
  | .nil => 1
  | .ptr d => uptoBulk d + 1
  | .slice elems spare => uptoBulkAll elems + uptoBulkAll spare + 1
  | .agg parts => uptoBulkAll parts + 1
  | .iface _ d => uptoBulk d + 1
  | .map entries => uptoBulkEntries entries + 1
  | .held _ => 1
def uptoBulkAll {H : Type} : List (DataW H) → Nat
  | [] => 0
  | d :: r => uptoBulk d + uptoBulkAll r
def uptoBulkEntries {H : Type} : List (Lit × DataW H) → Nat
  | [] => 0
  | x :: r => uptoBulkEntry x + uptoBulkEntries r
def uptoBulkEntry {H : Type} : Lit × DataW H → Nat
  | (.string bytes, d) => bytes.length + uptoBulk d + 1
  | (_, d) => uptoBulk d + 1
 end
def uptoSmall : (H : Type) → List (DataW H) → Bool := fun _ ds => decide (uptoBulkAll ds ≤ 1048576)
def OpenSpec.upto (s : _root_.Go.ChangeSpec) : _root_.Go.OpenSpec := { _root_.Go.OpenSpec.ofChange s with cond := some uptoSmall }

/-- 'laws.FnExactServerOk', WHERE WHAT IT READS IS OF BULK AT MOST 1048576: true; the input reads as it did. -/
def fnExactServerOkUptoRow : OpenClaim := { program := "ytkompmgleojmlaagreat", sum := "73a6c4f63e1d83a96f63a87b686ca7934375ee536a68d3edd4b25aa6876b09bb", func := "loop.example/g00501/laws.FnExactServerOk", spec := "fnExactServerOk", inPlace := ["internal/bytealg.IndexByteString", "internal/bytealg.IndexString"], unfollowed := true, recurses := true, named := ["internal/bytealg.MaxLen"], apart := false, narrowed := true }
def FnExactServerOkUptoSaid : Prop := fnExactServerOkUptoRow.holds Tryz.pinned (OpenSpec.upto fnExactServerOkSpec)

/-- 'laws.FnExactFanOut', WHERE WHAT IT READS IS OF BULK AT MOST 1048576: true; the input reads as it did. -/
def fnExactFanOutUptoRow : OpenClaim := { program := "ytkompmgleojmlaagreat", sum := "73a6c4f63e1d83a96f63a87b686ca7934375ee536a68d3edd4b25aa6876b09bb", func := "loop.example/g00501/laws.FnExactFanOut", spec := "fnExactFanOut", inPlace := ["internal/bytealg.IndexByteString", "internal/bytealg.IndexString"], unfollowed := true, recurses := true, named := ["internal/bytealg.MaxLen"], apart := false, narrowed := true }
def FnExactFanOutUptoSaid : Prop := fnExactFanOutUptoRow.holds Tryz.pinned (OpenSpec.upto fnExactFanOutSpec)

/-- 'laws.FnExactDropped', WHERE WHAT IT READS IS OF BULK AT MOST 1048576: true; the input reads as it did. -/
def fnExactDroppedUptoRow : OpenClaim := { program := "ytkompmgleojmlaagreat", sum := "73a6c4f63e1d83a96f63a87b686ca7934375ee536a68d3edd4b25aa6876b09bb", func := "loop.example/g00501/laws.FnExactDropped", spec := "fnExactDropped", inPlace := ["internal/bytealg.IndexByteString", "internal/bytealg.IndexString"], unfollowed := true, recurses := true, named := ["internal/bytealg.MaxLen"], apart := false, narrowed := true }
def FnExactDroppedUptoSaid : Prop := fnExactDroppedUptoRow.holds Tryz.pinned (OpenSpec.upto fnExactDroppedSpec)

/-- 'laws.FnExactGiven', WHERE WHAT IT READS IS OF BULK AT MOST 1048576: true; the input reads as it did. -/
def fnExactGivenUptoRow : OpenClaim := { program := "ytkompmgleojmlaagreat", sum := "73a6c4f63e1d83a96f63a87b686ca7934375ee536a68d3edd4b25aa6876b09bb", func := "loop.example/g00501/laws.FnExactGiven", spec := "fnExactGiven", inPlace := ["internal/bytealg.IndexByteString", "internal/bytealg.IndexString"], unfollowed := true, recurses := true, named := ["internal/bytealg.MaxLen"], apart := false, narrowed := true }
def FnExactGivenUptoSaid : Prop := fnExactGivenUptoRow.holds Tryz.pinned (OpenSpec.upto fnExactGivenSpec)

/-- 'laws.FnExactTaken', WHERE WHAT IT READS IS OF BULK AT MOST 1048576: true; the input reads as it did. -/
def fnExactTakenUptoRow : OpenClaim := { program := "ytkompmgleojmlaagreat", sum := "73a6c4f63e1d83a96f63a87b686ca7934375ee536a68d3edd4b25aa6876b09bb", func := "loop.example/g00501/laws.FnExactTaken", spec := "fnExactTaken", inPlace := ["internal/bytealg.IndexByteString", "internal/bytealg.IndexString"], unfollowed := true, recurses := true, named := ["internal/bytealg.MaxLen"], apart := false, narrowed := true }
def FnExactTakenUptoSaid : Prop := fnExactTakenUptoRow.holds Tryz.pinned (OpenSpec.upto fnExactTakenSpec)

/-- 'laws.FnExactTicked', WHERE WHAT IT READS IS OF BULK AT MOST 1048576: true; the input reads as it did. -/
def fnExactTickedUptoRow : OpenClaim := { program := "ytkompmgleojmlaagreat", sum := "73a6c4f63e1d83a96f63a87b686ca7934375ee536a68d3edd4b25aa6876b09bb", func := "loop.example/g00501/laws.FnExactTicked", spec := "fnExactTicked", inPlace := ["internal/bytealg.IndexByteString", "internal/bytealg.IndexString"], unfollowed := true, recurses := true, named := ["internal/bytealg.MaxLen"], apart := false, narrowed := true }
def FnExactTickedUptoSaid : Prop := fnExactTickedUptoRow.holds Tryz.pinned (OpenSpec.upto fnExactTickedSpec)

end Rows
end Go.Proofs.YtkompmgleojmlaaGreat
