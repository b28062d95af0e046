/-
  No cell of these rows narrows 'for every input' (looked for: loops, veiled, ifaces, maps, wideKeys, modest, calm, conditions, laid).
  DERIVED. THE GIVEN ROWS OF THIS SEAT. 11 by the template 'for every input the law returns true; each argument reads behind the call as it read before'; 0 by the template 'total and deterministic' (their statements: YtigakalkkaoflaaTotals.lean).
  GIVEN WITH THE SEED: the statements are not yours to turn. If you find one false, say at which input.
  Laid BY PROGRAM, IN A SANDBOX (cutbox-rows.mjs): the forced cells as the released guide's own fill.sh prints them over the translation 3dcc1a046442e209… (all of the seat's roots in one cut). By AI agents, Wed Nov 11 2026. No macro, syntax, notation, axiom, sorry.
-/
import Derived.Test.YtigakalkkaoflaaChecked
import GoSem.Claim
import GoSem.ClaimJoined
import GoSem.ClaimMapViews
import Derived.JoinedTies
import Derived.KernelRfl
namespace Go.Proofs.Ytigakalkkaoflaa
/- THE CELL 'sum', in the pinned program and in every row, IS THE sha256 OF THE DUMP (.gsa) THAT YtigakalkkaoflaaProg.lean LOADS. Nothing in Lean hashes anything: it is a label: what it is worth is what the hold of that sum in a sandbox is worth. -/
noncomputable def Try.pinned : Pinned := { name := "ytigakalkkaoflaa", sum := "3dcc1a046442e209402c9603d3ec42448898f1e1b082d1dacc399e795b7bcd97", checked := Try.checked }
namespace Rows
def none {H : Type} : Left H := { results := [], args := [] }

/-- 'laws.FnExactStatusOf': WHATEVER THE INPUT: true; the input reads as it did. -/
def fnExactStatusOfSpec : ChangeSpec := { name := "fnExactStatusOf", fn := fun _ => fun
  | [d1, d2] => { results := [.lit (.bool true)], args := [d1, d2] }
  | _ => none }
def fnExactStatusOfRow : OpenClaim := { program := "ytigakalkkaoflaa", sum := "3dcc1a046442e209402c9603d3ec42448898f1e1b082d1dacc399e795b7bcd97", func := "loop.example/g00501/laws.FnExactStatusOf", spec := "fnExactStatusOf", unfollowed := true, recurses := true, apart := false }
def FnExactStatusOfSaid : Prop := fnExactStatusOfRow.holds Try.pinned (OpenSpec.ofChange fnExactStatusOfSpec)

/-- ITS FALSE NEIGHBOUR: 'it returns false'. Refute it at one input. -/
def fnExactStatusOfWrong : ChangeSpec := { name := "fnExactStatusOf", fn := fun _ => fun
  | [d1, d2] => { results := [.lit (.bool false)], args := [d1, d2] }
  | _ => none }
def FnExactStatusOfWrongFalsely : Prop := fnExactStatusOfRow.holds Try.pinned (OpenSpec.ofChange fnExactStatusOfWrong)

/-- 'laws.FnExactMayTell': WHATEVER THE INPUT: true; the input reads as it did. -/
def fnExactMayTellSpec : ChangeSpec := { name := "fnExactMayTell", fn := fun _ => fun
  | [d] => { results := [.lit (.bool true)], args := [d] }
  | _ => none }
def fnExactMayTellRow : OpenClaim := { program := "ytigakalkkaoflaa", sum := "3dcc1a046442e209402c9603d3ec42448898f1e1b082d1dacc399e795b7bcd97", func := "loop.example/g00501/laws.FnExactMayTell", spec := "fnExactMayTell", unfollowed := true, recurses := true, apart := false }
def FnExactMayTellSaid : Prop := fnExactMayTellRow.holds Try.pinned (OpenSpec.ofChange fnExactMayTellSpec)

/-- ITS FALSE NEIGHBOUR: 'it returns false'. Refute it at one input. -/
def fnExactMayTellWrong : ChangeSpec := { name := "fnExactMayTell", fn := fun _ => fun
  | [d] => { results := [.lit (.bool false)], args := [d] }
  | _ => none }
def FnExactMayTellWrongFalsely : Prop := fnExactMayTellRow.holds Try.pinned (OpenSpec.ofChange fnExactMayTellWrong)

/-- 'laws.FnExactPending': WHATEVER THE INPUT: true; the input reads as it did. -/
def fnExactPendingSpec : ChangeSpec := { name := "fnExactPending", fn := fun _ => fun
  | [d] => { results := [.lit (.bool true)], args := [d] }
  | _ => none }
def fnExactPendingRow : OpenClaim := { program := "ytigakalkkaoflaa", sum := "3dcc1a046442e209402c9603d3ec42448898f1e1b082d1dacc399e795b7bcd97", func := "loop.example/g00501/laws.FnExactPending", spec := "fnExactPending", unfollowed := true, recurses := true, apart := false }
def FnExactPendingSaid : Prop := fnExactPendingRow.holds Try.pinned (OpenSpec.ofChange fnExactPendingSpec)

/-- ITS FALSE NEIGHBOUR: 'it returns false'. Refute it at one input. -/
def fnExactPendingWrong : ChangeSpec := { name := "fnExactPending", fn := fun _ => fun
  | [d] => { results := [.lit (.bool false)], args := [d] }
  | _ => none }
def FnExactPendingWrongFalsely : Prop := fnExactPendingRow.holds Try.pinned (OpenSpec.ofChange fnExactPendingWrong)

/-- 'laws.FnExactPushed': WHATEVER THE INPUT: true; the input reads as it did. -/
def fnExactPushedSpec : ChangeSpec := { name := "fnExactPushed", fn := fun _ => fun
  | [d1, d2] => { results := [.lit (.bool true)], args := [d1, d2] }
  | _ => none }
def fnExactPushedRow : OpenClaim := { program := "ytigakalkkaoflaa", sum := "3dcc1a046442e209402c9603d3ec42448898f1e1b082d1dacc399e795b7bcd97", func := "loop.example/g00501/laws.FnExactPushed", spec := "fnExactPushed", inPlace := ["internal/bytealg.IndexByteString", "internal/bytealg.IndexString"], unfollowed := true, recurses := true, named := ["internal/bytealg.MaxLen"], apart := false }
def FnExactPushedSaid : Prop := fnExactPushedRow.holds Try.pinned (OpenSpec.ofChange fnExactPushedSpec)

/-- ITS FALSE NEIGHBOUR: 'it returns false'. Refute it at one input. -/
def fnExactPushedWrong : ChangeSpec := { name := "fnExactPushed", fn := fun _ => fun
  | [d1, d2] => { results := [.lit (.bool false)], args := [d1, d2] }
  | _ => none }
def FnExactPushedWrongFalsely : Prop := fnExactPushedRow.holds Try.pinned (OpenSpec.ofChange fnExactPushedWrong)

/-- 'laws.FnExactSameSession': WHATEVER THE INPUT: true; the input reads as it did. -/
def fnExactSameSessionSpec : ChangeSpec := { name := "fnExactSameSession", fn := fun _ => fun
  | [d1, d2] => { results := [.lit (.bool true)], args := [d1, d2] }
  | _ => none }
def fnExactSameSessionRow : OpenClaim := { program := "ytigakalkkaoflaa", sum := "3dcc1a046442e209402c9603d3ec42448898f1e1b082d1dacc399e795b7bcd97", func := "loop.example/g00501/laws.FnExactSameSession", spec := "fnExactSameSession", unfollowed := true, recurses := true, apart := false }
def FnExactSameSessionSaid : Prop := fnExactSameSessionRow.holds Try.pinned (OpenSpec.ofChange fnExactSameSessionSpec)

/-- ITS FALSE NEIGHBOUR: 'it returns false'. Refute it at one input. -/
def fnExactSameSessionWrong : ChangeSpec := { name := "fnExactSameSession", fn := fun _ => fun
  | [d1, d2] => { results := [.lit (.bool false)], args := [d1, d2] }
  | _ => none }
def FnExactSameSessionWrongFalsely : Prop := fnExactSameSessionRow.holds Try.pinned (OpenSpec.ofChange fnExactSameSessionWrong)

/-- 'laws.FnExactPicked': WHATEVER THE INPUT: true; the input reads as it did. -/
def fnExactPickedSpec : ChangeSpec := { name := "fnExactPicked", fn := fun _ => fun
  | [d1, d2] => { results := [.lit (.bool true)], args := [d1, d2] }
  | _ => none }
def fnExactPickedRow : OpenClaim := { program := "ytigakalkkaoflaa", sum := "3dcc1a046442e209402c9603d3ec42448898f1e1b082d1dacc399e795b7bcd97", func := "loop.example/g00501/laws.FnExactPicked", spec := "fnExactPicked", unfollowed := true, recurses := true, apart := false }
def FnExactPickedSaid : Prop := fnExactPickedRow.holds Try.pinned (OpenSpec.ofChange fnExactPickedSpec)

/-- ITS FALSE NEIGHBOUR: 'it returns false'. Refute it at one input. -/
def fnExactPickedWrong : ChangeSpec := { name := "fnExactPicked", fn := fun _ => fun
  | [d1, d2] => { results := [.lit (.bool false)], args := [d1, d2] }
  | _ => none }
def FnExactPickedWrongFalsely : Prop := fnExactPickedRow.holds Try.pinned (OpenSpec.ofChange fnExactPickedWrong)

/-- 'laws.FnExactReadFilter': WHATEVER THE INPUT: true; the input reads as it did. -/
def fnExactReadFilterSpec : ChangeSpec := { name := "fnExactReadFilter", fn := fun _ => fun
  | [d] => { results := [.lit (.bool true)], args := [d] }
  | _ => none }
def fnExactReadFilterRow : OpenClaim := { program := "ytigakalkkaoflaa", sum := "3dcc1a046442e209402c9603d3ec42448898f1e1b082d1dacc399e795b7bcd97", func := "loop.example/g00501/laws.FnExactReadFilter", spec := "fnExactReadFilter", inPlace := ["internal/bytealg.IndexByteString", "internal/bytealg.IndexString"], unfollowed := true, recurses := true, named := ["internal/bytealg.MaxLen"], apart := false }
def FnExactReadFilterSaid : Prop := fnExactReadFilterRow.holds Try.pinned (OpenSpec.ofChange fnExactReadFilterSpec)

/-- ITS FALSE NEIGHBOUR: 'it returns false'. Refute it at one input. -/
def fnExactReadFilterWrong : ChangeSpec := { name := "fnExactReadFilter", fn := fun _ => fun
  | [d] => { results := [.lit (.bool false)], args := [d] }
  | _ => none }
def FnExactReadFilterWrongFalsely : Prop := fnExactReadFilterRow.holds Try.pinned (OpenSpec.ofChange fnExactReadFilterWrong)

/-- 'laws.FnExactClosed': WHATEVER THE INPUT: true; the input reads as it did. -/
def fnExactClosedSpec : ChangeSpec := { name := "fnExactClosed", fn := fun _ => fun
  | [d] => { results := [.lit (.bool true)], args := [d] }
  | _ => none }
def fnExactClosedRow : OpenClaim := { program := "ytigakalkkaoflaa", sum := "3dcc1a046442e209402c9603d3ec42448898f1e1b082d1dacc399e795b7bcd97", func := "loop.example/g00501/laws.FnExactClosed", spec := "fnExactClosed", apart := false }
def FnExactClosedSaid : Prop := fnExactClosedRow.holds Try.pinned (OpenSpec.ofChange fnExactClosedSpec)

/-- ITS FALSE NEIGHBOUR: 'it returns false'. Refute it at one input. -/
def fnExactClosedWrong : ChangeSpec := { name := "fnExactClosed", fn := fun _ => fun
  | [d] => { results := [.lit (.bool false)], args := [d] }
  | _ => none }
def FnExactClosedWrongFalsely : Prop := fnExactClosedRow.holds Try.pinned (OpenSpec.ofChange fnExactClosedWrong)

/-- 'laws.FnExactInUse': WHATEVER THE INPUT: true; the input reads as it did. -/
def fnExactInUseSpec : ChangeSpec := { name := "fnExactInUse", fn := fun _ => fun
  | [d1, d2] => { results := [.lit (.bool true)], args := [d1, d2] }
  | _ => none }
def fnExactInUseRow : OpenClaim := { program := "ytigakalkkaoflaa", sum := "3dcc1a046442e209402c9603d3ec42448898f1e1b082d1dacc399e795b7bcd97", func := "loop.example/g00501/laws.FnExactInUse", spec := "fnExactInUse", unfollowed := true, recurses := true, apart := false }
def FnExactInUseSaid : Prop := fnExactInUseRow.holds Try.pinned (OpenSpec.ofChange fnExactInUseSpec)

/-- ITS FALSE NEIGHBOUR: 'it returns false'. Refute it at one input. -/
def fnExactInUseWrong : ChangeSpec := { name := "fnExactInUse", fn := fun _ => fun
  | [d1, d2] => { results := [.lit (.bool false)], args := [d1, d2] }
  | _ => none }
def FnExactInUseWrongFalsely : Prop := fnExactInUseRow.holds Try.pinned (OpenSpec.ofChange fnExactInUseWrong)

/-- 'laws.FnExactCovered': WHATEVER THE INPUT: true; the input reads as it did. -/
def fnExactCoveredSpec : ChangeSpec := { name := "fnExactCovered", fn := fun _ => fun
  | [d1, d2] => { results := [.lit (.bool true)], args := [d1, d2] }
  | _ => none }
def fnExactCoveredRow : OpenClaim := { program := "ytigakalkkaoflaa", sum := "3dcc1a046442e209402c9603d3ec42448898f1e1b082d1dacc399e795b7bcd97", func := "loop.example/g00501/laws.FnExactCovered", spec := "fnExactCovered", apart := false }
def FnExactCoveredSaid : Prop := fnExactCoveredRow.holds Try.pinned (OpenSpec.ofChange fnExactCoveredSpec)

/-- ITS FALSE NEIGHBOUR: 'it returns false'. Refute it at one input. -/
def fnExactCoveredWrong : ChangeSpec := { name := "fnExactCovered", fn := fun _ => fun
  | [d1, d2] => { results := [.lit (.bool false)], args := [d1, d2] }
  | _ => none }
def FnExactCoveredWrongFalsely : Prop := fnExactCoveredRow.holds Try.pinned (OpenSpec.ofChange fnExactCoveredWrong)

/-- 'laws.FnExactSameServer': WHATEVER THE INPUT: true; the input reads as it did. -/
def fnExactSameServerSpec : ChangeSpec := { name := "fnExactSameServer", fn := fun _ => fun
  | [d1, d2] => { results := [.lit (.bool true)], args := [d1, d2] }
  | _ => none }
def fnExactSameServerRow : OpenClaim := { program := "ytigakalkkaoflaa", sum := "3dcc1a046442e209402c9603d3ec42448898f1e1b082d1dacc399e795b7bcd97", func := "loop.example/g00501/laws.FnExactSameServer", spec := "fnExactSameServer", unfollowed := true, recurses := true, apart := false }
def FnExactSameServerSaid : Prop := fnExactSameServerRow.holds Try.pinned (OpenSpec.ofChange fnExactSameServerSpec)

/-- ITS FALSE NEIGHBOUR: 'it returns false'. Refute it at one input. -/
def fnExactSameServerWrong : ChangeSpec := { name := "fnExactSameServer", fn := fun _ => fun
  | [d1, d2] => { results := [.lit (.bool false)], args := [d1, d2] }
  | _ => none }
def FnExactSameServerWrongFalsely : Prop := fnExactSameServerRow.holds Try.pinned (OpenSpec.ofChange fnExactSameServerWrong)

/- THE SECOND FORM. 'bulk': how many values and letters a reading holds, each counted each time it is reached (what is shared counts as often as it is met; a slice's spare places count too). A statement '..UptoSaid' is the law's where the arguments, and the package variables that the reading takes, are together of bulk at most 1048576: NARROWER than '..Said'. Prove '..Said' where nothing that the law and all that it calls make is longer than what came in: it says more and counts as full. Else prove '..UptoSaid'. A law counts once. -/
mutual
def uptoBulk {H : Type} : DataW H → Nat
  | .lit (.string bytes) => bytes.length + 1
  | .lit _ => 1
  | .nil => 1
  | .ptr d => uptoBulk d + 1
  | .slice elems spare => uptoBulkAll elems + uptoBulkAll spare + 1
  | .agg parts => uptoBulkAll parts + 1
  | .iface _ d => uptoBulk d + 1
  | .map entries => uptoBulkEntries entries + 1
  | .held _ => 1
def uptoBulkAll {H : Type} : List (DataW H) → Nat
  | [] => 0
  | d :: r => uptoBulk d + uptoBulkAll r
def uptoBulkEntries {H : Type} : List (Lit × DataW H) → Nat
  | [] => 0
  | x :: r => uptoBulkEntry x + uptoBulkEntries r
def uptoBulkEntry {H : Type} : Lit × DataW H → Nat
  | (.string bytes, d) => bytes.length + uptoBulk d + 1
  | (_, d) => uptoBulk d + 1
 end
def uptoSmall : (H : Type) → List (DataW H) → Bool := fun _ ds => decide (uptoBulkAll ds ≤ 1048576)
def OpenSpec.upto (s : _root_.Go.ChangeSpec) : _root_.Go.OpenSpec := { _root_.Go.OpenSpec.ofChange s with cond := some uptoSmall }

/-- 'laws.FnExactStatusOf', WHERE WHAT IT READS IS OF BULK AT MOST 1048576: true; the input reads as it did. -/
def fnExactStatusOfUptoRow : OpenClaim := { program := "ytigakalkkaoflaa", sum := "3dcc1a046442e209402c9603d3ec42448898f1e1b082d1dacc399e795b7bcd97", func := "loop.example/g00501/laws.FnExactStatusOf", spec := "fnExactStatusOf", unfollowed := true, recurses := true, apart := false, narrowed := true }
def FnExactStatusOfUptoSaid : Prop := fnExactStatusOfUptoRow.holds Try.pinned (OpenSpec.upto fnExactStatusOfSpec)

/-- 'laws.FnExactMayTell', WHERE WHAT IT READS IS OF BULK AT MOST 1048576: true; the input reads as it did. -/
def fnExactMayTellUptoRow : OpenClaim := { program := "ytigakalkkaoflaa", sum := "3dcc1a046442e209402c9603d3ec42448898f1e1b082d1dacc399e795b7bcd97", func := "loop.example/g00501/laws.FnExactMayTell", spec := "fnExactMayTell", unfollowed := true, recurses := true, apart := false, narrowed := true }
def FnExactMayTellUptoSaid : Prop := fnExactMayTellUptoRow.holds Try.pinned (OpenSpec.upto fnExactMayTellSpec)

/-- 'laws.FnExactPending', WHERE WHAT IT READS IS OF BULK AT MOST 1048576: true; the input reads as it did. -/
def fnExactPendingUptoRow : OpenClaim := { program := "ytigakalkkaoflaa", sum := "3dcc1a046442e209402c9603d3ec42448898f1e1b082d1dacc399e795b7bcd97", func := "loop.example/g00501/laws.FnExactPending", spec := "fnExactPending", unfollowed := true, recurses := true, apart := false, narrowed := true }
def FnExactPendingUptoSaid : Prop := fnExactPendingUptoRow.holds Try.pinned (OpenSpec.upto fnExactPendingSpec)

/-- 'laws.FnExactPushed', WHERE WHAT IT READS IS OF BULK AT MOST 1048576: true; the input reads as it did. -/
def fnExactPushedUptoRow : OpenClaim := { program := "ytigakalkkaoflaa", sum := "3dcc1a046442e209402c9603d3ec42448898f1e1b082d1dacc399e795b7bcd97", func := "loop.example/g00501/laws.FnExactPushed", spec := "fnExactPushed", inPlace := ["internal/bytealg.IndexByteString", "internal/bytealg.IndexString"], unfollowed := true, recurses := true, named := ["internal/bytealg.MaxLen"], apart := false, narrowed := true }
def FnExactPushedUptoSaid : Prop := fnExactPushedUptoRow.holds Try.pinned (OpenSpec.upto fnExactPushedSpec)

/-- 'laws.FnExactSameSession', WHERE WHAT IT READS IS OF BULK AT MOST 1048576: true; the input reads as it did. -/
def fnExactSameSessionUptoRow : OpenClaim := { program := "ytigakalkkaoflaa", sum := "3dcc1a046442e209402c9603d3ec42448898f1e1b082d1dacc399e795b7bcd97", func := "loop.example/g00501/laws.FnExactSameSession", spec := "fnExactSameSession", unfollowed := true, recurses := true, apart := false, narrowed := true }
def FnExactSameSessionUptoSaid : Prop := fnExactSameSessionUptoRow.holds Try.pinned (OpenSpec.upto fnExactSameSessionSpec)

/-- 'laws.FnExactPicked', WHERE WHAT IT READS IS OF BULK AT MOST 1048576: true; the input reads as it did. -/
def fnExactPickedUptoRow : OpenClaim := { program := "ytigakalkkaoflaa", sum := "3dcc1a046442e209402c9603d3ec42448898f1e1b082d1dacc399e795b7bcd97", func := "loop.example/g00501/laws.FnExactPicked", spec := "fnExactPicked", unfollowed := true, recurses := true, apart := false, narrowed := true }
def FnExactPickedUptoSaid : Prop := fnExactPickedUptoRow.holds Try.pinned (OpenSpec.upto fnExactPickedSpec)

/-- 'laws.FnExactReadFilter', WHERE WHAT IT READS IS OF BULK AT MOST 1048576: true; the input reads as it did. -/
def fnExactReadFilterUptoRow : OpenClaim := { program := "ytigakalkkaoflaa", sum := "3dcc1a046442e209402c9603d3ec42448898f1e1b082d1dacc399e795b7bcd97", func := "loop.example/g00501/laws.FnExactReadFilter", spec := "fnExactReadFilter", inPlace := ["internal/bytealg.IndexByteString", "internal/bytealg.IndexString"], unfollowed := true, recurses := true, named := ["internal/bytealg.MaxLen"], apart := false, narrowed := true }
def FnExactReadFilterUptoSaid : Prop := fnExactReadFilterUptoRow.holds Try.pinned (OpenSpec.upto fnExactReadFilterSpec)

/-- 'laws.FnExactClosed', WHERE WHAT IT READS IS OF BULK AT MOST 1048576: true; the input reads as it did. -/
def fnExactClosedUptoRow : OpenClaim := { program := "ytigakalkkaoflaa", sum := "3dcc1a046442e209402c9603d3ec42448898f1e1b082d1dacc399e795b7bcd97", func := "loop.example/g00501/laws.FnExactClosed", spec := "fnExactClosed", apart := false, narrowed := true }
def FnExactClosedUptoSaid : Prop := fnExactClosedUptoRow.holds Try.pinned (OpenSpec.upto fnExactClosedSpec)

/-- 'laws.FnExactInUse', WHERE WHAT IT READS IS OF BULK AT MOST 1048576: true; the input reads as it did. -/
def fnExactInUseUptoRow : OpenClaim := { program := "ytigakalkkaoflaa", sum := "3dcc1a046442e209402c9603d3ec42448898f1e1b082d1dacc399e795b7bcd97", func := "loop.example/g00501/laws.FnExactInUse", spec := "fnExactInUse", unfollowed := true, recurses := true, apart := false, narrowed := true }
def FnExactInUseUptoSaid : Prop := fnExactInUseUptoRow.holds Try.pinned (OpenSpec.upto fnExactInUseSpec)

/-- 'laws.FnExactCovered', WHERE WHAT IT READS IS OF BULK AT MOST 1048576: true; the input reads as it did. -/
def fnExactCoveredUptoRow : OpenClaim := { program := "ytigakalkkaoflaa", sum := "3dcc1a046442e209402c9603d3ec42448898f1e1b082d1dacc399e795b7bcd97", func := "loop.example/g00501/laws.FnExactCovered", spec := "fnExactCovered", apart := false, narrowed := true }
def FnExactCoveredUptoSaid : Prop := fnExactCoveredUptoRow.holds Try.pinned (OpenSpec.upto fnExactCoveredSpec)

/-- 'laws.FnExactSameServer', WHERE WHAT IT READS IS OF BULK AT MOST 1048576: true; the input reads as it did. -/
def fnExactSameServerUptoRow : OpenClaim := { program := "ytigakalkkaoflaa", sum := "3dcc1a046442e209402c9603d3ec42448898f1e1b082d1dacc399e795b7bcd97", func := "loop.example/g00501/laws.FnExactSameServer", spec := "fnExactSameServer", unfollowed := true, recurses := true, apart := false, narrowed := true }
def FnExactSameServerUptoSaid : Prop := fnExactSameServerUptoRow.holds Try.pinned (OpenSpec.upto fnExactSameServerSpec)

end Rows
end Go.Proofs.Ytigakalkkaoflaa
