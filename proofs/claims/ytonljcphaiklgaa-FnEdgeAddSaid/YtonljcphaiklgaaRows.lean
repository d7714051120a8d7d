/-
  No cell of these rows narrows 'for every input' (looked for: loops, veiled, ifaces, maps, wideKeys, modest, calm, conditions, laid).
  DERIVED. THE GIVEN ROWS OF THIS SEAT. 11 by the template 'for every input the law returns true; each argument reads behind the call as it read before'; 0 by the template 'total and deterministic' (their statements: YtonljcphaiklgaaTotals.lean).
  GIVEN WITH THE SEED: the statements are not yours to turn. If you find one false, say at which input.
  Laid BY PROGRAM, IN A SANDBOX (cutbox-rows.mjs): the forced cells as the released guide's own fill.sh prints them over the translation 60e8ae8c7d57a846… (all of the seat's roots in one cut). By AI agents, Wed Nov 11 2026. No macro, syntax, notation, axiom, sorry.
-/
import Derived.Test.YtonljcphaiklgaaChecked
import GoSem.Claim
import GoSem.ClaimJoined
import GoSem.ClaimMapViews
import Derived.JoinedTies
import Derived.KernelRfl
namespace Go.Proofs.Ytonljcphaiklgaa
/- THE CELL 'sum', in the pinned program and in every row, IS THE sha256 OF THE DUMP (.gsa) THAT YtonljcphaiklgaaProg.lean LOADS. Nothing in Lean hashes anything: it is a label: what it is worth is what the hold of that sum in a sandbox is worth. -/
noncomputable def Try.pinned : Pinned := { name := "ytonljcphaiklgaa", sum := "60e8ae8c7d57a846ecf781a7966751cee455a6f93d16ac2e823e9906330cb4d7", checked := Try.checked }
namespace Rows
def none {H : Type} : Left H := { results := [], args := [] }

/-- 'laws.FnEdgeEnds': WHATEVER THE INPUT: true; the input reads as it did. -/
def fnEdgeEndsSpec : ChangeSpec := { name := "fnEdgeEnds", fn := fun _ => fun
  | [d] => { results := [.lit (.bool true)], args := [d] }
  | _ => none }
def fnEdgeEndsRow : OpenClaim := { program := "ytonljcphaiklgaa", sum := "60e8ae8c7d57a846ecf781a7966751cee455a6f93d16ac2e823e9906330cb4d7", func := "loop.example/ashlar/laws.FnEdgeEnds", spec := "fnEdgeEnds", unfollowed := true, recurses := true, plainKeys := false, apart := false }
def FnEdgeEndsSaid : Prop := fnEdgeEndsRow.holds Try.pinned (OpenSpec.ofChange fnEdgeEndsSpec)

/-- ITS FALSE NEIGHBOUR: 'it returns false'. Refute it at one input. -/
def fnEdgeEndsWrong : ChangeSpec := { name := "fnEdgeEnds", fn := fun _ => fun
  | [d] => { results := [.lit (.bool false)], args := [d] }
  | _ => none }
def FnEdgeEndsWrongFalsely : Prop := fnEdgeEndsRow.holds Try.pinned (OpenSpec.ofChange fnEdgeEndsWrong)

/-- 'laws.FnEdgesOf': WHATEVER THE INPUT: true; the input reads as it did. -/
def fnEdgesOfSpec : ChangeSpec := { name := "fnEdgesOf", fn := fun _ => fun
  | [d] => { results := [.lit (.bool true)], args := [d] }
  | _ => none }
def fnEdgesOfRow : OpenClaim := { program := "ytonljcphaiklgaa", sum := "60e8ae8c7d57a846ecf781a7966751cee455a6f93d16ac2e823e9906330cb4d7", func := "loop.example/ashlar/laws.FnEdgesOf", spec := "fnEdgesOf", unfollowed := true, recurses := true, plainKeys := false, apart := false }
def FnEdgesOfSaid : Prop := fnEdgesOfRow.holds Try.pinned (OpenSpec.ofChange fnEdgesOfSpec)

/-- ITS FALSE NEIGHBOUR: 'it returns false'. Refute it at one input. -/
def fnEdgesOfWrong : ChangeSpec := { name := "fnEdgesOf", fn := fun _ => fun
  | [d] => { results := [.lit (.bool false)], args := [d] }
  | _ => none }
def FnEdgesOfWrongFalsely : Prop := fnEdgesOfRow.holds Try.pinned (OpenSpec.ofChange fnEdgesOfWrong)

/-- 'laws.FnNodesWith': WHATEVER THE INPUT: true; the input reads as it did. -/
def fnNodesWithSpec : ChangeSpec := { name := "fnNodesWith", fn := fun _ => fun
  | [d] => { results := [.lit (.bool true)], args := [d] }
  | _ => none }
def fnNodesWithRow : OpenClaim := { program := "ytonljcphaiklgaa", sum := "60e8ae8c7d57a846ecf781a7966751cee455a6f93d16ac2e823e9906330cb4d7", func := "loop.example/ashlar/laws.FnNodesWith", spec := "fnNodesWith", unfollowed := true, recurses := true, plainKeys := false, apart := false }
def FnNodesWithSaid : Prop := fnNodesWithRow.holds Try.pinned (OpenSpec.ofChange fnNodesWithSpec)

/-- ITS FALSE NEIGHBOUR: 'it returns false'. Refute it at one input. -/
def fnNodesWithWrong : ChangeSpec := { name := "fnNodesWith", fn := fun _ => fun
  | [d] => { results := [.lit (.bool false)], args := [d] }
  | _ => none }
def FnNodesWithWrongFalsely : Prop := fnNodesWithRow.holds Try.pinned (OpenSpec.ofChange fnNodesWithWrong)

/-- 'laws.FnDropAll': WHATEVER THE INPUT: true; the input reads as it did. -/
def fnDropAllSpec : ChangeSpec := { name := "fnDropAll", fn := fun _ => fun
  | [d] => { results := [.lit (.bool true)], args := [d] }
  | _ => none }
def fnDropAllRow : OpenClaim := { program := "ytonljcphaiklgaa", sum := "60e8ae8c7d57a846ecf781a7966751cee455a6f93d16ac2e823e9906330cb4d7", func := "loop.example/ashlar/laws.FnDropAll", spec := "fnDropAll", unfollowed := true, recurses := true, plainKeys := false, apart := false }
def FnDropAllSaid : Prop := fnDropAllRow.holds Try.pinned (OpenSpec.ofChange fnDropAllSpec)

/-- ITS FALSE NEIGHBOUR: 'it returns false'. Refute it at one input. -/
def fnDropAllWrong : ChangeSpec := { name := "fnDropAll", fn := fun _ => fun
  | [d] => { results := [.lit (.bool false)], args := [d] }
  | _ => none }
def FnDropAllWrongFalsely : Prop := fnDropAllRow.holds Try.pinned (OpenSpec.ofChange fnDropAllWrong)

/-- 'laws.FnEdgeDrop': WHATEVER THE INPUT: true; the input reads as it did. -/
def fnEdgeDropSpec : ChangeSpec := { name := "fnEdgeDrop", fn := fun _ => fun
  | [d] => { results := [.lit (.bool true)], args := [d] }
  | _ => none }
def fnEdgeDropRow : OpenClaim := { program := "ytonljcphaiklgaa", sum := "60e8ae8c7d57a846ecf781a7966751cee455a6f93d16ac2e823e9906330cb4d7", func := "loop.example/ashlar/laws.FnEdgeDrop", spec := "fnEdgeDrop", unfollowed := true, recurses := true, plainKeys := false, apart := false }
def FnEdgeDropSaid : Prop := fnEdgeDropRow.holds Try.pinned (OpenSpec.ofChange fnEdgeDropSpec)

/-- ITS FALSE NEIGHBOUR: 'it returns false'. Refute it at one input. -/
def fnEdgeDropWrong : ChangeSpec := { name := "fnEdgeDrop", fn := fun _ => fun
  | [d] => { results := [.lit (.bool false)], args := [d] }
  | _ => none }
def FnEdgeDropWrongFalsely : Prop := fnEdgeDropRow.holds Try.pinned (OpenSpec.ofChange fnEdgeDropWrong)

/-- 'laws.FnNodeAdd': WHATEVER THE INPUT: true; the input reads as it did. -/
def fnNodeAddSpec : ChangeSpec := { name := "fnNodeAdd", fn := fun _ => fun
  | [d] => { results := [.lit (.bool true)], args := [d] }
  | _ => none }
def fnNodeAddRow : OpenClaim := { program := "ytonljcphaiklgaa", sum := "60e8ae8c7d57a846ecf781a7966751cee455a6f93d16ac2e823e9906330cb4d7", func := "loop.example/ashlar/laws.FnNodeAdd", spec := "fnNodeAdd", unfollowed := true, recurses := true, plainKeys := false, apart := false }
def FnNodeAddSaid : Prop := fnNodeAddRow.holds Try.pinned (OpenSpec.ofChange fnNodeAddSpec)

/-- ITS FALSE NEIGHBOUR: 'it returns false'. Refute it at one input. -/
def fnNodeAddWrong : ChangeSpec := { name := "fnNodeAdd", fn := fun _ => fun
  | [d] => { results := [.lit (.bool false)], args := [d] }
  | _ => none }
def FnNodeAddWrongFalsely : Prop := fnNodeAddRow.holds Try.pinned (OpenSpec.ofChange fnNodeAddWrong)

/-- 'laws.FnNodeTwice': WHATEVER THE INPUT: true; the input reads as it did. -/
def fnNodeTwiceSpec : ChangeSpec := { name := "fnNodeTwice", fn := fun _ => fun
  | [d] => { results := [.lit (.bool true)], args := [d] }
  | _ => none }
def fnNodeTwiceRow : OpenClaim := { program := "ytonljcphaiklgaa", sum := "60e8ae8c7d57a846ecf781a7966751cee455a6f93d16ac2e823e9906330cb4d7", func := "loop.example/ashlar/laws.FnNodeTwice", spec := "fnNodeTwice", unfollowed := true, recurses := true, plainKeys := false, apart := false }
def FnNodeTwiceSaid : Prop := fnNodeTwiceRow.holds Try.pinned (OpenSpec.ofChange fnNodeTwiceSpec)

/-- ITS FALSE NEIGHBOUR: 'it returns false'. Refute it at one input. -/
def fnNodeTwiceWrong : ChangeSpec := { name := "fnNodeTwice", fn := fun _ => fun
  | [d] => { results := [.lit (.bool false)], args := [d] }
  | _ => none }
def FnNodeTwiceWrongFalsely : Prop := fnNodeTwiceRow.holds Try.pinned (OpenSpec.ofChange fnNodeTwiceWrong)

/-- 'laws.FnEdgeAdd': WHATEVER THE INPUT: true; the input reads as it did. -/
def fnEdgeAddSpec : ChangeSpec := { name := "fnEdgeAdd", fn := fun _ => fun
  | [d] => { results := [.lit (.bool true)], args := [d] }
  | _ => none }
def fnEdgeAddRow : OpenClaim := { program := "ytonljcphaiklgaa", sum := "60e8ae8c7d57a846ecf781a7966751cee455a6f93d16ac2e823e9906330cb4d7", func := "loop.example/ashlar/laws.FnEdgeAdd", spec := "fnEdgeAdd", unfollowed := true, recurses := true, plainKeys := false, apart := false }
def FnEdgeAddSaid : Prop := fnEdgeAddRow.holds Try.pinned (OpenSpec.ofChange fnEdgeAddSpec)

/-- ITS FALSE NEIGHBOUR: 'it returns false'. Refute it at one input. -/
def fnEdgeAddWrong : ChangeSpec := { name := "fnEdgeAdd", fn := fun _ => fun
  | [d] => { results := [.lit (.bool false)], args := [d] }
  | _ => none }
def FnEdgeAddWrongFalsely : Prop := fnEdgeAddRow.holds Try.pinned (OpenSpec.ofChange fnEdgeAddWrong)

/-- 'laws.FnNodeDrop': WHATEVER THE INPUT: true; the input reads as it did. -/
def fnNodeDropSpec : ChangeSpec := { name := "fnNodeDrop", fn := fun _ => fun
  | [d] => { results := [.lit (.bool true)], args := [d] }
  | _ => none }
def fnNodeDropRow : OpenClaim := { program := "ytonljcphaiklgaa", sum := "60e8ae8c7d57a846ecf781a7966751cee455a6f93d16ac2e823e9906330cb4d7", func := "loop.example/ashlar/laws.FnNodeDrop", spec := "fnNodeDrop", unfollowed := true, recurses := true, plainKeys := false, apart := false }
def FnNodeDropSaid : Prop := fnNodeDropRow.holds Try.pinned (OpenSpec.ofChange fnNodeDropSpec)

/-- ITS FALSE NEIGHBOUR: 'it returns false'. Refute it at one input. -/
def fnNodeDropWrong : ChangeSpec := { name := "fnNodeDrop", fn := fun _ => fun
  | [d] => { results := [.lit (.bool false)], args := [d] }
  | _ => none }
def FnNodeDropWrongFalsely : Prop := fnNodeDropRow.holds Try.pinned (OpenSpec.ofChange fnNodeDropWrong)

/-- 'laws.FnLabelSet': WHATEVER THE INPUT: true; the input reads as it did. -/
def fnLabelSetSpec : ChangeSpec := { name := "fnLabelSet", fn := fun _ => fun
  | [d] => { results := [.lit (.bool true)], args := [d] }
  | _ => none }
def fnLabelSetRow : OpenClaim := { program := "ytonljcphaiklgaa", sum := "60e8ae8c7d57a846ecf781a7966751cee455a6f93d16ac2e823e9906330cb4d7", func := "loop.example/ashlar/laws.FnLabelSet", spec := "fnLabelSet", inPlace := ["slices.overlaps[string]"], unfollowed := true, recurses := true, plainKeys := false, apart := false }
def FnLabelSetSaid : Prop := fnLabelSetRow.holds Try.pinned (OpenSpec.ofChange fnLabelSetSpec)

/-- ITS FALSE NEIGHBOUR: 'it returns false'. Refute it at one input. -/
def fnLabelSetWrong : ChangeSpec := { name := "fnLabelSet", fn := fun _ => fun
  | [d] => { results := [.lit (.bool false)], args := [d] }
  | _ => none }
def FnLabelSetWrongFalsely : Prop := fnLabelSetRow.holds Try.pinned (OpenSpec.ofChange fnLabelSetWrong)

/-- 'laws.FnPropSet': WHATEVER THE INPUT: true; the input reads as it did. -/
def fnPropSetSpec : ChangeSpec := { name := "fnPropSet", fn := fun _ => fun
  | [d] => { results := [.lit (.bool true)], args := [d] }
  | _ => none }
def fnPropSetRow : OpenClaim := { program := "ytonljcphaiklgaa", sum := "60e8ae8c7d57a846ecf781a7966751cee455a6f93d16ac2e823e9906330cb4d7", func := "loop.example/ashlar/laws.FnPropSet", spec := "fnPropSet", inPlace := ["slices.overlaps[loop.example/ashlar/impl.Prop]"], unfollowed := true, recurses := true, plainKeys := false, apart := false }
def FnPropSetSaid : Prop := fnPropSetRow.holds Try.pinned (OpenSpec.ofChange fnPropSetSpec)

/-- ITS FALSE NEIGHBOUR: 'it returns false'. Refute it at one input. -/
def fnPropSetWrong : ChangeSpec := { name := "fnPropSet", fn := fun _ => fun
  | [d] => { results := [.lit (.bool false)], args := [d] }
  | _ => none }
def FnPropSetWrongFalsely : Prop := fnPropSetRow.holds Try.pinned (OpenSpec.ofChange fnPropSetWrong)

/- THE SECOND FORM. 'bulk': how many values and letters a reading holds, each counted each time it is reached (what is shared counts as often as it is met; a slice's spare places count too). A statement '..UptoSaid' is the law's where the arguments, and the package variables that the reading takes, are together of bulk at most 1048576: NARROWER than '..Said'. Prove '..Said' where nothing that the law and all that it calls make is longer than what came in: it says more and counts as full. Else prove '..UptoSaid'. A law counts once. -/
mutual
def uptoBulk {H : Type} : DataW H → Nat
  | .lit (.string bytes) => bytes.length + 1
  | .lit _ => 1
  | .nil => 1
  | .ptr d => uptoBulk d + 1
  | .slice elems spare => uptoBulkAll elems + uptoBulkAll spare + 1
  | .agg parts => uptoBulkAll parts + 1
  | .iface _ d => uptoBulk d + 1
  | .map entries => uptoBulkEntries entries + 1
  | .held _ => 1
def uptoBulkAll {H : Type} : List (DataW H) → Nat
  | [] => 0
  | d :: r => uptoBulk d + uptoBulkAll r
def uptoBulkEntries {H : Type} : List (Lit × DataW H) → Nat
  | [] => 0
  | x :: r => uptoBulkEntry x + uptoBulkEntries r
def uptoBulkEntry {H : Type} : Lit × DataW H → Nat
  | (.string bytes, d) => bytes.length + uptoBulk d + 1
  | (_, d) => uptoBulk d + 1
 end
def uptoSmall : (H : Type) → List (DataW H) → Bool := fun _ ds => decide (uptoBulkAll ds ≤ 1048576)
def OpenSpec.upto (s : _root_.Go.ChangeSpec) : _root_.Go.OpenSpec := { _root_.Go.OpenSpec.ofChange s with cond := some uptoSmall }

/-- 'laws.FnEdgeEnds', WHERE WHAT IT READS IS OF BULK AT MOST 1048576: true; the input reads as it did. -/
def fnEdgeEndsUptoRow : OpenClaim := { program := "ytonljcphaiklgaa", sum := "60e8ae8c7d57a846ecf781a7966751cee455a6f93d16ac2e823e9906330cb4d7", func := "loop.example/ashlar/laws.FnEdgeEnds", spec := "fnEdgeEnds", unfollowed := true, recurses := true, plainKeys := false, apart := false, narrowed := true }
def FnEdgeEndsUptoSaid : Prop := fnEdgeEndsUptoRow.holds Try.pinned (OpenSpec.upto fnEdgeEndsSpec)

/-- 'laws.FnEdgesOf', WHERE WHAT IT READS IS OF BULK AT MOST 1048576: true; the input reads as it did. -/
def fnEdgesOfUptoRow : OpenClaim := { program := "ytonljcphaiklgaa", sum := "60e8ae8c7d57a846ecf781a7966751cee455a6f93d16ac2e823e9906330cb4d7", func := "loop.example/ashlar/laws.FnEdgesOf", spec := "fnEdgesOf", unfollowed := true, recurses := true, plainKeys := false, apart := false, narrowed := true }
def FnEdgesOfUptoSaid : Prop := fnEdgesOfUptoRow.holds Try.pinned (OpenSpec.upto fnEdgesOfSpec)

/-- 'laws.FnNodesWith', WHERE WHAT IT READS IS OF BULK AT MOST 1048576: true; the input reads as it did. -/
def fnNodesWithUptoRow : OpenClaim := { program := "ytonljcphaiklgaa", sum := "60e8ae8c7d57a846ecf781a7966751cee455a6f93d16ac2e823e9906330cb4d7", func := "loop.example/ashlar/laws.FnNodesWith", spec := "fnNodesWith", unfollowed := true, recurses := true, plainKeys := false, apart := false, narrowed := true }
def FnNodesWithUptoSaid : Prop := fnNodesWithUptoRow.holds Try.pinned (OpenSpec.upto fnNodesWithSpec)

/-- 'laws.FnDropAll', WHERE WHAT IT READS IS OF BULK AT MOST 1048576: true; the input reads as it did. -/
def fnDropAllUptoRow : OpenClaim := { program := "ytonljcphaiklgaa", sum := "60e8ae8c7d57a846ecf781a7966751cee455a6f93d16ac2e823e9906330cb4d7", func := "loop.example/ashlar/laws.FnDropAll", spec := "fnDropAll", unfollowed := true, recurses := true, plainKeys := false, apart := false, narrowed := true }
def FnDropAllUptoSaid : Prop := fnDropAllUptoRow.holds Try.pinned (OpenSpec.upto fnDropAllSpec)

/-- 'laws.FnEdgeDrop', WHERE WHAT IT READS IS OF BULK AT MOST 1048576: true; the input reads as it did. -/
def fnEdgeDropUptoRow : OpenClaim := { program := "ytonljcphaiklgaa", sum := "60e8ae8c7d57a846ecf781a7966751cee455a6f93d16ac2e823e9906330cb4d7", func := "loop.example/ashlar/laws.FnEdgeDrop", spec := "fnEdgeDrop", unfollowed := true, recurses := true, plainKeys := false, apart := false, narrowed := true }
def FnEdgeDropUptoSaid : Prop := fnEdgeDropUptoRow.holds Try.pinned (OpenSpec.upto fnEdgeDropSpec)

/-- 'laws.FnNodeAdd', WHERE WHAT IT READS IS OF BULK AT MOST 1048576: true; the input reads as it did. -/
def fnNodeAddUptoRow : OpenClaim := { program := "ytonljcphaiklgaa", sum := "60e8ae8c7d57a846ecf781a7966751cee455a6f93d16ac2e823e9906330cb4d7", func := "loop.example/ashlar/laws.FnNodeAdd", spec := "fnNodeAdd", unfollowed := true, recurses := true, plainKeys := false, apart := false, narrowed := true }
def FnNodeAddUptoSaid : Prop := fnNodeAddUptoRow.holds Try.pinned (OpenSpec.upto fnNodeAddSpec)

/-- 'laws.FnNodeTwice', WHERE WHAT IT READS IS OF BULK AT MOST 1048576: true; the input reads as it did. -/
def fnNodeTwiceUptoRow : OpenClaim := { program := "ytonljcphaiklgaa", sum := "60e8ae8c7d57a846ecf781a7966751cee455a6f93d16ac2e823e9906330cb4d7", func := "loop.example/ashlar/laws.FnNodeTwice", spec := "fnNodeTwice", unfollowed := true, recurses := true, plainKeys := false, apart := false, narrowed := true }
def FnNodeTwiceUptoSaid : Prop := fnNodeTwiceUptoRow.holds Try.pinned (OpenSpec.upto fnNodeTwiceSpec)

/-- 'laws.FnEdgeAdd', WHERE WHAT IT READS IS OF BULK AT MOST 1048576: true; the input reads as it did. -/
def fnEdgeAddUptoRow : OpenClaim := { program := "ytonljcphaiklgaa", sum := "60e8ae8c7d57a846ecf781a7966751cee455a6f93d16ac2e823e9906330cb4d7", func := "loop.example/ashlar/laws.FnEdgeAdd", spec := "fnEdgeAdd", unfollowed := true, recurses := true, plainKeys := false, apart := false, narrowed := true }
def FnEdgeAddUptoSaid : Prop := fnEdgeAddUptoRow.holds Try.pinned (OpenSpec.upto fnEdgeAddSpec)

/-- 'laws.FnNodeDrop', WHERE WHAT IT READS IS OF BULK AT MOST 1048576: true; the input reads as it did. -/
def fnNodeDropUptoRow : OpenClaim := { program := "ytonljcphaiklgaa", sum := "60e8ae8c7d57a846ecf781a7966751cee455a6f93d16ac2e823e9906330cb4d7", func := "loop.example/ashlar/laws.FnNodeDrop", spec := "fnNodeDrop", unfollowed := true, recurses := true, plainKeys := false, apart := false, narrowed := true }
def FnNodeDropUptoSaid : Prop := fnNodeDropUptoRow.holds Try.pinned (OpenSpec.upto fnNodeDropSpec)

/-- 'laws.FnLabelSet', WHERE WHAT IT READS IS OF BULK AT MOST 1048576: true; the input reads as it did. -/
def fnLabelSetUptoRow : OpenClaim := { program := "ytonljcphaiklgaa", sum := "60e8ae8c7d57a846ecf781a7966751cee455a6f93d16ac2e823e9906330cb4d7", func := "loop.example/ashlar/laws.FnLabelSet", spec := "fnLabelSet", inPlace := ["slices.overlaps[string]"], unfollowed := true, recurses := true, plainKeys := false, apart := false, narrowed := true }
def FnLabelSetUptoSaid : Prop := fnLabelSetUptoRow.holds Try.pinned (OpenSpec.upto fnLabelSetSpec)

/-- 'laws.FnPropSet', WHERE WHAT IT READS IS OF BULK AT MOST 1048576: true; the input reads as it did. -/
def fnPropSetUptoRow : OpenClaim := { program := "ytonljcphaiklgaa", sum := "60e8ae8c7d57a846ecf781a7966751cee455a6f93d16ac2e823e9906330cb4d7", func := "loop.example/ashlar/laws.FnPropSet", spec := "fnPropSet", inPlace := ["slices.overlaps[loop.example/ashlar/impl.Prop]"], unfollowed := true, recurses := true, plainKeys := false, apart := false, narrowed := true }
def FnPropSetUptoSaid : Prop := fnPropSetUptoRow.holds Try.pinned (OpenSpec.upto fnPropSetSpec)

end Rows
end Go.Proofs.Ytonljcphaiklgaa
