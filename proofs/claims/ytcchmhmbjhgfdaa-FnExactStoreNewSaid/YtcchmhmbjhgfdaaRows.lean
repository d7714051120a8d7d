/-
  NARROWER THAN 'FOR EVERY INPUT', by the rows' own cells (each row's printed sentence says how): FnExactGraphOk: loops · FnExactEdgesOf: loops · FnExactNodesWith: loops · FnExactPropGet: loops · FnExactFindBy: loops · FnExactNodeAdd: loops · FnExactEdgeAdd: loops · FnExactEdgeDrop: loops · FnExactNodeDrop: loops · FnExactLabelSet: loops · FnExactPropSet: loops.
  DERIVED. THE GIVEN ROWS OF THIS SEAT. 12 by the template 'for every input the law returns true; each argument reads behind the call as it read before'; 0 by the template 'total and deterministic' (their statements: YtcchmhmbjhgfdaaTotals.lean).
  GIVEN WITH THE SEED: the statements are not yours to turn. If you find one false, say at which input.
  Laid BY PROGRAM, IN A SANDBOX (cutbox-rows.mjs): the forced cells as the released guide's own fill.sh prints them over the translation e577ad8184ad0c52… (all of the seat's roots in one cut). By AI agents, Wed Nov 11 2026. No macro, syntax, notation, axiom, sorry.
-/
import Derived.Test.YtcchmhmbjhgfdaaChecked
import GoSem.Claim
import GoSem.ClaimJoined
import GoSem.ClaimMapViews
import Derived.JoinedTies
import Derived.KernelRfl
namespace Go.Proofs.Ytcchmhmbjhgfdaa
/- THE CELL 'sum', in the pinned program and in every row, IS THE sha256 OF THE DUMP (.gsa) THAT YtcchmhmbjhgfdaaProg.lean LOADS. Nothing in Lean hashes anything: it is a label: what it is worth is what the hold of that sum in a sandbox is worth. -/
noncomputable def Try.pinned : Pinned := { name := "ytcchmhmbjhgfdaa", sum := "e577ad8184ad0c52f86b1cf103d6b402901bc85c897d0822199ded9025b42e1d", checked := Try.checked }
namespace Rows
def none {H : Type} : Left H := { results := [], args := [] }

/-- 'laws.FnExactGraphOk': WHATEVER THE INPUT: true; the input reads as it did. -/
def fnExactGraphOkSpec : ChangeSpec := { name := "fnExactGraphOk", fn := fun _ => fun
  | [d] => { results := [.lit (.bool true)], args := [d] }
  | _ => none }
def fnExactGraphOkRow : OpenClaim := { program := "ytcchmhmbjhgfdaa", sum := "e577ad8184ad0c52f86b1cf103d6b402901bc85c897d0822199ded9025b42e1d", func := "loop.example/ashlar/laws.FnExactGraphOk", spec := "fnExactGraphOk", unfollowed := true, recurses := true, loops := true, plainKeys := false, apart := false }
def FnExactGraphOkSaid : Prop := fnExactGraphOkRow.holds Try.pinned (OpenSpec.ofChange fnExactGraphOkSpec)

/-- ITS FALSE NEIGHBOUR: 'it returns false'. Refute it at one input. -/
def fnExactGraphOkWrong : ChangeSpec := { name := "fnExactGraphOk", fn := fun _ => fun
  | [d] => { results := [.lit (.bool false)], args := [d] }
  | _ => none }
def FnExactGraphOkWrongFalsely : Prop := fnExactGraphOkRow.holds Try.pinned (OpenSpec.ofChange fnExactGraphOkWrong)

/-- 'laws.FnExactEdgesOf': WHATEVER THE INPUT: true; the input reads as it did. -/
def fnExactEdgesOfSpec : ChangeSpec := { name := "fnExactEdgesOf", fn := fun _ => fun
  | [d1, d2, d3, d4] => { results := [.lit (.bool true)], args := [d1, d2, d3, d4] }
  | _ => none }
def fnExactEdgesOfRow : OpenClaim := { program := "ytcchmhmbjhgfdaa", sum := "e577ad8184ad0c52f86b1cf103d6b402901bc85c897d0822199ded9025b42e1d", func := "loop.example/ashlar/laws.FnExactEdgesOf", spec := "fnExactEdgesOf", unfollowed := true, recurses := true, loops := true, plainKeys := false, apart := false }
def FnExactEdgesOfSaid : Prop := fnExactEdgesOfRow.holds Try.pinned (OpenSpec.ofChange fnExactEdgesOfSpec)

/-- ITS FALSE NEIGHBOUR: 'it returns false'. Refute it at one input. -/
def fnExactEdgesOfWrong : ChangeSpec := { name := "fnExactEdgesOf", fn := fun _ => fun
  | [d1, d2, d3, d4] => { results := [.lit (.bool false)], args := [d1, d2, d3, d4] }
  | _ => none }
def FnExactEdgesOfWrongFalsely : Prop := fnExactEdgesOfRow.holds Try.pinned (OpenSpec.ofChange fnExactEdgesOfWrong)

/-- 'laws.FnExactNodesWith': WHATEVER THE INPUT: true; the input reads as it did. -/
def fnExactNodesWithSpec : ChangeSpec := { name := "fnExactNodesWith", fn := fun _ => fun
  | [d1, d2] => { results := [.lit (.bool true)], args := [d1, d2] }
  | _ => none }
def fnExactNodesWithRow : OpenClaim := { program := "ytcchmhmbjhgfdaa", sum := "e577ad8184ad0c52f86b1cf103d6b402901bc85c897d0822199ded9025b42e1d", func := "loop.example/ashlar/laws.FnExactNodesWith", spec := "fnExactNodesWith", unfollowed := true, recurses := true, loops := true, plainKeys := false, apart := false }
def FnExactNodesWithSaid : Prop := fnExactNodesWithRow.holds Try.pinned (OpenSpec.ofChange fnExactNodesWithSpec)

/-- ITS FALSE NEIGHBOUR: 'it returns false'. Refute it at one input. -/
def fnExactNodesWithWrong : ChangeSpec := { name := "fnExactNodesWith", fn := fun _ => fun
  | [d1, d2] => { results := [.lit (.bool false)], args := [d1, d2] }
  | _ => none }
def FnExactNodesWithWrongFalsely : Prop := fnExactNodesWithRow.holds Try.pinned (OpenSpec.ofChange fnExactNodesWithWrong)

/-- 'laws.FnExactPropGet': WHATEVER THE INPUT: true; the input reads as it did. -/
def fnExactPropGetSpec : ChangeSpec := { name := "fnExactPropGet", fn := fun _ => fun
  | [d1, d2, d3] => { results := [.lit (.bool true)], args := [d1, d2, d3] }
  | _ => none }
def fnExactPropGetRow : OpenClaim := { program := "ytcchmhmbjhgfdaa", sum := "e577ad8184ad0c52f86b1cf103d6b402901bc85c897d0822199ded9025b42e1d", func := "loop.example/ashlar/laws.FnExactPropGet", spec := "fnExactPropGet", unfollowed := true, recurses := true, loops := true, plainKeys := false, apart := false }
def FnExactPropGetSaid : Prop := fnExactPropGetRow.holds Try.pinned (OpenSpec.ofChange fnExactPropGetSpec)

/-- ITS FALSE NEIGHBOUR: 'it returns false'. Refute it at one input. -/
def fnExactPropGetWrong : ChangeSpec := { name := "fnExactPropGet", fn := fun _ => fun
  | [d1, d2, d3] => { results := [.lit (.bool false)], args := [d1, d2, d3] }
  | _ => none }
def FnExactPropGetWrongFalsely : Prop := fnExactPropGetRow.holds Try.pinned (OpenSpec.ofChange fnExactPropGetWrong)

/-- 'laws.FnExactFindBy': WHATEVER THE INPUT: true; the input reads as it did. -/
def fnExactFindBySpec : ChangeSpec := { name := "fnExactFindBy", fn := fun _ => fun
  | [d1, d2, d3, d4] => { results := [.lit (.bool true)], args := [d1, d2, d3, d4] }
  | _ => none }
def fnExactFindByRow : OpenClaim := { program := "ytcchmhmbjhgfdaa", sum := "e577ad8184ad0c52f86b1cf103d6b402901bc85c897d0822199ded9025b42e1d", func := "loop.example/ashlar/laws.FnExactFindBy", spec := "fnExactFindBy", unfollowed := true, recurses := true, loops := true, plainKeys := false, apart := false }
def FnExactFindBySaid : Prop := fnExactFindByRow.holds Try.pinned (OpenSpec.ofChange fnExactFindBySpec)

/-- ITS FALSE NEIGHBOUR: 'it returns false'. Refute it at one input. -/
def fnExactFindByWrong : ChangeSpec := { name := "fnExactFindBy", fn := fun _ => fun
  | [d1, d2, d3, d4] => { results := [.lit (.bool false)], args := [d1, d2, d3, d4] }
  | _ => none }
def FnExactFindByWrongFalsely : Prop := fnExactFindByRow.holds Try.pinned (OpenSpec.ofChange fnExactFindByWrong)

/-- 'laws.FnExactNodeAdd': WHATEVER THE INPUT: true; the input reads as it did. -/
def fnExactNodeAddSpec : ChangeSpec := { name := "fnExactNodeAdd", fn := fun _ => fun
  | [d1, d2, d3] => { results := [.lit (.bool true)], args := [d1, d2, d3] }
  | _ => none }
def fnExactNodeAddRow : OpenClaim := { program := "ytcchmhmbjhgfdaa", sum := "e577ad8184ad0c52f86b1cf103d6b402901bc85c897d0822199ded9025b42e1d", func := "loop.example/ashlar/laws.FnExactNodeAdd", spec := "fnExactNodeAdd", unfollowed := true, recurses := true, loops := true, plainKeys := false, apart := false }
def FnExactNodeAddSaid : Prop := fnExactNodeAddRow.holds Try.pinned (OpenSpec.ofChange fnExactNodeAddSpec)

/-- ITS FALSE NEIGHBOUR: 'it returns false'. Refute it at one input. -/
def fnExactNodeAddWrong : ChangeSpec := { name := "fnExactNodeAdd", fn := fun _ => fun
  | [d1, d2, d3] => { results := [.lit (.bool false)], args := [d1, d2, d3] }
  | _ => none }
def FnExactNodeAddWrongFalsely : Prop := fnExactNodeAddRow.holds Try.pinned (OpenSpec.ofChange fnExactNodeAddWrong)

/-- 'laws.FnExactEdgeAdd': WHATEVER THE INPUT: true; the input reads as it did. -/
def fnExactEdgeAddSpec : ChangeSpec := { name := "fnExactEdgeAdd", fn := fun _ => fun
  | [d1, d2, d3, d4, d5] => { results := [.lit (.bool true)], args := [d1, d2, d3, d4, d5] }
  | _ => none }
def fnExactEdgeAddRow : OpenClaim := { program := "ytcchmhmbjhgfdaa", sum := "e577ad8184ad0c52f86b1cf103d6b402901bc85c897d0822199ded9025b42e1d", func := "loop.example/ashlar/laws.FnExactEdgeAdd", spec := "fnExactEdgeAdd", unfollowed := true, recurses := true, loops := true, plainKeys := false, apart := false }
def FnExactEdgeAddSaid : Prop := fnExactEdgeAddRow.holds Try.pinned (OpenSpec.ofChange fnExactEdgeAddSpec)

/-- ITS FALSE NEIGHBOUR: 'it returns false'. Refute it at one input. -/
def fnExactEdgeAddWrong : ChangeSpec := { name := "fnExactEdgeAdd", fn := fun _ => fun
  | [d1, d2, d3, d4, d5] => { results := [.lit (.bool false)], args := [d1, d2, d3, d4, d5] }
  | _ => none }
def FnExactEdgeAddWrongFalsely : Prop := fnExactEdgeAddRow.holds Try.pinned (OpenSpec.ofChange fnExactEdgeAddWrong)

/-- 'laws.FnExactEdgeDrop': WHATEVER THE INPUT: true; the input reads as it did. -/
def fnExactEdgeDropSpec : ChangeSpec := { name := "fnExactEdgeDrop", fn := fun _ => fun
  | [d1, d2] => { results := [.lit (.bool true)], args := [d1, d2] }
  | _ => none }
def fnExactEdgeDropRow : OpenClaim := { program := "ytcchmhmbjhgfdaa", sum := "e577ad8184ad0c52f86b1cf103d6b402901bc85c897d0822199ded9025b42e1d", func := "loop.example/ashlar/laws.FnExactEdgeDrop", spec := "fnExactEdgeDrop", unfollowed := true, recurses := true, loops := true, plainKeys := false, apart := false }
def FnExactEdgeDropSaid : Prop := fnExactEdgeDropRow.holds Try.pinned (OpenSpec.ofChange fnExactEdgeDropSpec)

/-- ITS FALSE NEIGHBOUR: 'it returns false'. Refute it at one input. -/
def fnExactEdgeDropWrong : ChangeSpec := { name := "fnExactEdgeDrop", fn := fun _ => fun
  | [d1, d2] => { results := [.lit (.bool false)], args := [d1, d2] }
  | _ => none }
def FnExactEdgeDropWrongFalsely : Prop := fnExactEdgeDropRow.holds Try.pinned (OpenSpec.ofChange fnExactEdgeDropWrong)

/-- 'laws.FnExactNodeDrop': WHATEVER THE INPUT: true; the input reads as it did. -/
def fnExactNodeDropSpec : ChangeSpec := { name := "fnExactNodeDrop", fn := fun _ => fun
  | [d1, d2, d3] => { results := [.lit (.bool true)], args := [d1, d2, d3] }
  | _ => none }
def fnExactNodeDropRow : OpenClaim := { program := "ytcchmhmbjhgfdaa", sum := "e577ad8184ad0c52f86b1cf103d6b402901bc85c897d0822199ded9025b42e1d", func := "loop.example/ashlar/laws.FnExactNodeDrop", spec := "fnExactNodeDrop", unfollowed := true, recurses := true, loops := true, plainKeys := false, apart := false }
def FnExactNodeDropSaid : Prop := fnExactNodeDropRow.holds Try.pinned (OpenSpec.ofChange fnExactNodeDropSpec)

/-- ITS FALSE NEIGHBOUR: 'it returns false'. Refute it at one input. -/
def fnExactNodeDropWrong : ChangeSpec := { name := "fnExactNodeDrop", fn := fun _ => fun
  | [d1, d2, d3] => { results := [.lit (.bool false)], args := [d1, d2, d3] }
  | _ => none }
def FnExactNodeDropWrongFalsely : Prop := fnExactNodeDropRow.holds Try.pinned (OpenSpec.ofChange fnExactNodeDropWrong)

/-- 'laws.FnExactLabelSet': WHATEVER THE INPUT: true; the input reads as it did. -/
def fnExactLabelSetSpec : ChangeSpec := { name := "fnExactLabelSet", fn := fun _ => fun
  | [d1, d2, d3, d4] => { results := [.lit (.bool true)], args := [d1, d2, d3, d4] }
  | _ => none }
def fnExactLabelSetRow : OpenClaim := { program := "ytcchmhmbjhgfdaa", sum := "e577ad8184ad0c52f86b1cf103d6b402901bc85c897d0822199ded9025b42e1d", func := "loop.example/ashlar/laws.FnExactLabelSet", spec := "fnExactLabelSet", inPlace := ["slices.overlaps[string]"], unfollowed := true, recurses := true, loops := true, plainKeys := false, apart := false }
def FnExactLabelSetSaid : Prop := fnExactLabelSetRow.holds Try.pinned (OpenSpec.ofChange fnExactLabelSetSpec)

/-- ITS FALSE NEIGHBOUR: 'it returns false'. Refute it at one input. -/
def fnExactLabelSetWrong : ChangeSpec := { name := "fnExactLabelSet", fn := fun _ => fun
  | [d1, d2, d3, d4] => { results := [.lit (.bool false)], args := [d1, d2, d3, d4] }
  | _ => none }
def FnExactLabelSetWrongFalsely : Prop := fnExactLabelSetRow.holds Try.pinned (OpenSpec.ofChange fnExactLabelSetWrong)

/-- 'laws.FnExactPropSet': WHATEVER THE INPUT: true; the input reads as it did. -/
def fnExactPropSetSpec : ChangeSpec := { name := "fnExactPropSet", fn := fun _ => fun
  | [d1, d2, d3, d4] => { results := [.lit (.bool true)], args := [d1, d2, d3, d4] }
  | _ => none }
def fnExactPropSetRow : OpenClaim := { program := "ytcchmhmbjhgfdaa", sum := "e577ad8184ad0c52f86b1cf103d6b402901bc85c897d0822199ded9025b42e1d", func := "loop.example/ashlar/laws.FnExactPropSet", spec := "fnExactPropSet", inPlace := ["slices.overlaps[loop.example/ashlar/impl.Prop]"], unfollowed := true, recurses := true, loops := true, plainKeys := false, apart := false }
def FnExactPropSetSaid : Prop := fnExactPropSetRow.holds Try.pinned (OpenSpec.ofChange fnExactPropSetSpec)

/-- ITS FALSE NEIGHBOUR: 'it returns false'. Refute it at one input. -/
def fnExactPropSetWrong : ChangeSpec := { name := "fnExactPropSet", fn := fun _ => fun
  | [d1, d2, d3, d4] => { results := [.lit (.bool false)], args := [d1, d2, d3, d4] }
  | _ => none }
def FnExactPropSetWrongFalsely : Prop := fnExactPropSetRow.holds Try.pinned (OpenSpec.ofChange fnExactPropSetWrong)

/-- 'laws.FnExactStoreNew': WHATEVER THE INPUT: true; the input reads as it did. -/
def fnExactStoreNewSpec : ChangeSpec := { name := "fnExactStoreNew", fn := fun _ => fun
  | [d] => { results := [.lit (.bool true)], args := [d] }
  | _ => none }
def fnExactStoreNewRow : OpenClaim := { program := "ytcchmhmbjhgfdaa", sum := "e577ad8184ad0c52f86b1cf103d6b402901bc85c897d0822199ded9025b42e1d", func := "loop.example/ashlar/laws.FnExactStoreNew", spec := "fnExactStoreNew", recurses := true, plainKeys := false, apart := false }
def FnExactStoreNewSaid : Prop := fnExactStoreNewRow.holds Try.pinned (OpenSpec.ofChange fnExactStoreNewSpec)

/-- ITS FALSE NEIGHBOUR: 'it returns false'. Refute it at one input. -/
def fnExactStoreNewWrong : ChangeSpec := { name := "fnExactStoreNew", fn := fun _ => fun
  | [d] => { results := [.lit (.bool false)], args := [d] }
  | _ => none }
def FnExactStoreNewWrongFalsely : Prop := fnExactStoreNewRow.holds Try.pinned (OpenSpec.ofChange fnExactStoreNewWrong)

/- THE SECOND FORM. 'bulk': how many values and letters a reading holds, each counted each time it is reached (what is shared counts as often as it is met; a slice's spare places count too). A statement '..UptoSaid' is the law's where the arguments, and the package variables that the reading takes, are together of bulk at most 1048576: NARROWER than '..Said'. Prove '..Said' where nothing that the law and all that it calls make is longer than what came in: it says more and counts as full. Else prove '..UptoSaid'. A law counts once. -/
mutual
def uptoBulk {H : Type} : DataW H → Nat
  | .lit (.string bytes) => bytes.length + 1
  | .lit _ => 1
  | .nil => 1
  | .ptr d => uptoBulk d + 1
  | .slice elems spare => uptoBulkAll elems + uptoBulkAll spare + 1
  | .agg parts => uptoBulkAll parts + 1
  | .iface _ d => uptoBulk d + 1
  | .map entries => uptoBulkEntries entries + 1
  | .held _ => 1
def uptoBulkAll {H : Type} : List (DataW H) → Nat
  | [] => 0
  | d :: r => uptoBulk d + uptoBulkAll r
def uptoBulkEntries {H : Type} : List (Lit × DataW H) → Nat
  | [] => 0
  | x :: r => uptoBulkEntry x + uptoBulkEntries r
def uptoBulkEntry {H : Type} : Lit × DataW H → Nat
  | (.string bytes, d) => bytes.length + uptoBulk d + 1
  | (_, d) => uptoBulk d + 1
 end
def uptoSmall : (H : Type) → List (DataW H) → Bool := fun _ ds => decide (uptoBulkAll ds ≤ 1048576)
def OpenSpec.upto (s : _root_.Go.ChangeSpec) : _root_.Go.OpenSpec := { _root_.Go.OpenSpec.ofChange s with cond := some uptoSmall }

/-- 'laws.FnExactGraphOk', WHERE WHAT IT READS IS OF BULK AT MOST 1048576: true; the input reads as it did. -/
def fnExactGraphOkUptoRow : OpenClaim := { program := "ytcchmhmbjhgfdaa", sum := "e577ad8184ad0c52f86b1cf103d6b402901bc85c897d0822199ded9025b42e1d", func := "loop.example/ashlar/laws.FnExactGraphOk", spec := "fnExactGraphOk", unfollowed := true, recurses := true, loops := true, plainKeys := false, apart := false, narrowed := true }
def FnExactGraphOkUptoSaid : Prop := fnExactGraphOkUptoRow.holds Try.pinned (OpenSpec.upto fnExactGraphOkSpec)

/-- 'laws.FnExactEdgesOf', WHERE WHAT IT READS IS OF BULK AT MOST 1048576: true; the input reads as it did. -/
def fnExactEdgesOfUptoRow : OpenClaim := { program := "ytcchmhmbjhgfdaa", sum := "e577ad8184ad0c52f86b1cf103d6b402901bc85c897d0822199ded9025b42e1d", func := "loop.example/ashlar/laws.FnExactEdgesOf", spec := "fnExactEdgesOf", unfollowed := true, recurses := true, loops := true, plainKeys := false, apart := false, narrowed := true }
def FnExactEdgesOfUptoSaid : Prop := fnExactEdgesOfUptoRow.holds Try.pinned (OpenSpec.upto fnExactEdgesOfSpec)

/-- 'laws.FnExactNodesWith', WHERE WHAT IT READS IS OF BULK AT MOST 1048576: true; the input reads as it did. -/
def fnExactNodesWithUptoRow : OpenClaim := { program := "ytcchmhmbjhgfdaa", sum := "e577ad8184ad0c52f86b1cf103d6b402901bc85c897d0822199ded9025b42e1d", func := "loop.example/ashlar/laws.FnExactNodesWith", spec := "fnExactNodesWith", unfollowed := true, recurses := true, loops := true, plainKeys := false, apart := false, narrowed := true }
def FnExactNodesWithUptoSaid : Prop := fnExactNodesWithUptoRow.holds Try.pinned (OpenSpec.upto fnExactNodesWithSpec)

/-- 'laws.FnExactPropGet', WHERE WHAT IT READS IS OF BULK AT MOST 1048576: true; the input reads as it did. -/
def fnExactPropGetUptoRow : OpenClaim := { program := "ytcchmhmbjhgfdaa", sum := "e577ad8184ad0c52f86b1cf103d6b402901bc85c897d0822199ded9025b42e1d", func := "loop.example/ashlar/laws.FnExactPropGet", spec := "fnExactPropGet", unfollowed := true, recurses := true, loops := true, plainKeys := false, apart := false, narrowed := true }
def FnExactPropGetUptoSaid : Prop := fnExactPropGetUptoRow.holds Try.pinned (OpenSpec.upto fnExactPropGetSpec)

/-- 'laws.FnExactFindBy', WHERE WHAT IT READS IS OF BULK AT MOST 1048576: true; the input reads as it did. -/
def fnExactFindByUptoRow : OpenClaim := { program := "ytcchmhmbjhgfdaa", sum := "e577ad8184ad0c52f86b1cf103d6b402901bc85c897d0822199ded9025b42e1d", func := "loop.example/ashlar/laws.FnExactFindBy", spec := "fnExactFindBy", unfollowed := true, recurses := true, loops := true, plainKeys := false, apart := false, narrowed := true }
def FnExactFindByUptoSaid : Prop := fnExactFindByUptoRow.holds Try.pinned (OpenSpec.upto fnExactFindBySpec)

/-- 'laws.FnExactNodeAdd', WHERE WHAT IT READS IS OF BULK AT MOST 1048576: true; the input reads as it did. -/
def fnExactNodeAddUptoRow : OpenClaim := { program := "ytcchmhmbjhgfdaa", sum := "e577ad8184ad0c52f86b1cf103d6b402901bc85c897d0822199ded9025b42e1d", func := "loop.example/ashlar/laws.FnExactNodeAdd", spec := "fnExactNodeAdd", unfollowed := true, recurses := true, loops := true, plainKeys := false, apart := false, narrowed := true }
def FnExactNodeAddUptoSaid : Prop := fnExactNodeAddUptoRow.holds Try.pinned (OpenSpec.upto fnExactNodeAddSpec)

/-- 'laws.FnExactEdgeAdd', WHERE WHAT IT READS IS OF BULK AT MOST 1048576: true; the input reads as it did. -/
def fnExactEdgeAddUptoRow : OpenClaim := { program := "ytcchmhmbjhgfdaa", sum := "e577ad8184ad0c52f86b1cf103d6b402901bc85c897d0822199ded9025b42e1d", func := "loop.example/ashlar/laws.FnExactEdgeAdd", spec := "fnExactEdgeAdd", unfollowed := true, recurses := true, loops := true, plainKeys := false, apart := false, narrowed := true }
def FnExactEdgeAddUptoSaid : Prop := fnExactEdgeAddUptoRow.holds Try.pinned (OpenSpec.upto fnExactEdgeAddSpec)

/-- 'laws.FnExactEdgeDrop', WHERE WHAT IT READS IS OF BULK AT MOST 1048576: true; the input reads as it did. -/
def fnExactEdgeDropUptoRow : OpenClaim := { program := "ytcchmhmbjhgfdaa", sum := "e577ad8184ad0c52f86b1cf103d6b402901bc85c897d0822199ded9025b42e1d", func := "loop.example/ashlar/laws.FnExactEdgeDrop", spec := "fnExactEdgeDrop", unfollowed := true, recurses := true, loops := true, plainKeys := false, apart := false, narrowed := true }
def FnExactEdgeDropUptoSaid : Prop := fnExactEdgeDropUptoRow.holds Try.pinned (OpenSpec.upto fnExactEdgeDropSpec)

/-- 'laws.FnExactNodeDrop', WHERE WHAT IT READS IS OF BULK AT MOST 1048576: true; the input reads as it did. -/
def fnExactNodeDropUptoRow : OpenClaim := { program := "ytcchmhmbjhgfdaa", sum := "e577ad8184ad0c52f86b1cf103d6b402901bc85c897d0822199ded9025b42e1d", func := "loop.example/ashlar/laws.FnExactNodeDrop", spec := "fnExactNodeDrop", unfollowed := true, recurses := true, loops := true, plainKeys := false, apart := false, narrowed := true }
def FnExactNodeDropUptoSaid : Prop := fnExactNodeDropUptoRow.holds Try.pinned (OpenSpec.upto fnExactNodeDropSpec)

/-- 'laws.FnExactLabelSet', WHERE WHAT IT READS IS OF BULK AT MOST 1048576: true; the input reads as it did. -/
def fnExactLabelSetUptoRow : OpenClaim := { program := "ytcchmhmbjhgfdaa", sum := "e577ad8184ad0c52f86b1cf103d6b402901bc85c897d0822199ded9025b42e1d", func := "loop.example/ashlar/laws.FnExactLabelSet", spec := "fnExactLabelSet", inPlace := ["slices.overlaps[string]"], unfollowed := true, recurses := true, loops := true, plainKeys := false, apart := false, narrowed := true }
def FnExactLabelSetUptoSaid : Prop := fnExactLabelSetUptoRow.holds Try.pinned (OpenSpec.upto fnExactLabelSetSpec)

/-- 'laws.FnExactPropSet', WHERE WHAT IT READS IS OF BULK AT MOST 1048576: true; the input reads as it did. -/
def fnExactPropSetUptoRow : OpenClaim := { program := "ytcchmhmbjhgfdaa", sum := "e577ad8184ad0c52f86b1cf103d6b402901bc85c897d0822199ded9025b42e1d", func := "loop.example/ashlar/laws.FnExactPropSet", spec := "fnExactPropSet", inPlace := ["slices.overlaps[loop.example/ashlar/impl.Prop]"], unfollowed := true, recurses := true, loops := true, plainKeys := false, apart := false, narrowed := true }
def FnExactPropSetUptoSaid : Prop := fnExactPropSetUptoRow.holds Try.pinned (OpenSpec.upto fnExactPropSetSpec)

/-- 'laws.FnExactStoreNew', WHERE WHAT IT READS IS OF BULK AT MOST 1048576: true; the input reads as it did. -/
def fnExactStoreNewUptoRow : OpenClaim := { program := "ytcchmhmbjhgfdaa", sum := "e577ad8184ad0c52f86b1cf103d6b402901bc85c897d0822199ded9025b42e1d", func := "loop.example/ashlar/laws.FnExactStoreNew", spec := "fnExactStoreNew", recurses := true, plainKeys := false, apart := false, narrowed := true }
def FnExactStoreNewUptoSaid : Prop := fnExactStoreNewUptoRow.holds Try.pinned (OpenSpec.upto fnExactStoreNewSpec)

end Rows
end Go.Proofs.Ytcchmhmbjhgfdaa
