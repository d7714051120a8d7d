/-
  NARROWER THAN 'FOR EVERY INPUT', by the rows' own cells (each row's printed sentence says how): FnExactValueEqual: loops · FnExactValueOrder: loops · FnExactMsgOk: loops · FnExactLabelSet: loops · FnExactPropSet: loops · FnExactValueSame: loops.
  DERIVED. THE GIVEN ROWS OF THIS SEAT. 11 by the template 'for every input the law returns true; each argument reads behind the call as it read before'; 0 by the template 'total and deterministic' (their statements: YtehdfbhfbidadaaTotals.lean).
  GIVEN WITH THE SEED: the statements are not yours to turn. If you find one false, say at which input.
  Laid BY PROGRAM, IN A SANDBOX (cutbox-rows.mjs): the forced cells as the released guide's own fill.sh prints them over the translation 7e95ead7c89e7971… (all of the seat's roots in one cut). By AI agents, Wed Nov 11 2026. No macro, syntax, notation, axiom, sorry.
-/
import Derived.Test.YtehdfbhfbidadaaChecked
import GoSem.Claim
import GoSem.ClaimJoined
import GoSem.ClaimMapViews
import Derived.JoinedTies
import Derived.KernelRfl
namespace Go.Proofs.Ytehdfbhfbidadaa
/- THE CELL 'sum', in the pinned program and in every row, IS THE sha256 OF THE DUMP (.gsa) THAT YtehdfbhfbidadaaProg.lean LOADS. Nothing in Lean hashes anything: it is a label: what it is worth is what the hold of that sum in a sandbox is worth. -/
noncomputable def Try.pinned : Pinned := { name := "ytehdfbhfbidadaa", sum := "7e95ead7c89e79710b659d4456dfcaf7ae1cffc376278e42f075fd0ff617f153", checked := Try.checked }
namespace Rows
def none {H : Type} : Left H := { results := [], args := [] }

/-- 'laws.FnExactValueEqual': WHATEVER THE INPUT: true; the input reads as it did. -/
def fnExactValueEqualSpec : ChangeSpec := { name := "fnExactValueEqual", fn := fun _ => fun
  | [d1, d2] => { results := [.lit (.bool true)], args := [d1, d2] }
  | _ => none }
def fnExactValueEqualRow : OpenClaim := { program := "ytehdfbhfbidadaa", sum := "7e95ead7c89e79710b659d4456dfcaf7ae1cffc376278e42f075fd0ff617f153", func := "loop.example/ashlar/laws.FnExactValueEqual", spec := "fnExactValueEqual", recurses := true, loops := true, plainKeys := false, apart := false }
def FnExactValueEqualSaid : Prop := fnExactValueEqualRow.holds Try.pinned (OpenSpec.ofChange fnExactValueEqualSpec)

/-- ITS FALSE NEIGHBOUR: 'it returns false'. Refute it at one input. -/
def fnExactValueEqualWrong : ChangeSpec := { name := "fnExactValueEqual", fn := fun _ => fun
  | [d1, d2] => { results := [.lit (.bool false)], args := [d1, d2] }
  | _ => none }
def FnExactValueEqualWrongFalsely : Prop := fnExactValueEqualRow.holds Try.pinned (OpenSpec.ofChange fnExactValueEqualWrong)

/-- 'laws.FnExactValueOrder': WHATEVER THE INPUT: true; the input reads as it did. -/
def fnExactValueOrderSpec : ChangeSpec := { name := "fnExactValueOrder", fn := fun _ => fun
  | [d1, d2] => { results := [.lit (.bool true)], args := [d1, d2] }
  | _ => none }
def fnExactValueOrderRow : OpenClaim := { program := "ytehdfbhfbidadaa", sum := "7e95ead7c89e79710b659d4456dfcaf7ae1cffc376278e42f075fd0ff617f153", func := "loop.example/ashlar/laws.FnExactValueOrder", spec := "fnExactValueOrder", unfollowed := true, recurses := true, loops := true, plainKeys := false, apart := false }
def FnExactValueOrderSaid : Prop := fnExactValueOrderRow.holds Try.pinned (OpenSpec.ofChange fnExactValueOrderSpec)

/-- ITS FALSE NEIGHBOUR: 'it returns false'. Refute it at one input. -/
def fnExactValueOrderWrong : ChangeSpec := { name := "fnExactValueOrder", fn := fun _ => fun
  | [d1, d2] => { results := [.lit (.bool false)], args := [d1, d2] }
  | _ => none }
def FnExactValueOrderWrongFalsely : Prop := fnExactValueOrderRow.holds Try.pinned (OpenSpec.ofChange fnExactValueOrderWrong)

/-- 'laws.FnValueList': WHATEVER THE INPUT: true; the input reads as it did. -/
def fnValueListSpec : ChangeSpec := { name := "fnValueList", fn := fun _ => fun
  | [d] => { results := [.lit (.bool true)], args := [d] }
  | _ => none }
def fnValueListRow : OpenClaim := { program := "ytehdfbhfbidadaa", sum := "7e95ead7c89e79710b659d4456dfcaf7ae1cffc376278e42f075fd0ff617f153", func := "loop.example/ashlar/laws.FnValueList", spec := "fnValueList", unfollowed := true, recurses := true, plainKeys := false, apart := false }
def FnValueListSaid : Prop := fnValueListRow.holds Try.pinned (OpenSpec.ofChange fnValueListSpec)

/-- ITS FALSE NEIGHBOUR: 'it returns false'. Refute it at one input. -/
def fnValueListWrong : ChangeSpec := { name := "fnValueList", fn := fun _ => fun
  | [d] => { results := [.lit (.bool false)], args := [d] }
  | _ => none }
def FnValueListWrongFalsely : Prop := fnValueListRow.holds Try.pinned (OpenSpec.ofChange fnValueListWrong)

/-- 'laws.FnExactMsgOk': WHATEVER THE INPUT: true; the input reads as it did. -/
def fnExactMsgOkSpec : ChangeSpec := { name := "fnExactMsgOk", fn := fun _ => fun
  | [d] => { results := [.lit (.bool true)], args := [d] }
  | _ => none }
def fnExactMsgOkRow : OpenClaim := { program := "ytehdfbhfbidadaa", sum := "7e95ead7c89e79710b659d4456dfcaf7ae1cffc376278e42f075fd0ff617f153", func := "loop.example/ashlar/laws.FnExactMsgOk", spec := "fnExactMsgOk", recurses := true, loops := true, plainKeys := false, apart := false }
def FnExactMsgOkSaid : Prop := fnExactMsgOkRow.holds Try.pinned (OpenSpec.ofChange fnExactMsgOkSpec)

/-- ITS FALSE NEIGHBOUR: 'it returns false'. Refute it at one input. -/
def fnExactMsgOkWrong : ChangeSpec := { name := "fnExactMsgOk", fn := fun _ => fun
  | [d] => { results := [.lit (.bool false)], args := [d] }
  | _ => none }
def FnExactMsgOkWrongFalsely : Prop := fnExactMsgOkRow.holds Try.pinned (OpenSpec.ofChange fnExactMsgOkWrong)

/-- 'laws.FnFindBy': WHATEVER THE INPUT: true; the input reads as it did. -/
def fnFindBySpec : ChangeSpec := { name := "fnFindBy", fn := fun _ => fun
  | [d] => { results := [.lit (.bool true)], args := [d] }
  | _ => none }
def fnFindByRow : OpenClaim := { program := "ytehdfbhfbidadaa", sum := "7e95ead7c89e79710b659d4456dfcaf7ae1cffc376278e42f075fd0ff617f153", func := "loop.example/ashlar/laws.FnFindBy", spec := "fnFindBy", unfollowed := true, recurses := true, plainKeys := false, apart := false }
def FnFindBySaid : Prop := fnFindByRow.holds Try.pinned (OpenSpec.ofChange fnFindBySpec)

/-- ITS FALSE NEIGHBOUR: 'it returns false'. Refute it at one input. -/
def fnFindByWrong : ChangeSpec := { name := "fnFindBy", fn := fun _ => fun
  | [d] => { results := [.lit (.bool false)], args := [d] }
  | _ => none }
def FnFindByWrongFalsely : Prop := fnFindByRow.holds Try.pinned (OpenSpec.ofChange fnFindByWrong)

/-- 'laws.FnExactLabelSet': WHATEVER THE INPUT: true; the input reads as it did. -/
def fnExactLabelSetSpec : ChangeSpec := { name := "fnExactLabelSet", fn := fun _ => fun
  | [d1, d2, d3, d4] => { results := [.lit (.bool true)], args := [d1, d2, d3, d4] }
  | _ => none }
def fnExactLabelSetRow : OpenClaim := { program := "ytehdfbhfbidadaa", sum := "7e95ead7c89e79710b659d4456dfcaf7ae1cffc376278e42f075fd0ff617f153", func := "loop.example/ashlar/laws.FnExactLabelSet", spec := "fnExactLabelSet", inPlace := ["slices.overlaps[string]"], unfollowed := true, recurses := true, loops := true, plainKeys := false, apart := false }
def FnExactLabelSetSaid : Prop := fnExactLabelSetRow.holds Try.pinned (OpenSpec.ofChange fnExactLabelSetSpec)

/-- ITS FALSE NEIGHBOUR: 'it returns false'. Refute it at one input. -/
def fnExactLabelSetWrong : ChangeSpec := { name := "fnExactLabelSet", fn := fun _ => fun
  | [d1, d2, d3, d4] => { results := [.lit (.bool false)], args := [d1, d2, d3, d4] }
  | _ => none }
def FnExactLabelSetWrongFalsely : Prop := fnExactLabelSetRow.holds Try.pinned (OpenSpec.ofChange fnExactLabelSetWrong)

/-- 'laws.FnExactPropSet': WHATEVER THE INPUT: true; the input reads as it did. -/
def fnExactPropSetSpec : ChangeSpec := { name := "fnExactPropSet", fn := fun _ => fun
  | [d1, d2, d3, d4] => { results := [.lit (.bool true)], args := [d1, d2, d3, d4] }
  | _ => none }
def fnExactPropSetRow : OpenClaim := { program := "ytehdfbhfbidadaa", sum := "7e95ead7c89e79710b659d4456dfcaf7ae1cffc376278e42f075fd0ff617f153", func := "loop.example/ashlar/laws.FnExactPropSet", spec := "fnExactPropSet", inPlace := ["slices.overlaps[loop.example/ashlar/impl.Prop]"], unfollowed := true, recurses := true, loops := true, plainKeys := false, apart := false }
def FnExactPropSetSaid : Prop := fnExactPropSetRow.holds Try.pinned (OpenSpec.ofChange fnExactPropSetSpec)

/-- ITS FALSE NEIGHBOUR: 'it returns false'. Refute it at one input. -/
def fnExactPropSetWrong : ChangeSpec := { name := "fnExactPropSet", fn := fun _ => fun
  | [d1, d2, d3, d4] => { results := [.lit (.bool false)], args := [d1, d2, d3, d4] }
  | _ => none }
def FnExactPropSetWrongFalsely : Prop := fnExactPropSetRow.holds Try.pinned (OpenSpec.ofChange fnExactPropSetWrong)

/-- 'laws.FnLabelSet': WHATEVER THE INPUT: true; the input reads as it did. -/
def fnLabelSetSpec : ChangeSpec := { name := "fnLabelSet", fn := fun _ => fun
  | [d] => { results := [.lit (.bool true)], args := [d] }
  | _ => none }
def fnLabelSetRow : OpenClaim := { program := "ytehdfbhfbidadaa", sum := "7e95ead7c89e79710b659d4456dfcaf7ae1cffc376278e42f075fd0ff617f153", func := "loop.example/ashlar/laws.FnLabelSet", spec := "fnLabelSet", inPlace := ["slices.overlaps[string]"], unfollowed := true, recurses := true, plainKeys := false, apart := false }
def FnLabelSetSaid : Prop := fnLabelSetRow.holds Try.pinned (OpenSpec.ofChange fnLabelSetSpec)

/-- ITS FALSE NEIGHBOUR: 'it returns false'. Refute it at one input. -/
def fnLabelSetWrong : ChangeSpec := { name := "fnLabelSet", fn := fun _ => fun
  | [d] => { results := [.lit (.bool false)], args := [d] }
  | _ => none }
def FnLabelSetWrongFalsely : Prop := fnLabelSetRow.holds Try.pinned (OpenSpec.ofChange fnLabelSetWrong)

/-- 'laws.FnPropSet': WHATEVER THE INPUT: true; the input reads as it did. -/
def fnPropSetSpec : ChangeSpec := { name := "fnPropSet", fn := fun _ => fun
  | [d] => { results := [.lit (.bool true)], args := [d] }
  | _ => none }
def fnPropSetRow : OpenClaim := { program := "ytehdfbhfbidadaa", sum := "7e95ead7c89e79710b659d4456dfcaf7ae1cffc376278e42f075fd0ff617f153", func := "loop.example/ashlar/laws.FnPropSet", spec := "fnPropSet", inPlace := ["slices.overlaps[loop.example/ashlar/impl.Prop]"], unfollowed := true, recurses := true, plainKeys := false, apart := false }
def FnPropSetSaid : Prop := fnPropSetRow.holds Try.pinned (OpenSpec.ofChange fnPropSetSpec)

/-- ITS FALSE NEIGHBOUR: 'it returns false'. Refute it at one input. -/
def fnPropSetWrong : ChangeSpec := { name := "fnPropSet", fn := fun _ => fun
  | [d] => { results := [.lit (.bool false)], args := [d] }
  | _ => none }
def FnPropSetWrongFalsely : Prop := fnPropSetRow.holds Try.pinned (OpenSpec.ofChange fnPropSetWrong)

/-- 'laws.FnExactValueSame': WHATEVER THE INPUT: true; the input reads as it did. -/
def fnExactValueSameSpec : ChangeSpec := { name := "fnExactValueSame", fn := fun _ => fun
  | [d1, d2] => { results := [.lit (.bool true)], args := [d1, d2] }
  | _ => none }
def fnExactValueSameRow : OpenClaim := { program := "ytehdfbhfbidadaa", sum := "7e95ead7c89e79710b659d4456dfcaf7ae1cffc376278e42f075fd0ff617f153", func := "loop.example/ashlar/laws.FnExactValueSame", spec := "fnExactValueSame", recurses := true, loops := true, plainKeys := false, apart := false }
def FnExactValueSameSaid : Prop := fnExactValueSameRow.holds Try.pinned (OpenSpec.ofChange fnExactValueSameSpec)

/-- ITS FALSE NEIGHBOUR: 'it returns false'. Refute it at one input. -/
def fnExactValueSameWrong : ChangeSpec := { name := "fnExactValueSame", fn := fun _ => fun
  | [d1, d2] => { results := [.lit (.bool false)], args := [d1, d2] }
  | _ => none }
def FnExactValueSameWrongFalsely : Prop := fnExactValueSameRow.holds Try.pinned (OpenSpec.ofChange fnExactValueSameWrong)

/-- 'laws.FnValueSame': WHATEVER THE INPUT: true; the input reads as it did. -/
def fnValueSameSpec : ChangeSpec := { name := "fnValueSame", fn := fun _ => fun
  | [d] => { results := [.lit (.bool true)], args := [d] }
  | _ => none }
def fnValueSameRow : OpenClaim := { program := "ytehdfbhfbidadaa", sum := "7e95ead7c89e79710b659d4456dfcaf7ae1cffc376278e42f075fd0ff617f153", func := "loop.example/ashlar/laws.FnValueSame", spec := "fnValueSame", recurses := true, plainKeys := false, apart := false }
def FnValueSameSaid : Prop := fnValueSameRow.holds Try.pinned (OpenSpec.ofChange fnValueSameSpec)

/-- ITS FALSE NEIGHBOUR: 'it returns false'. Refute it at one input. -/
def fnValueSameWrong : ChangeSpec := { name := "fnValueSame", fn := fun _ => fun
  | [d] => { results := [.lit (.bool false)], args := [d] }
  | _ => none }
def FnValueSameWrongFalsely : Prop := fnValueSameRow.holds Try.pinned (OpenSpec.ofChange fnValueSameWrong)

/- THE SECOND FORM. 'bulk': how many values and letters a reading holds, each counted each time it is reached (what is shared counts as often as it is met; a slice's spare places count too). A statement '..UptoSaid' is the law's where the arguments, and the package variables that the reading takes, are together of bulk at most 1048576: NARROWER than '..Said'. Prove '..Said' where nothing that the law and all that it calls make is longer than what came in: it says more and counts as full. Else prove '..UptoSaid'. A law counts once. -/
mutual
def uptoBulk {H : Type} : DataW H → Nat
  | .lit (.string bytes) => bytes.length + 1
  | .lit _ => 1
  | .nil => 1
  | .ptr d => uptoBulk d + 1
  | .slice elems spare => uptoBulkAll elems + uptoBulkAll spare + 1
  | .agg parts => uptoBulkAll parts + 1
  | .iface _ d => uptoBulk d + 1
  | .map entries => uptoBulkEntries entries + 1
  | .held _ => 1
def uptoBulkAll {H : Type} : List (DataW H) → Nat
  | [] => 0
  | d :: r => uptoBulk d + uptoBulkAll r
def uptoBulkEntries {H : Type} : List (Lit × DataW H) → Nat
  | [] => 0
  | x :: r => uptoBulkEntry x + uptoBulkEntries r
def uptoBulkEntry {H : Type} : Lit × DataW H → Nat
  | (.string bytes, d) => bytes.length + uptoBulk d + 1
  | (_, d) => uptoBulk d + 1
 end
def uptoSmall : (H : Type) → List (DataW H) → Bool := fun _ ds => decide (uptoBulkAll ds ≤ 1048576)
def OpenSpec.upto (s : _root_.Go.ChangeSpec) : _root_.Go.OpenSpec := { _root_.Go.OpenSpec.ofChange s with cond := some uptoSmall }

/-- 'laws.FnExactValueEqual', WHERE WHAT IT READS IS OF BULK AT MOST 1048576: true; the input reads as it did. -/
def fnExactValueEqualUptoRow : OpenClaim := { program := "ytehdfbhfbidadaa", sum := "7e95ead7c89e79710b659d4456dfcaf7ae1cffc376278e42f075fd0ff617f153", func := "loop.example/ashlar/laws.FnExactValueEqual", spec := "fnExactValueEqual", recurses := true, loops := true, plainKeys := false, apart := false, narrowed := true }
def FnExactValueEqualUptoSaid : Prop := fnExactValueEqualUptoRow.holds Try.pinned (OpenSpec.upto fnExactValueEqualSpec)

/-- 'laws.FnExactValueOrder', WHERE WHAT IT READS IS OF BULK AT MOST 1048576: true; the input reads as it did. -/
def fnExactValueOrderUptoRow : OpenClaim := { program := "ytehdfbhfbidadaa", sum := "7e95ead7c89e79710b659d4456dfcaf7ae1cffc376278e42f075fd0ff617f153", func := "loop.example/ashlar/laws.FnExactValueOrder", spec := "fnExactValueOrder", unfollowed := true, recurses := true, loops := true, plainKeys := false, apart := false, narrowed := true }
def FnExactValueOrderUptoSaid : Prop := fnExactValueOrderUptoRow.holds Try.pinned (OpenSpec.upto fnExactValueOrderSpec)

/-- 'laws.FnValueList', WHERE WHAT IT READS IS OF BULK AT MOST 1048576: true; the input reads as it did. -/
def fnValueListUptoRow : OpenClaim := { program := "ytehdfbhfbidadaa", sum := "7e95ead7c89e79710b659d4456dfcaf7ae1cffc376278e42f075fd0ff617f153", func := "loop.example/ashlar/laws.FnValueList", spec := "fnValueList", unfollowed := true, recurses := true, plainKeys := false, apart := false, narrowed := true }
def FnValueListUptoSaid : Prop := fnValueListUptoRow.holds Try.pinned (OpenSpec.upto fnValueListSpec)

/-- 'laws.FnExactMsgOk', WHERE WHAT IT READS IS OF BULK AT MOST 1048576: true; the input reads as it did. -/
def fnExactMsgOkUptoRow : OpenClaim := { program := "ytehdfbhfbidadaa", sum := "7e95ead7c89e79710b659d4456dfcaf7ae1cffc376278e42f075fd0ff617f153", func := "loop.example/ashlar/laws.FnExactMsgOk", spec := "fnExactMsgOk", recurses := true, loops := true, plainKeys := false, apart := false, narrowed := true }
def FnExactMsgOkUptoSaid : Prop := fnExactMsgOkUptoRow.holds Try.pinned (OpenSpec.upto fnExactMsgOkSpec)

/-- 'laws.FnFindBy', WHERE WHAT IT READS IS OF BULK AT MOST 1048576: true; the input reads as it did. -/
def fnFindByUptoRow : OpenClaim := { program := "ytehdfbhfbidadaa", sum := "7e95ead7c89e79710b659d4456dfcaf7ae1cffc376278e42f075fd0ff617f153", func := "loop.example/ashlar/laws.FnFindBy", spec := "fnFindBy", unfollowed := true, recurses := true, plainKeys := false, apart := false, narrowed := true }
def FnFindByUptoSaid : Prop := fnFindByUptoRow.holds Try.pinned (OpenSpec.upto fnFindBySpec)

/-- 'laws.FnExactLabelSet', WHERE WHAT IT READS IS OF BULK AT MOST 1048576: true; the input reads as it did. -/
def fnExactLabelSetUptoRow : OpenClaim := { program := "ytehdfbhfbidadaa", sum := "7e95ead7c89e79710b659d4456dfcaf7ae1cffc376278e42f075fd0ff617f153", func := "loop.example/ashlar/laws.FnExactLabelSet", spec := "fnExactLabelSet", inPlace := ["slices.overlaps[string]"], unfollowed := true, recurses := true, loops := true, plainKeys := false, apart := false, narrowed := true }
def FnExactLabelSetUptoSaid : Prop := fnExactLabelSetUptoRow.holds Try.pinned (OpenSpec.upto fnExactLabelSetSpec)

/-- 'laws.FnExactPropSet', WHERE WHAT IT READS IS OF BULK AT MOST 1048576: true; the input reads as it did. -/
def fnExactPropSetUptoRow : OpenClaim := { program := "ytehdfbhfbidadaa", sum := "7e95ead7c89e79710b659d4456dfcaf7ae1cffc376278e42f075fd0ff617f153", func := "loop.example/ashlar/laws.FnExactPropSet", spec := "fnExactPropSet", inPlace := ["slices.overlaps[loop.example/ashlar/impl.Prop]"], unfollowed := true, recurses := true, loops := true, plainKeys := false, apart := false, narrowed := true }
def FnExactPropSetUptoSaid : Prop := fnExactPropSetUptoRow.holds Try.pinned (OpenSpec.upto fnExactPropSetSpec)

/-- 'laws.FnLabelSet', WHERE WHAT IT READS IS OF BULK AT MOST 1048576: true; the input reads as it did. -/
def fnLabelSetUptoRow : OpenClaim := { program := "ytehdfbhfbidadaa", sum := "7e95ead7c89e79710b659d4456dfcaf7ae1cffc376278e42f075fd0ff617f153", func := "loop.example/ashlar/laws.FnLabelSet", spec := "fnLabelSet", inPlace := ["slices.overlaps[string]"], unfollowed := true, recurses := true, plainKeys := false, apart := false, narrowed := true }
def FnLabelSetUptoSaid : Prop := fnLabelSetUptoRow.holds Try.pinned (OpenSpec.upto fnLabelSetSpec)

/-- 'laws.FnPropSet', WHERE WHAT IT READS IS OF BULK AT MOST 1048576: true; the input reads as it did. -/
def fnPropSetUptoRow : OpenClaim := { program := "ytehdfbhfbidadaa", sum := "7e95ead7c89e79710b659d4456dfcaf7ae1cffc376278e42f075fd0ff617f153", func := "loop.example/ashlar/laws.FnPropSet", spec := "fnPropSet", inPlace := ["slices.overlaps[loop.example/ashlar/impl.Prop]"], unfollowed := true, recurses := true, plainKeys := false, apart := false, narrowed := true }
def FnPropSetUptoSaid : Prop := fnPropSetUptoRow.holds Try.pinned (OpenSpec.upto fnPropSetSpec)

/-- 'laws.FnExactValueSame', WHERE WHAT IT READS IS OF BULK AT MOST 1048576: true; the input reads as it did. -/
def fnExactValueSameUptoRow : OpenClaim := { program := "ytehdfbhfbidadaa", sum := "7e95ead7c89e79710b659d4456dfcaf7ae1cffc376278e42f075fd0ff617f153", func := "loop.example/ashlar/laws.FnExactValueSame", spec := "fnExactValueSame", recurses := true, loops := true, plainKeys := false, apart := false, narrowed := true }
def FnExactValueSameUptoSaid : Prop := fnExactValueSameUptoRow.holds Try.pinned (OpenSpec.upto fnExactValueSameSpec)

/-- 'laws.FnValueSame', WHERE WHAT IT READS IS OF BULK AT MOST 1048576: true; the input reads as it did. -/
def fnValueSameUptoRow : OpenClaim := { program := "ytehdfbhfbidadaa", sum := "7e95ead7c89e79710b659d4456dfcaf7ae1cffc376278e42f075fd0ff617f153", func := "loop.example/ashlar/laws.FnValueSame", spec := "fnValueSame", recurses := true, plainKeys := false, apart := false, narrowed := true }
def FnValueSameUptoSaid : Prop := fnValueSameUptoRow.holds Try.pinned (OpenSpec.upto fnValueSameSpec)

end Rows
end Go.Proofs.Ytehdfbhfbidadaa
