/-
  NARROWER THAN 'FOR EVERY INPUT', by the rows' own cells (each row's printed sentence says how): FnExactMsgOk: loops · FnExactExprOk: loops · FnExactExprNames: loops.
  DERIVED. THE GIVEN ROWS OF THIS SEAT. 4 by the template 'for every input the law returns true; each argument reads behind the call as it read before'; 0 by the template 'total and deterministic' (their statements: YtnecmjmimdojcaaTotals.lean).
  GIVEN WITH THE SEED: the statements are not yours to turn. If you find one false, say at which input.
  Laid BY PROGRAM, IN A SANDBOX (cutbox-rows.mjs): the forced cells as the released guide's own fill.sh prints them over the translation 9592a372c2e1f0db… (all of the seat's roots in one cut). By AI agents, Wed Nov 11 2026. No macro, syntax, notation, axiom, sorry.
-/
import Derived.Test.YtnecmjmimdojcaaChecked
import GoSem.Claim
import GoSem.ClaimJoined
import GoSem.ClaimMapViews
import Derived.JoinedTies
import Derived.KernelRfl
namespace Go.Proofs.Ytnecmjmimdojcaa
/- THE CELL 'sum', in the pinned program and in every row, IS THE sha256 OF THE DUMP (.gsa) THAT YtnecmjmimdojcaaProg.lean LOADS. Nothing in Lean hashes anything: it is a label: what it is worth is what the hold of that sum in a sandbox is worth. -/
noncomputable def Try.pinned : Pinned := { name := "ytnecmjmimdojcaa", sum := "9592a372c2e1f0dbfe2e345888211c642948b1b9976466256ea614f81a48effa", checked := Try.checked }
namespace Rows
def none {H : Type} : Left H := { results := [], args := [] }

/-- 'laws.FnExactMsgOk': WHATEVER THE INPUT: true; the input reads as it did. -/
def fnExactMsgOkSpec : ChangeSpec := { name := "fnExactMsgOk", fn := fun _ => fun
  | [d] => { results := [.lit (.bool true)], args := [d] }
  | _ => none }
def fnExactMsgOkRow : OpenClaim := { program := "ytnecmjmimdojcaa", sum := "9592a372c2e1f0dbfe2e345888211c642948b1b9976466256ea614f81a48effa", func := "loop.example/ashlar/laws.FnExactMsgOk", spec := "fnExactMsgOk", recurses := true, loops := true, apart := false }
def FnExactMsgOkSaid : Prop := fnExactMsgOkRow.holds Try.pinned (OpenSpec.ofChange fnExactMsgOkSpec)

/-- ITS FALSE NEIGHBOUR: 'it returns false'. Refute it at one input. -/
def fnExactMsgOkWrong : ChangeSpec := { name := "fnExactMsgOk", fn := fun _ => fun
  | [d] => { results := [.lit (.bool false)], args := [d] }
  | _ => none }
def FnExactMsgOkWrongFalsely : Prop := fnExactMsgOkRow.holds Try.pinned (OpenSpec.ofChange fnExactMsgOkWrong)

/-- 'laws.FnExactExprOk': WHATEVER THE INPUT: true; the input reads as it did. -/
def fnExactExprOkSpec : ChangeSpec := { name := "fnExactExprOk", fn := fun _ => fun
  | [d] => { results := [.lit (.bool true)], args := [d] }
  | _ => none }
def fnExactExprOkRow : OpenClaim := { program := "ytnecmjmimdojcaa", sum := "9592a372c2e1f0dbfe2e345888211c642948b1b9976466256ea614f81a48effa", func := "loop.example/ashlar/laws.FnExactExprOk", spec := "fnExactExprOk", recurses := true, loops := true, apart := false }
def FnExactExprOkSaid : Prop := fnExactExprOkRow.holds Try.pinned (OpenSpec.ofChange fnExactExprOkSpec)

/-- ITS FALSE NEIGHBOUR: 'it returns false'. Refute it at one input. -/
def fnExactExprOkWrong : ChangeSpec := { name := "fnExactExprOk", fn := fun _ => fun
  | [d] => { results := [.lit (.bool false)], args := [d] }
  | _ => none }
def FnExactExprOkWrongFalsely : Prop := fnExactExprOkRow.holds Try.pinned (OpenSpec.ofChange fnExactExprOkWrong)

/-- 'laws.FnValueList': WHATEVER THE INPUT: true; the input reads as it did. -/
def fnValueListSpec : ChangeSpec := { name := "fnValueList", fn := fun _ => fun
  | [d] => { results := [.lit (.bool true)], args := [d] }
  | _ => none }
def fnValueListRow : OpenClaim := { program := "ytnecmjmimdojcaa", sum := "9592a372c2e1f0dbfe2e345888211c642948b1b9976466256ea614f81a48effa", func := "loop.example/ashlar/laws.FnValueList", spec := "fnValueList", unfollowed := true, recurses := true, apart := false }
def FnValueListSaid : Prop := fnValueListRow.holds Try.pinned (OpenSpec.ofChange fnValueListSpec)

/-- ITS FALSE NEIGHBOUR: 'it returns false'. Refute it at one input. -/
def fnValueListWrong : ChangeSpec := { name := "fnValueList", fn := fun _ => fun
  | [d] => { results := [.lit (.bool false)], args := [d] }
  | _ => none }
def FnValueListWrongFalsely : Prop := fnValueListRow.holds Try.pinned (OpenSpec.ofChange fnValueListWrong)

/-- 'laws.FnExactExprNames': WHATEVER THE INPUT: true; the input reads as it did. -/
def fnExactExprNamesSpec : ChangeSpec := { name := "fnExactExprNames", fn := fun _ => fun
  | [d] => { results := [.lit (.bool true)], args := [d] }
  | _ => none }
def fnExactExprNamesRow : OpenClaim := { program := "ytnecmjmimdojcaa", sum := "9592a372c2e1f0dbfe2e345888211c642948b1b9976466256ea614f81a48effa", func := "loop.example/ashlar/laws.FnExactExprNames", spec := "fnExactExprNames", unfollowed := true, recurses := true, loops := true, apart := false }
def FnExactExprNamesSaid : Prop := fnExactExprNamesRow.holds Try.pinned (OpenSpec.ofChange fnExactExprNamesSpec)

/-- ITS FALSE NEIGHBOUR: 'it returns false'. Refute it at one input. -/
def fnExactExprNamesWrong : ChangeSpec := { name := "fnExactExprNames", fn := fun _ => fun
  | [d] => { results := [.lit (.bool false)], args := [d] }
  | _ => none }
def FnExactExprNamesWrongFalsely : Prop := fnExactExprNamesRow.holds Try.pinned (OpenSpec.ofChange fnExactExprNamesWrong)

/- THE SECOND FORM. 'bulk': how many values and letters a reading holds, each counted each time it is reached (what is shared counts as often as it is met; a slice's spare places count too). A statement '..UptoSaid' is the law's where the arguments, and the package variables that the reading takes, are together of bulk at most 1048576: NARROWER than '..Said'. Prove '..Said' where nothing that the law and all that it calls make is longer than what came in: it says more and counts as full. Else prove '..UptoSaid'. A law counts once. -/
mutual
def uptoBulk {H : Type} : DataW H → Nat
  | .lit (.string bytes) => bytes.length + 1
  | .lit _ => 1
  | .nil => 1
  | .ptr d => uptoBulk d + 1
  | .slice elems spare => uptoBulkAll elems + uptoBulkAll spare + 1
  | .agg parts => uptoBulkAll parts + 1
  | .iface _ d => uptoBulk d + 1
  | .map entries => uptoBulkEntries entries + 1
  | .held _ => 1
def uptoBulkAll {H : Type} : List (DataW H) → Nat
  | [] => 0
  | d :: r => uptoBulk d + uptoBulkAll r
def uptoBulkEntries {H : Type} : List (Lit × DataW H) → Nat
  | [] => 0
  | x :: r => uptoBulkEntry x + uptoBulkEntries r
def uptoBulkEntry {H : Type} : Lit × DataW H → Nat
  | (.string bytes, d) => bytes.length + uptoBulk d + 1
  | (_, d) => uptoBulk d + 1
 end
def uptoSmall : (H : Type) → List (DataW H) → Bool := fun _ ds => decide (uptoBulkAll ds ≤ 1048576)
def OpenSpec.upto (s : _root_.Go.ChangeSpec) : _root_.Go.OpenSpec := { _root_.Go.OpenSpec.ofChange s with cond := some uptoSmall }

/-- 'laws.FnExactMsgOk', WHERE WHAT IT READS IS OF BULK AT MOST 1048576: true; the input reads as it did. -/
def fnExactMsgOkUptoRow : OpenClaim := { program := "ytnecmjmimdojcaa", sum := "9592a372c2e1f0dbfe2e345888211c642948b1b9976466256ea614f81a48effa", func := "loop.example/ashlar/laws.FnExactMsgOk", spec := "fnExactMsgOk", recurses := true, loops := true, apart := false, narrowed := true }
def FnExactMsgOkUptoSaid : Prop := fnExactMsgOkUptoRow.holds Try.pinned (OpenSpec.upto fnExactMsgOkSpec)

/-- 'laws.FnExactExprOk', WHERE WHAT IT READS IS OF BULK AT MOST 1048576: true; the input reads as it did. -/
def fnExactExprOkUptoRow : OpenClaim := { program := "ytnecmjmimdojcaa", sum := "9592a372c2e1f0dbfe2e345888211c642948b1b9976466256ea614f81a48effa", func := "loop.example/ashlar/laws.FnExactExprOk", spec := "fnExactExprOk", recurses := true, loops := true, apart := false, narrowed := true }
def FnExactExprOkUptoSaid : Prop := fnExactExprOkUptoRow.holds Try.pinned (OpenSpec.upto fnExactExprOkSpec)

/-- 'laws.FnValueList', WHERE WHAT IT READS IS OF BULK AT MOST 1048576: true; the input reads as it did. -/
def fnValueListUptoRow : OpenClaim := { program := "ytnecmjmimdojcaa", sum := "9592a372c2e1f0dbfe2e345888211c642948b1b9976466256ea614f81a48effa", func := "loop.example/ashlar/laws.FnValueList", spec := "fnValueList", unfollowed := true, recurses := true, apart := false, narrowed := true }
def FnValueListUptoSaid : Prop := fnValueListUptoRow.holds Try.pinned (OpenSpec.upto fnValueListSpec)

/-- 'laws.FnExactExprNames', WHERE WHAT IT READS IS OF BULK AT MOST 1048576: true; the input reads as it did. -/
def fnExactExprNamesUptoRow : OpenClaim := { program := "ytnecmjmimdojcaa", sum := "9592a372c2e1f0dbfe2e345888211c642948b1b9976466256ea614f81a48effa", func := "loop.example/ashlar/laws.FnExactExprNames", spec := "fnExactExprNames", unfollowed := true, recurses := true, loops := true, apart := false, narrowed := true }
def FnExactExprNamesUptoSaid : Prop := fnExactExprNamesUptoRow.holds Try.pinned (OpenSpec.upto fnExactExprNamesSpec)

end Rows
end Go.Proofs.Ytnecmjmimdojcaa
