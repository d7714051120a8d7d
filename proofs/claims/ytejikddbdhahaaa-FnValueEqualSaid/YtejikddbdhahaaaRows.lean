/-
  NARROWER THAN 'FOR EVERY INPUT', by the rows' own cells (each row's printed sentence says how): FnExactValueSame: loops · FnExactValueOk: loops · FnExactValueEqual: loops · FnExactValueOrder: loops.
  DERIVED. THE GIVEN ROWS OF THIS SEAT. 12 by the template 'for every input the law returns true; each argument reads behind the call as it read before'; 0 by the template 'total and deterministic' (their statements: YtejikddbdhahaaaTotals.lean).
  GIVEN WITH THE SEED: the statements are not yours to turn. If you find one false, say at which input.
  Laid BY PROGRAM, IN A SANDBOX (cutbox-rows.mjs): the forced cells as the released guide's own fill.sh prints them over the translation 6bfe8c30e2961c6f… (all of the seat's roots in one cut). By AI agents, Wed Nov 11 2026. No macro, syntax, notation, axiom, sorry.
-/
import Derived.Test.YtejikddbdhahaaaChecked
import GoSem.Claim
import GoSem.ClaimJoined
import GoSem.ClaimMapViews
import Derived.JoinedTies
import Derived.KernelRfl
namespace Go.Proofs.Ytejikddbdhahaaa
/- THE CELL 'sum', in the pinned program and in every row, IS THE sha256 OF THE DUMP (.gsa) THAT YtejikddbdhahaaaProg.lean LOADS. Nothing in Lean hashes anything: it is a label: what it is worth is what the hold of that sum in a sandbox is worth. -/
noncomputable def Try.pinned : Pinned := { name := "ytejikddbdhahaaa", sum := "6bfe8c30e2961c6ff7b2c4dd0967546646cc7f100e4c39cebaa64f54c0535197", checked := Try.checked }
namespace Rows
def none {H : Type} : Left H := { results := [], args := [] }

/-- 'laws.FnExactConstants': WHATEVER THE INPUT: true; the input reads as it did. -/
def fnExactConstantsSpec : ChangeSpec := { name := "fnExactConstants", fn := fun _ => fun
  | [] => { results := [.lit (.bool true)], args := [] }
  | _ => none }
def fnExactConstantsRow : OpenClaim := { program := "ytejikddbdhahaaa", sum := "6bfe8c30e2961c6ff7b2c4dd0967546646cc7f100e4c39cebaa64f54c0535197", func := "loop.example/ashlar/laws.FnExactConstants", spec := "fnExactConstants", plainKeys := false, apart := false }
def FnExactConstantsSaid : Prop := fnExactConstantsRow.holds Try.pinned (OpenSpec.ofChange fnExactConstantsSpec)

/-- ITS FALSE NEIGHBOUR: 'it returns false'. Refute it at one input. -/
def fnExactConstantsWrong : ChangeSpec := { name := "fnExactConstants", fn := fun _ => fun
  | [] => { results := [.lit (.bool false)], args := [] }
  | _ => none }
def FnExactConstantsWrongFalsely : Prop := fnExactConstantsRow.holds Try.pinned (OpenSpec.ofChange fnExactConstantsWrong)

/-- 'laws.FnExactNameOk': WHATEVER THE INPUT: true; the input reads as it did. -/
def fnExactNameOkSpec : ChangeSpec := { name := "fnExactNameOk", fn := fun _ => fun
  | [d] => { results := [.lit (.bool true)], args := [d] }
  | _ => none }
def fnExactNameOkRow : OpenClaim := { program := "ytejikddbdhahaaa", sum := "6bfe8c30e2961c6ff7b2c4dd0967546646cc7f100e4c39cebaa64f54c0535197", func := "loop.example/ashlar/laws.FnExactNameOk", spec := "fnExactNameOk", plainKeys := false, apart := false }
def FnExactNameOkSaid : Prop := fnExactNameOkRow.holds Try.pinned (OpenSpec.ofChange fnExactNameOkSpec)

/-- ITS FALSE NEIGHBOUR: 'it returns false'. Refute it at one input. -/
def fnExactNameOkWrong : ChangeSpec := { name := "fnExactNameOk", fn := fun _ => fun
  | [d] => { results := [.lit (.bool false)], args := [d] }
  | _ => none }
def FnExactNameOkWrongFalsely : Prop := fnExactNameOkRow.holds Try.pinned (OpenSpec.ofChange fnExactNameOkWrong)

/-- 'laws.FnExactValueSame': WHATEVER THE INPUT: true; the input reads as it did. -/
def fnExactValueSameSpec : ChangeSpec := { name := "fnExactValueSame", fn := fun _ => fun
  | [d1, d2] => { results := [.lit (.bool true)], args := [d1, d2] }
  | _ => none }
def fnExactValueSameRow : OpenClaim := { program := "ytejikddbdhahaaa", sum := "6bfe8c30e2961c6ff7b2c4dd0967546646cc7f100e4c39cebaa64f54c0535197", func := "loop.example/ashlar/laws.FnExactValueSame", spec := "fnExactValueSame", recurses := true, loops := true, plainKeys := false, apart := false }
def FnExactValueSameSaid : Prop := fnExactValueSameRow.holds Try.pinned (OpenSpec.ofChange fnExactValueSameSpec)

/-- ITS FALSE NEIGHBOUR: 'it returns false'. Refute it at one input. -/
def fnExactValueSameWrong : ChangeSpec := { name := "fnExactValueSame", fn := fun _ => fun
  | [d1, d2] => { results := [.lit (.bool false)], args := [d1, d2] }
  | _ => none }
def FnExactValueSameWrongFalsely : Prop := fnExactValueSameRow.holds Try.pinned (OpenSpec.ofChange fnExactValueSameWrong)

/-- 'laws.FnName': WHATEVER THE INPUT: true; the input reads as it did. -/
def fnNameSpec : ChangeSpec := { name := "fnName", fn := fun _ => fun
  | [d] => { results := [.lit (.bool true)], args := [d] }
  | _ => none }
def fnNameRow : OpenClaim := { program := "ytejikddbdhahaaa", sum := "6bfe8c30e2961c6ff7b2c4dd0967546646cc7f100e4c39cebaa64f54c0535197", func := "loop.example/ashlar/laws.FnName", spec := "fnName", inPlace := ["internal/bytealg.IndexByteString"], unfollowed := true, recurses := true, plainKeys := false, apart := false }
def FnNameSaid : Prop := fnNameRow.holds Try.pinned (OpenSpec.ofChange fnNameSpec)

/-- ITS FALSE NEIGHBOUR: 'it returns false'. Refute it at one input. -/
def fnNameWrong : ChangeSpec := { name := "fnName", fn := fun _ => fun
  | [d] => { results := [.lit (.bool false)], args := [d] }
  | _ => none }
def FnNameWrongFalsely : Prop := fnNameRow.holds Try.pinned (OpenSpec.ofChange fnNameWrong)

/-- 'laws.FnExactRulesOk': WHATEVER THE INPUT: true; the input reads as it did. -/
def fnExactRulesOkSpec : ChangeSpec := { name := "fnExactRulesOk", fn := fun _ => fun
  | [d] => { results := [.lit (.bool true)], args := [d] }
  | _ => none }
def fnExactRulesOkRow : OpenClaim := { program := "ytejikddbdhahaaa", sum := "6bfe8c30e2961c6ff7b2c4dd0967546646cc7f100e4c39cebaa64f54c0535197", func := "loop.example/ashlar/laws.FnExactRulesOk", spec := "fnExactRulesOk", plainKeys := false, apart := false }
def FnExactRulesOkSaid : Prop := fnExactRulesOkRow.holds Try.pinned (OpenSpec.ofChange fnExactRulesOkSpec)

/-- ITS FALSE NEIGHBOUR: 'it returns false'. Refute it at one input. -/
def fnExactRulesOkWrong : ChangeSpec := { name := "fnExactRulesOk", fn := fun _ => fun
  | [d] => { results := [.lit (.bool false)], args := [d] }
  | _ => none }
def FnExactRulesOkWrongFalsely : Prop := fnExactRulesOkRow.holds Try.pinned (OpenSpec.ofChange fnExactRulesOkWrong)

/-- 'laws.FnExactWords': WHATEVER THE INPUT: true; the input reads as it did. -/
def fnExactWordsSpec : ChangeSpec := { name := "fnExactWords", fn := fun _ => fun
  | [d] => { results := [.lit (.bool true)], args := [d] }
  | _ => none }
def fnExactWordsRow : OpenClaim := { program := "ytejikddbdhahaaa", sum := "6bfe8c30e2961c6ff7b2c4dd0967546646cc7f100e4c39cebaa64f54c0535197", func := "loop.example/ashlar/laws.FnExactWords", spec := "fnExactWords", inPlace := ["internal/bytealg.IndexByteString"], unfollowed := true, recurses := true, plainKeys := false, apart := false }
def FnExactWordsSaid : Prop := fnExactWordsRow.holds Try.pinned (OpenSpec.ofChange fnExactWordsSpec)

/-- ITS FALSE NEIGHBOUR: 'it returns false'. Refute it at one input. -/
def fnExactWordsWrong : ChangeSpec := { name := "fnExactWords", fn := fun _ => fun
  | [d] => { results := [.lit (.bool false)], args := [d] }
  | _ => none }
def FnExactWordsWrongFalsely : Prop := fnExactWordsRow.holds Try.pinned (OpenSpec.ofChange fnExactWordsWrong)

/-- 'laws.FnExactValueOk': WHATEVER THE INPUT: true; the input reads as it did. -/
def fnExactValueOkSpec : ChangeSpec := { name := "fnExactValueOk", fn := fun _ => fun
  | [d] => { results := [.lit (.bool true)], args := [d] }
  | _ => none }
def fnExactValueOkRow : OpenClaim := { program := "ytejikddbdhahaaa", sum := "6bfe8c30e2961c6ff7b2c4dd0967546646cc7f100e4c39cebaa64f54c0535197", func := "loop.example/ashlar/laws.FnExactValueOk", spec := "fnExactValueOk", recurses := true, loops := true, plainKeys := false, apart := false }
def FnExactValueOkSaid : Prop := fnExactValueOkRow.holds Try.pinned (OpenSpec.ofChange fnExactValueOkSpec)

/-- ITS FALSE NEIGHBOUR: 'it returns false'. Refute it at one input. -/
def fnExactValueOkWrong : ChangeSpec := { name := "fnExactValueOk", fn := fun _ => fun
  | [d] => { results := [.lit (.bool false)], args := [d] }
  | _ => none }
def FnExactValueOkWrongFalsely : Prop := fnExactValueOkRow.holds Try.pinned (OpenSpec.ofChange fnExactValueOkWrong)

/-- 'laws.FnWords': WHATEVER THE INPUT: true; the input reads as it did. -/
def fnWordsSpec : ChangeSpec := { name := "fnWords", fn := fun _ => fun
  | [d1, d2] => { results := [.lit (.bool true)], args := [d1, d2] }
  | _ => none }
def fnWordsRow : OpenClaim := { program := "ytejikddbdhahaaa", sum := "6bfe8c30e2961c6ff7b2c4dd0967546646cc7f100e4c39cebaa64f54c0535197", func := "loop.example/ashlar/laws.FnWords", spec := "fnWords", inPlace := ["internal/bytealg.IndexByteString"], unfollowed := true, recurses := true, plainKeys := false, apart := false }
def FnWordsSaid : Prop := fnWordsRow.holds Try.pinned (OpenSpec.ofChange fnWordsSpec)

/-- ITS FALSE NEIGHBOUR: 'it returns false'. Refute it at one input. -/
def fnWordsWrong : ChangeSpec := { name := "fnWords", fn := fun _ => fun
  | [d1, d2] => { results := [.lit (.bool false)], args := [d1, d2] }
  | _ => none }
def FnWordsWrongFalsely : Prop := fnWordsRow.holds Try.pinned (OpenSpec.ofChange fnWordsWrong)

/-- 'laws.FnValueSame': WHATEVER THE INPUT: true; the input reads as it did. -/
def fnValueSameSpec : ChangeSpec := { name := "fnValueSame", fn := fun _ => fun
  | [d] => { results := [.lit (.bool true)], args := [d] }
  | _ => none }
def fnValueSameRow : OpenClaim := { program := "ytejikddbdhahaaa", sum := "6bfe8c30e2961c6ff7b2c4dd0967546646cc7f100e4c39cebaa64f54c0535197", func := "loop.example/ashlar/laws.FnValueSame", spec := "fnValueSame", recurses := true, plainKeys := false, apart := false }
def FnValueSameSaid : Prop := fnValueSameRow.holds Try.pinned (OpenSpec.ofChange fnValueSameSpec)

/-- ITS FALSE NEIGHBOUR: 'it returns false'. Refute it at one input. -/
def fnValueSameWrong : ChangeSpec := { name := "fnValueSame", fn := fun _ => fun
  | [d] => { results := [.lit (.bool false)], args := [d] }
  | _ => none }
def FnValueSameWrongFalsely : Prop := fnValueSameRow.holds Try.pinned (OpenSpec.ofChange fnValueSameWrong)

/-- 'laws.FnExactValueEqual': WHATEVER THE INPUT: true; the input reads as it did. -/
def fnExactValueEqualSpec : ChangeSpec := { name := "fnExactValueEqual", fn := fun _ => fun
  | [d1, d2] => { results := [.lit (.bool true)], args := [d1, d2] }
  | _ => none }
def fnExactValueEqualRow : OpenClaim := { program := "ytejikddbdhahaaa", sum := "6bfe8c30e2961c6ff7b2c4dd0967546646cc7f100e4c39cebaa64f54c0535197", func := "loop.example/ashlar/laws.FnExactValueEqual", spec := "fnExactValueEqual", recurses := true, loops := true, plainKeys := false, apart := false }
def FnExactValueEqualSaid : Prop := fnExactValueEqualRow.holds Try.pinned (OpenSpec.ofChange fnExactValueEqualSpec)

/-- ITS FALSE NEIGHBOUR: 'it returns false'. Refute it at one input. -/
def fnExactValueEqualWrong : ChangeSpec := { name := "fnExactValueEqual", fn := fun _ => fun
  | [d1, d2] => { results := [.lit (.bool false)], args := [d1, d2] }
  | _ => none }
def FnExactValueEqualWrongFalsely : Prop := fnExactValueEqualRow.holds Try.pinned (OpenSpec.ofChange fnExactValueEqualWrong)

/-- 'laws.FnValueEqual': WHATEVER THE INPUT: true; the input reads as it did. -/
def fnValueEqualSpec : ChangeSpec := { name := "fnValueEqual", fn := fun _ => fun
  | [d] => { results := [.lit (.bool true)], args := [d] }
  | _ => none }
def fnValueEqualRow : OpenClaim := { program := "ytejikddbdhahaaa", sum := "6bfe8c30e2961c6ff7b2c4dd0967546646cc7f100e4c39cebaa64f54c0535197", func := "loop.example/ashlar/laws.FnValueEqual", spec := "fnValueEqual", recurses := true, plainKeys := false, apart := false }
def FnValueEqualSaid : Prop := fnValueEqualRow.holds Try.pinned (OpenSpec.ofChange fnValueEqualSpec)

/-- ITS FALSE NEIGHBOUR: 'it returns false'. Refute it at one input. -/
def fnValueEqualWrong : ChangeSpec := { name := "fnValueEqual", fn := fun _ => fun
  | [d] => { results := [.lit (.bool false)], args := [d] }
  | _ => none }
def FnValueEqualWrongFalsely : Prop := fnValueEqualRow.holds Try.pinned (OpenSpec.ofChange fnValueEqualWrong)

/-- 'laws.FnExactValueOrder': WHATEVER THE INPUT: true; the input reads as it did. -/
def fnExactValueOrderSpec : ChangeSpec := { name := "fnExactValueOrder", fn := fun _ => fun
  | [d1, d2] => { results := [.lit (.bool true)], args := [d1, d2] }
  | _ => none }
def fnExactValueOrderRow : OpenClaim := { program := "ytejikddbdhahaaa", sum := "6bfe8c30e2961c6ff7b2c4dd0967546646cc7f100e4c39cebaa64f54c0535197", func := "loop.example/ashlar/laws.FnExactValueOrder", spec := "fnExactValueOrder", unfollowed := true, recurses := true, loops := true, plainKeys := false, apart := false }
def FnExactValueOrderSaid : Prop := fnExactValueOrderRow.holds Try.pinned (OpenSpec.ofChange fnExactValueOrderSpec)

/-- ITS FALSE NEIGHBOUR: 'it returns false'. Refute it at one input. -/
def fnExactValueOrderWrong : ChangeSpec := { name := "fnExactValueOrder", fn := fun _ => fun
  | [d1, d2] => { results := [.lit (.bool false)], args := [d1, d2] }
  | _ => none }
def FnExactValueOrderWrongFalsely : Prop := fnExactValueOrderRow.holds Try.pinned (OpenSpec.ofChange fnExactValueOrderWrong)

/- THE SECOND FORM. 'bulk': how many values and letters a reading holds, each counted each time it is reached (what is shared counts as often as it is met; a slice's spare places count too). A statement '..UptoSaid' is the law's where the arguments, and the package variables that the reading takes, are together of bulk at most 1048576: NARROWER than '..Said'. Prove '..Said' where nothing that the law and all that it calls make is longer than what came in: it says more and counts as full. Else prove '..UptoSaid'. A law counts once. -/
mutual
def uptoBulk {H : Type} : DataW H → Nat
  | .lit (.string bytes) => bytes.length + 1
  | .lit _ => 1
  | .nil => 1
  | .ptr d => uptoBulk d + 1
  | .slice elems spare => uptoBulkAll elems + uptoBulkAll spare + 1
  | .agg parts => uptoBulkAll parts + 1
  | .iface _ d => uptoBulk d + 1
  | .map entries => uptoBulkEntries entries + 1
  | .held _ => 1
def uptoBulkAll {H : Type} : List (DataW H) → Nat
  | [] => 0
  | d :: r => uptoBulk d + uptoBulkAll r
def uptoBulkEntries {H : Type} : List (Lit × DataW H) → Nat
  | [] => 0
  | x :: r => uptoBulkEntry x + uptoBulkEntries r
def uptoBulkEntry {H : Type} : Lit × DataW H → Nat
  | (.string bytes, d) => bytes.length + uptoBulk d + 1
  | (_, d) => uptoBulk d + 1
 end
def uptoSmall : (H : Type) → List (DataW H) → Bool := fun _ ds => decide (uptoBulkAll ds ≤ 1048576)
def OpenSpec.upto (s : _root_.Go.ChangeSpec) : _root_.Go.OpenSpec := { _root_.Go.OpenSpec.ofChange s with cond := some uptoSmall }

/-- 'laws.FnExactConstants', WHERE WHAT IT READS IS OF BULK AT MOST 1048576: true; the input reads as it did. -/
def fnExactConstantsUptoRow : OpenClaim := { program := "ytejikddbdhahaaa", sum := "6bfe8c30e2961c6ff7b2c4dd0967546646cc7f100e4c39cebaa64f54c0535197", func := "loop.example/ashlar/laws.FnExactConstants", spec := "fnExactConstants", plainKeys := false, apart := false, narrowed := true }
def FnExactConstantsUptoSaid : Prop := fnExactConstantsUptoRow.holds Try.pinned (OpenSpec.upto fnExactConstantsSpec)

/-- 'laws.FnExactNameOk', WHERE WHAT IT READS IS OF BULK AT MOST 1048576: true; the input reads as it did. -/
def fnExactNameOkUptoRow : OpenClaim := { program := "ytejikddbdhahaaa", sum := "6bfe8c30e2961c6ff7b2c4dd0967546646cc7f100e4c39cebaa64f54c0535197", func := "loop.example/ashlar/laws.FnExactNameOk", spec := "fnExactNameOk", plainKeys := false, apart := false, narrowed := true }
def FnExactNameOkUptoSaid : Prop := fnExactNameOkUptoRow.holds Try.pinned (OpenSpec.upto fnExactNameOkSpec)

/-- 'laws.FnExactValueSame', WHERE WHAT IT READS IS OF BULK AT MOST 1048576: true; the input reads as it did. -/
def fnExactValueSameUptoRow : OpenClaim := { program := "ytejikddbdhahaaa", sum := "6bfe8c30e2961c6ff7b2c4dd0967546646cc7f100e4c39cebaa64f54c0535197", func := "loop.example/ashlar/laws.FnExactValueSame", spec := "fnExactValueSame", recurses := true, loops := true, plainKeys := false, apart := false, narrowed := true }
def FnExactValueSameUptoSaid : Prop := fnExactValueSameUptoRow.holds Try.pinned (OpenSpec.upto fnExactValueSameSpec)

/-- 'laws.FnName', WHERE WHAT IT READS IS OF BULK AT MOST 1048576: true; the input reads as it did. -/
def fnNameUptoRow : OpenClaim := { program := "ytejikddbdhahaaa", sum := "6bfe8c30e2961c6ff7b2c4dd0967546646cc7f100e4c39cebaa64f54c0535197", func := "loop.example/ashlar/laws.FnName", spec := "fnName", inPlace := ["internal/bytealg.IndexByteString"], unfollowed := true, recurses := true, plainKeys := false, apart := false, narrowed := true }
def FnNameUptoSaid : Prop := fnNameUptoRow.holds Try.pinned (OpenSpec.upto fnNameSpec)

/-- 'laws.FnExactRulesOk', WHERE WHAT IT READS IS OF BULK AT MOST 1048576: true; the input reads as it did. -/
def fnExactRulesOkUptoRow : OpenClaim := { program := "ytejikddbdhahaaa", sum := "6bfe8c30e2961c6ff7b2c4dd0967546646cc7f100e4c39cebaa64f54c0535197", func := "loop.example/ashlar/laws.FnExactRulesOk", spec := "fnExactRulesOk", plainKeys := false, apart := false, narrowed := true }
def FnExactRulesOkUptoSaid : Prop := fnExactRulesOkUptoRow.holds Try.pinned (OpenSpec.upto fnExactRulesOkSpec)

/-- 'laws.FnExactWords', WHERE WHAT IT READS IS OF BULK AT MOST 1048576: true; the input reads as it did. -/
def fnExactWordsUptoRow : OpenClaim := { program := "ytejikddbdhahaaa", sum := "6bfe8c30e2961c6ff7b2c4dd0967546646cc7f100e4c39cebaa64f54c0535197", func := "loop.example/ashlar/laws.FnExactWords", spec := "fnExactWords", inPlace := ["internal/bytealg.IndexByteString"], unfollowed := true, recurses := true, plainKeys := false, apart := false, narrowed := true }
def FnExactWordsUptoSaid : Prop := fnExactWordsUptoRow.holds Try.pinned (OpenSpec.upto fnExactWordsSpec)

/-- 'laws.FnExactValueOk', WHERE WHAT IT READS IS OF BULK AT MOST 1048576: true; the input reads as it did. -/
def fnExactValueOkUptoRow : OpenClaim := { program := "ytejikddbdhahaaa", sum := "6bfe8c30e2961c6ff7b2c4dd0967546646cc7f100e4c39cebaa64f54c0535197", func := "loop.example/ashlar/laws.FnExactValueOk", spec := "fnExactValueOk", recurses := true, loops := true, plainKeys := false, apart := false, narrowed := true }
def FnExactValueOkUptoSaid : Prop := fnExactValueOkUptoRow.holds Try.pinned (OpenSpec.upto fnExactValueOkSpec)

/-- 'laws.FnWords', WHERE WHAT IT READS IS OF BULK AT MOST 1048576: true; the input reads as it did. -/
def fnWordsUptoRow : OpenClaim := { program := "ytejikddbdhahaaa", sum := "6bfe8c30e2961c6ff7b2c4dd0967546646cc7f100e4c39cebaa64f54c0535197", func := "loop.example/ashlar/laws.FnWords", spec := "fnWords", inPlace := ["internal/bytealg.IndexByteString"], unfollowed := true, recurses := true, plainKeys := false, apart := false, narrowed := true }
def FnWordsUptoSaid : Prop := fnWordsUptoRow.holds Try.pinned (OpenSpec.upto fnWordsSpec)

/-- 'laws.FnValueSame', WHERE WHAT IT READS IS OF BULK AT MOST 1048576: true; the input reads as it did. -/
def fnValueSameUptoRow : OpenClaim := { program := "ytejikddbdhahaaa", sum := "6bfe8c30e2961c6ff7b2c4dd0967546646cc7f100e4c39cebaa64f54c0535197", func := "loop.example/ashlar/laws.FnValueSame", spec := "fnValueSame", recurses := true, plainKeys := false, apart := false, narrowed := true }
def FnValueSameUptoSaid : Prop := fnValueSameUptoRow.holds Try.pinned (OpenSpec.upto fnValueSameSpec)

/-- 'laws.FnExactValueEqual', WHERE WHAT IT READS IS OF BULK AT MOST 1048576: true; the input reads as it did. -/
def fnExactValueEqualUptoRow : OpenClaim := { program := "ytejikddbdhahaaa", sum := "6bfe8c30e2961c6ff7b2c4dd0967546646cc7f100e4c39cebaa64f54c0535197", func := "loop.example/ashlar/laws.FnExactValueEqual", spec := "fnExactValueEqual", recurses := true, loops := true, plainKeys := false, apart := false, narrowed := true }
def FnExactValueEqualUptoSaid : Prop := fnExactValueEqualUptoRow.holds Try.pinned (OpenSpec.upto fnExactValueEqualSpec)

/-- 'laws.FnValueEqual', WHERE WHAT IT READS IS OF BULK AT MOST 1048576: true; the input reads as it did. -/
def fnValueEqualUptoRow : OpenClaim := { program := "ytejikddbdhahaaa", sum := "6bfe8c30e2961c6ff7b2c4dd0967546646cc7f100e4c39cebaa64f54c0535197", func := "loop.example/ashlar/laws.FnValueEqual", spec := "fnValueEqual", recurses := true, plainKeys := false, apart := false, narrowed := true }
def FnValueEqualUptoSaid : Prop := fnValueEqualUptoRow.holds Try.pinned (OpenSpec.upto fnValueEqualSpec)

/-- 'laws.FnExactValueOrder', WHERE WHAT IT READS IS OF BULK AT MOST 1048576: true; the input reads as it did. -/
def fnExactValueOrderUptoRow : OpenClaim := { program := "ytejikddbdhahaaa", sum := "6bfe8c30e2961c6ff7b2c4dd0967546646cc7f100e4c39cebaa64f54c0535197", func := "loop.example/ashlar/laws.FnExactValueOrder", spec := "fnExactValueOrder", unfollowed := true, recurses := true, loops := true, plainKeys := false, apart := false, narrowed := true }
def FnExactValueOrderUptoSaid : Prop := fnExactValueOrderUptoRow.holds Try.pinned (OpenSpec.upto fnExactValueOrderSpec)

end Rows
end Go.Proofs.Ytejikddbdhahaaa
