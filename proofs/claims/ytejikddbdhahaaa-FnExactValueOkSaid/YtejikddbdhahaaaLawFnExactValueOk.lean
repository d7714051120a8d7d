-- Printed by a program of this claim's writer (wip/gen), out of the translation. Lean checks it.
import Derived.Test.YtejikddbdhahaaaRows
import Derived.Test.YtejikddbdhahaaaGx18
import Derived.Test.YtejikddbdhahaaaPureFnExactValueOk
import Derived.Test.YtejikddbdhahaaaOpen
import Derived.Test.YtejikddbdhahaaaGx2
import Derived.WalkKit
import Derived.ProofKit
import Derived.OpenShut
import Derived.ShutString
import Derived.ChangeOld
import Derived.Below
import Derived.SizedLaws
namespace Go.Proofs.Ytejikddbdhahaaa.fnExactValueOk
open Go.ChangeShapes Go.WideShapes Go.ChangeAt Go.RowKit Go.Proofs.Ytejikddbdhahaaa.G Go.Proofs.Ytejikddbdhahaaa.Opn
open Go.Proofs.YtejikddbdhahaaaW.PrintWords Go.Proofs.YtejikddbdhahaaaW.PrintLast
open Go.ChangeMaps (open_string shut_string)
set_option linter.unusedVariables false
theorem own : ownKnob Try.prog.godebug = none := by kernel_rfl
theorem laidOut : laidOutB Try.prog = true := by kernel_rfl
set_option maxRecDepth 100000 in
theorem lifted (os : Os) (started : os.Started) (H : Type) (enc : TypeId × Value → H) :
    ReturnsInHanded {} Try.checked os 9 .any (Rows.fnExactValueOkSpec.pre6 enc Try.prog Try.f9 Rows.fnExactValueOkRow.domain false) (Rows.fnExactValueOkSpec.post enc Try.prog Try.f9 false true false false) := by
  refine returnsInHanded_of_change_sized (C := Try.checked) own started (by kernel_rfl) Try.func9
    (ChangeSpec.witness6 (enc := enc) (C := Try.checked) false ⟨#[], #[.agg #[.int .i64 0, .int .i64 0, .string ByteArray.empty, .slice none 0 0]], []⟩ 8 (by kernel_rfl) (by kernel_rfl) (by kernel_rfl) (by kernel_rfl)) ?_
  intro W base args ds gs before hval0 hW hcnd hsz0 _
  have hsz : (DataW.weightsEach Try.prog (Try.f9.params.toList ++ Rows.fnExactValueOkSpec.plain.varTypes Try.prog) (ds ++ gs)).all (· ≤ reachBytes) = true := hsz0
  have hval : ∀ (j : Nat) t v, Try.f9.params[j]? = some t → args[j]? = some v → Value.okWide Try.prog W .any base t v := hval0
  have hW' := hW
  obtain ⟨p, q, hA0, hV, rfl, hfz, hnd⟩ := hW
  have hA : DataW.TrodAll enc Try.prog W 0 (fun _ => true) true Try.f9.params.toList args.toList ds p := hA0
  rw [Try.params9] at hA hval hsz
  obtain ⟨v0, vs0, d0, ds0, p0, q0, hargs, rfl, rfl, h0, r0⟩ := trodAll_cons hA
  obtain ⟨rfl, rfl, rfl⟩ := trodAll_nil r0
  obtain rfl : args = #[v0] := by cases args; simp_all
  obtain ⟨rfl, rfl⟩ := trodVars_none hV
  have k0 := h0
  have lt0 : ∀ x ∈ p0, x.block < W.heap.size := by obtain ⟨m, hm⟩ := k0; exact DataW.trod_lt m _ _ _ hm
  obtain ⟨fuel0, hf0⟩ := h0
  obtain ⟨cs0, rfl, _⟩ := okWide_struct Try.underlying26 (hval 0 26 v0 rfl rfl)
  obtain ⟨y0, K0, w0⟩ := open26 fuel0 H enc W _ _ hf0
  obtain ⟨y0_0, y0_1, y0_2, y0_3⟩ := y0
  obtain ⟨A0_3, C0_3, e0, l0_3, G0_3⟩ := k26_open K0
  replace e0 : cs0.toList = _ := e0
  obtain ⟨cl0⟩ := cs0
  replace e0 : cl0 = _ := e0
  subst e0
  clear hA0 hval0 hsz0 hsz
  refine (laws_FnExactValueOk.walk Pure.FnExactValueOk y0_0 y0_1 y0_2 _ _ y0_3 W G0_3 l0_3 w0).mono fun e W' ⟨he, bel⟩ => ?_
  subst he
  exact ⟨_, rfl, _, _, _, [], _, [], hW', trodAll_mk1 (shut_bool Try.underlying4 _), (trodAll_cons_mk (Below.trod laidOut (by kernel_rfl) (of_decide_eq_true (by kernel_rfl)) k0 bel lt0) trodAll_mk0), rfl, bel.frame _, fun h => by cases h⟩
theorem over : Rows.fnExactValueOkRow.holds Try.pinned (OpenSpec.ofChange Rows.fnExactValueOkSpec) :=
  OpenClaim.holds_of_wide 9 Try.f9 rfl rfl rfl rfl rfl rfl rfl ⟨rfl, rfl, rfl, rfl, rfl⟩ rfl rfl rfl rfl rfl (by kernel_rfl) Try.func9 (by kernel_rfl)
    (of_decide_eq_true (by kernel_rfl)) (by unfold Func.isWrapper; first | (rw [if_pos (by decide +kernel)]; kernel_rfl) | (rw [if_neg (by decide +kernel)]; exact ⟨rfl, rfl⟩))
    (fun os started H enc _ => lifted os started H enc)
theorem proved : Rows.FnExactValueOkSaid := over
#print axioms proved
end Go.Proofs.Ytejikddbdhahaaa.fnExactValueOk
namespace Go.Proofs.Ytejikddbdhahaaa
/-- The row, under a short name, for the claim. -/
theorem fnExactValueOk_holds : Rows.FnExactValueOkSaid := fnExactValueOk.proved
end Go.Proofs.Ytejikddbdhahaaa
