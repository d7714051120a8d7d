/- Rules that came in. -/
import Derived.Test.YtcchmhmbjhgfdaaOpn
import Derived.Test.YtcchmhmbjhgfdaaCrl
namespace Go.Proofs.Ytcchmhmbjhgfdaa.V
open Go Go.RowKit
set_option linter.unusedVariables false
set_option linter.unusedSimpArgs false
theorem op_Rule (n : Nat) : OpensT Try.prog n 158 (fun ts => ∃ v, ts = sR.I v ∧ v.fit) := by
  refine ot_mono (ot_struct (qs := [(9, fun ts => ∃ y : Tx, ts = [.s y] ∧ ln y), (9, fun ts => ∃ y : Tx, ts = [.s y] ∧ ln y)]) Try.underlying158 (by kernel_rfl) (by kernel_rfl) ?_) ?_
  · intro m hm p hp
    simp only [List.mem_cons, List.not_mem_nil, or_false] at hp
    rcases hp with rfl | rfl
    · exact op_string m
    · exact op_string m
  · rintro ts ⟨a, r, rfl, ⟨s, rfl, hs⟩, _, b, r, rfl, ⟨v, rfl, hv⟩, _, rfl⟩
    exact ⟨⟨s, v⟩, by simp, hs, hv⟩
theorem op_RuleS (n : Nat) : OpensT Try.prog n 81 (fun ts => ∃ l : List Rl, ts = [.imm (l.map sR.I)] ∧ ln l ∧ ∀ a ∈ l, a.fit) :=
  op_list (sz := 2) Try.underlying81 (by kernel_rfl) (by omega) fun m _ => op_Rule m
end Go.Proofs.Ytcchmhmbjhgfdaa.V
