/- FnValueEqual: values without nothing within are equal just if they are the same. Two values drawn, both ways round. -/
import Derived.Test.YtejikddbdhahaaaGx15
import Derived.Test.YtejikddbdhahaaaPDraw
import Derived.Test.YtejikddbdhahaaaPEqual
namespace Go.Proofs.Ytejikddbdhahaaa.Pure
open Go.RowKit Go.Proofs.Ytejikddbdhahaaa.G Go.Proofs.Ytejikddbdhahaaa.Pur Go.Proofs.YtejikddbdhahaaaW.PrintWords Go.Proofs.YtejikddbdhahaaaW.PrintLast
set_option linter.unusedVariables false
set_option linter.unusedSimpArgs false

theorem FnValueEqual : laws_FnValueEqual.Pure := by
  intro l hl hl' hb
  refine Ev.rounds (r := true) ?_
  unfold laws_FnValueEqual.f
  refine Ev.ite (fun _ => Ev.some _) (fun _ => ?_)
  obtain ⟨a, b, hd, sa, sb⟩ := drawSame_ev hb
  obtain ⟨t, t1, t2, t3, t4⟩ := valueEqual_ev sa sb
  have hdr : Ev (fun k => spec_DrawValueEqual.f k l) (a.f0, a.f1, a.f2, a.f3, b.f0, b.f1, b.f2, b.f3) := by
    unfold spec_DrawValueEqual.f
    exact Ev.bind hd (Ev.some _)
  have hz := asValue_ev (tri_sm t) (tri_sm t)
  rw [sameB_self] at hz
  have jt : Ev (fun k => laws_FnValueEqual.j0 k true a.f0 a.f1 a.f2 a.f3 b.f0 b.f1 b.f2 b.f3 (out t).1 (out t).2.1 (out t).2.2.1 (out t).2.2.2) true := Ev.succ (by
    simp only [laws_FnValueEqual.j0, if_true]
    exact Ev.bind t1 (Ev.bind hz (Ev.pos rfl (Ev.bind t3 (Ev.bind hz (Ev.some _))))))
  refine Ev.bind hdr (Ev.bind t2 (Ev.bind t1 (Ev.bind hz (Ev.pos rfl (Ev.bind t3 (Ev.bind hz (Ev.pos rfl (Ev.bind (specValueOk_ev a sa) (Ev.ite (fun oa => Ev.bind (specValueOk_ev b sb) ?_) (fun oa => jt))))))))))
  by_cases ob : vok 3 b = true
  · rw [ob]
    have tt := t4 oa ob
    refine Ev.succ ?_
    simp only [laws_FnValueEqual.j0, Bool.not_true, Bool.false_eq_true, if_false]
    obtain ⟨ra, ha, pa⟩ := asNull_ev sa
    obtain ⟨rb, hb', pb⟩ := asNull_ev sb
    have nul : (Nul a ∨ Nul b) → Ev (fun k => if (out t).1 = 0 then some true else some ((out t).2.1 == 0)) true := by
      intro h
      rcases t with _ | _ | _
      · exact Ev.pos rfl (Ev.some _)
      · exact Ev.neg (by show ¬ ((1 : Int) = 0); decide) (Ev.some _)
      · rcases h with h | h
        · exact absurd h (tt.1 rfl).1
        · exact absurd h (tt.1 rfl).2
    refine Ev.bind ha (Ev.ite (fun c => nul (.inl (pa.1 c))) (fun c => Ev.bind hb' (Ev.ite (fun c' => nul (.inr (pb.1 c'))) (fun c' => ?_))))
    have e := tt.2 (fun n => c (pa.2 n)) (fun n => c' (pb.2 n))
    rw [e]
    refine Ev.pos (by cases sameB a b <;> rfl) (Ev.bind (asValue_ev sa sb) (Ev.eq (Ev.some _) ?_))
    cases sameB a b <;> rfl
  · have : vok 3 b = false := by simpa using ob
    rw [this]
    exact jt
end Go.Proofs.Ytejikddbdhahaaa.Pure
