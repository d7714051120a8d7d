/- Sameness of values, as the program, the reference and the laws ask it. -/
import Derived.Test.YtejikddbdhahaaaPVBase
import Derived.Test.YtejikddbdhahaaaGx4
import Derived.Test.YtejikddbdhahaaaGx8
import Derived.Test.YtejikddbdhahaaaGx3
namespace Go.Proofs.Ytejikddbdhahaaa.Pur
open Go.RowKit Go.Proofs.Ytejikddbdhahaaa.G Go.Proofs.YtejikddbdhahaaaW.PrintWords Go.Proofs.YtejikddbdhahaaaW.PrintLast
set_option linter.unusedVariables false
set_option linter.unusedSimpArgs false

open Classical in
noncomputable def sameB (a b : IV) : Bool := decide (a = b)
theorem sameB_true {a b : IV} : sameB a b = true ↔ a = b := by unfold sameB; simp
theorem sameB_false {a b : IV} (h : a ≠ b) : sameB a b = false := by unfold sameB; simp [h]
theorem sameB_comm (a b : IV) : sameB a b = sameB b a := by rw [Bool.eq_iff_iff, sameB_true, sameB_true]; exact eq_comm
theorem sameB_self (a : IV) : sameB a a = true := sameB_true.2 rfl
theorem iv_ext {a b : IV} (h0 : a.f0 = b.f0) (h1 : a.f1 = b.f1) (h2 : a.f2 = b.f2) (h3 : a.f3 = b.f3) : a = b := by
  cases a; cases b; simp_all
theorem same_core (F : Nat → IV → IV → Option Bool) (J : Nat → Bool → IV → IV → Option Bool) (L : Nat → Int → IV → IV → Option Bool)
    (hF : ∀ k a b, F (k + 1) a b = if a.f0 = b.f0 then (if a.f1 = b.f1 then (if a.f2.toList = b.f2.toList then J k ((a.f3.length : Int) != (b.f3.length : Int)) a b else J k true a b) else J k true a b) else J k true a b)
    (hJ : ∀ k x a b, J (k + 1) x a b = if x = true then some false else L k 0 a b)
    (hL0 : ∀ k a b, a.f3.length = b.f3.length → L (k + 1) (a.f3.length : Int) a b = some true)
    (hL1 : ∀ k a b (i : Nat) (h : i < a.f3.length) (h' : i < b.f3.length), a.f3.length ≤ 1048576 → a.f3.length = b.f3.length → L (k + 1) (i : Int) a b = (F k a.f3[i] b.f3[i]).bind fun t => if t = true then L k ((i + 1 : Nat) : Int) a b else some false)
    {a : IV} (sa : Sm a) : ∀ {b : IV}, Sm b → Ev (fun k => F k a b) (sameB a b) := by
  induction sa with
  | @mk x h2 h3 h4 ih =>
    intro b sb
    obtain ⟨g2, g3, g4⟩ := sb.all
    have jt : Ev (fun k => J k true x b) false := Ev.succ (Ev.of_eq fun k => by rw [hJ, if_pos rfl])
    refine Ev.succ ?_
    simp only [hF]
    refine Ev.ite (fun c0 => ?_) (fun c0 => Ev.eq jt (sameB_false fun e => c0 (by rw [e])).symm)
    refine Ev.ite (fun c1 => ?_) (fun c1 => Ev.eq jt (sameB_false fun e => c1 (by rw [e])).symm)
    refine Ev.ite (fun c2 => ?_) (fun c2 => Ev.eq jt (sameB_false fun e => c2 (by rw [e])).symm)
    by_cases c3 : x.f3.length = b.f3.length
    · have : ((x.f3.length : Int) != (b.f3.length : Int)) = false := by simp [c3]
      rw [this]
      refine Ev.succ ?_
      simp only [hJ, Bool.false_eq_true, if_false]
      have loop : ∀ (d i : Nat), x.f3.length = i + d → ∃ r, Ev (fun k => L k (i : Int) x b) r ∧ (r = true ↔ ∀ j, ∀ h : j < x.f3.length, ∀ h' : j < b.f3.length, i ≤ j → x.f3[j] = b.f3[j]) := by
        intro d
        induction d with
        | zero =>
          intro i hi
          refine ⟨true, Ev.succ (Ev.of_eq fun k => ?_), ⟨fun _ j hj hj' hij => by omega, fun _ => rfl⟩⟩
          have : (i : Int) = (x.f3.length : Int) := by omega
          rw [this, hL0 k x b c3]
        | succ d ihd =>
          intro i hi
          have hlt : i < x.f3.length := by omega
          have hlt' : i < b.f3.length := by omega
          have he := ih x.f3[i] (List.getElem_mem hlt) (g4 _ (List.getElem_mem hlt'))
          obtain ⟨q, hq, hp⟩ := ihd (i + 1) (by omega)
          by_cases e : x.f3[i] = b.f3[i]
          · refine ⟨q, Ev.succ ?_, ?_⟩
            · simp only [hL1 _ x b i hlt hlt' h3 c3]
              refine Ev.bind he ?_
              simp only [sameB_true.2 e, if_true]
              exact hq
            · rw [hp]
              constructor
              · intro h j hj hj' hij
                by_cases e' : i = j
                · subst e'; exact e
                · exact h j hj hj' (by omega)
              · intro h j hj hj' hij; exact h j hj hj' (by omega)
          · refine ⟨false, Ev.succ ?_, ⟨(fun h => by cases h), (fun h => absurd (h i hlt hlt' (Nat.le_refl _)) e)⟩⟩
            simp only [hL1 _ x b i hlt hlt' h3 c3]
            refine Ev.bind he ?_
            simp only [sameB_false e, Bool.false_eq_true, if_false]
            exact Ev.some _
      obtain ⟨r, hr, hp⟩ := loop x.f3.length 0 (by omega)
      refine Ev.eq hr ?_
      rw [Bool.eq_iff_iff, hp, sameB_true]
      constructor
      · intro h
        refine iv_ext c0 c1 (toList_inj.1 c2) (List.ext_getElem c3 fun j hj hj' => h j hj hj' (Nat.zero_le _))
      · intro h j hj hj' _
        subst h; rfl
    · have : ((x.f3.length : Int) != (b.f3.length : Int)) = true := by simp; omega
      rw [this]
      exact Ev.eq jt (sameB_false fun e => c3 (by rw [e])).symm
theorem l1Same_ev {a b : IV} (sa : Sm a) (sb : Sm b) : Ev (fun k => spec_l1Same.f k a.f0 a.f1 a.f2 a.f3 b.f0 b.f1 b.f2 b.f3) (sameB a b) :=
  same_core (fun k a b => spec_l1Same.f k a.f0 a.f1 a.f2 a.f3 b.f0 b.f1 b.f2 b.f3) (fun k x a b => spec_l1Same.j0 k x a.f0 a.f1 a.f2 a.f3 b.f0 b.f1 b.f2 b.f3) (fun k i a b => spec_l1Same.l0 k i a.f0 a.f1 a.f2 a.f3 b.f0 b.f1 b.f2 b.f3)
    (fun k a b => by simp only [spec_l1Same.f]) (fun k x a b => by simp only [spec_l1Same.j0])
    (fun k a b e => by simp only [spec_l1Same.l0]; rw [if_neg (by omega)])
    (fun k a b i h h' hs e => by simp only [spec_l1Same.l0]; rw [if_pos (by omega), if_pos (by omega), if_pos (by omega), rd_iv h, rd_iv h', wrap64_succ h (by omega)]) sa sb
theorem sameOf_ev {a b : IV} (sa : Sm a) (sb : Sm b) : Ev (fun k => impl_sameOf.f k a.f0 a.f1 a.f2 a.f3 b.f0 b.f1 b.f2 b.f3) (sameB a b) :=
  same_core (fun k a b => impl_sameOf.f k a.f0 a.f1 a.f2 a.f3 b.f0 b.f1 b.f2 b.f3) (fun k x a b => impl_sameOf.j0 k x a.f0 a.f1 a.f2 a.f3 b.f0 b.f1 b.f2 b.f3) (fun k i a b => impl_sameOf.l0 k (a.f3.length : Int) i a.f0 a.f1 a.f2 a.f3 b.f0 b.f1 b.f2 b.f3)
    (fun k a b => by simp only [impl_sameOf.f]) (fun k x a b => by simp only [impl_sameOf.j0])
    (fun k a b e => by simp only [impl_sameOf.l0]; rw [if_neg (by omega)])
    (fun k a b i h h' hs e => by simp only [impl_sameOf.l0]; rw [if_pos (by omega), if_pos (by omega), if_pos (by omega), if_pos (by omega), rd_iv h, rd_iv h', wrap64_succ h (by omega)]) sa sb
theorem asValue_ev {a b : IV} (sa : Sm a) (sb : Sm b) : Ev (fun k => laws_asValue.f k a.f0 a.f1 a.f2 a.f3 b.f0 b.f1 b.f2 b.f3) (sameB a b) :=
  same_core (fun k a b => laws_asValue.f k a.f0 a.f1 a.f2 a.f3 b.f0 b.f1 b.f2 b.f3) (fun k x a b => laws_asValue.j0 k x a.f0 a.f1 a.f2 a.f3 b.f0 b.f1 b.f2 b.f3) (fun k i a b => laws_asValue.l0 k i a.f0 a.f1 a.f2 a.f3 b.f0 b.f1 b.f2 b.f3)
    (fun k a b => by simp only [laws_asValue.f]) (fun k x a b => by simp only [laws_asValue.j0])
    (fun k a b e => by simp only [laws_asValue.l0]; rw [if_neg (by omega)])
    (fun k a b i h h' hs e => by simp only [laws_asValue.l0]; rw [if_pos (by omega), if_pos (by omega), if_pos (by omega), rd_iv h, rd_iv h', wrap64_succ h (by omega)]) sa sb
end Go.Proofs.Ytejikddbdhahaaa.Pur
