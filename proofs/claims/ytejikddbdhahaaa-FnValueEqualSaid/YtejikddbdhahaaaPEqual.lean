/- Equality of values: yes, no, or not known; in the program and in the reference. -/
import Derived.Test.YtejikddbdhahaaaPSame
import Derived.Test.YtejikddbdhahaaaPValOk
import Derived.Test.YtejikddbdhahaaaGx5
import Derived.Test.YtejikddbdhahaaaGx6
import Derived.Test.YtejikddbdhahaaaGx9
import Derived.Test.YtejikddbdhahaaaGx10
import Derived.Test.YtejikddbdhahaaaGx14
namespace Go.Proofs.Ytejikddbdhahaaa.Pur
open Go.RowKit Go.Proofs.Ytejikddbdhahaaa.G Go.Proofs.YtejikddbdhahaaaW.PrintWords Go.Proofs.YtejikddbdhahaaaW.PrintLast
set_option linter.unusedVariables false
set_option linter.unusedSimpArgs false

/-- Yes, no, or not known, as a value. -/
def tri : Option Bool → IV
  | none => ⟨0, 0, (⟨#[]⟩ : ByteArray), []⟩
  | some true => ⟨1, 1, (⟨#[]⟩ : ByteArray), []⟩
  | some false => ⟨1, 0, (⟨#[]⟩ : ByteArray), []⟩
def out (t : Option Bool) : Int × Int × ByteArray × List IV := ((tri t).f0, (tri t).f1, (tri t).f2, (tri t).f3)
theorem tri_sm (t : Option Bool) : Sm (tri t) := by
  have z : (⟨#[]⟩ : ByteArray).size ≤ 1048576 := Nat.le_of_ble_eq_true rfl
  rcases t with _ | _ | _ <;> exact .mk z (Nat.zero_le _) (fun y hy => by cases hy)
/-- Nothing, somewhere within. -/
inductive Nul : IV → Prop
  | here {x : IV} (h : x.f0 = 0) : Nul x
  | sub {x y : IV} (hy : y ∈ x.f3) (h : Nul y) : Nul x
/-- Only lists have parts. -/
inductive Flat : IV → Prop
  | mk {x : IV} (h : x.f0 ≠ 4 → x.f3.length = 0) (h' : x.f0 = 4 → x.f1 = 0 ∧ x.f2.size = 0) (hs : ∀ y ∈ x.f3, Flat y) : Flat x
theorem Flat.all {x : IV} (h : Flat x) : (x.f0 ≠ 4 → x.f3.length = 0) ∧ (x.f0 = 4 → x.f1 = 0 ∧ x.f2.size = 0) ∧ ∀ y ∈ x.f3, Flat y := by
  cases h with
  | mk h h' hs => exact ⟨h, h', hs⟩
theorem flat_of : ∀ (n : Nat) (v : IV), vok n v = true → Flat v := by
  intro n
  induction n with
  | zero => intro v h; simp [vok] at h
  | succ n ih =>
    intro v h
    have e4 : v.f0 = 4 → v.f1 = 0 ∧ v.f2.size = 0 ∧ v.f3.all (vok n) = true := by
      intro k4
      simp only [vok, k4, if_true, if_neg (show ¬ ((4 : Int) = 0) by decide), if_neg (show ¬ ((4 : Int) = 1) by decide), if_neg (show ¬ ((4 : Int) = 2) by decide), if_neg (show ¬ ((4 : Int) = 3) by decide), Bool.and_eq_true, decide_eq_true_eq] at h
      exact ⟨h.1.1.1, h.1.1.2, h.2⟩
    by_cases hne : v.f3.length = 0
    · refine .mk (fun _ => hne) (fun k4 => ⟨(e4 k4).1, (e4 k4).2.1⟩) (fun y hy => ?_)
      rw [List.length_eq_zero_iff] at hne; rw [hne] at hy; cases hy
    · by_cases k4 : v.f0 = 4
      · exact .mk (fun c => absurd k4 c) (fun k4 => ⟨(e4 k4).1, (e4 k4).2.1⟩) (fun y hy => ih y (List.all_eq_true.1 (e4 k4).2.2 y hy))
      · simp only [vok, decide_eq_false hne, Bool.and_false] at h
        rw [if_neg k4] at h
        simp at h
theorem l1Bool_eq (b : Bool) : spec_l1Bool.f b = some (out (some b)) := by cases b <;> rfl
theorem yesOrNo_eq (b : Bool) : impl_yesOrNo.f b = some (out (some b)) := by cases b <;> rfl
theorem isNo_eq (t : Option Bool) : impl_isNo.f (out t).1 (out t).2.1 (out t).2.2.1 (out t).2.2.2 = some (t == some false) := by rcases t with _ | _ | _ <;> rfl

/-- The loop of two lists, given what is known of each place. -/
theorem equal_loop {a b : IV} (h3 : a.f3.length ≤ 1048576) (hl : a.f3.length = b.f3.length)
    (T : ∀ i (h : i < a.f3.length) (h' : i < b.f3.length), ∃ t : Option Bool, Ev (fun k => spec_l1Equal.f k a.f3[i].f0 a.f3[i].f1 a.f3[i].f2 a.f3[i].f3 b.f3[i].f0 b.f3[i].f1 b.f3[i].f2 b.f3[i].f3) (out t)
      ∧ Ev (fun k => impl_equalOf.f k a.f3[i].f0 a.f3[i].f1 a.f3[i].f2 a.f3[i].f3 b.f3[i].f0 b.f3[i].f1 b.f3[i].f2 b.f3[i].f3) (out t)
      ∧ Ev (fun k => impl_equalOf.f k b.f3[i].f0 b.f3[i].f1 b.f3[i].f2 b.f3[i].f3 a.f3[i].f0 a.f3[i].f1 a.f3[i].f2 a.f3[i].f3) (out t)
      ∧ (Flat a.f3[i] → Flat b.f3[i] → (t = some true → ¬ Nul a.f3[i] ∧ ¬ Nul b.f3[i]) ∧ (¬ Nul a.f3[i] → ¬ Nul b.f3[i] → t = some (sameB a.f3[i] b.f3[i])))) :
    ∀ (d i : Nat) (kn : Bool), a.f3.length = i + d → ∃ t : Option Bool, Ev (fun k => spec_l1Equal.l0 k kn (i : Int) a.f0 a.f1 a.f2 a.f3 b.f0 b.f1 b.f2 b.f3) (out t)
      ∧ Ev (fun k => impl_equalOf.l0 k (a.f3.length : Int) (i : Int) a.f0 a.f1 a.f2 a.f3 b.f0 b.f1 b.f2 b.f3 (tri (if kn then some true else none)).f0 (tri (if kn then some true else none)).f1 (tri (if kn then some true else none)).f2 (tri (if kn then some true else none)).f3) (out t)
      ∧ Ev (fun k => impl_equalOf.l0 k (b.f3.length : Int) (i : Int) b.f0 b.f1 b.f2 b.f3 a.f0 a.f1 a.f2 a.f3 (tri (if kn then some true else none)).f0 (tri (if kn then some true else none)).f1 (tri (if kn then some true else none)).f2 (tri (if kn then some true else none)).f3) (out t)
      ∧ ((∀ y ∈ a.f3, Flat y) → (∀ y ∈ b.f3, Flat y) → (t = some true → kn = true ∧ ∀ j, ∀ h : j < a.f3.length, ∀ h' : j < b.f3.length, i ≤ j → ¬ Nul a.f3[j] ∧ ¬ Nul b.f3[j])
        ∧ (kn = true → (∀ j, ∀ h : j < a.f3.length, ∀ h' : j < b.f3.length, i ≤ j → ¬ Nul a.f3[j] ∧ ¬ Nul b.f3[j]) → ∃ r, t = some r ∧ (r = true ↔ ∀ j, ∀ h : j < a.f3.length, ∀ h' : j < b.f3.length, i ≤ j → a.f3[j] = b.f3[j]))) := by
  intro d
  induction d with
  | zero =>
    intro i kn hi
    refine ⟨if kn then some true else none, Ev.succ ?_, Ev.succ ?_, Ev.succ ?_, fun _ _ => ⟨fun h => ⟨?_, fun j hj hj' hij => by omega⟩, fun h _ => ⟨true, by rw [h]; rfl, ⟨fun _ j hj hj' hij => by omega, fun _ => rfl⟩⟩⟩⟩
    · simp only [spec_l1Equal.l0]
      refine Ev.neg (by omega) ?_
      cases kn
      · exact Ev.some _
      · simp only [if_true, l1Bool_eq, Option.bind_some]
        exact Ev.some _
    · simp only [impl_equalOf.l0]
      exact Ev.neg (by omega) (Ev.some _)
    · simp only [impl_equalOf.l0]
      exact Ev.neg (by omega) (Ev.some _)
    · cases kn
      · cases h
      · rfl
  | succ d ihd =>
    intro i kn hi
    have hlt : i < a.f3.length := by omega
    have hlt' : i < b.f3.length := by omega
    obtain ⟨t, t1, t2, t3, t4⟩ := T i hlt hlt'
    have big : a.f3.length ≤ 9223372036854775807 := by omega
    have big' : b.f3.length ≤ 9223372036854775807 := by omega
    have go : ∀ q : Option Bool, (t ≠ some false → Ev (fun k => spec_l1Equal.l0 k (kn && (t == some true)) ((i + 1 : Nat) : Int) a.f0 a.f1 a.f2 a.f3 b.f0 b.f1 b.f2 b.f3) (out q)) → (t = some false → q = some false) → Ev (fun k => spec_l1Equal.l0 k kn (i : Int) a.f0 a.f1 a.f2 a.f3 b.f0 b.f1 b.f2 b.f3) (out q) := by
      intro q hq hf
      refine Ev.succ ?_
      simp only [spec_l1Equal.l0, if_pos (show (i : Int) < (a.f3.length : Int) by omega), if_pos (show 0 ≤ (i : Int) by omega), if_pos (show (i : Int) < (b.f3.length : Int) by omega), rd_iv hlt, rd_iv hlt']
      refine Ev.bind t1 ?_
      rcases t with _ | _ | _
      · have h := hq (by simp)
        refine Ev.neg (by show ¬ ((0 : Int) = 1); decide) (Ev.succ ?_)
        simp only [spec_l1Equal.j3, Bool.false_eq_true, if_false, wrap64_succ hlt big]
        cases kn
        · exact h
        · exact h
      · rw [hf rfl]
        refine Ev.pos rfl (Ev.succ ?_)
        simp only [spec_l1Equal.j3]
        exact Ev.pos rfl (Ev.some _)
      · have h := hq (by simp)
        refine Ev.pos rfl (Ev.succ ?_)
        simp only [spec_l1Equal.j3, wrap64_succ hlt big]
        refine Ev.neg (by show ¬ (((1 : Int) == 0) = true); decide) ?_
        cases kn
        · exact h
        · exact h
    have go2 : ∀ q : Option Bool, (t ≠ some false → Ev (fun k => impl_equalOf.l0 k (a.f3.length : Int) ((i + 1 : Nat) : Int) a.f0 a.f1 a.f2 a.f3 b.f0 b.f1 b.f2 b.f3 (tri (if (kn && (t == some true)) then some true else none)).f0 (tri (if (kn && (t == some true)) then some true else none)).f1 (tri (if (kn && (t == some true)) then some true else none)).f2 (tri (if (kn && (t == some true)) then some true else none)).f3) (out q)) → (t = some false → q = some false) →
        Ev (fun k => impl_equalOf.l0 k (a.f3.length : Int) (i : Int) a.f0 a.f1 a.f2 a.f3 b.f0 b.f1 b.f2 b.f3 (tri (if kn then some true else none)).f0 (tri (if kn then some true else none)).f1 (tri (if kn then some true else none)).f2 (tri (if kn then some true else none)).f3) (out q) := by
      intro q hq hf
      refine Ev.succ ?_
      simp only [impl_equalOf.l0, if_pos (show (i : Int) < (a.f3.length : Int) by omega), if_pos (show 0 ≤ (i : Int) by omega), if_pos (show (i : Int) < (b.f3.length : Int) by omega), rd_iv hlt, rd_iv hlt']
      refine Ev.bind t2 ?_
      simp only [isNo_eq, Option.bind_some, wrap64_succ hlt big]
      rcases t with _ | _ | _
      · have h := hq (by simp)
        refine Ev.neg (by decide) (Ev.pos rfl ?_)
        cases kn <;> exact h
      · rw [hf rfl]
        exact Ev.pos rfl (Ev.some _)
      · have h := hq (by simp)
        refine Ev.neg (by decide) (Ev.neg (by show ¬ ((1 : Int) = 0); decide) ?_)
        cases kn <;> exact h
    have go3 : ∀ q : Option Bool, (t ≠ some false → Ev (fun k => impl_equalOf.l0 k (b.f3.length : Int) ((i + 1 : Nat) : Int) b.f0 b.f1 b.f2 b.f3 a.f0 a.f1 a.f2 a.f3 (tri (if (kn && (t == some true)) then some true else none)).f0 (tri (if (kn && (t == some true)) then some true else none)).f1 (tri (if (kn && (t == some true)) then some true else none)).f2 (tri (if (kn && (t == some true)) then some true else none)).f3) (out q)) → (t = some false → q = some false) →
        Ev (fun k => impl_equalOf.l0 k (b.f3.length : Int) (i : Int) b.f0 b.f1 b.f2 b.f3 a.f0 a.f1 a.f2 a.f3 (tri (if kn then some true else none)).f0 (tri (if kn then some true else none)).f1 (tri (if kn then some true else none)).f2 (tri (if kn then some true else none)).f3) (out q) := by
      intro q hq hf
      refine Ev.succ ?_
      simp only [impl_equalOf.l0, if_pos (show (i : Int) < (b.f3.length : Int) by omega), if_pos (show 0 ≤ (i : Int) by omega), if_pos (show (i : Int) < (a.f3.length : Int) by omega), rd_iv hlt, rd_iv hlt']
      refine Ev.bind t3 ?_
      simp only [isNo_eq, Option.bind_some, wrap64_succ hlt' big']
      rcases t with _ | _ | _
      · have h := hq (by simp)
        refine Ev.neg (by decide) (Ev.pos rfl ?_)
        cases kn <;> exact h
      · rw [hf rfl]
        exact Ev.pos rfl (Ev.some _)
      · have h := hq (by simp)
        refine Ev.neg (by decide) (Ev.neg (by show ¬ ((1 : Int) = 0); decide) ?_)
        cases kn <;> exact h
    by_cases hf : t = some false
    · refine ⟨some false, go _ (fun h => absurd hf h) (fun _ => rfl), go2 _ (fun h => absurd hf h) (fun _ => rfl), go3 _ (fun h => absurd hf h) (fun _ => rfl), fun fa fb => ⟨(fun h => by cases h), fun hk hn => ⟨false, rfl, (fun h => by cases h), fun h => ?_⟩⟩⟩
      have hh := hn i hlt hlt' (Nat.le_refl _)
      have := (t4 (fa _ (List.getElem_mem hlt)) (fb _ (List.getElem_mem hlt'))).2 hh.1 hh.2
      rw [hf] at this
      have e := h i hlt hlt' (Nat.le_refl _)
      rw [sameB_true.2 e] at this
      cases this
    · obtain ⟨q, q1, q2, q3, q4⟩ := ihd (i + 1) (kn && (t == some true)) (by omega)
      refine ⟨q, go _ (fun _ => q1) (fun h => absurd h hf), go2 _ (fun _ => q2) (fun h => absurd h hf), go3 _ (fun _ => q3) (fun h => absurd h hf), fun fa fb => ⟨fun h => ?_, fun hk hn => ?_⟩⟩
      · obtain ⟨h1, h2⟩ := (q4 fa fb).1 h
        rw [Bool.and_eq_true] at h1
        have ht : t = some true := by rcases t with _ | _ | _ <;> simp_all
        refine ⟨h1.1, fun j hj hj' hij => ?_⟩
        by_cases e : i = j
        · subst e
          exact (t4 (fa _ (List.getElem_mem hlt)) (fb _ (List.getElem_mem hlt'))).1 ht
        · exact h2 j hj hj' (by omega)
      · have hh := hn i hlt hlt' (Nat.le_refl _)
        have ht := (t4 (fa _ (List.getElem_mem hlt)) (fb _ (List.getElem_mem hlt'))).2 hh.1 hh.2
        have hs : sameB a.f3[i] b.f3[i] = true := by
          cases h : sameB a.f3[i] b.f3[i] with
          | true => rfl
          | false => rw [h] at ht; exact absurd ht hf
        rw [hs] at ht
        obtain ⟨r, hr, hp⟩ := (q4 fa fb).2 (by rw [hk, ht]; rfl) (fun j hj hj' hij => hn j hj hj' (by omega))
        refine ⟨r, hr, ?_⟩
        rw [hp]
        constructor
        · intro h j hj hj' hij
          by_cases e : i = j
          · subst e; exact sameB_true.1 hs
          · exact h j hj hj' (by omega)
        · intro h j hj hj' hij; exact h j hj hj' (by omega)
theorem equal_ev {a : IV} (sa : Sm a) : ∀ {b : IV}, Sm b → ∃ t : Option Bool, Ev (fun k => spec_l1Equal.f k a.f0 a.f1 a.f2 a.f3 b.f0 b.f1 b.f2 b.f3) (out t)
    ∧ Ev (fun k => impl_equalOf.f k a.f0 a.f1 a.f2 a.f3 b.f0 b.f1 b.f2 b.f3) (out t) ∧ Ev (fun k => impl_equalOf.f k b.f0 b.f1 b.f2 b.f3 a.f0 a.f1 a.f2 a.f3) (out t)
    ∧ (Flat a → Flat b → (t = some true → ¬ Nul a ∧ ¬ Nul b) ∧ (¬ Nul a → ¬ Nul b → t = some (sameB a b))) := by
  induction sa with
  | @mk a h2 h3 h4 ih =>
    intro b sb
    have sa : Sm a := .mk h2 h3 h4
    obtain ⟨g2, g3, g4⟩ := sb.all
    by_cases z : a.f0 = 0 ∨ b.f0 = 0
    · have S : ∀ x, x = true → Ev (fun k => spec_l1Equal.j0 k x a.f0 a.f1 a.f2 a.f3 b.f0 b.f1 b.f2 b.f3) (out none) := fun x hx => Ev.succ (by simp only [spec_l1Equal.j0]; exact Ev.pos hx (Ev.some _))
      have I : ∀ (a b : IV) x, x = true → Ev (fun k => impl_equalOf.j0 k x a.f0 a.f1 a.f2 a.f3 b.f0 b.f1 b.f2 b.f3) (out none) := fun a b x hx => Ev.succ (by simp only [impl_equalOf.j0]; exact Ev.pos hx (Ev.some _))
      refine ⟨none, Ev.succ ?_, Ev.succ ?_, Ev.succ ?_, fun _ _ => ⟨(fun h => by cases h), fun na nb => ?_⟩⟩
      · simp only [spec_l1Equal.f]
        exact Ev.ite (fun _ => S _ rfl) (fun c => S _ (by simp; omega))
      · simp only [impl_equalOf.f]
        exact Ev.ite (fun _ => I _ _ _ rfl) (fun c => I _ _ _ (by simp; omega))
      · simp only [impl_equalOf.f]
        exact Ev.ite (fun _ => I _ _ _ rfl) (fun c => I _ _ _ (by simp; omega))
      · rcases z with z | z
        · exact absurd (Nul.here z) na
        · exact absurd (Nul.here z) nb
    have za : ¬ a.f0 = 0 := fun h => z (.inl h)
    have zb : ¬ b.f0 = 0 := fun h => z (.inr h)
    have zb' : (b.f0 == 0) = false := by simp [zb]
    have za' : (a.f0 == 0) = false := by simp [za]
    have S : ∀ {t}, Ev (fun k => if a.f0 = 4 then (spec_l1Equal.j1 k (b.f0 != 4) a.f0 a.f1 a.f2 a.f3 b.f0 b.f1 b.f2 b.f3) else (spec_l1Equal.j1 k true a.f0 a.f1 a.f2 a.f3 b.f0 b.f1 b.f2 b.f3)) (out t) → Ev (fun k => spec_l1Equal.f k a.f0 a.f1 a.f2 a.f3 b.f0 b.f1 b.f2 b.f3) (out t) := fun h => Ev.succ (by
      simp only [spec_l1Equal.f, zb']
      refine Ev.neg za (Ev.succ ?_)
      simp only [spec_l1Equal.j0, Bool.false_eq_true, if_false]
      exact h)
    have I : ∀ {t} {a b : IV}, ¬ a.f0 = 0 → (b.f0 == 0) = false → Ev (fun k => if a.f0 = 4 then (if b.f0 = 4 then (impl_equalOf.j1 k ((a.f3.length : Int) != (b.f3.length : Int)) a.f0 a.f1 a.f2 a.f3 b.f0 b.f1 b.f2 b.f3) else (impl_equalOf.j1 k true a.f0 a.f1 a.f2 a.f3 b.f0 b.f1 b.f2 b.f3)) else (impl_equalOf.j1 k true a.f0 a.f1 a.f2 a.f3 b.f0 b.f1 b.f2 b.f3)) (out t) → Ev (fun k => impl_equalOf.f k a.f0 a.f1 a.f2 a.f3 b.f0 b.f1 b.f2 b.f3) (out t) := fun za zb' h => Ev.succ (by
      simp only [impl_equalOf.f, zb']
      refine Ev.neg za (Ev.succ ?_)
      simp only [impl_equalOf.j0, Bool.false_eq_true, if_false]
      exact h)
    have It : ∀ {a b : IV}, Sm a → Sm b → Ev (fun k => impl_equalOf.j1 k true a.f0 a.f1 a.f2 a.f3 b.f0 b.f1 b.f2 b.f3) (out (some (sameB a b))) := fun sa sb => Ev.succ (by
      simp only [impl_equalOf.j1, if_true]
      refine Ev.bind (sameOf_ev sa sb) ?_
      simp only [yesOrNo_eq, Option.bind_some]
      exact Ev.some _)
    have St : Ev (fun k => spec_l1Equal.j1 k true a.f0 a.f1 a.f2 a.f3 b.f0 b.f1 b.f2 b.f3) (out (some (sameB a b))) := Ev.succ (by
      simp only [spec_l1Equal.j1, if_true]
      refine Ev.bind (l1Same_ev sa sb) ?_
      simp only [l1Bool_eq, Option.bind_some]
      exact Ev.some _)
    have It' : Ev (fun k => impl_equalOf.j1 k true b.f0 b.f1 b.f2 b.f3 a.f0 a.f1 a.f2 a.f3) (out (some (sameB a b))) := by rw [sameB_comm]; exact It sb sa
    by_cases f4 : a.f0 = 4 ∧ b.f0 = 4
    · by_cases hl : a.f3.length = b.f3.length
      · obtain ⟨t, t1, t2, t3, t4⟩ := equal_loop (a := a) (b := b) h3 hl (fun i h h' => ih a.f3[i] (List.getElem_mem h) (g4 _ (List.getElem_mem h'))) a.f3.length 0 true (by omega)
        have e4 : (b.f0 != 4) = false := by simp [f4.2]
        have el : ((a.f3.length : Int) != (b.f3.length : Int)) = false := by simp [hl]
        have el' : ((b.f3.length : Int) != (a.f3.length : Int)) = false := by simp [hl]
        refine ⟨t, S (Ev.pos f4.1 ?_), I za zb' (Ev.pos f4.1 (Ev.pos f4.2 ?_)), I zb za' (Ev.pos f4.2 (Ev.pos f4.1 ?_)), fun fa fb => ⟨fun h => ?_, fun na nb => ?_⟩⟩
        · rw [e4]
          refine Ev.succ ?_
          simp only [spec_l1Equal.j1, Bool.false_eq_true, if_false]
          exact Ev.pos (by omega) t1
        · rw [el]
          refine Ev.succ ?_
          simp only [impl_equalOf.j1, Bool.false_eq_true, if_false, yesOrNo_eq, Option.bind_some]
          exact t2
        · rw [el']
          refine Ev.succ ?_
          simp only [impl_equalOf.j1, Bool.false_eq_true, if_false, yesOrNo_eq, Option.bind_some]
          exact t3
        · have := ((t4 fa.all.2.2 fb.all.2.2).1 h).2
          constructor
          · intro n
            cases n with
            | here h => exact za h
            | sub hy h =>
              obtain ⟨j, hj, rfl⟩ := List.getElem_of_mem hy
              exact (this j hj (by omega) (Nat.zero_le _)).1 h
          · intro n
            cases n with
            | here h => exact zb h
            | sub hy h =>
              obtain ⟨j, hj, rfl⟩ := List.getElem_of_mem hy
              exact (this j (by omega) hj (Nat.zero_le _)).2 h
        · obtain ⟨r, hr, hp⟩ := (t4 fa.all.2.2 fb.all.2.2).2 rfl (fun j hj hj' _ => ⟨fun n => na (.sub (List.getElem_mem hj) n), fun n => nb (.sub (List.getElem_mem hj') n)⟩)
          rw [hr, Option.some_inj, Bool.eq_iff_iff, hp, sameB_true]
          constructor
          · intro h
            have ea := fa.all.2.1 f4.1
            have eb := fb.all.2.1 f4.2
            refine iv_ext (by rw [f4.1, f4.2]) (by rw [ea.1, eb.1]) (toList_inj.1 ?_) (List.ext_getElem hl fun j hj hj' => h j hj hj' (Nat.zero_le _))
            rw [(toList_nil _).2 ea.2, (toList_nil _).2 eb.2]
          · intro h j hj hj' _
            subst h; rfl
      · have ns : sameB a b = false := sameB_false fun e => hl (by rw [e])
        have e4 : (b.f0 != 4) = false := by simp [f4.2]
        have el : ((a.f3.length : Int) != (b.f3.length : Int)) = true := by simp; omega
        have el' : ((b.f3.length : Int) != (a.f3.length : Int)) = true := by simp; omega
        refine ⟨some (sameB a b), S (Ev.pos f4.1 ?_), I za zb' (Ev.pos f4.1 (Ev.pos f4.2 ?_)), I zb za' (Ev.pos f4.2 (Ev.pos f4.1 ?_)), fun fa fb => ⟨fun h => ?_, fun _ _ => rfl⟩⟩
        · rw [e4]
          refine Ev.succ ?_
          simp only [spec_l1Equal.j1, Bool.false_eq_true, if_false, l1Bool_eq, Option.bind_some, ns]
          exact Ev.neg (by omega) (Ev.some _)
        · rw [el]; exact It sa sb
        · rw [el']; exact It'
        · rw [ns] at h; cases h
    · refine ⟨some (sameB a b), S ?_, I za zb' ?_, I zb za' ?_, fun fa fb => ⟨fun h => ?_, fun _ _ => rfl⟩⟩
      · refine Ev.ite (fun c => ?_) (fun c => St)
        have : (b.f0 != 4) = true := by simp; exact fun e => f4 ⟨c, e⟩
        rw [this]; exact St
      · exact Ev.ite (fun c => Ev.neg (fun e => f4 ⟨c, e⟩) (It sa sb)) (fun c => It sa sb)
      · exact Ev.ite (fun c => Ev.neg (fun e => f4 ⟨e, c⟩) It') (fun c => It')
      · have e : a = b := sameB_true.1 (by cases h' : sameB a b with
                                           | true => rfl
                                           | false => rw [h'] at h; cases h)
        subst e
        have k4 : a.f0 ≠ 4 := fun e => f4 ⟨e, e⟩
        have n : ¬ Nul a := by
          intro n
          cases n with
          | here h => exact za h
          | sub hy h =>
            have := fa.all.1 k4
            rw [List.length_eq_zero_iff] at this
            rw [this] at hy; cases hy
        exact ⟨n, n⟩
/-- What ValueEqual is, of any two values. -/
theorem valueEqual_ev {a b : IV} (sa : Sm a) (sb : Sm b) : ∃ t : Option Bool, Ev (fun k => spec_ValueEqual.f k a.f0 a.f1 a.f2 a.f3 b.f0 b.f1 b.f2 b.f3) (out t)
    ∧ Ev (fun k => impl_ValueEqual.f k a.f0 a.f1 a.f2 a.f3 b.f0 b.f1 b.f2 b.f3) (out t) ∧ Ev (fun k => impl_ValueEqual.f k b.f0 b.f1 b.f2 b.f3 a.f0 a.f1 a.f2 a.f3) (out t)
    ∧ (vok 3 a = true → vok 3 b = true → (t = some true → ¬ Nul a ∧ ¬ Nul b) ∧ (¬ Nul a → ¬ Nul b → t = some (sameB a b))) := by
  unfold spec_ValueEqual.f impl_ValueEqual.f
  by_cases oa : vok 3 a = true
  · by_cases ob : vok 3 b = true
    · obtain ⟨t, t1, t2, t3, t4⟩ := equal_ev sa sb
      exact ⟨t, Ev.bind (specValueOk_ev a sa) (Ev.pos oa (Ev.bind (specValueOk_ev b sb) (Ev.pos ob (Ev.bind t1 (Ev.some _))))),
        Ev.bind (implValueOk_ev a sa) (Ev.pos oa (Ev.bind (implValueOk_ev b sb) (Ev.pos ob (Ev.bind t2 (Ev.some _))))),
        Ev.bind (implValueOk_ev b sb) (Ev.pos ob (Ev.bind (implValueOk_ev a sa) (Ev.pos oa (Ev.bind t3 (Ev.some _))))), fun _ _ => t4 (flat_of 3 a oa) (flat_of 3 b ob)⟩
    · exact ⟨none, Ev.bind (specValueOk_ev a sa) (Ev.pos oa (Ev.bind (specValueOk_ev b sb) (Ev.neg ob (Ev.some _)))),
        Ev.bind (implValueOk_ev a sa) (Ev.pos oa (Ev.bind (implValueOk_ev b sb) (Ev.neg ob (Ev.some _)))),
        Ev.bind (implValueOk_ev b sb) (Ev.neg ob (Ev.some _)), fun _ h => absurd h ob⟩
  · refine ⟨none, Ev.bind (specValueOk_ev a sa) (Ev.neg oa (Ev.some _)), Ev.bind (implValueOk_ev a sa) (Ev.neg oa (Ev.some _)), Ev.bind (implValueOk_ev b sb) (Ev.ite (fun ob => Ev.bind (implValueOk_ev a sa) (Ev.neg oa (Ev.some _))) (fun ob => Ev.some _)), fun h => absurd h oa⟩
theorem asNull_ev {v : IV} (sm : Sm v) : ∃ r, Ev (fun k => laws_asNull.f k v.f0 v.f1 v.f2 v.f3) r ∧ (r = true ↔ Nul v) := by
  induction sm with
  | @mk x h2 h3 h4 ih =>
    have loop : ∀ (d i : Nat), x.f3.length = i + d → ∃ r, Ev (fun k => laws_asNull.l0 k (i : Int) x.f0 x.f1 x.f2 x.f3) r ∧ (r = true ↔ x.f0 = 0 ∨ ∃ j, ∃ h : j < x.f3.length, i ≤ j ∧ Nul x.f3[j]) := by
      intro d
      induction d with
      | zero =>
        intro i hi
        refine ⟨x.f0 == 0, Ev.succ ?_, ?_⟩
        · simp only [laws_asNull.l0]
          exact Ev.neg (by omega) (Ev.some _)
        · simp only [beq_iff_eq]
          exact ⟨fun h => .inl h, fun h => h.elim id (fun ⟨j, hj, hij, _⟩ => by omega)⟩
      | succ d ihd =>
        intro i hi
        have hlt : i < x.f3.length := by omega
        obtain ⟨r, hr, hp⟩ := ih x.f3[i] (List.getElem_mem hlt)
        obtain ⟨q, hq, hp'⟩ := ihd (i + 1) (by omega)
        by_cases hn : r = true
        · refine ⟨true, Ev.succ ?_, ⟨fun _ => .inr ⟨i, hlt, Nat.le_refl _, hp.1 hn⟩, fun _ => rfl⟩⟩
          simp only [laws_asNull.l0, if_pos (show (i : Int) < (x.f3.length : Int) by omega), if_pos (show 0 ≤ (i : Int) by omega), rd_iv hlt]
          refine Ev.bind hr ?_
          simp only [if_pos hn]
          exact Ev.some _
        · refine ⟨q, Ev.succ ?_, ?_⟩
          · simp only [laws_asNull.l0, if_pos (show (i : Int) < (x.f3.length : Int) by omega), if_pos (show 0 ≤ (i : Int) by omega), rd_iv hlt]
            refine Ev.bind hr ?_
            simp only [if_neg hn, wrap64_succ hlt (show x.f3.length ≤ 9223372036854775807 by omega)]
            exact hq
          · rw [hp']
            constructor
            · rintro (h | ⟨j, hj, hij, h⟩)
              · exact .inl h
              · exact .inr ⟨j, hj, by omega, h⟩
            · rintro (h | ⟨j, hj, hij, h⟩)
              · exact .inl h
              · refine .inr ⟨j, hj, ?_, h⟩
                by_cases e : i = j
                · subst e; exact absurd (hp.2 h) hn
                · omega
    obtain ⟨r, hr, hp⟩ := loop x.f3.length 0 (by omega)
    refine ⟨r, Ev.succ ?_, ?_⟩
    · simp only [laws_asNull.f]
      exact hr
    · rw [hp]
      constructor
      · rintro (h | ⟨j, hj, _, h⟩)
        · exact .here h
        · exact .sub (List.getElem_mem hj) h
      · intro h
        cases h with
        | here h => exact .inl h
        | sub hy h =>
          obtain ⟨j, hj, rfl⟩ := List.getElem_of_mem hy
          exact .inr ⟨j, hj, Nat.zero_le _, h⟩
end Go.Proofs.Ytejikddbdhahaaa.Pur
