/- Names: what the program's and the reference's NameOk say of a text, in plain terms. -/
import Derived.Test.YtcchmhmbjhgfdaaPIn
import Derived.Test.YtcchmhmbjhgfdaaGx12
import Derived.Test.YtcchmhmbjhgfdaaGx17
import Derived.Test.YtcchmhmbjhgfdaaGx16
namespace Go.Proofs.Ytcchmhmbjhgfdaa.Pur
open Go.RowKit Go.Proofs.Ytcchmhmbjhgfdaa.G Go.Proofs.YtcchmhmbjhgfdaaW.PrintWords Go.Proofs.YtcchmhmbjhgfdaaW.PrintLast
set_option linter.unusedVariables false
set_option linter.unusedSimpArgs false

/-- A letter; a figure. -/
def letB (c : Int) : Bool := (decide (97 ≤ c) && decide (c ≤ 122)) || (decide (65 ≤ c) && decide (c ≤ 90))
def figB (c : Int) : Bool := decide (48 ≤ c) && decide (c ≤ 57)
theorem l2Letter_eq (c : Int) : spec_l2Letter.f c = some (letB c) := by
  unfold spec_l2Letter.f letB
  by_cases h1 : 97 ≤ c <;> by_cases h2 : c ≤ 122 <;> by_cases h3 : 65 ≤ c <;> by_cases h4 : c ≤ 90 <;> simp [h1, h2, h3, h4]
theorem isLetter_eq (c : Int) : impl_isLetter.f c = some (letB c) := l2Letter_eq c
theorem isFigure_eq (c : Int) : impl_isFigure.f c = some (figB c) := by
  unfold impl_isFigure.f figB
  by_cases h1 : 48 ≤ c <;> simp [h1]

/-- The language's own words. -/
def kept : List (List UInt8) := [[77, 65, 84, 67, 72], [79, 80, 84, 73, 79, 78, 65, 76], [87, 72, 69, 82, 69], [85, 78, 87, 73, 78, 68], [87, 73, 84, 72], [82, 69, 84, 85, 82, 78], [67, 82, 69, 65, 84, 69], [83, 69, 84], [68, 69, 76, 69, 84, 69], [68, 69, 84, 65, 67, 72], [65, 83], [65, 78, 68], [79, 82], [78, 79, 84], [73, 83], [78, 85, 76, 76], [73, 78], [68, 73, 83, 84, 73, 78, 67, 84], [79, 82, 68, 69, 82], [66, 89], [68, 69, 83, 67], [83, 75, 73, 80], [76, 73, 77, 73, 84], [110, 117, 108, 108], [116, 114, 117, 101], [102, 97, 108, 115, 101], [99, 111, 117, 110, 116], [115, 117, 109], [115, 105, 122, 101]]
/-- From place i on: letters, or figures that are not the first. -/
def tailB (s : ByteArray) (i : Nat) : Bool := (List.range (s.size - i)).all fun j => letB (bt s ((i + j : Nat) : Int)) || (decide (i + j ≠ 0) && figB (bt s ((i + j : Nat) : Int)))
def nameB (s : ByteArray) : Bool := tailB s 0 && decide (1 ≤ s.size) && decide (s.size ≤ 8) && !(kept.contains s.toList)
theorem tailB_step (s : ByteArray) (i : Nat) (h : i < s.size) : tailB s i = ((letB (bt s (i : Int)) || (decide (i ≠ 0) && figB (bt s (i : Int)))) && tailB s (i + 1)) := by
  unfold tailB
  obtain ⟨m, hm⟩ : ∃ m, s.size - i = m + 1 := ⟨s.size - i - 1, by omega⟩
  rw [hm, show s.size - (i + 1) = m by omega, List.range_succ_eq_map]
  simp only [List.all_cons, List.all_map, Nat.add_zero]
  congr 1
  apply congrArg
  funext j
  simp only [Function.comp]
  rw [show i + (j + 1) = i + 1 + j by omega]
theorem tailB_end (s : ByteArray) (i : Nat) (h : s.size ≤ i) : tailB s i = true := by
  unfold tailB
  rw [show s.size - i = 0 by omega]
  rfl

theorem kept_loop (s : ByteArray) (l : List ByteArray) (hl : l.length ≤ 1000) : ∀ (d i : Nat), l.length = i + d → Ev (fun k => spec_l2Kept.l0 k s l (i : Int)) (((l.drop i).map (·.toList)).contains s.toList) := by
  intro d
  induction d with
  | zero =>
    intro i hi
    refine Ev.step (fun k => spec_l2Kept.l0.eq_2 _ _ _ k) ?_
    rw [List.drop_of_length_le (by omega)]
    simp only [if_neg (show ¬ ((i : Int) < (l.length : Int)) by omega)]
    exact Ev.some _
  | succ d ih =>
    intro i hi
    refine Ev.step (fun k => spec_l2Kept.l0.eq_2 _ _ _ k) ?_
    have hlt : i < l.length := by omega
    have hd : (l.drop i).map (·.toList) = l[i].toList :: (l.drop (i + 1)).map (·.toList) := by rw [List.drop_eq_getElem_cons hlt]; rfl
    rw [hd, List.contains_cons]
    simp only [if_pos (show ((i : Int) < (l.length : Int)) by omega), if_pos (show 0 ≤ (i : Int) by omega)]
    have hr : rdOf ByteArray.empty l (i : Int) = l[i] := by
      unfold rdOf
      simp [List.getD_eq_getElem?_getD, hlt]
    rw [hr]
    refine Ev.ite (fun h => ?_) (fun h => ?_)
    · have e : (s.toList == l[i].toList) = true := beq_iff_eq.2 h.symm
      exact Ev.eq (Ev.some _) (by rw [e, Bool.true_or])
    · rw [wrap64_id (by omega) (by omega)]
      refine Ev.eq (ih (i + 1) (by omega)) ?_
      have e : (s.toList == l[i].toList) = false := beq_eq_false_iff_ne.2 (fun e => h e.symm)
      rw [e, Bool.false_or]
theorem kept_ev (s : ByteArray) : Ev (fun k => spec_l2Kept.f k s) (kept.contains s.toList) := by
  have h := kept_loop s (([(⟨#[77, 65, 84, 67, 72]⟩ : ByteArray), (⟨#[79, 80, 84, 73, 79, 78, 65, 76]⟩ : ByteArray), (⟨#[87, 72, 69, 82, 69]⟩ : ByteArray), (⟨#[85, 78, 87, 73, 78, 68]⟩ : ByteArray), (⟨#[87, 73, 84, 72]⟩ : ByteArray), (⟨#[82, 69, 84, 85, 82, 78]⟩ : ByteArray), (⟨#[67, 82, 69, 65, 84, 69]⟩ : ByteArray), (⟨#[83, 69, 84]⟩ : ByteArray), (⟨#[68, 69, 76, 69, 84, 69]⟩ : ByteArray), (⟨#[68, 69, 84, 65, 67, 72]⟩ : ByteArray), (⟨#[65, 83]⟩ : ByteArray), (⟨#[65, 78, 68]⟩ : ByteArray), (⟨#[79, 82]⟩ : ByteArray), (⟨#[78, 79, 84]⟩ : ByteArray), (⟨#[73, 83]⟩ : ByteArray), (⟨#[78, 85, 76, 76]⟩ : ByteArray), (⟨#[73, 78]⟩ : ByteArray), (⟨#[68, 73, 83, 84, 73, 78, 67, 84]⟩ : ByteArray), (⟨#[79, 82, 68, 69, 82]⟩ : ByteArray), (⟨#[66, 89]⟩ : ByteArray), (⟨#[68, 69, 83, 67]⟩ : ByteArray), (⟨#[83, 75, 73, 80]⟩ : ByteArray), (⟨#[76, 73, 77, 73, 84]⟩ : ByteArray), (⟨#[110, 117, 108, 108]⟩ : ByteArray), (⟨#[116, 114, 117, 101]⟩ : ByteArray), (⟨#[102, 97, 108, 115, 101]⟩ : ByteArray), (⟨#[99, 111, 117, 110, 116]⟩ : ByteArray), (⟨#[115, 117, 109]⟩ : ByteArray), (⟨#[115, 105, 122, 101]⟩ : ByteArray)] : List ByteArray)) (by decide) 29 0 rfl
  refine Ev.eq h (congrArg (fun z => List.contains z s.toList) ?_)
  simp only [List.drop_zero, List.map_cons, List.map_nil, ByteArray.toList_eq]
  rfl
theorem l2Name_loop (s : ByteArray) (hs : s.size ≤ maxLen) : ∀ (d i : Nat), s.size = i + d → Ev (fun k => spec_l2Name.l0 k s (i : Int)) (tailB s i && decide (1 ≤ s.size) && decide (s.size ≤ 8) && !(kept.contains s.toList)) := by
  unfold maxLen at hs
  intro d
  induction d with
  | zero =>
    intro i hi
    refine Ev.step (fun k => spec_l2Name.l0.eq_2 _ _ k) ?_
    simp only [if_neg (show ¬ ((i : Int) < (s.size : Int)) by omega), l1In_eq, Option.bind_some, tailB_end s i (by omega)]
    refine Ev.ite (fun h => ?_) (fun h => ?_)
    · refine Ev.bind (kept_ev s) (Ev.eq (Ev.some _) ?_)
      simp at h
      simp
      omega
    · refine Ev.eq (Ev.some _) ?_
      simp at h
      simp
      omega
  | succ d ih =>
    intro i hi
    refine Ev.step (fun k => spec_l2Name.l0.eq_2 _ _ k) ?_
    have hlt : i < s.size := by omega
    have e1 : wrap64 ((i : Int) + 1) = ((i + 1 : Nat) : Int) := by rw [wrap64_id (by omega) (by omega)]; omega
    simp only [if_pos (show ((i : Int) < (s.size : Int)) by omega), if_pos (show 0 ≤ (i : Int) by omega), l2Letter_eq, Option.bind_some, tailB_step s i hlt, e1]
    refine Ev.ite (fun h => ?_) (fun h => ?_)
    · exact Ev.eq (ih (i + 1) (by omega)) (by simp [h])
    · refine Ev.ite (fun h1 => Ev.eq (Ev.some _) (by have h0 : i = 0 := by omega
                                                     subst h0; simp at h; simp [h])) (fun h1 => ?_)
      refine Ev.ite (fun h2 => Ev.eq (Ev.some _) (by have : figB (bt s (i : Int)) = false := by unfold figB; simp; omega
                                                     simp [h, this])) (fun h2 => ?_)
      refine Ev.ite (fun h3 => Ev.eq (Ev.some _) (by have : figB (bt s (i : Int)) = false := by unfold figB; simp; omega
                                                     simp [h, this])) (fun h3 => ?_)
      have hf : figB (bt s (i : Int)) = true := by unfold figB; simp; omega
      have h0 : i ≠ 0 := by omega
      exact Ev.eq (ih (i + 1) (by omega)) (by simp [h, hf, h0])
theorem l2Name_ev (s : ByteArray) (hs : s.size ≤ maxLen) : Ev (fun k => spec_l2Name.f k s) (nameB s) := l2Name_loop s hs s.size 0 (by omega)
theorem name_loop (s : ByteArray) (hs : s.size ≤ maxLen) : ∀ (d i : Nat), s.size = i + d → 1 ≤ i → Ev (fun k => impl_NameOk.l0 k s (i : Int)) (tailB s i && !(kept.contains s.toList)) := by
  unfold maxLen at hs
  intro d
  induction d with
  | zero =>
    intro i hi h1
    refine Ev.step (fun k => impl_NameOk.l0.eq_2 _ _ k) ?_
    simp only [if_neg (show ¬ ((i : Int) < (s.size : Int)) by omega), tailB_end s i (by omega)]
    generalize s.toList = t
    unfold kept
    repeat (refine Ev.ite (fun h => Ev.eq (Ev.some _) (by subst h; rfl)) (fun h => ?_))
    refine Ev.eq (Ev.some _) ?_
    simp_all
  | succ d ih =>
    intro i hi h1
    refine Ev.step (fun k => impl_NameOk.l0.eq_2 _ _ k) ?_
    have hlt : i < s.size := by omega
    have e1 : wrap64 ((i : Int) + 1) = ((i + 1 : Nat) : Int) := by rw [wrap64_id (by omega) (by omega)]; omega
    have h0 : i ≠ 0 := by omega
    simp only [if_pos (show ((i : Int) < (s.size : Int)) by omega), if_pos (show 0 ≤ (i : Int) by omega), isLetter_eq, isFigure_eq, Option.bind_some, tailB_step s i hlt, e1]
    refine Ev.ite (fun h => ?_) (fun h => ?_)
    · exact Ev.eq (ih (i + 1) (by omega) (by omega)) (by simp [h])
    · refine Ev.ite (fun h2 => ?_) (fun h2 => ?_)
      · exact Ev.eq (ih (i + 1) (by omega) (by omega)) (by simp [h2, h0])
      · exact Ev.eq (Ev.some _) (by simp [h, h2])
theorem name_join (s : ByteArray) (hs : s.size ≤ maxLen) (b : Bool) (h0 : b = false → 1 ≤ s.size) : Ev (fun k => impl_NameOk.j0 k s b) (!b && (tailB s 1 && !(kept.contains s.toList))) := by
  refine Ev.step (fun k => impl_NameOk.j0.eq_2 _ _ k) ?_
  cases b with
  | true => simp only [if_true]; exact Ev.some _
  | false =>
    have := h0 rfl
    simp only [Bool.false_eq_true, if_false]
    exact Ev.eq (name_loop s hs (s.size - 1) 1 (by omega) (Nat.le_refl _)) (by simp)
theorem nameOk_ev (s : ByteArray) (hs : s.size ≤ maxLen) : Ev (fun k => impl_NameOk.f k s) (nameB s) := by
  unfold impl_NameOk.f nameB
  refine Ev.ite (fun h => ?_) (fun h => ?_)
  · refine Ev.eq (name_join s hs true (by simp)) ?_
    have := (toList_nil s).1 h
    simp [this]
  · have hn : 1 ≤ s.size := by
      have : ¬ s.size = 0 := fun e => h ((toList_nil s).2 e)
      omega
    refine Ev.ite (fun h8 => ?_) (fun h8 => ?_)
    · refine Ev.eq (name_join s hs true (by simp)) ?_
      have : ¬ s.size ≤ 8 := by omega
      simp [this]
    · simp only [if_pos (show (0 : Int) < (s.size : Int) by omega), isLetter_eq, Option.bind_some]
      refine Ev.eq (name_join s hs _ (fun _ => hn)) ?_
      have h8' : s.size ≤ 8 := by omega
      have h := tailB_step s 0 (by omega)
      have e0 : ((0 : Nat) : Int) = 0 := rfl
      rw [e0] at h
      simp [h, hn, h8', Bool.and_assoc]
end Go.Proofs.Ytcchmhmbjhgfdaa.Pur
