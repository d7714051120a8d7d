import Derived.Test.YtcchmhmbjhgfdaaY24
import Derived.Test.YtcchmhmbjhgfdaaY10
import Derived.Test.YtcchmhmbjhgfdaaY17
import Derived.Test.YtcchmhmbjhgfdaaY11
import Derived.Test.YtcchmhmbjhgfdaaY18
import Derived.Test.YtcchmhmbjhgfdaaY13
import Derived.Test.YtcchmhmbjhgfdaaY20
namespace Go.Proofs.Ytcchmhmbjhgfdaa.Pur
open Go.RowKit Go.Proofs.Ytcchmhmbjhgfdaa.G Go.Proofs.YtcchmhmbjhgfdaaW.PrintWords Go.Proofs.YtcchmhmbjhgfdaaW.PrintLast
set_option linter.unusedVariables false
set_option linter.unusedSimpArgs false
def letB (c : Int) : Bool := (decide (97 ≤ c) && decide (c ≤ 122)) || (decide (65 ≤ c) && decide (c ≤ 90))
def figB (c : Int) : Bool := decide (48 ≤ c) && decide (c ≤ 57)
theorem l2Letter_eq (c : Int) : spec_l2Letter.f c = some (letB c) := by
  unfold spec_l2Letter.f letB
  by_cases h1 : 97 ≤ c <;> by_cases h2 : c ≤ 122 <;> by_cases h3 : 65 ≤ c <;> by_cases h4 : c ≤ 90 <;> simp [h1, h2, h3, h4]
theorem isLetter_eq (c : Int) : impl_isLetter.f c = some (letB c) := l2Letter_eq c
theorem isFigure_eq (c : Int) : impl_isFigure.f c = some (figB c) := by
  unfold impl_isFigure.f figB
  by_cases h1 : 48 ≤ c <;> simp [h1]
def kept : List (List UInt8) := [[77, 65, 84, 67, 72], [79, 80, 84, 73, 79, 78, 65, 76], [87, 72, 69, 82, 69], [85, 78, 87, 73, 78, 68], [87, 73, 84, 72], [82, 69, 84, 85, 82, 78], [67, 82, 69, 65, 84, 69], [83, 69, 84], [68, 69, 76, 69, 84, 69], [68, 69, 84, 65, 67, 72], [65, 83], [65, 78, 68], [79, 82], [78, 79, 84], [73, 83], [78, 85, 76, 76], [73, 78], [68, 73, 83, 84, 73, 78, 67, 84], [79, 82, 68, 69, 82], [66, 89], [68, 69, 83, 67], [83, 75, 73, 80], [76, 73, 77, 73, 84], [110, 117, 108, 108], [116, 114, 117, 101], [102, 97, 108, 115, 101], [99, 111, 117, 110, 116], [115, 117, 109], [115, 105, 122, 101]]
def tailB (s : ByteArray) (i : Nat) : Bool := (List.range (s.size - i)).all fun j => letB (bt s ((i + j : Nat) : Int)) || (decide (i + j ≠ 0) && figB (bt s ((i + j : Nat) : Int)))
def nameB (s : ByteArray) : Bool := tailB s 0 && decide (1 ≤ s.size) && decide (s.size ≤ 8) && !(kept.contains s.toList)
theorem tailB_step (s : ByteArray) (i : Nat) (h : i < s.size) : tailB s i = ((letB (bt s (i : Int)) || (decide (i ≠ 0) && figB (bt s (i : Int)))) && tailB s (i + 1)) := by
  unfold tailB
  obtain ⟨m, hm⟩ : ∃ m, s.size - i = m + 1 := ⟨s.size - i - 1, by omega⟩
  rw [hm, show s.size - (i + 1) = m by omega, List.range_succ_eq_map]
  simp only [List.all_cons, List.all_map, Nat.add_zero]
  congr 1
  apply congrArg
  funext j
  simp only [Function.comp]
  rw [show i + (j + 1) = i + 1 + j by omega]
theorem tailB_end (s : ByteArray) (i : Nat) (h : s.size ≤ i) : tailB s i = true := by
  unfold tailB
  rw [show s.size - i = 0 by omega]
  rfl
theorem kept_loop (s : ByteArray) (l : List ByteArray) (hl : l.length ≤ 1000) : ∀ (d i : Nat), l.length = i + d → Ev (fun k => spec_l2Kept.l0 k s l (i : Int)) (((l.drop i).map (·.toList)).contains s.toList) := by
  intro d
  induction d with
  | zero =>
    intro i hi
    refine Ev.step (fun k => spec_l2Kept.l0.eq_2 _ _ _ k) ?_
    rw [List.drop_of_length_le (by omega)]
    simp only [if_neg (show ¬ ((i : Int) < (l.length : Int)) by omega)]
    exact Ev.some _
  | succ d ih =>
    intro i hi
    refine Ev.step (fun k => spec_l2Kept.l0.eq_2 _ _ _ k) ?_
    have hlt : i < l.length := by omega
    have hd : (l.drop i).map (·.toList) = l[i].toList :: (l.drop (i + 1)).map (·.toList) := by rw [List.drop_eq_getElem_cons hlt]; rfl
    rw [hd, List.contains_cons]
    simp only [if_pos (show ((i : Int) < (l.length : Int)) by omega), if_pos (show 0 ≤ (i : Int) by omega)]
    have hr : rdOf ByteArray.empty l (i : Int) = l[i] := by
      unfold rdOf
      simp [List.getD_eq_getElem?_getD, hlt]
    rw [hr]
    refine Ev.ite (fun h => ?_) (fun h => ?_)
    · have e : (s.toList == l[i].toList) = true := beq_iff_eq.2 h.symm
      exact Ev.eq (Ev.some _) (by rw [e, Bool.true_or])
    · rw [wrap64_id (by omega) (by omega)]
      refine Ev.eq (ih (i + 1) (by omega)) ?_
      have e : (s.toList == l[i].toList) = false := beq_eq_false_iff_ne.2 (fun e => h e.symm)
      rw [e, Bool.false_or]
theorem kept_ev (s : ByteArray) : Ev (fun k => spec_l2Kept.f k s) (kept.contains s.toList) := by
  have h := kept_loop s (([(⟨#[77, 65, 84, 67, 72]⟩ : ByteArray), (⟨#[79, 80, 84, 73, 79, 78, 65, 76]⟩ : ByteArray), (⟨#[87, 72, 69, 82, 69]⟩ : ByteArray), (⟨#[85, 78, 87, 73, 78, 68]⟩ : ByteArray), (⟨#[87, 73, 84, 72]⟩ : ByteArray), (⟨#[82, 69, 84, 85, 82, 78]⟩ : ByteArray), (⟨#[67, 82, 69, 65, 84, 69]⟩ : ByteArray), (⟨#[83, 69, 84]⟩ : ByteArray), (⟨#[68, 69, 76, 69, 84, 69]⟩ : ByteArray), (⟨#[68, 69, 84, 65, 67, 72]⟩ : ByteArray), (⟨#[65, 83]⟩ : ByteArray), (⟨#[65, 78, 68]⟩ : ByteArray), (⟨#[79, 82]⟩ : ByteArray), (⟨#[78, 79, 84]⟩ : ByteArray), (⟨#[73, 83]⟩ : ByteArray), (⟨#[78, 85, 76, 76]⟩ : ByteArray), (⟨#[73, 78]⟩ : ByteArray), (⟨#[68, 73, 83, 84, 73, 78, 67, 84]⟩ : ByteArray), (⟨#[79, 82, 68, 69, 82]⟩ : ByteArray), (⟨#[66, 89]⟩ : ByteArray), (⟨#[68, 69, 83, 67]⟩ : ByteArray), (⟨#[83, 75, 73, 80]⟩ : ByteArray), (⟨#[76, 73, 77, 73, 84]⟩ : ByteArray), (⟨#[110, 117, 108, 108]⟩ : ByteArray), (⟨#[116, 114, 117, 101]⟩ : ByteArray), (⟨#[102, 97, 108, 115, 101]⟩ : ByteArray), (⟨#[99, 111, 117, 110, 116]⟩ : ByteArray), (⟨#[115, 117, 109]⟩ : ByteArray), (⟨#[115, 105, 122, 101]⟩ : ByteArray)] : List ByteArray)) (by decide) 29 0 rfl
  refine Ev.eq h (congrArg (fun z => List.contains z s.toList) ?_)
  simp only [List.drop_zero, List.map_cons, List.map_nil, ByteArray.toList_eq]
  rfl
theorem l2Name_loop (s : ByteArray) (hs : s.size ≤ maxLen) : ∀ (d i : Nat), s.size = i + d → Ev (fun k => spec_l2Name.l0 k s (i : Int)) (tailB s i && decide (1 ≤ s.size) && decide (s.size ≤ 8) && !(kept.contains s.toList)) := by
  unfold maxLen at hs
  intro d
  induction d with
  | zero =>
    intro i hi
    refine Ev.step (fun k => spec_l2Name.l0.eq_2 _ _ k) ?_
    simp only [if_neg (show ¬ ((i : Int) < (s.size : Int)) by omega), l1In_eq, Option.bind_some, tailB_end s i (by omega)]
    refine Ev.ite (fun h => ?_) (fun h => ?_)
    · refine Ev.bind (kept_ev s) (Ev.eq (Ev.some _) ?_)
      simp at h
      simp
      omega
    · refine Ev.eq (Ev.some _) ?_
      simp at h
      simp
      omega
  | succ d ih =>
    intro i hi
    refine Ev.step (fun k => spec_l2Name.l0.eq_2 _ _ k) ?_
    have hlt : i < s.size := by omega
    have e1 : wrap64 ((i : Int) + 1) = ((i + 1 : Nat) : Int) := by rw [wrap64_id (by omega) (by omega)]; omega
    simp only [if_pos (show ((i : Int) < (s.size : Int)) by omega), if_pos (show 0 ≤ (i : Int) by omega), l2Letter_eq, Option.bind_some, tailB_step s i hlt, e1]
    refine Ev.ite (fun h => ?_) (fun h => ?_)
    · exact Ev.eq (ih (i + 1) (by omega)) (by simp [h])
    · refine Ev.ite (fun h1 => Ev.eq (Ev.some _) (by have h0 : i = 0 := by omega
                                                     subst h0; simp at h; simp [h])) (fun h1 => ?_)
      refine Ev.ite (fun h2 => Ev.eq (Ev.some _) (by have : figB (bt s (i : Int)) = false := by unfold figB; simp; omega
                                                     simp [h, this])) (fun h2 => ?_)
      refine Ev.ite (fun h3 => Ev.eq (Ev.some _) (by have : figB (bt s (i : Int)) = false := by unfold figB; simp; omega
                                                     simp [h, this])) (fun h3 => ?_)
      have hf : figB (bt s (i : Int)) = true := by unfold figB; simp; omega
      have h0 : i ≠ 0 := by omega
      exact Ev.eq (ih (i + 1) (by omega)) (by simp [h, hf, h0])
theorem l2Name_ev (s : ByteArray) (hs : s.size ≤ maxLen) : Ev (fun k => spec_l2Name.f k s) (nameB s) := l2Name_loop s hs s.size 0 (by omega)
theorem name_loop (s : ByteArray) (hs : s.size ≤ maxLen) : ∀ (d i : Nat), s.size = i + d → 1 ≤ i → Ev (fun k => impl_NameOk.l0 k s (i : Int)) (tailB s i && !(kept.contains s.toList)) := by
  unfold maxLen at hs
  intro d
  induction d with
  | zero =>
    intro i hi h1
    refine Ev.step (fun k => impl_NameOk.l0.eq_2 _ _ k) ?_
    simp only [if_neg (show ¬ ((i : Int) < (s.size : Int)) by omega), tailB_end s i (by omega)]
    generalize s.toList = t
    unfold kept
    repeat (refine Ev.ite (fun h => Ev.eq (Ev.some _) (by subst h; rfl)) (fun h => ?_))
    refine Ev.eq (Ev.some _) ?_
    simp_all
  | succ d ih =>
    intro i hi h1
    refine Ev.step (fun k => impl_NameOk.l0.eq_2 _ _ k) ?_
    have hlt : i < s.size := by omega
    have e1 : wrap64 ((i : Int) + 1) = ((i + 1 : Nat) : Int) := by rw [wrap64_id (by omega) (by omega)]; omega
    have h0 : i ≠ 0 := by omega
    simp only [if_pos (show ((i : Int) < (s.size : Int)) by omega), if_pos (show 0 ≤ (i : Int) by omega), isLetter_eq, isFigure_eq, Option.bind_some, tailB_step s i hlt, e1]
    refine Ev.ite (fun h => ?_) (fun h => ?_)
    · exact Ev.eq (ih (i + 1) (by omega) (by omega)) (by simp [h])
    · refine Ev.ite (fun h2 => ?_) (fun h2 => ?_)
      · exact Ev.eq (ih (i + 1) (by omega) (by omega)) (by simp [h2, h0])
      · exact Ev.eq (Ev.some _) (by simp [h, h2])
theorem name_join (s : ByteArray) (hs : s.size ≤ maxLen) (b : Bool) (h0 : b = false → 1 ≤ s.size) : Ev (fun k => impl_NameOk.j0 k s b) (!b && (tailB s 1 && !(kept.contains s.toList))) := by
  refine Ev.step (fun k => impl_NameOk.j0.eq_2 _ _ k) ?_
  cases b with
  | true => simp only [if_true]; exact Ev.some _
  | false =>
    have := h0 rfl
    simp only [Bool.false_eq_true, if_false]
    exact Ev.eq (name_loop s hs (s.size - 1) 1 (by omega) (Nat.le_refl _)) (by simp)
theorem nameOk_ev (s : ByteArray) (hs : s.size ≤ maxLen) : Ev (fun k => impl_NameOk.f k s) (nameB s) := by
  unfold impl_NameOk.f nameB
  refine Ev.ite (fun h => ?_) (fun h => ?_)
  · refine Ev.eq (name_join s hs true (by simp)) ?_
    have := (toList_nil s).1 h
    simp [this]
  · have hn : 1 ≤ s.size := by
      have : ¬ s.size = 0 := fun e => h ((toList_nil s).2 e)
      omega
    refine Ev.ite (fun h8 => ?_) (fun h8 => ?_)
    · refine Ev.eq (name_join s hs true (by simp)) ?_
      have : ¬ s.size ≤ 8 := by omega
      simp [this]
    · simp only [if_pos (show (0 : Int) < (s.size : Int) by omega), isLetter_eq, Option.bind_some]
      refine Ev.eq (name_join s hs _ (fun _ => hn)) ?_
      have h8' : s.size ≤ 8 := by omega
      have h := tailB_step s 0 (by omega)
      have e0 : ((0 : Nat) : Int) = 0 := rfl
      rw [e0] at h
      simp [h, hn, h8', Bool.and_assoc]
end Go.Proofs.Ytcchmhmbjhgfdaa.Pur
namespace Go.Proofs.Ytcchmhmbjhgfdaa.Pur
open Go.RowKit Go.Proofs.Ytcchmhmbjhgfdaa.G Go.Proofs.YtcchmhmbjhgfdaaW.PrintWords Go.Proofs.YtcchmhmbjhgfdaaW.PrintLast
set_option linter.unusedVariables false
set_option linter.unusedSimpArgs false
def charB (c : Int) : Bool := decide (32 ≤ c) && decide (c ≤ 126) && decide (c ≠ 39)
def textB (s : ByteArray) : Bool := allB (fun i => charB (bt s (i : Int))) s.size 0 && decide (s.size ≤ 16)
def vok : Nat → IV → Bool
  | 0, _ => false
  | n + 1, v =>
    if v.f0 = 0 then decide (v.f1 = 0) && decide (v.f2.size = 0) && decide (v.f3.length = 0)
    else if v.f0 = 1 then decide (0 ≤ v.f1) && decide (v.f1 ≤ 1) && decide (v.f2.size = 0) && decide (v.f3.length = 0)
    else if v.f0 = 2 then decide (-1000000000 ≤ v.f1) && decide (v.f1 ≤ 1000000000) && decide (v.f2.size = 0) && decide (v.f3.length = 0)
    else if v.f0 = 3 then decide (v.f1 = 0) && textB v.f2 && decide (v.f3.length = 0)
    else if v.f0 = 4 then decide (v.f1 = 0) && decide (v.f2.size = 0) && decide (v.f3.length ≤ 6) && v.f3.all (vok n)
    else if v.f0 = 5 ∨ v.f0 = 6 then decide (0 ≤ v.f1) && decide (v.f1 ≤ 1000000000) && decide (v.f2.size = 0) && decide (v.f3.length = 0)
    else false
theorem text_loop (s : ByteArray) (hs : s.size ≤ maxLen) (e : Bool) (L : Nat → Int → Option Bool)
    (hend : Ev (fun k => L k (s.size : Int)) e)
    (hL : ∀ k (i : Nat), i < s.size → L (k + 1) i = if bt s (i : Int) < 32 then some false else if bt s (i : Int) > 126 then some false else if bt s (i : Int) = 39 then some false else L k ((i + 1 : Nat) : Int)) :
    Ev (fun k => L k 0) (allB (fun i => charB (bt s (i : Int))) s.size 0 && e) := by
  refine loopB s.size L _ e hend ?_ ?_ s.size 0 (by omega)
  · intro i hi hc
    refine Ev.succ ?_
    simp only [hL _ i hi]
    refine Ev.ite (fun _ => Ev.some _) (fun h1 => Ev.ite (fun _ => Ev.some _) (fun h2 => Ev.ite (fun _ => Ev.some _) (fun h3 => ?_)))
    exfalso
    unfold charB at hc
    simp at hc
    omega
  · intro i hi hc r hr
    refine Ev.succ ?_
    simp only [hL _ i hi]
    unfold charB at hc
    simp at hc
    exact Ev.neg (by omega) (Ev.neg (by omega) (Ev.neg (by omega) hr))
theorem l1Text_ev (s : ByteArray) (hs : s.size ≤ maxLen) : Ev (fun k => spec_l1Text.f k s) (textB s) := by
  have hs' := hs
  unfold maxLen at hs'
  refine text_loop s hs _ (fun k i => spec_l1Text.l0 k s i) ?_ (fun k i h => ?_)
  · refine Ev.succ ?_
    simp only [spec_l1Text.l0]
    refine Ev.neg (by omega) ?_
    exact Ev.eq (Ev.some _) (by rw [Bool.eq_iff_iff]; simp; omega)
  · simp only [spec_l1Text.l0]
    rw [if_pos (by omega), if_pos (by omega), wrap64_succ h (by omega)]
theorem textFits_ev (s : ByteArray) (hs : s.size ≤ maxLen) : Ev (fun k => impl_textFits.f k s) (textB s) := by
  have hs' := hs
  unfold maxLen at hs'
  unfold impl_textFits.f textB
  refine Ev.ite (fun h => Ev.eq (Ev.some _) (by have : ¬ s.size ≤ 16 := by omega
                                                simp [this])) (fun h => ?_)
  have : decide (s.size ≤ 16) = true := decide_eq_true (by omega)
  rw [this]
  refine text_loop s hs _ (fun k i => impl_textFits.l0 k s i) ?_ (fun k i h => ?_)
  · refine Ev.succ ?_
    simp only [impl_textFits.l0]
    refine Ev.neg (by omega) ?_
    exact Ev.some _
  · simp only [impl_textFits.l0]
    rw [if_pos (by omega), if_pos (by omega), wrap64_succ h (by omega)]
theorem all_drop (l : List IV) (c : IV → Bool) : l.all c = allB (fun i => c (rd_T49 l i)) l.length 0 := by
  rw [Bool.eq_iff_iff, allB_iff, List.all_eq_true]
  constructor
  · intro h j _ hj
    rw [rd_iv (by omega)]
    exact h _ (List.getElem_mem _)
  · intro h x hx
    obtain ⟨j, hj, rfl⟩ := List.getElem_of_mem hx
    have := h j (by omega) (by omega)
    rwa [rd_iv hj] at this
theorem size_nil {s : ByteArray} : (s.toList = ([] : List UInt8)) = (s.size = 0) := propext (toList_nil s)
theorem valueFits_ev : ∀ (n : Nat) (v : IV), Sm v → n ≤ 1000 → Ev (fun k => impl_valueFits.f k v.f0 v.f1 v.f2 v.f3 (n : Int)) (vok n v) := by
  intro n
  induction n with
  | zero =>
    intro v _ _
    refine Ev.succ ?_
    simp only [impl_valueFits.f]
    exact Ev.some _
  | succ n ih =>
    intro v sm hn
    obtain ⟨h2, h3, h4⟩ := sm.all
    have loop : Ev (fun k => impl_valueFits.l0 k ((n + 1 : Nat) : Int) v.f3 (v.f3.length : Int) 0) (v.f3.all (vok n)) := by
      rw [all_drop]
      have := loopB v.f3.length (fun k i => impl_valueFits.l0 k ((n + 1 : Nat) : Int) v.f3 (v.f3.length : Int) i) (fun i => vok n (rd_T49 v.f3 i)) true ?_ ?_ ?_ v.f3.length 0 (by omega)
      · exact Ev.eq this (by simp)
      · refine Ev.succ ?_
        simp only [impl_valueFits.l0]
        refine Ev.neg (by omega) ?_
        exact Ev.some _
      · intro i hi hc
        refine Ev.succ ?_
        simp only [impl_valueFits.l0, if_pos (show ((i : Int) < (v.f3.length : Int)) by omega), if_pos (show 0 ≤ (i : Int) by omega)]
        rw [show wrap64 (((n + 1 : Nat) : Int) - 1) = (n : Int) by rw [wrap64_id (by omega) (by omega)]; omega]
        refine Ev.bind (ih _ (by rw [rd_iv hi]; exact h4 _ (List.getElem_mem hi)) (by omega)) ?_
        simp only [hc, Bool.false_eq_true, if_false]
        exact Ev.some _
      · intro i hi hc r hr
        refine Ev.succ ?_
        simp only [impl_valueFits.l0, if_pos (show ((i : Int) < (v.f3.length : Int)) by omega), if_pos (show 0 ≤ (i : Int) by omega)]
        rw [show wrap64 (((n + 1 : Nat) : Int) - 1) = (n : Int) by rw [wrap64_id (by omega) (by omega)]; omega]
        refine Ev.bind (ih _ (by rw [rd_iv hi]; exact h4 _ (List.getElem_mem hi)) (by omega)) ?_
        simp only [hc, if_true, wrap64_succ hi (by omega)]
        exact hr
    have hm : v.f2.size ≤ maxLen := by unfold maxLen; omega
    have len0 : ((v.f3.length : Int) == 0) = decide (v.f3.length = 0) := by rw [Bool.eq_iff_iff]; simp
    refine Ev.succ ?_
    simp only [impl_valueFits.f, size_nil, len0, vok, if_neg (show ¬ (((n + 1 : Nat) : Int) < 1) by omega)]
    by_cases k0 : v.f0 = 0
    · simp only [if_pos k0]
      by_cases c1 : v.f1 = 0 <;> by_cases c2 : v.f2.size = 0 <;> simp only [c1, c2, if_true, if_false, decide_true, decide_false, Bool.true_and, Bool.false_and, Bool.and_true, Bool.and_false] <;> exact Ev.some _
    simp only [if_neg k0]
    by_cases k1 : v.f0 = 1
    · simp only [if_pos k1]
      by_cases c1 : v.f1 = 0
      · by_cases c2 : v.f2.size = 0 <;> simp only [c1, c2, if_true, if_false, decide_true, decide_false, Bool.true_and, Bool.false_and, Bool.and_true, Bool.and_false] <;> exact Ev.eq (Ev.some _) (by simp)
      · by_cases c1' : v.f1 = 1
        · by_cases c2 : v.f2.size = 0 <;> simp only [c1', c2, if_true, if_false, decide_true, decide_false, Bool.true_and, Bool.false_and, Bool.and_true, Bool.and_false, if_neg (show ¬ ((1 : Int) = 0) by decide)] <;> exact Ev.eq (Ev.some _) (by simp)
        · simp only [if_neg c1, if_neg c1']
          refine Ev.eq (Ev.some _) ?_
          have : ¬ (0 ≤ v.f1 ∧ v.f1 ≤ 1) := by omega
          simp
          omega
    simp only [if_neg k1]
    by_cases k2 : v.f0 = 2
    · simp only [if_pos k2]
      refine Ev.ite (fun c1 => ?_) (fun c1 => Ev.eq (Ev.some _) (by simp; omega))
      refine Ev.ite (fun c2 => ?_) (fun c2 => Ev.eq (Ev.some _) (by simp; omega))
      refine Ev.ite (fun c3 => ?_) (fun c3 => Ev.eq (Ev.some _) (by simp [c3]))
      exact Ev.eq (Ev.some _) (by have e1 : decide (-1000000000 ≤ v.f1) = true := decide_eq_true (by omega)
                                  have e2 : decide (v.f1 ≤ 1000000000) = true := decide_eq_true (by omega)
                                  simp [e1, e2, c3])
    simp only [if_neg k2]
    by_cases k3 : v.f0 = 3
    · simp only [if_pos k3]
      refine Ev.ite (fun c1 => ?_) (fun c1 => Ev.eq (Ev.some _) (by simp [c1]))
      refine Ev.bind (textFits_ev _ hm) (Ev.ite (fun c2 => Ev.eq (Ev.some _) (by simp [c1, c2])) (fun c2 => Ev.eq (Ev.some _) (by simp [c2])))
    simp only [if_neg k3]
    have tail : ∀ b, (b = true ↔ v.f0 = 5 ∨ v.f0 = 6) → Ev (fun k => impl_valueFits.j0 k ((n + 1 : Nat) : Int) v.f0 b v.f0 v.f1 v.f2 v.f3) (if v.f0 = 4 then decide (v.f1 = 0) && decide (v.f2.size = 0) && decide (v.f3.length ≤ 6) && v.f3.all (vok n) else if v.f0 = 5 ∨ v.f0 = 6 then decide (0 ≤ v.f1) && decide (v.f1 ≤ 1000000000) && decide (v.f2.size = 0) && decide (v.f3.length = 0) else false) := by
      intro b hb
      refine Ev.succ ?_
      simp only [impl_valueFits.j0, size_nil, len0]
      refine Ev.ite (fun cb => ?_) (fun cb => ?_)
      · have h56 := hb.1 cb
        have h4' : ¬ v.f0 = 4 := by omega
        rw [if_neg h4', if_pos h56]
        refine Ev.ite (fun c1 => ?_) (fun c1 => Ev.eq (Ev.some _) (by simp; omega))
        refine Ev.ite (fun c2 => ?_) (fun c2 => Ev.eq (Ev.some _) (by simp; omega))
        refine Ev.ite (fun c3 => ?_) (fun c3 => Ev.eq (Ev.some _) (by simp [c3]))
        exact Ev.eq (Ev.some _) (by have e1 : decide (0 ≤ v.f1) = true := decide_eq_true (by omega)
                                    have e2 : decide (v.f1 ≤ 1000000000) = true := decide_eq_true (by omega)
                                    simp [e1, e2, c3])
      · have h56 : ¬ (v.f0 = 5 ∨ v.f0 = 6) := fun h => cb (hb.2 h)
        refine Ev.ite (fun c4 => ?_) (fun c4 => Ev.eq (Ev.some _) (by rw [if_neg c4, if_neg h56]))
        rw [if_pos c4]
        have j1 : ∀ b, Ev (fun k => impl_valueFits.j1 k ((n + 1 : Nat) : Int) b v.f0 v.f1 v.f2 v.f3) (!b && v.f3.all (vok n)) := by
          intro b
          refine Ev.succ ?_
          simp only [impl_valueFits.j1]
          refine Ev.ite (fun h => Ev.eq (Ev.some _) (by simp [h])) (fun h => Ev.eq loop (by simp [h]))
        refine Ev.ite (fun c1 => ?_) (fun c1 => Ev.eq (j1 true) (by simp [c1]))
        refine Ev.ite (fun c2 => ?_) (fun c2 => Ev.eq (j1 true) (by simp [c2]))
        refine Ev.eq (j1 _) ?_
        have e : (!decide ((v.f3.length : Int) > 6)) = decide (v.f3.length ≤ 6) := by rw [Bool.eq_iff_iff]; simp; omega
        rw [e]
        simp [c1, c2]
    refine Ev.ite (fun k5 => ?_) (fun k5 => ?_)
    · exact tail _ (by simp [k5])
    · exact tail _ (by simp [k5])
theorem implValueOk_ev (v : IV) (sm : Sm v) : Ev (fun k => impl_ValueOk.f k v.f0 v.f1 v.f2 v.f3) (vok 3 v) := by
  unfold impl_ValueOk.f
  exact Ev.bind (valueFits_ev 3 v sm (by omega)) (Ev.some _)
theorem l1Ok_body (n : Nat) (v : IV) (sm : Sm v) (hn : n ≤ 1000)
    (round : ∀ i : Nat, i < v.f3.length → ∀ r, ((vok n (rd_T49 v.f3 i) = false → r = false) ∧ (vok n (rd_T49 v.f3 i) = true → Ev (fun k => spec_l1Ok.l0 k ((n + 1 : Nat) : Int) ((i + 1 : Nat) : Int) v.f0 v.f1 v.f2 v.f3) r)) → Ev (fun k => spec_l1Ok.l0 k ((n + 1 : Nat) : Int) (i : Int) v.f0 v.f1 v.f2 v.f3) r) :
    Ev (fun k => spec_l1Ok.f k v.f0 v.f1 v.f2 v.f3 ((n + 1 : Nat) : Int)) (vok (n + 1) v) := by
  obtain ⟨h2, h3, h4⟩ := sm.all
  have hm : v.f2.size ≤ maxLen := by unfold maxLen; omega
  have len0 : ((v.f3.length : Int) == 0) = decide (v.f3.length = 0) := by rw [Bool.eq_iff_iff]; simp
  have len0' : ((v.f3.length : Int) = 0) = (v.f3.length = 0) := by apply propext; omega
  have num0 : (v.f1 == 0) = decide (v.f1 = 0) := by rw [Bool.eq_iff_iff]; simp
  have loop : Ev (fun k => spec_l1Ok.l0 k ((n + 1 : Nat) : Int) 0 v.f0 v.f1 v.f2 v.f3) (v.f3.all (vok n) && (decide (v.f1 = 0) && (decide (v.f2.size = 0) && decide (v.f3.length ≤ 6)))) := by
    rw [all_drop]
    refine loopB v.f3.length (fun k i => spec_l1Ok.l0 k ((n + 1 : Nat) : Int) i v.f0 v.f1 v.f2 v.f3) (fun i => vok n (rd_T49 v.f3 i)) _ ?_ ?_ ?_ v.f3.length 0 (by omega)
    · refine Ev.succ ?_
      simp only [spec_l1Ok.l0, size_nil]
      refine Ev.neg (by omega) ?_
      refine Ev.ite (fun c1 => Ev.ite (fun c2 => Ev.eq (Ev.some _) ?_) (fun c2 => Ev.eq (Ev.some _) (by simp [c2]))) (fun c1 => Ev.eq (Ev.some _) (by simp [c1]))
      rw [Bool.eq_iff_iff]; simp [c1, c2]; omega
    · intro i hi hc
      exact round i hi false ⟨fun _ => rfl, (fun h => by rw [hc] at h; cases h)⟩
    · intro i hi hc r hr
      exact round i hi r ⟨(fun h => by rw [hc] at h; cases h), fun _ => hr⟩
  have top : ∀ num : Bool, num = (decide (v.f2.size = 0) && decide (v.f3.length = 0)) → Ev (fun k => spec_l1Ok.j0 k ((n + 1 : Nat) : Int) num v.f0 v.f1 v.f2 v.f3) (vok (n + 1) v) := by
    intro num hnum
    refine Ev.succ ?_
    simp only [spec_l1Ok.j0, l1In_eq, Option.bind_some, vok, len0', num0]
    by_cases k0 : v.f0 = 0
    · simp only [if_pos k0]
      exact Ev.ite (fun h => Ev.eq (Ev.some _) (by rw [hnum] at h; simp at h; simp [h])) (fun h => Ev.eq (Ev.some _) (by rw [hnum] at h; simp at h; simp; intro _ h'; exact h h'))
    simp only [if_neg k0]
    by_cases k1 : v.f0 = 1
    · simp only [if_pos k1]
      exact Ev.ite (fun h => Ev.eq (Ev.some _) (by rw [hnum] at h; simp at h; simp [h])) (fun h => Ev.eq (Ev.some _) (by rw [hnum] at h; simp at h; simp; intro _ _ h'; exact h h'))
    simp only [if_neg k1]
    by_cases k2 : v.f0 = 2
    · simp only [if_pos k2]
      exact Ev.ite (fun h => Ev.eq (Ev.some _) (by rw [hnum] at h; simp at h; simp [h])) (fun h => Ev.eq (Ev.some _) (by rw [hnum] at h; simp at h; simp; intro _ _ h'; exact h h'))
    simp only [if_neg k2]
    by_cases k3 : v.f0 = 3
    · simp only [if_pos k3]
      refine Ev.ite (fun c1 => Ev.ite (fun c2 => ?_) (fun c2 => Ev.eq (Ev.some _) (by simp [c2]))) (fun c1 => Ev.eq (Ev.some _) (by simp [c1]))
      exact Ev.bind (l1Text_ev _ hm) (Ev.eq (Ev.some _) (by simp [c1, c2]))
    simp only [if_neg k3]
    have tail : ∀ b, (b = true ↔ v.f0 = 5 ∨ v.f0 = 6) → Ev (fun k => spec_l1Ok.j1 k ((n + 1 : Nat) : Int) num v.f0 b v.f0 v.f1 v.f2 v.f3) (if v.f0 = 4 then decide (v.f1 = 0) && decide (v.f2.size = 0) && decide (v.f3.length ≤ 6) && v.f3.all (vok n) else if v.f0 = 5 ∨ v.f0 = 6 then decide (0 ≤ v.f1) && decide (v.f1 ≤ 1000000000) && decide (v.f2.size = 0) && decide (v.f3.length = 0) else false) := by
      intro b hb
      refine Ev.succ ?_
      simp only [spec_l1Ok.j1, l1In_eq, Option.bind_some]
      refine Ev.ite (fun cb => ?_) (fun cb => ?_)
      · have h56 := hb.1 cb
        have h4' : ¬ v.f0 = 4 := by omega
        rw [if_neg h4', if_pos h56]
        exact Ev.ite (fun h => Ev.eq (Ev.some _) (by rw [hnum] at h; simp at h; simp [h])) (fun h => Ev.eq (Ev.some _) (by rw [hnum] at h; simp at h; simp; intro _ _ h'; exact h h'))
      · have h56 : ¬ (v.f0 = 5 ∨ v.f0 = 6) := fun h => cb (hb.2 h)
        refine Ev.ite (fun c4 => ?_) (fun c4 => Ev.eq (Ev.some _) (by rw [if_neg c4, if_neg h56]))
        rw [if_pos c4]
        refine Ev.eq loop ?_
        rw [Bool.eq_iff_iff]
        simp only [Bool.and_eq_true]
        constructor
        · intro ⟨a, b, c, d⟩; exact ⟨⟨⟨b, c⟩, d⟩, a⟩
        · intro ⟨⟨⟨b, c⟩, d⟩, a⟩; exact ⟨a, b, c, d⟩
    refine Ev.ite (fun k5 => ?_) (fun k5 => ?_)
    · exact tail _ (by simp [k5])
    · exact tail _ (by simp [k5])
  refine Ev.succ ?_
  simp only [spec_l1Ok.f, size_nil, len0]
  refine Ev.ite (fun c2 => top _ (by simp [c2])) (fun c2 => top _ (by simp [c2]))
theorem l1Ok_ev : ∀ (n : Nat) (v : IV), Sm v → n ≤ 1000 → Ev (fun k => spec_l1Ok.f k v.f0 v.f1 v.f2 v.f3 ((n + 1 : Nat) : Int)) (vok (n + 1) v) := by
  intro n
  induction n with
  | zero =>
    intro v sm hn
    exact l1Ok_body 0 v sm hn (fun i hi => by
      intro r hr
      refine Ev.succ ?_
      simp only [spec_l1Ok.l0, if_pos (show ((i : Int) < (v.f3.length : Int)) by omega)]
      refine Ev.pos (by omega) ?_
      have : r = false := hr.1 rfl
      subst this
      exact Ev.some _)
  | succ n ih =>
    intro v sm hn
    obtain ⟨h2, h3, h4⟩ := sm.all
    exact l1Ok_body (n + 1) v sm hn (fun i hi => by
      intro r hr
      refine Ev.succ ?_
      simp only [spec_l1Ok.l0, if_pos (show ((i : Int) < (v.f3.length : Int)) by omega), if_pos (show 0 ≤ (i : Int) by omega)]
      refine Ev.neg (by omega) ?_
      rw [show wrap64 (((n + 1 + 1 : Nat) : Int) - 1) = ((n + 1 : Nat) : Int) by rw [wrap64_id (by omega) (by omega)]; omega]
      refine Ev.bind (ih _ (by rw [rd_iv hi]; exact h4 _ (List.getElem_mem hi)) (by omega)) ?_
      refine Ev.ite (fun h => ?_) (fun h => ?_)
      · rw [wrap64_succ hi (by omega)]
        exact hr.2 h
      · have : r = false := hr.1 (by simpa using h)
        subst this
        exact Ev.some _)
theorem specValueOk_ev (v : IV) (sm : Sm v) : Ev (fun k => spec_ValueOk.f k v.f0 v.f1 v.f2 v.f3) (vok 3 v) := by
  unfold spec_ValueOk.f
  exact Ev.bind (l1Ok_ev 2 v sm (by omega)) (Ev.some _)
end Go.Proofs.Ytcchmhmbjhgfdaa.Pur
namespace Go.Proofs.Ytcchmhmbjhgfdaa.Pur
open Go.RowKit Go.Proofs.Ytcchmhmbjhgfdaa.G Go.Proofs.YtcchmhmbjhgfdaaW.PrintWords Go.Proofs.YtcchmhmbjhgfdaaW.PrintLast
set_option linter.unusedVariables false
set_option linter.unusedSimpArgs false
inductive Has (a : Int) : IV → Prop
  | here {x : IV} (h : x.f0 = a) : Has a x
  | sub {x y : IV} (hy : y ∈ x.f3) (h : Has a y) : Has a x
theorem valueHas_ev (a : Int) {v : IV} (sm : Sm v) : ∃ r, Ev (fun k => impl_valueHas.f k v.f0 v.f1 v.f2 v.f3 a) r ∧ (r = true ↔ Has a v) := by
  induction sm with
  | @mk x h2 h3 h4 ih =>
    by_cases c : x.f0 = a
    · refine ⟨true, Ev.succ ?_, by simp [Has.here c]⟩
      simp only [impl_valueHas.f, if_pos c]
      exact Ev.some _
    have loop : ∀ (d i : Nat), x.f3.length = i + d → ∃ r, Ev (fun k => impl_valueHas.l0 k a x.f3 (x.f3.length : Int) (i : Int)) r ∧ (r = true ↔ ∃ j, ∃ h : j < x.f3.length, i ≤ j ∧ Has a x.f3[j]) := by
      intro d
      induction d with
      | zero =>
        intro i hi
        refine ⟨false, Ev.succ ?_, ⟨(fun h => by cases h), (fun ⟨j, hj, hij, _⟩ => by omega)⟩⟩
        simp only [impl_valueHas.l0]
        exact Ev.neg (by omega) (Ev.some _)
      | succ d ihd =>
        intro i hi
        have hlt : i < x.f3.length := by omega
        obtain ⟨r, hr, hp⟩ := ih x.f3[i] (List.getElem_mem hlt)
        obtain ⟨q, hq, hp'⟩ := ihd (i + 1) (by omega)
        by_cases hn : r = true
        · refine ⟨true, Ev.succ ?_, ⟨fun _ => ⟨i, hlt, Nat.le_refl _, hp.1 hn⟩, fun _ => rfl⟩⟩
          simp only [impl_valueHas.l0, if_pos (show (i : Int) < (x.f3.length : Int) by omega), if_pos (show 0 ≤ (i : Int) by omega), rd_iv hlt]
          refine Ev.bind hr ?_
          simp only [if_pos hn]
          exact Ev.some _
        · refine ⟨q, Ev.succ ?_, ?_⟩
          · simp only [impl_valueHas.l0, if_pos (show (i : Int) < (x.f3.length : Int) by omega), if_pos (show 0 ≤ (i : Int) by omega), rd_iv hlt]
            refine Ev.bind hr ?_
            simp only [if_neg hn, wrap64_succ hlt (show x.f3.length ≤ 9223372036854775807 by omega)]
            exact hq
          · rw [hp']
            constructor
            · intro ⟨j, hj, hij, h⟩; exact ⟨j, hj, by omega, h⟩
            · intro ⟨j, hj, hij, h⟩
              refine ⟨j, hj, ?_, h⟩
              by_cases e : i = j
              · subst e; exact absurd (hp.2 h) hn
              · omega
    obtain ⟨r, hr, hp⟩ := loop x.f3.length 0 (by omega)
    refine ⟨r, Ev.succ ?_, ?_⟩
    · simp only [impl_valueHas.f, if_neg c]
      exact hr
    · rw [hp]
      constructor
      · intro ⟨j, hj, _, h⟩; exact Has.sub (List.getElem_mem hj) h
      · intro h
        cases h with
        | here h => exact absurd h c
        | sub hy h =>
          obtain ⟨j, hj, rfl⟩ := List.getElem_of_mem hy
          exact ⟨j, hj, Nat.zero_le _, h⟩
end Go.Proofs.Ytcchmhmbjhgfdaa.Pur
namespace Go.Proofs.Ytcchmhmbjhgfdaa.Pur
open Go.RowKit Go.Proofs.Ytcchmhmbjhgfdaa.G Go.Proofs.YtcchmhmbjhgfdaaW.PrintWords Go.Proofs.YtcchmhmbjhgfdaaW.PrintLast
set_option linter.unusedVariables false
set_option linter.unusedSimpArgs false
theorem wrap64_pred {i : Nat} (h : 0 < i) (h' : i ≤ 9223372036854775807) : wrap64 ((i : Int) - 1) = ((i - 1 : Nat) : Int) := by
  rw [wrap64_id (by omega) (by omega)]; omega
theorem prev_dec {g : Nat → Option Bool} {i n : Nat} (hi : i < n) (hn : n ≤ 9223372036854775807) {B : Int → Prop} [∀ j, Decidable (B j)] {R : Prop} (d : Dec g R) :
    Dec (fun k => if (i : Int) > 0 then (if 0 ≤ wrap64 ((i : Int) - 1) then (if wrap64 ((i : Int) - 1) < (n : Int) then (if B (wrap64 ((i : Int) - 1)) then g k else some false) else none) else none) else g k) ((0 < i → B ((i - 1 : Nat) : Int)) ∧ R) := by
  refine Dec.ite (fun h => ?_) (fun h => d.iff ⟨fun r => ⟨fun h' => by omega, r⟩, fun r => r.2⟩)
  have h0 : 0 < i := by omega
  rw [wrap64_pred h0 (by omega)]
  refine Dec.pos (by omega) (Dec.pos (by omega) (Dec.ite (fun b => d.iff ⟨fun r => ⟨fun _ => b, r⟩, fun r => r.2⟩) (fun b => Dec.no (fun r => b (r.1 h0)))))
theorem prev_dec' {g : Nat → Option Bool} {i n : Nat} (hi : i < n) (hn : n ≤ 9223372036854775807) {B : Int → Prop} [∀ j, Decidable (B j)] {R : Prop} (d : Dec g R) :
    Dec (fun k => if (i : Int) > 0 then (if 0 ≤ wrap64 ((i : Int) - 1) then (if wrap64 ((i : Int) - 1) < (n : Int) then (if B (wrap64 ((i : Int) - 1)) then some false else g k) else none) else none) else g k) ((0 < i → ¬ B ((i - 1 : Nat) : Int)) ∧ R) := by
  refine Dec.ite (fun h => ?_) (fun h => d.iff ⟨fun r => ⟨fun h' => by omega, r⟩, fun r => r.2⟩)
  have h0 : 0 < i := by omega
  rw [wrap64_pred h0 (by omega)]
  refine Dec.pos (by omega) (Dec.pos (by omega) (Dec.ite (fun b => Dec.no (fun r => r.1 h0 b)) (fun b => d.iff ⟨fun r => ⟨fun _ => b, r⟩, fun r => r.2⟩)))
theorem name_dec {s : ByteArray} (h : SmT s) : Dec (fun k => spec_l2Name.f k s) (nameB s = true) := Dec.of (l2Name_ev s (by unfold SmT at h; unfold maxLen; omega)) Iff.rfl
theorem name_dec' {s : ByteArray} (h : SmT s) : Dec (fun k => impl_NameOk.f k s) (nameB s = true) := Dec.of (nameOk_ev s (by unfold SmT at h; unfold maxLen; omega)) Iff.rfl
def LabelsP (l : List ByteArray) : Prop := (∀ i, i < l.length → nameB (rdOf ByteArray.empty l (i : Int)) = true ∧ (0 < i → Op.bytesLess (rdOf ByteArray.empty l ((i - 1 : Nat) : Int)).toList (rdOf ByteArray.empty l (i : Int)).toList = true)) ∧ l.length ≤ 3
theorem few_rd {l : List ByteArray} (h : Few SmT l) {i : Nat} (hi : i < l.length) : SmT (rdOf ByteArray.empty l (i : Int)) := by rw [rd_st hi]; exact h.2 _ (List.getElem_mem hi)
theorem labels_dec {l : List ByteArray} (h : Few SmT l) : Dec (fun k => spec_l2Labels.f k l) (LabelsP l) := by
  have hl := h.1
  unfold spec_l2Labels.f
  refine Dec.loop l.length (fun k i => spec_l2Labels.l0 k l i) _ _ (Dec.succ ?_) (fun i hi R d => Dec.succ ?_)
  · simp only [spec_l2Labels.l0]
    exact Dec.neg (by omega) (Dec.some (by simp; omega))
  · simp only [spec_l2Labels.l0, if_pos (show (i : Int) < (l.length : Int) by omega), if_pos (show 0 ≤ (i : Int) by omega), wrap64_succ hi (show l.length ≤ 9223372036854775807 by omega)]
    refine (Dec.then (name_dec (few_rd h hi)) (fun _ => prev_dec (B := fun j => Op.bytesLess (rdOf ByteArray.empty l j).toList (rdOf ByteArray.empty l (i : Int)).toList = true) hi (by omega) d)).iff ?_
    exact ⟨fun ⟨a, b, c⟩ => ⟨⟨a, b⟩, c⟩, fun ⟨⟨a, b⟩, c⟩ => ⟨a, b, c⟩⟩
theorem labels_dec' {l : List ByteArray} (h : Few SmT l) : Dec (fun k => impl_labelsOk.f k l) (LabelsP l) := by
  have hl := h.1
  unfold impl_labelsOk.f
  refine Dec.ite (fun c => Dec.no (fun p => by have := p.2; omega)) (fun c => ?_)
  refine (Dec.loop l.length (fun k i => impl_labelsOk.l0 k l l (l.length : Int) i) (fun i => nameB (rdOf ByteArray.empty l (i : Int)) = true ∧ (0 < i → Op.bytesLess (rdOf ByteArray.empty l ((i - 1 : Nat) : Int)).toList (rdOf ByteArray.empty l (i : Int)).toList = true)) True (Dec.succ ?_) (fun i hi R d => Dec.succ ?_)).iff ⟨fun p => ⟨p.1, by omega⟩, fun p => ⟨p.1, trivial⟩⟩
  · simp only [impl_labelsOk.l0]
    exact Dec.neg (by omega) (Dec.yes trivial)
  · simp only [impl_labelsOk.l0, if_pos (show (i : Int) < (l.length : Int) by omega), if_pos (show 0 ≤ (i : Int) by omega), wrap64_succ hi (show l.length ≤ 9223372036854775807 by omega)]
    refine (Dec.then (name_dec' (few_rd h hi)) (fun _ => prev_dec (B := fun j => Op.bytesLess (rdOf ByteArray.empty l j).toList (rdOf ByteArray.empty l (i : Int)).toList = true) hi (by omega) d)).iff ?_
    exact ⟨fun ⟨a, b, c⟩ => ⟨⟨a, b⟩, c⟩, fun ⟨⟨a, b⟩, c⟩ => ⟨a, b, c⟩⟩
inductive Plain : IV → Prop
  | mk {x : IV} (h : 1 ≤ x.f0 ∧ x.f0 ≤ 4) (hs : ∀ y ∈ x.f3, Plain y) : Plain x
theorem l2Plain_dec {v : IV} (sm : Sm v) : Dec (fun k => spec_l2Plain.f k v.f0 v.f1 v.f2 v.f3) (Plain v) := by
  induction sm with
  | @mk x h2 h3 h4 ih =>
    refine Dec.succ ?_
    simp only [spec_l2Plain.f]
    refine (Dec.loop x.f3.length (fun k i => spec_l2Plain.l0 k i x.f0 x.f1 x.f2 x.f3) (fun i => Plain (rd_T49 x.f3 (i : Int))) (1 ≤ x.f0 ∧ x.f0 ≤ 4) (Dec.succ ?_) (fun i hi R d => Dec.succ ?_)).iff ?_
    · simp only [spec_l2Plain.l0, l1In_eq, Option.bind_some]
      exact Dec.neg (by omega) (Dec.some (by simp))
    · simp only [spec_l2Plain.l0, if_pos (show (i : Int) < (x.f3.length : Int) by omega), if_pos (show 0 ≤ (i : Int) by omega), wrap64_succ hi (show x.f3.length ≤ 9223372036854775807 by omega), rd_iv hi]
      exact Dec.then (ih _ (List.getElem_mem hi)) (fun _ => d)
    · constructor
      · intro ⟨h, e⟩
        refine .mk e (fun y hy => ?_)
        obtain ⟨j, hj, rfl⟩ := List.getElem_of_mem hy
        have := h j hj
        rwa [rd_iv hj] at this
      · intro h
        cases h with
        | mk e hs => exact ⟨fun i hi => by rw [rd_iv hi]; exact hs _ (List.getElem_mem hi), e⟩
theorem plain_has : ∀ (n : Nat) (v : IV), vok n v = true → (Plain v ↔ ¬ Has 0 v ∧ ¬ Has 5 v ∧ ¬ Has 6 v) := by
  intro n
  induction n with
  | zero => intro v h; simp [vok] at h
  | succ n ih =>
    intro v h
    have sub : ∀ y ∈ v.f3, Plain y ↔ ¬ Has 0 y ∧ ¬ Has 5 y ∧ ¬ Has 6 y := by
      intro y hy
      have hne : ¬ v.f3.length = 0 := fun e => by rw [List.length_eq_zero_iff] at e; rw [e] at hy; cases hy
      have h' := h
      simp only [vok, decide_eq_false hne, Bool.and_false] at h'
      have : v.f3.all (vok n) = true := by
        by_cases k4 : v.f0 = 4
        · simp only [k4, if_true, if_neg (show ¬ ((4 : Int) = 0) by decide), if_neg (show ¬ ((4 : Int) = 1) by decide), if_neg (show ¬ ((4 : Int) = 2) by decide), if_neg (show ¬ ((4 : Int) = 3) by decide), Bool.and_eq_true] at h'
          exact h'.2
        · rw [if_neg k4] at h'
          simp at h'
      exact ih y (List.all_eq_true.1 this y hy)
    have k6 : 0 ≤ v.f0 ∧ v.f0 ≤ 6 := by
      by_cases c : 0 ≤ v.f0 ∧ v.f0 ≤ 6
      · exact c
      · rw [vok, if_neg (by omega), if_neg (by omega), if_neg (by omega), if_neg (by omega), if_neg (by omega), if_neg (by omega)] at h
        cases h
    constructor
    · intro hf
      cases hf with
      | mk h0 hs =>
        refine ⟨fun hh => ?_, fun hh => ?_, fun hh => ?_⟩
        · cases hh with
          | here e => omega
          | sub hy e => exact ((sub _ hy).1 (hs _ hy)).1 e
        · cases hh with
          | here e => omega
          | sub hy e => exact ((sub _ hy).1 (hs _ hy)).2.1 e
        · cases hh with
          | here e => omega
          | sub hy e => exact ((sub _ hy).1 (hs _ hy)).2.2 e
    · intro ⟨h0, h5, h6⟩
      refine .mk ?_ (fun y hy => (sub y hy).2 ⟨fun e => h0 (.sub hy e), fun e => h5 (.sub hy e), fun e => h6 (.sub hy e)⟩)
      have e0 : ¬ v.f0 = 0 := fun e => h0 (.here e)
      have e5 : ¬ v.f0 = 5 := fun e => h5 (.here e)
      have e6 : ¬ v.f0 = 6 := fun e => h6 (.here e)
      omega
theorem has_dec (a : Int) {v : IV} (sm : Sm v) : Dec (fun k => impl_valueHas.f k v.f0 v.f1 v.f2 v.f3 a) (Has a v) := valueHas_ev a sm
def Keeps (v : IV) : Prop := vok 3 v = true ∧ Plain v
theorem storable_dec {v : IV} (sm : Sm v) : Dec (fun k => impl_storable.f k v.f0 v.f1 v.f2 v.f3) (Keeps v) := by
  unfold impl_storable.f
  refine (Dec.then (g := fun k => (impl_valueHas.f k v.f0 v.f1 v.f2 v.f3 0).bind fun t297 => (if t297 = true then (some false) else ((impl_valueHas.f k v.f0 v.f1 v.f2 v.f3 5).bind fun t298 => (if t298 = true then (some false) else ((impl_valueHas.f k v.f0 v.f1 v.f2 v.f3 6).bind fun t299 => (some (!t299))))))) (Dec.of (implValueOk_ev v sm) Iff.rfl) (Q := Plain v) (fun ok => ?_)).iff Iff.rfl
  have ph := plain_has 3 v ok
  refine Dec.bind (has_dec 0 sm) (fun c => Dec.pos rfl (Dec.no (fun p => (ph.1 p).1 c))) (fun c0 => Dec.neg (by decide) ?_)
  refine Dec.bind (has_dec 5 sm) (fun c => Dec.pos rfl (Dec.no (fun p => (ph.1 p).2.1 c))) (fun c5 => Dec.neg (by decide) ?_)
  refine Dec.bind (has_dec 6 sm) (fun c => Dec.no (fun p => (ph.1 p).2.2 c)) (fun c6 => Dec.yes (ph.2 ⟨c0, c5, c6⟩))
def PropsP (l : List IP) : Prop := (∀ i : Nat, i < l.length → (nameB (rd_T140 l (i : Int)).f0 = true ∧ Keeps (rd_T140 l (i : Int)).f1) ∧ (0 < i → Op.bytesLess (rd_T140 l ((i - 1 : Nat) : Int)).f0.toList (rd_T140 l (i : Int)).f0.toList = true)) ∧ l.length ≤ 4
theorem few_rp {l : List IP} (h : Few SmP l) {i : Nat} (hi : i < l.length) : SmP (rd_T140 l (i : Int)) := by rw [rd_ip hi]; exact h.2 _ (List.getElem_mem hi)
theorem props_dec {l : List IP} (h : Few SmP l) : Dec (fun k => spec_l2Props.f k l) (PropsP l) := by
  have hl := h.1
  unfold spec_l2Props.f
  refine Dec.loop l.length (fun k i => spec_l2Props.l0 k l i) _ _ (Dec.succ ?_) (fun i hi R d => Dec.succ ?_)
  · simp only [spec_l2Props.l0]
    exact Dec.neg (by omega) (Dec.some (by simp; omega))
  · simp only [spec_l2Props.l0, if_pos (show (i : Int) < (l.length : Int) by omega), if_pos (show 0 ≤ (i : Int) by omega), wrap64_succ hi (show l.length ≤ 9223372036854775807 by omega)]
    have s := few_rp h hi
    refine (Dec.then (name_dec s.1) (fun _ => Dec.then (Dec.of (specValueOk_ev _ s.2) Iff.rfl) (fun _ => Dec.then (l2Plain_dec s.2) (fun _ => prev_dec (B := fun j => Op.bytesLess (rd_T140 l j).f0.toList (rd_T140 l (i : Int)).f0.toList = true) hi (by omega) d)))).iff ?_
    exact ⟨fun ⟨a, b, c, e, r⟩ => ⟨⟨⟨a, b, c⟩, e⟩, r⟩, fun ⟨⟨⟨a, b, c⟩, e⟩, r⟩ => ⟨a, b, c, e, r⟩⟩
theorem props_dec' {l : List IP} (h : Few SmP l) : Dec (fun k => impl_propsOk.f k l) (PropsP l) := by
  have hl := h.1
  unfold impl_propsOk.f
  refine Dec.ite (fun c => Dec.no (fun p => by have := p.2; omega)) (fun c => ?_)
  refine (Dec.loop l.length (fun k i => impl_propsOk.l0 k l l (l.length : Int) i) (fun i => (nameB (rd_T140 l (i : Int)).f0 = true ∧ Keeps (rd_T140 l (i : Int)).f1) ∧ (0 < i → Op.bytesLess (rd_T140 l ((i - 1 : Nat) : Int)).f0.toList (rd_T140 l (i : Int)).f0.toList = true)) True (Dec.succ ?_) (fun i hi R d => Dec.succ ?_)).iff ⟨fun p => ⟨p.1, by omega⟩, fun p => ⟨p.1, trivial⟩⟩
  · simp only [impl_propsOk.l0]
    exact Dec.neg (by omega) (Dec.yes trivial)
  · simp only [impl_propsOk.l0, if_pos (show (i : Int) < (l.length : Int) by omega), if_pos (show 0 ≤ (i : Int) by omega), wrap64_succ hi (show l.length ≤ 9223372036854775807 by omega)]
    have s := few_rp h hi
    refine (Dec.then (name_dec' s.1) (fun _ => Dec.then (storable_dec s.2) (fun _ => prev_dec (B := fun j => Op.bytesLess (rd_T140 l j).f0.toList (rd_T140 l (i : Int)).f0.toList = true) hi (by omega) d))).iff ?_
    exact ⟨fun ⟨a, b, e, r⟩ => ⟨⟨⟨a, b⟩, e⟩, r⟩, fun ⟨⟨⟨a, b⟩, e⟩, r⟩ => ⟨a, b, e, r⟩⟩
theorem asc_loop (L : Nat → Int → Int → Option Bool) (ids : Nat → Int) (e : Int) (n : Nat)
    (hend : ∀ k last, L (k + 1) last (n : Int) = some true)
    (hstep : ∀ k last (i : Nat), i < n → L (k + 1) last (i : Int) = if ids i ≤ last then some false else if ids i ≥ e then some false else L k (ids i) ((i + 1 : Nat) : Int)) :
    ∀ (d i : Nat) (last : Int), n = i + d → Dec (fun k => L k last (i : Int)) (∀ j, i ≤ j → j < n → (if j = i then last else ids (j - 1)) < ids j ∧ ids j < e) := by
  intro d
  induction d with
  | zero =>
    intro i last hi
    obtain rfl : n = i := by omega
    exact Dec.succ (by simp only [hend]; exact Dec.yes (fun j h1 h2 => by omega))
  | succ d ih =>
    intro i last hi
    refine Dec.succ ?_
    simp only [hstep _ last i (show i < n by omega)]
    refine Dec.ite (fun c => Dec.no (fun h => by have := (h i (Nat.le_refl _) (by omega)).1; rw [if_pos rfl] at this; omega)) (fun c => ?_)
    refine Dec.ite (fun c' => Dec.no (fun h => by have := (h i (Nat.le_refl _) (by omega)).2; omega)) (fun c' => ?_)
    refine (ih (i + 1) (ids i) (by omega)).iff ⟨fun h j h1 h2 => ?_, fun h j h1 h2 => ?_⟩
    · by_cases z : j = i
      · subst z; rw [if_pos rfl]; omega
      · rw [if_neg z]
        have := h j (by omega) h2
        by_cases z' : j = i + 1
        · subst z'; rw [if_pos rfl] at this; simpa using this
        · rwa [if_neg z'] at this
    · have := h j (by omega) h2
      rw [if_neg (by omega)] at this
      by_cases z' : j = i + 1
      · subst z'; rw [if_pos rfl]; simpa using this
      · rwa [if_neg z']
theorem place_loop (L : Nat → Int → Option Int) (ids : Nat → Int) (x : Int) (n : Nat)
    (hend : ∀ k, L (k + 1) (n : Int) = some (-1))
    (hstep : ∀ k (i : Nat), i < n → L (k + 1) (i : Int) = if ids i = x then some (i : Int) else L k ((i + 1 : Nat) : Int)) :
    ∃ r, Ev (fun k => L k 0) r ∧ (r < 0 ↔ ¬ ∃ j, j < n ∧ ids j = x) := by
  have h : ∀ (d i : Nat), n = i + d → ∃ r, Ev (fun k => L k (i : Int)) r ∧ (r < 0 ↔ ¬ ∃ j, i ≤ j ∧ j < n ∧ ids j = x) := by
    intro d
    induction d with
    | zero =>
      intro i hi
      obtain rfl : n = i := by omega
      exact ⟨-1, Ev.succ (Ev.of_eq fun k => hend k), ⟨fun _ ⟨j, h1, h2, _⟩ => by omega, fun _ => by omega⟩⟩
    | succ d ih =>
      intro i hi
      by_cases c : ids i = x
      · refine ⟨(i : Int), Ev.succ (Ev.of_eq fun k => by rw [hstep k i (by omega), if_pos c]), ⟨fun h => by omega, fun h => absurd ⟨i, Nat.le_refl _, by omega, c⟩ h⟩⟩
      · obtain ⟨r, hr, hp⟩ := ih (i + 1) (by omega)
        refine ⟨r, Ev.succ ?_, hp.trans ⟨fun h ⟨j, h1, h2, h3⟩ => h ⟨j, ?_, h2, h3⟩, fun h ⟨j, h1, h2, h3⟩ => h ⟨j, by omega, h2, h3⟩⟩⟩
        · simp only [hstep _ i (show i < n by omega), if_neg c]
          exact hr
        · by_cases z : i = j
          · subst z; exact absurd h3 c
          · omega
  obtain ⟨r, hr, hp⟩ := h n 0 (by omega)
  exact ⟨r, hr, hp.trans ⟨fun h ⟨j, h1, h2⟩ => h ⟨j, Nat.zero_le _, h1, h2⟩, fun h ⟨j, _, h1, h2⟩ => h ⟨j, h1, h2⟩⟩⟩
def nid (ns : List IN) (i : Nat) : Int := (rd_T99 ns (i : Int)).f0
def gid (es : List IG) (i : Nat) : Int := (rd_T104 es (i : Int)).f0
def NodeP (x : IN) : Prop := LabelsP x.f1 ∧ PropsP x.f2
def In (ns : List IN) (x : Int) : Prop := ∃ j, j < ns.length ∧ nid ns j = x
def EdgeP (ns : List IN) (x : IG) : Prop := nameB x.f1 = true ∧ PropsP x.f4 ∧ In ns x.f2 ∧ In ns x.f3
def Asc (ids : Nat → Int) (n : Nat) (e : Int) : Prop := ∀ j, j < n → (if j = 0 then -1 else ids (j - 1)) < ids j ∧ ids j < e
def GraphP (ns : List IN) (es : List IG) (a b : Int) : Prop :=
  (0 ≤ a ∧ a ≤ 1000000000 ∧ 0 ≤ b ∧ b ≤ 1000000000) ∧ (ns.length ≤ 12 ∧ es.length ≤ 16) ∧ Asc (nid ns) ns.length a ∧ Asc (gid es) es.length b
    ∧ (∀ i : Nat, i < ns.length → NodeP (rd_T99 ns (i : Int))) ∧ (∀ i : Nat, i < es.length → EdgeP ns (rd_T104 es (i : Int)))
theorem asc_iff (ids : Nat → Int) (n : Nat) (e : Int) : Asc ids n e ↔ ∀ j, j < n → (0 ≤ ids j ∧ ids j ≤ e - 1) ∧ (0 < j → ¬ ids (j - 1) ≥ ids j) := by
  constructor
  · intro h
    have pos : ∀ j, j < n → 0 ≤ ids j := by
      intro j
      induction j with
      | zero => intro hj; have := (h 0 hj).1; rw [if_pos rfl] at this; omega
      | succ j ih => intro hj; have := (h (j + 1) hj).1; rw [if_neg (by omega)] at this; have := ih (by omega); simp at *; omega
    intro j hj
    refine ⟨⟨pos j hj, by have := (h j hj).2; omega⟩, fun h0 => ?_⟩
    have := (h j hj).1
    rw [if_neg (by omega)] at this
    omega
  · intro h j hj
    obtain ⟨⟨h0, h1⟩, h2⟩ := h j hj
    refine ⟨?_, by omega⟩
    by_cases z : j = 0
    · rw [if_pos z]; omega
    · rw [if_neg z]; have := h2 (by omega); omega
theorem few_rn {l : List IN} (h : Few SmN l) {i : Nat} (hi : i < l.length) : SmN (rd_T99 l (i : Int)) := by rw [rd_in hi]; exact h.2 _ (List.getElem_mem hi)
theorem few_rg {l : List IG} (h : Few SmG l) {i : Nat} (hi : i < l.length) : SmG (rd_T104 l (i : Int)) := by rw [rd_ig hi]; exact h.2 _ (List.getElem_mem hi)
theorem l2Node_ev {ns : List IN} (hl : ns.length ≤ 1048576) (es : List IG) (a b x : Int) : ∃ r, Ev (fun k => spec_l2Node.f k ns es a b x) r ∧ (r < 0 ↔ ¬ In ns x) := by
  unfold spec_l2Node.f
  exact place_loop (fun k i => spec_l2Node.l0 k x i ns es a b) (nid ns) x ns.length
    (fun k => by simp only [spec_l2Node.l0]; rw [if_neg (by omega)])
    (fun k i hi => by simp only [spec_l2Node.l0]; rw [if_pos (by omega), if_pos (by omega), wrap64_succ hi (by omega)]; rfl)
theorem place_ev {ns : List IN} (hl : ns.length ≤ 1048576) (u : Bool) (x : Int) : ∃ r, Ev (fun k => impl_Node_place.f k ns u x) r ∧ (r < 0 ↔ ¬ In ns x) := by
  unfold impl_Node_place.f
  exact place_loop (fun k i => impl_Node_place.l0 k x ns (ns.length : Int) i) (nid ns) x ns.length
    (fun k => by simp only [impl_Node_place.l0]; rw [if_neg (by omega)])
    (fun k i hi => by simp only [impl_Node_place.l0, impl_nodesOf_1.f, Option.bind_some]; rw [if_pos (by omega), if_pos (by omega), if_pos (by omega), wrap64_succ hi (by omega)]; rfl)
theorem nodeAsc_dec {ns : List IN} (hl : ns.length ≤ 1048576) (u : Bool) (e : Int) : Dec (fun k => impl_Node_ascend.f k ns u e) (Asc (nid ns) ns.length e) := by
  unfold impl_Node_ascend.f
  refine (asc_loop (fun k last i => impl_Node_ascend.l0 k e last ns (ns.length : Int) i) (nid ns) e ns.length
    (fun k last => by simp only [impl_Node_ascend.l0]; rw [if_neg (by omega)])
    (fun k last i hi => by simp only [impl_Node_ascend.l0, impl_nodesOf_1.f, Option.bind_some]; rw [if_pos (by omega), if_pos (by omega), if_pos (by omega), wrap64_succ hi (by omega)]; rfl) ns.length 0 (-1) (by omega)).iff ?_
  exact ⟨fun h j hj => h j (Nat.zero_le _) hj, fun h j _ hj => h j hj⟩
theorem edgeAsc_dec {es : List IG} (hl : es.length ≤ 1048576) (u : Bool) (e : Int) : Dec (fun k => impl_Edge_ascend.f k es u e) (Asc (gid es) es.length e) := by
  unfold impl_Edge_ascend.f
  refine (asc_loop (fun k last i => impl_Edge_ascend.l0 k e last es (es.length : Int) i) (gid es) e es.length
    (fun k last => by simp only [impl_Edge_ascend.l0]; rw [if_neg (by omega)])
    (fun k last i hi => by simp only [impl_Edge_ascend.l0, impl_edgesIn_1.f, Option.bind_some]; rw [if_pos (by omega), if_pos (by omega), if_pos (by omega), wrap64_succ hi (by omega)]; rfl) es.length 0 (-1) (by omega)).iff ?_
  exact ⟨fun h j hj => h j (Nat.zero_le _) hj, fun h j _ hj => h j hj⟩
theorem implGraphOk_dec {ns : List IN} {es : List IG} (a b : Int) (hn : Few SmN ns) (he : Few SmG es) : Dec (fun k => impl_GraphOk.f k ns es a b) (GraphP ns es a b) := by
  have nl := hn.1
  have el := he.1
  have l1 : Dec (fun k => impl_GraphOk.l1 k es (es.length : Int) 0 ns true) ((∀ i : Nat, i < es.length → EdgeP ns (rd_T104 es (i : Int))) ∧ True) := by
    refine Dec.loop es.length (fun k i => impl_GraphOk.l1 k es (es.length : Int) i ns true) _ _ (Dec.succ ?_) (fun i hi R d => Dec.succ ?_)
    · simp only [impl_GraphOk.l1]
      exact Dec.neg (by omega) (Dec.yes trivial)
    · simp only [impl_GraphOk.l1, if_pos (show (i : Int) < (es.length : Int) by omega), if_pos (show 0 ≤ (i : Int) by omega), wrap64_succ hi (show es.length ≤ 9223372036854775807 by omega)]
      have s := few_rg he hi
      obtain ⟨r, hr, pr⟩ := place_ev nl true (rd_T104 es (i : Int)).f2
      obtain ⟨q, hq, pq⟩ := place_ev nl true (rd_T104 es (i : Int)).f3
      refine (Dec.then (name_dec' s.1) (fun _ => Dec.then (props_dec' s.2) (fun _ => Dec.ev hr (Dec.ite (Q := (In ns (rd_T104 es (i : Int)).f2 ∧ In ns (rd_T104 es (i : Int)).f3) ∧ R) (fun c => Dec.no (fun p => pr.1 c p.1.1)) (fun c => Dec.ev hq (Dec.ite (fun c' => Dec.no (fun p => pq.1 c' p.1.2)) (fun c' => d.iff ⟨fun x => ⟨⟨Classical.not_not.1 (fun n => c (pr.2 n)), Classical.not_not.1 (fun n => c' (pq.2 n))⟩, x⟩, fun x => x.2⟩))))))).iff ?_
      exact ⟨fun ⟨a, b, ⟨c, d⟩, r⟩ => ⟨⟨a, b, c, d⟩, r⟩, fun ⟨⟨a, b, c, d⟩, r⟩ => ⟨a, b, ⟨c, d⟩, r⟩⟩
  have l0 : Dec (fun k => impl_GraphOk.l0 k ns (ns.length : Int) 0 ns es a b ns true) ((∀ i : Nat, i < ns.length → NodeP (rd_T99 ns (i : Int))) ∧ (∀ i : Nat, i < es.length → EdgeP ns (rd_T104 es (i : Int))) ∧ True) := by
    refine Dec.loop ns.length (fun k i => impl_GraphOk.l0 k ns (ns.length : Int) i ns es a b ns true) _ _ (Dec.succ ?_) (fun i hi R d => Dec.succ ?_)
    · simp only [impl_GraphOk.l0]
      exact Dec.neg (by omega) l1
    · simp only [impl_GraphOk.l0, if_pos (show (i : Int) < (ns.length : Int) by omega), if_pos (show 0 ≤ (i : Int) by omega), wrap64_succ hi (show ns.length ≤ 9223372036854775807 by omega)]
      have s := few_rn hn hi
      refine (Dec.then (labels_dec' s.1) (fun _ => Dec.then (props_dec' s.2) (fun _ => d))).iff ?_
      exact ⟨fun ⟨a, b, r⟩ => ⟨⟨a, b⟩, r⟩, fun ⟨⟨a, b⟩, r⟩ => ⟨a, b, r⟩⟩
  have j2 : ∀ x : Bool, Dec (fun k => impl_GraphOk.j2 k x ns es a b ns true) (x = false ∧ (∀ i : Nat, i < ns.length → NodeP (rd_T99 ns (i : Int))) ∧ (∀ i : Nat, i < es.length → EdgeP ns (rd_T104 es (i : Int)))) := by
    intro x
    refine Dec.succ ?_
    simp only [impl_GraphOk.j2]
    refine Dec.ite (fun c => Dec.no (fun p => by rw [c] at p; cases p.1)) (fun c => l0.iff ⟨fun ⟨p, q, _⟩ => ⟨by simpa using c, p, q⟩, fun ⟨_, p, q⟩ => ⟨p, q, trivial⟩⟩)
  have j1 : ∀ x : Bool, Dec (fun k => impl_GraphOk.j1 k x ns es a b) (x = false ∧ Asc (nid ns) ns.length a ∧ Asc (gid es) es.length b ∧ (∀ i : Nat, i < ns.length → NodeP (rd_T99 ns (i : Int))) ∧ (∀ i : Nat, i < es.length → EdgeP ns (rd_T104 es (i : Int)))) := by
    intro x
    refine Dec.succ ?_
    simp only [impl_GraphOk.j1, impl_nodesOf.f, impl_edgesIn.f, Option.bind_some]
    refine Dec.ite (fun c => Dec.no (fun p => by rw [c] at p; cases p.1)) (fun c => ?_)
    have xf : x = false := by simpa using c
    refine Dec.bind (nodeAsc_dec nl true a) (fun h1 => Dec.pos rfl (Dec.bind (edgeAsc_dec el true b) (fun h2 => ?_) (fun h2 => ?_))) (fun h1 => Dec.neg (by decide) ?_)
    · exact (j2 (!true)).iff ⟨fun ⟨_, p, q⟩ => ⟨xf, h1, h2, p, q⟩, fun ⟨_, _, _, p, q⟩ => ⟨rfl, p, q⟩⟩
    · exact (j2 (!false)).iff ⟨fun ⟨z, _⟩ => (by cases z), fun ⟨_, _, z, _⟩ => absurd z h2⟩
    · exact (j2 true).iff ⟨fun ⟨z, _⟩ => (by cases z), fun ⟨_, z, _⟩ => absurd z h1⟩
  have j0 : ∀ x : Bool, Dec (fun k => impl_GraphOk.j0 k x ns es a b) (x = false ∧ (ns.length ≤ 12 ∧ es.length ≤ 16) ∧ Asc (nid ns) ns.length a ∧ Asc (gid es) es.length b ∧ (∀ i : Nat, i < ns.length → NodeP (rd_T99 ns (i : Int))) ∧ (∀ i : Nat, i < es.length → EdgeP ns (rd_T104 es (i : Int)))) := by
    intro x
    refine Dec.succ ?_
    simp only [impl_GraphOk.j0]
    refine Dec.ite (fun c => Dec.no (fun p => by rw [c] at p; cases p.1)) (fun c => ?_)
    have xf : x = false := by simpa using c
    refine Dec.ite (fun c1 => (j1 true).iff ⟨fun ⟨z, _⟩ => (by cases z), fun ⟨_, z, _⟩ => absurd z.1 (by omega)⟩) (fun c1 => ?_)
    refine (j1 _).iff ⟨fun ⟨z, p⟩ => ⟨xf, ⟨by omega, by simp at z; omega⟩, p⟩, fun ⟨_, z, p⟩ => ⟨by simp; omega, p⟩⟩
  unfold impl_GraphOk.f GraphP
  refine Dec.ite (fun c => (j0 true).iff ⟨fun ⟨z, _⟩ => (by cases z), fun ⟨z, _⟩ => absurd z.1 (by omega)⟩) (fun c => ?_)
  refine Dec.ite (fun c1 => (j0 true).iff ⟨fun ⟨z, _⟩ => (by cases z), fun ⟨z, _⟩ => absurd z.2.1 (by omega)⟩) (fun c1 => ?_)
  refine Dec.ite (fun c2 => (j0 true).iff ⟨fun ⟨z, _⟩ => (by cases z), fun ⟨z, _⟩ => absurd z.2.2.1 (by omega)⟩) (fun c2 => ?_)
  refine (j0 _).iff ⟨fun ⟨z, p⟩ => ⟨⟨by omega, by omega, by omega, by simp at z; omega⟩, p⟩, fun ⟨z, p⟩ => ⟨by simp; omega, p⟩⟩
theorem l1In_dec (n a b : Int) : Dec (fun _ => spec_l1In.f n a b) (a ≤ n ∧ n ≤ b) := by
  simp only [l1In_eq]
  exact Dec.some (by simp)
theorem specGraphOk_dec {ns : List IN} {es : List IG} (a b : Int) (hn : Few SmN ns) (he : Few SmG es) : Dec (fun k => spec_GraphOk.f k ns es a b) (GraphP ns es a b) := by
  have nl := hn.1
  have el := he.1
  have l1 : Dec (fun k => spec_GraphOk.l1 k 0 ns es a b) ((∀ i : Nat, i < es.length → ((0 ≤ gid es i ∧ gid es i ≤ wrap64 (b - 1)) ∧ EdgeP ns (rd_T104 es (i : Int))) ∧ (0 < i → ¬ gid es (i - 1) ≥ gid es i)) ∧ ns.length ≤ 12 ∧ es.length ≤ 16 ∧ (0 ≤ a ∧ a ≤ 1000000000) ∧ (0 ≤ b ∧ b ≤ 1000000000)) := by
    refine Dec.loop es.length (fun k i => spec_GraphOk.l1 k i ns es a b) _ _ (Dec.succ ?_) (fun i hi R d => Dec.succ ?_)
    · simp only [spec_GraphOk.l1]
      refine Dec.neg (by omega) (Dec.ite (fun c => Dec.ite (fun c' => ?_) (fun c' => Dec.no (fun p => c' (by omega)))) (fun c => Dec.no (fun p => c (by omega))))
      refine (Dec.then (l1In_dec a 0 1000000000) (fun _ => (Dec.bind (Q := 0 ≤ b ∧ b ≤ 1000000000) (l1In_dec b 0 1000000000) (fun h => Dec.yes h) (fun h => Dec.no h)))).iff ⟨fun p => ⟨by omega, by omega, p⟩, fun p => p.2.2⟩
    · simp only [spec_GraphOk.l1, if_pos (show (i : Int) < (es.length : Int) by omega), if_pos (show 0 ≤ (i : Int) by omega), wrap64_succ hi (show es.length ≤ 9223372036854775807 by omega)]
      have s := few_rg he hi
      obtain ⟨r, hr, pr⟩ := l2Node_ev nl es a b (rd_T104 es (i : Int)).f2
      obtain ⟨q, hq, pq⟩ := l2Node_ev nl es a b (rd_T104 es (i : Int)).f3
      have pd := prev_dec' (B := fun j => (rd_T104 es j).f0 ≥ (rd_T104 es (i : Int)).f0) hi (by omega) d
      refine (Dec.then (l1In_dec _ _ _) (fun _ => Dec.then (name_dec s.1) (fun _ => Dec.then (props_dec s.2) (fun _ => Dec.ev hr (Dec.ite (Q := (In ns (rd_T104 es (i : Int)).f2 ∧ In ns (rd_T104 es (i : Int)).f3) ∧ (0 < i → ¬ (rd_T104 es ((i - 1 : Nat) : Int)).f0 ≥ (rd_T104 es (i : Int)).f0) ∧ R) (fun c => Dec.no (fun p => pr.1 c p.1.1)) (fun c => Dec.ev hq (Dec.ite (fun c' => Dec.no (fun p => pq.1 c' p.1.2)) (fun c' => pd.iff ⟨fun x => ⟨⟨Classical.not_not.1 (fun n => c (pr.2 n)), Classical.not_not.1 (fun n => c' (pq.2 n))⟩, x⟩, fun x => x.2⟩)))))))).iff ?_
      exact ⟨fun ⟨a, b, c, ⟨d, e⟩, f, r⟩ => ⟨⟨⟨a, b, c, d, e⟩, f⟩, r⟩, fun ⟨⟨⟨a, b, c, d, e⟩, f⟩, r⟩ => ⟨a, b, c, ⟨d, e⟩, f, r⟩⟩
  have l0 : Dec (fun k => spec_GraphOk.l0 k 0 ns es a b) ((∀ i : Nat, i < ns.length → ((0 ≤ nid ns i ∧ nid ns i ≤ wrap64 (a - 1)) ∧ NodeP (rd_T99 ns (i : Int))) ∧ (0 < i → ¬ nid ns (i - 1) ≥ nid ns i)) ∧ (∀ i : Nat, i < es.length → ((0 ≤ gid es i ∧ gid es i ≤ wrap64 (b - 1)) ∧ EdgeP ns (rd_T104 es (i : Int))) ∧ (0 < i → ¬ gid es (i - 1) ≥ gid es i)) ∧ ns.length ≤ 12 ∧ es.length ≤ 16 ∧ (0 ≤ a ∧ a ≤ 1000000000) ∧ (0 ≤ b ∧ b ≤ 1000000000)) := by
    refine Dec.loop ns.length (fun k i => spec_GraphOk.l0 k i ns es a b) _ _ (Dec.succ ?_) (fun i hi R d => Dec.succ ?_)
    · simp only [spec_GraphOk.l0]
      exact Dec.neg (by omega) l1
    · simp only [spec_GraphOk.l0, if_pos (show (i : Int) < (ns.length : Int) by omega), if_pos (show 0 ≤ (i : Int) by omega), wrap64_succ hi (show ns.length ≤ 9223372036854775807 by omega)]
      have s := few_rn hn hi
      have pd := prev_dec' (B := fun j => (rd_T99 ns j).f0 ≥ (rd_T99 ns (i : Int)).f0) hi (by omega) d
      refine (Dec.then (l1In_dec _ _ _) (fun _ => Dec.then (labels_dec s.1) (fun _ => Dec.then (props_dec s.2) (fun _ => pd)))).iff ?_
      exact ⟨fun ⟨a, b, c, e, r⟩ => ⟨⟨⟨a, b, c⟩, e⟩, r⟩, fun ⟨⟨⟨a, b, c⟩, e⟩, r⟩ => ⟨a, b, c, e, r⟩⟩
  unfold spec_GraphOk.f GraphP
  refine l0.iff ?_
  rw [asc_iff, asc_iff]
  constructor
  · intro ⟨h1, h2, h3, h4, h5, h6⟩
    rw [wrap64_id (by omega) (by omega)] at h1
    rw [wrap64_id (by omega) (by omega)] at h2
    exact ⟨⟨h5.1, h5.2, h6.1, h6.2⟩, ⟨h3, h4⟩, fun j hj => ⟨(h1 j hj).1.1, (h1 j hj).2⟩, fun j hj => ⟨(h2 j hj).1.1, (h2 j hj).2⟩, fun j hj => (h1 j hj).1.2, fun j hj => (h2 j hj).1.2⟩
  · intro ⟨h1, h2, h3, h4, h5, h6⟩
    rw [wrap64_id (by omega) (by omega), wrap64_id (by omega) (by omega)]
    exact ⟨fun j hj => ⟨⟨(h3 j hj).1, h5 j hj⟩, (h3 j hj).2⟩, fun j hj => ⟨⟨(h4 j hj).1, h6 j hj⟩, (h4 j hj).2⟩, h2.1, h2.2, ⟨h1.1, h1.2.1⟩, ⟨h1.2.2.1, h1.2.2.2⟩⟩
end Go.Proofs.Ytcchmhmbjhgfdaa.Pur
