/- Nodes with a label: in the program and in the reference. Rows of numbers: their marks. -/
import Derived.Test.YtcchmhmbjhgfdaaPGraph
import Derived.Test.YtcchmhmbjhgfdaaGx10
import Derived.Test.YtcchmhmbjhgfdaaGx12
import Derived.Test.YtcchmhmbjhgfdaaGx22
import Derived.Test.YtcchmhmbjhgfdaaGx16
namespace Go.Proofs.Ytcchmhmbjhgfdaa.Pur
open Go.RowKit Go.Proofs.Ytcchmhmbjhgfdaa.G Go.Proofs.YtcchmhmbjhgfdaaW.PrintWords Go.Proofs.YtcchmhmbjhgfdaaW.PrintLast
set_option linter.unusedVariables false
set_option linter.unusedSimpArgs false

theorem rd_int {l : List Int} {i : Nat} (h : i < l.length) : rd l (i : Int) = l[i] := by
  unfold rd
  rw [Int.toNat_natCast, List.getD_eq_getElem?_getD, List.getElem?_eq_getElem h]; rfl
theorem eqIntS_refl {l : List Int} (hl : l.length ≤ 1048576) : Ev (fun k => laws_eqIntS.f k l l) true := by
  unfold laws_eqIntS.f
  simp only [if_true]
  have h : ∀ (d i : Nat), l.length = i + d → Ev (fun k => laws_eqIntS.l0 k l l (i : Int)) true := by
    intro d
    induction d with
    | zero => intro i hi; refine Ev.succ ?_; simp only [laws_eqIntS.l0]; exact Ev.neg (by omega) (Ev.some _)
    | succ d ih =>
      intro i hi
      have hlt : i < l.length := by omega
      refine Ev.succ ?_
      simp only [laws_eqIntS.l0, if_pos (show (i : Int) < (l.length : Int) by omega), if_pos (show 0 ≤ (i : Int) by omega), if_true, wrap64_succ hlt (show l.length ≤ 9223372036854775807 by omega)]
      exact ih (i + 1) (by omega)
  exact h l.length 0 (by omega)
/-- The numbers from a on. -/
def from_ (a : Int) : Nat → List Int
  | 0 => []
  | n + 1 => a :: from_ (a + 1) n
theorem from_length (n : Nat) : ∀ a, (from_ a n).length = n := by
  induction n with
  | zero => intro a; rfl
  | succ n ih => intro a; simp [from_, ih]
theorem from_get (n : Nat) : ∀ (a : Int) (i : Nat) (h : i < (from_ a n).length), (from_ a n)[i] = a + i := by
  induction n with
  | zero => intro a i h; simp [from_] at h
  | succ n ih =>
    intro a i h
    cases i with
    | zero => simp [from_]
    | succ i =>
      have := ih (a + 1) i (by simpa [from_] using h)
      simp only [from_, List.getElem_cons_succ]
      rw [this]; omega
theorem markIntS_ev {l : List Int} (hl : l.length ≤ 1048576) : Ev (fun k => laws_markIntS.f k l 1) ((l.length : Int) + 1, from_ 1 l.length) := by
  unfold laws_markIntS.f
  have h : ∀ (d i : Nat) (l' : List Int), l'.length = l.length → l.length = i + d → Ev (fun k => laws_markIntS.l0 k l' (1 + (i : Int)) (i : Int)) ((l.length : Int) + 1, l'.take i ++ from_ (1 + (i : Int)) d) := by
    intro d
    induction d with
    | zero =>
      intro i l' hl' hi
      refine Ev.succ ?_
      simp only [laws_markIntS.l0]
      refine Ev.neg (by omega) (Ev.eq (Ev.some _) ?_)
      rw [List.take_of_length_le (by omega)]
      simp only [from_, List.append_nil]
      congr 1; omega
    | succ d ih =>
      intro i l' hl' hi
      have hlt : i < l.length := by omega
      refine Ev.succ ?_
      simp only [laws_markIntS.l0, if_pos (show (i : Int) < (l'.length : Int) by omega), if_pos (show 0 ≤ (i : Int) by omega), wrap64_succ hlt (show l.length ≤ 9223372036854775807 by omega), Int.toNat_natCast]
      rw [wrap64_id (show -9223372036854775808 ≤ 1 + (i : Int) + 1 by omega) (by omega)]
      have e : 1 + (i : Int) + 1 = 1 + ((i + 1 : Nat) : Int) := by omega
      rw [e]
      refine Ev.eq (ih (i + 1) (l'.set i (1 + (i : Int))) (by simpa using hl') (by omega)) ?_
      have e2 : (l'.set i (1 + (i : Int))).take (i + 1) = l'.take i ++ [1 + (i : Int)] := by
        rw [List.take_succ_eq_append_getElem (by rw [List.length_set]; omega), List.take_set_of_le (Nat.le_refl _)]
        simp
      rw [e2, List.append_assoc]
      simp only [from_, List.singleton_append, e]
  have := h l.length 0 l rfl (by omega)
  simpa using this
theorem heldIntS_ev {n : Nat} (hn : n ≤ 1048576) : Ev (fun k => laws_heldIntS.f k (from_ 1 n) 1) ((n : Int) + 1) := by
  unfold laws_heldIntS.f
  have hl := from_length n 1
  have h : ∀ (d i : Nat), n = i + d → Ev (fun k => laws_heldIntS.l0 k (from_ 1 n) (1 + (i : Int)) (i : Int)) ((n : Int) + 1) := by
    intro d
    induction d with
    | zero =>
      intro i hi
      refine Ev.succ ?_
      simp only [laws_heldIntS.l0]
      exact Ev.neg (by omega) (Ev.eq (Ev.some _) (by omega))
    | succ d ih =>
      intro i hi
      have hlt : i < (from_ 1 n).length := by omega
      refine Ev.succ ?_
      simp only [laws_heldIntS.l0, if_pos (show (i : Int) < ((from_ 1 n).length : Int) by omega), if_pos (show 0 ≤ (i : Int) by omega), rd_int hlt, from_get, if_true]
      rw [wrap64_succ (show i < n by omega) (by omega), wrap64_id (show -9223372036854775808 ≤ 1 + (i : Int) + 1 by omega) (by omega)]
      have e : 1 + (i : Int) + 1 = 1 + ((i + 1 : Nat) : Int) := by omega
      rw [e]
      exact ih (i + 1) (by omega)
  have := h n 0 (by omega)
  simpa using this

/-- Whether a node has a label. -/
def hasB (l : List ByteArray) (s : ByteArray) : Bool := decide (s.size = 0) || l.any (fun x => decide (x = s))
theorem l2Has_ev {l : List ByteArray} (hl : l.length ≤ 1048576) (s : ByteArray) : Ev (fun k => spec_l2Has.f k l s) (l.any (fun x => decide (x = s))) := by
  unfold spec_l2Has.f
  have h : ∀ (d i : Nat), l.length = i + d → Ev (fun k => spec_l2Has.l0 k l s (i : Int)) ((l.drop i).any (fun x => decide (x = s))) := by
    intro d
    induction d with
    | zero => intro i hi; refine Ev.succ ?_; simp only [spec_l2Has.l0]; rw [List.drop_of_length_le (by omega)]; exact Ev.neg (by omega) (Ev.some _)
    | succ d ih =>
      intro i hi
      have hlt : i < l.length := by omega
      refine Ev.succ ?_
      simp only [spec_l2Has.l0, if_pos (show (i : Int) < (l.length : Int) by omega), if_pos (show 0 ≤ (i : Int) by omega), rd_st hlt, toList_inj, wrap64_succ hlt (show l.length ≤ 9223372036854775807 by omega)]
      rw [List.drop_eq_getElem_cons hlt, List.any_cons]
      by_cases c : l[i] = s
      · simp only [if_pos c]; exact Ev.eq (Ev.some _) (by simp [c])
      · simp only [if_neg c]; exact Ev.eq (ih (i + 1) (by omega)) (by simp [c])
  have := h l.length 0 (by omega)
  simpa using this
theorem contains_ev {l : List ByteArray} (hl : l.length ≤ 1048576) (s : ByteArray) : Ev (fun k => slices_Contains_string_string.f k l s) (l.any (fun x => decide (x = s))) := by
  unfold slices_Contains_string_string.f slices_Index_string_string.f
  have h : ∀ (d i : Nat), l.length = i + d → ∃ r, Ev (fun k => slices_Index_string_string.l0 k l s (l.length : Int) (i : Int)) r ∧ (0 ≤ r ↔ (l.drop i).any (fun x => decide (x = s)) = true) := by
    intro d
    induction d with
    | zero => intro i hi; refine ⟨-1, Ev.succ ?_, ?_⟩; simp only [slices_Index_string_string.l0]; exact Ev.neg (by omega) (Ev.some _); rw [List.drop_of_length_le (by omega)]; simp
    | succ d ih =>
      intro i hi
      have hlt : i < l.length := by omega
      obtain ⟨r, hr, hp⟩ := ih (i + 1) (by omega)
      by_cases c : s = l[i]
      · refine ⟨i, Ev.succ ?_, ?_⟩
        · simp only [slices_Index_string_string.l0, if_pos (show (i : Int) < (l.length : Int) by omega), if_pos (show 0 ≤ (i : Int) by omega), rd_st hlt, toList_inj, if_pos c]
          exact Ev.some _
        · rw [List.drop_eq_getElem_cons hlt, List.any_cons]; simp [← c]
      · refine ⟨r, Ev.succ ?_, ?_⟩
        · simp only [slices_Index_string_string.l0, if_pos (show (i : Int) < (l.length : Int) by omega), if_pos (show 0 ≤ (i : Int) by omega), rd_st hlt, toList_inj, if_neg c, wrap64_succ hlt (show l.length ≤ 9223372036854775807 by omega)]
          exact hr
        · rw [List.drop_eq_getElem_cons hlt, List.any_cons, hp]; simp [show ¬ l[i] = s from fun e => c e.symm]
  obtain ⟨r, hr, hp⟩ := h l.length 0 (by omega)
  refine Ev.bind hr (Ev.eq (Ev.some _) ?_)
  rw [Bool.eq_iff_iff, decide_eq_true_iff]
  simpa using hp
theorem hasLabel_ev {l : List ByteArray} (hl : l.length ≤ 1048576) (a : Int) (ps : List IP) (s : ByteArray) : Ev (fun k => impl_hasLabel.f k a l ps s) (hasB l s) := by
  unfold impl_hasLabel.f hasB
  have e : (s.toList = []) ↔ s.size = 0 := toList_nil s
  by_cases c : s.size = 0
  · simp only [if_pos (e.2 c)]; exact Ev.eq (Ev.some _) (by simp [c])
  · simp only [if_neg (fun h => c (e.1 h))]
    exact Ev.bind (contains_ev hl s) (Ev.eq (Ev.some _) (by simp [c]))
/-- The numbers of the nodes with a label. -/
def withL (ns : List IN) (s : ByteArray) : List Int := (ns.filter (fun n => hasB n.f1 s)).map (fun n => n.f0)
theorem withL_len (ns : List IN) (s : ByteArray) : (withL ns s).length ≤ ns.length := by unfold withL; rw [List.length_map]; exact List.length_filter_le _ _
theorem withL_take {ns : List IN} {s : ByteArray} {i : Nat} (h : i < ns.length) : withL (ns.take (i + 1)) s = withL (ns.take i) s ++ (if hasB ns[i].f1 s = true then [ns[i].f0] else []) := by
  unfold withL
  rw [List.take_succ_eq_append_getElem h, List.filter_append, List.map_append]
  congr 1
  by_cases c : hasB ns[i].f1 s = true <;> simp [c]
theorem l2With_ev {ns : List IN} (hn : Few SmN ns) (es : List IG) (a b : Int) (s : ByteArray) : Ev (fun k => spec_l2With.f k ns es a b s) (withL ns s) := by
  unfold spec_l2With.f
  have h : ∀ (d i : Nat), ns.length = i + d → Ev (fun k => spec_l2With.l0 k s (withL (ns.take i) s) (i : Int) ns es a b) (withL ns s) := by
    intro d
    induction d with
    | zero => intro i hi; refine Ev.succ ?_; simp only [spec_l2With.l0]; rw [List.take_of_length_le (by omega)]; exact Ev.neg (by omega) (Ev.some _)
    | succ d ih =>
      intro i hi
      have hlt : i < ns.length := by omega
      have h1 := hn.1
      have hlen := withL_len (ns.take i) s
      have hlen2 : (withL (ns.take i) s).length < 17592186044416 := by rw [List.length_take] at hlen; omega
      refine Ev.succ ?_
      have e : (s.toList = []) ↔ s.size = 0 := toList_nil s
      have ht := withL_take (s := s) hlt
      have hi' := ih (i + 1) (by omega)
      rw [ht] at hi'
      simp only [spec_l2With.l0, if_pos (show (i : Int) < (ns.length : Int) by omega), if_pos (show 0 ≤ (i : Int) by omega), rd_in hlt, wrap64_succ hlt (show ns.length ≤ 9223372036854775807 by omega), if_pos hlen2]
      by_cases c : s.size = 0
      · simp only [if_pos (e.2 c)]
        have : hasB ns[i].f1 s = true := by simp [hasB, c]
        rw [if_pos this] at hi'
        exact hi'
      · simp only [if_neg (fun h => c (e.1 h))]
        refine Ev.bind (l2Has_ev (hn.2 _ (List.getElem_mem hlt)).1.1 s) ?_
        have hb : hasB ns[i].f1 s = ns[i].f1.any (fun x => decide (x = s)) := by simp [hasB, c]
        rw [← hb]
        by_cases q : hasB ns[i].f1 s = true
        · simp only [if_pos q] at hi' ⊢; exact hi'
        · simp only [if_neg q] at hi' ⊢; simpa using hi'
  have := h ns.length 0 (by omega)
  simpa [withL] using this
theorem implWith_ev {ns : List IN} (hn : Few SmN ns) (s : ByteArray) : Ev (fun k => impl_NodesWith.l0 k s [] ns (ns.length : Int) 0) (withL ns s) := by
  have h : ∀ (d i : Nat), ns.length = i + d → Ev (fun k => impl_NodesWith.l0 k s (withL (ns.take i) s) ns (ns.length : Int) (i : Int)) (withL ns s) := by
    intro d
    induction d with
    | zero => intro i hi; refine Ev.succ ?_; simp only [impl_NodesWith.l0]; rw [List.take_of_length_le (by omega)]; exact Ev.neg (by omega) (Ev.some _)
    | succ d ih =>
      intro i hi
      have hlt : i < ns.length := by omega
      have h1 := hn.1
      have hlen := withL_len (ns.take i) s
      have hlen2 : (withL (ns.take i) s).length < 17592186044416 := by rw [List.length_take] at hlen; omega
      refine Ev.succ ?_
      have ht := withL_take (s := s) hlt
      have hi' := ih (i + 1) (by omega)
      rw [ht] at hi'
      simp only [impl_NodesWith.l0, if_pos (show (i : Int) < (ns.length : Int) by omega), if_pos (show 0 ≤ (i : Int) by omega), rd_in hlt, wrap64_succ hlt (show ns.length ≤ 9223372036854775807 by omega), if_pos hlen2]
      refine Ev.bind (hasLabel_ev (hn.2 _ (List.getElem_mem hlt)).1.1 _ _ s) ?_
      by_cases q : hasB ns[i].f1 s = true
      · simp only [if_pos q] at hi' ⊢; exact hi'
      · simp only [if_neg q] at hi' ⊢; simpa using hi'
  have := h ns.length 0 (by omega)
  simpa [withL] using this
/-- What both answer. -/
noncomputable def withG (ns : List IN) (es : List IG) (a b : Int) (s : ByteArray) : List Int := open Classical in if GraphP ns es a b then withL ns s else []
theorem withG_len {ns : List IN} (hn : ns.length ≤ 1048576) (es : List IG) (a b : Int) (s : ByteArray) : (withG ns es a b s).length ≤ 1048576 := by
  unfold withG
  split
  · exact Nat.le_trans (withL_len ns s) hn
  · simp
theorem specWith_ev {ns : List IN} {es : List IG} (a b : Int) (hn : Few SmN ns) (he : Few SmG es) (s : ByteArray) : Ev (fun k => spec_NodesWith.f k ns es a b s) (withG ns es a b s) := by
  unfold spec_NodesWith.f withG
  obtain ⟨r, hr, hp⟩ := specGraphOk_dec a b hn he
  refine Ev.bind hr ?_
  by_cases c : r = true
  · rw [if_pos (hp.1 c)]; simp only [if_pos c]; exact Ev.bind (l2With_ev hn es a b s) (Ev.some _)
  · rw [if_neg (fun h => c (hp.2 h))]; simp only [if_neg c]; exact Ev.some _
theorem implNodesWith_ev {ns : List IN} {es : List IG} (a b : Int) (hn : Few SmN ns) (he : Few SmG es) (s : ByteArray) : Ev (fun k => impl_NodesWith.f k ns es a b s) (withG ns es a b s) := by
  unfold impl_NodesWith.f withG
  obtain ⟨r, hr, hp⟩ := implGraphOk_dec a b hn he
  refine Ev.bind hr ?_
  by_cases c : r = true
  · rw [if_pos (hp.1 c)]; simp only [if_pos c]; exact implWith_ev hn s
  · rw [if_neg (fun h => c (hp.2 h))]; simp only [if_neg c]; exact Ev.some _
end Go.Proofs.Ytcchmhmbjhgfdaa.Pur
