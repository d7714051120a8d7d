import Derived.Test.YtcchmhmbjhgfdaaY24
import Derived.Test.YtcchmhmbjhgfdaaY15
import Derived.Test.YtcchmhmbjhgfdaaY21
import Derived.Test.YtcchmhmbjhgfdaaY25
import Derived.Test.YtcchmhmbjhgfdaaY8
import Derived.Test.YtcchmhmbjhgfdaaY9
import Derived.Test.YtcchmhmbjhgfdaaY14
import Derived.Test.YtcchmhmbjhgfdaaY22
import Derived.Test.YtcchmhmbjhgfdaaY16
import Derived.Test.YtcchmhmbjhgfdaaY23
namespace Go.Proofs.Ytcchmhmbjhgfdaa.Pur
open Go.RowKit Go.Proofs.Ytcchmhmbjhgfdaa.G Go.Proofs.YtcchmhmbjhgfdaaW.PrintWords Go.Proofs.YtcchmhmbjhgfdaaW.PrintLast
set_option linter.unusedVariables false
set_option linter.unusedSimpArgs false
open Classical in
noncomputable def sameB (a b : IV) : Bool := decide (a = b)
theorem sameB_true {a b : IV} : sameB a b = true ↔ a = b := by unfold sameB; simp
theorem sameB_false {a b : IV} (h : a ≠ b) : sameB a b = false := by unfold sameB; simp [h]
theorem iv_ext {a b : IV} (h0 : a.f0 = b.f0) (h1 : a.f1 = b.f1) (h2 : a.f2 = b.f2) (h3 : a.f3 = b.f3) : a = b := by
  cases a; cases b; simp_all
theorem same_core (F : Nat → IV → IV → Option Bool) (J : Nat → Bool → IV → IV → Option Bool) (L : Nat → Int → IV → IV → Option Bool)
    (hF : ∀ k a b, F (k + 1) a b = if a.f0 = b.f0 then (if a.f1 = b.f1 then (if a.f2.toList = b.f2.toList then J k ((a.f3.length : Int) != (b.f3.length : Int)) a b else J k true a b) else J k true a b) else J k true a b)
    (hJ : ∀ k x a b, J (k + 1) x a b = if x = true then some false else L k 0 a b)
    (hL0 : ∀ k a b, a.f3.length = b.f3.length → L (k + 1) (a.f3.length : Int) a b = some true)
    (hL1 : ∀ k a b (i : Nat) (h : i < a.f3.length) (h' : i < b.f3.length), a.f3.length ≤ 1048576 → a.f3.length = b.f3.length → L (k + 1) (i : Int) a b = (F k a.f3[i] b.f3[i]).bind fun t => if t = true then L k ((i + 1 : Nat) : Int) a b else some false)
    {a : IV} (sa : Sm a) : ∀ {b : IV}, Sm b → Ev (fun k => F k a b) (sameB a b) := by
  induction sa with
  | @mk x h2 h3 h4 ih =>
    intro b sb
    obtain ⟨g2, g3, g4⟩ := sb.all
    have jt : Ev (fun k => J k true x b) false := Ev.succ (Ev.of_eq fun k => by rw [hJ, if_pos rfl])
    refine Ev.succ ?_
    simp only [hF]
    refine Ev.ite (fun c0 => ?_) (fun c0 => Ev.eq jt (sameB_false fun e => c0 (by rw [e])).symm)
    refine Ev.ite (fun c1 => ?_) (fun c1 => Ev.eq jt (sameB_false fun e => c1 (by rw [e])).symm)
    refine Ev.ite (fun c2 => ?_) (fun c2 => Ev.eq jt (sameB_false fun e => c2 (by rw [e])).symm)
    by_cases c3 : x.f3.length = b.f3.length
    · have : ((x.f3.length : Int) != (b.f3.length : Int)) = false := by simp [c3]
      rw [this]
      refine Ev.succ ?_
      simp only [hJ, Bool.false_eq_true, if_false]
      have loop : ∀ (d i : Nat), x.f3.length = i + d → ∃ r, Ev (fun k => L k (i : Int) x b) r ∧ (r = true ↔ ∀ j, ∀ h : j < x.f3.length, ∀ h' : j < b.f3.length, i ≤ j → x.f3[j] = b.f3[j]) := by
        intro d
        induction d with
        | zero =>
          intro i hi
          refine ⟨true, Ev.succ (Ev.of_eq fun k => ?_), ⟨fun _ j hj hj' hij => by omega, fun _ => rfl⟩⟩
          have : (i : Int) = (x.f3.length : Int) := by omega
          rw [this, hL0 k x b c3]
        | succ d ihd =>
          intro i hi
          have hlt : i < x.f3.length := by omega
          have hlt' : i < b.f3.length := by omega
          have he := ih x.f3[i] (List.getElem_mem hlt) (g4 _ (List.getElem_mem hlt'))
          obtain ⟨q, hq, hp⟩ := ihd (i + 1) (by omega)
          by_cases e : x.f3[i] = b.f3[i]
          · refine ⟨q, Ev.succ ?_, ?_⟩
            · simp only [hL1 _ x b i hlt hlt' h3 c3]
              refine Ev.bind he ?_
              simp only [sameB_true.2 e, if_true]
              exact hq
            · rw [hp]
              constructor
              · intro h j hj hj' hij
                by_cases e' : i = j
                · subst e'; exact e
                · exact h j hj hj' (by omega)
              · intro h j hj hj' hij; exact h j hj hj' (by omega)
          · refine ⟨false, Ev.succ ?_, ⟨(fun h => by cases h), (fun h => absurd (h i hlt hlt' (Nat.le_refl _)) e)⟩⟩
            simp only [hL1 _ x b i hlt hlt' h3 c3]
            refine Ev.bind he ?_
            simp only [sameB_false e, Bool.false_eq_true, if_false]
            exact Ev.some _
      obtain ⟨r, hr, hp⟩ := loop x.f3.length 0 (by omega)
      refine Ev.eq hr ?_
      rw [Bool.eq_iff_iff, hp, sameB_true]
      constructor
      · intro h
        refine iv_ext c0 c1 (toList_inj.1 c2) (List.ext_getElem c3 fun j hj hj' => h j hj hj' (Nat.zero_le _))
      · intro h j hj hj' _
        subst h; rfl
    · have : ((x.f3.length : Int) != (b.f3.length : Int)) = true := by simp; omega
      rw [this]
      exact Ev.eq jt (sameB_false fun e => c3 (by rw [e])).symm
theorem l1Same_ev {a b : IV} (sa : Sm a) (sb : Sm b) : Ev (fun k => spec_l1Same.f k a.f0 a.f1 a.f2 a.f3 b.f0 b.f1 b.f2 b.f3) (sameB a b) :=
  same_core (fun k a b => spec_l1Same.f k a.f0 a.f1 a.f2 a.f3 b.f0 b.f1 b.f2 b.f3) (fun k x a b => spec_l1Same.j0 k x a.f0 a.f1 a.f2 a.f3 b.f0 b.f1 b.f2 b.f3) (fun k i a b => spec_l1Same.l0 k i a.f0 a.f1 a.f2 a.f3 b.f0 b.f1 b.f2 b.f3)
    (fun k a b => by simp only [spec_l1Same.f]) (fun k x a b => by simp only [spec_l1Same.j0])
    (fun k a b e => by simp only [spec_l1Same.l0]; rw [if_neg (by omega)])
    (fun k a b i h h' hs e => by simp only [spec_l1Same.l0]; rw [if_pos (by omega), if_pos (by omega), if_pos (by omega), rd_iv h, rd_iv h', wrap64_succ h (by omega)]) sa sb
theorem sameOf_ev {a b : IV} (sa : Sm a) (sb : Sm b) : Ev (fun k => impl_sameOf.f k a.f0 a.f1 a.f2 a.f3 b.f0 b.f1 b.f2 b.f3) (sameB a b) :=
  same_core (fun k a b => impl_sameOf.f k a.f0 a.f1 a.f2 a.f3 b.f0 b.f1 b.f2 b.f3) (fun k x a b => impl_sameOf.j0 k x a.f0 a.f1 a.f2 a.f3 b.f0 b.f1 b.f2 b.f3) (fun k i a b => impl_sameOf.l0 k (a.f3.length : Int) i a.f0 a.f1 a.f2 a.f3 b.f0 b.f1 b.f2 b.f3)
    (fun k a b => by simp only [impl_sameOf.f]) (fun k x a b => by simp only [impl_sameOf.j0])
    (fun k a b e => by simp only [impl_sameOf.l0]; rw [if_neg (by omega)])
    (fun k a b i h h' hs e => by simp only [impl_sameOf.l0]; rw [if_pos (by omega), if_pos (by omega), if_pos (by omega), if_pos (by omega), rd_iv h, rd_iv h', wrap64_succ h (by omega)]) sa sb
end Go.Proofs.Ytcchmhmbjhgfdaa.Pur
namespace Go.Proofs.Ytcchmhmbjhgfdaa.Pur
open Go.RowKit Go.Proofs.Ytcchmhmbjhgfdaa.G Go.Proofs.YtcchmhmbjhgfdaaW.PrintWords Go.Proofs.YtcchmhmbjhgfdaaW.PrintLast
set_option linter.unusedVariables false
set_option linter.unusedSimpArgs false
theorem rd_int {l : List Int} {i : Nat} (h : i < l.length) : rd l (i : Int) = l[i] := by
  unfold rd
  rw [Int.toNat_natCast, List.getD_eq_getElem?_getD, List.getElem?_eq_getElem h]; rfl
theorem eqIntS_refl {l : List Int} (hl : l.length ≤ 1048576) : Ev (fun k => laws_eqIntS.f k l l) true := by
  unfold laws_eqIntS.f
  simp only [if_true]
  have h : ∀ (d i : Nat), l.length = i + d → Ev (fun k => laws_eqIntS.l0 k l l (i : Int)) true := by
    intro d
    induction d with
    | zero => intro i hi; refine Ev.succ ?_; simp only [laws_eqIntS.l0]; exact Ev.neg (by omega) (Ev.some _)
    | succ d ih =>
      intro i hi
      have hlt : i < l.length := by omega
      refine Ev.succ ?_
      simp only [laws_eqIntS.l0, if_pos (show (i : Int) < (l.length : Int) by omega), if_pos (show 0 ≤ (i : Int) by omega), if_true, wrap64_succ hlt (show l.length ≤ 9223372036854775807 by omega)]
      exact ih (i + 1) (by omega)
  exact h l.length 0 (by omega)
def from_ (a : Int) : Nat → List Int
  | 0 => []
  | n + 1 => a :: from_ (a + 1) n
theorem from_length (n : Nat) : ∀ a, (from_ a n).length = n := by
  induction n with
  | zero => intro a; rfl
  | succ n ih => intro a; simp [from_, ih]
theorem from_get (n : Nat) : ∀ (a : Int) (i : Nat) (h : i < (from_ a n).length), (from_ a n)[i] = a + i := by
  induction n with
  | zero => intro a i h; simp [from_] at h
  | succ n ih =>
    intro a i h
    cases i with
    | zero => simp [from_]
    | succ i =>
      have := ih (a + 1) i (by simpa [from_] using h)
      simp only [from_, List.getElem_cons_succ]
      rw [this]; omega
theorem markIntS_ev {l : List Int} (hl : l.length ≤ 1048576) : Ev (fun k => laws_markIntS.f k l 1) ((l.length : Int) + 1, from_ 1 l.length) := by
  unfold laws_markIntS.f
  have h : ∀ (d i : Nat) (l' : List Int), l'.length = l.length → l.length = i + d → Ev (fun k => laws_markIntS.l0 k l' (1 + (i : Int)) (i : Int)) ((l.length : Int) + 1, l'.take i ++ from_ (1 + (i : Int)) d) := by
    intro d
    induction d with
    | zero =>
      intro i l' hl' hi
      refine Ev.succ ?_
      simp only [laws_markIntS.l0]
      refine Ev.neg (by omega) (Ev.eq (Ev.some _) ?_)
      rw [List.take_of_length_le (by omega)]
      simp only [from_, List.append_nil]
      congr 1; omega
    | succ d ih =>
      intro i l' hl' hi
      have hlt : i < l.length := by omega
      refine Ev.succ ?_
      simp only [laws_markIntS.l0, if_pos (show (i : Int) < (l'.length : Int) by omega), if_pos (show 0 ≤ (i : Int) by omega), wrap64_succ hlt (show l.length ≤ 9223372036854775807 by omega), Int.toNat_natCast]
      rw [wrap64_id (show -9223372036854775808 ≤ 1 + (i : Int) + 1 by omega) (by omega)]
      have e : 1 + (i : Int) + 1 = 1 + ((i + 1 : Nat) : Int) := by omega
      rw [e]
      refine Ev.eq (ih (i + 1) (l'.set i (1 + (i : Int))) (by simpa using hl') (by omega)) ?_
      have e2 : (l'.set i (1 + (i : Int))).take (i + 1) = l'.take i ++ [1 + (i : Int)] := by
        rw [List.take_succ_eq_append_getElem (by rw [List.length_set]; omega), List.take_set_of_le (Nat.le_refl _)]
        simp
      rw [e2, List.append_assoc]
      simp only [from_, List.singleton_append, e]
  have := h l.length 0 l rfl (by omega)
  simpa using this
theorem heldIntS_ev {n : Nat} (hn : n ≤ 1048576) : Ev (fun k => laws_heldIntS.f k (from_ 1 n) 1) ((n : Int) + 1) := by
  unfold laws_heldIntS.f
  have hl := from_length n 1
  have h : ∀ (d i : Nat), n = i + d → Ev (fun k => laws_heldIntS.l0 k (from_ 1 n) (1 + (i : Int)) (i : Int)) ((n : Int) + 1) := by
    intro d
    induction d with
    | zero =>
      intro i hi
      refine Ev.succ ?_
      simp only [laws_heldIntS.l0]
      exact Ev.neg (by omega) (Ev.eq (Ev.some _) (by omega))
    | succ d ih =>
      intro i hi
      have hlt : i < (from_ 1 n).length := by omega
      refine Ev.succ ?_
      simp only [laws_heldIntS.l0, if_pos (show (i : Int) < ((from_ 1 n).length : Int) by omega), if_pos (show 0 ≤ (i : Int) by omega), rd_int hlt, from_get, if_true]
      rw [wrap64_succ (show i < n by omega) (by omega), wrap64_id (show -9223372036854775808 ≤ 1 + (i : Int) + 1 by omega) (by omega)]
      have e : 1 + (i : Int) + 1 = 1 + ((i + 1 : Nat) : Int) := by omega
      rw [e]
      exact ih (i + 1) (by omega)
  have := h n 0 (by omega)
  simpa using this
def hasB (l : List ByteArray) (s : ByteArray) : Bool := decide (s.size = 0) || l.any (fun x => decide (x = s))
theorem l2Has_ev {l : List ByteArray} (hl : l.length ≤ 1048576) (s : ByteArray) : Ev (fun k => spec_l2Has.f k l s) (l.any (fun x => decide (x = s))) := by
  unfold spec_l2Has.f
  have h : ∀ (d i : Nat), l.length = i + d → Ev (fun k => spec_l2Has.l0 k l s (i : Int)) ((l.drop i).any (fun x => decide (x = s))) := by
    intro d
    induction d with
    | zero => intro i hi; refine Ev.succ ?_; simp only [spec_l2Has.l0]; rw [List.drop_of_length_le (by omega)]; exact Ev.neg (by omega) (Ev.some _)
    | succ d ih =>
      intro i hi
      have hlt : i < l.length := by omega
      refine Ev.succ ?_
      simp only [spec_l2Has.l0, if_pos (show (i : Int) < (l.length : Int) by omega), if_pos (show 0 ≤ (i : Int) by omega), rd_st hlt, toList_inj, wrap64_succ hlt (show l.length ≤ 9223372036854775807 by omega)]
      rw [List.drop_eq_getElem_cons hlt, List.any_cons]
      by_cases c : l[i] = s
      · simp only [if_pos c]; exact Ev.eq (Ev.some _) (by simp [c])
      · simp only [if_neg c]; exact Ev.eq (ih (i + 1) (by omega)) (by simp [c])
  have := h l.length 0 (by omega)
  simpa using this
theorem contains_ev {l : List ByteArray} (hl : l.length ≤ 1048576) (s : ByteArray) : Ev (fun k => slices_Contains_string_string.f k l s) (l.any (fun x => decide (x = s))) := by
  unfold slices_Contains_string_string.f slices_Index_string_string.f
  have h : ∀ (d i : Nat), l.length = i + d → ∃ r, Ev (fun k => slices_Index_string_string.l0 k l s (l.length : Int) (i : Int)) r ∧ (0 ≤ r ↔ (l.drop i).any (fun x => decide (x = s)) = true) := by
    intro d
    induction d with
    | zero => intro i hi; refine ⟨-1, Ev.succ ?_, ?_⟩; simp only [slices_Index_string_string.l0]; exact Ev.neg (by omega) (Ev.some _); rw [List.drop_of_length_le (by omega)]; simp
    | succ d ih =>
      intro i hi
      have hlt : i < l.length := by omega
      obtain ⟨r, hr, hp⟩ := ih (i + 1) (by omega)
      by_cases c : s = l[i]
      · refine ⟨i, Ev.succ ?_, ?_⟩
        · simp only [slices_Index_string_string.l0, if_pos (show (i : Int) < (l.length : Int) by omega), if_pos (show 0 ≤ (i : Int) by omega), rd_st hlt, toList_inj, if_pos c]
          exact Ev.some _
        · rw [List.drop_eq_getElem_cons hlt, List.any_cons]; simp [← c]
      · refine ⟨r, Ev.succ ?_, ?_⟩
        · simp only [slices_Index_string_string.l0, if_pos (show (i : Int) < (l.length : Int) by omega), if_pos (show 0 ≤ (i : Int) by omega), rd_st hlt, toList_inj, if_neg c, wrap64_succ hlt (show l.length ≤ 9223372036854775807 by omega)]
          exact hr
        · rw [List.drop_eq_getElem_cons hlt, List.any_cons, hp]; simp [show ¬ l[i] = s from fun e => c e.symm]
  obtain ⟨r, hr, hp⟩ := h l.length 0 (by omega)
  refine Ev.bind hr (Ev.eq (Ev.some _) ?_)
  rw [Bool.eq_iff_iff, decide_eq_true_iff]
  simpa using hp
theorem hasLabel_ev {l : List ByteArray} (hl : l.length ≤ 1048576) (a : Int) (ps : List IP) (s : ByteArray) : Ev (fun k => impl_hasLabel.f k a l ps s) (hasB l s) := by
  unfold impl_hasLabel.f hasB
  have e : (s.toList = []) ↔ s.size = 0 := toList_nil s
  by_cases c : s.size = 0
  · simp only [if_pos (e.2 c)]; exact Ev.eq (Ev.some _) (by simp [c])
  · simp only [if_neg (fun h => c (e.1 h))]
    exact Ev.bind (contains_ev hl s) (Ev.eq (Ev.some _) (by simp [c]))
def withL (ns : List IN) (s : ByteArray) : List Int := (ns.filter (fun n => hasB n.f1 s)).map (fun n => n.f0)
theorem withL_len (ns : List IN) (s : ByteArray) : (withL ns s).length ≤ ns.length := by unfold withL; rw [List.length_map]; exact List.length_filter_le _ _
theorem withL_take {ns : List IN} {s : ByteArray} {i : Nat} (h : i < ns.length) : withL (ns.take (i + 1)) s = withL (ns.take i) s ++ (if hasB ns[i].f1 s = true then [ns[i].f0] else []) := by
  unfold withL
  rw [List.take_succ_eq_append_getElem h, List.filter_append, List.map_append]
  congr 1
  by_cases c : hasB ns[i].f1 s = true <;> simp [c]
theorem l2With_ev {ns : List IN} (hn : Few SmN ns) (es : List IG) (a b : Int) (s : ByteArray) : Ev (fun k => spec_l2With.f k ns es a b s) (withL ns s) := by
  unfold spec_l2With.f
  have h : ∀ (d i : Nat), ns.length = i + d → Ev (fun k => spec_l2With.l0 k s (withL (ns.take i) s) (i : Int) ns es a b) (withL ns s) := by
    intro d
    induction d with
    | zero => intro i hi; refine Ev.succ ?_; simp only [spec_l2With.l0]; rw [List.take_of_length_le (by omega)]; exact Ev.neg (by omega) (Ev.some _)
    | succ d ih =>
      intro i hi
      have hlt : i < ns.length := by omega
      have h1 := hn.1
      have hlen := withL_len (ns.take i) s
      have hlen2 : (withL (ns.take i) s).length < 17592186044416 := by rw [List.length_take] at hlen; omega
      refine Ev.succ ?_
      have e : (s.toList = []) ↔ s.size = 0 := toList_nil s
      have ht := withL_take (s := s) hlt
      have hi' := ih (i + 1) (by omega)
      rw [ht] at hi'
      simp only [spec_l2With.l0, if_pos (show (i : Int) < (ns.length : Int) by omega), if_pos (show 0 ≤ (i : Int) by omega), rd_in hlt, wrap64_succ hlt (show ns.length ≤ 9223372036854775807 by omega), if_pos hlen2]
      by_cases c : s.size = 0
      · simp only [if_pos (e.2 c)]
        have : hasB ns[i].f1 s = true := by simp [hasB, c]
        rw [if_pos this] at hi'
        exact hi'
      · simp only [if_neg (fun h => c (e.1 h))]
        refine Ev.bind (l2Has_ev (hn.2 _ (List.getElem_mem hlt)).1.1 s) ?_
        have hb : hasB ns[i].f1 s = ns[i].f1.any (fun x => decide (x = s)) := by simp [hasB, c]
        rw [← hb]
        by_cases q : hasB ns[i].f1 s = true
        · simp only [if_pos q] at hi' ⊢; exact hi'
        · simp only [if_neg q] at hi' ⊢; simpa using hi'
  have := h ns.length 0 (by omega)
  simpa [withL] using this
end Go.Proofs.Ytcchmhmbjhgfdaa.Pur
namespace Go.Proofs.Ytcchmhmbjhgfdaa.Pur
open Go.RowKit Go.Proofs.Ytcchmhmbjhgfdaa.G Go.Proofs.YtcchmhmbjhgfdaaW.PrintWords Go.Proofs.YtcchmhmbjhgfdaaW.PrintLast
set_option linter.unusedVariables false
set_option linter.unusedSimpArgs false
abbrev tup (x : IV) : Int × Int × ByteArray × List IV := (x.f0, x.f1, x.f2, x.f3)
theorem l1Copy_ev {x : IV} (sm : Sm x) : Ev (fun k => spec_l1Copy.f k x.f0 x.f1 x.f2 x.f3) (tup x) := by
  induction sm with
  | @mk x h2 h3 h4 ih =>
    refine Ev.succ ?_
    simp only [spec_l1Copy.f]
    have h : ∀ (d i : Nat), x.f3.length = i + d → Ev (fun k => spec_l1Copy.l0 k (i : Int) x.f0 x.f1 x.f2 x.f3 x.f0 x.f1 x.f2 (x.f3.take i)) (tup x) := by
      intro d
      induction d with
      | zero =>
        intro i hi
        refine Ev.succ ?_
        simp only [spec_l1Copy.l0]
        rw [List.take_of_length_le (by omega)]
        exact Ev.neg (by omega) (Ev.some _)
      | succ d ihd =>
        intro i hi
        have hlt : i < x.f3.length := by omega
        have hlen : (x.f3.take i).length < 2513169434916 := by rw [List.length_take]; omega
        refine Ev.succ ?_
        simp only [spec_l1Copy.l0, if_pos (show (i : Int) < (x.f3.length : Int) by omega), if_pos (show 0 ≤ (i : Int) by omega), rd_iv hlt, if_pos hlen, wrap64_succ hlt (show x.f3.length ≤ 9223372036854775807 by omega)]
        refine Ev.bind (ih x.f3[i] (List.getElem_mem hlt)) ?_
        have := ihd (i + 1) (by omega)
        rw [List.take_succ_eq_append_getElem hlt] at this
        rw [show (⟨(tup x.f3[i]).1, (tup x.f3[i]).2.1, (tup x.f3[i]).2.2.1, (tup x.f3[i]).2.2.2⟩ : IV) = x.f3[i] from (iv_eta _).symm]
        exact this
    exact h x.f3.length 0 (by omega)
def getP : List IP → ByteArray → IV
  | [], _ => ⟨0, 0, ⟨#[]⟩, []⟩
  | p :: ps, s => if p.f0 = s then p.f1 else getP ps s
theorem getP_sm {ps : List IP} (h : Few SmP ps) (s : ByteArray) : Sm (getP ps s) := by
  obtain ⟨h0, h⟩ := h
  clear h0
  induction ps with
  | nil => exact .mk (show (⟨#[]⟩ : ByteArray).size ≤ 1048576 from (Nat.zero_le _ : (0 : Nat) ≤ 1048576)) (by simp [getP]) (fun y hy => by simp [getP] at hy)
  | cons p ps ih =>
    unfold getP
    split
    · exact (h p (List.mem_cons_self ..)).2
    · exact ih (fun x hx => h x (List.mem_cons_of_mem _ hx))
theorem specGet_loop {ps : List IP} (hs : Few SmP ps) (s : ByteArray) : Ev (fun k => spec_l2Get.l0 k s ps 0) (tup (getP ps s)) := by
  have h : ∀ (d i : Nat), ps.length = i + d → Ev (fun k => spec_l2Get.l0 k s ps (i : Int)) (tup (getP (ps.drop i) s)) := by
    intro d
    induction d with
    | zero =>
      intro i hi
      refine Ev.succ ?_
      simp only [spec_l2Get.l0]
      rw [List.drop_of_length_le (by omega)]
      exact Ev.neg (by omega) (Ev.some _)
    | succ d ih =>
      intro i hi
      have hlt : i < ps.length := by omega
      have h1 := hs.1
      refine Ev.succ ?_
      simp only [spec_l2Get.l0, if_pos (show (i : Int) < (ps.length : Int) by omega), if_pos (show 0 ≤ (i : Int) by omega), rd_ip hlt, toList_inj, wrap64_succ hlt (show ps.length ≤ 9223372036854775807 by omega)]
      rw [List.drop_eq_getElem_cons hlt]
      by_cases c : ps[i].f0 = s
      · simp only [getP, if_pos c]
        exact Ev.bind (l1Copy_ev (hs.2 _ (List.getElem_mem hlt)).2) (Ev.some _)
      · simp only [getP, if_neg c]
        exact ih (i + 1) (by omega)
  exact h ps.length 0 (by omega)
theorem propOf_ev {ps : List IP} (hs : Few SmP ps) (s : ByteArray) : Ev (fun k => impl_propOf.f k ps s) (tup (getP ps s)) := by
  unfold impl_propOf.f
  have h : ∀ (d i : Nat), ps.length = i + d → Ev (fun k => impl_propOf.l0 k s ps (ps.length : Int) (i : Int)) (tup (getP (ps.drop i) s)) := by
    intro d
    induction d with
    | zero =>
      intro i hi
      refine Ev.succ ?_
      simp only [impl_propOf.l0]
      rw [List.drop_of_length_le (by omega)]
      exact Ev.neg (by omega) (Ev.some _)
    | succ d ih =>
      intro i hi
      have hlt : i < ps.length := by omega
      have h1 := hs.1
      refine Ev.succ ?_
      simp only [impl_propOf.l0, if_pos (show (i : Int) < (ps.length : Int) by omega), if_pos (show 0 ≤ (i : Int) by omega), rd_ip hlt, toList_inj, wrap64_succ hlt (show ps.length ≤ 9223372036854775807 by omega)]
      rw [List.drop_eq_getElem_cons hlt]
      by_cases c : ps[i].f0 = s
      · simp only [getP, if_pos c]
        exact Ev.some _
      · simp only [getP, if_neg c]
        exact ih (i + 1) (by omega)
  exact h ps.length 0 (by omega)
theorem l2Node_at {ns : List IN} (hl : ns.length ≤ 1048576) (es : List IG) (a b : Int) {i : Nat} (hi : i < ns.length) (hne : ∀ j, j < i → nid ns j ≠ nid ns i) : Ev (fun k => spec_l2Node.f k ns es a b (nid ns i)) (i : Int) := by
  unfold spec_l2Node.f
  have h : ∀ (d j : Nat), i = j + d → Ev (fun k => spec_l2Node.l0 k (nid ns i) (j : Int) ns es a b) (i : Int) := by
    intro d
    induction d with
    | zero =>
      intro j hj
      obtain rfl : i = j := by omega
      refine Ev.succ ?_
      simp only [spec_l2Node.l0, if_pos (show (i : Int) < (ns.length : Int) by omega), if_pos (show 0 ≤ (i : Int) by omega)]
      exact Ev.pos rfl (Ev.some _)
    | succ d ih =>
      intro j hj
      refine Ev.succ ?_
      simp only [spec_l2Node.l0, if_pos (show (j : Int) < (ns.length : Int) by omega), if_pos (show 0 ≤ (j : Int) by omega), wrap64_succ (show j < ns.length by omega) (show ns.length ≤ 9223372036854775807 by omega)]
      exact Ev.neg (hne j (by omega)) (ih (j + 1) (by omega))
  exact h i 0 (by omega)
theorem l2Edge_ev {es : List IG} (hl : es.length ≤ 1048576) (ns : List IN) (a b x : Int) : ∃ r, Ev (fun k => spec_l2Edge.f k ns es a b x) r := by
  unfold spec_l2Edge.f
  obtain ⟨r, hr, _⟩ := place_loop (fun k i => spec_l2Edge.l0 k x i ns es a b) (gid es) x es.length
    (fun k => by simp only [spec_l2Edge.l0]; rw [if_neg (by omega)])
    (fun k i hi => by simp only [spec_l2Edge.l0]; rw [if_pos (by omega), if_pos (by omega), wrap64_succ hi (by omega)]; rfl)
  exact ⟨r, hr⟩
theorem l2Get_ev {ns : List IN} {es : List IG} (a b : Int) (hn : Few SmN ns) (he : Few SmG es) {i : Nat} (hi : i < ns.length) (hne : ∀ j, j < i → nid ns j ≠ nid ns i) (t : ByteArray) (l : List IV) (s : ByteArray) :
    Ev (fun k => spec_l2Get.f k ns es a b 5 (nid ns i) t l s) (tup (getP ns[i].f2 s)) := by
  unfold spec_l2Get.f spec_l2Of.f
  obtain ⟨r, hr⟩ := l2Edge_ev he.1 ns a b (nid ns i)
  have hp : Ev (fun k => (spec_l2Node.f k ns es a b (nid ns i)).bind fun t103 => ((spec_l2Edge.f k ns es a b (nid ns i)).bind fun t104 => (if (5 : Int) = 5 then (spec_l2Of.j0 k t103 t104 (decide (t103 ≥ 0)) ns es a b 5 (nid ns i) t l) else (spec_l2Of.j0 k t103 t104 false ns es a b 5 (nid ns i) t l)))) (ns[i].f2, true) := by
    refine Ev.bind (l2Node_at hn.1 es a b hi hne) (Ev.bind hr ?_)
    simp only [if_true]
    refine Ev.succ ?_
    simp only [spec_l2Of.j0, decide_eq_true (show (i : Int) ≥ 0 by omega), if_true, if_pos (show 0 ≤ (i : Int) by omega), if_pos (show (i : Int) < (ns.length : Int) by omega), rd_in hi]
    exact Ev.some _
  exact Ev.bind hp (specGet_loop (hn.2 _ (List.getElem_mem hi)).2 s)
noncomputable def foundB (n : IN) (name : ByteArray) (v : IV) : Bool := decide ((getP n.f2 name).f0 ≠ 0) && sameB (getP n.f2 name) v
noncomputable def findL (ms : List IN) (name : ByteArray) (v : IV) : List Int := (ms.filter (fun n => foundB n name v)).map (fun n => n.f0)
theorem findL_len (ms : List IN) (name : ByteArray) (v : IV) : (findL ms name v).length ≤ ms.length := by unfold findL; rw [List.length_map]; exact List.length_filter_le _ _
theorem findL_snoc (ms : List IN) (m : IN) (name : ByteArray) (v : IV) : findL (ms ++ [m]) name v = findL ms name v ++ (if foundB m name v = true then [m.f0] else []) := by
  unfold findL
  rw [List.filter_append, List.map_append]
  congr 1
  by_cases c : foundB m name v = true <;> simp [c]
theorem foundB_null {n : IN} {name : ByteArray} {v : IV} (h : v.f0 = 0) : foundB n name v = false := by
  unfold foundB
  by_cases c : getP n.f2 name = v
  · rw [c]; simp [h]
  · rw [sameB_false c]; simp
theorem l3By_ev {ns : List IN} {es : List IG} (a b : Int) (hn : Few SmN ns) (he : Few SmG es) (hne : ∀ i j, j < i → i < ns.length → nid ns j ≠ nid ns i) (s name : ByteArray) {v : IV} (sv : Sm v) :
    Ev (fun k => spec_l3By.f k ns es a b s name v.f0 v.f1 v.f2 v.f3) (findL (ns.filter (fun n => hasB n.f1 s)) name v) := by
  unfold spec_l3By.f
  refine Ev.bind (l2With_ev hn es a b s) ?_
  obtain ⟨ms, hms⟩ : ∃ ms, ms = ns.filter (fun n => hasB n.f1 s) := ⟨_, rfl⟩
  have hw : withL ns s = ms.map (fun n => n.f0) := by rw [hms]; rfl
  rw [hw, ← hms]
  have hml : ms.length ≤ 1048576 := by rw [hms]; exact Nat.le_trans (List.length_filter_le _ _) hn.1
  have hmem : ∀ (i : Nat) (h : i < ms.length), ∃ j, ∃ hj : j < ns.length, ns[j] = ms[i] := by
    intro i h
    have h1 : ms[i] ∈ ms := List.getElem_mem h
    have h2 : ms[i] ∈ ns := by
      have : ∀ x, x ∈ ms → x ∈ ns := by rw [hms]; intro x hx; exact (List.mem_filter.1 hx).1
      exact this _ h1
    obtain ⟨j, hj, e⟩ := List.mem_iff_getElem.1 h2
    exact ⟨j, hj, e⟩
  have h : ∀ (d i : Nat), ms.length = i + d → Ev (fun k => spec_l3By.l0 k name (findL (ms.take i) name v) (ms.map (fun n => n.f0)) (i : Int) ns es a b v.f0 v.f1 v.f2 v.f3) (findL ms name v) := by
    intro d
    induction d with
    | zero =>
      intro i hi
      refine Ev.succ ?_
      simp only [spec_l3By.l0, List.length_map]
      rw [List.take_of_length_le (by omega)]
      exact Ev.neg (by omega) (Ev.some _)
    | succ d ih =>
      intro i hi
      have hlt : i < ms.length := by omega
      have hlt' : i < (ms.map (fun n => n.f0)).length := by simpa using hlt
      have hlen := findL_len (ms.take i) name v
      have hlen2 : (findL (ms.take i) name v).length < 17592186044416 := by rw [List.length_take] at hlen; omega
      have hi' := ih (i + 1) (by omega)
      rw [List.take_succ_eq_append_getElem hlt, findL_snoc] at hi'
      obtain ⟨j, hj, e⟩ := hmem i hlt
      have hid : nid ns j = ms[i].f0 := by unfold nid; rw [rd_in hj, e]
      have hg := l2Get_ev (es := es) a b hn he hj (fun q hq => hne j q hq hj) (⟨#[]⟩ : ByteArray) ([] : List IV) name
      rw [hid, e] at hg
      have sg : Sm (getP ms[i].f2 name) := getP_sm (by rw [← e]; exact (hn.2 _ (List.getElem_mem hj)).2) name
      refine Ev.succ ?_
      simp only [spec_l3By.l0, List.length_map, if_pos (show (i : Int) < (ms.length : Int) by omega), if_pos (show 0 ≤ (i : Int) by omega), rd_int hlt', List.getElem_map, wrap64_succ hlt (show ms.length ≤ 9223372036854775807 by omega), if_pos hlen2]
      refine Ev.bind hg ?_
      by_cases c : (getP ms[i].f2 name).f0 = 0
      · simp only [if_pos c]
        have : foundB ms[i] name v = false := by unfold foundB; simp [c]
        rw [this] at hi'
        simpa using hi'
      · simp only [if_neg c]
        refine Ev.bind (l1Same_ev sg sv) ?_
        have : foundB ms[i] name v = sameB (getP ms[i].f2 name) v := by unfold foundB; simp [c]
        rw [← this]
        by_cases q : foundB ms[i] name v = true
        · simp only [if_pos q] at hi' ⊢; exact hi'
        · simp only [if_neg q] at hi' ⊢; simpa using hi'
  have := h ms.length 0 (by omega)
  simpa [findL] using this
theorem implFind_ev {ns : List IN} (hn : Few SmN ns) (s name : ByteArray) {v : IV} (sv : Sm v) (hv : v.f0 ≠ 0) :
    Ev (fun k => impl_FindBy.l0 k s name [] ns (ns.length : Int) 0 v.f0 v.f1 v.f2 v.f3) (findL (ns.filter (fun n => hasB n.f1 s)) name v) := by
  have hl := hn.1
  have h : ∀ (d i : Nat), ns.length = i + d → Ev (fun k => impl_FindBy.l0 k s name (findL ((ns.take i).filter (fun n => hasB n.f1 s)) name v) ns (ns.length : Int) (i : Int) v.f0 v.f1 v.f2 v.f3) (findL (ns.filter (fun n => hasB n.f1 s)) name v) := by
    intro d
    induction d with
    | zero =>
      intro i hi
      refine Ev.succ ?_
      simp only [impl_FindBy.l0]
      rw [List.take_of_length_le (by omega)]
      exact Ev.neg (by omega) (Ev.some _)
    | succ d ih =>
      intro i hi
      have hlt : i < ns.length := by omega
      have hlen := Nat.le_trans (findL_len ((ns.take i).filter (fun n => hasB n.f1 s)) name v) (List.length_filter_le _ _)
      have hlen2 : (findL ((ns.take i).filter (fun n => hasB n.f1 s)) name v).length < 17592186044416 := by rw [List.length_take] at hlen; omega
      have hi' := ih (i + 1) (by omega)
      have ht : (ns.take (i + 1)).filter (fun n => hasB n.f1 s) = (ns.take i).filter (fun n => hasB n.f1 s) ++ (if hasB ns[i].f1 s = true then [ns[i]] else []) := by
        rw [List.take_succ_eq_append_getElem hlt, List.filter_append]
        congr 1
        by_cases c : hasB ns[i].f1 s = true <;> simp [c]
      rw [ht] at hi'
      have sn := hn.2 _ (List.getElem_mem hlt)
      refine Ev.succ ?_
      simp only [impl_FindBy.l0, if_pos (show (i : Int) < (ns.length : Int) by omega), if_pos (show 0 ≤ (i : Int) by omega), rd_in hlt, wrap64_succ hlt (show ns.length ≤ 9223372036854775807 by omega), if_pos hlen2]
      refine Ev.bind (hasLabel_ev sn.1.1 _ _ s) ?_
      by_cases q : hasB ns[i].f1 s = true
      · simp only [if_pos q] at hi' ⊢
        rw [findL_snoc] at hi'
        refine Ev.bind (propOf_ev sn.2 name) (Ev.bind (sameOf_ev (getP_sm sn.2 name) sv) ?_)
        have : foundB ns[i] name v = sameB (getP ns[i].f2 name) v := by
          unfold foundB
          by_cases c : getP ns[i].f2 name = v
          · rw [c]; simp [hv]
          · rw [sameB_false c]; simp
        rw [← this]
        by_cases q : foundB ns[i] name v = true
        · simp only [if_pos q] at hi' ⊢; exact hi'
        · simp only [if_neg q] at hi' ⊢; simpa using hi'
      · simp only [if_neg q] at hi' ⊢; simpa using hi'
  have := h ns.length 0 (by omega)
  simpa [findL] using this
theorem findL_null {ms : List IN} {name : ByteArray} {v : IV} (h : v.f0 = 0) : findL ms name v = [] := by
  unfold findL
  rw [List.filter_eq_nil_iff.2 (fun n _ => by rw [foundB_null h]; simp)]
  rfl
noncomputable def findG (ns : List IN) (es : List IG) (a b : Int) (s name : ByteArray) (v : IV) : List Int := open Classical in if GraphP ns es a b ∧ vok 3 v = true ∧ s.size ≠ 0 then findL (ns.filter (fun n => hasB n.f1 s)) name v else []
theorem findG_len {ns : List IN} (hn : ns.length ≤ 1048576) (es : List IG) (a b : Int) (s name : ByteArray) (v : IV) : (findG ns es a b s name v).length ≤ 1048576 := by
  unfold findG
  split
  · exact Nat.le_trans (Nat.le_trans (findL_len _ name v) (List.length_filter_le _ _)) hn
  · simp
theorem asc_lt {ids : Nat → Int} {n : Nat} {e : Int} (h : Asc ids n e) : ∀ i j, j < i → i < n → ids j < ids i := by
  intro i
  induction i with
  | zero => intro j hj; omega
  | succ i ih =>
    intro j hj hi
    have h1 := (h (i + 1) hi).1
    rw [if_neg (by omega)] at h1
    have h1' : ids i < ids (i + 1) := by simpa using h1
    by_cases c : j = i
    · subst c; exact h1'
    · have := ih j (by omega) (by omega); omega
theorem specFind_ev {ns : List IN} {es : List IG} (a b : Int) (hn : Few SmN ns) (he : Few SmG es) (s name : ByteArray) {v : IV} (sv : Sm v) :
    Ev (fun k => spec_FindBy.f k ns es a b s name v.f0 v.f1 v.f2 v.f3) (findG ns es a b s name v) := by
  unfold spec_FindBy.f findG
  obtain ⟨r, hr, hp⟩ := specGraphOk_dec a b hn he
  have e : (s.toList = []) ↔ s.size = 0 := toList_nil s
  refine Ev.bind hr ?_
  by_cases c : r = true
  · simp only [if_pos c]
    refine Ev.bind (specValueOk_ev v sv) ?_
    by_cases c2 : vok 3 v = true
    · simp only [if_pos c2]
      by_cases c3 : s.size = 0
      · simp only [if_pos (e.2 c3)]
        rw [if_neg (fun h => h.2.2 c3)]; exact Ev.some _
      · simp only [if_neg (fun h => c3 (e.1 h))]
        rw [if_pos ⟨hp.1 c, c2, c3⟩]
        exact Ev.bind (l3By_ev a b hn he (fun i j h1 h2 => by have := asc_lt (hp.1 c).2.2.1 i j h1 h2; omega) s name sv) (Ev.some _)
    · simp only [if_neg c2]
      rw [if_neg (fun h => c2 h.2.1)]; exact Ev.some _
  · simp only [if_neg c]
    rw [if_neg (fun h => c (hp.2 h.1))]; exact Ev.some _
theorem implFindBy_ev {ns : List IN} {es : List IG} (a b : Int) (hn : Few SmN ns) (he : Few SmG es) (s name : ByteArray) {v : IV} (sv : Sm v) :
    Ev (fun k => impl_FindBy.f k ns es a b s name v.f0 v.f1 v.f2 v.f3) (findG ns es a b s name v) := by
  unfold impl_FindBy.f findG
  obtain ⟨r, hr, hp⟩ := implGraphOk_dec a b hn he
  have e : (s.toList = []) ↔ s.size = 0 := toList_nil s
  have jt : Ev (fun k => impl_FindBy.j0 k s name true ns es a b v.f0 v.f1 v.f2 v.f3) [] := by
    refine Ev.succ ?_
    simp only [impl_FindBy.j0, if_true]
    exact Ev.some _
  refine Ev.bind hr ?_
  by_cases c : r = true
  · simp only [if_pos c]
    refine Ev.bind (implValueOk_ev v sv) ?_
    by_cases c2 : vok 3 v = true
    · simp only [if_pos c2]
      by_cases c3 : s.size = 0
      · simp only [if_pos (e.2 c3)]
        rw [if_neg (fun h => h.2.2 c3)]; exact jt
      · simp only [if_neg (fun h => c3 (e.1 h))]
        rw [if_pos ⟨hp.1 c, c2, c3⟩]
        by_cases c4 : v.f0 = 0
        · rw [findL_null c4]
          simp only [c4, beq_self_eq_true]
          rw [c4] at jt
          exact jt
        · have : (v.f0 == 0) = false := by simpa using c4
          simp only [this]
          refine Ev.succ ?_
          simp only [impl_FindBy.j0, Bool.false_eq_true, if_false]
          exact implFind_ev hn s name sv c4
    · simp only [if_neg c2]
      rw [if_neg (fun h => c2 h.2.1)]; exact jt
  · simp only [if_neg c]
    rw [if_neg (fun h => c (hp.2 h.1))]; exact jt
end Go.Proofs.Ytcchmhmbjhgfdaa.Pur
namespace Go.Proofs.Ytcchmhmbjhgfdaa.Pure
open Go.RowKit Go.Proofs.Ytcchmhmbjhgfdaa.G Go.Proofs.Ytcchmhmbjhgfdaa.Pur Go.Proofs.Ytcchmhmbjhgfdaa.Mk Go.Proofs.YtcchmhmbjhgfdaaW.PrintWords Go.Proofs.YtcchmhmbjhgfdaaW.PrintLast
theorem FnExactFindBy : laws_FnExactFindBy.Pure := by
  intro ns es a b s name v0 v1 v2 vl ok hs hm okv
  refine Ev.rounds (r := true) ?_
  unfold laws_FnExactFindBy.f
  refine Ev.ite (fun _ => Ev.some _) (fun _ => ?_)
  refine Ev.ite (fun _ => Ev.some _) (fun _ => ?_)
  obtain ⟨r, hr, hrl, hp⟩ := szGraph_ev ok (left := 1048576) (by omega) (by omega)
  refine Ev.bind hr (Ev.ite (fun _ => Ev.some _) (fun h => ?_))
  obtain ⟨hn, he⟩ := hp (by omega)
  have hc : cntGr (ns.map cN) (es.map cG) ≤ 4194304 := marks_fit ok hr (by omega)
  obtain ⟨r2, hr2, hrl2, hp2⟩ := szValue_ev okv r (by omega) (by omega)
  refine Ev.bind hr2 (Ev.ite (fun _ => Ev.some _) (fun h2 => ?_))
  have sl := hp2 (by omega)
  obtain ⟨r3, hr3, _, hp3⟩ := szValue_sc okv r (by omega) (by omega)
  obtain rfl := ev_unique hr2 hr3
  have hv := hp3 (by omega)
  obtain ⟨x, hx⟩ : ∃ x : LV, x = ⟨v0, v1, v2, vl⟩ := ⟨_, rfl⟩
  rw [← hx] at sl hv
  have te := toGraph_ev (a := a) (b := b) hn he
  have tv := toValue_ev sl
  have ex0 : x.f0 = v0 := by rw [hx]
  have ex1 : x.f1 = v1 := by rw [hx]
  have ex2 : x.f2 = v2 := by rw [hx]
  have ex3 : x.f3 = vl := by rw [hx]
  rw [ex0, ex1, ex2, ex3] at tv
  have sv := Sm.of sl
  have hvc : (cntVs (cV x).f3 : Int) ≤ 4194304 := by
    have : cntVs (cV x).f3 = inV x := by rw [cV_eq]; rfl
    rw [this]; omega
  obtain ⟨v, hv'⟩ : ∃ v, v = cV x := ⟨_, rfl⟩
  rw [← hv'] at tv sv hvc
  have sn : Few SmN (ns.map cN) := hn.map fun _ => SmN.of
  have se : Few SmG (es.map cG) := he.map fun _ => SmG.of
  have hl := findG_len sn.1 (es.map cG) a b s name v
  refine Ev.bind te (Ev.bind tv (Ev.bind (specFind_ev a b sn se s name sv) (Ev.bind te (Ev.bind tv (Ev.bind (implFindBy_ev a b sn se s name sv) (Ev.bind (eqIntS_refl hl) ?_))))))
  simp only [if_true]
  refine Ev.bind te (Ev.bind (eqGraph_refl sn se) ?_)
  simp only [if_true]
  refine Ev.bind tv (Ev.bind (eqValue_refl sv) ?_)
  simp only [if_true]
  have hm1 : laws_markGraph.f (ns.map cN) (es.map cG) a b 1 = some (1 + ((cntGr (ns.map cN) (es.map cG) : Nat) : Int)) := by
    unfold laws_markGraph.f
    rw [if_pos (by decide), if_pos (by omega)]
  have hm2 : laws_markValue.f v.f0 v.f1 v.f2 v.f3 (1 + ((cntGr (ns.map cN) (es.map cG) : Nat) : Int)) = some (1 + ((cntGr (ns.map cN) (es.map cG) : Nat) : Int) + ((cntVs v.f3 : Nat) : Int)) := by
    unfold laws_markValue.f
    rw [if_pos (by omega), if_pos (by omega)]
  simp only [hm1, hm2, Option.bind_some]
  rw [show (fun k => if 1 + ((cntGr (ns.map cN) (es.map cG) : Nat) : Int) + ((cntVs v.f3 : Nat) : Int) < 0 then _ else _) = _ from funext fun k => if_neg (by omega)]
  refine Ev.bind (eqIntS_refl hl) ?_
  refine Ev.succ ?_
  simp only [laws_FnExactFindBy.j0, Bool.not_true, Bool.false_eq_true, if_false]
  refine Ev.bind (markIntS_ev hl) (Ev.bind (heldIntS_ev hl) ?_)
  simp only [if_neg (show ¬ (((findG (ns.map cN) (es.map cG) a b s name v).length : Int) + 1 < 0) by omega), if_true]
  refine Ev.bind te (Ev.bind tv (Ev.bind (implFindBy_ev a b sn se s name sv) (Ev.bind (eqIntS_refl hl) ?_)))
  simp only [if_true]
  refine Ev.bind (heldIntS_ev hl) ?_
  simp only [if_neg (show ¬ (((findG (ns.map cN) (es.map cG) a b s name v).length : Int) + 1 < 0) by omega), if_true]
  exact Ev.some _
end Go.Proofs.Ytcchmhmbjhgfdaa.Pure
