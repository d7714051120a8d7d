import Derived.Test.YtcchmhmbjhgfdaaY1
import Derived.Test.YtcchmhmbjhgfdaaY4
import Derived.Test.YtcchmhmbjhgfdaaY5
import Derived.Test.YtcchmhmbjhgfdaaY3
import Derived.Test.YtcchmhmbjhgfdaaY7
import Derived.Test.YtcchmhmbjhgfdaaY11
import Derived.Test.YtcchmhmbjhgfdaaY6
import Derived.Test.YtcchmhmbjhgfdaaY8
import Derived.Test.YtcchmhmbjhgfdaaY9
import Derived.Test.YtcchmhmbjhgfdaaY10
namespace Go.Proofs.Ytcchmhmbjhgfdaa.Pur
open Go.RowKit Go.Proofs.YtcchmhmbjhgfdaaW.PrintWords
set_option linter.unusedVariables false
theorem Ev.ite {α : Type} {c : Prop} [Decidable c] {f g : Nat → Option α} {r : α} (h1 : c → Ev f r) (h2 : ¬ c → Ev g r) : Ev (fun k => if c then f k else g k) r := by
  by_cases h : c
  · simpa only [if_pos h] using h1 h
  · simpa only [if_neg h] using h2 h
theorem Ev.pos {α : Type} {c : Prop} [Decidable c] {f g : Nat → Option α} {r : α} (h : c) (e : Ev f r) : Ev (fun k => if c then f k else g k) r := by simpa only [if_pos h] using e
theorem Ev.neg {α : Type} {c : Prop} [Decidable c] {f g : Nat → Option α} {r : α} (h : ¬ c) (e : Ev g r) : Ev (fun k => if c then f k else g k) r := by simpa only [if_neg h] using e
theorem Ev.some {α : Type} (r : α) : Ev (fun _ => Option.some r) r := Ev.now r
theorem Ev.eq {α : Type} {f : Nat → Option α} {r r' : α} (h : Ev f r) (e : r = r') : Ev f r' := e ▸ h
theorem Ev.succ {α : Type} {g : Nat → Option α} {r : α} (h : Ev (fun k => g (k + 1)) r) : Ev g r := Ev.step (fun k => rfl) h
theorem Ev.of_eq {α : Type} {g : Nat → Option α} {r : α} (h : ∀ k, g k = Option.some r) : Ev g r := ⟨0, fun k _ => h k⟩
theorem wrap64_id {x : Int} (h0 : -9223372036854775808 ≤ x) (h1 : x ≤ 9223372036854775807) : wrap64 x = x := by unfold wrap64; omega
theorem wrap64_succ {i : Nat} {n : Nat} (h : i < n) (hn : n ≤ 9223372036854775807) : wrap64 ((i : Int) + 1) = ((i + 1 : Nat) : Int) := by
  rw [wrap64_id (by omega) (by omega)]; omega
theorem toList_nil (s : ByteArray) : s.toList = [] ↔ s.size = 0 := by
  rw [← List.length_eq_zero_iff]
  have : s.toList.length = s.size := by rw [ByteArray.toList_eq]; simp
  rw [this]
theorem toList_inj {a b : ByteArray} : a.toList = b.toList ↔ a = b := by
  constructor
  · intro h
    rw [ByteArray.toList_eq, ByteArray.toList_eq] at h
    cases a; cases b
    simp at h
    rw [h]
  · intro h; rw [h]
section
variable {α β : Type}
theorem szLoop (l : List α) (L : Nat → Int → Int → Option Int) (step : Nat → α → Int → Option Int) (P : α → Prop)
    (hend : ∀ k left (i : Nat), ¬ i < l.length → L (k + 1) left i = some left)
    (hstep : ∀ k left (i : Nat) (h : i < l.length), L (k + 1) left i = (step k l[i] left).bind fun t => if t < 0 then some (-1) else L k t ((i + 1 : Nat) : Int))
    (hs : ∀ x ∈ l, ∀ left : Int, 0 ≤ left → left ≤ 1048576 → ∃ r, Ev (fun k => step k x left) r ∧ r ≤ left ∧ (0 ≤ r → P x)) :
    ∀ (d i : Nat) (left : Int), l.length = i + d → 0 ≤ left → left ≤ 1048576 → ∃ r, Ev (fun k => L k left i) r ∧ r ≤ left ∧ (0 ≤ r → ∀ j (h : j < l.length), i ≤ j → P l[j]) := by
  intro d
  induction d with
  | zero =>
    intro i left hi h0 h1
    refine ⟨left, Ev.succ (Ev.of_eq fun k => hend k left i (by omega)), Int.le_refl _, fun _ j hj hij => by omega⟩
  | succ d ih =>
    intro i left hi h0 h1
    have hlt : i < l.length := by omega
    obtain ⟨r, hr, hle, hp⟩ := hs l[i] (List.getElem_mem hlt) left h0 h1
    by_cases hn : r < 0
    · refine ⟨-1, Ev.succ ?_, by omega, fun h => by omega⟩
      simp only [hstep _ _ _ hlt]
      refine Ev.bind hr ?_
      simp only [if_pos hn]
      exact Ev.some _
    · obtain ⟨q, hq, hle', hp'⟩ := ih (i + 1) r (by omega) (by omega) (by omega)
      refine ⟨q, Ev.succ ?_, by omega, fun h j hj hij => ?_⟩
      · simp only [hstep _ _ _ hlt]
        refine Ev.bind hr ?_
        simp only [if_neg hn]
        exact hq
      · by_cases e : i = j
        · subst e; exact hp (by omega)
        · exact hp' h j hj (by omega)
theorem toLoop (l : List α) (L : Nat → List β → Int → Option (List β)) (step : Nat → α → Option β) (c : α → β)
    (hend : ∀ k out (i : Nat), ¬ i < l.length → L (k + 1) out i = some out)
    (hstep : ∀ k out (i : Nat) (h : i < l.length), i < out.length → L (k + 1) out i = (step k l[i]).bind fun t => L k (out.set i t) ((i + 1 : Nat) : Int))
    (hs : ∀ x ∈ l, Ev (fun k => step k x) (c x)) :
    ∀ (d i : Nat) (out : List β), l.length = i + d → out.length = l.length → Ev (fun k => L k out i) (out.take i ++ (l.drop i).map c) := by
  intro d
  induction d with
  | zero =>
    intro i out hi ho
    refine Ev.eq (Ev.succ (Ev.of_eq fun k => hend k out i (by omega))) ?_
    rw [List.drop_of_length_le (by omega), List.take_of_length_le (by omega)]
    simp
  | succ d ih =>
    intro i out hi ho
    have hlt : i < l.length := by omega
    refine Ev.succ ?_
    simp only [hstep _ _ _ hlt (by omega : i < out.length)]
    refine Ev.bind (hs l[i] (List.getElem_mem hlt)) ?_
    refine Ev.eq (ih (i + 1) _ (by omega) (by simpa using ho)) ?_
    rw [List.drop_eq_getElem_cons hlt, List.map_cons]
    have : (out.set i (c l[i])).take (i + 1) = out.take i ++ [c l[i]] := by
      rw [List.take_succ_eq_append_getElem (by rw [List.length_set]; omega)]
      rw [List.take_set_of_le (Nat.le_refl _)]
      simp
    rw [this, List.append_assoc]
    rfl
theorem allLoop (l : List α) (L : Nat → Int → Option Bool) (step : Nat → α → Option Bool) (c : α → Bool) (e : Bool)
    (hend : ∀ (i : Nat), l.length ≤ i → Ev (fun k => L k i) e)
    (hstep : ∀ (i : Nat) (h : i < l.length) (r : Bool), Ev (fun k => (step k l[i]).bind fun t => if t = true then L k ((i + 1 : Nat) : Int) else some false) r → Ev (fun k => L k i) r)
    (hs : ∀ x ∈ l, Ev (fun k => step k x) (c x)) :
    ∀ (d i : Nat), l.length = i + d → Ev (fun k => L k i) ((l.drop i).all c && e) := by
  intro d
  induction d with
  | zero =>
    intro i hi
    rw [List.drop_of_length_le (by omega)]
    exact Ev.eq (hend i (by omega)) (by simp)
  | succ d ih =>
    intro i hi
    have hlt : i < l.length := by omega
    refine hstep i hlt _ ?_
    refine Ev.bind (hs l[i] (List.getElem_mem hlt)) ?_
    rw [List.drop_eq_getElem_cons hlt, List.all_cons]
    by_cases h : c l[i] = true
    · simp only [if_pos h]
      exact Ev.eq (ih (i + 1) (by omega)) (by simp [h])
    · simp only [if_neg h]
      exact Ev.eq (Ev.some _) (by simp [h])
theorem eqLoop (l : List α) (L : Nat → Int → Option Bool) (step : Nat → α → α → Option Bool)
    (hend : ∀ k (i : Nat), ¬ i < l.length → L (k + 1) i = some true)
    (hstep : ∀ k (i : Nat) (h : i < l.length), L (k + 1) i = (step k l[i] l[i]).bind fun t => if t = true then L k ((i + 1 : Nat) : Int) else some false)
    (hs : ∀ x ∈ l, Ev (fun k => step k x x) true) :
    ∀ (d i : Nat), l.length = i + d → Ev (fun k => L k i) true := by
  intro d
  induction d with
  | zero => intro i hi; exact Ev.succ (Ev.of_eq fun k => hend k i (by omega))
  | succ d ih =>
    intro i hi
    have hlt : i < l.length := by omega
    refine Ev.succ ?_
    simp only [hstep _ _ hlt]
    refine Ev.bind (hs l[i] (List.getElem_mem hlt)) ?_
    simp only [if_true]
    exact ih (i + 1) (by omega)
end
def allB (c : Nat → Bool) : Nat → Nat → Bool
  | 0, _ => true
  | d + 1, i => c i && allB c d (i + 1)
theorem allB_iff (c : Nat → Bool) : ∀ (d i : Nat), allB c d i = true ↔ ∀ j, i ≤ j → j < i + d → c j = true
  | 0, i => by simp [allB]; omega
  | d + 1, i => by
    rw [allB, Bool.and_eq_true, allB_iff c d (i + 1)]
    constructor
    · intro ⟨h, h'⟩ j hj hj'
      by_cases e : i = j
      · exact e ▸ h
      · exact h' j (by omega) (by omega)
    · intro h
      exact ⟨h i (by omega) (by omega), fun j hj hj' => h j (by omega) (by omega)⟩
theorem loopB (n : Nat) (L : Nat → Int → Option Bool) (c : Nat → Bool) (e : Bool) (hend : Ev (fun k => L k (n : Int)) e)
    (hno : ∀ i : Nat, i < n → c i = false → Ev (fun k => L k (i : Int)) false)
    (hyes : ∀ i : Nat, i < n → c i = true → ∀ r, Ev (fun k => L k ((i + 1 : Nat) : Int)) r → Ev (fun k => L k (i : Int)) r) :
    ∀ (d i : Nat), n = i + d → Ev (fun k => L k (i : Int)) (allB c d i && e) := by
  intro d
  induction d with
  | zero => intro i hi; obtain rfl : n = i := by omega
            exact Ev.eq hend (by simp [allB])
  | succ d ih =>
    intro i hi
    cases hc : c i with
    | false => exact Ev.eq (hno i (by omega) hc) (by simp [allB, hc])
    | true => exact Ev.eq (hyes i (by omega) hc _ (ih (i + 1) (by omega))) (by simp [allB, hc])
theorem getD_nat {α : Type} {l : List α} {d : α} {i : Nat} (h : i < l.length) : l.getD ((i : Int)).toNat d = l[i] := by
  simp [List.getD_eq_getElem?_getD, h]
end Go.Proofs.Ytcchmhmbjhgfdaa.Pur
namespace Go.Proofs.Ytcchmhmbjhgfdaa.Pur
open Go.RowKit Go.Proofs.Ytcchmhmbjhgfdaa.G Go.Proofs.YtcchmhmbjhgfdaaW.PrintWords Go.Proofs.YtcchmhmbjhgfdaaW.PrintLast
set_option linter.unusedVariables false
set_option linter.unusedSimpArgs false
abbrev LV := S45
abbrev IV := S49
theorem rd_lv {l : List LV} {i : Nat} (h : i < l.length) : rd_T45 l (i : Int) = l[i] := getD_nat h
theorem rd_iv {l : List IV} {i : Nat} (h : i < l.length) : rd_T49 l (i : Int) = l[i] := getD_nat h
inductive SmL : LV → Prop
  | mk {x : LV} (h2 : x.f2.size ≤ 1048576) (h3 : x.f3.length ≤ 1048576) (h4 : ∀ y ∈ x.f3, SmL y) : SmL x
inductive Sm : IV → Prop
  | mk {x : IV} (h2 : x.f2.size ≤ 1048576) (h3 : x.f3.length ≤ 1048576) (h4 : ∀ y ∈ x.f3, Sm y) : Sm x
theorem SmL.all {x : LV} (h : SmL x) : x.f2.size ≤ 1048576 ∧ x.f3.length ≤ 1048576 ∧ ∀ y ∈ x.f3, SmL y := by
  cases h with
  | mk h2 h3 h4 => exact ⟨h2, h3, h4⟩
theorem Sm.all {x : IV} (h : Sm x) : x.f2.size ≤ 1048576 ∧ x.f3.length ≤ 1048576 ∧ ∀ y ∈ x.f3, Sm y := by
  cases h with
  | mk h2 h3 h4 => exact ⟨h2, h3, h4⟩
def SmLs (l : List LV) : Prop := l.length ≤ 1048576 ∧ ∀ x ∈ l, SmL x
def Sms (l : List IV) : Prop := l.length ≤ 1048576 ∧ ∀ x ∈ l, Sm x
theorem iv_eta (x : IV) : x = ⟨x.f0, x.f1, x.f2, x.f3⟩ := by cases x; rfl
def cV : LV → IV
  | ⟨a, b, c, l⟩ => ⟨a, b, c, l.attach.map fun x => cV x.1⟩
termination_by x => SizeOf.sizeOf x
decreasing_by
  have := List.sizeOf_lt_of_mem x.2
  simp
  omega
theorem cV_eq (x : LV) : cV x = ⟨x.f0, x.f1, x.f2, x.f3.map cV⟩ := by
  obtain ⟨a, b, c, l⟩ := x
  rw [cV]
  simp
theorem Sm.of {x : LV} (h : SmL x) : Sm (cV x) := by
  induction h with
  | @mk x h2 h3 h4 ih =>
    rw [cV_eq]
    refine .mk h2 (by simpa using h3) (fun y hy => ?_)
    obtain ⟨z, hz, rfl⟩ := List.mem_map.1 hy
    exact ih z hz
theorem Sms.of {l : List LV} (h : SmLs l) : Sms (l.map cV) := ⟨by simpa using h.1, fun y hy => by
  obtain ⟨z, hz, rfl⟩ := List.mem_map.1 hy
  exact Sm.of (h.2 z hz)⟩
theorem szValueS_of (l : List LV) (hl : l.length ≤ maxLen) (hs : ∀ x ∈ l, ∀ left : Int, 0 ≤ left → left ≤ 1048576 → ∃ r, Ev (fun k => laws_szValue.f k x.f0 x.f1 x.f2 x.f3 left) r ∧ r ≤ left ∧ (0 ≤ r → SmL x)) (left : Int) (h0 : 0 ≤ left) (h1 : left ≤ 1048576) :
    ∃ r, Ev (fun k => laws_szValueS.f k l left) r ∧ r ≤ left ∧ (0 ≤ r → SmLs l) := by
  unfold maxLen at hl
  by_cases c : left - (l.length : Int) < 0
  · refine ⟨-1, Ev.succ ?_, by omega, fun h => by omega⟩
    simp only [laws_szValueS.f]
    rw [wrap64_id (by omega) (by omega)]
    simp only [if_pos c]; exact Ev.some _
  · obtain ⟨r, hr, hle, hp⟩ := szLoop l (fun k left i => laws_szValueS.l0 k l left i) (fun k x left => laws_szValue.f k x.f0 x.f1 x.f2 x.f3 left) SmL
      (fun k left i h => by simp only [laws_szValueS.l0]; rw [if_neg (by omega)])
      (fun k left i h => by simp only [laws_szValueS.l0]; rw [if_pos (by omega), if_pos (by omega), rd_lv h, wrap64_succ h (by omega)])
      hs l.length 0 (left - l.length) (by omega) (by omega) (by omega)
    refine ⟨r, Ev.succ ?_, by omega, fun h => ⟨by omega, fun x hx => ?_⟩⟩
    · simp only [laws_szValueS.f]
      rw [wrap64_id (by omega) (by omega)]
      simp only [if_neg c]
      exact hr
    · obtain ⟨j, hj, rfl⟩ := List.getElem_of_mem hx
      exact hp h j hj (Nat.zero_le _)
theorem szValue_ev {x : LV} (ok : Ok45 x) : ∀ left : Int, 0 ≤ left → left ≤ 1048576 → ∃ r, Ev (fun k => laws_szValue.f k x.f0 x.f1 x.f2 x.f3 left) r ∧ r ≤ left ∧ (0 ≤ r → SmL x) := by
  induction ok with
  | @mk x h0 h1 h2 h3 h4 ih =>
    intro left l0 l1
    have h2' := h2
    unfold maxLen at h2'
    by_cases c : left - (x.f2.size : Int) < 0
    · refine ⟨-1, Ev.succ ?_, by omega, fun h => by omega⟩
      simp only [laws_szValue.f]
      rw [wrap64_id (by omega) (by omega)]
      simp only [if_pos c]; exact Ev.some _
    · obtain ⟨r, hr, hle, hp⟩ := szValueS_of x.f3 h3 ih (left - (x.f2.size : Int)) (by omega) (by omega)
      by_cases hn : r < 0
      · refine ⟨-1, Ev.succ ?_, by omega, fun h => by omega⟩
        simp only [laws_szValue.f]
        rw [wrap64_id (by omega) (by omega)]
        simp only [if_neg c]
        refine Ev.bind hr ?_
        simp only [if_pos hn]; exact Ev.some _
      · refine ⟨r, Ev.succ ?_, by omega, fun h => ?_⟩
        · simp only [laws_szValue.f]
          rw [wrap64_id (by omega) (by omega)]
          simp only [if_neg c]
          refine Ev.bind hr ?_
          simp only [if_neg hn]; exact Ev.some _
        · obtain ⟨h5, h6⟩ := hp h
          exact .mk (by omega) h5 h6
theorem toValueS_of (l : List LV) (hl : l.length ≤ 1048576) (hs : ∀ x ∈ l, Ev (fun k => laws_toValue.f k x.f0 x.f1 x.f2 x.f3) ((cV x).f0, (cV x).f1, (cV x).f2, (cV x).f3)) : Ev (fun k => laws_toValueS.f k l) (l.map cV) := by
  refine Ev.succ ?_
  simp only [laws_toValueS.f, if_pos (show 0 ≤ (l.length : Int) by omega), Int.toNat_natCast, if_pos (show l.length ≤ 5026338869833 by omega)]
  have h := toLoop l (fun k out i => laws_toValueS.l0 k l out i) (fun k x => (laws_toValue.f k x.f0 x.f1 x.f2 x.f3).bind fun b => some (⟨b.1, b.2.1, b.2.2.1, b.2.2.2⟩ : IV)) cV
    (fun k out i h => by simp only [laws_toValueS.l0]; rw [if_neg (by omega)])
    (fun k out i h ho => by
      simp only [laws_toValueS.l0]
      rw [if_pos (by omega), if_pos (by omega), rd_lv h, wrap64_succ h (by omega)]
      cases laws_toValue.f k l[i].f0 l[i].f1 l[i].f2 l[i].f3 with
      | none => rfl
      | some b => simp only [Option.bind_some]; rw [if_pos (by omega)]; rfl)
    (fun x hx => Ev.bind (hs x hx) (Ev.eq (Ev.some _) (iv_eta _).symm)) l.length 0 (List.replicate l.length z49) (by omega) (by simp)
  simpa using h
theorem toValue_ev {x : LV} (sm : SmL x) : Ev (fun k => laws_toValue.f k x.f0 x.f1 x.f2 x.f3) ((cV x).f0, (cV x).f1, (cV x).f2, (cV x).f3) := by
  induction sm with
  | @mk x h2 h3 h4 ih =>
    refine Ev.succ ?_
    simp only [laws_toValue.f]
    refine Ev.bind (toValueS_of x.f3 h3 ih) (Ev.eq (Ev.some _) ?_)
    rw [cV_eq]
theorem eqValueS_of (l : List IV) (hl : l.length ≤ 1048576) (hs : ∀ x ∈ l, Ev (fun k => laws_eqValue.f k x.f0 x.f1 x.f2 x.f3 x.f0 x.f1 x.f2 x.f3) true) : Ev (fun k => laws_eqValueS.f k l l) true := by
  refine Ev.succ ?_
  simp only [laws_eqValueS.f, if_true]
  exact eqLoop l (fun k i => laws_eqValueS.l0 k l l i) (fun k x y => laws_eqValue.f k x.f0 x.f1 x.f2 x.f3 y.f0 y.f1 y.f2 y.f3)
    (fun k i h => by simp only [laws_eqValueS.l0]; rw [if_neg (by omega)])
    (fun k i h => by simp only [laws_eqValueS.l0]; rw [if_pos (by omega), if_pos (by omega), if_pos (by omega), rd_iv h, wrap64_succ h (by omega)])
    hs l.length 0 (by omega)
theorem eqValue_refl {x : IV} (sm : Sm x) : Ev (fun k => laws_eqValue.f k x.f0 x.f1 x.f2 x.f3 x.f0 x.f1 x.f2 x.f3) true := by
  induction sm with
  | @mk x h2 h3 h4 ih =>
    refine Ev.succ ?_
    simp only [laws_eqValue.f, if_true]
    refine Ev.bind (eqValueS_of x.f3 h3 ih) ?_
    simp only [if_true]
    exact Ev.some _
end Go.Proofs.Ytcchmhmbjhgfdaa.Pur
namespace Go.Proofs.Ytcchmhmbjhgfdaa.Pur
open Go.RowKit Go.Proofs.Ytcchmhmbjhgfdaa.G Go.Proofs.YtcchmhmbjhgfdaaW.PrintWords Go.Proofs.YtcchmhmbjhgfdaaW.PrintLast
set_option linter.unusedVariables false
abbrev IP := S140
abbrev IN := S99
abbrev IG := S104
theorem rd_ip {l : List IP} {i : Nat} (h : i < l.length) : rd_T140 l (i : Int) = l[i] := getD_nat h
theorem rd_in {l : List IN} {i : Nat} (h : i < l.length) : rd_T99 l (i : Int) = l[i] := getD_nat h
theorem rd_ig {l : List IG} {i : Nat} (h : i < l.length) : rd_T104 l (i : Int) = l[i] := getD_nat h
theorem rd_st {l : List ByteArray} {i : Nat} (h : i < l.length) : rdOf ByteArray.empty l (i : Int) = l[i] := getD_nat h
def Few {α : Type} (P : α → Prop) (l : List α) : Prop := l.length ≤ 1048576 ∧ ∀ x ∈ l, P x
def SmT (s : ByteArray) : Prop := s.size ≤ 1048576
def SmP (x : IP) : Prop := SmT x.f0 ∧ Sm x.f1
def SmN (x : IN) : Prop := Few SmT x.f1 ∧ Few SmP x.f2
def SmG (x : IG) : Prop := SmT x.f1 ∧ Few SmP x.f4
theorem Few.map {α β : Type} {P : α → Prop} {Q : β → Prop} {l : List α} {c : α → β} (h : Few P l) (e : ∀ x, P x → Q (c x)) : Few Q (l.map c) :=
  ⟨by simpa using h.1, fun y hy => by obtain ⟨x, hx, rfl⟩ := List.mem_map.1 hy; exact e x (h.2 x hx)⟩
end Go.Proofs.Ytcchmhmbjhgfdaa.Pur
namespace Go.Proofs.Ytcchmhmbjhgfdaa.Pur
open Go.RowKit Go.Proofs.YtcchmhmbjhgfdaaW.PrintWords
set_option linter.unusedVariables false
def Dec (f : Nat → Option Bool) (P : Prop) : Prop := ∃ r, Ev f r ∧ (r = true ↔ P)
theorem Dec.some {b : Bool} {P : Prop} (h : b = true ↔ P) : Dec (fun _ => Option.some b) P := ⟨b, Ev.some b, h⟩
theorem Dec.no {P : Prop} (h : ¬ P) : Dec (fun _ => Option.some false) P := ⟨false, Ev.some _, by simp [h]⟩
theorem Dec.yes {P : Prop} (h : P) : Dec (fun _ => Option.some true) P := ⟨true, Ev.some _, by simp [h]⟩
theorem Dec.iff {f : Nat → Option Bool} {P Q : Prop} (d : Dec f P) (h : P ↔ Q) : Dec f Q := by
  obtain ⟨r, hr, hp⟩ := d
  exact ⟨r, hr, hp.trans h⟩
theorem Dec.of {f : Nat → Option Bool} {b : Bool} {P : Prop} (h : Ev f b) (e : b = true ↔ P) : Dec f P := ⟨b, h, e⟩
theorem Dec.bind {f : Nat → Option Bool} {g : Nat → Bool → Option Bool} {P Q : Prop} (d : Dec f P) (h1 : P → Dec (fun k => g k true) Q) (h2 : ¬ P → Dec (fun k => g k false) Q) : Dec (fun k => (f k).bind fun t => g k t) Q := by
  obtain ⟨r, hr, hp⟩ := d
  cases r with
  | true => obtain ⟨q, hq, e⟩ := h1 (hp.1 rfl)
            exact ⟨q, Ev.bind hr hq, e⟩
  | false => obtain ⟨q, hq, e⟩ := h2 (fun h => by have := hp.2 h; cases this)
             exact ⟨q, Ev.bind hr hq, e⟩
theorem Dec.ev {α : Type} {f : Nat → Option α} {g : Nat → α → Option Bool} {v : α} {Q : Prop} (h : Ev f v) (d : Dec (fun k => g k v) Q) : Dec (fun k => (f k).bind fun t => g k t) Q := by
  obtain ⟨q, hq, e⟩ := d
  exact ⟨q, Ev.bind h hq, e⟩
theorem Dec.then {f : Nat → Option Bool} {g : Nat → Option Bool} {P Q : Prop} (d : Dec f P) (h : P → Dec g Q) : Dec (fun k => (f k).bind fun t => if t = true then g k else Option.some false) (P ∧ Q) := by
  refine Dec.bind d (fun p => ?_) (fun p => ?_)
  · simp only [if_true]
    exact (h p).iff (by simp [p])
  · simp only [Bool.false_eq_true, if_false]
    exact Dec.no (fun h => p h.1)
theorem Dec.ite {c : Prop} [Decidable c] {f g : Nat → Option Bool} {Q : Prop} (h1 : c → Dec f Q) (h2 : ¬ c → Dec g Q) : Dec (fun k => if c then f k else g k) Q := by
  by_cases h : c
  · simpa only [if_pos h] using h1 h
  · simpa only [if_neg h] using h2 h
theorem Dec.pos {c : Prop} [Decidable c] {f g : Nat → Option Bool} {Q : Prop} (h : c) (d : Dec f Q) : Dec (fun k => if c then f k else g k) Q := by simpa only [if_pos h] using d
theorem Dec.neg {c : Prop} [Decidable c] {f g : Nat → Option Bool} {Q : Prop} (h : ¬ c) (d : Dec g Q) : Dec (fun k => if c then f k else g k) Q := by simpa only [if_neg h] using d
theorem Dec.succ {g : Nat → Option Bool} {P : Prop} (d : Dec (fun k => g (k + 1)) P) : Dec g P := by
  obtain ⟨r, hr, h⟩ := d
  exact ⟨r, Ev.succ hr, h⟩
theorem Dec.loop (n : Nat) (L : Nat → Int → Option Bool) (C : Nat → Prop) (E : Prop) (hend : Dec (fun k => L k (n : Int)) E)
    (hstep : ∀ i : Nat, i < n → ∀ R : Prop, Dec (fun k => L k ((i + 1 : Nat) : Int)) R → Dec (fun k => L k (i : Int)) (C i ∧ R)) :
    Dec (fun k => L k 0) ((∀ i, i < n → C i) ∧ E) := by
  have h : ∀ (d i : Nat), n = i + d → Dec (fun k => L k (i : Int)) ((∀ j, i ≤ j → j < n → C j) ∧ E) := by
    intro d
    induction d with
    | zero =>
      intro i hi
      obtain rfl : n = i := by omega
      exact hend.iff ⟨fun e => ⟨fun j h1 h2 => by omega, e⟩, fun e => e.2⟩
    | succ d ih =>
      intro i hi
      refine (hstep i (by omega) _ (ih (i + 1) (by omega))).iff ⟨fun ⟨c, h, e⟩ => ⟨fun j h1 h2 => ?_, e⟩, fun ⟨h, e⟩ => ⟨h i (Nat.le_refl _) (by omega), fun j h1 h2 => h j (by omega) h2, e⟩⟩
      by_cases e : i = j
      · exact e ▸ c
      · exact h j (by omega) h2
  exact (h n 0 (by omega)).iff ⟨fun ⟨h, e⟩ => ⟨fun j hj => h j (Nat.zero_le _) hj, e⟩, fun ⟨h, e⟩ => ⟨fun j _ hj => h j hj, e⟩⟩
def Sz (f : Nat → Option Int) (left : Int) (P : Prop) : Prop := ∃ r, Ev f r ∧ r ≤ left ∧ (0 ≤ r → P)
theorem Sz.imp {f : Nat → Option Int} {left : Int} {P Q : Prop} (h : Sz f left P) (e : P → Q) : Sz f left Q := by
  obtain ⟨r, hr, hl, hp⟩ := h
  exact ⟨r, hr, hl, fun h => e (hp h)⟩
theorem Sz.bind {f : Nat → Option Int} {g : Nat → Int → Option Int} {left : Int} {P Q : Prop} (h0 : 0 ≤ left) (h : Sz f left P) (hg : ∀ r, 0 ≤ r → r ≤ left → Sz (fun k => g k r) r Q) : Sz (fun k => (f k).bind fun t => if t < 0 then some (-1) else g k t) left (P ∧ Q) := by
  obtain ⟨r, hr, hl, hp⟩ := h
  by_cases c : r < 0
  · refine ⟨-1, Ev.bind hr ?_, by omega, fun h => by omega⟩
    simp only [if_pos c]
    exact Ev.some _
  · obtain ⟨q, hq, hql, hqp⟩ := hg r (by omega) hl
    refine ⟨q, Ev.bind hr ?_, by omega, fun h => ⟨hp (by omega), hqp h⟩⟩
    simp only [if_neg c]
    exact hq
theorem Sz.last {f : Nat → Option Int} {left : Int} {P : Prop} (h0 : 0 ≤ left) (h : Sz f left P) : Sz (fun k => (f k).bind fun t => if t < 0 then some (-1) else some t) left P :=
  (Sz.bind (g := fun _ t => some t) h0 h (fun r h1 h2 => ⟨r, Ev.some _, Int.le_refl _, fun _ => trivial⟩)).imp (fun h => h.1)
theorem Sz.less {g : Nat → Int → Option Int} {left : Int} {n : Nat} {Q : Prop} (h0 : 0 ≤ left) (h1 : left ≤ 1048576) (hn : n ≤ maxLen) (hg : 0 ≤ left - n → Sz (fun k => g k (left - n)) (left - n) Q) : Sz (fun k => if wrap64 (left - (n : Int)) < 0 then some (-1) else g k (wrap64 (left - (n : Int)))) left (n ≤ 1048576 ∧ Q) := by
  unfold maxLen at hn
  rw [wrap64_id (by omega) (by omega)]
  by_cases c : left - (n : Int) < 0
  · refine ⟨-1, ?_, by omega, fun h => by omega⟩
    simp only [if_pos c]
    exact Ev.some _
  · obtain ⟨q, hq, hql, hqp⟩ := hg (by omega)
    refine ⟨q, ?_, by omega, fun h => ⟨by omega, hqp h⟩⟩
    simp only [if_neg c]
    exact hq
theorem Sz.list {α : Type} {l : List α} {L : Nat → Int → Int → Option Int} {step : Nat → α → Int → Option Int} {P : α → Prop} {left : Int} (h0 : 0 ≤ left) (h1 : left ≤ 1048576) (hl : l.length ≤ maxLen)
    (hend : ∀ k left (i : Nat), ¬ i < l.length → L (k + 1) left i = some left)
    (hstep : ∀ k left (i : Nat) (h : i < l.length), l.length ≤ 9223372036854775807 → L (k + 1) left i = (step k l[i] left).bind fun t => if t < 0 then some (-1) else L k t ((i + 1 : Nat) : Int))
    (hs : ∀ x ∈ l, ∀ left : Int, 0 ≤ left → left ≤ 1048576 → Sz (fun k => step k x left) left (P x)) :
    Sz (fun k => if wrap64 (left - (l.length : Int)) < 0 then some (-1) else L k (wrap64 (left - (l.length : Int))) 0) left (l.length ≤ 1048576 ∧ ∀ x ∈ l, P x) := by
  refine Sz.less (g := fun k t => L k t 0) h0 h1 hl (fun h => ?_)
  unfold maxLen at hl
  obtain ⟨r, hr, hle, hp⟩ := szLoop l L step P hend (fun k left i h => hstep k left i h (by omega)) hs l.length 0 (left - l.length) (by omega) h (by omega)
  exact ⟨r, hr, hle, fun h x hx => by
    obtain ⟨j, hj, rfl⟩ := List.getElem_of_mem hx
    exact hp h j hj (Nat.zero_le _)⟩
end Go.Proofs.Ytcchmhmbjhgfdaa.Pur
namespace Go.Proofs.Ytcchmhmbjhgfdaa.Pur
open Go.RowKit Go.Proofs.Ytcchmhmbjhgfdaa.G Go.Proofs.YtcchmhmbjhgfdaaW.PrintWords Go.Proofs.YtcchmhmbjhgfdaaW.PrintLast
set_option linter.unusedVariables false
set_option linter.unusedSimpArgs false
abbrev LP := S136
abbrev LN := S170
abbrev LG := S173
theorem rd_lp {l : List LP} {i : Nat} (h : i < l.length) : rd_T136 l (i : Int) = l[i] := getD_nat h
theorem rd_ln {l : List LN} {i : Nat} (h : i < l.length) : rd_T170 l (i : Int) = l[i] := getD_nat h
theorem rd_lg {l : List LG} {i : Nat} (h : i < l.length) : rd_T173 l (i : Int) = l[i] := getD_nat h
def SmLP (x : LP) : Prop := SmT x.f0 ∧ SmL x.f1
def SmLN (x : LN) : Prop := Few SmT x.f1 ∧ Few SmLP x.f2
def SmLG (x : LG) : Prop := SmT x.f1 ∧ Few SmLP x.f4
def cP (x : LP) : IP := ⟨x.f0, cV x.f1⟩
def cN (x : LN) : IN := ⟨x.f0, x.f1, x.f2.map cP⟩
def cG (x : LG) : IG := ⟨x.f0, x.f1, x.f2, x.f3, x.f4.map cP⟩
theorem SmP.of {x : LP} (h : SmLP x) : SmP (cP x) := ⟨h.1, Sm.of h.2⟩
theorem SmN.of {x : LN} (h : SmLN x) : SmN (cN x) := ⟨h.1, h.2.map fun _ => SmP.of⟩
theorem SmG.of {x : LG} (h : SmLG x) : SmG (cG x) := ⟨h.1, h.2.map fun _ => SmP.of⟩
theorem szStringS_ev {l : List ByteArray} (hl : l.length ≤ maxLen) (hs : ∀ x ∈ l, x.size ≤ maxLen) {left : Int} (h0 : 0 ≤ left) (h1 : left ≤ 1048576) : Sz (fun k => laws_szStringS.f k l left) left (Few SmT l) := by
  unfold laws_szStringS.f
  refine Sz.list (L := fun k left i => laws_szStringS.l0 k l left i) (step := fun _ x left => some (wrap64 (left - (x.size : Int)))) (P := SmT) h0 h1 hl
    (fun k left i h => by simp only [laws_szStringS.l0]; rw [if_neg (by omega)])
    (fun k left i h hb => by simp only [laws_szStringS.l0]; rw [if_pos (by omega), if_pos (by omega), rd_st h, wrap64_succ h hb]; rfl)
    (fun x hx left h0 h1 => ?_)
  have := hs x hx
  unfold maxLen at this
  exact ⟨_, Ev.some _, by rw [wrap64_id (by omega) (by omega)]; omega, fun h => by rw [wrap64_id (by omega) (by omega)] at h; show x.size ≤ _; omega⟩
theorem szProp_ev {x : LP} (ok : Ok136 x) {left : Int} (h0 : 0 ≤ left) (h1 : left ≤ 1048576) : Sz (fun k => laws_szProp.f k x.f0 x.f1.f0 x.f1.f1 x.f1.f2 x.f1.f3 left) left (SmLP x) := by
  obtain ⟨k0, k1⟩ := ok.all
  unfold laws_szProp.f
  exact Sz.less (g := fun k t => (laws_szValue.f k x.f1.f0 x.f1.f1 x.f1.f2 x.f1.f3 t).bind fun t107 => if t107 < 0 then some (-1) else some t107) h0 h1 k0 (fun h => Sz.last h (szValue_ev k1 _ h (by omega)))
theorem szPropS_ev {l : List LP} (hl : l.length ≤ maxLen) (ok : ∀ x ∈ l, Ok136 x) {left : Int} (h0 : 0 ≤ left) (h1 : left ≤ 1048576) : Sz (fun k => laws_szPropS.f k l left) left (Few SmLP l) := by
  unfold laws_szPropS.f
  exact Sz.list (L := fun k left i => laws_szPropS.l0 k l left i) (step := fun k x left => laws_szProp.f k x.f0 x.f1.f0 x.f1.f1 x.f1.f2 x.f1.f3 left) (P := SmLP) h0 h1 hl
    (fun k left i h => by simp only [laws_szPropS.l0]; rw [if_neg (by omega)])
    (fun k left i h hb => by simp only [laws_szPropS.l0]; rw [if_pos (by omega), if_pos (by omega), rd_lp h, wrap64_succ h hb])
    (by intro x hx left h0 h1; exact szProp_ev (ok x hx) h0 h1)
theorem szNode_ev {x : LN} (ok : Ok170 x) {left : Int} (h0 : 0 ≤ left) (h1 : left ≤ 1048576) : Sz (fun k => laws_szNode.f k x.f0 x.f1 x.f2 left) left (SmLN x) := by
  obtain ⟨k0, k1, k2, k3, k4⟩ := ok.all
  unfold laws_szNode.f
  exact Sz.bind (g := fun k t => (laws_szPropS.f k x.f2 t).bind fun t112 => if t112 < 0 then some (-1) else some t112) h0 (szStringS_ev k1 k2 h0 h1) (fun r h h' => Sz.last h (szPropS_ev k3 k4 h (by omega)))
theorem szNodeS_ev {l : List LN} (hl : l.length ≤ maxLen) (ok : ∀ x ∈ l, Ok170 x) {left : Int} (h0 : 0 ≤ left) (h1 : left ≤ 1048576) : Sz (fun k => laws_szNodeS.f k l left) left (Few SmLN l) := by
  unfold laws_szNodeS.f
  exact Sz.list (L := fun k left i => laws_szNodeS.l0 k l left i) (step := fun k x left => laws_szNode.f k x.f0 x.f1 x.f2 left) (P := SmLN) h0 h1 hl
    (fun k left i h => by simp only [laws_szNodeS.l0]; rw [if_neg (by omega)])
    (fun k left i h hb => by simp only [laws_szNodeS.l0]; rw [if_pos (by omega), if_pos (by omega), rd_ln h, wrap64_succ h hb])
    (by intro x hx left h0 h1; exact szNode_ev (ok x hx) h0 h1)
theorem szEdge_ev {x : LG} (ok : Ok173 x) {left : Int} (h0 : 0 ≤ left) (h1 : left ≤ 1048576) : Sz (fun k => laws_szEdge.f k x.f0 x.f1 x.f2 x.f3 x.f4 left) left (SmLG x) := by
  obtain ⟨k0, k1, k2, k3, k4, k5⟩ := ok.all
  unfold laws_szEdge.f
  exact Sz.less (g := fun k t => (laws_szPropS.f k x.f4 t).bind fun t116 => if t116 < 0 then some (-1) else some t116) h0 h1 k1 (fun h => Sz.last h (szPropS_ev k4 k5 h (by omega)))
theorem szEdgeS_ev {l : List LG} (hl : l.length ≤ maxLen) (ok : ∀ x ∈ l, Ok173 x) {left : Int} (h0 : 0 ≤ left) (h1 : left ≤ 1048576) : Sz (fun k => laws_szEdgeS.f k l left) left (Few SmLG l) := by
  unfold laws_szEdgeS.f
  exact Sz.list (L := fun k left i => laws_szEdgeS.l0 k l left i) (step := fun k x left => laws_szEdge.f k x.f0 x.f1 x.f2 x.f3 x.f4 left) (P := SmLG) h0 h1 hl
    (fun k left i h => by simp only [laws_szEdgeS.l0]; rw [if_neg (by omega)])
    (fun k left i h hb => by simp only [laws_szEdgeS.l0]; rw [if_pos (by omega), if_pos (by omega), rd_lg h, wrap64_succ h hb])
    (by intro x hx left h0 h1; exact szEdge_ev (ok x hx) h0 h1)
theorem szGraph_ev {x : S25} (ok : Ok25 x) {left : Int} (h0 : 0 ≤ left) (h1 : left ≤ 1048576) : Sz (fun k => laws_szGraph.f k x.f0 x.f1 x.f2 x.f3 left) left (Few SmLN x.f0 ∧ Few SmLG x.f1) := by
  obtain ⟨k0, k1, k2, k3, k4, k5⟩ := ok.all
  unfold laws_szGraph.f
  exact Sz.bind (g := fun k t => (laws_szEdgeS.f k x.f1 t).bind fun t121 => if t121 < 0 then some (-1) else some t121) h0 (szNodeS_ev k0 k1 h0 h1) (fun r h h' => Sz.last h (szEdgeS_ev k2 k3 h (by omega)))
theorem toStringS_ev {l : List ByteArray} (hl : l.length ≤ 1048576) : Ev (fun k => laws_toStringS.f k l) l := by
  unfold laws_toStringS.f
  simp only [if_pos (show 0 ≤ (l.length : Int) by omega), Int.toNat_natCast, if_pos (show l.length ≤ 17592186044416 by omega)]
  have h := toLoop l (fun k out i => laws_toStringS.l0 k l out i) (fun _ x => some x) id
    (fun k out i h => by simp only [laws_toStringS.l0]; rw [if_neg (by omega)])
    (fun k out i h ho => by simp only [laws_toStringS.l0]; rw [if_pos (by omega), if_pos (by omega), if_pos (by omega), rd_st h, wrap64_succ h (by omega)]; rfl)
    (fun x hx => Ev.some _) l.length 0 (List.replicate l.length (⟨#[]⟩ : ByteArray)) (by omega) (by simp)
  simpa using h
theorem toProp_ev {x : LP} (h : SmLP x) : Ev (fun k => laws_toProp.f k x.f0 x.f1.f0 x.f1.f1 x.f1.f2 x.f1.f3) ((cP x).f0, (cP x).f1.f0, (cP x).f1.f1, (cP x).f1.f2, (cP x).f1.f3) := by
  unfold laws_toProp.f
  exact Ev.bind (toValue_ev h.2) (Ev.some _)
theorem toPropS_ev {l : List LP} (h : Few SmLP l) : Ev (fun k => laws_toPropS.f k l) (l.map cP) := by
  have hl := h.1
  unfold laws_toPropS.f
  simp only [if_pos (show 0 ≤ (l.length : Int) by omega), Int.toNat_natCast, if_pos (show l.length ≤ 3909374676536 by omega)]
  have h := toLoop l (fun k out i => laws_toPropS.l0 k l out i) (fun k x => (laws_toProp.f k x.f0 x.f1.f0 x.f1.f1 x.f1.f2 x.f1.f3).bind fun b => some (⟨b.1, ⟨b.2.1, b.2.2.1, b.2.2.2.1, b.2.2.2.2⟩⟩ : IP)) cP
    (fun k out i h => by simp only [laws_toPropS.l0]; rw [if_neg (by omega)])
    (fun k out i h ho => by
      simp only [laws_toPropS.l0]
      rw [if_pos (by omega), if_pos (by omega), rd_lp h, wrap64_succ h (by omega)]
      cases laws_toProp.f k l[i].f0 l[i].f1.f0 l[i].f1.f1 l[i].f1.f2 l[i].f1.f3 with
      | none => rfl
      | some b => simp only [Option.bind_some]; rw [if_pos (by omega)]; rfl)
    (fun x hx => Ev.bind (toProp_ev (h.2 x hx)) (Ev.eq (Ev.some _) (by generalize cP x = y; obtain ⟨a, ⟨b, c, d, e⟩⟩ := y; rfl))) l.length 0 (List.replicate l.length z140) (by omega) (by simp)
  simpa using h
theorem toNode_ev {x : LN} (h : SmLN x) : Ev (fun k => laws_toNode.f k x.f0 x.f1 x.f2) ((cN x).f0, (cN x).f1, (cN x).f2) := by
  unfold laws_toNode.f
  exact Ev.bind (toStringS_ev h.1.1) (Ev.bind (toPropS_ev h.2) (Ev.some _))
theorem toNodeS_ev {l : List LN} (h : Few SmLN l) : Ev (fun k => laws_toNodeS.f k l) (l.map cN) := by
  have hl := h.1
  unfold laws_toNodeS.f
  simp only [if_pos (show 0 ≤ (l.length : Int) by omega), Int.toNat_natCast, if_pos (show l.length ≤ 5026338869833 by omega)]
  have h := toLoop l (fun k out i => laws_toNodeS.l0 k l out i) (fun k x => (laws_toNode.f k x.f0 x.f1 x.f2).bind fun b => some (⟨b.1, b.2.1, b.2.2⟩ : IN)) cN
    (fun k out i h => by simp only [laws_toNodeS.l0]; rw [if_neg (by omega)])
    (fun k out i h ho => by
      simp only [laws_toNodeS.l0]
      rw [if_pos (by omega), if_pos (by omega), rd_ln h, wrap64_succ h (by omega)]
      cases laws_toNode.f k l[i].f0 l[i].f1 l[i].f2 with
      | none => rfl
      | some b => simp only [Option.bind_some]; rw [if_pos (by omega)]; rfl)
    (fun x hx => Ev.bind (toNode_ev (h.2 x hx)) (Ev.eq (Ev.some _) (by generalize cN x = y; cases y; rfl))) l.length 0 (List.replicate l.length z99) (by omega) (by simp)
  simpa using h
theorem toEdge_ev {x : LG} (h : SmLG x) : Ev (fun k => laws_toEdge.f k x.f0 x.f1 x.f2 x.f3 x.f4) ((cG x).f0, (cG x).f1, (cG x).f2, (cG x).f3, (cG x).f4) := by
  unfold laws_toEdge.f
  exact Ev.bind (toPropS_ev h.2) (Ev.some _)
theorem toEdgeS_ev {l : List LG} (h : Few SmLG l) : Ev (fun k => laws_toEdgeS.f k l) (l.map cG) := by
  have hl := h.1
  unfold laws_toEdgeS.f
  simp only [if_pos (show 0 ≤ (l.length : Int) by omega), Int.toNat_natCast]
  refine Ev.pos (by omega) ?_
  have h := toLoop l (fun k out i => laws_toEdgeS.l0 k l out i) (fun k x => (laws_toEdge.f k x.f0 x.f1 x.f2 x.f3 x.f4).bind fun b => some (⟨b.1, b.2.1, b.2.2.1, b.2.2.2.1, b.2.2.2.2⟩ : IG)) cG
    (fun k out i h => by simp only [laws_toEdgeS.l0]; rw [if_neg (by omega)])
    (fun k out i h ho => by
      simp only [laws_toEdgeS.l0]
      rw [if_pos (by omega), if_pos (by omega), rd_lg h, wrap64_succ h (by omega)]
      cases laws_toEdge.f k l[i].f0 l[i].f1 l[i].f2 l[i].f3 l[i].f4 with
      | none => rfl
      | some b => simp only [Option.bind_some]; rw [if_pos (by omega)]; rfl)
    (fun x hx => Ev.bind (toEdge_ev (h.2 x hx)) (Ev.eq (Ev.some _) (by generalize cG x = y; cases y; rfl))) l.length 0 (List.replicate l.length z104) (by omega) (by simp)
  simpa using h
theorem toGraph_ev {ns : List LN} {es : List LG} {a b : Int} (hn : Few SmLN ns) (he : Few SmLG es) : Ev (fun k => laws_toGraph.f k ns es a b) (ns.map cN, es.map cG, a, b) := by
  unfold laws_toGraph.f
  exact Ev.bind (toNodeS_ev hn) (Ev.bind (toEdgeS_ev he) (Ev.some _))
theorem eqStringS_refl {l : List ByteArray} (hl : l.length ≤ 1048576) : Ev (fun k => laws_eqStringS.f k l l) true := by
  unfold laws_eqStringS.f
  simp only [if_true]
  exact eqLoop l (fun k i => laws_eqStringS.l0 k l l i) (fun _ x y => some (decide (x.toList = y.toList)))
    (fun k i h => by simp only [laws_eqStringS.l0]; rw [if_neg (by omega)])
    (fun k i h => by simp only [laws_eqStringS.l0, if_true]; rw [if_pos (by omega), if_pos (by omega), if_pos (by omega), wrap64_succ h (by omega)]; simp)
    (fun x hx => Ev.eq (Ev.some _) (by simp)) l.length 0 (by omega)
theorem eqProp_refl {x : IP} (h : SmP x) : Ev (fun k => laws_eqProp.f k x.f0 x.f1.f0 x.f1.f1 x.f1.f2 x.f1.f3 x.f0 x.f1.f0 x.f1.f1 x.f1.f2 x.f1.f3) true := by
  unfold laws_eqProp.f
  simp only [if_true]
  exact Ev.bind (eqValue_refl h.2) (Ev.pos rfl (Ev.some _))
theorem eqPropS_refl {l : List IP} (h : Few SmP l) : Ev (fun k => laws_eqPropS.f k l l) true := by
  have hl := h.1
  unfold laws_eqPropS.f
  simp only [if_true]
  exact eqLoop l (fun k i => laws_eqPropS.l0 k l l i) (fun k x y => laws_eqProp.f k x.f0 x.f1.f0 x.f1.f1 x.f1.f2 x.f1.f3 y.f0 y.f1.f0 y.f1.f1 y.f1.f2 y.f1.f3)
    (fun k i h => by simp only [laws_eqPropS.l0]; rw [if_neg (by omega)])
    (fun k i h => by simp only [laws_eqPropS.l0]; rw [if_pos (by omega), if_pos (by omega), if_pos (by omega), rd_ip h, wrap64_succ h (by omega)])
    (fun x hx => eqProp_refl (h.2 x hx)) l.length 0 (by omega)
theorem eqNode_refl {x : IN} (h : SmN x) : Ev (fun k => laws_eqNode.f k x.f0 x.f1 x.f2 x.f0 x.f1 x.f2) true := by
  unfold laws_eqNode.f
  simp only [if_true]
  exact Ev.bind (eqStringS_refl h.1.1) (Ev.pos rfl (Ev.bind (eqPropS_refl h.2) (Ev.pos rfl (Ev.some _))))
theorem eqNodeS_refl {l : List IN} (h : Few SmN l) : Ev (fun k => laws_eqNodeS.f k l l) true := by
  have hl := h.1
  unfold laws_eqNodeS.f
  simp only [if_true]
  exact eqLoop l (fun k i => laws_eqNodeS.l0 k l l i) (fun k x y => laws_eqNode.f k x.f0 x.f1 x.f2 y.f0 y.f1 y.f2)
    (fun k i h => by simp only [laws_eqNodeS.l0]; rw [if_neg (by omega)])
    (fun k i h => by simp only [laws_eqNodeS.l0]; rw [if_pos (by omega), if_pos (by omega), if_pos (by omega), rd_in h, wrap64_succ h (by omega)])
    (fun x hx => eqNode_refl (h.2 x hx)) l.length 0 (by omega)
theorem eqEdge_refl {x : IG} (h : SmG x) : Ev (fun k => laws_eqEdge.f k x.f0 x.f1 x.f2 x.f3 x.f4 x.f0 x.f1 x.f2 x.f3 x.f4) true := by
  unfold laws_eqEdge.f
  simp only [if_true]
  exact Ev.bind (eqPropS_refl h.2) (Ev.pos rfl (Ev.some _))
theorem eqEdgeS_refl {l : List IG} (h : Few SmG l) : Ev (fun k => laws_eqEdgeS.f k l l) true := by
  have hl := h.1
  unfold laws_eqEdgeS.f
  simp only [if_true]
  exact eqLoop l (fun k i => laws_eqEdgeS.l0 k l l i) (fun k x y => laws_eqEdge.f k x.f0 x.f1 x.f2 x.f3 x.f4 y.f0 y.f1 y.f2 y.f3 y.f4)
    (fun k i h => by simp only [laws_eqEdgeS.l0]; rw [if_neg (by omega)])
    (fun k i h => by simp only [laws_eqEdgeS.l0]; rw [if_pos (by omega), if_pos (by omega), if_pos (by omega), rd_ig h, wrap64_succ h (by omega)])
    (fun x hx => eqEdge_refl (h.2 x hx)) l.length 0 (by omega)
theorem eqGraph_refl {ns : List IN} {es : List IG} {a b : Int} (hn : Few SmN ns) (he : Few SmG es) : Ev (fun k => laws_eqGraph.f k ns es a b ns es a b) true := by
  unfold laws_eqGraph.f
  simp only [if_true]
  exact Ev.bind (eqNodeS_refl hn) (Ev.pos rfl (Ev.bind (eqEdgeS_refl he) (Ev.pos rfl (Ev.some _))))
end Go.Proofs.Ytcchmhmbjhgfdaa.Pur
namespace Go.Proofs.Ytcchmhmbjhgfdaa.Pur
open Go.RowKit Go.Proofs.Ytcchmhmbjhgfdaa.G Go.Proofs.Ytcchmhmbjhgfdaa.Mk Go.Proofs.YtcchmhmbjhgfdaaW.PrintWords Go.Proofs.YtcchmhmbjhgfdaaW.PrintLast
set_option linter.unusedVariables false
set_option linter.unusedSimpArgs false
def Sc (f : Nat → Option Int) (left : Int) (c : Nat) : Prop := ∃ r, Ev f r ∧ r ≤ left ∧ (0 ≤ r → (c : Int) ≤ 4 * (left - r))
theorem Sc.le {f : Nat → Option Int} {left : Int} {c c' : Nat} (h : Sc f left c) (e : c' ≤ c) : Sc f left c' := by
  obtain ⟨r, hr, hl, hp⟩ := h
  exact ⟨r, hr, hl, fun h => by have := hp h; omega⟩
theorem Sc.bind {f : Nat → Option Int} {g : Nat → Int → Option Int} {left : Int} {c c' : Nat} (h0 : 0 ≤ left) (h : Sc f left c) (hg : ∀ r, 0 ≤ r → r ≤ left → Sc (fun k => g k r) r c') : Sc (fun k => (f k).bind fun t => if t < 0 then some (-1) else g k t) left (c + c') := by
  obtain ⟨r, hr, hl, hp⟩ := h
  by_cases n : r < 0
  · refine ⟨-1, Ev.bind hr ?_, by omega, fun h => by omega⟩
    simp only [if_pos n]
    exact Ev.some _
  · obtain ⟨q, hq, hql, hqp⟩ := hg r (by omega) hl
    refine ⟨q, Ev.bind hr ?_, by omega, fun h => by have := hp (by omega); have := hqp h; omega⟩
    simp only [if_neg n]
    exact hq
theorem Sc.last {f : Nat → Option Int} {left : Int} {c : Nat} (h0 : 0 ≤ left) (h : Sc f left c) : Sc (fun k => (f k).bind fun t => if t < 0 then some (-1) else some t) left c :=
  (Sc.bind (g := fun _ t => some t) (c' := 0) h0 h (fun r h1 h2 => ⟨r, Ev.some _, Int.le_refl _, fun _ => by omega⟩)).le (by omega)
theorem Sc.less {g : Nat → Int → Option Int} {left : Int} {n : Nat} {c : Nat} (h0 : 0 ≤ left) (h1 : left ≤ 1048576) (hn : n ≤ maxLen) (hg : 0 ≤ left - n → Sc (fun k => g k (left - n)) (left - n) c) : Sc (fun k => if wrap64 (left - (n : Int)) < 0 then some (-1) else g k (wrap64 (left - (n : Int)))) left (4 * n + c) := by
  unfold maxLen at hn
  rw [wrap64_id (by omega) (by omega)]
  by_cases m : left - (n : Int) < 0
  · refine ⟨-1, ?_, by omega, fun h => by omega⟩
    simp only [if_pos m]
    exact Ev.some _
  · obtain ⟨q, hq, hql, hqp⟩ := hg (by omega)
    refine ⟨q, ?_, by omega, fun h => by have := hqp h; omega⟩
    simp only [if_neg m]
    exact hq
theorem scLoop {α : Type} (l : List α) (L : Nat → Int → Int → Option Int) (step : Nat → α → Int → Option Int) (c : α → Nat)
    (hend : ∀ k left (i : Nat), ¬ i < l.length → L (k + 1) left i = some left)
    (hstep : ∀ k left (i : Nat) (h : i < l.length), L (k + 1) left i = (step k l[i] left).bind fun t => if t < 0 then some (-1) else L k t ((i + 1 : Nat) : Int))
    (hs : ∀ x ∈ l, ∀ left : Int, 0 ≤ left → left ≤ 1048576 → Sc (fun k => step k x left) left (c x)) :
    ∀ (d i : Nat) (left : Int), l.length = i + d → 0 ≤ left → left ≤ 1048576 → Sc (fun k => L k left i) left (cnts c (l.drop i)) := by
  intro d
  induction d with
  | zero =>
    intro i left hi h0 h1
    refine ⟨left, Ev.succ (Ev.of_eq fun k => hend k left i (by omega)), Int.le_refl _, fun _ => ?_⟩
    rw [List.drop_of_length_le (by omega)]
    simp [cnts]
  | succ d ih =>
    intro i left hi h0 h1
    have hlt : i < l.length := by omega
    obtain ⟨r, hr, hle, hp⟩ := hs l[i] (List.getElem_mem hlt) left h0 h1
    by_cases hn : r < 0
    · refine ⟨-1, Ev.succ ?_, by omega, fun h => by omega⟩
      simp only [hstep _ _ _ hlt]
      refine Ev.bind hr ?_
      simp only [if_pos hn]
      exact Ev.some _
    · obtain ⟨q, hq, hle', hp'⟩ := ih (i + 1) r (by omega) (by omega) (by omega)
      refine ⟨q, Ev.succ ?_, by omega, fun h => ?_⟩
      · simp only [hstep _ _ _ hlt]
        refine Ev.bind hr ?_
        simp only [if_neg hn]
        exact hq
      · have h1 := hp (by omega)
        have h2 := hp' h
        have e : cnts c (l.drop i) = c l[i] + cnts c (l.drop (i + 1)) := by
          unfold cnts
          rw [List.drop_eq_getElem_cons hlt, List.map_cons, List.sum_cons]
        rw [e]; omega
theorem Sc.list {α : Type} {l : List α} {L : Nat → Int → Int → Option Int} {step : Nat → α → Int → Option Int} {c : α → Nat} {left : Int} (h0 : 0 ≤ left) (h1 : left ≤ 1048576) (hl : l.length ≤ maxLen)
    (hend : ∀ k left (i : Nat), ¬ i < l.length → L (k + 1) left i = some left)
    (hstep : ∀ k left (i : Nat) (h : i < l.length), l.length ≤ 9223372036854775807 → L (k + 1) left i = (step k l[i] left).bind fun t => if t < 0 then some (-1) else L k t ((i + 1 : Nat) : Int))
    (hs : ∀ x ∈ l, ∀ left : Int, 0 ≤ left → left ≤ 1048576 → Sc (fun k => step k x left) left (c x)) :
    Sc (fun k => if wrap64 (left - (l.length : Int)) < 0 then some (-1) else L k (wrap64 (left - (l.length : Int))) 0) left (4 * l.length + cnts c l) := by
  refine Sc.less (g := fun k t => L k t 0) h0 h1 hl (fun h => ?_)
  unfold maxLen at hl
  exact scLoop l L step c hend (fun k left i h => hstep k left i h (by omega)) hs l.length 0 (left - l.length) (by omega) h (by omega)
theorem Sc.succ {g : Nat → Option Int} {left : Int} {c : Nat} (h : Sc (fun k => g (k + 1)) left c) : Sc g left c := by
  obtain ⟨r, hr, hl, hp⟩ := h
  exact ⟨r, Ev.succ hr, hl, hp⟩
theorem cnts_add {α : Type} (f : α → Nat) (n : Nat) (l : List α) : cnts (fun x => n + f x) l = n * l.length + cnts f l := by
  induction l with
  | nil => simp [cnts]
  | cons x l ih =>
    simp only [cnts, List.map_cons, List.sum_cons, List.length_cons, Nat.mul_add] at ih ⊢
    omega
theorem cnts_map {α β : Type} (f : β → Nat) (g : α → β) (l : List α) : cnts f (l.map g) = cnts (fun x => f (g x)) l := by simp [cnts, Function.comp_def]
def inV (x : LV) : Nat := cntVs (x.f3.map cV)
theorem inV_eq (x : LV) : cntV (cV x) = 3 + inV x := by rw [cntV_eq, cV_eq]; rfl
theorem cntVs_in (l : List LV) : cntVs (l.map cV) = 3 * l.length + cnts inV l := by
  have : cntVs (l.map cV) = cnts (fun x => 3 + inV x) l := by
    show cnts cntV (l.map cV) = _
    rw [cnts_map]
    simp only [inV_eq]
  rw [this, cnts_add]
theorem szValue_sc {x : LV} (ok : Ok45 x) : ∀ left : Int, 0 ≤ left → left ≤ 1048576 → Sc (fun k => laws_szValue.f k x.f0 x.f1 x.f2 x.f3 left) left (inV x) := by
  induction ok with
  | @mk x h0 h1 h2 h3 h4 ih =>
    intro left l0 l1
    refine Sc.succ ?_
    simp only [laws_szValue.f]
    refine (Sc.less (g := fun k t => (laws_szValueS.f k x.f3 t).bind fun t => if t < 0 then some (-1) else some t) (c := inV x) l0 l1 h2 (fun h => Sc.last h ?_)).le (by omega)
    refine Sc.succ ?_
    simp only [laws_szValueS.f]
    refine (Sc.list (L := fun k left i => laws_szValueS.l0 k x.f3 left i) (step := fun k x left => laws_szValue.f k x.f0 x.f1 x.f2 x.f3 left) (c := inV) h (by omega) h3
      (fun k left i h => by simp only [laws_szValueS.l0]; rw [if_neg (by omega)])
      (fun k left i h hb => by simp only [laws_szValueS.l0]; rw [if_pos (by omega), if_pos (by omega), rd_lv h, wrap64_succ h hb]) ih).le ?_
    show cntVs (x.f3.map cV) ≤ _
    rw [cntVs_in]
    omega
theorem szStringS_sc {l : List ByteArray} (hl : l.length ≤ maxLen) (hs : ∀ x ∈ l, x.size ≤ maxLen) {left : Int} (h0 : 0 ≤ left) (h1 : left ≤ 1048576) : Sc (fun k => laws_szStringS.f k l left) left (cnts one_ l) := by
  unfold laws_szStringS.f
  refine (Sc.list (L := fun k left i => laws_szStringS.l0 k l left i) (step := fun _ x left => some (wrap64 (left - (x.size : Int)))) (c := fun _ => 0) h0 h1 hl
    (fun k left i h => by simp only [laws_szStringS.l0]; rw [if_neg (by omega)])
    (fun k left i h hb => by simp only [laws_szStringS.l0]; rw [if_pos (by omega), if_pos (by omega), rd_st h, wrap64_succ h hb]; rfl)
    (fun x hx left h0 h1 => ?_)).le ?_
  · have := hs x hx
    unfold maxLen at this
    exact ⟨_, Ev.some _, by rw [wrap64_id (by omega) (by omega)]; omega, fun h => by rw [wrap64_id (by omega) (by omega)] at h ⊢; omega⟩
  · have : cnts one_ l = l.length := by
      have := cnts_add (fun _ : ByteArray => 0) 1 l
      have e : ∀ l : List ByteArray, cnts (fun _ : ByteArray => 0) l = 0 := by
        intro l
        induction l with
        | nil => rfl
        | cons x l ih => simpa [cnts] using ih
      rw [e l] at this
      show cnts (fun _ => 1) l = _
      simpa using this
    omega
def inP (x : LP) : Nat := inV x.f1
theorem szProp_sc {x : LP} (ok : Ok136 x) {left : Int} (h0 : 0 ≤ left) (h1 : left ≤ 1048576) : Sc (fun k => laws_szProp.f k x.f0 x.f1.f0 x.f1.f1 x.f1.f2 x.f1.f3 left) left (inP x) := by
  obtain ⟨k0, k1⟩ := ok.all
  unfold laws_szProp.f
  exact (Sc.less (g := fun k t => (laws_szValue.f k x.f1.f0 x.f1.f1 x.f1.f2 x.f1.f3 t).bind fun t107 => if t107 < 0 then some (-1) else some t107) (c := inV x.f1) h0 h1 k0 (fun h => Sc.last h (szValue_sc k1 _ h (by omega)))).le (by unfold inP; omega)
theorem cntP_eq (x : LP) : cntP (cP x) = 4 + inP x := by unfold cntP inP inV cP; rw [cV_eq]
theorem cntPs (l : List LP) : cnts cntP (l.map cP) = 4 * l.length + cnts inP l := by
  rw [cnts_map]; simp only [cntP_eq]; exact cnts_add _ _ _
theorem szPropS_sc {l : List LP} (hl : l.length ≤ maxLen) (ok : ∀ x ∈ l, Ok136 x) {left : Int} (h0 : 0 ≤ left) (h1 : left ≤ 1048576) : Sc (fun k => laws_szPropS.f k l left) left (cnts cntP (l.map cP)) := by
  unfold laws_szPropS.f
  rw [cntPs]
  exact Sc.list (L := fun k left i => laws_szPropS.l0 k l left i) (step := fun k x left => laws_szProp.f k x.f0 x.f1.f0 x.f1.f1 x.f1.f2 x.f1.f3 left) (c := inP) h0 h1 hl
    (fun k left i h => by simp only [laws_szPropS.l0]; rw [if_neg (by omega)])
    (fun k left i h hb => by simp only [laws_szPropS.l0]; rw [if_pos (by omega), if_pos (by omega), rd_lp h, wrap64_succ h hb])
    (by intro x hx left h0 h1; exact szProp_sc (ok x hx) h0 h1)
def inN (x : LN) : Nat := cnts one_ x.f1 + cnts cntP (x.f2.map cP)
theorem szNode_sc {x : LN} (ok : Ok170 x) {left : Int} (h0 : 0 ≤ left) (h1 : left ≤ 1048576) : Sc (fun k => laws_szNode.f k x.f0 x.f1 x.f2 left) left (inN x) := by
  obtain ⟨k0, k1, k2, k3, k4⟩ := ok.all
  unfold laws_szNode.f
  exact Sc.bind (g := fun k t => (laws_szPropS.f k x.f2 t).bind fun t112 => if t112 < 0 then some (-1) else some t112) h0 (szStringS_sc k1 k2 h0 h1) (fun r h h' => Sc.last h (szPropS_sc k3 k4 h (by omega)))
theorem szNodeS_sc {l : List LN} (hl : l.length ≤ maxLen) (ok : ∀ x ∈ l, Ok170 x) {left : Int} (h0 : 0 ≤ left) (h1 : left ≤ 1048576) : Sc (fun k => laws_szNodeS.f k l left) left (cnts cntN (l.map cN)) := by
  unfold laws_szNodeS.f
  refine (Sc.list (L := fun k left i => laws_szNodeS.l0 k l left i) (step := fun k x left => laws_szNode.f k x.f0 x.f1 x.f2 left) (c := inN) h0 h1 hl
    (fun k left i h => by simp only [laws_szNodeS.l0]; rw [if_neg (by omega)])
    (fun k left i h hb => by simp only [laws_szNodeS.l0]; rw [if_pos (by omega), if_pos (by omega), rd_ln h, wrap64_succ h hb])
    (by intro x hx left h0 h1; exact szNode_sc (ok x hx) h0 h1)).le ?_
  have : cnts cntN (l.map cN) = 1 * l.length + cnts inN l := by
    rw [cnts_map]
    have e : (fun x => cntN (cN x)) = fun x => 1 + inN x := by funext x; unfold cntN inN cN; simp only [Nat.add_assoc]
    rw [e]; exact cnts_add _ _ _
  omega
def inG (x : LG) : Nat := cnts cntP (x.f4.map cP)
theorem szEdge_sc {x : LG} (ok : Ok173 x) {left : Int} (h0 : 0 ≤ left) (h1 : left ≤ 1048576) : Sc (fun k => laws_szEdge.f k x.f0 x.f1 x.f2 x.f3 x.f4 left) left (inG x) := by
  obtain ⟨k0, k1, k2, k3, k4, k5⟩ := ok.all
  unfold laws_szEdge.f
  exact (Sc.less (g := fun k t => (laws_szPropS.f k x.f4 t).bind fun t116 => if t116 < 0 then some (-1) else some t116) (c := inG x) h0 h1 k1 (fun h => Sc.last h (szPropS_sc k4 k5 h (by omega)))).le (by omega)
theorem szEdgeS_sc {l : List LG} (hl : l.length ≤ maxLen) (ok : ∀ x ∈ l, Ok173 x) {left : Int} (h0 : 0 ≤ left) (h1 : left ≤ 1048576) : Sc (fun k => laws_szEdgeS.f k l left) left (cnts cntG (l.map cG)) := by
  unfold laws_szEdgeS.f
  refine (Sc.list (L := fun k left i => laws_szEdgeS.l0 k l left i) (step := fun k x left => laws_szEdge.f k x.f0 x.f1 x.f2 x.f3 x.f4 left) (c := inG) h0 h1 hl
    (fun k left i h => by simp only [laws_szEdgeS.l0]; rw [if_neg (by omega)])
    (fun k left i h hb => by simp only [laws_szEdgeS.l0]; rw [if_pos (by omega), if_pos (by omega), rd_lg h, wrap64_succ h hb])
    (by intro x hx left h0 h1; exact szEdge_sc (ok x hx) h0 h1)).le ?_
  have : cnts cntG (l.map cG) = 4 * l.length + cnts inG l := by
    rw [cnts_map]
    have e : (fun x => cntG (cG x)) = fun x => 4 + inG x := by funext x; rfl
    rw [e]; exact cnts_add _ _ _
  omega
theorem szGraph_sc {x : S25} (ok : Ok25 x) {left : Int} (h0 : 0 ≤ left) (h1 : left ≤ 1048576) : Sc (fun k => laws_szGraph.f k x.f0 x.f1 x.f2 x.f3 left) left (cntGr (x.f0.map cN) (x.f1.map cG)) := by
  obtain ⟨k0, k1, k2, k3, k4, k5⟩ := ok.all
  unfold laws_szGraph.f
  exact Sc.bind (g := fun k t => (laws_szEdgeS.f k x.f1 t).bind fun t121 => if t121 < 0 then some (-1) else some t121) h0 (szNodeS_sc k0 k1 h0 h1) (fun r h h' => Sc.last h (szEdgeS_sc k2 k3 h (by omega)))
theorem ev_unique {α : Type} {f : Nat → Option α} {r r' : α} (h : Ev f r) (h' : Ev f r') : r = r' := by
  obtain ⟨a, ha⟩ := h
  obtain ⟨b, hb⟩ := h'
  have h1 := ha (a + b) (by omega)
  have h2 := hb (a + b) (by omega)
  rw [h1] at h2
  exact Option.some.inj h2
theorem marks_fit {x : S25} (ok : Ok25 x) {r : Int} (hr : Ev (fun k => laws_szGraph.f k x.f0 x.f1 x.f2 x.f3 1048576) r) (h : 0 ≤ r) : cntGr (x.f0.map cN) (x.f1.map cG) ≤ 4194304 := by
  obtain ⟨q, hq, hl, hp⟩ := szGraph_sc ok (left := 1048576) (by omega) (by omega)
  obtain rfl := ev_unique hr hq
  have := hp h
  omega
end Go.Proofs.Ytcchmhmbjhgfdaa.Pur
namespace Go.Proofs.Ytcchmhmbjhgfdaa.Pur
open Go.RowKit Go.Proofs.Ytcchmhmbjhgfdaa.G Go.Proofs.YtcchmhmbjhgfdaaW.PrintWords Go.Proofs.YtcchmhmbjhgfdaaW.PrintLast
set_option linter.unusedVariables false
theorem l1In_eq (n a b : Int) : spec_l1In.f n a b = some (decide (a ≤ n) && decide (n ≤ b)) := by
  unfold spec_l1In.f
  by_cases h1 : a ≤ n <;> simp [h1]
end Go.Proofs.Ytcchmhmbjhgfdaa.Pur
