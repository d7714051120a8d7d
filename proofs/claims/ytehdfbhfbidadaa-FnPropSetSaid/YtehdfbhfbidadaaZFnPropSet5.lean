/- The law FnPropSet of the given program holds of every input (theorem fnPropSet_holds, the last of these texts): part 5 of 8. -/
import Derived.Below
import Derived.Carry
import Derived.MapKept
import Derived.Laws.StructEq
import Derived.Test.YtehdfbhfbidadaaZFnPropSet4
/- Texts Sh, Eva, Cfit, Cname, Cval, Cprop, Clab, Cgok, Cgok2, Opc, Opb. -/
/- Kinds of data as rows of trees: what is read, what is owned. -/
namespace Go.Proofs.Ytehdfbhfbidadaa.V
open Go
set_option linter.unusedVariables false
set_option linter.unusedSimpArgs false
/-- A cell of what is read. -/
def T.im : T → Bool
  | .b _ | .i _ _ | .s _ | .imm _ => true
  | _ => false
/-- A cell of what is owned. -/
def T.ow : T → Bool
  | .b _ | .i _ _ | .s _ => true
  | .own _ rows => cleanR rows && noImr rows
  | _ => false
structure Sh (α : Type) where
  sz : Nat
  I : α → List T
  O : α → List T
  lI : ∀ a, (I a).length = sz
  lO : ∀ a, (O a).length = sz
  toO : ∀ a, toIs (O a) = I a
  im : ∀ a, (I a).all T.im = true
  ow : ∀ a, (O a).all T.ow = true
section
variable {n : Nat} {s : St}
theorem im_mats : ∀ {cs : List T} {n : Nat}, cs.all T.im = true → mats cs n = (cs, [])
  | [], n, h => by simp [mats]
  | c :: cs, n, h => by
    simp only [List.all_cons, Bool.and_eq_true] at h
    have : mat c n = (c, []) := by cases c <;> simp [T.im] at h <;> simp [mat]
    simp only [mats, this, List.length_nil, Nat.add_zero, im_mats h.2, List.nil_append]
theorem im_argIs : ∀ {cs : List T}, cs.all T.im = true → argIs s cs = some cs
  | [], h => by simp [argIs]
  | c :: cs, h => by
    simp only [List.all_cons, Bool.and_eq_true] at h
    have : argI s c = some c := by cases c <;> simp [T.im] at h <;> simp [argI]
    simp only [argIs, this, im_argIs h.2]
theorem im_names : ∀ {cs : List T}, cs.all T.im = true → namess cs = []
  | [], h => by simp [namess]
  | c :: cs, h => by
    simp only [List.all_cons, Bool.and_eq_true] at h
    have : c.names = [] := by cases c <;> simp [T.im] at h <;> simp [T.names]
    simp only [namess, this, im_names h.2, List.append_nil]
theorem im_toIs : ∀ {cs : List T}, cs.all T.im = true → toIs cs = cs
  | [], h => by simp [toIs]
  | c :: cs, h => by
    simp only [List.all_cons, Bool.and_eq_true] at h
    have : c.toI = c := by cases c <;> simp [T.im] at h <;> simp [T.toI]
    simp only [toIs, this, im_toIs h.2]
theorem im_all {f : T → Bool} (hf : ∀ t : T, t.im = true → f t = true) {cs : List T} (h : cs.all T.im = true) : cs.all f = true := by
  rw [List.all_eq_true] at h ⊢
  exact fun t ht => hf t (h t ht)
theorem im_clean {cs : List T} (h : cs.all T.im = true) : cs.all T.clean = true := im_all (fun t ht => by cases t <;> simp [T.im] at ht <;> rfl) h
theorem im_cell {cs : List T} (h : cs.all T.im = true) : cs.all T.cell = true := im_all (fun t ht => by cases t <;> simp [T.im] at ht <;> rfl) h
theorem ow_all {f : T → Bool} (hf : ∀ t : T, t.ow = true → f t = true) {cs : List T} (h : cs.all T.ow = true) : cs.all f = true := by
  rw [List.all_eq_true] at h ⊢
  exact fun t ht => hf t (h t ht)
theorem ow_pl {cs : List T} (h : cs.all T.ow = true) : cs.all T.pl = true := ow_all (fun t ht => by cases t <;> simp [T.ow] at ht <;> simp [T.pl, ht]) h
theorem ow_clean {cs : List T} (h : cs.all T.ow = true) : cs.all T.clean = true := ow_all (fun t ht => by cases t <;> simp [T.ow] at ht <;> simp [T.clean, ht]) h
theorem ow_noImm : ∀ {cs : List T}, cs.all T.ow = true → noIms cs = true
  | [], h => by simp [noIms]
  | c :: cs, h => by
    simp only [List.all_cons, Bool.and_eq_true] at h
    have : c.noImm = true := by cases c <;> simp [T.ow] at h <;> simp [T.noImm, h]
    simp only [noIms, this, ow_noImm h.2, Bool.and_self]
end
section
variable {s : St}
theorem mats_len : ∀ (cs : List T) (n : Nat), (mats cs n).1.length = cs.length
  | [], n => by simp [mats]
  | c :: cs, n => by simp only [mats, List.length_cons, mats_len cs]
theorem im_gives {cs : List T} (h : cs.all T.im = true) : cs.any T.gives1 = false := by
  rw [List.any_eq_false]
  intro t ht
  have := List.all_eq_true.1 h t ht
  cases t <;> simp [T.im] at this <;> simp [T.gives1]
/-- Nothing is handed over. -/
def gfree : List T → Bool
  | [] => true
  | t :: ts => !t.gives && gfree ts
theorem taken_gfree : ∀ {args es : List T}, gfree args = true → es.length = args.length → taken s args es = some (args.map fun _ => .dead) ∧ takenN args es = []
  | [], [], h, hl => ⟨rfl, rfl⟩
  | t :: args, e :: es, h, hl => by
    simp only [gfree, Bool.and_eq_true, Bool.not_eq_true'] at h
    obtain ⟨h1, h2⟩ := taken_gfree h.2 (by simpa using hl)
    simp only [taken, takenN, h1, h2, h.1, Bool.false_eq_true, if_false, List.map_cons, List.append_nil, and_self]
  | [], _ :: _, h, hl => by simp at hl
  | _ :: _, [], h, hl => by simp at hl
mutual
def rfN : T → T → List Nat
  | .ref t _ _, .own _ _ => [t]
  | .agg cs, .agg rs => rfNs cs rs
  | .tup cs, .tup rs => rfNs cs rs
  | _, _ => []
def rfNs : List T → List T → List Nat
  | c :: cs, r :: rs => rfN c r ++ rfNs cs rs
  | _, _ => []
end
mutual
def rfP (s : St) : T → T → Prop
  | .ref t o n, .own sz rows => onArr (hget s.hp t) fun sz' rs => o + n ≤ rs.length ∧ sz' = sz ∧ (rs.drop o).take n = rows ∧ cleanR rows = true
  | .nl, .own _ rows => rows = []
  | .agg cs, .agg rs => rfPs s cs rs
  | .tup cs, .tup rs => rfPs s cs rs
  | .fn _ _, _ => False
  | .ifc _ _, _ => False
  | .ref _ _ _, _ => False
  | .ptr _ _ _, _ => False
  | .mp _, _ => False
  | .agg _, _ => False
  | .tup _, _ => False
  | x, r => x = r
def rfPs (s : St) : List T → List T → Prop
  | [], [] => True
  | c :: cs, r :: rs => rfP s c r ∧ rfPs s cs rs
  | _, _ => False
end
mutual
theorem rfP_ok : ∀ {x r : T}, rfP s x r → rf s x r (rfN x r)
  | .ref t o n, r, h => by
    cases r <;> simp only [rfP] at h
    simp only [rf, rfN]
    exact ⟨trivial, h⟩
  | .nl, r, h => by cases r <;> simp only [rfP, reduceCtorEq] at h <;> simp only [rf, rfN, and_self, h]
  | .agg cs, r, h => by
    cases r <;> simp only [rfP] at h
    simp only [rf, rfN]; exact rfPs_ok h
  | .tup cs, r, h => by
    cases r <;> simp only [rfP] at h
    simp only [rf, rfN]; exact rfPs_ok h
  | .fn _ _, r, h => by simp only [rfP] at h
  | .ifc _ _, r, h => by simp only [rfP] at h
  | .ptr _ _ _, r, h => by simp only [rfP] at h
  | .mp _, r, h => by simp only [rfP] at h
  | .un, r, h => by simp only [rfP] at h; subst h; simp [rf, rfN]
  | .dead, r, h => by simp only [rfP] at h; subst h; simp [rf, rfN]
  | .b _, r, h => by simp only [rfP] at h; subst h; simp [rf, rfN]
  | .i _ _, r, h => by simp only [rfP] at h; subst h; simp [rf, rfN]
  | .s _, r, h => by simp only [rfP] at h; subst h; simp [rf, rfN]
  | .imm _, r, h => by simp only [rfP] at h; subst h; simp [rf, rfN]
  | .own _ _, r, h => by simp only [rfP] at h; subst h; simp [rf, rfN]
  | .bx _, r, h => by simp only [rfP] at h; subst h; simp [rf, rfN]
  | .np, r, h => by simp only [rfP] at h; subst h; simp [rf, rfN]
  | .pim _, r, h => by simp only [rfP] at h; subst h; simp [rf, rfN]
  | .nfn, r, h => by simp only [rfP] at h; subst h; simp [rf, rfN]
  | .nif, r, h => by simp only [rfP] at h; subst h; simp [rf, rfN]
  | .nmp, r, h => by simp only [rfP] at h; subst h; simp [rf, rfN]
theorem rfPs_ok : ∀ {cs rs : List T}, rfPs s cs rs → rfs s cs rs (rfNs cs rs)
  | [], [], h => by simp only [rfs, rfNs]
  | c :: cs, r :: rs, h => by
    simp only [rfPs] at h
    simp only [rfs, rfNs]
    exact ⟨_, _, rfl, rfP_ok h.1, rfPs_ok h.2⟩
  | [], _ :: _, h => by simp only [rfPs] at h
  | _ :: _, [], h => by simp only [rfPs] at h
end
theorem fin_own {P : Program} {rs : List ResultVar} {args : List T} {r : T} {xs : List T} (h1 : resK P s rs = some xs) (h2 : rfP s (res1 xs) r) (hg : gfree args = true) (h4 : (rfN (res1 xs) r).Nodup) : fin P rs args r (args.map fun _ => .dead) .ret s := by
  obtain ⟨h5, h6⟩ := taken_gfree (s := s) hg (mats_len args 0)
  exact fin_ret h1 (rfP_ok h2) h5 (by rw [h6, List.append_nil]; exact h4)
theorem fin_val {P : Program} {rs : List ResultVar} {args : List T} {r : T} {xs : List T} (h1 : resK P s rs = some xs) (h2 : rf s (res1 xs) r []) (hg : gfree args = true) : fin P rs args r (args.map fun _ => .dead) .ret s := by
  obtain ⟨h5, h6⟩ := taken_gfree (s := s) hg (mats_len args 0)
  exact fin_ret h1 h2 h5 (by rw [h6]; simp)
end
attribute [simp] gfree rfP rfPs rfN rfNs
namespace Sh
variable {α : Type} (S : Sh α) {n : Nat} {s : St}
theorem takeI (a : α) : (S.I a).take S.sz = S.I a := List.take_of_length_le (by rw [S.lI]; exact Nat.le_refl _)
theorem mI (a : α) (n : Nat) : mats (S.I a) n = (S.I a, []) := im_mats (S.im a)
theorem aI (a : α) (s : St) : argIs s (S.I a) = some (S.I a) := im_argIs (S.im a)
theorem nI (a : α) : namess (S.I a) = [] := im_names (S.im a)
theorem gI (a : α) : (S.I a).any T.gives1 = false := im_gives (S.im a)
theorem kI (a : α) : (S.I a).all T.cell = true := im_cell (S.im a)
theorem kI' (a : α) (x : T) (h : x ∈ S.I a) : x.cell = true := List.all_eq_true.1 (im_cell (S.im a)) x h
theorem cI (a : α) : (S.I a).all T.clean = true := im_clean (S.im a)
theorem toI (a : α) : toIs (S.I a) = S.I a := im_toIs (S.im a)
theorem cO (a : α) : (S.O a).all T.clean = true := ow_clean (S.ow a)
theorem plO (a : α) : (S.O a).all T.pl = true := ow_pl (S.ow a)
theorem nO (a : α) : noIms (S.O a) = true := ow_noImm (S.ow a)
theorem rO : ∀ (l : List α), toIr (l.map S.O) = l.map S.I
  | [] => by simp [toIr]
  | a :: l => by simp only [List.map_cons, toIr, S.toO, rO l]
theorem rI : ∀ (l : List α), toIr (l.map S.I) = l.map S.I
  | [] => by simp [toIr]
  | a :: l => by simp only [List.map_cons, toIr, S.toI, rI l]
theorem crO (l : List α) : cleanR (l.map S.O) = true := by
  simp only [cleanR, List.all_map, List.all_eq_true]
  intro a _; exact S.cO a
theorem crI (l : List α) : cleanR (l.map S.I) = true := by
  simp only [cleanR, List.all_map, List.all_eq_true]
  intro a _; exact S.cI a
theorem nrO : ∀ (l : List α), noImr (l.map S.O) = true
  | [] => by simp [noImr]
  | a :: l => by simp only [List.map_cons, noImr, S.nO, nrO l, Bool.and_self]
end Sh
attribute [simp] Sh.kI' Sh.gI Sh.im Sh.ow Sh.takeI Sh.mI Sh.aI Sh.nI Sh.kI Sh.cI Sh.toI Sh.cO Sh.plO Sh.nO Sh.rO Sh.rI Sh.crO Sh.crI Sh.nrO Sh.lI Sh.lO
theorem toIs_append : ∀ (a b : List T), toIs (a ++ b) = toIs a ++ toIs b
  | [], b => by simp [toIs]
  | x :: a, b => by simp [toIs, toIs_append a b]
theorem noIms_append : ∀ (a b : List T), noIms (a ++ b) = (noIms a && noIms b)
  | [], b => by simp [noIms]
  | x :: a, b => by simp [noIms, noIms_append a b, Bool.and_assoc]
theorem namess_append : ∀ (a b : List T), namess (a ++ b) = namess a ++ namess b
  | [], b => by simp [namess]
  | x :: a, b => by simp [namess, namess_append a b]
attribute [simp] toIs_append noIms_append namess_append
theorem wrap1 {i : Nat} (h : (i : Int) < 9223372036854775807) : IntKind.i64.wrap ((i : Int) + 1) = (i : Int) + 1 := wrap64 (by omega) (by omega)
/-! ### loops over slices -/
def left (x : Int) (n : Nat) : Int := if x - n < 0 then -1 else x - n
def eqSpc (f sz : Nat) : PC :=
  .seq (.reg [⟨(some 4), .mv (.c (.b false)), none, []⟩] false) (.seq (.seq (.reg [⟨(some 6), .mv (.t 0), none, []⟩, ⟨(some 7), .len (.t 6), none, []⟩, ⟨(some 8), .mv (.t 1), none, []⟩, ⟨(some 9), .len (.t 8), none, []⟩, ⟨(some 10), .bin .neq (.t 7) (.t 9), none, []⟩] false) (.cond (.t 10) (.seq (.reg [⟨(some 4), .mv (.c (.b false)), none, []⟩] false) (.ret)) (.skip))) (.seq (.seq (.reg [⟨(some 5), .mv (.c (.i .i64 0)), none, []⟩] false) (.block 0 (.loop (.seq (.seq (.reg [⟨(some 11), .mv (.t 5), none, []⟩, ⟨(some 12), .mv (.t 0), none, []⟩, ⟨(some 13), .len (.t 12), none, []⟩, ⟨(some 14), .bin .lss (.t 11) (.t 13), none, []⟩] false) (.cond (.t 14) (.skip) (.exit 0))) (.seq (.block 1 (.seq (.reg [⟨(some 17), .mv (.t 0), none, []⟩, ⟨(some 18), .mv (.t 5), none, []⟩, ⟨(some 19), .ia sz (.t 17) (.t 18), none, [0, 1]⟩, ⟨(some 20), .load (some sz) (.t 19), none, [2]⟩, ⟨(some 21), .mv (.t 1), none, []⟩, ⟨(some 22), .mv (.t 5), none, []⟩, ⟨(some 23), .ia sz (.t 21) (.t 22), none, [4, 5]⟩, ⟨(some 24), .load (some sz) (.t 23), none, [6]⟩, ⟨(some 25), .call (.ev [] .own) f [(.t 20), (.t 24)], none, [3, 7]⟩, ⟨(some 26), .un .not (.t 25), none, [8]⟩] true) (.cond (.t 26) (.seq (.reg [⟨(some 4), .mv (.c (.b false)), none, []⟩] false) (.ret)) (.skip)))) (.reg [⟨(some 15), .mv (.t 5), none, []⟩, ⟨(some 16), .bin .add (.t 15) (.c (.i .i64 1)), none, []⟩, ⟨(some 5), .mv (.t 16), none, []⟩] false)))))) (.seq (.reg [⟨(some 4), .mv (.c (.b true)), none, []⟩] false) (.ret))))
def szSpc (f sz : Nat) : PC :=
  .seq (.reg [⟨(some 4), .mv (.c (.i .i64 0)), none, []⟩] false) (.seq (.reg [⟨(some 6), .mv (.t 1), none, []⟩, ⟨(some 7), .mv (.t 0), none, []⟩, ⟨(some 8), .len (.t 7), none, []⟩, ⟨(some 9), .bin .sub (.t 6) (.t 8), none, []⟩, ⟨(some 1), .mv (.t 9), none, []⟩] false) (.seq (.seq (.reg [⟨(some 10), .mv (.t 1), none, []⟩, ⟨(some 11), .bin .lss (.t 10) (.c (.i .i64 0)), none, []⟩] false) (.cond (.t 11) (.seq (.reg [⟨(some 4), .mv (.c (.i .i64 (-1))), none, []⟩] false) (.ret)) (.skip))) (.seq (.seq (.reg [⟨(some 5), .mv (.c (.i .i64 0)), none, []⟩] false) (.block 0 (.loop (.seq (.seq (.reg [⟨(some 12), .mv (.t 5), none, []⟩, ⟨(some 13), .mv (.t 0), none, []⟩, ⟨(some 14), .len (.t 13), none, []⟩, ⟨(some 15), .bin .lss (.t 12) (.t 14), none, []⟩] false) (.cond (.t 15) (.skip) (.exit 0))) (.seq (.block 1 (.seq (.reg [⟨(some 18), .mv (.t 0), none, []⟩, ⟨(some 19), .mv (.t 5), none, []⟩, ⟨(some 20), .ia sz (.t 18) (.t 19), none, []⟩, ⟨(some 21), .load (some sz) (.t 20), none, []⟩, ⟨(some 22), .mv (.t 1), none, []⟩, ⟨(some 23), .call (.ev [] .own) f [(.t 21), (.t 22)], none, []⟩, ⟨(some 1), .mv (.t 23), none, []⟩] false) (.seq (.reg [⟨(some 24), .mv (.t 1), none, []⟩, ⟨(some 25), .bin .lss (.t 24) (.c (.i .i64 0)), none, []⟩] false) (.cond (.t 25) (.seq (.reg [⟨(some 4), .mv (.c (.i .i64 (-1))), none, []⟩] false) (.ret)) (.skip))))) (.reg [⟨(some 16), .mv (.t 5), none, []⟩, ⟨(some 17), .bin .add (.t 16) (.c (.i .i64 1)), none, []⟩, ⟨(some 5), .mv (.t 17), none, []⟩] false)))))) (.seq (.reg [⟨(some 26), .mv (.t 1), none, []⟩, ⟨(some 4), .mv (.t 26), none, []⟩] false) (.ret)))))
def toSpc (f sz bytes : Nat) (zs : List T) : PC :=
  .seq (.reg [⟨(some 2), .mv (.c (.nl)), none, []⟩] false) (.seq (.reg [⟨(some 5), .mv (.t 0), none, []⟩, ⟨(some 6), .len (.t 5), none, []⟩, ⟨(some 7), .make sz bytes zs (.t 6), none, []⟩, ⟨(some 3), .mv (.t 7), none, []⟩] false) (.seq (.seq (.reg [⟨(some 4), .mv (.c (.i .i64 0)), none, []⟩] false) (.block 0 (.loop (.seq (.seq (.reg [⟨(some 8), .mv (.t 4), none, []⟩, ⟨(some 9), .mv (.t 0), none, []⟩, ⟨(some 10), .len (.t 9), none, []⟩, ⟨(some 11), .bin .lss (.t 8) (.t 10), none, []⟩] false) (.cond (.t 11) (.skip) (.exit 0))) (.seq (.block 1 (.reg [⟨(some 14), .mv (.t 3), none, []⟩, ⟨(some 15), .mv (.t 4), none, []⟩, ⟨(some 16), .mv (.t 0), none, []⟩, ⟨(some 17), .mv (.t 4), none, []⟩, ⟨(some 18), .ia sz (.t 16) (.t 17), none, []⟩, ⟨(some 19), .load (some sz) (.t 18), none, []⟩, ⟨(some 20), .call (.ev [] .own) f [(.t 19)], none, []⟩, ⟨(some 21), .ia sz (.t 14) (.t 15), none, []⟩, ⟨none, .store (some sz) (.t 21) (.t 20), none, []⟩] false)) (.reg [⟨(some 12), .mv (.t 4), none, []⟩, ⟨(some 13), .bin .add (.t 12) (.c (.i .i64 1)), none, []⟩, ⟨(some 4), .mv (.t 13), none, []⟩] false)))))) (.seq (.reg [⟨(some 22), .mv (.t 3), none, []⟩, ⟨(some 2), .mv (.t 22), none, []⟩] false) (.ret))))
section
variable {α : Type} (S : Sh α) {P : Program} {M : List (Nat × CM)} {f : Nat}
def sums (c : α → Nat) (l : List α) : Nat := (l.map c).sum
def cl (c : α → Nat) (l : List α) : Nat := l.length + sums c l
attribute [simp] hdels joins joinT joinsN joinN
@[simp] theorem cleanR_nil : cleanR [] = true := rfl
@[simp] theorem cleanR_cons (r : List T) (l : List (List T)) : cleanR (r :: l) = (r.all T.clean && cleanR l) := rfl
@[simp] theorem cleanR_append (a b : List (List T)) : cleanR (a ++ b) = (cleanR a && cleanR b) := by simp [cleanR]
@[simp] theorem take_map_self {β γ : Type} (g : β → γ) (l : List β) : (l.map g).take l.length = l.map g := List.take_of_length_le (by simp)
theorem app1_get {β : Type} {A : List β} {i : Nat} (h : A.length = i) (r : β) : (A ++ [r])[i]? = some r := by rw [List.getElem?_append_right (by omega), h]; simp
theorem app1_set {β : Type} {A : List β} {i : Nat} (h : A.length = i) (r r' : β) : (A ++ [r]).set i r' = A ++ [r'] := by rw [List.set_append_right _ _ (by omega), h]; simp
theorem app1_take {β : Type} {A : List β} {i : Nat} (h : A.length = i) (r : β) : (A ++ [r]).take (i + 1) = A ++ [r] := List.take_of_length_le (by simp; omega)
/-- A state told with less: one block is left. -/
theorem Wk.to1 {s : St} {tm : List (Nat × T)} {b sz nx fb : Nat} {rows : List (List T)} (hfb : fb = s.fb) (hnx : s.fb ≤ nx) (htm : ∀ p ∈ tm, p.2 = tget s.tm p.1 ∧ ∀ x ∈ p.2.names, x < nx) (hb : hget s.hp b = some (.arr sz rows)) (hcl : cleanR rows = true) (hbn : b < nx) :
    Wk s ⟨tm, [(b, .arr sz rows)], nx, fb⟩ := by
  refine Wk.to hfb hnx htm ?_ (by simp)
  intro p hp
  simp only [List.mem_singleton] at hp
  subst hp
  refine ⟨hb, hbn, ?_⟩
  intro x hx
  rw [Blk.names, namesr_clean hcl] at hx
  simp at hx
/-- Rows that are filled one by one. -/
theorem fill_row (g : α → List T) (l : List α) {z : List T} {i : Nat} (h : i < l.length) : ((l.map g).take i ++ List.replicate (l.length - i) z)[i]? = some z := by
  have hlen : ((l.map g).take i).length = i := by simp; omega
  rw [List.getElem?_append_right (by omega), hlen, show l.length - i = l.length - (i + 1) + 1 by omega, List.replicate_succ]; simp
theorem fill_set (g : α → List T) (l : List α) {z : List T} {i : Nat} (h : i < l.length) (r : List T) : ((l.map g).take i ++ List.replicate (l.length - i) z).set i r = (l.map g).take i ++ r :: List.replicate (l.length - (i + 1)) z := by
  have hlen : ((l.map g).take i).length = i := by simp; omega
  rw [List.set_append_right _ _ (by omega), hlen, show l.length - i = l.length - (i + 1) + 1 by omega, List.replicate_succ]; simp
theorem fill_new (g : α → List T) {l : List α} {i : Nat} {v : α} (hx : l[i]? = some v) : (l.map g).take (i + 1) = (l.map g).take i ++ [g v] := by
  rw [List.take_add_one, List.getElem?_map, hx]; simp
theorem fill_get (g : α → List T) {l : List α} {r z : List T} {i : Nat} (h : i < l.length) : ((l.map g).take i ++ r :: List.replicate (l.length - (i + 1)) z)[i]? = some r := by
  have hlen : ((l.map g).take i).length = i := by simp; omega
  rw [List.getElem?_append_right (by omega), hlen]; simp
theorem fill_set2 (g : α → List T) {l : List α} {r r' z : List T} {i : Nat} (h : i < l.length) : ((l.map g).take i ++ r :: List.replicate (l.length - (i + 1)) z).set i r' = (l.map g).take i ++ r' :: List.replicate (l.length - (i + 1)) z := by
  have hlen : ((l.map g).take i).length = i := by simp; omega
  rw [List.set_append_right _ _ (by omega), hlen]; simp
theorem fill_clean (S : Sh α) {l : List α} {z : List T} (hz : z.all T.clean = true) (i n : Nat) : cleanR ((l.map S.O).take i ++ List.replicate n z) = true := by
  have h3 := S.crO (l.take i)
  rw [List.map_take] at h3
  simp only [cleanR] at h3 ⊢
  simp only [List.all_append, h3, List.all_replicate, hz, Bool.true_and]
  simp
end
end Go.Proofs.Ytehdfbhfbidadaa.V
/- Values, props, nodes, edges, graphs as rows of trees. -/
namespace Go.Proofs.Ytehdfbhfbidadaa.V
open Go
set_option linter.unusedVariables false
set_option linter.unusedSimpArgs false
inductive Vl where
  | mk (k n : Int) (s : List UInt8) (l : List Vl)
namespace Vl
def k : Vl → Int | .mk k _ _ _ => k
def n : Vl → Int | .mk _ n _ _ => n
def s : Vl → List UInt8 | .mk _ _ s _ => s
def l : Vl → List Vl | .mk _ _ _ l => l
end Vl
attribute [simp] Vl.k Vl.n Vl.s Vl.l
mutual
def VO : Vl → List T
  | .mk k n s l => [.i .i64 k, .i .i64 n, .s s, .own 4 (VOs l)]
def VOs : List Vl → List (List T)
  | [] => []
  | v :: l => VO v :: VOs l
end
mutual
def VI : Vl → List T
  | .mk k n s l => [.i .i64 k, .i .i64 n, .s s, .imm (VIs l)]
def VIs : List Vl → List (List T)
  | [] => []
  | v :: l => VI v :: VIs l
end
theorem VIs_map : ∀ l, VIs l = l.map VI
  | [] => rfl
  | v :: l => by simp [VIs, VIs_map l]
theorem VOs_map : ∀ l, VOs l = l.map VO
  | [] => rfl
  | v :: l => by simp [VOs, VOs_map l]
mutual
theorem VO_toI : ∀ v, toIs (VO v) = VI v
  | .mk k n s l => by simp [VO, VI, toIs, T.toI, VOs_toI l]
theorem VOs_toI : ∀ l, toIr (VOs l) = VIs l
  | [] => by simp [VOs, VIs, toIr]
  | v :: l => by simp [VOs, VIs, toIr, VO_toI v, VOs_toI l]
end
mutual
theorem VO_ow : ∀ v, (VO v).all T.ow = true
  | .mk k n s l => by simp [VO, T.ow, (VOs_ow l).1, (VOs_ow l).2]
theorem VOs_ow : ∀ l, cleanR (VOs l) = true ∧ noImr (VOs l) = true
  | [] => by simp [VOs, cleanR, noImr]
  | v :: l => by
    have h1 := VO_ow v
    have h2 := VOs_ow l
    have h3 := h2.1
    simp only [cleanR] at h3
    exact ⟨by simp only [VOs, cleanR, List.all_cons, ow_clean h1, h3, Bool.and_self], by simp only [VOs, noImr, ow_noImm h1, h2.2, Bool.and_self]⟩
end
def sV : Sh Vl where
  sz := 4
  I := VI
  O := VO
  lI v := by cases v; simp [VI]
  lO v := by cases v; simp [VO]
  toO := VO_toI
  im v := by cases v; simp [VI, T.im]
  ow := VO_ow
@[simp] theorem sV_sz : sV.sz = 4 := rfl
@[simp] theorem sV_I (k n : Int) (s : List UInt8) (l : List Vl) : sV.I (.mk k n s l) = [.i .i64 k, .i .i64 n, .s s, .imm (l.map sV.I)] := by
  show VI _ = _
  simp only [VI, VIs_map]; rfl
@[simp] theorem sV_O (k n : Int) (s : List UInt8) (l : List Vl) : sV.O (.mk k n s l) = [.i .i64 k, .i .i64 n, .s s, .own 4 (l.map sV.O)] := by
  show VO _ = _
  simp only [VO, VOs_map]; rfl
@[simp] theorem sV_take (v : Vl) : (sV.I v).take 4 = sV.I v := sV.takeI v
mutual
def Vl.cnt : Vl → Nat
  | .mk _ _ s l => s.length + Vl.cnts l
def Vl.cnts : List Vl → Nat
  | [] => 0
  | v :: l => 1 + v.cnt + Vl.cnts l
end
theorem Vl.cnts_eq : ∀ l, Vl.cnts l = l.length + sums Vl.cnt l
  | [] => rfl
  | v :: l => by simp only [Vl.cnts, Vl.cnts_eq l, sums, List.map_cons, List.sum_cons, List.length_cons]; omega
theorem Vl.cnt_mk (k n : Int) (s : List UInt8) (l : List Vl) : (Vl.mk k n s l).cnt = s.length + cl Vl.cnt l := by simp only [Vl.cnt, Vl.cnts_eq, cl]
theorem sums_mem {α : Type} {c : α → Nat} {l : List α} {a : α} (h : a ∈ l) : c a ≤ sums c l := by
  induction l with
  | nil => simp at h
  | cons x l ih =>
    simp only [sums, List.map_cons, List.sum_cons]
    rcases List.mem_cons.1 h with rfl | h
    · omega
    · have := ih h; simp only [sums] at this; omega
/-- What holds of a value if it holds of those in its list. -/
theorem Vl.ind {p : Vl → Prop} (h : ∀ k n s l, (∀ v ∈ l, p v) → p (.mk k n s l)) (v : Vl) : p v :=
  Vl.rec (motive_1 := p) (motive_2 := fun l => ∀ v ∈ l, p v) (fun k n s l hl => h k n s l hl) (by simp) (fun v l h1 h2 w hw => by
    rcases List.mem_cons.1 hw with rfl | hw
    · exact h1
    · exact h2 w hw) v
/-! ### texts and numbers -/
abbrev Tx := List UInt8
def sS : Sh Tx where
  sz := 1
  I x := [.s x]
  O x := [.s x]
  lI _ := rfl
  lO _ := rfl
  toO _ := by simp
  im _ := by simp [T.im]
  ow _ := by simp [T.ow]
@[simp] theorem sS_sz : sS.sz = 1 := rfl
@[simp] theorem sS_I (x : Tx) : sS.I x = [.s x] := rfl
@[simp] theorem sS_O (x : Tx) : sS.O x = [.s x] := rfl
def sI : Sh Int where
  sz := 1
  I x := [.i .i64 x]
  O x := [.i .i64 x]
  lI _ := rfl
  lO _ := rfl
  toO _ := by simp
  im _ := by simp [T.im]
  ow _ := by simp [T.ow]
@[simp] theorem sI_sz : sI.sz = 1 := rfl
@[simp] theorem sI_I (x : Int) : sI.I x = [.i .i64 x] := rfl
@[simp] theorem sI_O (x : Int) : sI.O x = [.i .i64 x] := rfl
/-! ### props, nodes, edges, graphs -/
structure Pr where
  name : Tx
  val : Vl
structure Nd where
  id : Int
  labels : List Tx
  props : List Pr
structure Eg where
  id : Int
  kind : Tx
  frm : Int
  to : Int
  props : List Pr
structure Gr where
  nodes : List Nd
  edges : List Eg
  nn : Int
  ne : Int
def sP : Sh Pr where
  sz := 5
  I p := .s p.name :: sV.I p.val
  O p := .s p.name :: sV.O p.val
  lI _ := by simp
  lO _ := by simp
  toO _ := by simp [Sh.toO]
  im _ := by simp [T.im, Sh.im, -List.all_eq_true]
  ow _ := by simp [T.ow, Sh.ow, -List.all_eq_true]
@[simp] theorem sP_sz : sP.sz = 5 := rfl
@[simp] theorem sP_I (n : Tx) (v : Vl) : sP.I ⟨n, v⟩ = .s n :: sV.I v := rfl
@[simp] theorem sP_O (n : Tx) (v : Vl) : sP.O ⟨n, v⟩ = .s n :: sV.O v := rfl
@[simp] theorem sP_take (p : Pr) : (sP.I p).take 5 = sP.I p := sP.takeI p
def Pr.cnt (p : Pr) : Nat := p.name.length + p.val.cnt
def sN : Sh Nd where
  sz := 3
  I a := [.i .i64 a.id, .imm (a.labels.map sS.I), .imm (a.props.map sP.I)]
  O a := [.i .i64 a.id, .own 1 (a.labels.map sS.O), .own 5 (a.props.map sP.O)]
  lI _ := by simp
  lO _ := by simp
  toO _ := by simp only [toIs, toI_i, toI_own, Sh.rO]
  im _ := by simp [T.im]
  ow _ := by simp only [List.all_cons, T.ow, Sh.crO, Sh.nrO, Bool.and_self, List.all_nil]
@[simp] theorem sN_sz : sN.sz = 3 := rfl
@[simp] theorem sN_I (i : Int) (l : List Tx) (p : List Pr) : sN.I ⟨i, l, p⟩ = [.i .i64 i, .imm (l.map sS.I), .imm (p.map sP.I)] := rfl
@[simp] theorem sN_O (i : Int) (l : List Tx) (p : List Pr) : sN.O ⟨i, l, p⟩ = [.i .i64 i, .own 1 (l.map sS.O), .own 5 (p.map sP.O)] := rfl
@[simp] theorem sN_take (a : Nd) : (sN.I a).take 3 = sN.I a := sN.takeI a
def Nd.cnt (a : Nd) : Nat := cl List.length a.labels + cl Pr.cnt a.props
def sE : Sh Eg where
  sz := 5
  I a := [.i .i64 a.id, .s a.kind, .i .i64 a.frm, .i .i64 a.to, .imm (a.props.map sP.I)]
  O a := [.i .i64 a.id, .s a.kind, .i .i64 a.frm, .i .i64 a.to, .own 5 (a.props.map sP.O)]
  lI _ := by simp
  lO _ := by simp
  toO _ := by simp only [toIs, toI_i, toI_s, toI_own, Sh.rO]
  im _ := by simp [T.im]
  ow _ := by simp only [List.all_cons, T.ow, Sh.crO, Sh.nrO, Bool.and_self, List.all_nil]
@[simp] theorem sE_sz : sE.sz = 5 := rfl
@[simp] theorem sE_I (i : Int) (k : Tx) (f t : Int) (p : List Pr) : sE.I ⟨i, k, f, t, p⟩ = [.i .i64 i, .s k, .i .i64 f, .i .i64 t, .imm (p.map sP.I)] := rfl
@[simp] theorem sE_O (i : Int) (k : Tx) (f t : Int) (p : List Pr) : sE.O ⟨i, k, f, t, p⟩ = [.i .i64 i, .s k, .i .i64 f, .i .i64 t, .own 5 (p.map sP.O)] := rfl
@[simp] theorem sE_take (a : Eg) : (sE.I a).take 5 = sE.I a := sE.takeI a
def Eg.cnt (a : Eg) : Nat := a.kind.length + cl Pr.cnt a.props
def sG : Sh Gr where
  sz := 4
  I a := [.imm (a.nodes.map sN.I), .imm (a.edges.map sE.I), .i .i64 a.nn, .i .i64 a.ne]
  O a := [.own 3 (a.nodes.map sN.O), .own 5 (a.edges.map sE.O), .i .i64 a.nn, .i .i64 a.ne]
  lI _ := by simp
  lO _ := by simp
  toO _ := by simp only [toIs, toI_i, toI_s, toI_own, Sh.rO]
  im _ := by simp [T.im]
  ow _ := by simp only [List.all_cons, T.ow, Sh.crO, Sh.nrO, Bool.and_self, List.all_nil]
@[simp] theorem sG_sz : sG.sz = 4 := rfl
@[simp] theorem sG_I (a : List Nd) (b : List Eg) (c d : Int) : sG.I ⟨a, b, c, d⟩ = [.imm (a.map sN.I), .imm (b.map sE.I), .i .i64 c, .i .i64 d] := rfl
@[simp] theorem sG_O (a : List Nd) (b : List Eg) (c d : Int) : sG.O ⟨a, b, c, d⟩ = [.own 3 (a.map sN.O), .own 5 (b.map sE.O), .i .i64 c, .i .i64 d] := rfl
@[simp] theorem sG_take (a : Gr) : (sG.I a).take 4 = sG.I a := sG.takeI a
def Gr.cnt (a : Gr) : Nat := cl Nd.cnt a.nodes + cl Eg.cnt a.edges
end Go.Proofs.Ytehdfbhfbidadaa.V
/- What memory can hold. -/
namespace Go.Proofs.Ytehdfbhfbidadaa.V
open Go
set_option linter.unusedVariables false
set_option linter.unusedSimpArgs false
set_option maxHeartbeats 2000000
/-! ### what memory can hold -/
abbrev i64 (x : Int) : Prop := -9223372036854775808 ≤ x ∧ x < 9223372036854775808
abbrev ln {α : Type} (l : List α) : Prop := l.length ≤ 9223372036854775807
mutual
def Vl.fit : Vl → Prop
  | .mk k n s l => i64 k ∧ i64 n ∧ ln s ∧ ln l ∧ Vl.fits l
def Vl.fits : List Vl → Prop
  | [] => True
  | v :: l => v.fit ∧ Vl.fits l
end
theorem Vl.fits_iff : ∀ {l : List Vl}, Vl.fits l ↔ ∀ v ∈ l, v.fit
  | [] => by simp [Vl.fits]
  | v :: l => by simp [Vl.fits, Vl.fits_iff (l := l)]
theorem Vl.fit_mk {k n : Int} {s : Tx} {l : List Vl} : (Vl.mk k n s l).fit ↔ i64 k ∧ i64 n ∧ ln s ∧ ln l ∧ ∀ v ∈ l, v.fit := by
  rw [Vl.fit, Vl.fits_iff]
def Pr.fit (p : Pr) : Prop := ln p.name ∧ p.val.fit
def Nd.fit (a : Nd) : Prop := i64 a.id ∧ ln a.labels ∧ (∀ x ∈ a.labels, ln x) ∧ ln a.props ∧ ∀ p ∈ a.props, p.fit
def Eg.fit (a : Eg) : Prop := i64 a.id ∧ ln a.kind ∧ i64 a.frm ∧ i64 a.to ∧ ln a.props ∧ ∀ p ∈ a.props, p.fit
def Gr.fit (a : Gr) : Prop := ln a.nodes ∧ (∀ x ∈ a.nodes, x.fit) ∧ ln a.edges ∧ (∀ x ∈ a.edges, x.fit) ∧ i64 a.nn ∧ i64 a.ne
@[simp] theorem wrap_one : IntKind.i64.wrap 1 = 1 := by decide
@[simp] theorem wrap_zero : IntKind.i64.wrap 0 = 0 := by decide
end Go.Proofs.Ytehdfbhfbidadaa.V
/- Names and texts. -/
namespace Go.Proofs.Ytehdfbhfbidadaa.V
open Go
set_option linter.unusedVariables false
set_option linter.unusedSimpArgs false
set_option maxHeartbeats 4000000
def isLet (c : UInt8) : Bool := (decide (97 ≤ c.toNat) && decide (c.toNat ≤ 122)) || (decide (65 ≤ c.toNat) && decide (c.toNat ≤ 90))
def isFig (c : UInt8) : Bool := decide (48 ≤ c.toNat) && decide (c.toNat ≤ 57)
def kept : List Tx := [[77, 65, 84, 67, 72], [79, 80, 84, 73, 79, 78, 65, 76], [87, 72, 69, 82, 69], [85, 78, 87, 73, 78, 68], [87, 73, 84, 72], [82, 69, 84, 85, 82, 78], [67, 82, 69, 65, 84, 69], [83, 69, 84], [68, 69, 76, 69, 84, 69], [68, 69, 84, 65, 67, 72], [65, 83], [65, 78, 68], [79, 82], [78, 79, 84], [73, 83], [78, 85, 76, 76], [73, 78], [68, 73, 83, 84, 73, 78, 67, 84], [79, 82, 68, 69, 82], [66, 89], [68, 69, 83, 67], [83, 75, 73, 80], [76, 73, 77, 73, 84], [110, 117, 108, 108], [116, 114, 117, 101], [102, 97, 108, 115, 101], [99, 111, 117, 110, 116], [115, 117, 109], [115, 105, 122, 101]]
/-- From the second letter on. -/
def inName (c : UInt8) : Bool := isLet c || isFig c
def nameOk : Tx → Bool
  | [] => false
  | c :: r => isLet c && r.all inName && decide (r.length ≤ 7) && !kept.contains (c :: r)
theorem l2Letter_c (c : UInt8) : Rv Try.prog 130 [.i .u8 (c.toNat : Int)] (.b (isLet c)) := by
  refine via_spec_l2Letter (by simp) ?_
  by_cases h1 : 97 ≤ (c.toNat : Int) <;> by_cases h2 : (c.toNat : Int) ≤ 122 <;> by_cases h3 : 65 ≤ (c.toNat : Int) <;> by_cases h4 : (c.toNat : Int) ≤ 90 <;>
    (simp [pc_spec_l2Letter, h1, h2, h3, h4]; exact fin_val rfl (by simp [isLet]; omega) (by simp))
theorem isLetter_c (c : UInt8) : Rv Try.prog 134 [.i .u8 (c.toNat : Int)] (.b (isLet c)) := by
  refine via_impl_isLetter (by simp) ?_
  by_cases h1 : 97 ≤ (c.toNat : Int) <;> by_cases h2 : (c.toNat : Int) ≤ 122 <;> by_cases h3 : 65 ≤ (c.toNat : Int) <;> by_cases h4 : (c.toNat : Int) ≤ 90 <;>
    (simp [pc_impl_isLetter, h1, h2, h3, h4]; exact fin_val rfl (by simp [isLet]; omega) (by simp))
theorem isFigure_c (c : UInt8) : Rv Try.prog 135 [.i .u8 (c.toNat : Int)] (.b (isFig c)) := by
  refine via_impl_isFigure (by simp) ?_
  by_cases h1 : 48 ≤ (c.toNat : Int) <;> by_cases h2 : (c.toNat : Int) ≤ 57 <;>
    (simp [pc_impl_isFigure, h1, h2]; exact fin_val rfl (by simp [isFig]; omega) (by simp))
theorem l1In_c (n lo hi : Int) : Rv Try.prog 69 [.i .i64 n, .i .i64 lo, .i .i64 hi] (.b (decide (lo ≤ n) && decide (n ≤ hi))) := by
  refine via_spec_l1In (by simp) ?_
  by_cases h1 : lo ≤ n <;> by_cases h2 : n ≤ hi <;>
    (simp [pc_spec_l1In, h1, h2]; exact fin_val rfl (by simp [h1, h2]) (by simp))
theorem kept_len : kept.length = 29 := rfl
theorem l2Kept_c (s : Tx) : Rv Try.prog 131 [.s s] (.b (kept.contains s)) := by
  refine via_spec_l2Kept (by simp) ?_
  simp [pc_spec_l2Kept]
  refine W_for (fun i => ⟨[(4, .i .i64 i), (3, .ref 0 0 29), (0, .s s)], [(0, .arr 1 (kept.map sS.O))], 1, 0⟩) 29 (fun i => ∀ j, j < i → kept[j]? ≠ some s) (Wk.less rfl (by simp) (by simp) (by simp [kept])) (by simp) ?_
  intro i hi hv
  rcases Nat.lt_or_ge i 29 with h1 | h1
  · obtain ⟨x, hx⟩ : ∃ x, kept[i]? = some x := ⟨_, List.getElem?_eq_getElem (by rw [kept_len]; exact h1)⟩
    have hw : IntKind.i64.wrap ((i : Int) + 1) = (i : Int) + 1 := wrap1 (by omega)
    have h1' : (i : Int) < 29 := by omega
    by_cases e : x = s
    · simp [-getElem?_pos, hx, hw, h1', e]
      exact fin_val rfl (by simp [← e, List.mem_of_getElem? hx]) (by simp)
    · simp [-getElem?_pos, hx, hw, h1', e, h1]
      refine ⟨?_, Wk.to1 rfl (by simp) (by simp) (by simp) (Sh.crO sS _) (by omega)⟩
      intro j hj
      rcases Nat.lt_or_ge j i with h2 | h2
      · exact hv j h2
      · rw [show j = i by omega, hx]; simpa using e
  · have h2 : ¬ (i : Int) < 29 := by omega
    simp [h2]
    have hn : ¬ s ∈ kept := by
      intro h
      obtain ⟨j, hj⟩ := List.mem_iff_getElem?.1 h
      have : j < kept.length := (List.getElem?_eq_some_iff.1 hj).1
      rw [kept_len] at this
      exact hv j (by omega) hj
    exact fin_val rfl (by simp [hn]) (by simp)
/-- What may stand at a place of a name. -/
def okAt (i : Nat) (c : UInt8) : Prop := isLet c = true ∨ (i ≠ 0 ∧ isFig c = true)
theorem nameOk_iff (s : Tx) : nameOk s = true ↔ (∀ i c, s[i]? = some c → okAt i c) ∧ 1 ≤ s.length ∧ s.length ≤ 8 ∧ ¬ s ∈ kept := by
  cases s with
  | nil => simp [nameOk]
  | cons c r =>
    simp only [nameOk, Bool.and_eq_true, List.all_eq_true, decide_eq_true_eq, Bool.not_eq_true', List.length_cons]
    constructor
    · rintro ⟨⟨⟨h1, h2⟩, h3⟩, h4⟩
      refine ⟨fun i d hd => ?_, by omega, by omega, fun h => by simp [h] at h4⟩
      cases i with
      | zero => simp at hd; subst hd; exact .inl h1
      | succ i =>
        simp at hd
        have := h2 d (List.mem_of_getElem? hd)
        simp only [inName, Bool.or_eq_true] at this
        exact this.imp id fun h => ⟨by omega, h⟩
    · rintro ⟨h1, h2, h3, h4⟩
      refine ⟨⟨⟨?_, fun d hd => ?_⟩, by omega⟩, by simp [h4]⟩
      · have := h1 0 c rfl
        rcases this with h | h
        · exact h
        · exact absurd rfl h.1
      · obtain ⟨i, hi⟩ := List.mem_iff_getElem?.1 hd
        have := h1 (i + 1) d (by simpa using hi)
        simp only [inName, Bool.or_eq_true]
        exact this.imp id And.right
theorem nameOk_false {s : Tx} (h : ¬ ((∀ i c, s[i]? = some c → okAt i c) ∧ 1 ≤ s.length ∧ s.length ≤ 8 ∧ ¬ s ∈ kept)) : nameOk s = false := by
  rw [Bool.eq_false_iff]; intro h2; exact h ((nameOk_iff s).1 h2)
theorem l2Name_c (s : Tx) (hs : ln s) : Rv Try.prog 67 [.s s] (.b (nameOk s)) := by
  refine via_spec_l2Name (by simp) ?_
  simp [pc_spec_l2Name]
  refine W_for (fun i => ⟨[(3, .i .i64 i), (0, .s s)], [], 0, 0⟩) s.length (fun i => ∀ j c, j < i → s[j]? = some c → okAt j c) (Wk.less rfl (by simp) (by simp) (by simp)) (by simp) ?_
  intro i hi hv
  rcases Nat.lt_or_ge i s.length with h1 | h1
  · obtain ⟨x, hx⟩ : ∃ x, s[i]? = some x := ⟨_, List.getElem?_eq_getElem h1⟩
    have hw : IntKind.i64.wrap ((i : Int) + 1) = (i : Int) + 1 := wrap1 (by omega)
    simp [-getElem?_pos, hx, h1]
    refine callK_val (by simp) (l2Letter_c x) rfl ?_
    by_cases hl : isLet x = true
    · simp [-getElem?_pos, hx, h1, hl, hw]
      refine ⟨fun j c hj hc => ?_, Wk.to rfl (by simp) (by simp) (by simp) (by simp)⟩
      rcases Nat.lt_or_ge j i with h2 | h2
      · exact hv j c h2 hc
      · rw [show j = i by omega, hx] at hc
        simp at hc; subst hc; exact .inl hl
    · by_cases h0 : i = 0
      · simp [-getElem?_pos, hx, h1, hl, hw, h0]
        refine fin_val rfl ?_ (by simp)
        rw [nameOk_false fun h => ?_]
        · simp
        · have := h.1 i x hx
          simp [okAt, hl, h0] at this
      · by_cases h2 : (x.toNat : Int) < 48
        · simp [-getElem?_pos, hx, h1, hl, hw, h0, h2]
          refine fin_val rfl ?_ (by simp)
          rw [nameOk_false fun h => ?_]
          · simp
          · have := h.1 i x hx
            simp [okAt, hl, isFig] at this
            omega
        · by_cases h3 : 57 < (x.toNat : Int)
          · simp [-getElem?_pos, hx, h1, hl, hw, h0, h2, h3]
            refine fin_val rfl ?_ (by simp)
            rw [nameOk_false fun h => ?_]
            · simp
            · have := h.1 i x hx
              simp [okAt, hl, isFig] at this
              omega
          · simp [-getElem?_pos, hx, h1, hl, hw, h0, h2, h3]
            refine ⟨fun j c hj hc => ?_, Wk.to rfl (by simp) (by simp) (by simp) (by simp)⟩
            rcases Nat.lt_or_ge j i with h4 | h4
            · exact hv j c h4 hc
            · rw [show j = i by omega, hx] at hc
              simp at hc; subst hc; exact .inr ⟨by omega, by simp [isFig]; omega⟩
  · have h2 : ¬ i < s.length := by omega
    have hall : ∀ j c, s[j]? = some c → okAt j c := fun j c hc => hv j c (by have := (List.getElem?_eq_some_iff.1 hc).1; omega) hc
    simp [h2]
    refine callK_val (by simp) (l1In_c s.length 1 8) rfl ?_
    by_cases h3 : 1 ≤ s.length
    · by_cases h4 : s.length ≤ 8
      · have h3' : (1 : Int) ≤ s.length := by omega
        have h4' : (s.length : Int) ≤ 8 := by omega
        simp [h3', h4', h3, h4]
        refine callK_val (by simp) (l2Kept_c s) rfl ?_
        by_cases h5 : s ∈ kept
        · simp [h3', h4', h5, h3, h4]
          refine fin_val rfl ?_ (by simp)
          rw [nameOk_false fun h => h.2.2.2 h5]; simp
        · simp [h3', h4', h5, h3, h4]
          refine fin_val rfl ?_ (by simp)
          rw [(nameOk_iff s).2 ⟨hall, h3, h4, h5⟩]; simp
      · have h4' : ¬ (s.length : Int) ≤ 8 := by omega
        simp [h4', h4]
        refine fin_val rfl ?_ (by simp)
        rw [nameOk_false fun h => h4 h.2.2.1]; simp
    · have h3' : ¬ (1 : Int) ≤ s.length := by omega
      simp [h3', h3]
      refine fin_val rfl ?_ (by simp)
      rw [nameOk_false fun h => h3 h.2.1]; simp
set_option maxRecDepth 20000 in
theorem NameOk_c (s : Tx) (hs : ln s) : Rv Try.prog 71 [.s s] (.b (nameOk s)) := by
  refine via_impl_NameOk (by simp) ?_
  cases hs0 : s with
  | nil =>
    simp [pc_impl_NameOk]
    exact fin_val rfl (by simp [nameOk]) (by simp)
  | cons c r =>
    rw [← hs0]
    have hne : ¬ s = [] := by simp [hs0]
    have hc0 : s[0]? = some c := by simp [hs0]
    have hlen : s.length = r.length + 1 := by simp [hs0]
    by_cases h8 : 8 < s.length
    · have h8' : (8 : Int) < s.length := by omega
      simp [pc_impl_NameOk, hne, h8, h8']
      refine fin_val rfl ?_ (by simp)
      rw [nameOk_false fun h => by omega]; simp
    · have h8' : ¬ (8 : Int) < s.length := by omega
      simp [-getElem?_pos, pc_impl_NameOk, hne, h8, h8', hc0]
      refine callK_val (by simp) (isLetter_c c) rfl ?_
      by_cases hl : isLet c = true
      · simp [-getElem?_pos, hne, h8, h8', hc0, hl]
        refine W_wk (s' := ⟨[(3, .i .i64 1), (0, .s s)], [], 0, 0⟩) (Wk.less rfl (by simp) (by simp) (by simp)) ?_
        refine W_while (m := s.length - 1) (fun m st => ∃ i : Nat, 1 ≤ i ∧ i + m = s.length ∧ (∀ j d, j < i → s[j]? = some d → okAt j d) ∧ st = ⟨[(3, .i .i64 i), (0, .s s)], [], 0, 0⟩) ⟨1, by omega, by omega, fun j d hj hd => by
          rw [show j = 0 by omega, hc0] at hd; simp at hd; subst hd; exact .inl hl, rfl⟩ ?_
        rintro m st ⟨i, hi1, him, hv, rfl⟩
        rcases Nat.lt_or_ge i s.length with h1 | h1
        · obtain ⟨x, hx⟩ : ∃ x, s[i]? = some x := ⟨_, List.getElem?_eq_getElem h1⟩
          have hw : IntKind.i64.wrap ((i : Int) + 1) = (i : Int) + 1 := wrap1 (by omega)
          have h1' : (i : Int) < s.length := by omega
          have done : okAt i x → ∀ j d, j < i + 1 → s[j]? = some d → okAt j d := by
            intro ho j d hj hd
            rcases Nat.lt_or_ge j i with h4 | h4
            · exact hv j d h4 hd
            · obtain rfl : j = i := by omega
              rw [hx] at hd
              simp at hd; subst hd; exact ho
          simp [-getElem?_pos, hx, h1, h1']
          refine callK_val (by simp) (isLetter_c x) rfl ?_
          by_cases hlx : isLet x = true
          · simp [-getElem?_pos, hx, h1, h1', hlx, hw]
            exact ⟨_, Wk.to (s' := ⟨[(3, .i .i64 ((i + 1 : Nat) : Int)), (0, .s s)], [], 0, 0⟩) rfl (by simp) (by simp) (by simp) (by simp), s.length - (i + 1), by omega, i + 1, by omega, by omega, done (.inl hlx), rfl⟩
          · simp [-getElem?_pos, hx, h1, h1', hlx, hw]
            refine callK_val (by simp) (isFigure_c x) rfl ?_
            by_cases hfx : isFig x = true
            · simp [-getElem?_pos, hx, h1, h1', hlx, hw, hfx]
              exact ⟨_, Wk.to (s' := ⟨[(3, .i .i64 ((i + 1 : Nat) : Int)), (0, .s s)], [], 0, 0⟩) rfl (by simp) (by simp) (by simp) (by simp), s.length - (i + 1), by omega, i + 1, by omega, by omega, done (.inr ⟨by omega, hfx⟩), rfl⟩
            · simp [-getElem?_pos, hx, h1, h1', hlx, hw, hfx]
              refine fin_val rfl ?_ (by simp)
              rw [nameOk_false fun h => ?_]
              · simp
              · have := h.1 i x hx
                simp [okAt, hlx, hfx] at this
        · have h2 : ¬ i < s.length := by omega
          have h2' : ¬ (i : Int) < s.length := by omega
          have hall : ∀ j d, s[j]? = some d → okAt j d := fun j d hd => hv j d (by have := (List.getElem?_eq_some_iff.1 hd).1; omega) hd
          simp [h2, h2']
          by_cases hk : s ∈ kept
          · have hf : nameOk s = false := nameOk_false fun h => h.2.2.2 hk
            rw [hf]
            clear hf hall hv
            simp only [kept, List.mem_cons, List.not_mem_nil, or_false] at hk
            repeat' rcases hk with hk | hk
            all_goals (simp; exact fin_val rfl (by simp) (by simp))
          · have hf : nameOk s = true := (nameOk_iff s).2 ⟨hall, by omega, by omega, hk⟩
            rw [hf]
            simp only [kept, List.mem_cons, List.not_mem_nil, or_false, not_or] at hk
            simp [hk]
            exact fin_val rfl (by simp) (by simp)
      · simp [-getElem?_pos, hne, h8, h8', hc0, hl]
        refine fin_val rfl ?_ (by simp)
        rw [nameOk_false fun h => ?_]
        · simp
        · have := h.1 0 c hc0
          simp [okAt, hl] at this
end Go.Proofs.Ytehdfbhfbidadaa.V
/- Values that are ok. -/
namespace Go.Proofs.Ytehdfbhfbidadaa.V
open Go
set_option linter.unusedVariables false
set_option linter.unusedSimpArgs false
set_option maxHeartbeats 8000000
def okB (c : UInt8) : Bool := !(decide ((c.toNat : Int) < 32) || decide (126 < (c.toNat : Int)) || decide ((c.toNat : Int) = 39))
def okT (s : Tx) : Bool := s.all okB && decide (s.length ≤ 16)
theorem okT_false {s : Tx} {i : Nat} {c : UInt8} (h : s[i]? = some c) (h1 : okB c = false) : okT s = false := by
  rw [Bool.eq_false_iff]
  intro h2
  simp only [okT, Bool.and_eq_true, List.all_eq_true] at h2
  exact absurd (h2.1 c (List.mem_of_getElem? h)) (by simp [h1])
theorem okT_of {s : Tx} (h : ∀ (j : Nat) (c : UInt8), s[j]? = some c → okB c = true) : okT s = decide (s.length ≤ 16) := by
  have : s.all okB = true := List.all_eq_true.2 fun c hc => by
    obtain ⟨j, hj⟩ := List.mem_iff_getElem?.1 hc
    exact h j c hj
  simp [okT, this]
theorem l1Text_c (s : Tx) (hs : ln s) : Rv Try.prog 148 [.s s] (.b (okT s)) := by
  refine via_spec_l1Text (by simp) ?_
  simp [pc_spec_l1Text]
  refine W_for (fun i => ⟨[(3, .i .i64 i), (0, .s s)], [], 0, 0⟩) s.length (fun i => ∀ j c, j < i → s[j]? = some c → okB c = true) (Wk.less rfl (by simp) (by simp) (by simp)) (by simp) ?_
  intro i hi hv
  rcases Nat.lt_or_ge i s.length with h1 | h1
  · obtain ⟨x, hx⟩ : ∃ x, s[i]? = some x := ⟨_, List.getElem?_eq_getElem h1⟩
    have hw : IntKind.i64.wrap ((i : Int) + 1) = (i : Int) + 1 := wrap1 (by omega)
    by_cases h3 : (x.toNat : Int) < 32
    · simp [-getElem?_pos, hx, h1, h3, hw]
      exact fin_val rfl (by simp [okT_false hx (by simp [okB]; omega)]) (by simp)
    · by_cases h4 : 126 < (x.toNat : Int)
      · simp [-getElem?_pos, hx, h1, h3, h4, hw]
        exact fin_val rfl (by simp [okT_false hx (by simp [okB]; omega)]) (by simp)
      · by_cases h5 : (x.toNat : Int) = 39
        · simp [-getElem?_pos, hx, h1, h3, h4, h5, hw]
          exact fin_val rfl (by simp [okT_false hx (by simp [okB]; omega)]) (by simp)
        · simp [-getElem?_pos, hx, h1, h3, h4, h5, hw]
          refine ⟨fun j c hj hc => ?_, Wk.to rfl (by simp) (by simp) (by simp) (by simp)⟩
          rcases Nat.lt_or_ge j i with h6 | h6
          · exact hv j c h6 hc
          · obtain rfl : j = i := by omega
            rw [hx] at hc; simp at hc; subst hc
            simp [okB]; omega
  · have h2 : ¬ i < s.length := by omega
    simp [h2]
    refine fin_val rfl ?_ (by simp)
    rw [okT_of fun j c hc => hv j c (by have := (List.getElem?_eq_some_iff.1 hc).1; omega) hc]
    simp
    omega
theorem textFits_c (s : Tx) (hs : ln s) : Rv Try.prog 128 [.s s] (.b (okT s)) := by
  refine via_impl_textFits (by simp) ?_
  by_cases h16 : 16 < s.length
  · have h16' : (16 : Int) < s.length := by omega
    simp [pc_impl_textFits, h16, h16']
    exact fin_val rfl (by simp [okT]; omega) (by simp)
  · have h16' : ¬ (16 : Int) < s.length := by omega
    simp [pc_impl_textFits, h16, h16']
    refine W_for (fun i => ⟨[(3, .i .i64 i), (0, .s s)], [], 0, 0⟩) s.length (fun i => ∀ j c, j < i → s[j]? = some c → okB c = true) (Wk.less rfl (by simp) (by simp) (by simp)) (by simp) ?_
    intro i hi hv
    rcases Nat.lt_or_ge i s.length with h1 | h1
    · obtain ⟨x, hx⟩ : ∃ x, s[i]? = some x := ⟨_, List.getElem?_eq_getElem h1⟩
      have hw : IntKind.i64.wrap ((i : Int) + 1) = (i : Int) + 1 := wrap1 (by omega)
      by_cases h3 : (x.toNat : Int) < 32
      · simp [-getElem?_pos, hx, h1, h3, hw]
        exact fin_val rfl (by simp [okT_false hx (by simp [okB]; omega)]) (by simp)
      · by_cases h4 : 126 < (x.toNat : Int)
        · simp [-getElem?_pos, hx, h1, h3, h4, hw]
          exact fin_val rfl (by simp [okT_false hx (by simp [okB]; omega)]) (by simp)
        · by_cases h5 : (x.toNat : Int) = 39
          · simp [-getElem?_pos, hx, h1, h3, h4, h5, hw]
            exact fin_val rfl (by simp [okT_false hx (by simp [okB]; omega)]) (by simp)
          · simp [-getElem?_pos, hx, h1, h3, h4, h5, hw]
            refine ⟨fun j c hj hc => ?_, Wk.to rfl (by simp) (by simp) (by simp) (by simp)⟩
            rcases Nat.lt_or_ge j i with h6 | h6
            · exact hv j c h6 hc
            · obtain rfl : j = i := by omega
              rw [hx] at hc; simp at hc; subst hc
              simp [okB]; omega
    · have h2 : ¬ i < s.length := by omega
      simp [h2]
      refine fin_val rfl ?_ (by simp)
      rw [okT_of fun j c hc => hv j c (by have := (List.getElem?_eq_some_iff.1 hc).1; omega) hc]
      simp
      omega
/-- A value that is ok, and at most so many within each other. -/
def okV : Nat → Vl → Bool
  | 0, _ => false
  | d + 1, .mk k n s l =>
    if k = 0 then decide (n = 0) && decide (s = []) && decide (l.length = 0)
    else if k = 1 then (decide (n = 0) || decide (n = 1)) && decide (s = []) && decide (l.length = 0)
    else if k = 2 then decide (-1000000000 ≤ n) && decide (n ≤ 1000000000) && decide (s = []) && decide (l.length = 0)
    else if k = 3 then decide (n = 0) && okT s && decide (l.length = 0)
    else if k = 5 ∨ k = 6 then decide (0 ≤ n) && decide (n ≤ 1000000000) && decide (s = []) && decide (l.length = 0)
    else if k = 4 then decide (n = 0) && decide (s = []) && decide (l.length ≤ 6) && l.all (okV d)
    else false
theorem valueFits_0 (v : Vl) : Rv Try.prog 65 [.agg (sV.I v), .i .i64 0] (.b false) := by
  refine via_impl_valueFits (by simp) ?_
  obtain ⟨k, n, s, l⟩ := v
  simp [pc_impl_valueFits]
  exact fin_val rfl (by simp) (by simp)
theorem valueFits_c (d : Nat) (hd : d ≤ 3) : ∀ v : Vl, v.fit → Rv Try.prog 65 [.agg (sV.I v), .i .i64 (d : Int)] (.b (okV d v)) := by
  induction d with
  | zero => exact fun v _ => valueFits_0 v
  | succ d ih =>
    intro v hf
    obtain ⟨k, n, s, l⟩ := v
    obtain ⟨_, _, hs, hl, hv⟩ := Vl.fit_mk.1 hf
    refine via_impl_valueFits (by simp) ?_
    have h1 : ¬ ((d + 1 : Nat) : Int) < 1 := by omega
    have h1' : ¬ (d : Int) + 1 < 1 := by omega
    have h1'' : ¬ (d : Int) < 0 := by omega
    by_cases k0 : k = 0
    · subst k0
      by_cases hn : n = 0
      · by_cases hs0 : s = []
        · simp [pc_impl_valueFits, h1, h1', hn, hs0]
          exact fin_val rfl (by simp [okV, hn, hs0]) (by simp)
        · simp [pc_impl_valueFits, h1, h1', hn, hs0]
          exact fin_val rfl (by simp [okV, hn, hs0]) (by simp)
      · simp [pc_impl_valueFits, h1, h1', hn]
        exact fin_val rfl (by simp [okV, hn]) (by simp)
    by_cases k1 : k = 1
    · subst k1
      by_cases hn : n = 0
      · by_cases hs0 : s = []
        · simp [pc_impl_valueFits, h1, h1', hn, hs0]
          exact fin_val rfl (by simp [okV, hn, hs0]) (by simp)
        · simp [pc_impl_valueFits, h1, h1', hn, hs0]
          exact fin_val rfl (by simp [okV, hn, hs0]) (by simp)
      · by_cases hn1 : n = 1
        · by_cases hs0 : s = []
          · simp [pc_impl_valueFits, h1, h1', hn, hn1, hs0]
            exact fin_val rfl (by simp [okV, hn, hn1, hs0]) (by simp)
          · simp [pc_impl_valueFits, h1, h1', hn, hn1, hs0]
            exact fin_val rfl (by simp [okV, hn, hn1, hs0]) (by simp)
        · simp [pc_impl_valueFits, h1, h1', hn, hn1]
          exact fin_val rfl (by simp [okV, hn, hn1]) (by simp)
    by_cases k2 : k = 2
    · subst k2
      by_cases hn : -1000000000 ≤ n
      · by_cases hn2 : n ≤ 1000000000
        · by_cases hs0 : s = []
          · simp [pc_impl_valueFits, h1, h1', hn, hn2, hs0]
            exact fin_val rfl (by simp [okV, hn, hn2, hs0]) (by simp)
          · simp [pc_impl_valueFits, h1, h1', hn, hn2, hs0]
            exact fin_val rfl (by simp [okV, hn, hn2, hs0]) (by simp)
        · simp [pc_impl_valueFits, h1, h1', hn, hn2]
          exact fin_val rfl (by simp [okV, hn, hn2]) (by simp)
      · simp [pc_impl_valueFits, h1, h1', hn]
        exact fin_val rfl (by simp [okV, hn]) (by simp)
    by_cases k3 : k = 3
    · subst k3
      by_cases hn : n = 0
      · simp [pc_impl_valueFits, h1, h1', hn]
        refine callK_val (by simp) (textFits_c s hs) rfl ?_
        by_cases ht : okT s = true
        · simp [ht]
          exact fin_val rfl (by simp [okV, ht]) (by simp)
        · simp [ht]
          exact fin_val rfl (by simp [okV, ht]) (by simp)
      · simp [pc_impl_valueFits, h1, h1', hn]
        exact fin_val rfl (by simp [okV, hn]) (by simp)
    by_cases k5 : k = 5
    · subst k5
      by_cases hn : 0 ≤ n
      · by_cases hn2 : n ≤ 1000000000
        · by_cases hs0 : s = []
          · simp [pc_impl_valueFits, h1, h1', hn, hn2, hs0]
            exact fin_val rfl (by simp [okV, hn, hn2, hs0]) (by simp)
          · simp [pc_impl_valueFits, h1, h1', hn, hn2, hs0]
            exact fin_val rfl (by simp [okV, hn, hn2, hs0]) (by simp)
        · simp [pc_impl_valueFits, h1, h1', hn, hn2]
          exact fin_val rfl (by simp [okV, hn, hn2]) (by simp)
      · simp [pc_impl_valueFits, h1, h1', hn]
        exact fin_val rfl (by simp [okV, hn]) (by simp)
    by_cases k6 : k = 6
    · subst k6
      by_cases hn : 0 ≤ n
      · by_cases hn2 : n ≤ 1000000000
        · by_cases hs0 : s = []
          · simp [pc_impl_valueFits, h1, h1', hn, hn2, hs0]
            exact fin_val rfl (by simp [okV, hn, hn2, hs0]) (by simp)
          · simp [pc_impl_valueFits, h1, h1', hn, hn2, hs0]
            exact fin_val rfl (by simp [okV, hn, hn2, hs0]) (by simp)
        · simp [pc_impl_valueFits, h1, h1', hn, hn2]
          exact fin_val rfl (by simp [okV, hn, hn2]) (by simp)
      · simp [pc_impl_valueFits, h1, h1', hn]
        exact fin_val rfl (by simp [okV, hn]) (by simp)
    by_cases k4 : k = 4
    · subst k4
      by_cases hn : n = 0
      · by_cases hs0 : s = []
        · by_cases hl6 : 6 < l.length
          · have hl6' : (6 : Int) < l.length := by omega
            simp [pc_impl_valueFits, h1, h1', hn, hs0, hl6']
            have hl7 : ¬ l.length ≤ 6 := by omega
            exact fin_val rfl (by simp [okV, hl7]) (by simp)
          · have hl6' : ¬ (6 : Int) < l.length := by omega
            simp [pc_impl_valueFits, h1, h1', hn, hs0, hl6']
            have hwd : IntKind.i64.wrap (d : Int) = d := wrap64 (by omega) (by omega)
            refine W_for (fun i => ⟨[(126, .i .i64 i), (125, .i .i64 l.length), (124, .imm (l.map sV.I)), (1, .i .i64 ((d : Int) + 1))], [], 1, 0⟩) l.length (fun i => ∀ j v, j < i → l[j]? = some v → okV d v = true) (Wk.less rfl (by simp) (by simp) (by simp)) (by simp) ?_
            intro i hi hv2
            rcases Nat.lt_or_ge i l.length with h2 | h2
            · obtain ⟨x, hx⟩ : ∃ x, l[i]? = some x := ⟨_, List.getElem?_eq_getElem h2⟩
              have hw : IntKind.i64.wrap ((i : Int) + 1) = (i : Int) + 1 := wrap1 (by omega)
              simp [-getElem?_pos, hx, hw, h2, hwd]
              refine callK_val (by simp) (ih (by omega) x (hv x (List.mem_of_getElem? hx))) rfl ?_
              by_cases ho : okV d x = true
              · simp [-getElem?_pos, hx, hw, h2, hwd, ho]
                refine ⟨fun j v hj hc => ?_, Wk.to rfl (by simp) (by simp) (by simp) (by simp)⟩
                rcases Nat.lt_or_ge j i with h6 | h6
                · exact hv2 j v h6 hc
                · obtain rfl : j = i := by omega
                  rw [hx] at hc; simp at hc; subst hc; exact ho
              · simp [-getElem?_pos, hx, hw, h2, hwd, ho]
                refine fin_val rfl ?_ (by simp)
                have : l.all (okV d) = false := by
                  rw [Bool.eq_false_iff]; intro h
                  exact ho (List.all_eq_true.1 h x (List.mem_of_getElem? hx))
                simp [okV, this]
            · have h3 : ¬ i < l.length := by omega
              simp [h3]
              have : l.all (okV d) = true := List.all_eq_true.2 fun v hm => by
                obtain ⟨j, hj⟩ := List.mem_iff_getElem?.1 hm
                exact hv2 j v (by have := (List.getElem?_eq_some_iff.1 hj).1; omega) hj
              have hl7 : l.length ≤ 6 := by omega
              exact fin_val rfl (by simp [okV, hn, hs0, this, hl7]) (by simp)
        · simp [pc_impl_valueFits, h1, h1', hn, hs0]
          exact fin_val rfl (by simp [okV, hn, hs0]) (by simp)
      · simp [pc_impl_valueFits, h1, h1', hn]
        exact fin_val rfl (by simp [okV, hn]) (by simp)
    simp [pc_impl_valueFits, h1, h1', k0, k1, k2, k3, k4, k5, k6]
    exact fin_val rfl (by simp [okV, k0, k1, k2, k3, k4, k5, k6]) (by simp)
/-- The lists' case apart. -/
theorem l1Ok_of (d : Nat) (hd : d ≤ 2) (k n : Int) (s : Tx) (l : List Vl) (hs : ln s) (hl : ln l) (h4' : k = 4 → Rv Try.prog 87 [.agg (sV.I (.mk 4 n s l)), .i .i64 ((d : Int) + 1)] (.b (okV (d + 1) (.mk 4 n s l)))) :
    Rv Try.prog 87 [.agg (sV.I (.mk k n s l)), .i .i64 ((d : Int) + 1)] (.b (okV (d + 1) (.mk k n s l))) := by
  by_cases k4 : k = 4
  · subst k4; exact h4' rfl
  refine via_spec_l1Ok (by simp) ?_
  by_cases k0 : k = 0
  · subst k0
    by_cases hs0 : s = []
    · by_cases hl0 : l = []
      · by_cases hn : n = 0
        · simp [pc_spec_l1Ok, hs0, hl0, hn]
          exact fin_val rfl (by simp [okV, hs0, hl0, hn]) (by simp)
        · simp [pc_spec_l1Ok, hs0, hl0, hn]
          exact fin_val rfl (by simp [okV, hs0, hl0, hn]) (by simp)
      · simp [pc_spec_l1Ok, hs0, hl0]
        exact fin_val rfl (by simp [okV, hs0, hl0]) (by simp)
    · simp [pc_spec_l1Ok, hs0]
      exact fin_val rfl (by simp [okV, hs0]) (by simp)
  by_cases k1 : k = 1
  · subst k1
    by_cases hs0 : s = []
    · by_cases hl0 : l = []
      · simp [pc_spec_l1Ok, hs0, hl0]
        refine callK_val (by simp) (l1In_c n 0 1) rfl ?_
        by_cases a : 0 ≤ n
        · by_cases b : n ≤ 1
          · simp [a, b]
            exact fin_val rfl (by simp [okV, a, b, hs0, hl0]; omega) (by simp)
          · simp [a, b]
            exact fin_val rfl (by simp [okV, a, b, hs0, hl0]; omega) (by simp)
        · simp [a]
          exact fin_val rfl (by simp [okV, a, hs0, hl0]; omega) (by simp)
      · simp [pc_spec_l1Ok, hs0, hl0]
        exact fin_val rfl (by simp [okV, hs0, hl0]) (by simp)
    · simp [pc_spec_l1Ok, hs0]
      exact fin_val rfl (by simp [okV, hs0]) (by simp)
  by_cases k2 : k = 2
  · subst k2
    by_cases hs0 : s = []
    · by_cases hl0 : l = []
      · simp [pc_spec_l1Ok, hs0, hl0]
        refine callK_val (by simp) (l1In_c n (-1000000000) 1000000000) rfl ?_
        by_cases a : -1000000000 ≤ n
        · by_cases b : n ≤ 1000000000
          · simp [a, b]
            exact fin_val rfl (by simp [okV, a, b, hs0, hl0]) (by simp)
          · simp [a, b]
            exact fin_val rfl (by simp [okV, a, b, hs0, hl0]) (by simp)
        · simp [a]
          exact fin_val rfl (by simp [okV, a, hs0, hl0]) (by simp)
      · simp [pc_spec_l1Ok, hs0, hl0]
        exact fin_val rfl (by simp [okV, hs0, hl0]) (by simp)
    · simp [pc_spec_l1Ok, hs0]
      exact fin_val rfl (by simp [okV, hs0]) (by simp)
  by_cases k3 : k = 3
  · subst k3
    by_cases hn : n = 0
    · by_cases hl0 : l = []
      · by_cases hs0 : s = []
        · subst hs0
          simp [pc_spec_l1Ok, hn, hl0]
          refine callK_val (by simp) (l1Text_c [] (by simp [ln])) rfl ?_
          simp [okT]
          exact fin_val rfl (by simp [okV, okT]) (by simp)
        · simp [pc_spec_l1Ok, hn, hl0, hs0]
          refine callK_val (by simp) (l1Text_c s hs) rfl ?_
          by_cases ht : okT s = true
          · simp [ht]
            exact fin_val rfl (by simp [okV, ht]) (by simp)
          · simp [ht]
            exact fin_val rfl (by simp [okV, ht]) (by simp)
      · by_cases hs0 : s = []
        all_goals
          simp [pc_spec_l1Ok, hn, hl0, hs0]
          exact fin_val rfl (by simp [okV, hn, hl0]) (by simp)
    · by_cases hs0 : s = []
      all_goals
        by_cases hl0 : l = []
        all_goals
          simp [pc_spec_l1Ok, hn, hs0, hl0]
          exact fin_val rfl (by simp [okV, hn]) (by simp)
  by_cases k5 : k = 5
  · subst k5
    by_cases hs0 : s = []
    · by_cases hl0 : l = []
      · simp [pc_spec_l1Ok, hs0, hl0]
        refine callK_val (by simp) (l1In_c n 0 1000000000) rfl ?_
        by_cases a : 0 ≤ n
        · by_cases b : n ≤ 1000000000
          · simp [a, b]
            exact fin_val rfl (by simp [okV, a, b, hs0, hl0]) (by simp)
          · simp [a, b]
            exact fin_val rfl (by simp [okV, a, b, hs0, hl0]) (by simp)
        · simp [a]
          exact fin_val rfl (by simp [okV, a, hs0, hl0]) (by simp)
      · simp [pc_spec_l1Ok, hs0, hl0]
        exact fin_val rfl (by simp [okV, hs0, hl0]) (by simp)
    · simp [pc_spec_l1Ok, hs0]
      exact fin_val rfl (by simp [okV, hs0]) (by simp)
  by_cases k6 : k = 6
  · subst k6
    by_cases hs0 : s = []
    · by_cases hl0 : l = []
      · simp [pc_spec_l1Ok, hs0, hl0]
        refine callK_val (by simp) (l1In_c n 0 1000000000) rfl ?_
        by_cases a : 0 ≤ n
        · by_cases b : n ≤ 1000000000
          · simp [a, b]
            exact fin_val rfl (by simp [okV, a, b, hs0, hl0]) (by simp)
          · simp [a, b]
            exact fin_val rfl (by simp [okV, a, b, hs0, hl0]) (by simp)
        · simp [a]
          exact fin_val rfl (by simp [okV, a, hs0, hl0]) (by simp)
      · simp [pc_spec_l1Ok, hs0, hl0]
        exact fin_val rfl (by simp [okV, hs0, hl0]) (by simp)
    · simp [pc_spec_l1Ok, hs0]
      exact fin_val rfl (by simp [okV, hs0]) (by simp)
  by_cases hs0 : s = []
  all_goals
    by_cases hl0 : l = []
    all_goals
      simp [pc_spec_l1Ok, hs0, hl0, k0, k1, k2, k3, k4, k5, k6]
      exact fin_val rfl (by simp [okV, k0, k1, k2, k3, k4, k5, k6]) (by simp)
/-- Lists. -/
theorem l1Ok_list (d : Nat) (hd : d ≤ 2) (n : Int) (s : Tx) (l : List Vl) (hl : ln l) (h : ∀ v ∈ l, 1 ≤ d → Rv Try.prog 87 [.agg (sV.I v), .i .i64 (d : Int)] (.b (okV d v))) : Rv Try.prog 87 [.agg (sV.I (.mk 4 n s l)), .i .i64 ((d : Int) + 1)] (.b (okV (d + 1) (.mk 4 n s l))) := by
  refine via_spec_l1Ok (by simp) ?_
  have hwd : IntKind.i64.wrap (d : Int) = d := wrap64 (by omega) (by omega)
  rcases Classical.em (s = []) with hs0 | hs0
  all_goals
    rcases Classical.em (l = []) with hl0 | hl0
    all_goals
      first | have e1 := eq_false hs0 | have e1 := eq_true hs0
      first | have e2 := eq_false hl0 | have e2 := eq_true hl0
      simp [pc_spec_l1Ok, e1, e2]
      refine W_for (fun i => ⟨[(6, .i .i64 i), (2, .ptr 0 0 0), (1, .i .i64 ((d : Int) + 1))], [(0, .arr 4 [sV.I (.mk 4 n s l)])], 1, 0⟩) l.length (fun i => ∀ j v, j < i → l[j]? = some v → okV d v = true) (Wk.less rfl (by simp) (by simp) (by simp)) (by simp) ?_
      intro i hi hv2
      clear e1 e2
      rcases Nat.lt_or_ge i l.length with h2 | h2
      · obtain ⟨x, hx⟩ : ∃ x, l[i]? = some x := ⟨_, List.getElem?_eq_getElem h2⟩
        have hw : IntKind.i64.wrap ((i : Int) + 1) = (i : Int) + 1 := wrap1 (by omega)
        by_cases hd0 : d = 0
        · have hd2 : (d : Int) + 1 < 2 := by omega
          simp [-getElem?_pos, hx, hw, h2, hwd, hd2]
          refine fin_val rfl ?_ (by simp)
          have : l.all (okV d) = false := by
            rw [Bool.eq_false_iff]; intro h
            have := List.all_eq_true.1 h x (List.mem_of_getElem? hx)
            simp [hd0, okV] at this
          simp [okV, this]
        · have hd2 : ¬ (d : Int) + 1 < 2 := by omega
          simp [-getElem?_pos, hx, hw, h2, hwd, hd2]
          refine callK_val (by simp) (h x (List.mem_of_getElem? hx) (by omega)) rfl ?_
          by_cases ho : okV d x = true
          · simp [-getElem?_pos, hx, hw, h2, hwd, ho, hd2]
            refine ⟨fun j v hj hc => ?_, Wk.to1 rfl (by simp) (by simp) (by simp) (by simp) (by omega)⟩
            rcases Nat.lt_or_ge j i with h6 | h6
            · exact hv2 j v h6 hc
            · obtain rfl : j = i := by omega
              rw [hx] at hc; simp at hc; subst hc; exact ho
          · simp [-getElem?_pos, hx, hw, h2, hwd, ho, hd2]
            refine fin_val rfl ?_ (by simp)
            have : l.all (okV d) = false := by
              rw [Bool.eq_false_iff]; intro h
              exact ho (List.all_eq_true.1 h x (List.mem_of_getElem? hx))
            simp [okV, this]
      · have h3 : ¬ i < l.length := by omega
        have hal : l.all (okV d) = true := List.all_eq_true.2 fun v hm => by
          obtain ⟨j, hj⟩ := List.mem_iff_getElem?.1 hm
          exact hv2 j v (by have := (List.getElem?_eq_some_iff.1 hj).1; omega) hj
        by_cases hn : n = 0
        · by_cases hs1 : s = []
          · simp [h3, hn, hs1]
            exact fin_val rfl (by simp [okV, hal]; omega) (by simp)
          · simp [h3, hn, hs1]
            exact fin_val rfl (by simp [okV, hs1]) (by simp)
        · simp [h3, hn]
          exact fin_val rfl (by simp [okV, hn]) (by simp)
theorem l1Ok_c (d : Nat) (hd : d ≤ 2) : ∀ v : Vl, v.fit → Rv Try.prog 87 [.agg (sV.I v), .i .i64 ((d : Int) + 1)] (.b (okV (d + 1) v)) := by
  induction d with
  | zero =>
    intro v hf
    obtain ⟨k, n, s, l⟩ := v
    obtain ⟨_, _, hs, hl, hv⟩ := Vl.fit_mk.1 hf
    exact l1Ok_of 0 (by omega) k n s l hs hl fun _ => l1Ok_list 0 (by omega) n s l hl fun v hm h => by omega
  | succ d ih =>
    intro v hf
    obtain ⟨k, n, s, l⟩ := v
    obtain ⟨_, _, hs, hl, hv⟩ := Vl.fit_mk.1 hf
    exact l1Ok_of (d + 1) hd k n s l hs hl fun _ => l1Ok_list (d + 1) hd n s l hl fun v hm h => ih (by omega) v (hv v hm)
end Go.Proofs.Ytehdfbhfbidadaa.V
/- Props and labels that are ok. -/
namespace Go.Proofs.Ytehdfbhfbidadaa.V
open Go
set_option linter.unusedVariables false
set_option linter.unusedSimpArgs false
set_option maxHeartbeats 8000000
def vOk (v : Vl) : Bool := okV 3 v
theorem specValueOk_c (v : Vl) (hf : v.fit) : Rv Try.prog 35 [.agg (sV.I v)] (.b (vOk v)) := by
  obtain ⟨k, n, s, l⟩ := v
  refine via_spec_ValueOk (by simp) ?_
  simp [pc_spec_ValueOk]
  refine callK_val (by simp) (l1Ok_c 2 (by omega) (.mk k n s l) hf) rfl ?_
  simp
  exact fin_val rfl (by simp [vOk]) (by simp)
theorem ValueOk_c (v : Vl) (hf : v.fit) : Rv Try.prog 24 [.agg (sV.I v)] (.b (vOk v)) := by
  obtain ⟨k, n, s, l⟩ := v
  refine via_impl_ValueOk (by simp) ?_
  simp [pc_impl_ValueOk]
  refine callK_val (by simp) (valueFits_c 3 (by omega) (.mk k n s l) hf) rfl ?_
  simp
  exact fin_val rfl (by simp [vOk]) (by simp)
/-! ### kinds within a value -/
mutual
def Vl.has (q : Int) : Vl → Bool
  | .mk k _ _ l => decide (k = q) || Vl.hass q l
def Vl.hass (q : Int) : List Vl → Bool
  | [] => false
  | v :: l => v.has q || Vl.hass q l
end
theorem Vl.hass_eq (q : Int) : ∀ l, Vl.hass q l = l.any (Vl.has q)
  | [] => rfl
  | v :: l => by simp [Vl.hass, Vl.hass_eq q l]
theorem Vl.has_mk (q k n : Int) (s : Tx) (l : List Vl) : (Vl.mk k n s l).has q = (decide (k = q) || l.any (Vl.has q)) := by rw [Vl.has, Vl.hass_eq]
mutual
def Vl.plain : Vl → Bool
  | .mk k _ _ l => Vl.plains l && decide (1 ≤ k) && decide (k ≤ 4)
def Vl.plains : List Vl → Bool
  | [] => true
  | v :: l => v.plain && Vl.plains l
end
theorem Vl.plains_eq : ∀ l, Vl.plains l = l.all Vl.plain
  | [] => rfl
  | v :: l => by simp [Vl.plains, Vl.plains_eq l]
theorem Vl.plain_mk (k n : Int) (s : Tx) (l : List Vl) : (Vl.mk k n s l).plain = (l.all Vl.plain && decide (1 ≤ k) && decide (k ≤ 4)) := by rw [Vl.plain, Vl.plains_eq]
/-- Of an ok value: plain just if nothing, no node and no edge is within it. -/
theorem plain_has : ∀ (d : Nat) (v : Vl), okV d v = true → v.plain = (!v.has 0 && !v.has 5 && !v.has 6) := by
  intro d
  induction d with
  | zero => intro v h; simp [okV] at h
  | succ d ih =>
    rintro ⟨k, n, s, l⟩ h
    have hall : ∀ v ∈ l, okV d v = true := by
      by_cases k4 : k = 4
      · subst k4
        simp [okV] at h
        exact h.2
      · have : l = [] := by
          unfold okV at h
          split at h
          · simp at h; exact h.2
          · split at h
            · simp at h; exact h.2
            · split at h
              · simp at h; exact h.2
              · split at h
                · simp at h; exact h.2
                · split at h
                  · simp at h; exact h.2
                  · simp [k4] at h
        simp [this]
    have hk : 0 ≤ k ∧ k ≤ 6 := by
      unfold okV at h
      split at h
      · omega
      · split at h
        · omega
        · split at h
          · omega
          · split at h
            · omega
            · split at h
              · omega
              · split at h
                · omega
                · simp at h
    have hl : l.all Vl.plain = (!l.any (Vl.has 0) && !l.any (Vl.has 5) && !l.any (Vl.has 6)) := by
      clear h
      induction l with
      | nil => rfl
      | cons v l ihl =>
        simp only [List.all_cons, List.any_cons, ih v (hall v (by simp)), ihl (fun w hw => hall w (by simp [hw]))]
        cases v.has 0 <;> cases v.has 5 <;> cases v.has 6 <;> simp
    rw [Vl.plain_mk, Vl.has_mk, Vl.has_mk, Vl.has_mk, hl]
    by_cases k0 : k = 0
    · simp [k0]
    by_cases k5 : k = 5
    · simp [k5]
    by_cases k6 : k = 6
    · simp [k6]
    · have h1 : 1 ≤ k := by omega
      have h2 : k ≤ 4 := by omega
      simp [k0, k5, k6, h1, h2]
theorem l2Plain_c (v : Vl) : v.fit → Rv Try.prog 147 [.agg (sV.I v)] (.b v.plain) := by
  refine Vl.ind (p := fun v => v.fit → Rv Try.prog 147 [.agg (sV.I v)] (.b v.plain)) ?_ v
  intro k n s l ih hf
  obtain ⟨_, _, hs, hl, hv⟩ := Vl.fit_mk.1 hf
  refine via_spec_l2Plain (by simp) ?_
  simp [pc_spec_l2Plain]
  refine W_for (fun i => ⟨[(3, .i .i64 i), (1, .ptr 0 0 0)], [(0, .arr 4 [sV.I (.mk k n s l)])], 1, 0⟩) l.length (fun i => ∀ j v, j < i → l[j]? = some v → v.plain = true) (Wk.less rfl (by simp) (by simp) (by simp)) (by simp) ?_
  intro i hi hv2
  rcases Nat.lt_or_ge i l.length with h2 | h2
  · obtain ⟨x, hx⟩ : ∃ x, l[i]? = some x := ⟨_, List.getElem?_eq_getElem h2⟩
    have hw : IntKind.i64.wrap ((i : Int) + 1) = (i : Int) + 1 := wrap1 (by omega)
    simp [-getElem?_pos, hx, hw, h2]
    refine callK_val (by simp) (ih x (List.mem_of_getElem? hx) (hv x (List.mem_of_getElem? hx))) rfl ?_
    by_cases ho : x.plain = true
    · simp [-getElem?_pos, hx, hw, h2, ho]
      refine ⟨fun j v hj hc => ?_, Wk.to1 rfl (by simp) (by simp) (by simp) (by simp) (by omega)⟩
      rcases Nat.lt_or_ge j i with h6 | h6
      · exact hv2 j v h6 hc
      · obtain rfl : j = i := by omega
        rw [hx] at hc; simp at hc; subst hc; exact ho
    · simp [-getElem?_pos, hx, hw, h2, ho]
      refine fin_val rfl ?_ (by simp)
      have : l.all Vl.plain = false := by
        rw [Bool.eq_false_iff]; intro h
        exact ho (List.all_eq_true.1 h x (List.mem_of_getElem? hx))
      simp [Vl.plain_mk, this]
  · have h3 : ¬ i < l.length := by omega
    simp [h3]
    refine callK_val (by simp) (l1In_c k 1 4) rfl ?_
    simp
    have : l.all Vl.plain = true := List.all_eq_true.2 fun v hm => by
      obtain ⟨j, hj⟩ := List.mem_iff_getElem?.1 hm
      exact hv2 j v (by have := (List.getElem?_eq_some_iff.1 hj).1; omega) hj
    exact fin_val rfl (by simp [Vl.plain_mk, this]) (by simp)
theorem valueHas_c (q : Int) (v : Vl) : v.fit → Rv Try.prog 169 [.agg (sV.I v), .i .i64 q] (.b (v.has q)) := by
  refine Vl.ind (p := fun v => v.fit → Rv Try.prog 169 [.agg (sV.I v), .i .i64 q] (.b (v.has q))) ?_ v
  intro k n s l ih hf
  obtain ⟨_, _, hs, hl, hv⟩ := Vl.fit_mk.1 hf
  refine via_impl_valueHas (by simp) ?_
  by_cases hk : k = q
  · simp [pc_impl_valueHas, hk]
    exact fin_val rfl (by simp [Vl.has_mk]) (by simp)
  · simp [pc_impl_valueHas, hk]
    refine W_for (fun i => ⟨[(14, .i .i64 i), (13, .i .i64 l.length), (12, .imm (l.map sV.I)), (1, .i .i64 q)], [], 1, 0⟩) l.length (fun i => ∀ j v, j < i → l[j]? = some v → v.has q = false) (Wk.less rfl (by simp) (by simp) (by simp)) (by simp) ?_
    intro i hi hv2
    rcases Nat.lt_or_ge i l.length with h2 | h2
    · obtain ⟨x, hx⟩ : ∃ x, l[i]? = some x := ⟨_, List.getElem?_eq_getElem h2⟩
      have hw : IntKind.i64.wrap ((i : Int) + 1) = (i : Int) + 1 := wrap1 (by omega)
      simp [-getElem?_pos, hx, hw, h2]
      refine callK_val (by simp) (ih x (List.mem_of_getElem? hx) (hv x (List.mem_of_getElem? hx))) rfl ?_
      by_cases ho : x.has q = true
      · simp [-getElem?_pos, hx, hw, h2, ho]
        refine fin_val rfl ?_ (by simp)
        have : l.any (Vl.has q) = true := List.any_eq_true.2 ⟨x, List.mem_of_getElem? hx, ho⟩
        simp [Vl.has_mk, this]
      · simp [-getElem?_pos, hx, hw, h2, ho]
        refine ⟨fun j v hj hc => ?_, Wk.to rfl (by simp) (by simp) (by simp) (by simp)⟩
        rcases Nat.lt_or_ge j i with h6 | h6
        · exact hv2 j v h6 hc
        · obtain rfl : j = i := by omega
          rw [hx] at hc; simp at hc; subst hc; simpa using ho
    · have h3 : ¬ i < l.length := by omega
      simp [h3]
      refine fin_val rfl ?_ (by simp)
      have : l.any (Vl.has q) = false := by
        rw [List.any_eq_false]
        intro v hm
        obtain ⟨j, hj⟩ := List.mem_iff_getElem?.1 hm
        simpa using hv2 j v (by have := (List.getElem?_eq_some_iff.1 hj).1; omega) hj
      simp [Vl.has_mk, this, hk]
/-- What may be stored. -/
def sto (v : Vl) : Bool := vOk v && v.plain
theorem storable_c (v : Vl) (hf : v.fit) : Rv Try.prog 108 [.agg (sV.I v)] (.b (sto v)) := by
  refine via_impl_storable (by simp) ?_
  have hp := plain_has 3 v
  obtain ⟨k, n, s, l⟩ := v
  simp [pc_impl_storable]
  refine callK_val (by simp) (ValueOk_c _ hf) rfl ?_
  by_cases h1 : vOk (.mk k n s l) = true
  · have hp := hp h1
    simp [h1]
    refine callK_val (by simp) (valueHas_c 0 _ hf) rfl ?_
    by_cases h2 : (Vl.mk k n s l).has 0 = true
    · simp [h1, h2]
      exact fin_val rfl (by simp [sto, h1, hp, h2]) (by simp)
    · simp [h1, h2]
      refine callK_val (by simp) (valueHas_c 5 _ hf) rfl ?_
      by_cases h3 : (Vl.mk k n s l).has 5 = true
      · simp [h1, h2, h3]
        exact fin_val rfl (by simp [sto, h1, hp, h2, h3]) (by simp)
      · simp [h1, h2, h3]
        refine callK_val (by simp) (valueHas_c 6 _ hf) rfl ?_
        simp [h1, h2, h3]
        exact fin_val rfl (by simp [sto, h1, hp, h2, h3]) (by simp)
  · simp [h1]
    exact fin_val rfl (by simp [sto, h1]) (by simp)
end Go.Proofs.Ytehdfbhfbidadaa.V
/- Labels and lists of props that are ok. -/
namespace Go.Proofs.Ytehdfbhfbidadaa.V
open Go
set_option linter.unusedVariables false
set_option linter.unusedSimpArgs false
set_option maxHeartbeats 8000000
/-- Whether each of a list fits its place, and it comes behind the one ahead of it. -/
def Each {α : Type} (ok : α → Bool) (nm : α → Tx) (l : List α) : Prop :=
  ∀ (i : Nat) (x : α), l[i]? = some x → ok x = true ∧ ∀ y, 0 < i → l[i - 1]? = some y → Op.bytesLess (nm y) (nm x) = true
theorem Each.nil {α : Type} {ok : α → Bool} {nm : α → Tx} : Each ok nm ([] : List α) := by intro i x h; simp at h
def EachTo {α : Type} (ok : α → Bool) (nm : α → Tx) (l : List α) (n : Nat) : Prop :=
  ∀ (i : Nat) (x : α), i < n → l[i]? = some x → ok x = true ∧ ∀ y, 0 < i → l[i - 1]? = some y → Op.bytesLess (nm y) (nm x) = true
theorem EachTo.zero {α : Type} {ok : α → Bool} {nm : α → Tx} {l : List α} : EachTo ok nm l 0 := by intro i x h; omega
theorem EachTo.all {α : Type} {ok : α → Bool} {nm : α → Tx} {l : List α} {n : Nat} (h : EachTo ok nm l n) (hn : l.length ≤ n) : Each ok nm l :=
  fun i x hx => h i x (by have := (List.getElem?_eq_some_iff.1 hx).1; omega) hx
theorem EachTo.succ {α : Type} {ok : α → Bool} {nm : α → Tx} {l : List α} {n : Nat} {x : α} (h : EachTo ok nm l n) (hx : l[n]? = some x) (h1 : ok x = true) (h2 : ∀ y, 0 < n → l[n - 1]? = some y → Op.bytesLess (nm y) (nm x) = true) : EachTo ok nm l (n + 1) := by
  intro i z hi hz
  rcases Nat.lt_or_ge i n with h3 | h3
  · exact h i z h3 hz
  · obtain rfl : i = n := by omega
    rw [hx] at hz; simp at hz; subst hz
    exact ⟨h1, h2⟩
def LabelsOk (l : List Tx) : Prop := Each nameOk id l ∧ l.length ≤ 3
def prOk (p : Pr) : Bool := nameOk p.name && sto p.val
def PropsOk (l : List Pr) : Prop := Each prOk Pr.name l ∧ l.length ≤ 4
theorem wback {i : Nat} (h : 0 < i) (h2 : (i : Int) < 9223372036854775808) : IntKind.i64.wrap ((i : Int) - 1) = ((i - 1 : Nat) : Int) := by
  rw [wrap64 (by omega) (by omega)]; omega
open Classical in
theorem l2Labels_c (l : List Tx) (hl : ln l) (hf : ∀ x ∈ l, ln x) : Rv Try.prog 84 [.imm (l.map sS.I)] (.b (decide (LabelsOk l))) := by
  refine via_spec_l2Labels (by simp) ?_
  simp [pc_spec_l2Labels]
  refine W_for (fun i => ⟨[(3, .i .i64 i), (0, .imm (l.map sS.I))], [], 0, 0⟩) l.length (EachTo nameOk id l) (Wk.less rfl (by simp) (by simp) (by simp)) .zero ?_
  intro i hi hv
  rcases Nat.lt_or_ge i l.length with h1 | h1
  · obtain ⟨x, hx⟩ : ∃ x, l[i]? = some x := ⟨_, List.getElem?_eq_getElem h1⟩
    have hw : IntKind.i64.wrap ((i : Int) + 1) = (i : Int) + 1 := wrap1 (by omega)
    simp [-getElem?_pos, hx, hw, h1]
    refine callK_val (by simp) (l2Name_c x (hf x (List.mem_of_getElem? hx))) rfl ?_
    by_cases ho : nameOk x = true
    · by_cases h0 : 0 < i
      · obtain ⟨y, hy⟩ : ∃ y, l[i - 1]? = some y := ⟨_, List.getElem?_eq_getElem (by omega)⟩
        have hb := wback h0 (by omega)
        by_cases hlt : Op.bytesLess y x = true
        · simp [-getElem?_pos, hx, hw, h1, ho, h0, hb, hy, hlt]
          refine ⟨hv.succ hx ho fun z _ hz => ?_, Wk.to rfl (by simp) (by simp) (by simp) (by simp)⟩
          rw [hy] at hz; simp at hz; subst hz; exact hlt
        · simp [-getElem?_pos, hx, hw, h1, ho, h0, hb, hy, hlt]
          have : ¬ LabelsOk l := fun h => hlt ((h.1 i x hx).2 y h0 hy)
          exact fin_val rfl (by simp [this]) (by simp)
      · obtain rfl : i = 0 := by omega
        simp [-getElem?_pos, hx, hw, h1, ho]
        exact ⟨hv.succ hx ho fun z h _ => by omega, Wk.to rfl (by simp) (by simp) (by simp) (by simp)⟩
    · simp [-getElem?_pos, hx, hw, h1, ho]
      have : ¬ LabelsOk l := fun h => ho (h.1 i x hx).1
      exact fin_val rfl (by simp [this]) (by simp)
  · have h2 : ¬ i < l.length := by omega
    have := hv.all h1
    by_cases h3 : l.length ≤ 3
    · have h3' : (l.length : Int) ≤ 3 := by omega
      simp [h2, h3']
      exact fin_val rfl (by simp [LabelsOk, this, h3]) (by simp)
    · have h3' : ¬ (l.length : Int) ≤ 3 := by omega
      simp [h2, h3']
      exact fin_val rfl (by simp [LabelsOk, this, h3]) (by simp)
open Classical in
theorem labelsOk_c (l : List Tx) (hl : ln l) (hf : ∀ x ∈ l, ln x) : Rv Try.prog 100 [.imm (l.map sS.I)] (.b (decide (LabelsOk l))) := by
  refine via_impl_labelsOk (by simp) ?_
  by_cases h3 : 3 < l.length
  · have h3' : (3 : Int) < l.length := by omega
    simp [pc_impl_labelsOk, h3']
    have : ¬ LabelsOk l := fun h => by have := h.2; omega
    exact fin_val rfl (by simp [this]) (by simp)
  · have h3' : ¬ (3 : Int) < l.length := by omega
    simp [pc_impl_labelsOk, h3']
    refine W_for (fun i => ⟨[(10, .i .i64 i), (9, .i .i64 l.length), (8, .imm (l.map sS.I)), (0, .imm (l.map sS.I))], [], 0, 0⟩) l.length (EachTo nameOk id l) (Wk.less rfl (by simp) (by simp) (by simp)) .zero ?_
    intro i hi hv
    rcases Nat.lt_or_ge i l.length with h1 | h1
    · obtain ⟨x, hx⟩ : ∃ x, l[i]? = some x := ⟨_, List.getElem?_eq_getElem h1⟩
      have hw : IntKind.i64.wrap ((i : Int) + 1) = (i : Int) + 1 := wrap1 (by omega)
      simp [-getElem?_pos, hx, hw, h1]
      refine callK_val (by simp) (NameOk_c x (hf x (List.mem_of_getElem? hx))) rfl ?_
      by_cases ho : nameOk x = true
      · by_cases h0 : 0 < i
        · obtain ⟨y, hy⟩ : ∃ y, l[i - 1]? = some y := ⟨_, List.getElem?_eq_getElem (by omega)⟩
          have hb := wback h0 (by omega)
          by_cases hlt : Op.bytesLess y x = true
          · simp [-getElem?_pos, hx, hw, h1, ho, h0, hb, hy, hlt]
            refine ⟨hv.succ hx ho fun z _ hz => ?_, Wk.to rfl (by simp) (by simp) (by simp) (by simp)⟩
            rw [hy] at hz; simp at hz; subst hz; exact hlt
          · simp [-getElem?_pos, hx, hw, h1, ho, h0, hb, hy, hlt]
            have : ¬ LabelsOk l := fun h => hlt ((h.1 i x hx).2 y h0 hy)
            exact fin_val rfl (by simp [this]) (by simp)
        · obtain rfl : i = 0 := by omega
          simp [-getElem?_pos, hx, hw, h1, ho]
          exact ⟨hv.succ hx ho fun z h _ => by omega, Wk.to rfl (by simp) (by simp) (by simp) (by simp)⟩
      · simp [-getElem?_pos, hx, hw, h1, ho]
        have : ¬ LabelsOk l := fun h => ho (h.1 i x hx).1
        exact fin_val rfl (by simp [this]) (by simp)
    · have h2 : ¬ i < l.length := by omega
      have := hv.all h1
      simp [h2]
      exact fin_val rfl (by simp [LabelsOk, this]; omega) (by simp)
open Classical in
theorem l2Props_c (l : List Pr) (hl : ln l) (hf : ∀ x ∈ l, x.fit) : Rv Try.prog 85 [.imm (l.map sP.I)] (.b (decide (PropsOk l))) := by
  refine via_spec_l2Props (by simp) ?_
  simp [pc_spec_l2Props]
  refine W_for (fun i => ⟨[(3, .i .i64 i), (0, .imm (l.map sP.I))], [], 0, 0⟩) l.length (EachTo prOk Pr.name l) (Wk.less rfl (by simp) (by simp) (by simp)) .zero ?_
  intro i hi hv
  rcases Nat.lt_or_ge i l.length with h1 | h1
  · obtain ⟨⟨nm, v⟩, hx⟩ : ∃ x, l[i]? = some x := ⟨_, List.getElem?_eq_getElem h1⟩
    have hw : IntKind.i64.wrap ((i : Int) + 1) = (i : Int) + 1 := wrap1 (by omega)
    have hfx := hf _ (List.mem_of_getElem? hx)
    obtain ⟨hf1, hf2⟩ := hfx
    simp only at hf1 hf2
    simp [-getElem?_pos, hx, hw, h1]
    refine callK_val (by simp) (l2Name_c nm hf1) rfl ?_
    by_cases ho : nameOk nm = true
    · simp [-getElem?_pos, hx, hw, h1, ho]
      refine callK_val (by simp) (specValueOk_c v hf2) rfl ?_
      by_cases hvo : vOk v = true
      · simp [-getElem?_pos, hx, hw, h1, ho, hvo]
        refine callK_val (by simp) (l2Plain_c v hf2) rfl ?_
        by_cases hpl : v.plain = true
        · have hok : prOk ⟨nm, v⟩ = true := by simp [prOk, sto, ho, hvo, hpl]
          by_cases h0 : 0 < i
          · obtain ⟨⟨nm', v'⟩, hy⟩ : ∃ y, l[i - 1]? = some y := ⟨_, List.getElem?_eq_getElem (by omega)⟩
            have hb := wback h0 (by omega)
            by_cases hlt : Op.bytesLess nm' nm = true
            · simp [-getElem?_pos, hx, hw, h1, ho, h0, hb, hy, hlt, hvo, hpl]
              refine ⟨hv.succ hx hok fun z _ hz => ?_, Wk.to rfl (by simp) (by simp) (by simp) (by simp)⟩
              rw [hy] at hz; simp at hz; subst hz; exact hlt
            · simp [-getElem?_pos, hx, hw, h1, ho, h0, hb, hy, hlt, hvo, hpl]
              have : ¬ PropsOk l := fun h => hlt ((h.1 i _ hx).2 _ h0 hy)
              exact fin_val rfl (by simp [this]) (by simp)
          · obtain rfl : i = 0 := by omega
            simp [-getElem?_pos, hx, hw, h1, ho, hvo, hpl]
            exact ⟨hv.succ hx hok fun z h _ => by omega, Wk.to rfl (by simp) (by simp) (by simp) (by simp)⟩
        · simp [-getElem?_pos, hx, hw, h1, ho, hvo, hpl]
          have : ¬ PropsOk l := fun h => by have := (h.1 i _ hx).1; simp [prOk, sto, hpl] at this
          exact fin_val rfl (by simp [this]) (by simp)
      · simp [-getElem?_pos, hx, hw, h1, ho, hvo]
        have : ¬ PropsOk l := fun h => by have := (h.1 i _ hx).1; simp [prOk, sto, hvo] at this
        exact fin_val rfl (by simp [this]) (by simp)
    · simp [-getElem?_pos, hx, hw, h1, ho]
      have : ¬ PropsOk l := fun h => by have := (h.1 i _ hx).1; simp [prOk, ho] at this
      exact fin_val rfl (by simp [this]) (by simp)
  · have h2 : ¬ i < l.length := by omega
    have := hv.all h1
    by_cases h3 : l.length ≤ 4
    · have h3' : (l.length : Int) ≤ 4 := by omega
      simp [h2, h3']
      exact fin_val rfl (by simp [PropsOk, this, h3]) (by simp)
    · have h3' : ¬ (l.length : Int) ≤ 4 := by omega
      simp [h2, h3']
      exact fin_val rfl (by simp [PropsOk, this, h3]) (by simp)
open Classical in
theorem propsOk_c (l : List Pr) (hl : ln l) (hf : ∀ x ∈ l, x.fit) : Rv Try.prog 112 [.imm (l.map sP.I)] (.b (decide (PropsOk l))) := by
  refine via_impl_propsOk (by simp) ?_
  by_cases h4 : 4 < l.length
  · have h4' : (4 : Int) < l.length := by omega
    simp [pc_impl_propsOk, h4']
    have : ¬ PropsOk l := fun h => by have := h.2; omega
    exact fin_val rfl (by simp [this]) (by simp)
  · have h4' : ¬ (4 : Int) < l.length := by omega
    simp [pc_impl_propsOk, h4']
    refine W_for (fun i => ⟨[(10, .i .i64 i), (9, .i .i64 l.length), (8, .imm (l.map sP.I)), (0, .imm (l.map sP.I))], [], 0, 0⟩) l.length (EachTo prOk Pr.name l) (Wk.less rfl (by simp) (by simp) (by simp)) .zero ?_
    intro i hi hv
    rcases Nat.lt_or_ge i l.length with h1 | h1
    · obtain ⟨⟨nm, v⟩, hx⟩ : ∃ x, l[i]? = some x := ⟨_, List.getElem?_eq_getElem h1⟩
      have hw : IntKind.i64.wrap ((i : Int) + 1) = (i : Int) + 1 := wrap1 (by omega)
      have hfx := hf _ (List.mem_of_getElem? hx)
      obtain ⟨hf1, hf2⟩ := hfx
      simp only at hf1 hf2
      obtain ⟨k, n, s, l'⟩ := v
      simp [-getElem?_pos, hx, hw, h1]
      refine callK_val (by simp) (NameOk_c nm hf1) rfl ?_
      by_cases ho : nameOk nm = true
      · simp [-getElem?_pos, hx, hw, h1, ho]
        refine callK_val (by simp) (storable_c (.mk k n s l') hf2) rfl ?_
        by_cases hvo : sto (.mk k n s l') = true
        · have hok : prOk ⟨nm, .mk k n s l'⟩ = true := by simp [prOk, ho, hvo]
          by_cases h0 : 0 < i
          · obtain ⟨⟨nm', v'⟩, hy⟩ : ∃ y, l[i - 1]? = some y := ⟨_, List.getElem?_eq_getElem (by omega)⟩
            have hb := wback h0 (by omega)
            by_cases hlt : Op.bytesLess nm' nm = true
            · simp [-getElem?_pos, hx, hw, h1, ho, h0, hb, hy, hlt, hvo]
              refine ⟨hv.succ hx hok fun z _ hz => ?_, Wk.to rfl (by simp) (by simp) (by simp) (by simp)⟩
              rw [hy] at hz; simp at hz; subst hz; exact hlt
            · simp [-getElem?_pos, hx, hw, h1, ho, h0, hb, hy, hlt, hvo]
              have : ¬ PropsOk l := fun h => hlt ((h.1 i _ hx).2 _ h0 hy)
              exact fin_val rfl (by simp [this]) (by simp)
          · obtain rfl : i = 0 := by omega
            simp [-getElem?_pos, hx, hw, h1, ho, hvo]
            exact ⟨hv.succ hx hok fun z h _ => by omega, Wk.to rfl (by simp) (by simp) (by simp) (by simp)⟩
        · simp [-getElem?_pos, hx, hw, h1, ho, hvo]
          have : ¬ PropsOk l := fun h => by have := (h.1 i _ hx).1; simp [prOk, hvo] at this
          exact fin_val rfl (by simp [this]) (by simp)
      · simp [-getElem?_pos, hx, hw, h1, ho]
        have : ¬ PropsOk l := fun h => by have := (h.1 i _ hx).1; simp [prOk, ho] at this
        exact fin_val rfl (by simp [this]) (by simp)
    · have h2 : ¬ i < l.length := by omega
      have := hv.all h1
      simp [h2]
      exact fin_val rfl (by simp [PropsOk, this]; omega) (by simp)
end Go.Proofs.Ytehdfbhfbidadaa.V
/- Graphs that are ok. -/
namespace Go.Proofs.Ytehdfbhfbidadaa.V
open Go
set_option linter.unusedVariables false
set_option linter.unusedSimpArgs false
set_option maxHeartbeats 8000000
/-! ### places by number -/
section
variable {α : Type} (f : α → Int)
def posOf (id : Int) (l : List α) : Int := match l.findIdx? (fun x => decide (f x = id)) with | some i => (i : Int) | none => -1
variable {f}
theorem posOf_at {id : Int} {l : List α} {i : Nat} {x : α} (hx : l[i]? = some x) (h : f x = id) (hn : ∀ j y, j < i → l[j]? = some y → f y ≠ id) : posOf f id l = i := by
  unfold posOf
  have : l.findIdx? (fun x => decide (f x = id)) = some i := by
    rw [List.findIdx?_eq_some_iff_getElem]
    obtain ⟨hi, rfl⟩ := List.getElem?_eq_some_iff.1 hx
    exact ⟨hi, by simpa using h, fun j hj => by simpa using hn j _ hj (List.getElem?_eq_getElem (by omega))⟩
  rw [this]
theorem posOf_none {id : Int} {l : List α} (h : ∀ (j : Nat) (y : α), l[j]? = some y → f y ≠ id) : posOf f id l = -1 := by
  unfold posOf
  have : l.findIdx? (fun x => decide (f x = id)) = none := by
    rw [List.findIdx?_eq_none_iff]
    intro x hx
    obtain ⟨j, hj⟩ := List.mem_iff_getElem?.1 hx
    simpa using h j x hj
  rw [this]
theorem posOf_cases (f : α → Int) (id : Int) (l : List α) : (∃ (i : Nat) (x : α), posOf f id l = i ∧ l[i]? = some x ∧ f x = id ∧ ∀ j y, j < i → l[j]? = some y → f y ≠ id) ∨ (posOf f id l = -1 ∧ ∀ x ∈ l, f x ≠ id) := by
  cases h : l.findIdx? (fun x => decide (f x = id)) with
  | none =>
    right
    refine ⟨by unfold posOf; rw [h], fun x hx => ?_⟩
    rw [List.findIdx?_eq_none_iff] at h
    simpa using h x hx
  | some i =>
    left
    rw [List.findIdx?_eq_some_iff_getElem] at h
    obtain ⟨hi, h1, h2⟩ := h
    refine ⟨i, l[i], ?_, List.getElem?_eq_getElem hi, by simpa using h1, fun j y hj hy => ?_⟩
    · exact posOf_at (List.getElem?_eq_getElem hi) (by simpa using h1) (fun j y hj hy => by
        obtain ⟨hj', rfl⟩ := List.getElem?_eq_some_iff.1 hy
        simpa using h2 j hj)
    · obtain ⟨hj', rfl⟩ := List.getElem?_eq_some_iff.1 hy
      simpa using h2 j hj
end
theorem l2Node_c (g : Gr) (hl : ln g.nodes) (id : Int) : Rv Try.prog 86 [.agg (sG.I g), .i .i64 id] (.i .i64 (posOf Nd.id id g.nodes)) := by
  obtain ⟨l, es, nn, ne⟩ := g
  simp only at hl ⊢
  refine via_spec_l2Node (by simp) ?_
  simp [pc_spec_l2Node]
  refine W_for (fun i => ⟨[(5, .i .i64 i), (2, .ptr 0 0 0), (1, .i .i64 id)], [(0, .arr 4 [sG.I ⟨l, es, nn, ne⟩])], 1, 0⟩) l.length (fun i => ∀ j y, j < i → l[j]? = some y → y.id ≠ id) (Wk.less rfl (by simp) (by simp) (by simp)) (by simp) ?_
  intro i hi hv
  rcases Nat.lt_or_ge i l.length with h1 | h1
  · obtain ⟨⟨a, b, c⟩, hx⟩ : ∃ x, l[i]? = some x := ⟨_, List.getElem?_eq_getElem h1⟩
    have hw : IntKind.i64.wrap ((i : Int) + 1) = (i : Int) + 1 := wrap1 (by omega)
    by_cases h : a = id
    · simp [-getElem?_pos, hx, hw, h1, h]
      exact fin_val rfl (by simp [posOf_at (f := Nd.id) hx h hv]) (by simp)
    · simp [-getElem?_pos, hx, hw, h1, h]
      refine ⟨fun j y hj hy => ?_, Wk.to1 rfl (by simp) (by simp) (by simp) (by simp) (by omega)⟩
      rcases Nat.lt_or_ge j i with h6 | h6
      · exact hv j y h6 hy
      · obtain rfl : j = i := by omega
        rw [hx] at hy; simp at hy; subst hy; exact h
  · have h2 : ¬ i < l.length := by omega
    simp [h2]
    refine fin_val rfl ?_ (by simp)
    rw [posOf_none fun j y hy => hv j y (by have := (List.getElem?_eq_some_iff.1 hy).1; omega) hy]
    simp
theorem nodesOf1_c (n : Nd) : Rv Try.prog 158 [.agg (sN.I n)] (.i .i64 n.id) := by
  obtain ⟨a, b, c⟩ := n
  refine via_impl_nodesOf_1 (by simp) ?_
  simp [pc_impl_nodesOf_1]
  exact fin_val rfl (by simp) (by simp)
theorem edgesIn1_c (n : Eg) : Rv Try.prog 175 [.agg (sE.I n)] (.i .i64 n.id) := by
  obtain ⟨a, b, c, d, e⟩ := n
  refine via_impl_edgesIn_1 (by simp) ?_
  simp [pc_impl_edgesIn_1]
  exact fin_val rfl (by simp) (by simp)
theorem nodesOf_v (a b : T) (ha : a.cell = true) (hb : b.cell = true) (nn ne : Int) : Vw Try.prog 97 [.agg [a, b, .i .i64 nn, .i .i64 ne]] [] (.agg [a, .fn 158 []]) := by
  obtain ⟨N, hN⟩ : ∃ N, ∀ x ∈ a.names ++ b.names, x < N := by
    have : ∀ l : List Nat, ∃ N, ∀ x ∈ l, x < N := by
      intro l
      induction l with
      | nil => exact ⟨0, by simp⟩
      | cons y l ih =>
        obtain ⟨N, hN⟩ := ih
        refine ⟨max N (y + 1), fun x hx => ?_⟩
        rcases List.mem_cons.1 hx with rfl | hx
        · omega
        · have := hN x hx; omega
    exact this _
  refine see_impl_nodesOf N (by simp) (by simpa using hN) (by simp; intro x hx; exact .inl hx) (by simp) (by simp) ?_
  have m1 : ∀ n, mat a n = (a, []) := fun n => by cases a <;> simp [T.cell] at ha <;> simp
  have c1 : a.cells = [a] := by cases a <;> simp [T.cell] at ha <;> rfl
  simp [pc_impl_nodesOf, ha, hb, m1, c1]
  exact fin_view (by simp [ha]; rfl) (by simp) (by simp)
theorem edgesIn_v (a b : T) (ha : a.cell = true) (hb : b.cell = true) (nn ne : Int) : Vw Try.prog 116 [.agg [a, b, .i .i64 nn, .i .i64 ne]] [] (.agg [b, .fn 175 []]) := by
  obtain ⟨N, hN⟩ : ∃ N, ∀ x ∈ a.names ++ b.names, x < N := by
    have : ∀ l : List Nat, ∃ N, ∀ x ∈ l, x < N := by
      intro l
      induction l with
      | nil => exact ⟨0, by simp⟩
      | cons y l ih =>
        obtain ⟨N, hN⟩ := ih
        refine ⟨max N (y + 1), fun x hx => ?_⟩
        rcases List.mem_cons.1 hx with rfl | hx
        · omega
        · have := hN x hx; omega
    exact this _
  refine see_impl_edgesIn N (by simp) (by simpa using hN) (by simp; intro x hx; exact .inr hx) (by simp) (by simp) ?_
  have m1 : ∀ n, mat b n = (b, []) := fun n => by cases b <;> simp [T.cell] at hb <;> simp
  have c1 : b.cells = [b] := by cases b <;> simp [T.cell] at hb <;> rfl
  simp [pc_impl_edgesIn, ha, hb, m1, c1]
  exact fin_view (by simp [hb]; rfl) (by simp) (by simp)
/-! ### numbers ascending -/
def AscTo {α : Type} (f : α → Int) (e : Int) (l : List α) (n : Nat) : Prop := ∀ (i : Nat) (x : α), i < n → l[i]? = some x → 0 ≤ f x ∧ f x < e ∧ ∀ y, 0 < i → l[i - 1]? = some y → f y < f x
def Asc {α : Type} (f : α → Int) (e : Int) (l : List α) : Prop := ∀ (i : Nat) (x : α), l[i]? = some x → 0 ≤ f x ∧ f x < e ∧ ∀ y, 0 < i → l[i - 1]? = some y → f y < f x
/-- The number ahead of a place; less than nothing at the first. -/
def ahd {α : Type} (f : α → Int) (l : List α) (i : Nat) : Int := if i = 0 then -1 else match l[i - 1]? with | some y => f y | none => -1
theorem AscTo.all {α : Type} {f : α → Int} {e : Int} {l : List α} {n : Nat} (h : AscTo f e l n) (hn : l.length ≤ n) : Asc f e l :=
  fun i x hx => h i x (by have := (List.getElem?_eq_some_iff.1 hx).1; omega) hx
theorem AscTo.succ {α : Type} {f : α → Int} {e : Int} {l : List α} {n : Nat} {x : α} (h : AscTo f e l n) (hx : l[n]? = some x) (h1 : ahd f l n < f x) (h2 : f x < e) : AscTo f e l (n + 1) := by
  intro i z hi hz
  rcases Nat.lt_or_ge i n with h3 | h3
  · exact h i z h3 hz
  · obtain rfl : i = n := by omega
    rw [hx] at hz; simp at hz; subst hz
    unfold ahd at h1
    by_cases h0 : i = 0
    · rw [if_pos h0] at h1
      exact ⟨by omega, h2, fun y hy => by omega⟩
    · rw [if_neg h0] at h1
      have hi := (List.getElem?_eq_some_iff.1 hx).1
      have hy : l[i - 1]? = some (l[i - 1]'(by omega)) := List.getElem?_eq_getElem (by omega)
      have := (h (i - 1) _ (by omega) hy).1
      rw [hy] at h1
      simp only at h1
      refine ⟨by omega, h2, fun y _ hy' => ?_⟩
      rw [hy] at hy'; simp at hy'; subst hy'; exact h1
theorem Asc.fails {α : Type} {f : α → Int} {e : Int} {l : List α} {n : Nat} {x : α} (hx : l[n]? = some x) (h : f x ≤ ahd f l n ∨ e ≤ f x) : ¬ Asc f e l := by
  intro ha
  obtain ⟨h1, h2, h3⟩ := ha n x hx
  rcases h with h | h
  · unfold ahd at h
    by_cases h0 : n = 0
    · rw [if_pos h0] at h; omega
    · rw [if_neg h0] at h
      have hi := (List.getElem?_eq_some_iff.1 hx).1
      have hy : l[n - 1]? = some (l[n - 1]'(by omega)) := List.getElem?_eq_getElem (by omega)
      rw [hy] at h
      have := h3 _ (by omega) hy
      simp only at h
      omega
  · omega
theorem ahd_succ {α : Type} {f : α → Int} {l : List α} {n : Nat} {x : α} (hx : l[n]? = some x) : ahd f l (n + 1) = f x := by
  unfold ahd; simp [hx]
open Classical in
theorem ascendN_c (l : List Nd) (hl : l.length ≤ 9223372036854775806) (e : Int) : Rv Try.prog 115 [.agg [.imm (l.map sN.I), .fn 158 []], .i .i64 e] (.b (decide (Asc Nd.id e l))) := by
  have hok : okCall Try.prog 158 = true := by kernel_rfl
  refine via_impl_numbered_impl_Node_ascend (by simp) ?_
  simp [pc_impl_numbered_impl_Node_ascend]
  refine W_for (fun i => ⟨[(12, .i .i64 i), (11, .i .i64 l.length), (10, .imm (l.map sN.I)), (5, .i .i64 (ahd Nd.id l i)), (2, .ptr 0 0 0), (1, .i .i64 e)], [(0, .arr 2 [[.imm (l.map sN.I), .fn 158 []]])], 1, 0⟩) l.length (AscTo Nd.id e l) (Wk.less rfl (by simp) (by simp [ahd]) (by simp)) (fun i x h => by omega) ?_
  intro i hi hv
  rcases Nat.lt_or_ge i l.length with h1 | h1
  · obtain ⟨⟨a, b, c⟩, hx⟩ : ∃ x, l[i]? = some x := ⟨_, List.getElem?_eq_getElem h1⟩
    have hw : IntKind.i64.wrap ((i : Int) + 1) = (i : Int) + 1 := wrap1 (by omega)
    have ha := ahd_succ (f := Nd.id) hx
    simp [-getElem?_pos, hx, hw, h1, hok]
    refine callK_val (by simp) (nodesOf1_c ⟨a, b, c⟩) rfl ?_
    by_cases h2 : a ≤ ahd Nd.id l i
    · simp [-getElem?_pos, hx, hw, h1, h2]
      exact fin_val rfl (by simp [Asc.fails (f := Nd.id) hx (.inl h2)]) (by simp)
    · by_cases h3 : e ≤ a
      · simp [-getElem?_pos, hx, hw, h1, h2, h3]
        exact fin_val rfl (by simp [Asc.fails (f := Nd.id) hx (.inr h3)]) (by simp)
      · simp [-getElem?_pos, hx, hw, h1, h2, h3]
        exact ⟨hv.succ hx (by simp only; omega) (by simp only; omega), Wk.to rfl (by simp) (by simp [ha]) (by simp [Blk.names]) (by simp)⟩
  · have h2 : ¬ i < l.length := by omega
    simp [h2]
    exact fin_val rfl (by simp [hv.all h1]) (by simp)
theorem placeN_c (l : List Nd) (hl : l.length ≤ 9223372036854775806) (id : Int) : Rv Try.prog 98 [.agg [.imm (l.map sN.I), .fn 158 []], .i .i64 id] (.i .i64 (posOf Nd.id id l)) := by
  have hok : okCall Try.prog 158 = true := by kernel_rfl
  refine via_impl_numbered_impl_Node_place (by simp) ?_
  simp [pc_impl_numbered_impl_Node_place]
  refine W_for (fun i => ⟨[(10, .i .i64 i), (9, .i .i64 l.length), (8, .imm (l.map sN.I)), (2, .ptr 0 0 0), (1, .i .i64 id)], [(0, .arr 2 [[.imm (l.map sN.I), .fn 158 []]])], 1, 0⟩) l.length (fun i => ∀ j y, j < i → l[j]? = some y → y.id ≠ id) (Wk.less rfl (by simp) (by simp) (by simp)) (by simp) ?_
  intro i hi hv
  rcases Nat.lt_or_ge i l.length with h1 | h1
  · obtain ⟨⟨a, b, c⟩, hx⟩ : ∃ x, l[i]? = some x := ⟨_, List.getElem?_eq_getElem h1⟩
    have hw : IntKind.i64.wrap ((i : Int) + 1) = (i : Int) + 1 := wrap1 (by omega)
    simp [-getElem?_pos, hx, hw, h1, hok]
    refine callK_val (by simp) (nodesOf1_c ⟨a, b, c⟩) rfl ?_
    by_cases h : a = id
    · simp [-getElem?_pos, hx, hw, h1, h]
      exact fin_val rfl (by simp [posOf_at (f := Nd.id) hx h hv]) (by simp)
    · simp [-getElem?_pos, hx, hw, h1, h]
      refine ⟨fun j y hj hy => ?_, Wk.to rfl (by simp) (by simp) (by simp [Blk.names]) (by simp)⟩
      rcases Nat.lt_or_ge j i with h6 | h6
      · exact hv j y h6 hy
      · obtain rfl : j = i := by omega
        rw [hx] at hy; simp at hy; subst hy; exact h
  · have h2 : ¬ i < l.length := by omega
    simp [h2]
    refine fin_val rfl ?_ (by simp)
    rw [posOf_none fun j y hy => hv j y (by have := (List.getElem?_eq_some_iff.1 hy).1; omega) hy]
    simp
open Classical in
theorem ascendE_c (l : List Eg) (hl : l.length ≤ 9223372036854775806) (e : Int) : Rv Try.prog 117 [.agg [.imm (l.map sE.I), .fn 175 []], .i .i64 e] (.b (decide (Asc Eg.id e l))) := by
  have hok : okCall Try.prog 175 = true := by kernel_rfl
  refine via_impl_numbered_impl_Edge_ascend (by simp) ?_
  simp [pc_impl_numbered_impl_Edge_ascend]
  refine W_for (fun i => ⟨[(12, .i .i64 i), (11, .i .i64 l.length), (10, .imm (l.map sE.I)), (5, .i .i64 (ahd Eg.id l i)), (2, .ptr 0 0 0), (1, .i .i64 e)], [(0, .arr 2 [[.imm (l.map sE.I), .fn 175 []]])], 1, 0⟩) l.length (AscTo Eg.id e l) (Wk.less rfl (by simp) (by simp [ahd]) (by simp)) (fun i x h => by omega) ?_
  intro i hi hv
  rcases Nat.lt_or_ge i l.length with h1 | h1
  · obtain ⟨⟨a, b, c, d, p⟩, hx⟩ : ∃ x, l[i]? = some x := ⟨_, List.getElem?_eq_getElem h1⟩
    have hw : IntKind.i64.wrap ((i : Int) + 1) = (i : Int) + 1 := wrap1 (by omega)
    have ha := ahd_succ (f := Eg.id) hx
    simp [-getElem?_pos, hx, hw, h1, hok]
    refine callK_val (by simp) (edgesIn1_c ⟨a, b, c, d, p⟩) rfl ?_
    by_cases h2 : a ≤ ahd Eg.id l i
    · simp [-getElem?_pos, hx, hw, h1, h2]
      exact fin_val rfl (by simp [Asc.fails (f := Eg.id) hx (.inl h2)]) (by simp)
    · by_cases h3 : e ≤ a
      · simp [-getElem?_pos, hx, hw, h1, h2, h3]
        exact fin_val rfl (by simp [Asc.fails (f := Eg.id) hx (.inr h3)]) (by simp)
      · simp [-getElem?_pos, hx, hw, h1, h2, h3]
        exact ⟨hv.succ hx (by simp only; omega) (by simp only; omega), Wk.to rfl (by simp) (by simp [ha]) (by simp [Blk.names]) (by simp)⟩
  · have h2 : ¬ i < l.length := by omega
    simp [h2]
    exact fin_val rfl (by simp [hv.all h1]) (by simp)
theorem placeE_c (l : List Eg) (hl : l.length ≤ 9223372036854775806) (id : Int) : Rv Try.prog 170 [.agg [.imm (l.map sE.I), .fn 175 []], .i .i64 id] (.i .i64 (posOf Eg.id id l)) := by
  have hok : okCall Try.prog 175 = true := by kernel_rfl
  refine via_impl_numbered_impl_Edge_place (by simp) ?_
  simp [pc_impl_numbered_impl_Edge_place]
  refine W_for (fun i => ⟨[(10, .i .i64 i), (9, .i .i64 l.length), (8, .imm (l.map sE.I)), (2, .ptr 0 0 0), (1, .i .i64 id)], [(0, .arr 2 [[.imm (l.map sE.I), .fn 175 []]])], 1, 0⟩) l.length (fun i => ∀ j y, j < i → l[j]? = some y → y.id ≠ id) (Wk.less rfl (by simp) (by simp) (by simp)) (by simp) ?_
  intro i hi hv
  rcases Nat.lt_or_ge i l.length with h1 | h1
  · obtain ⟨⟨a, b, c, d, p⟩, hx⟩ : ∃ x, l[i]? = some x := ⟨_, List.getElem?_eq_getElem h1⟩
    have hw : IntKind.i64.wrap ((i : Int) + 1) = (i : Int) + 1 := wrap1 (by omega)
    simp [-getElem?_pos, hx, hw, h1, hok]
    refine callK_val (by simp) (edgesIn1_c ⟨a, b, c, d, p⟩) rfl ?_
    by_cases h : a = id
    · simp [-getElem?_pos, hx, hw, h1, h]
      exact fin_val rfl (by simp [posOf_at (f := Eg.id) hx h hv]) (by simp)
    · simp [-getElem?_pos, hx, hw, h1, h]
      refine ⟨fun j y hj hy => ?_, Wk.to rfl (by simp) (by simp) (by simp [Blk.names]) (by simp)⟩
      rcases Nat.lt_or_ge j i with h6 | h6
      · exact hv j y h6 hy
      · obtain rfl : j = i := by omega
        rw [hx] at hy; simp at hy; subst hy; exact h
  · have h2 : ¬ i < l.length := by omega
    simp [h2]
    refine fin_val rfl ?_ (by simp)
    rw [posOf_none fun j y hy => hv j y (by have := (List.getElem?_eq_some_iff.1 hy).1; omega) hy]
    simp
end Go.Proofs.Ytehdfbhfbidadaa.V
/- Graphs that are ok: the program's and the reference's word. -/
namespace Go.Proofs.Ytehdfbhfbidadaa.V
open Go
set_option linter.unusedVariables false
set_option linter.unusedSimpArgs false
set_option maxHeartbeats 16000000
structure GOk (g : Gr) : Prop where
  nn : 0 ≤ g.nn ∧ g.nn ≤ 1000000000
  ne : 0 ≤ g.ne ∧ g.ne ≤ 1000000000
  nl : g.nodes.length ≤ 12
  el : g.edges.length ≤ 16
  na : Asc Nd.id g.nn g.nodes
  ea : Asc Eg.id g.ne g.edges
  nok : ∀ x ∈ g.nodes, LabelsOk x.labels ∧ PropsOk x.props
  eok : ∀ x ∈ g.edges, nameOk x.kind = true ∧ PropsOk x.props ∧ 0 ≤ posOf Nd.id x.frm g.nodes ∧ 0 ≤ posOf Nd.id x.to g.nodes
/-- Up to a place. -/
def To {α : Type} (C : α → Prop) (l : List α) (n : Nat) : Prop := ∀ (i : Nat) (x : α), i < n → l[i]? = some x → C x
theorem To.zero {α : Type} {C : α → Prop} {l : List α} : To C l 0 := fun i x h => by omega
theorem To.succ {α : Type} {C : α → Prop} {l : List α} {n : Nat} {x : α} (h : To C l n) (hx : l[n]? = some x) (h1 : C x) : To C l (n + 1) := by
  intro i z hi hz
  rcases Nat.lt_or_ge i n with h3 | h3
  · exact h i z h3 hz
  · obtain rfl : i = n := by omega
    rw [hx] at hz; simp at hz; subst hz; exact h1
theorem To.all {α : Type} {C : α → Prop} {l : List α} {n : Nat} (h : To C l n) (hn : l.length ≤ n) : ∀ x ∈ l, C x := by
  intro x hx
  obtain ⟨j, hj⟩ := List.mem_iff_getElem?.1 hx
  exact h j x (by have := (List.getElem?_eq_some_iff.1 hj).1; omega) hj
open Classical in
theorem GraphOk_c (g : Gr) (hf : g.fit) : Rv Try.prog 50 [.agg (sG.I g)] (.b (decide (GOk g))) := by
  have ok1 : okCall Try.prog 97 = true := by kernel_rfl
  have ok2 : okCall Try.prog 116 = true := by kernel_rfl
  obtain ⟨l, es, nn, ne⟩ := g
  obtain ⟨hl, hl', he, he', hn1, hn2⟩ := hf
  simp only at hl hl' he he' hn1 hn2
  refine via_impl_GraphOk (by simp) ?_
  by_cases h1 : nn < 0
  · simp [pc_impl_GraphOk, h1]
    exact fin_val rfl (by simp [show ¬ GOk ⟨l, es, nn, ne⟩ from fun h => by have := h.nn; simp only at this; omega]) (by simp)
  by_cases h2 : 1000000000 < nn
  · simp [pc_impl_GraphOk, h1, h2]
    exact fin_val rfl (by simp [show ¬ GOk ⟨l, es, nn, ne⟩ from fun h => by have := h.nn; simp only at this; omega]) (by simp)
  by_cases h3 : ne < 0
  · simp [pc_impl_GraphOk, h1, h2, h3]
    exact fin_val rfl (by simp [show ¬ GOk ⟨l, es, nn, ne⟩ from fun h => by have := h.ne; simp only at this; omega]) (by simp)
  by_cases h4 : 1000000000 < ne
  · simp [pc_impl_GraphOk, h1, h2, h3, h4]
    exact fin_val rfl (by simp [show ¬ GOk ⟨l, es, nn, ne⟩ from fun h => by have := h.ne; simp only at this; omega]) (by simp)
  by_cases h5 : 12 < (l.length : Int)
  · simp [pc_impl_GraphOk, h1, h2, h3, h4, h5]
    exact fin_val rfl (by simp [show ¬ GOk ⟨l, es, nn, ne⟩ from fun h => by have := h.nl; simp only at this; omega]) (by simp)
  by_cases h6 : 16 < (es.length : Int)
  · simp [pc_impl_GraphOk, h1, h2, h3, h4, h5, h6]
    exact fin_val rfl (by simp [show ¬ GOk ⟨l, es, nn, ne⟩ from fun h => by have := h.el; simp only at this; omega]) (by simp)
  simp [pc_impl_GraphOk, h1, h2, h3, h4, h5, h6]
  refine hookH_view (nodesOf_v (.imm (l.map sN.I)) (.imm (es.map sE.I)) rfl rfl nn ne) rfl ok1 (by simp) ?_
  simp
  refine callK_val (by simp) (ascendN_c l (by omega) nn) rfl ?_
  by_cases h7 : Asc Nd.id nn l
  · simp [h7]
    refine hookH_view (edgesIn_v (.imm (l.map sN.I)) (.imm (es.map sE.I)) rfl rfl nn ne) rfl ok2 (by simp) ?_
    simp [h7]
    refine callK_val (by simp) (ascendE_c es (by omega) ne) rfl ?_
    by_cases h8 : Asc Eg.id ne es
    · simp [h7, h8]
      refine W_for (fun i => ⟨[(54, .i .i64 i), (53, .i .i64 l.length), (52, .imm (l.map sN.I)), (1, .ptr 0 0 0), (3, .ptr 1 0 0)], [(0, .arr 4 [sG.I ⟨l, es, nn, ne⟩]), (1, .arr 2 [[.imm (l.map sN.I), .fn 158 []]])], 107, 0⟩) l.length (To (fun x : Nd => LabelsOk x.labels ∧ PropsOk x.props) l) (Wk.less rfl (by simp) (by simp) (by simp)) .zero ?_
      intro i hi hv
      rcases Nat.lt_or_ge i l.length with hlt | hge
      · obtain ⟨⟨a, b, c⟩, hx⟩ : ∃ x, l[i]? = some x := ⟨_, List.getElem?_eq_getElem hlt⟩
        have hw : IntKind.i64.wrap ((i : Int) + 1) = (i : Int) + 1 := wrap1 (by omega)
        obtain ⟨_, f1, f2, f3, f4⟩ := hl' _ (List.mem_of_getElem? hx)
        simp only at f1 f2 f3 f4
        simp [-getElem?_pos, hx, hw, hlt]
        refine callK_val (by simp) (labelsOk_c b f1 f2) rfl ?_
        by_cases g1 : LabelsOk b
        · simp [-getElem?_pos, hx, hw, hlt, g1]
          refine callK_val (by simp) (propsOk_c c f3 f4) rfl ?_
          by_cases g2 : PropsOk c
          · simp [-getElem?_pos, hx, hw, hlt, g1, g2]
            exact ⟨hv.succ hx ⟨g1, g2⟩, Wk.to rfl (by simp) (by simp) (by simp [Blk.names]) (by simp)⟩
          · simp [-getElem?_pos, hx, hw, hlt, g1, g2]
            exact fin_val rfl (by simp [show ¬ GOk ⟨l, es, nn, ne⟩ from fun h => g2 (h.nok _ (List.mem_of_getElem? hx)).2]) (by simp)
        · simp [-getElem?_pos, hx, hw, hlt, g1]
          exact fin_val rfl (by simp [show ¬ GOk ⟨l, es, nn, ne⟩ from fun h => g1 (h.nok _ (List.mem_of_getElem? hx)).1]) (by simp)
      · have hnlt : ¬ i < l.length := by omega
        have hnok := hv.all hge
        simp [hnlt]
        refine W_for (fun i => ⟨[(72, .i .i64 i), (71, .i .i64 es.length), (70, .imm (es.map sE.I)), (1, .ptr 0 0 0), (3, .ptr 1 0 0)], [(0, .arr 4 [sG.I ⟨l, es, nn, ne⟩]), (1, .arr 2 [[.imm (l.map sN.I), .fn 158 []]])], 107, 0⟩) es.length (To (fun x : Eg => nameOk x.kind = true ∧ PropsOk x.props ∧ 0 ≤ posOf Nd.id x.frm l ∧ 0 ≤ posOf Nd.id x.to l) es) (Wk.less rfl (by simp) (by simp) (by simp)) .zero ?_
        intro i hi hv
        rcases Nat.lt_or_ge i es.length with hlt | hge
        · obtain ⟨⟨a, k, b, c, p⟩, hx⟩ : ∃ x, es[i]? = some x := ⟨_, List.getElem?_eq_getElem hlt⟩
          have hw : IntKind.i64.wrap ((i : Int) + 1) = (i : Int) + 1 := wrap1 (by omega)
          obtain ⟨_, f1, _, _, f3, f4⟩ := he' _ (List.mem_of_getElem? hx)
          simp only at f1 f3 f4
          have no : ¬ (nameOk k = true ∧ PropsOk p ∧ 0 ≤ posOf Nd.id b l ∧ 0 ≤ posOf Nd.id c l) → ¬ GOk ⟨l, es, nn, ne⟩ := fun h h2 => h (h2.eok _ (List.mem_of_getElem? hx))
          simp [-getElem?_pos, hx, hw, hlt]
          refine callK_val (by simp) (NameOk_c k f1) rfl ?_
          by_cases g1 : nameOk k = true
          · simp [-getElem?_pos, hx, hw, hlt, g1]
            refine callK_val (by simp) (propsOk_c p f3 f4) rfl ?_
            by_cases g2 : PropsOk p
            · simp [-getElem?_pos, hx, hw, hlt, g1, g2]
              refine callK_val (by simp) (placeN_c l (by omega) b) rfl ?_
              by_cases g3 : posOf Nd.id b l < 0
              · simp [-getElem?_pos, hx, hw, hlt, g1, g2, g3]
                exact fin_val rfl (by simp [no (by omega)]) (by simp)
              · simp [-getElem?_pos, hx, hw, hlt, g1, g2, g3]
                refine callK_val (by simp) (placeN_c l (by omega) c) rfl ?_
                by_cases g4 : posOf Nd.id c l < 0
                · simp [-getElem?_pos, hx, hw, hlt, g1, g2, g3, g4]
                  exact fin_val rfl (by simp [no (by omega)]) (by simp)
                · simp [-getElem?_pos, hx, hw, hlt, g1, g2, g3, g4]
                  exact ⟨hv.succ hx ⟨g1, g2, by simp only; omega, by simp only; omega⟩, Wk.to rfl (by simp) (by simp) (by simp [Blk.names]) (by simp)⟩
            · simp [-getElem?_pos, hx, hw, hlt, g1, g2]
              exact fin_val rfl (by simp [no (fun h => g2 h.2.1)]) (by simp)
          · simp [-getElem?_pos, hx, hw, hlt, g1]
            exact fin_val rfl (by simp [no (fun h => g1 h.1)]) (by simp)
        · have hnlt : ¬ i < es.length := by omega
          have heok := hv.all hge
          simp [hnlt]
          have : GOk ⟨l, es, nn, ne⟩ := ⟨by simp only; omega, by simp only; omega, by simp only; omega, by simp only; omega, h7, h8, hnok, heok⟩
          exact fin_val rfl (by simp [this]) (by simp)
    · simp [h7, h8]
      exact fin_val rfl (by simp [show ¬ GOk ⟨l, es, nn, ne⟩ from fun h => h8 h.ea]) (by simp)
  · simp [h7]
    exact fin_val rfl (by simp [show ¬ GOk ⟨l, es, nn, ne⟩ from fun h => h7 h.na]) (by simp)
theorem Asc.mono {α : Type} {f : α → Int} {e e' : Int} {l : List α} (h : Asc f e l) (he : e ≤ e') : Asc f e' l := fun i x hx => by
  obtain ⟨h1, h2, h3⟩ := h i x hx
  exact ⟨h1, by omega, h3⟩
/-- Between 0 and one less, behind the one ahead. -/
def Stp {α : Type} (f : α → Int) (e : Int) (l : List α) (i : Nat) (x : α) : Prop := 0 ≤ f x ∧ f x ≤ e ∧ ∀ y, 0 < i → l[i - 1]? = some y → f y < f x
def ToI {α : Type} (C : Nat → α → Prop) (l : List α) (n : Nat) : Prop := ∀ (i : Nat) (x : α), i < n → l[i]? = some x → C i x
theorem ToI.zero {α : Type} {C : Nat → α → Prop} {l : List α} : ToI C l 0 := fun i x h => by omega
theorem ToI.succ {α : Type} {C : Nat → α → Prop} {l : List α} {n : Nat} {x : α} (h : ToI C l n) (hx : l[n]? = some x) (h1 : C n x) : ToI C l (n + 1) := by
  intro i z hi hz
  rcases Nat.lt_or_ge i n with h3 | h3
  · exact h i z h3 hz
  · obtain rfl : i = n := by omega
    rw [hx] at hz; simp at hz; subst hz; exact h1
theorem ToI.all {α : Type} {C : Nat → α → Prop} {l : List α} {n : Nat} (h : ToI C l n) (hn : l.length ≤ n) : ∀ (i : Nat) (x : α), l[i]? = some x → C i x :=
  fun i x hx => h i x (by have := (List.getElem?_eq_some_iff.1 hx).1; omega) hx
open Classical in
theorem specGraphOk_c (g : Gr) (hf : g.fit) : Rv Try.prog 34 [.agg (sG.I g)] (.b (decide (GOk g))) := by
  obtain ⟨l, es, nn, ne⟩ := g
  obtain ⟨hl, hl', he, he', hn1, hn2⟩ := hf
  simp only at hl hl' he he' hn1 hn2
  have q1 : GOk ⟨l, es, nn, ne⟩ → IntKind.i64.wrap (nn - 1) = nn - 1 := fun h => wrap64 (by have := h.nn; simp only at this; omega) (by have := h.nn; simp only at this; omega)
  have q2 : GOk ⟨l, es, nn, ne⟩ → IntKind.i64.wrap (ne - 1) = ne - 1 := fun h => wrap64 (by have := h.ne; simp only at this; omega) (by have := h.ne; simp only at this; omega)
  refine via_spec_GraphOk (by simp) ?_
  have nN : ∀ (i : Nat) (x : Nd), l[i]? = some x → ¬ (Stp Nd.id (IntKind.i64.wrap (nn - 1)) l i x ∧ LabelsOk x.labels ∧ PropsOk x.props) → ¬ GOk ⟨l, es, nn, ne⟩ := by
    intro i x hx h hg
    refine h ⟨?_, hg.nok x (List.mem_of_getElem? hx)⟩
    obtain ⟨a1, a2, a3⟩ := hg.na i x hx
    rw [q1 hg]
    exact ⟨a1, by simp only at a2; omega, a3⟩
  have nE : ∀ (i : Nat) (x : Eg), es[i]? = some x → ¬ (Stp Eg.id (IntKind.i64.wrap (ne - 1)) es i x ∧ nameOk x.kind = true ∧ PropsOk x.props ∧ 0 ≤ posOf Nd.id x.frm l ∧ 0 ≤ posOf Nd.id x.to l) → ¬ GOk ⟨l, es, nn, ne⟩ := by
    intro i x hx h hg
    refine h ⟨?_, hg.eok x (List.mem_of_getElem? hx)⟩
    obtain ⟨a1, a2, a3⟩ := hg.ea i x hx
    rw [q2 hg]
    exact ⟨a1, by simp only at a2; omega, a3⟩
  generalize hq1 : IntKind.i64.wrap (nn - 1) = w1 at *
  generalize hq2 : IntKind.i64.wrap (ne - 1) = w2 at *
  simp [pc_spec_GraphOk]
  refine W_for (fun i => ⟨[(3, .i .i64 i), (1, .ptr 0 0 0)], [(0, .arr 4 [sG.I ⟨l, es, nn, ne⟩])], 1, 0⟩) l.length (ToI (fun i (x : Nd) => Stp Nd.id w1 l i x ∧ LabelsOk x.labels ∧ PropsOk x.props) l) (Wk.less rfl (by simp) (by simp) (by simp)) .zero ?_
  intro i hi hv
  rcases Nat.lt_or_ge i l.length with hlt | hge
  · obtain ⟨⟨a, b, c⟩, hx⟩ : ∃ x, l[i]? = some x := ⟨_, List.getElem?_eq_getElem hlt⟩
    have hw : IntKind.i64.wrap ((i : Int) + 1) = (i : Int) + 1 := wrap1 (by omega)
    obtain ⟨_, f1, f2, f3, f4⟩ := hl' _ (List.mem_of_getElem? hx)
    simp only at f1 f2 f3 f4
    have no := nN i _ hx
    simp only at no
    simp [-getElem?_pos, hx, hw, hlt, hq1]
    refine callK_val (by simp) (l1In_c a 0 w1) rfl ?_
    by_cases b1 : 0 ≤ a
    · by_cases b2 : a ≤ w1
      · simp [-getElem?_pos, hx, hw, hlt, hq1, b1, b2]
        refine callK_val (by simp) (l2Labels_c b f1 f2) rfl ?_
        by_cases g1 : LabelsOk b
        · simp [-getElem?_pos, hx, hw, hlt, hq1, b1, b2, g1]
          refine callK_val (by simp) (l2Props_c c f3 f4) rfl ?_
          by_cases g2 : PropsOk c
          · by_cases h0 : 0 < i
            · obtain ⟨⟨a', b', c'⟩, hy⟩ : ∃ y, l[i - 1]? = some y := ⟨_, List.getElem?_eq_getElem (by omega)⟩
              have hb := wback h0 (by omega)
              by_cases hlt2 : a ≤ a'
              · simp [-getElem?_pos, hx, hw, hlt, hq1, b1, b2, g1, g2, h0, hb, hy, hlt2]
                exact fin_val rfl (by simp [no (fun h => by have := h.1.2.2 _ h0 hy; simp only at this; omega)]) (by simp)
              · simp [-getElem?_pos, hx, hw, hlt, hq1, b1, b2, g1, g2, h0, hb, hy, hlt2]
                refine ⟨hv.succ hx ⟨⟨b1, b2, fun z _ hz => ?_⟩, g1, g2⟩, Wk.to1 rfl (by simp) (by simp) (by simp) (by simp) (by omega)⟩
                rw [hy] at hz; simp at hz; subst hz; simp only; omega
            · obtain rfl : i = 0 := by omega
              simp [-getElem?_pos, hx, hw, hlt, hq1, b1, b2, g1, g2]
              exact ⟨hv.succ hx ⟨⟨b1, b2, fun z h _ => by omega⟩, g1, g2⟩, Wk.to1 rfl (by simp) (by simp) (by simp) (by simp) (by omega)⟩
          · simp [-getElem?_pos, hx, hw, hlt, hq1, b1, b2, g1, g2]
            exact fin_val rfl (by simp [no (fun h => g2 h.2.2)]) (by simp)
        · simp [-getElem?_pos, hx, hw, hlt, hq1, b1, b2, g1]
          exact fin_val rfl (by simp [no (fun h => g1 h.2.1)]) (by simp)
      · simp [-getElem?_pos, hx, hw, hlt, hq1, b1, b2]
        exact fin_val rfl (by simp [no (fun h => b2 h.1.2.1)]) (by simp)
    · simp [-getElem?_pos, hx, hw, hlt, hq1, b1]
      exact fin_val rfl (by simp [no (fun h => b1 h.1.1)]) (by simp)
  · have hnlt : ¬ i < l.length := by omega
    have hnok := hv.all hge
    simp [hnlt]
    refine W_for (fun i => ⟨[(5, .i .i64 i), (1, .ptr 0 0 0)], [(0, .arr 4 [sG.I ⟨l, es, nn, ne⟩])], 1, 0⟩) es.length (ToI (fun i (x : Eg) => Stp Eg.id w2 es i x ∧ nameOk x.kind = true ∧ PropsOk x.props ∧ 0 ≤ posOf Nd.id x.frm l ∧ 0 ≤ posOf Nd.id x.to l) es) (Wk.less rfl (by simp) (by simp) (by simp)) .zero ?_
    intro i hi hv
    rcases Nat.lt_or_ge i es.length with hlt | hge
    · obtain ⟨⟨a, k, b, c, p⟩, hx⟩ : ∃ x, es[i]? = some x := ⟨_, List.getElem?_eq_getElem hlt⟩
      have hw : IntKind.i64.wrap ((i : Int) + 1) = (i : Int) + 1 := wrap1 (by omega)
      obtain ⟨_, f1, _, _, f3, f4⟩ := he' _ (List.mem_of_getElem? hx)
      simp only at f1 f3 f4
      have no := nE i _ hx
      simp only at no
      simp [-getElem?_pos, hx, hw, hlt, hq2]
      refine callK_val (by simp) (l1In_c a 0 w2) rfl ?_
      by_cases b1 : 0 ≤ a
      · by_cases b2 : a ≤ w2
        · simp [-getElem?_pos, hx, hw, hlt, hq2, b1, b2]
          refine callK_val (by simp) (l2Name_c k f1) rfl ?_
          by_cases g1 : nameOk k = true
          · simp [-getElem?_pos, hx, hw, hlt, hq2, b1, b2, g1]
            refine callK_val (by simp) (l2Props_c p f3 f4) rfl ?_
            by_cases g2 : PropsOk p
            · simp [-getElem?_pos, hx, hw, hlt, hq2, b1, b2, g1, g2]
              refine callK_val (by simp) (l2Node_c ⟨l, es, nn, ne⟩ hl b) rfl ?_
              by_cases g3 : posOf Nd.id b l < 0
              · simp [-getElem?_pos, hx, hw, hlt, hq2, b1, b2, g1, g2, g3]
                exact fin_val rfl (by simp [no (fun h => by have := h.2.2.2.1; omega)]) (by simp)
              · simp [-getElem?_pos, hx, hw, hlt, hq2, b1, b2, g1, g2, g3]
                refine callK_val (by simp) (l2Node_c ⟨l, es, nn, ne⟩ hl c) rfl ?_
                by_cases g4 : posOf Nd.id c l < 0
                · simp [-getElem?_pos, hx, hw, hlt, hq2, b1, b2, g1, g2, g3, g4]
                  exact fin_val rfl (by simp [no (fun h => by have := h.2.2.2.2; omega)]) (by simp)
                · by_cases h0 : 0 < i
                  · obtain ⟨⟨a', k', b', c', p'⟩, hy⟩ : ∃ y, es[i - 1]? = some y := ⟨_, List.getElem?_eq_getElem (by omega)⟩
                    have hb := wback h0 (by omega)
                    by_cases hlt2 : a ≤ a'
                    · simp [-getElem?_pos, hx, hw, hlt, hq2, b1, b2, g1, g2, g3, g4, h0, hb, hy, hlt2]
                      exact fin_val rfl (by simp [no (fun h => by have := h.1.2.2 _ h0 hy; simp only at this; omega)]) (by simp)
                    · simp [-getElem?_pos, hx, hw, hlt, hq2, b1, b2, g1, g2, g3, g4, h0, hb, hy, hlt2]
                      refine ⟨hv.succ hx ⟨⟨b1, b2, fun z _ hz => ?_⟩, g1, g2, by simp only; omega, by simp only; omega⟩, Wk.to1 rfl (by simp) (by simp) (by simp) (by simp) (by omega)⟩
                      rw [hy] at hz; simp at hz; subst hz; simp only; omega
                  · obtain rfl : i = 0 := by omega
                    simp [-getElem?_pos, hx, hw, hlt, hq2, b1, b2, g1, g2, g3, g4]
                    exact ⟨hv.succ hx ⟨⟨b1, b2, fun z h _ => by omega⟩, g1, g2, by simp only; omega, by simp only; omega⟩, Wk.to1 rfl (by simp) (by simp) (by simp) (by simp) (by omega)⟩
            · simp [-getElem?_pos, hx, hw, hlt, hq2, b1, b2, g1, g2]
              exact fin_val rfl (by simp [no (fun h => g2 h.2.2.1)]) (by simp)
          · simp [-getElem?_pos, hx, hw, hlt, hq2, b1, b2, g1]
            exact fin_val rfl (by simp [no (fun h => g1 h.2.1)]) (by simp)
        · simp [-getElem?_pos, hx, hw, hlt, hq2, b1, b2]
          exact fin_val rfl (by simp [no (fun h => b2 h.1.2.1)]) (by simp)
      · simp [-getElem?_pos, hx, hw, hlt, hq2, b1]
        exact fin_val rfl (by simp [no (fun h => b1 h.1.1)]) (by simp)
    · have hnlt : ¬ i < es.length := by omega
      have heok := hv.all hge
      have all : (0 ≤ nn ∧ nn ≤ 1000000000) → (0 ≤ ne ∧ ne ≤ 1000000000) → l.length ≤ 12 → es.length ≤ 16 → GOk ⟨l, es, nn, ne⟩ := by
        intro c1 c2 c3 c4
        have e1 : w1 = nn - 1 := by rw [← hq1]; exact wrap64 (by omega) (by omega)
        have e2 : w2 = ne - 1 := by rw [← hq2]; exact wrap64 (by omega) (by omega)
        refine ⟨c1, c2, c3, c4, fun i x hx => ?_, fun i x hx => ?_, fun x hx => ?_, fun x hx => ?_⟩
        · obtain ⟨⟨d1, d2, d3⟩, _⟩ := hnok i x hx; exact ⟨d1, by simp only; omega, d3⟩
        · obtain ⟨⟨d1, d2, d3⟩, _⟩ := heok i x hx; exact ⟨d1, by simp only; omega, d3⟩
        · obtain ⟨j, hj⟩ := List.mem_iff_getElem?.1 hx; exact (hnok j x hj).2
        · obtain ⟨j, hj⟩ := List.mem_iff_getElem?.1 hx; exact (heok j x hj).2
      by_cases c3 : (l.length : Int) ≤ 12
      · by_cases c4 : (es.length : Int) ≤ 16
        · simp [hnlt, c3, c4]
          refine callK_val (by simp) (l1In_c nn 0 1000000000) rfl ?_
          by_cases c1 : 0 ≤ nn ∧ nn ≤ 1000000000
          · simp [hnlt, c3, c4, c1.1, c1.2]
            refine callK_val (by simp) (l1In_c ne 0 1000000000) rfl ?_
            by_cases c2 : 0 ≤ ne ∧ ne ≤ 1000000000
            · simp [hnlt, c3, c4, c1.1, c1.2, c2.1, c2.2]
              exact fin_val rfl (by simp [all c1 c2 (by omega) (by omega)]) (by simp)
            · have c2' : (decide (0 ≤ ne) && decide (ne ≤ 1000000000)) = false := by
                simp only [Bool.and_eq_false_iff, decide_eq_false_iff_not]; omega
              simp [hnlt, c3, c4, c1.1, c1.2, c2']
              exact fin_val rfl (by simp [show ¬ GOk ⟨l, es, nn, ne⟩ from fun h => c2 h.ne]) (by simp)
          · have c1' : (decide (0 ≤ nn) && decide (nn ≤ 1000000000)) = false := by
              simp only [Bool.and_eq_false_iff, decide_eq_false_iff_not]; omega
            simp [hnlt, c3, c4, c1']
            exact fin_val rfl (by simp [show ¬ GOk ⟨l, es, nn, ne⟩ from fun h => c1 h.nn]) (by simp)
        · simp [hnlt, c3, c4]
          exact fin_val rfl (by simp [show ¬ GOk ⟨l, es, nn, ne⟩ from fun h => by have := h.el; simp only at this; omega]) (by simp)
      · simp [hnlt, c3]
        exact fin_val rfl (by simp [show ¬ GOk ⟨l, es, nn, ne⟩ from fun h => by have := h.nl; simp only at this; omega]) (by simp)
end Go.Proofs.Ytehdfbhfbidadaa.V
/- Arguments that came in: rows; a law on trees is a law of the program. -/
namespace Go.Proofs.Ytehdfbhfbidadaa.V
open Go Go.RowKit
set_option linter.unusedVariables false
set_option linter.unusedSimpArgs false
theorem rows_list {α : Type} {f : α → List T} {p : α → Prop} : ∀ {rows : List (List T)}, (∀ r ∈ rows, ∃ a, r = f a ∧ p a) → ∃ l : List α, rows = l.map f ∧ ∀ a ∈ l, p a
  | [], h => ⟨[], rfl, by simp⟩
  | r :: rows, h => by
    obtain ⟨a, ha, hp⟩ := h r (by simp)
    obtain ⟨l, hl, hq⟩ := rows_list (rows := rows) fun r hr => h r (List.mem_cons_of_mem _ hr)
    exact ⟨a :: l, by simp [ha, hl], fun b hb => by
      rcases List.mem_cons.1 hb with rfl | hb
      · exact hp
      · exact hq b hb⟩
theorem CI_1 {W : World} {O : Nat → Prop} {t : T} {v : Value} (h : CIs W O [t] [v]) : CI W O t v := by
  simp only [CIs, List.cons.injEq] at h
  obtain ⟨v', r, ⟨rfl, _⟩, h1, _⟩ := h
  exact h1
theorem CIs_nil {W : World} {O : Nat → Prop} : CIs W O [] [] := by simp only [CIs]
theorem CIs_cons {W : World} {O : Nat → Prop} {t : T} {ts : List T} {v : Value} {vs : List Value} (h : CI W O t v) (h2 : CIs W O ts vs) : CIs W O (t :: ts) (v :: vs) := by
  simp only [CIs]; exact ⟨v, vs, rfl, h, h2⟩
/-- A law on trees is a law of the program. -/
theorem law_run {f : Nat} {args : List T} {vs : List Value} {W : World} (h : Rv Try.prog f args (.b true)) (hc : CIs W (· < W.heap.size) args vs) : Calls Try.prog f vs.toArray W fun e w' => e = .returned (.bool true) ∧ Below W.heap.size W w' := by
  have hk : Ks W (· < W.heap.size) args vs [] := by
    have : ∀ {ts : List T} {vs : List Value}, CIs W (· < W.heap.size) ts vs → Ks W (· < W.heap.size) ts vs [] := by
      intro ts
      induction ts with
      | nil => intro vs h; simp only [CIs] at h; simp [Ks, h]
      | cons t ts ih =>
        intro vs h
        simp only [CIs] at h; simp only [Ks]
        obtain ⟨v, r, e, h1, h2⟩ := h
        exact ⟨v, r, [], [], e, rfl, K_of_CI h1, ih h2⟩
    exact this hc
  refine (h W vs (· < W.heap.size) [] (fun _ h => h) hk (by simp) (by simp)).mono ?_
  rintro e w' ⟨v, O', Fr, Fo, rfl, h1, h2, h3, hr, ho, hnd, hm, hkeep⟩
  simp only [K, CI] at hr
  refine ⟨by rw [hr.1], hkeep.os, hkeep.tape, hkeep.output, hkeep.size, fun k hk => hkeep.block k hk (by simp)⟩
end Go.Proofs.Ytehdfbhfbidadaa.V
/- Codes that came in, as rows of bytes. -/
namespace Go.Proofs.Ytehdfbhfbidadaa.V
open Go Go.RowKit
set_option linter.unusedVariables false
set_option linter.unusedSimpArgs false
theorem wf_u8 {y : Int} (h : (Lit.int .u8 y).wf = true) : ∃ c : UInt8, y = (c.toNat : Int) := by
  simp [Lit.wf, IntKind.min, IntKind.max, IntKind.signed, IntKind.bits] at h
  refine ⟨UInt8.ofNat y.toNat, ?_⟩
  rw [UInt8.toNat_ofNat_of_lt' (by simp [UInt8.size]; omega)]; omega
theorem op_Bytes (n : Nat) : OpensT Try.prog n 35 (fun ts => ∃ l : List UInt8, ts = [.imm (l.map fun c => [.i .u8 (c.toNat : Int)])] ∧ l.length ≤ 9223372036854775807) :=
  ot_mono (ot_slice (sz := 1) Try.underlying35 (by kernel_rfl) (by omega) fun m _ => ot_mono (ot_int Try.underlying5) (fun ts h => (h : ∃ y, ts = [T.i .u8 y] ∧ (Lit.int .u8 y).wf = true))) fun ts ⟨rows, h1, h2, h3⟩ => by
    obtain ⟨l, rfl, _⟩ := rows_list (f := fun c : UInt8 => [T.i .u8 (c.toNat : Int)]) (p := fun _ => True) fun r hr => by
      obtain ⟨⟨y, h4, h5⟩, _⟩ := h3 r hr
      obtain ⟨c, rfl⟩ := wf_u8 h5
      exact ⟨c, h4, trivial⟩
    exact ⟨l, h1, by simpa [maxLen] using h2⟩
end Go.Proofs.Ytehdfbhfbidadaa.V
/- The machine of trees, texts Vz, Vy, Vy2. -/
/- The machine of trees: code that is run part by part; between the parts a state may be told anew. -/
namespace Go.Proofs.Ytehdfbhfbidadaa.V
open Go
set_option linter.unusedVariables false
set_option linter.unusedSimpArgs false
/-- What a code does, from a state on. -/
def WW (P : Program) (M : List (Nat × CM)) (n : Nat) (pc : PC) (s : St) (Q : Exit → St → Prop) : Prop :=
  ∀ (E : Env) (c : Code) (a : Act) (w : World), E.n = n → comp P M n c = some pc → RelN E s a w → c.wp P (post E Q) a w
section
variable {P : Program} {M : List (Nat × CM)} {n : Nat} {s s' : St} {Q Q' : Exit → St → Prop}
theorem WW_of_W {pc : PC} (h : W P M n pc s Q) : WW P M n pc s Q := fun E c a w hn hc hR => W_sound hc h hn hR
theorem WW_wk {pc : PC} (hw : Wk s s') (h : WW P M n pc s' Q) : WW P M n pc s Q := fun E c a w hn hc hR => h E c a w hn hc (hw E a w hR)
theorem post_mono {E : Env} (hq : ∀ e s, Q e s → Q' e s) : ∀ e a w, post E Q e a w → post E Q' e a w := fun e a w ⟨s, h, hR⟩ => ⟨s, hq e s h, hR⟩
theorem WW_mono {pc : PC} (h : WW P M n pc s Q) (hq : ∀ e s, Q e s → Q' e s) : WW P M n pc s Q' := fun E c a w hn hc hR => wp_mono (h E c a w hn hc hR) (post_mono hq)
theorem comp_seq {c : Code} {pa pb : PC} (h : comp P M n c = some (.seq pa pb)) : ∃ x y, c = .seq x y ∧ comp P M n x = some pa ∧ comp P M n y = some pb := by
  cases c with
  | seq x y =>
    simp only [comp, Option.bind_eq_bind, Option.bind_eq_some_iff, Option.some.injEq, PC.seq.injEq] at h
    obtain ⟨px, hx, py, hy, rfl, rfl⟩ := h
    exact ⟨x, y, rfl, hx, hy⟩
  | region id ops draw =>
    simp only [comp, Option.bind_eq_bind, Option.bind_eq_some_iff] at h
    obtain ⟨pos, _, h⟩ := h
    split at h
    · split at h <;> simp at h
    · simp at h
  | _ => simp [comp, Option.bind_eq_some_iff] at h
theorem comp_block {c : Code} {id : Nat} {pb : PC} (h : comp P M n c = some (.block id pb)) : ∃ y, c = .block id y ∧ comp P M n y = some pb := by
  cases c with
  | block i y =>
    simp only [comp, Option.bind_eq_bind, Option.bind_eq_some_iff, Option.some.injEq, PC.block.injEq] at h
    obtain ⟨py, hy, rfl, rfl⟩ := h
    exact ⟨y, rfl, hy⟩
  | region id ops draw =>
    simp only [comp, Option.bind_eq_bind, Option.bind_eq_some_iff] at h
    obtain ⟨pos, _, h⟩ := h
    split at h
    · split at h <;> simp at h
    · simp at h
  | _ => simp [comp, Option.bind_eq_some_iff] at h
theorem WW_seq {a b : PC} (h : WW P M n a s (thn (fun s' => WW P M n b s' Q) Q)) : WW P M n (.seq a b) s Q := by
  intro E c ac w hn hc hR
  obtain ⟨x, y, rfl, hx, hy⟩ := comp_seq hc
  refine wp_seq (wp_mono (h E x ac w hn hx hR) ?_)
  rintro e a' w' ⟨s', hq, hr⟩
  cases e with
  | normal => exact hq E y a' w' hn hy hr
  | _ => exact ⟨s', hq, hr⟩
theorem WW_block {id : Nat} {b : PC} (h : WW P M n b s (inb id Q)) : WW P M n (.block id b) s Q := by
  intro E c ac w hn hc hR
  obtain ⟨y, rfl, hy⟩ := comp_block hc
  refine wp_block (wp_mono (h E y ac w hn hy hR) ?_)
  rintro e a' w' ⟨s', hq, hr⟩
  cases e with
  | exit i =>
    simp only [inb] at hq
    simp only [Exit.inBlock]
    split at hq
    · rename_i h; rw [if_pos h]; exact ⟨s', hq, hr⟩
    · rename_i h; rw [if_neg h]; exact ⟨s', hq, hr⟩
  | _ => exact ⟨s', hq, hr⟩
/-- A loop, one round of it, part by part. -/
theorem W_loopS {b : PC} (h : WW P M n b s (thn (fun s' => ∃ s2, Wk s' s2 ∧ W P M n (.loop b) s2 Q) Q)) : W P M n (.loop b) s Q := by
  simp only [W]
  intro E c a w hn hc hR bf k cs
  obtain ⟨e, a1, w1, ⟨s', hq, hr⟩, harr⟩ := h E c a w hn hc hR bf (.inLoop c :: k) cs
  cases e with
  | normal =>
    simp only [thn] at hq
    obtain ⟨s2, hwk, hl⟩ := hq
    simp only [W] at hl
    obtain ⟨e2, a2, w2, hq2, harr2⟩ := hl E c a1 w1 hn hc (hwk E a1 w1 hr) bf k cs
    exact ⟨e2, a2, w2, hq2, .of_steps (Steps.trans harr (.one step_inLoop)) harr2⟩
  | exit id => exact ⟨_, a1, w1, ⟨s', hq, hr⟩, .pass (x := .inLoop c) rfl (fun _ _ => .inl (by simp)) harr⟩
  | goto l => exact ⟨_, a1, w1, ⟨s', hq, hr⟩, .pass (x := .inLoop c) rfl (fun _ _ => .inl (by simp)) harr⟩
  | ret => exact ⟨_, a1, w1, ⟨s', hq, hr⟩, .pass (x := .inLoop c) rfl (fun _ _ => .inl (by simp)) harr⟩
  | panic ch => exact ⟨_, a1, w1, ⟨s', hq, hr⟩, .pass (x := .inLoop c) rfl (fun _ _ => .inl (by simp)) harr⟩
  | outgrown => exact ⟨_, a1, w1, ⟨s', hq, hr⟩, .pass (x := .inLoop c) rfl (fun _ _ => .inl (by simp)) harr⟩
/-- A loop over numbers from 0 on, its rounds part by part. -/
theorem W_forS {b : PC} (st : Nat → St) (len : Nat) (inv : Nat → Prop) (h0 : Wk s (st 0)) (hi : inv 0) (step : ∀ i, i ≤ len → inv i → WW P M n b (st i) (thn (fun s' => i < len ∧ inv (i + 1) ∧ Wk s' (st (i + 1))) Q)) : @loopH P M n ⟨b⟩ s ⟨Q⟩ := by
  have key : ∀ m i, i + m = len → inv i → W P M n (.loop b) (st i) Q := by
    intro m
    induction m with
    | zero =>
      intro i hl hv
      refine W_loopS (WW_mono (step i (by omega) hv) (thn_mono ?_ (fun _ _ h => h)))
      rintro s' ⟨h1, _⟩
      omega
    | succ m ih =>
      intro i hl hv
      refine W_loopS (WW_mono (step i (by omega) hv) (thn_mono ?_ (fun _ _ h => h)))
      rintro s' ⟨h1, h2, h3⟩
      exact ⟨_, h3, ih (i + 1) (by omega) h2⟩
  exact W_wk0 h0 (key len 0 (by omega) hi)
/-- A part of the code comes to a state that is told anew. -/
theorem thn_cut {a b : PC} {s2 : St} (h : W P M n a s (fun e s' => e = .normal ∧ Wk s' s2)) (h2 : WW P M n b s2 Q) : WW P M n a s (thn (fun s' => WW P M n b s' Q) Q) := by
  refine WW_mono (WW_of_W h) ?_
  rintro e s' ⟨rfl, hw⟩
  exact WW_wk hw h2
/-- What a slot refers to is shared for good: it is written no more. -/
theorem Wk.share {j : Nat} {t x : T} (ht : tget s.tm j = t) (hx : argI s t = some x) : Wk s { s with tm := (j, x) :: s.tm, hp := hdels s.hp t.names } := by
  rintro E a w ⟨⟨ρ, O, F, hR⟩, hE⟩
  have hsub : ∀ t' k, hget (hdels s.hp t.names) t' = some k → t' ∉ t.names ∧ hget s.hp t' = some k := by
    intro t' k hk
    rw [hget_hdels] at hk
    split at hk
    · exact absurd hk (by simp)
    · exact ⟨‹_›, hk⟩
  let O2 : Nat → Prop := fun b => O b ∨ ∃ tk k, tk ∈ t.names ∧ hget s.hp tk = some k ∧ b ∈ F tk
  have hO : ∀ b, O b → O2 b := fun b h => .inl h
  have hci : CI w O2 x (a.tmps.getD j undef) := argI_ok hR hO (by have := hR.tm j; rw [ht] at this; exact this) hx (fun tk htk k hk b hb => .inr ⟨tk, k, htk, hk, hb⟩)
  refine ⟨⟨ρ, O2, F, hR.size, hR.defers, hR.fb, hR.ρ0, fun b hb => hO b (hR.O0 b hb), ?_, ?_, ?_, ?_, ?_, ?_, ?_, hR.keep⟩, hE⟩
  · rintro b (hb | ⟨tk, k, _, hk, hb⟩)
    · exact hR.Olt b hb
    · exact (hR.mine tk k hk b hb).2.1
  · rintro b (hb | ⟨tk, k, _, hk, hb⟩)
    · exact hR.Onew b hb
    · exact .inr (hR.mine tk k hk b hb).2.2
  · intro i
    simp only [tget]
    split
    · rename_i e; subst e; exact CV.ofCI hci
    · exact (hR.tm i).cong hO (fun _ _ => rfl) (fun _ h => h) (fun _ _ => rfl)
  · intro t' k hk
    have h1 := hR.hp t' k (hsub _ _ hk).2
    exact ⟨h1.1, BR.cong (A' := fun x => x < s.nx) (ρ' := ρ) hO (fun _ _ => rfl) (fun _ h => h) (fun _ _ => rfl) h1.1 (fun _ _ => rfl) h1.2⟩
  · intro t' k hk; exact hR.nodup t' k (hsub _ _ hk).2
  · intro t1 k1 t2 k2 h1 h2; exact hR.apart t1 k1 t2 k2 (hsub _ _ h1).2 (hsub _ _ h2).2
  · intro t' k hk b hb
    obtain ⟨h1, h2⟩ := hsub _ _ hk
    obtain ⟨h3, h4, h5⟩ := hR.mine t' k h2 b hb
    refine ⟨?_, h4, h5⟩
    rintro (ho | ⟨tk, k', htk, hk', hb'⟩)
    · exact h3 ho
    · exact hR.apart _ _ _ _ h2 hk' (fun e => h1 (e ▸ htk)) b hb hb'
theorem Ret.ofS {f : Nat} {fn : Func} {pc : PC} {args : List T} {r : T} {outs : List T} {rs : List ResultVar} (hf : P.funcs[f]? = some fn) (hc : (fn.body).bind (comp P M fn.ntmps) = some pc) (hr : fn.results = rs.toArray) (hn : fn.ntmps = n) (ha : args.length ≤ n)
    (h : WW P M n pc (enter args) (fin P rs args r outs)) : Ret P f args r outs := by
  obtain ⟨c, hb, hc⟩ := bodyOf hc
  subst hn
  refine Ret.introS hf hb hc ha ?_
  rw [hr, List.toList_toArray]
  exact h
end
end Go.Proofs.Ytehdfbhfbidadaa.V

/- Maps whose keys are numbers or texts. -/
namespace Go.Proofs.Ytehdfbhfbidadaa.V
open Go
set_option linter.unusedVariables false
set_option linter.unusedSimpArgs false
def T.isKey : TypeDesc → T → Bool
  | .int k, .i k' _ => decide (k' = k)
  | .string, .s _ => true
  | _, _ => false
def tkEq : T → T → Bool
  | .i _ a, .i _ b => decide (a = b)
  | .s a, .s b => decide (a = b)
  | _, _ => false
/-- Where a key stands. -/
def mfind (k : T) : List (T × T) → Option Nat
  | [] => none
  | p :: es => if tkEq p.1 k = true then some 0 else (mfind k es).map (· + 1)
section
variable {P : Program} {E : Env} {A A' : Nat → Prop} {ρ ρ' : Nat → Option RB} {O O' : Nat → Prop} {F F' : Nat → List Nat} {s s' : St} {a : Act} {w w' : World} {n : Nat}
/-- What a lookup comes to. -/
def lkV (ok : Bool) (v : T) (found : Bool) : T := if ok = true then .tup [v, .b found] else v
theorem map_at (hR : R E A ρ O F s a w) {t : Nat} {es : List (T × T)} (hg : hget s.hp t = some (.mb es)) {v : Value} (hv : CV w O ρ A (.mp t) v) :
    ∃ (B : RB) (ents : Array MapEntry) (clk : Nat) (F' : List Nat), v = .map (some B.b) ∧ ρ t = some B ∧ w.heap[B.b]? = some (.map ents clk) ∧ CIs w O (es.map Prod.fst) (ents.toList.map (·.key)) ∧ Ds w O ρ A (es.map Prod.snd) (ents.toList.map (·.val)) F' ∧ F t = B.b :: F' := by
  have hb := (hR.hp _ _ hg).2
  simp only [BR] at hb
  obtain ⟨B, ents, clk, F', hB, h1, h2, h3, h4⟩ := hb
  simp only [CV] at hv
  obtain ⟨_, B', hB', rfl⟩ := hv
  obtain rfl : B = B' := Option.some.inj (hB.symm.trans hB')
  exact ⟨B, ents, clk, F', rfl, hB, h1, h2, h3, h4⟩
/-- A call that comes to a map of its own; its arguments are only read. -/
def Rm (P : Program) (f : Nat) (args : List T) (es : List (T × T)) : Prop :=
  ∀ (w : World) (vs : List Value) (O : Nat → Prop), (∀ b, O b → b < w.heap.size) → CIs w O args vs →
    Calls P f vs.toArray w fun e w' => ∃ b O' F' ents clk, e = .returned (.map (some b)) ∧ (∀ b, O b → O' b) ∧ (∀ b, O' b → b < w'.heap.size) ∧ (∀ b, O' b → O b ∨ w.heap.size ≤ b) ∧
      w'.heap[b]? = some (.map ents clk) ∧ CIs w' O' (es.map Prod.fst) (ents.toList.map (·.key)) ∧ Ks w' O' (es.map Prod.snd) (ents.toList.map (·.val)) F' ∧ (b :: F').Nodup ∧ (∀ x ∈ b :: F', ¬ O' x ∧ x < w'.heap.size ∧ w.heap.size ≤ x) ∧ Keep w [] w'
def finM (P : Program) (rs : List ResultVar) (es : List (T × T)) : Exit → St → Prop := fun e s => (e = .normal ∨ e = .ret) ∧ ∃ s2 t, Wk s s2 ∧ resK P s2 rs = some [.mp t] ∧ hget s2.hp t = some (.mb es) ∧ (es.map Prod.snd).all T.pl = true
theorem Ks_of_CIs : ∀ {ts : List T} {vs : List Value}, CIs w O ts vs → Ks w O ts vs []
  | [], vs, h => by simp only [CIs] at h; simp [Ks, h]
  | t :: ts, vs, h => by
    simp only [CIs] at h
    obtain ⟨v, r, rfl, h1, h2⟩ := h
    simp only [Ks]
    exact ⟨v, r, [], [], rfl, rfl, K_of_CI h1, Ks_of_CIs h2⟩
theorem K_of_D {c : T} {u : Value} {G : List Nat} (hc : c.pl = true) (h : D w O ρ A c u G) : K w O c u G := by
  rcases h with h | ⟨h, rfl⟩
  · exact h
  · cases c <;> simp [T.pl] at hc <;> simp only [CV] at h <;> exact K_of_CI h
theorem Ks_of_Ds : ∀ {ts : List T} {vs : List Value} {G : List Nat}, ts.all T.pl = true → Ds w O ρ A ts vs G → Ks w O ts vs G
  | [], vs, G, hp, h => by simp only [Ds] at h; simp [Ks, h]
  | t :: ts, vs, G, hp, h => by
    simp only [List.all_cons, Bool.and_eq_true] at hp
    simp only [Ds] at h
    obtain ⟨v, r, F1, F2, rfl, rfl, h1, h2⟩ := h
    simp only [Ks]
    exact ⟨v, r, F1, F2, rfl, rfl, K_of_D hp.1 h1, Ks_of_Ds hp.2 h2⟩
theorem Rm.of {M : List (Nat × CM)} {f : Nat} {fn : Func} {pc : PC} {args : List T} {es : List (T × T)} {rs : List ResultVar} {m : Nat} (hf : P.funcs[f]? = some fn) (hc : (fn.body).bind (comp P M fn.ntmps) = some pc) (hr : fn.results = rs.toArray) (hnt : fn.ntmps = m) (ha : args.length ≤ m)
    (h : W P M m pc (enter args) (finM P rs es)) : Rm P f args es := by
  obtain ⟨c, hb, hc⟩ := bodyOf hc
  subst hnt
  intro w vs O hO hk
  have hlen := hk.len
  obtain ⟨ρ0, hv, hr0⟩ := entry (n := fn.ntmps) (G := []) hO (Ks_of_CIs hk) (by simp) (by simp) (by omega)
  refine calls_of_wp hf hb (wp_mono (W_sound hc h rfl hr0) ?_)
  rintro e a' w' ⟨s', ⟨he, s2, t, hwk, hres, hg, hpl⟩, hr'⟩
  obtain ⟨⟨ρ, O', F, hR⟩, hfb⟩ := hwk _ _ _ hr'
  obtain ⟨u, hu, hcu⟩ := results_ok (fn := fn) hR (by rw [hr]; simpa using hres)
  obtain ⟨B, ents, clk, F', rfl, hB, hh, hks, hds, hF⟩ := map_at hR hg (by simpa [res1] using hcu)
  have hfin : a'.defers = [] ∧ ∃ v, (results fn a'.tmps).run P w' = .ok v w' ∧ (∃ b O' F' ents clk, Ending.returned v = .returned (.map (some b)) ∧ (∀ b, O b → O' b) ∧ (∀ b, O' b → b < w'.heap.size) ∧ (∀ b, O' b → O b ∨ w.heap.size ≤ b) ∧
      w'.heap[b]? = some (.map ents clk) ∧ CIs w' O' (es.map Prod.fst) (ents.toList.map (·.key)) ∧ Ks w' O' (es.map Prod.snd) (ents.toList.map (·.val)) F' ∧ (b :: F').Nodup ∧ (∀ x ∈ b :: F', ¬ O' x ∧ x < w'.heap.size ∧ w.heap.size ≤ x) ∧ Keep w [] w') := by
    refine ⟨hR.defers, _, hu, B.b, O', F', ents, clk, rfl, hR.O0, hR.Olt, ?_, hh, hks, Ks_of_Ds hpl hds, by rw [← hF]; exact hR.nodup _ _ hg, ?_, hR.keep⟩
    · intro b hb'
      rcases hR.Onew b hb' with h | h | h
      · exact .inl h
      · exact .inr h
      · simp at h
    · intro x hx
      obtain ⟨h1, h2, h3⟩ := hR.mine _ _ hg x (by rw [hF]; exact hx)
      exact ⟨h1, h2, h3.resolve_right (by simp)⟩
  rcases he with rfl | rfl
  · exact hfin
  · exact hfin
end
end Go.Proofs.Ytehdfbhfbidadaa.V

/- Structs of two texts, compared. -/
namespace Go.Proofs.Ytehdfbhfbidadaa.V
open Go
set_option linter.unusedVariables false
set_option linter.unusedSimpArgs false
section
variable {P : Program} {n : Nat}
end
end Go.Proofs.Ytehdfbhfbidadaa.V
/- Texts Ccopy, Cget, Cget2, Cg1, Cg2, Cg3, Cg4, Cg5, Cg6, Cg7, Cg8, Cg9, Cg10, Cm1, Cm2, Cm3, Cm4, Cn1, Cn2, Csame, Cwith, Cfind. -/
/- Copies of values. -/
namespace Go.Proofs.Ytehdfbhfbidadaa.V
open Go
set_option linter.unusedVariables false
set_option linter.unusedSimpArgs false
set_option maxHeartbeats 16000000
theorem l1Copy_c (v : Vl) : v.cnt ≤ 2 ^ 20 → Rv Try.prog 120 [.agg (sV.I v)] (.agg (sV.O v)) := by
  refine Vl.ind (p := fun v => v.cnt ≤ 2 ^ 20 → Rv Try.prog 120 [.agg (sV.I v)] (.agg (sV.O v))) ?_ v
  intro k n s l ih hc
  rw [Vl.cnt_mk] at hc
  unfold cl at hc
  refine via_spec_l1Copy (by simp) ?_
  simp [pc_spec_l1Copy]
  refine W_for (fun i => ⟨[(4, .i .i64 i), (1, .ptr 0 0 0), (2, .ptr 1 0 0), (3, .ptr 2 0 0)], [(0, .arr 4 [sV.I (.mk k n s l)]), (1, .arr 4 [[.i .i64 0, .i .i64 0, .s [], .nl]]), (2, .arr 4 [[.i .i64 k, .i .i64 n, .s s, .own 4 ((l.map sV.O).take i)]])], 10, 0⟩) l.length (fun _ => True) ?_ trivial ?_
  · refine Wk.trans (Wk.join (b := 2) (r := 0) (cs := [.i .i64 k, .i .i64 n, .s s, .own 4 []]) rfl rfl (by simp) (by simp)) ?_
    exact Wk.less rfl (by simp) (by simp) (by simp)
  intro i hi _
  rcases Nat.lt_or_ge i l.length with h1 | h1
  · obtain ⟨x, hx⟩ : ∃ x, l[i]? = some x := ⟨_, List.getElem?_eq_getElem h1⟩
    have hw : IntKind.i64.wrap ((i : Int) + 1) = (i : Int) + 1 := wrap1 (by omega)
    have hmin : min i l.length = i := by omega
    simp [-getElem?_pos, hx, hw, h1, hmin]
    refine callK_val (by simp) (ih x (List.mem_of_getElem? hx) (by have := sums_mem (c := Vl.cnt) (List.mem_of_getElem? hx); omega)) (by simp [T.noImm]) ?_
    have htt : List.take i (List.take i (l.map sV.O)) = List.take i (l.map sV.O) := by rw [List.take_take]; simp
    have hlA : (List.take i (l.map sV.O)).length = i := by simp; omega
    have hnew := fill_new sV.O hx
    have hcA : cleanR (List.take i (l.map sV.O)) = true := by rw [← List.map_take]; exact sV.crO _
    have hbig : (i + 1) * 56 ≤ 35184372088832 := by omega
    obtain ⟨k', n', s', l'⟩ := x
    simp [-getElem?_pos, hx, hw, h1, hmin, htt, hbig]
    generalize List.take i (l.map sV.O) = A at *
    refine need_mk ⟨by decide +kernel, by decide +kernel⟩ (need_mk (by decide +kernel) ?_)
    have hg := app1_get hlA
    have hs := app1_set hlA
    have ht := app1_take hlA
    refine Wk.trans (Wk.join (b := 82) (r := i) (cs := sV.O (.mk k' n' s' l')) rfl (by simp [hg]; rfl) (by simp) (by simp)) ?_
    refine Wk.trans (Wk.join (b := 2) (r := 0) (cs := [.i .i64 k, .i .i64 n, .s s, .own 4 ((l.map sV.O).take (i + 1))]) rfl rfl (by simp [hnew, hs, hcA, hlA, ht]) (by simp)) ?_
    exact Wk.to rfl (by simp) (by simp) (by simp [Blk.names]) (by simp)
  · have h2 : ¬ i < l.length := by omega
    have e : (l.map sV.O).take i = l.map sV.O := List.take_of_length_le (by simp; omega)
    simp [h2, e]
    exact fin_own (by simp; rfl) (by simp) (by simp) (by simp)
/-- An ok value is ok with more room. -/
theorem okV_mono : ∀ (d : Nat) (v : Vl), okV d v = true → okV (d + 1) v = true := by
  intro d
  induction d with
  | zero => intro v h; simp [okV] at h
  | succ d ih =>
    rintro ⟨k, n, s, l⟩ h
    have hall : l.all (okV d) = true → l.all (okV (d + 1)) = true := fun h => by
      rw [List.all_eq_true] at h ⊢
      exact fun v hv => ih v (h v hv)
    unfold okV at h ⊢
    by_cases k4 : k = 4
    · subst k4
      simp only [show ¬ (4 : Int) = 0 by omega, show ¬ (4 : Int) = 1 by omega, show ¬ (4 : Int) = 2 by omega, show ¬ (4 : Int) = 3 by omega, show ¬ ((4 : Int) = 5 ∨ (4 : Int) = 6) by omega, if_false, if_true, Bool.and_eq_true] at h ⊢
      exact ⟨h.1, hall h.2⟩
    · simp only [k4, if_false] at h ⊢
      exact h
/-- What is in an ok value's list. -/
theorem okV_list {d : Nat} {k n : Int} {s : Tx} {l : List Vl} (h : okV (d + 1) (.mk k n s l) = true) : ∀ v ∈ l, okV (d + 1) v = true := by
  intro v hv
  refine okV_mono d v ?_
  unfold okV at h
  by_cases k4 : k = 4
  · subst k4
    simp only [show ¬ (4 : Int) = 0 by omega, show ¬ (4 : Int) = 1 by omega, show ¬ (4 : Int) = 2 by omega, show ¬ (4 : Int) = 3 by omega, show ¬ ((4 : Int) = 5 ∨ (4 : Int) = 6) by omega, if_false, if_true, Bool.and_eq_true] at h
    exact List.all_eq_true.1 h.2 v hv
  · have : l = [] := by
      simp only [k4, if_false] at h
      split at h
      · simp at h; exact h.2
      · split at h
        · simp at h; exact h.2
        · split at h
          · simp at h; exact h.2
          · split at h
            · simp at h; exact h.2
            · split at h
              · simp at h; exact h.2
              · simp at h
    simp [this] at hv
theorem cloneValues_of (l : List Vl) (hl : l.length ≤ 2 ^ 20) (h : ∀ v ∈ l, Rv Try.prog 88 [.agg (sV.I v)] (.agg (sV.O v))) : Rv Try.prog 150 [.imm (l.map sV.I)] (.own 4 (l.map sV.O)) := by
  refine via_impl_cloneValues (by simp) ?_
  by_cases h0 : l.length = 0
  · obtain rfl : l = [] := List.length_eq_zero_iff.1 h0
    simp [pc_impl_cloneValues]
    exact fin_own rfl (by simp) (by simp) (by simp)
  · have h0' : ¬ l = [] := fun h => h0 (by simp [h])
    have hb1 : (l.length : Int) * 56 ≤ 35184372088832 := by omega
    have hb2 : (l.length : Int) ≤ 35184372088832 := by omega
    simp [pc_impl_cloneValues, h0, h0', hb1, hb2]
    refine W_for (fun i => ⟨[(14, .i .i64 i), (13, .i .i64 l.length), (12, .imm (l.map sV.I)), (3, .ref 0 0 l.length)], [(0, .arr 4 ((l.map sV.O).take i ++ List.replicate (l.length - i) [.i .i64 0, .i .i64 0, .s [], .nl]))], 10, 0⟩) l.length (fun i => True) (Wk.less rfl (by simp) (by simp) (by simp)) trivial ?_
    intro i hi _
    rcases Nat.lt_or_ge i l.length with h2 | h2
    · obtain ⟨v, hx⟩ : ∃ v, l[i]? = some v := ⟨_, List.getElem?_eq_getElem h2⟩
      have hw2 : IntKind.i64.wrap ((i : Int) + 1) = (i : Int) + 1 := wrap1 (by omega)
      have hrow := fill_row sV.O l (z := [.i .i64 0, .i .i64 0, .s [], .nl]) h2
      have hset := fill_set sV.O l (z := [.i .i64 0, .i .i64 0, .s [], .nl]) h2
      have hnew := fill_new sV.O hx
      have hg := fun r => fill_get sV.O (l := l) (r := r) (z := [.i .i64 0, .i .i64 0, .s [], .nl]) h2
      have hs2 := fun r r' => fill_set2 sV.O (l := l) (r := r) (r' := r') (z := [.i .i64 0, .i .i64 0, .s [], .nl]) h2
      have hcl := fill_clean sV (l := l) (z := [.i .i64 0, .i .i64 0, .s [], .nl]) (by rfl) (i + 1) (l.length - (i + 1))
      simp [-getElem?_pos, hx, hw2, h2]
      refine callK_val (by simp) (h v (List.mem_of_getElem? hx)) (by simp [T.noImm]) ?_
      obtain ⟨k', n', s', l'⟩ := v
      simp [-getElem?_pos, hx, hw2, h2, hrow, hset]
      refine Wk.trans (Wk.join (b := 0) (r := i) (cs := sV.O (.mk k' n' s' l')) rfl (by simp [hg]; rfl) (by simp) (by simp)) ?_
      exact Wk.to1 rfl (by simp) (by simp) (by simp [hs2, hnew]) hcl (by omega)
    · have h4 : ¬ i < l.length := by omega
      have h5 : l.length - i = 0 := by omega
      have e : (l.map sV.O).take i = l.map sV.O := List.take_of_length_le (by simp; omega)
      simp [h4, h5, e]
      exact fin_own (by simp; rfl) (by simp) (by simp) (by simp)
theorem cloneValue_c (v : Vl) : v.fit → v.cnt ≤ 2 ^ 20 → vOk v = true → Rv Try.prog 88 [.agg (sV.I v)] (.agg (sV.O v)) := by
  refine Vl.ind (p := fun v => v.fit → v.cnt ≤ 2 ^ 20 → vOk v = true → Rv Try.prog 88 [.agg (sV.I v)] (.agg (sV.O v))) ?_ v
  intro k n s l ih hf hc hok
  obtain ⟨_, _, hs, hl, hv⟩ := Vl.fit_mk.1 hf
  rw [Vl.cnt_mk] at hc
  unfold cl at hc
  have hlist := okV_list hok
  refine via_impl_cloneValue (by simp) ?_
  simp [pc_impl_cloneValue]
  refine callK_val (by simp) (ValueOk_c _ hf) rfl ?_
  simp [hok]
  refine callK_val (by simp) (cloneValues_of l (by omega) (fun v hm => ih v hm (hv v hm) (by have := sums_mem (c := Vl.cnt) hm; omega) (hlist v hm))) (by simp [T.noImm]) ?_
  simp
  exact fin_own (by simp; rfl) (by simp) (by simp) (by simp)
end Go.Proofs.Ytehdfbhfbidadaa.V
/- Props by name. -/
namespace Go.Proofs.Ytehdfbhfbidadaa.V
open Go
set_option linter.unusedVariables false
set_option linter.unusedSimpArgs false
set_option maxHeartbeats 16000000
def zV : Vl := .mk 0 0 [] []
theorem l2Edge_c (g : Gr) (hl : ln g.edges) (id : Int) : Rv Try.prog 168 [.agg (sG.I g), .i .i64 id] (.i .i64 (posOf Eg.id id g.edges)) := by
  obtain ⟨ns, l, nn, ne⟩ := g
  simp only at hl ⊢
  refine via_spec_l2Edge (by simp) ?_
  simp [pc_spec_l2Edge]
  refine W_for (fun i => ⟨[(5, .i .i64 i), (2, .ptr 0 0 0), (1, .i .i64 id)], [(0, .arr 4 [sG.I ⟨ns, l, nn, ne⟩])], 1, 0⟩) l.length (fun i => ∀ j y, j < i → l[j]? = some y → y.id ≠ id) (Wk.less rfl (by simp) (by simp) (by simp)) (by simp) ?_
  intro i hi hv
  rcases Nat.lt_or_ge i l.length with h1 | h1
  · obtain ⟨⟨a, b, c, d, e⟩, hx⟩ : ∃ x, l[i]? = some x := ⟨_, List.getElem?_eq_getElem h1⟩
    have hw : IntKind.i64.wrap ((i : Int) + 1) = (i : Int) + 1 := wrap1 (by omega)
    by_cases h : a = id
    · simp [-getElem?_pos, hx, hw, h1, h]
      exact fin_val rfl (by simp [posOf_at (f := Eg.id) hx h hv]) (by simp)
    · simp [-getElem?_pos, hx, hw, h1, h]
      refine ⟨fun j y hj hy => ?_, Wk.to1 rfl (by simp) (by simp) (by simp) (by simp) (by omega)⟩
      rcases Nat.lt_or_ge j i with h6 | h6
      · exact hv j y h6 hy
      · obtain rfl : j = i := by omega
        rw [hx] at hy; simp at hy; subst hy; exact h
  · have h2 : ¬ i < l.length := by omega
    simp [h2]
    refine fin_val rfl ?_ (by simp)
    rw [posOf_none fun j y hy => hv j y (by have := (List.getElem?_eq_some_iff.1 hy).1; omega) hy]
    simp
/-- Props of a node or an edge, if it is there. -/
def propsOf (g : Gr) (v : Vl) : Option (List Pr) :=
  if v.k = 5 then (g.nodes.find? (fun x => decide (x.id = v.n))).map Nd.props
  else if v.k = 6 then (g.edges.find? (fun x => decide (x.id = v.n))).map Eg.props else none
theorem find_pos {α : Type} {f : α → Int} {id : Int} {l : List α} : (∃ (i : Nat) (x : α), posOf f id l = i ∧ l[i]? = some x ∧ l.find? (fun x => decide (f x = id)) = some x) ∨ (posOf f id l = -1 ∧ l.find? (fun x => decide (f x = id)) = none) := by
  rcases posOf_cases f id l with ⟨i, x, h1, h2, h3, h4⟩ | ⟨h1, h2⟩
  · left
    refine ⟨i, x, h1, h2, ?_⟩
    rw [List.find?_eq_some_iff_getElem]
    obtain ⟨hi, rfl⟩ := List.getElem?_eq_some_iff.1 h2
    exact ⟨by simpa using h3, i, hi, rfl, fun j hj => by simpa using h4 j _ hj (List.getElem?_eq_getElem (by omega))⟩
  · right
    refine ⟨h1, ?_⟩
    rw [List.find?_eq_none]
    exact fun x hx => by simpa using h2 x hx
/-- Under a name; nothing if there is none. -/
def getP (ps : List Pr) (nm : Tx) : Vl := ((ps.find? (fun p => decide (p.name = nm))).map Pr.val).getD zV
def propGet (g : Gr) (v : Vl) (nm : Tx) : Vl := match propsOf g v with | some ps => getP ps nm | none => zV
theorem getP_at {ps : List Pr} {nm : Tx} {i : Nat} {p : Pr} (hx : ps[i]? = some p) (h : p.name = nm) (hn : ∀ (j : Nat) (q : Pr), j < i → ps[j]? = some q → q.name ≠ nm) : getP ps nm = p.val := by
  unfold getP
  have : ps.find? (fun p => decide (p.name = nm)) = some p := by
    rw [List.find?_eq_some_iff_getElem]
    obtain ⟨hi, rfl⟩ := List.getElem?_eq_some_iff.1 hx
    exact ⟨by simpa using h, i, hi, rfl, fun j hj => by simpa using hn j _ hj (List.getElem?_eq_getElem (by omega))⟩
  rw [this]; rfl
theorem getP_none {ps : List Pr} {nm : Tx} (h : ∀ (j : Nat) (q : Pr), ps[j]? = some q → q.name ≠ nm) : getP ps nm = zV := by
  unfold getP
  have : ps.find? (fun p => decide (p.name = nm)) = none := by
    rw [List.find?_eq_none]
    intro p hp
    obtain ⟨j, hj⟩ := List.mem_iff_getElem?.1 hp
    simpa using h j p hj
  rw [this]; rfl
theorem l2Of_c (g : Gr) (hf : ln g.nodes ∧ ln g.edges) (v : Vl) : Rv Try.prog 144 [.agg (sG.I g), .agg (sV.I v)] (match propsOf g v with | some ps => .tup [.imm (ps.map sP.I), .b true] | none => .tup [.own 5 [], .b false]) := by
  obtain ⟨l, es, nn, ne⟩ := g
  obtain ⟨k, n, s, vl⟩ := v
  refine via_spec_l2Of (by simp) ?_
  simp [pc_spec_l2Of]
  refine callK_val (by simp) (l2Node_c ⟨l, es, nn, ne⟩ hf.1 n) rfl ?_
  simp
  refine callK_val (by simp) (l2Edge_c ⟨l, es, nn, ne⟩ hf.2 n) rfl ?_
  by_cases k5 : k = 5
  · subst k5
    rcases find_pos (f := Nd.id) (id := n) (l := l) with ⟨i, ⟨a, b, c⟩, h1, h2, h3⟩ | ⟨h1, h3⟩
    · have hp : propsOf ⟨l, es, nn, ne⟩ (.mk 5 n s vl) = some c := by unfold propsOf; simp only [Vl.k, Vl.n, if_true]; exact congrArg (Option.map Nd.props) h3
      simp [-getElem?_pos, h1, h2, hp]
      exact fin_own rfl (by simp) (by simp) (by simp)
    · have hp : propsOf ⟨l, es, nn, ne⟩ (.mk 5 n s vl) = none := by unfold propsOf; simp only [Vl.k, Vl.n, if_true]; exact congrArg (Option.map Nd.props) h3
      simp [-getElem?_pos, h1, hp]
      exact fin_own rfl (by simp) (by simp) (by simp)
  · by_cases k6 : k = 6
    · subst k6
      rcases find_pos (f := Eg.id) (id := n) (l := es) with ⟨i, ⟨a, b, c, d, e⟩, h1, h2, h3⟩ | ⟨h1, h3⟩
      · have hp : propsOf ⟨l, es, nn, ne⟩ (.mk 6 n s vl) = some e := by unfold propsOf; simp only [Vl.k, Vl.n, if_true, show ¬ (6 : Int) = 5 by omega, if_false]; exact congrArg (Option.map Eg.props) h3
        simp [-getElem?_pos, h1, h2, hp]
        exact fin_own rfl (by simp) (by simp) (by simp)
      · have hp : propsOf ⟨l, es, nn, ne⟩ (.mk 6 n s vl) = none := by unfold propsOf; simp only [Vl.k, Vl.n, if_true, show ¬ (6 : Int) = 5 by omega, if_false]; exact congrArg (Option.map Eg.props) h3
        simp [-getElem?_pos, h1, hp]
        exact fin_own rfl (by simp) (by simp) (by simp)
    · have hp : propsOf ⟨l, es, nn, ne⟩ (.mk k n s vl) = none := by simp only [propsOf, Vl.k, Vl.n, k5, k6, if_false]
      simp [-getElem?_pos, k5, k6, hp]
      exact fin_own rfl (by simp) (by simp) (by simp)
/-- What a prop's value is bounded by. -/
theorem cnt_props {g : Gr} {v : Vl} {ps : List Pr} (h : propsOf g v = some ps) : cl Pr.cnt ps ≤ g.cnt := by
  unfold propsOf at h
  split at h
  · obtain ⟨x, h1, rfl⟩ := Option.map_eq_some_iff.1 h
    have hm := List.mem_of_find?_eq_some h1
    have h2 := sums_mem (c := Nd.cnt) hm
    simp only [Nd.cnt] at h2
    unfold Gr.cnt cl at *
    omega
  · split at h
    · obtain ⟨x, h1, rfl⟩ := Option.map_eq_some_iff.1 h
      have hm := List.mem_of_find?_eq_some h1
      have h2 := sums_mem (c := Eg.cnt) hm
      simp only [Eg.cnt] at h2
      unfold Gr.cnt cl at *
      omega
    · exact absurd h (by simp)
theorem l2Get_c (g : Gr) (hf : ln g.nodes ∧ ln g.edges) (hc : g.cnt ≤ 2 ^ 20) (v : Vl) (nm : Tx) : Rv Try.prog 78 [.agg (sG.I g), .agg (sV.I v), .s nm] (.agg (sV.O (propGet g v nm))) := by
  have hO := l2Of_c g hf v
  obtain ⟨l, es, nn, ne⟩ := g
  obtain ⟨k, n, s, vl⟩ := v
  refine via_spec_l2Get (by simp) ?_
  simp [pc_spec_l2Get]
  cases hp : propsOf ⟨l, es, nn, ne⟩ (.mk k n s vl) with
  | none =>
    rw [hp] at hO
    simp only at hO
    have hr : propGet ⟨l, es, nn, ne⟩ (.mk k n s vl) nm = zV := by simp [propGet, hp]
    first
      | (refine callK_imm (by simp) hO ?_
         simp [hr]
         refine W_for (fun i => ⟨[(9, .i .i64 0), (7, .imm []), (6, .ptr 2 0 0)], [(2, .arr 4 [[.i .i64 0, .i .i64 0, .s [], .nl]])], 20, 0⟩) 0 (fun _ => True) (Wk.less rfl (by simp) (by simp) (by simp)) trivial ?_
         intro i hi _
         simp
         exact fin_own (by simp; rfl) (by simp [zV, hr]) (by simp) (by simp [zV, hr]))
      | (refine hookH_callX [] [] hO (by simp [handedX, handedXA, handedXs, handedX1, T.closed]) (bk := []) (by simp [backX, backXA, backXs, backX1, T.closed]) rfl (by kernel_rfl) (by simp) (by simp [named]) (by simp [named]) ?_
         simp [dX, hr]
         refine W_for (fun i => ⟨[(9, .i .i64 0), (7, .ref 3 0 0), (6, .ptr 2 0 0)], [(2, .arr 4 [[.i .i64 0, .i .i64 0, .s [], .nl]]), (3, .arr 5 [])], 20, 0⟩) 0 (fun _ => True) (Wk.less rfl (by simp) (by simp) (by simp)) trivial ?_
         intro i hi _
         simp
         exact fin_own (by simp; rfl) (by simp [zV, hr]) (by simp) (by simp [zV, hr]))
  | some ps =>
    have hr : propGet ⟨l, es, nn, ne⟩ (.mk k n s vl) nm = getP ps nm := by simp [propGet, hp]
    have hcp := cnt_props hp
    unfold cl at hcp
    rw [hp] at hO
    simp only at hO
    first
      | refine callK_imm (by simp) hO ?_
      | refine hookH_callX [] [] hO (by simp [handedX, handedXA, handedXs, handedX1, T.closed]) (bk := []) (by simp [backX, backXA, backXs, backX1, T.closed]) rfl (by kernel_rfl) (by simp) (by simp [named]) (by simp [named]) ?_
    simp [dX, hr]
    refine W_for (fun i => ⟨[(9, .i .i64 i), (7, .imm (ps.map sP.I)), (6, .ptr 2 0 0), (2, .s nm)], [(2, .arr 4 [[.i .i64 0, .i .i64 0, .s [], .nl]])], 20, 0⟩) ps.length (fun i => ∀ j q, j < i → ps[j]? = some q → q.name ≠ nm) (Wk.less rfl (by simp) (by simp) (by simp)) (by simp) ?_
    intro i hi hv
    rcases Nat.lt_or_ge i ps.length with h1 | h1
    · obtain ⟨⟨nm', w⟩, hx⟩ : ∃ x, ps[i]? = some x := ⟨_, List.getElem?_eq_getElem h1⟩
      have hw : IntKind.i64.wrap ((i : Int) + 1) = (i : Int) + 1 := wrap1 (by omega)
      by_cases h : nm' = nm
      · have hg := getP_at hx h hv
        simp [-getElem?_pos, hx, hw, h1, h]
        refine callK_val (by simp) (l1Copy_c w (by have := sums_mem (c := Pr.cnt) (List.mem_of_getElem? hx); simp only [Pr.cnt] at this; omega)) (by simp [T.noImm]) ?_
        obtain ⟨k', n', s', l'⟩ := w
        simp [-getElem?_pos, hx, hw, h1, h]
        exact fin_own (by simp; rfl) (by simp [hr, hg]) (by simp) (by simp [hr, hg])
      · simp [-getElem?_pos, hx, hw, h1, h]
        refine ⟨fun j y hj hy => ?_, Wk.to1 rfl (by simp) (by simp) (by simp) (by simp) (by omega)⟩
        rcases Nat.lt_or_ge j i with h6 | h6
        · exact hv j y h6 hy
        · obtain rfl : j = i := by omega
          rw [hx] at hy; simp at hy; subst hy; exact h
    · have h2 : ¬ i < ps.length := by omega
      have hg := getP_none fun j q hq => hv j q (by have := (List.getElem?_eq_some_iff.1 hq).1; omega) hq
      simp [h2]
      exact fin_own (by simp; rfl) (by simp [zV, hr, hg]) (by simp) (by simp [zV, hr, hg])
open Classical in
theorem specPropGet_c (g : Gr) (hf : g.fit) (hc : g.cnt ≤ 2 ^ 20) (v : Vl) (hv : v.fit) (nm : Tx) : Rv Try.prog 52 [.agg (sG.I g), .agg (sV.I v), .s nm] (.agg (sV.O (if GOk g ∧ vOk v = true then propGet g v nm else zV))) := by
  have h1 := specGraphOk_c g hf
  have h2 := specValueOk_c v hv
  have h3 := l2Get_c g ⟨hf.1, hf.2.2.1⟩ hc v nm
  have hz : ∀ b : Bool, b = true ∨ b = false := fun b => by cases b <;> simp
  obtain ⟨l, es, nn, ne⟩ := g
  obtain ⟨k, n, s, vl⟩ := v
  refine via_spec_PropGet (by simp) ?_
  simp [pc_spec_PropGet]
  refine callK_val (by simp) h1 rfl ?_
  by_cases g1 : GOk ⟨l, es, nn, ne⟩
  · simp [g1]
    refine callK_val (by simp) h2 rfl ?_
    by_cases g2 : vOk (.mk k n s vl) = true
    · simp [g1, g2]
      refine callK_val (by simp) h3 (by simp [T.noImm]) ?_
      obtain ⟨⟨k', n', s', l'⟩, hr⟩ : ∃ r, propGet ⟨l, es, nn, ne⟩ (.mk k n s vl) nm = r := ⟨_, rfl⟩
      simp [g1, g2, hr]
      exact fin_own (by simp; rfl) (by simp [g1, g2, hr]) (by simp) (by simp [g1, g2, hr])
    · simp [g1, g2]
      exact fin_own (by simp; rfl) (by simp [zV, g1, g2]) (by simp) (by simp [zV, g1, g2])
  · simp [g1]
    exact fin_own (by simp; rfl) (by simp [zV, g1]) (by simp) (by simp [zV, g1])
end Go.Proofs.Ytehdfbhfbidadaa.V
/- Props by name: the program's word. -/
namespace Go.Proofs.Ytehdfbhfbidadaa.V
open Go
set_option linter.unusedVariables false
set_option linter.unusedSimpArgs false
set_option maxHeartbeats 16000000
def zT : List T := [.i .i64 0, .i .i64 0, .s [], .nl]
def getT (ps : List Pr) (nm : Tx) : T := match ps.find? (fun p => decide (p.name = nm)) with | some p => .agg (sV.I p.val) | none => .agg zT
theorem getT_some {ps : List Pr} {nm : Tx} {i : Nat} {p : Pr} (hx : ps[i]? = some p) (h : p.name = nm) (hn : ∀ (j : Nat) (q : Pr), j < i → ps[j]? = some q → q.name ≠ nm) : getT ps nm = .agg (sV.I p.val) := by
  unfold getT
  have : ps.find? (fun p => decide (p.name = nm)) = some p := by
    rw [List.find?_eq_some_iff_getElem]
    obtain ⟨hi, rfl⟩ := List.getElem?_eq_some_iff.1 hx
    exact ⟨by simpa using h, i, hi, rfl, fun j hj => by simpa using hn j _ hj (List.getElem?_eq_getElem (by omega))⟩
  rw [this]
theorem getT_none {ps : List Pr} {nm : Tx} (h : ∀ (j : Nat) (q : Pr), ps[j]? = some q → q.name ≠ nm) : getT ps nm = .agg zT := by
  unfold getT
  have : ps.find? (fun p => decide (p.name = nm)) = none := by
    rw [List.find?_eq_none]
    intro p hp
    obtain ⟨j, hj⟩ := List.mem_iff_getElem?.1 hp
    simpa using h j p hj
  rw [this]
theorem getT_cases (ps : List Pr) (nm : Tx) : (∃ p ∈ ps, getT ps nm = .agg (sV.I p.val) ∧ getP ps nm = p.val) ∨ (getT ps nm = .agg zT ∧ getP ps nm = zV) := by
  unfold getT getP
  cases h : ps.find? (fun p => decide (p.name = nm)) with
  | none => right; simp
  | some p => left; exact ⟨p, List.mem_of_find?_eq_some h, by simp, by simp⟩
theorem propOf_c (ps : List Pr) (hl : ps.length ≤ 2 ^ 20) (nm : Tx) : Rv Try.prog 82 [.imm (ps.map sP.I), .s nm] (getT ps nm) := by
  refine via_impl_propOf (by simp) ?_
  simp [pc_impl_propOf]
  refine W_for (fun i => ⟨[(9, .i .i64 i), (8, .i .i64 ps.length), (7, .imm (ps.map sP.I)), (4, .ptr 0 0 0), (1, .s nm)], [(0, .arr 4 [[.i .i64 0, .i .i64 0, .s [], .nl]])], 20, 0⟩) ps.length (fun i => ∀ j q, j < i → ps[j]? = some q → q.name ≠ nm) (Wk.less rfl (by simp) (by simp) (by simp)) (by simp) ?_
  intro i hi hv
  rcases Nat.lt_or_ge i ps.length with h1 | h1
  · obtain ⟨⟨nm', w⟩, hx⟩ : ∃ x, ps[i]? = some x := ⟨_, List.getElem?_eq_getElem h1⟩
    have hw : IntKind.i64.wrap ((i : Int) + 1) = (i : Int) + 1 := wrap1 (by omega)
    by_cases h : nm' = nm
    · have hg := getT_some hx h hv
      obtain ⟨k', n', s', l'⟩ := w
      simp [-getElem?_pos, hx, hw, h1, h]
      exact fin_own (by simp; rfl) (by simp [hg]) (by simp) (by simp [hg])
    · obtain ⟨k', n', s', l'⟩ := w
      simp [-getElem?_pos, hx, hw, h1, h]
      refine ⟨fun j y hj hy => ?_, Wk.to1 rfl (by simp) (by simp) (by simp) (by simp) (by omega)⟩
      rcases Nat.lt_or_ge j i with h6 | h6
      · exact hv j y h6 hy
      · obtain rfl : j = i := by omega
        rw [hx] at hy; simp at hy; subst hy; exact h
  · have h2 : ¬ i < ps.length := by omega
    have hg := getT_none fun j q hq => hv j q (by have := (List.getElem?_eq_some_iff.1 hq).1; omega) hq
    simp [h2]
    exact fin_own (by simp; rfl) (by simp [zT, hg]) (by simp) (by simp [zT, hg])
theorem propsAt_v (g : Gr) (hf : g.nodes.length ≤ 2 ^ 20 ∧ g.edges.length ≤ 2 ^ 20) (v : Vl) : Vw Try.prog 110 [.agg (sG.I g), .agg (sV.I v)] [] (match propsOf g v with | some ps => .pim [.imm (ps.map sP.I)] | none => .np) := by
  have ok1 : okCall Try.prog 97 = true := by kernel_rfl
  have ok2 : okCall Try.prog 116 = true := by kernel_rfl
  obtain ⟨l, es, nn, ne⟩ := g
  obtain ⟨k, n, s, vl⟩ := v
  obtain ⟨hf1, hf2⟩ := hf
  simp only at hf1 hf2
  have hr : ∀ o : Option (List Pr), (match o with | some ps => T.pim [.imm (ps.map sP.I)] | none => .np).names = [] := fun o => by cases o <;> simp
  refine see_impl_propsAt 0 (by simp) (by simp) (by rw [hr]; simp) (by simp) (by simp) ?_
  by_cases k5 : k = 5
  · subst k5
    simp [pc_impl_propsAt]
    refine hookH_view (nodesOf_v (.imm (l.map sN.I)) (.imm (es.map sE.I)) rfl rfl nn ne) rfl ok1 (by simp) ?_
    simp
    refine callK_val (by simp) (placeN_c l (by omega) n) rfl ?_
    rcases find_pos (f := Nd.id) (id := n) (l := l) with ⟨i, ⟨a, b, c⟩, h1, h2, h3⟩ | ⟨h1, h3⟩
    · have hp : propsOf ⟨l, es, nn, ne⟩ (.mk 5 n s vl) = some c := by unfold propsOf; simp only [Vl.k, Vl.n, if_true]; exact congrArg (Option.map Nd.props) h3
      simp [-getElem?_pos, h1, h2]
      exact fin_view rfl (by simp [hp]) (by simp)
    · have hp : propsOf ⟨l, es, nn, ne⟩ (.mk 5 n s vl) = none := by unfold propsOf; simp only [Vl.k, Vl.n, if_true]; exact congrArg (Option.map Nd.props) h3
      simp [-getElem?_pos, h1]
      exact fin_view rfl (by simp [hp]) (by simp)
  · by_cases k6 : k = 6
    · subst k6
      simp [pc_impl_propsAt]
      refine hookH_view (edgesIn_v (.imm (l.map sN.I)) (.imm (es.map sE.I)) rfl rfl nn ne) rfl ok2 (by simp) ?_
      simp
      refine callK_val (by simp) (placeE_c es (by omega) n) rfl ?_
      rcases find_pos (f := Eg.id) (id := n) (l := es) with ⟨i, ⟨a, b, c, d, e⟩, h1, h2, h3⟩ | ⟨h1, h3⟩
      · have hp : propsOf ⟨l, es, nn, ne⟩ (.mk 6 n s vl) = some e := by unfold propsOf; simp only [Vl.k, Vl.n, if_true, show ¬ (6 : Int) = 5 by omega, if_false]; exact congrArg (Option.map Eg.props) h3
        simp [-getElem?_pos, h1, h2]
        exact fin_view rfl (by simp [hp]) (by simp)
      · have hp : propsOf ⟨l, es, nn, ne⟩ (.mk 6 n s vl) = none := by unfold propsOf; simp only [Vl.k, Vl.n, if_true, show ¬ (6 : Int) = 5 by omega, if_false]; exact congrArg (Option.map Eg.props) h3
        simp [-getElem?_pos, h1]
        exact fin_view rfl (by simp [hp]) (by simp)
    · have hp : propsOf ⟨l, es, nn, ne⟩ (.mk k n s vl) = none := by simp only [propsOf, Vl.k, Vl.n, k5, k6, if_false]
      simp [pc_impl_propsAt, k5, k6]
      exact fin_view rfl (by simp [hp]) (by simp)
def propT (g : Gr) (v : Vl) (nm : Tx) : T := match propsOf g v with | some ps => getT ps nm | none => .agg zT
theorem propIn_c (g : Gr) (hc : g.cnt ≤ 2 ^ 20) (v : Vl) (nm : Tx) : Rv Try.prog 89 [.agg (sG.I g), .agg (sV.I v), .s nm] (propT g v nm) := by
  have ok1 : okCall Try.prog 110 = true := by kernel_rfl
  have hl : g.nodes.length ≤ 2 ^ 20 ∧ g.edges.length ≤ 2 ^ 20 := by unfold Gr.cnt cl at hc; omega
  have hp := propsAt_v g hl v
  have hcp := fun ps h => cnt_props (g := g) (v := v) (ps := ps) h
  obtain ⟨l, es, nn, ne⟩ := g
  obtain ⟨k, n, s, vl⟩ := v
  refine via_impl_propIn (by simp) ?_
  simp [pc_impl_propIn]
  simp at hp
  refine hookH_view hp rfl ok1 (by simp) ?_
  cases hq : propsOf ⟨l, es, nn, ne⟩ (.mk k n s vl) with
  | none =>
    simp
    exact fin_own (by simp; rfl) (by simp [propT, hq, zT]) (by simp) (by simp [propT, hq, zT])
  | some ps =>
    have := hcp ps hq
    unfold cl at this
    simp
    refine callK_imm (by simp) (propOf_c ps (by omega) nm) ?_
    rcases getT_cases ps nm with ⟨⟨nm', k', n', s', l'⟩, _, h1, _⟩ | ⟨h1, _⟩
    · simp [h1]
      exact fin_own (by simp; rfl) (by simp [propT, hq, h1]) (by simp) (by simp [propT, hq, h1])
    · simp [h1, zT]
      exact fin_own (by simp; rfl) (by simp [propT, hq, h1, zT]) (by simp) (by simp [propT, hq, h1, zT])
/-- What is under a name in an ok graph is ok, fits, and is not too large. -/
theorem getP_ok {ps : List Pr} (h : PropsOk ps) (nm : Tx) : vOk (getP ps nm) = true := by
  rcases getT_cases ps nm with ⟨p, hp, _, h1⟩ | ⟨_, h1⟩
  · rw [h1]
    obtain ⟨j, hj⟩ := List.mem_iff_getElem?.1 hp
    have := (h.1 j p hj).1
    simp only [prOk, sto, Bool.and_eq_true] at this
    exact this.2.1
  · rw [h1]; rfl
theorem props_ok {g : Gr} (h : GOk g) {v : Vl} {ps : List Pr} (hp : propsOf g v = some ps) : PropsOk ps := by
  unfold propsOf at hp
  split at hp
  · obtain ⟨x, h1, rfl⟩ := Option.map_eq_some_iff.1 hp
    exact (h.nok x (List.mem_of_find?_eq_some h1)).2
  · split at hp
    · obtain ⟨x, h1, rfl⟩ := Option.map_eq_some_iff.1 hp
      exact (h.eok x (List.mem_of_find?_eq_some h1)).2.1
    · exact absurd hp (by simp)
theorem props_fit {g : Gr} (h : g.fit) {v : Vl} {ps : List Pr} (hp : propsOf g v = some ps) : ∀ p ∈ ps, p.fit := by
  unfold propsOf at hp
  split at hp
  · obtain ⟨x, h1, rfl⟩ := Option.map_eq_some_iff.1 hp
    exact (h.2.1 x (List.mem_of_find?_eq_some h1)).2.2.2.2
  · split at hp
    · obtain ⟨x, h1, rfl⟩ := Option.map_eq_some_iff.1 hp
      exact (h.2.2.2.1 x (List.mem_of_find?_eq_some h1)).2.2.2.2.2
    · exact absurd hp (by simp)
open Classical in
theorem PropGet_c (g : Gr) (hf : g.fit) (hc : g.cnt ≤ 2 ^ 20) (v : Vl) (hv : v.fit) (nm : Tx) : Rv Try.prog 37 [.agg (sG.I g), .agg (sV.I v), .s nm] (.agg (sV.O (if GOk g ∧ vOk v = true then propGet g v nm else zV))) := by
  have h1 := GraphOk_c g hf
  have h2 := ValueOk_c v hv
  have h3 := propIn_c g hc v nm
  have zf : zV.fit := by simp [zV, Vl.fit_mk, i64, ln]
  have zc : zV.cnt ≤ 2 ^ 20 := by simp [zV, Vl.cnt_mk, cl, sums]
  have zo : vOk zV = true := rfl
  have hz := cloneValue_c zV zf zc zo
  have hps := fun ps h => And.intro (cnt_props (g := g) (v := v) (ps := ps) h) (props_fit hf (v := v) (ps := ps) h)
  have hpk := fun (hg : GOk g) ps h => props_ok hg (v := v) (ps := ps) h
  obtain ⟨l, es, nn, ne⟩ := g
  obtain ⟨k, n, s, vl⟩ := v
  refine via_impl_PropGet (by simp) ?_
  simp [pc_impl_PropGet]
  refine callK_val (by simp) h1 rfl ?_
  by_cases g1 : GOk ⟨l, es, nn, ne⟩
  · simp [g1]
    refine callK_val (by simp) h2 rfl ?_
    by_cases g2 : vOk (.mk k n s vl) = true
    · simp [g1, g2]
      refine callK_imm (by simp) h3 ?_
      cases hq : propsOf ⟨l, es, nn, ne⟩ (.mk k n s vl) with
      | none =>
        have e1 : propT ⟨l, es, nn, ne⟩ (.mk k n s vl) nm = .agg zT := by simp [propT, hq]
        have e2 : propGet ⟨l, es, nn, ne⟩ (.mk k n s vl) nm = zV := by simp [propGet, hq]
        simp [g1, g2, e1, zT]
        refine callK_val (xs := [.agg (sV.I zV)]) (by simp [zV]) hz (by simp [T.noImm]) ?_
        simp [zV]
        exact fin_own (by simp; rfl) (by simp [g1, g2, e2, zV]) (by simp) (by simp [g1, g2, e2, zV])
      | some ps =>
        obtain ⟨hcp, hfp⟩ := hps ps hq
        have hok := getP_ok (hpk g1 ps hq) nm
        have e2 : propGet ⟨l, es, nn, ne⟩ (.mk k n s vl) nm = getP ps nm := by simp [propGet, hq]
        rcases getT_cases ps nm with ⟨⟨nm', w⟩, hm, t1, t2⟩ | ⟨t1, t2⟩
        · have e1 : propT ⟨l, es, nn, ne⟩ (.mk k n s vl) nm = .agg (sV.I w) := by simp [propT, hq, t1]
          have hcw : w.cnt ≤ 2 ^ 20 := by
            have := sums_mem (c := Pr.cnt) hm
            unfold cl at hcp
            simp only [Pr.cnt] at this; omega
          have hcl := cloneValue_c w (hfp _ hm).2 hcw (by rw [t2] at hok; exact hok)
          obtain ⟨k', n', s', l'⟩ := w
          simp [g1, g2, e1]
          refine callK_val (by simp) hcl (by simp [T.noImm]) ?_
          simp
          exact fin_own (by simp; rfl) (by simp [g1, g2, e2, t2]) (by simp) (by simp [g1, g2, e2, t2])
        · have e1 : propT ⟨l, es, nn, ne⟩ (.mk k n s vl) nm = .agg zT := by simp [propT, hq, t1]
          simp [g1, g2, e1, zT]
          refine callK_val (xs := [.agg (sV.I zV)]) (by simp [zV]) hz (by simp [T.noImm]) ?_
          simp [zV]
          exact fin_own (by simp; rfl) (by simp [g1, g2, e2, t2, zV]) (by simp) (by simp [g1, g2, e2, t2, zV])
    · simp [g1, g2]
      exact fin_own (by simp; rfl) (by simp [zV, g1, g2]) (by simp) (by simp [zV, g1, g2])
  · simp [g1]
    exact fin_own (by simp; rfl) (by simp [zV, g1]) (by simp) (by simp [zV, g1])
end Go.Proofs.Ytehdfbhfbidadaa.V
/- Copies of texts, props, nodes, edges, graphs. -/
namespace Go.Proofs.Ytehdfbhfbidadaa.V
open Go
set_option linter.unusedVariables false
set_option linter.unusedSimpArgs false
set_option maxHeartbeats 16000000
theorem cloneTexts_c (l : List Tx) (hl : l.length ≤ 2 ^ 20) : Rv Try.prog 156 [.imm (l.map sS.I)] (.own 1 (l.map sS.O)) := by
  refine via_impl_cloneTexts (by simp) ?_
  by_cases h0 : l.length = 0
  · obtain rfl : l = [] := List.length_eq_zero_iff.1 h0
    simp [pc_impl_cloneTexts]
    exact fin_own rfl (by simp) (by simp) (by simp)
  · have h0' : ¬ l = [] := fun h => h0 (by simp [h])
    have hb1 : (l.length : Int) * 16 ≤ 35184372088832 := by omega
    have hb2 : (l.length : Int) ≤ 35184372088832 := by omega
    simp [pc_impl_cloneTexts, h0, h0', hb1, hb2]
    refine hookH_copy (sz := 1) (e := 9) (i := Try.t9) (dT := 80) (sT := 80) (rows := List.replicate l.length [.s []]) (by simp [hget]) rfl rfl (by kernel_rfl) (by kernel_rfl) (by kernel_rfl) (by simp) (by simp [T.cell]) (by simp) (by omega) ?_
    simp
    exact fin_own rfl (by simp) (by simp) (by simp)
theorem cloneProps_c (l : List Pr) (hl : l.length ≤ 2 ^ 20) (h : ∀ p ∈ l, Rv Try.prog 88 [.agg (sV.I p.val)] (.agg (sV.O p.val))) : Rv Try.prog 157 [.imm (l.map sP.I)] (.own 5 (l.map sP.O)) := by
  refine via_impl_cloneProps (by simp) ?_
  by_cases h0 : l.length = 0
  · obtain rfl : l = [] := List.length_eq_zero_iff.1 h0
    simp [pc_impl_cloneProps]
    exact fin_own rfl (by simp) (by simp) (by simp)
  · have h0' : ¬ l = [] := fun h => h0 (by simp [h])
    have hb1 : (l.length : Int) * 72 ≤ 35184372088832 := by omega
    have hb2 : (l.length : Int) ≤ 35184372088832 := by omega
    simp [pc_impl_cloneProps, h0, h0', hb1, hb2]
    refine W_for (fun i => ⟨[(14, .i .i64 i), (13, .i .i64 l.length), (12, .imm (l.map sP.I)), (3, .ref 0 0 l.length)], [(0, .arr 5 ((l.map sP.O).take i ++ List.replicate (l.length - i) [.s [], .i .i64 0, .i .i64 0, .s [], .nl]))], 20, 0⟩) l.length (fun i => True) (Wk.less rfl (by simp) (by simp) (by simp)) trivial ?_
    intro i hi _
    rcases Nat.lt_or_ge i l.length with h2 | h2
    · obtain ⟨v, hx⟩ : ∃ v, l[i]? = some v := ⟨_, List.getElem?_eq_getElem h2⟩
      have hw2 : IntKind.i64.wrap ((i : Int) + 1) = (i : Int) + 1 := wrap1 (by omega)
      have hrow := fill_row sP.O l (z := [.s [], .i .i64 0, .i .i64 0, .s [], .nl]) h2
      have hset := fill_set sP.O l (z := [.s [], .i .i64 0, .i .i64 0, .s [], .nl]) h2
      have hnew := fill_new sP.O hx
      have hg := fun r => fill_get sP.O (l := l) (r := r) (z := [.s [], .i .i64 0, .i .i64 0, .s [], .nl]) h2
      have hs2 := fun r r' => fill_set2 sP.O (l := l) (r := r) (r' := r') (z := [.s [], .i .i64 0, .i .i64 0, .s [], .nl]) h2
      have hcl := fill_clean sP (l := l) (z := [.s [], .i .i64 0, .i .i64 0, .s [], .nl]) (by rfl) (i + 1) (l.length - (i + 1))
      have hv := h v (List.mem_of_getElem? hx)
      obtain ⟨nm, k', n', s', l'⟩ := v
      simp only at hv
      simp [-getElem?_pos, hx, hw2, h2]
      repeat refine need_mk (by decide +kernel) ?_
      refine callK_val (by simp) hv (by simp [T.noImm]) ?_
      simp [-getElem?_pos, hx, hw2, h2, hrow, hset]
      repeat refine need_mk (by decide +kernel) ?_
      refine Wk.trans (Wk.join (b := 0) (r := i) (cs := sP.O ⟨nm, .mk k' n' s' l'⟩) rfl (by simp [hg]; rfl) (by simp) (by simp)) ?_
      exact Wk.to1 rfl (by simp) (by simp) (by simp [hs2, hnew]) hcl (by omega)
    · have h4 : ¬ i < l.length := by omega
      have h5 : l.length - i = 0 := by omega
      have e : (l.map sP.O).take i = l.map sP.O := List.take_of_length_le (by simp; omega)
      simp [h4, h5, e]
      exact fin_own (by simp; rfl) (by simp) (by simp) (by simp)
end Go.Proofs.Ytehdfbhfbidadaa.V
/- Copies of props by the spec. -/
namespace Go.Proofs.Ytehdfbhfbidadaa.V
open Go
set_option linter.unusedVariables false
set_option linter.unusedSimpArgs false
set_option maxHeartbeats 16000000
theorem rns_cl {f : Nat → Nat} : ∀ {ts : List T}, ts.all T.clean = true → rns f ts = ts
  | [], h => by simp [rns]
  | t :: ts, h => by
    simp only [List.all_cons, Bool.and_eq_true] at h
    have : t.rn f = t := by have := h.1; cases t <;> simp [T.clean] at this <;> simp [T.rn]
    simp only [rns, this, rns_cl h.2]
theorem rnr_cl {f : Nat → Nat} : ∀ {rs : List (List T)}, cleanR rs = true → rs.map (rns f) = rs
  | [], h => by simp
  | r :: rs, h => by
    simp only [cleanR, List.all_cons, Bool.and_eq_true] at h
    simp only [List.map_cons, rns_cl h.1]
    rw [rnr_cl (by simpa only [cleanR] using h.2)]
theorem Wk.one {s : St} {b sz nx : Nat} {tm : List (Nat × T)} {rows : List (List T)} (hfb : s.fb = 0) (hnx : 0 < nx) (htm : ∀ p ∈ tm, p.2.rn (fun t => if t = 0 then b else t) = tget s.tm p.1 ∧ ∀ x ∈ p.2.names, x < nx) (hb : hget s.hp b = some (.arr sz rows)) (hcl : cleanR rows = true) : Wk s ⟨tm, [(0, .arr sz rows)], nx, 0⟩ := by
  refine Wk.ren (fun t => if t = 0 then b else t) hfb.symm (by omega) (by omega) htm ?_ (by simp)
  intro p hp
  simp only [List.mem_singleton] at hp
  subst hp
  refine ⟨by simp only [Blk.rn, if_true, rnr_cl hcl]; exact hb, hnx, ?_⟩
  intro x hx
  rw [Blk.names, namesr_clean hcl] at hx
  simp at hx
theorem l2Ps_c (l : List Pr) (hl : l.length ≤ 2 ^ 20) (h : ∀ p ∈ l, p.val.cnt ≤ 2 ^ 20) : Rv Try.prog 153 [.imm (l.map sP.I)] (.own 5 (l.map sP.O)) := by
  refine via_spec_l2Ps (by simp) ?_
  simp [pc_spec_l2Ps]
  refine W_for (fun i => ⟨[(4, .i .i64 i), (3, .ref 0 0 i), (0, .imm (l.map sP.I))], [(0, .arr 5 ((l.map sP.O).take i))], 20, 0⟩) l.length (fun i => True) (Wk.less rfl (by simp) (by simp) (by simp)) trivial ?_
  intro i hi _
  rcases Nat.lt_or_ge i l.length with h2 | h2
  · obtain ⟨v, hx⟩ : ∃ v, l[i]? = some v := ⟨_, List.getElem?_eq_getElem h2⟩
    have hw2 : IntKind.i64.wrap ((i : Int) + 1) = (i : Int) + 1 := wrap1 (by omega)
    have hv := l1Copy_c v.val (h v (List.mem_of_getElem? hx))
    have htt : List.take i (List.take i (l.map sP.O)) = List.take i (l.map sP.O) := by rw [List.take_take]; simp
    have hlA : (List.take i (l.map sP.O)).length = i := by simp; omega
    have hnew := fill_new sP.O hx
    have hcA : cleanR (List.take i (l.map sP.O)) = true := by rw [← List.map_take]; exact sP.crO _
    have hbig : (i + 1) * 72 ≤ 35184372088832 := by omega
    have hmin : min i l.length = i := by omega
    obtain ⟨nm, k', n', s', l'⟩ := v
    simp only at hv
    simp [-getElem?_pos, hx, hw2, h2, hmin]
    repeat refine need_mk (by decide +kernel) ?_
    refine callK_val (by simp) hv (by simp [T.noImm]) ?_
    simp [-getElem?_pos, hx, hw2, h2, hmin, htt, hbig]
    generalize List.take i (l.map sP.O) = A at *
    repeat refine need_mk (by decide +kernel) ?_
    have hg := app1_get hlA
    have hs := app1_set hlA
    refine Wk.trans (Wk.join (b := 132) (r := i) (cs := sP.O ⟨nm, .mk k' n' s' l'⟩) rfl (by simp [hg]; rfl) (by simp) (by simp)) ?_
    have hcN : cleanR (List.take (i + 1) (l.map sP.O)) = true := by rw [← List.map_take]; exact sP.crO _
    exact Wk.one (b := 132) rfl (by simp) (by simp) (by simp [hs, hnew]) hcN
  · have h4 : ¬ i < l.length := by omega
    have e : (l.map sP.O).take i = l.map sP.O := List.take_of_length_le (by simp; omega)
    obtain rfl : i = l.length := by omega
    simp [e]
    exact fin_own (by simp; rfl) (by simp) (by simp) (by simp)
end Go.Proofs.Ytehdfbhfbidadaa.V
/- Copies of graphs by the spec. -/
namespace Go.Proofs.Ytehdfbhfbidadaa.V
open Go
set_option linter.unusedVariables false
set_option linter.unusedSimpArgs false
set_option maxHeartbeats 16000000
theorem l2Copy_c (g : Gr) (hc : g.cnt ≤ 2 ^ 20) : Rv Try.prog 92 [.agg (sG.I g)] (.agg (sG.O g)) := by
  obtain ⟨l, es, nn, ne⟩ := g
  unfold Gr.cnt cl at hc
  simp only at hc
  have hpN : ∀ x ∈ l, x.labels.length ≤ 2 ^ 20 ∧ x.props.length ≤ 2 ^ 20 ∧ ∀ p ∈ x.props, p.val.cnt ≤ 2 ^ 20 := by
    intro x hx
    have h1 := sums_mem (c := Nd.cnt) hx
    have h0 : x.cnt = x.labels.length + sums List.length x.labels + (x.props.length + sums Pr.cnt x.props) := rfl
    refine ⟨by omega, by omega, fun p hp => ?_⟩
    have h2 := sums_mem (c := Pr.cnt) hp
    have h3 : p.cnt = p.name.length + p.val.cnt := rfl
    omega
  have hpE : ∀ x ∈ es, x.props.length ≤ 2 ^ 20 ∧ ∀ p ∈ x.props, p.val.cnt ≤ 2 ^ 20 := by
    intro x hx
    have h1 := sums_mem (c := Eg.cnt) hx
    have h0 : x.cnt = x.kind.length + (x.props.length + sums Pr.cnt x.props) := rfl
    refine ⟨by omega, fun p hp => ?_⟩
    have h2 := sums_mem (c := Pr.cnt) hp
    have h3 : p.cnt = p.name.length + p.val.cnt := rfl
    omega
  refine via_spec_l2Copy (by simp) ?_
  simp [pc_spec_l2Copy]
  refine W_for (fun i => ⟨[(4, .i .i64 i), (1, .ptr 0 0 0), (2, .ptr 1 0 0), (3, .ptr 2 0 0)], [(0, .arr 4 [sG.I ⟨l, es, nn, ne⟩]), (1, .arr 4 [[.nl, .nl, .i .i64 0, .i .i64 0]]), (2, .arr 4 [[.own 3 ((l.map sN.O).take i), .nl, .i .i64 nn, .i .i64 ne]])], 20, 0⟩) l.length (fun _ => True) ?_ trivial ?_
  · refine Wk.trans (Wk.join (b := 2) (r := 0) (cs := [.own 3 [], .nl, .i .i64 nn, .i .i64 ne]) rfl rfl (by simp) (by simp)) ?_
    exact Wk.less rfl (by simp) (by simp) (by simp)
  intro i hi _
  rcases Nat.lt_or_ge i l.length with h1 | h1
  · obtain ⟨x, hx⟩ : ∃ x, l[i]? = some x := ⟨_, List.getElem?_eq_getElem h1⟩
    have hw : IntKind.i64.wrap ((i : Int) + 1) = (i : Int) + 1 := wrap1 (by omega)
    have hmin : min i l.length = i := by omega
    have htt : List.take i (List.take i (l.map sN.O)) = List.take i (l.map sN.O) := by rw [List.take_take]; simp
    have hlA : (List.take i (l.map sN.O)).length = i := by simp; omega
    have hnew := fill_new sN.O hx
    have hcA : cleanR (List.take i (l.map sN.O)) = true := by rw [← List.map_take]; exact sN.crO _
    have hbig : (i + 1) * 56 ≤ 35184372088832 := by omega
    obtain ⟨hb1, hb2, hb3⟩ := hpN x (List.mem_of_getElem? hx)
    have hps := l2Ps_c x.props hb2 hb3
    obtain ⟨id, lb, ps⟩ := x
    simp only at hb1 hb2 hb3 hps
    have hlb : lb.length * 16 ≤ 35184372088832 := by omega
    simp [-getElem?_pos, hx, hw, h1, hmin, hlb]
    repeat refine need_mk (by decide +kernel) ?_
    refine callK_val (by simp) hps (by simp [T.noImm]) ?_
    simp [-getElem?_pos, hx, hw, h1, hmin, htt, hbig, hlb]
    generalize List.take i (l.map sN.O) = A at *
    repeat refine need_mk (by decide +kernel) ?_
    have hg := app1_get hlA
    have hs := app1_set hlA
    have ht := app1_take hlA
    have hSS : lb.map sS.I = lb.map sS.O := rfl
    refine Wk.trans (Wk.join (b := 126) (r := i) (cs := sN.O ⟨id, lb, ps⟩) rfl (by simp [hg]; rfl) (by simp [hSS]) (by simp)) ?_
    refine Wk.trans (Wk.join (b := 2) (r := 0) (cs := [.own 3 ((l.map sN.O).take (i + 1)), .nl, .i .i64 nn, .i .i64 ne]) rfl rfl (by simp [hnew, hs, hcA, hlA, ht, sN.cO]) (by simp)) ?_
    exact Wk.to rfl (by simp) (by simp) (by simp [Blk.names]) (by simp)
  have h2 : ¬ i < l.length := by omega
  have e : (l.map sN.O).take i = l.map sN.O := List.take_of_length_le (by simp; omega)
  simp [h2, e]
  refine W_for (fun i => ⟨[(6, .i .i64 i), (1, .ptr 0 0 0), (2, .ptr 1 0 0), (3, .ptr 2 0 0)], [(0, .arr 4 [sG.I ⟨l, es, nn, ne⟩]), (1, .arr 4 [[.nl, .nl, .i .i64 0, .i .i64 0]]), (2, .arr 4 [[.own 3 (l.map sN.O), .own 5 ((es.map sE.O).take i), .i .i64 nn, .i .i64 ne]])], 20, 0⟩) es.length (fun _ => True) ?_ trivial ?_
  · refine Wk.trans (Wk.join (b := 2) (r := 0) (cs := [.own 3 (l.map sN.O), .own 5 [], .i .i64 nn, .i .i64 ne]) rfl rfl (by simp) (by simp)) ?_
    exact Wk.less rfl (by simp) (by simp) (by simp)
  clear h2 e h1 hi
  intro i hi _
  rcases Nat.lt_or_ge i es.length with h1 | h1
  · obtain ⟨x, hx⟩ : ∃ x, es[i]? = some x := ⟨_, List.getElem?_eq_getElem h1⟩
    have hw : IntKind.i64.wrap ((i : Int) + 1) = (i : Int) + 1 := wrap1 (by omega)
    have hmin : min i es.length = i := by omega
    have htt : List.take i (List.take i (es.map sE.O)) = List.take i (es.map sE.O) := by rw [List.take_take]; simp
    have hlA : (List.take i (es.map sE.O)).length = i := by simp; omega
    have hnew := fill_new sE.O hx
    have hcA : cleanR (List.take i (es.map sE.O)) = true := by rw [← List.map_take]; exact sE.crO _
    have hbig : (i + 1) * 64 ≤ 35184372088832 := by omega
    obtain ⟨hb2, hb3⟩ := hpE x (List.mem_of_getElem? hx)
    have hps := l2Ps_c x.props hb2 hb3
    obtain ⟨id, kd, fr, to, ps⟩ := x
    simp only at hb2 hb3 hps
    simp [-getElem?_pos, hx, hw, h1, hmin]
    repeat refine need_mk (by decide +kernel) ?_
    refine callK_val (by simp) hps (by simp [T.noImm]) ?_
    simp [-getElem?_pos, hx, hw, h1, hmin, htt, hbig]
    generalize List.take i (es.map sE.O) = A at *
    repeat refine need_mk (by decide +kernel) ?_
    have hg := app1_get hlA
    have hs := app1_set hlA
    have ht := app1_take hlA
    refine Wk.trans (Wk.join (b := 27) (r := i) (cs := sE.O ⟨id, kd, fr, to, ps⟩) rfl (by simp [hg]; rfl) (by simp) (by simp)) ?_
    refine Wk.trans (Wk.join (b := 2) (r := 0) (cs := [.own 3 (l.map sN.O), .own 5 ((es.map sE.O).take (i + 1)), .i .i64 nn, .i .i64 ne]) rfl rfl (by simp [hnew, hs, hcA, hlA, ht, sE.cO]) (by simp)) ?_
    exact Wk.to rfl (by simp) (by simp) (by simp [Blk.names]) (by simp)
  · have h2 : ¬ i < es.length := by omega
    have e : (es.map sE.O).take i = es.map sE.O := List.take_of_length_le (by simp; omega)
    simp [h2, e]
    exact fin_own (by simp; rfl) (by simp) (by simp) (by simp)
end Go.Proofs.Ytehdfbhfbidadaa.V
/- Copies of graphs. -/
namespace Go.Proofs.Ytehdfbhfbidadaa.V
open Go
set_option linter.unusedVariables false
set_option linter.unusedSimpArgs false
set_option maxHeartbeats 16000000
end Go.Proofs.Ytehdfbhfbidadaa.V
/- Edges that go. -/
namespace Go.Proofs.Ytehdfbhfbidadaa.V
open Go
set_option linter.unusedVariables false
set_option linter.unusedSimpArgs false
set_option maxHeartbeats 16000000
/-- A slice that is nil, as one of a block without rows. -/
theorem Wk.nil {s : St} {j k sz : Nat} (h : tget s.tm j = .nl) (hk : s.nx ≤ k) : Wk s ⟨(j, .ref k 0 0) :: s.tm, hset s.hp k (.arr sz []), k + 1, s.fb⟩ := by
  rintro E a w ⟨⟨ρ, O, F, hR⟩, hE⟩
  have h1 := hR.set1 (t := k) (k := .arr sz []) (Ft := []) (M := []) (A' := (· < k + 1)) (ρ' := fun t => if t = k then none else ρ t) (w' := w) (hp0 := s.hp)
    (fun t ht => by omega) (fun t ht => if_neg (by omega)) (fun t ht => by rw [if_neg (by omega)]; exact hR.ρ0 t ht) (fun _ _ => rfl) (fun _ _ h => h) (fun _ _ _ _ _ _ => rfl) (Keep.refl _ _) (by simp) (by omega)
    (by simp only [BR]; exact .inl ⟨trivial, trivial, .inl (by simp)⟩) (by simp) (by simp) (by simp)
  refine ⟨⟨_, O, _, h1.size, h1.defers, h1.fb, h1.ρ0, h1.O0, h1.Olt, h1.Onew, fun i => ?_, h1.hp, h1.nodup, h1.apart, h1.mine, h1.keep⟩, by simp only; omega⟩
  simp only [tget]
  split
  · rename_i e
    subst e
    have := hR.tm j
    rw [h] at this
    simp only [CV, CI] at this
    simp only [CV]
    exact ⟨by omega, .inl ⟨by simp, trivial, trivial, _, this⟩⟩
  · exact h1.tm i
def dE (e : Eg) : List T := [.i .i64 e.id, .s e.kind, .i .i64 e.frm, .i .i64 e.to, .dead]
end Go.Proofs.Ytehdfbhfbidadaa.V
/- Copies of graphs by the program. -/
namespace Go.Proofs.Ytehdfbhfbidadaa.V
open Go
set_option linter.unusedVariables false
set_option linter.unusedSimpArgs false
set_option maxHeartbeats 16000000
abbrev zN : List T := [.i .i64 0, .nl, .nl]
abbrev zE : List T := [.i .i64 0, .s [], .i .i64 0, .i .i64 0, .nl]
def cgs (g : Gr) (N E : T) (rest : List (Nat × T)) (nx : Nat) : St := ⟨rest ++ [(1, .ptr 0 0 0), (2, .ptr 1 0 0), (3, .ptr 2 0 0)], [(0, .arr 4 [sG.I g]), (1, .arr 4 [[.nl, .nl, .i .i64 0, .i .i64 0]]), (2, .arr 4 [[N, E, .i .i64 g.nn, .i .i64 g.ne]])], nx, 0⟩
theorem cg_l1 (g : Gr) (hl : g.nodes.length ≤ 2 ^ 20) (hN : ∀ x ∈ g.nodes, x.labels.length ≤ 2 ^ 20 ∧ x.props.length ≤ 2 ^ 20 ∧ ∀ p ∈ x.props, Rv Try.prog 88 [.agg (sV.I p.val)] (.agg (sV.O p.val))) {Q : Exit → St → Prop}
    (hQ : Q (.exit 0) (cgs g (.own 3 (g.nodes.map sN.O)) .nl [(26, .b false), (25, .i .i64 g.nodes.length), (24, .i .i64 g.nodes.length), (23, .imm (g.nodes.map sN.I))] 20)) :
    @loopH Try.prog modes 79 ⟨lb_impl_cloneGraph_0⟩ (cgs g (.own 3 (List.replicate g.nodes.length zN)) .nl [(25, .i .i64 0), (24, .i .i64 g.nodes.length), (23, .imm (g.nodes.map sN.I))] 20) ⟨Q⟩ := by
  obtain ⟨l, es, nn, ne⟩ := g
  simp only at hl hN hQ
  have hrep : ∀ k, cleanR (List.replicate k zN) = true := by intro k; simp [cleanR, T.clean]
  refine W_for (fun i => cgs ⟨l, es, nn, ne⟩ (.own 3 ((l.map sN.O).take i ++ List.replicate (l.length - i) zN)) .nl [(25, .i .i64 i), (24, .i .i64 l.length), (23, .imm (l.map sN.I))] 20) l.length (fun _ => True) (Wk.less rfl (by simp [cgs]) (by simp [cgs]) (by simp [cgs])) trivial ?_
  intro i hi _
  simp only [cgs, List.cons_append, List.nil_append] at hQ ⊢
  rcases Nat.lt_or_ge i l.length with h1 | h1
  · obtain ⟨x, hx⟩ : ∃ x, l[i]? = some x := ⟨_, List.getElem?_eq_getElem h1⟩
    have hw : IntKind.i64.wrap ((i : Int) + 1) = (i : Int) + 1 := wrap1 (by omega)
    have hrow := fill_row sN.O l (z := zN) h1
    have hset := fill_set sN.O l (z := zN) h1
    have hnew := fill_new sN.O hx
    have hg := fun r => fill_get sN.O (l := l) (r := r) (z := zN) h1
    have hs2 := fun r r' => fill_set2 sN.O (l := l) (r := r) (r' := r') (z := zN) h1
    obtain ⟨k1, k2, k3⟩ := hN x (List.mem_of_getElem? hx)
    have ht := cloneTexts_c x.labels k1
    have hps := cloneProps_c x.props k2 k3
    obtain ⟨id, lb, ps⟩ := x
    simp only at ht hps k1 k2
    simp [lb_impl_cloneGraph_0, -getElem?_pos, hx, hw, h1, hrow, hset]
    repeat refine need_mk (by decide +kernel) ?_
    refine callK_val (by simp) ht (by simp [T.noImm]) ?_
    simp [-getElem?_pos, hx, hw, h1, hrow, hset]
    repeat refine need_mk (by decide +kernel) ?_
    refine callK_val (by simp) hps (by simp [T.noImm]) ?_
    have hml : min i l.length + (l.length - i) = l.length := by omega
    have hmi : (min (i : Int) (l.length : Int)) + ((l.length - i : Nat) : Int) = l.length := by omega
    have htl : ∀ r, ((l.map sN.O).take i ++ r :: List.replicate (l.length - (i + 1)) zN).take l.length = (l.map sN.O).take i ++ r :: List.replicate (l.length - (i + 1)) zN := fun r => List.take_of_length_le (by simp; omega)
    have hle : l.length ≤ min i l.length + (l.length - (i + 1) + 1) := by omega
    have hcA : cleanR ((l.map sN.O).take i) = true := by rw [← List.map_take]; exact sN.crO _
    simp [-getElem?_pos, hx, hw, h1, hrow, hset, hml, hmi]
    repeat refine need_mk (by decide +kernel) ?_
    refine Wk.trans (Wk.join (b := 30) (r := i) (cs := sN.O ⟨id, lb, ps⟩) rfl (by simp [hg]; rfl) (by simp) (by simp)) ?_
    refine Wk.trans (Wk.join (b := 2) (r := 0) (cs := [.own 3 ((l.map sN.O).take (i + 1) ++ List.replicate (l.length - (i + 1)) zN), .nl, .i .i64 nn, .i .i64 ne]) rfl rfl (by simp [hs2, hnew, hle, htl, hcA, hrep]) (by simp)) ?_
    exact Wk.to rfl (by simp) (by simp) (by simp [Blk.names]) (by simp)
  · have h2 : ¬ i < l.length := by omega
    obtain rfl : i = l.length := by omega
    have e1 : (l.map sN.O).take l.length = l.map sN.O := List.take_of_length_le (by simp)
    simp [lb_impl_cloneGraph_0, e1]
    exact hQ
theorem cg_l2 (g : Gr) (hl : g.edges.length ≤ 2 ^ 20) (hE : ∀ x ∈ g.edges, x.props.length ≤ 2 ^ 20 ∧ ∀ p ∈ x.props, Rv Try.prog 88 [.agg (sV.I p.val)] (.agg (sV.O p.val))) {Q : Exit → St → Prop}
    (hQ : Q (.exit 2) (cgs g (.own 3 (g.nodes.map sN.O)) (.own 5 (g.edges.map sE.O)) [(57, .b false), (56, .i .i64 g.edges.length), (55, .i .i64 g.edges.length), (54, .imm (g.edges.map sE.I))] 60)) :
    @loopH Try.prog modes 79 ⟨lb_impl_cloneGraph_1⟩ (cgs g (.own 3 (g.nodes.map sN.O)) (.own 5 (List.replicate g.edges.length zE)) [(56, .i .i64 0), (55, .i .i64 g.edges.length), (54, .imm (g.edges.map sE.I))] 60) ⟨Q⟩ := by
  obtain ⟨l, es, nn, ne⟩ := g
  simp only at hl hE hQ
  have hrep : ∀ k, cleanR (List.replicate k zE) = true := by intro k; simp [cleanR, T.clean]
  refine W_for (fun i => cgs ⟨l, es, nn, ne⟩ (.own 3 (l.map sN.O)) (.own 5 ((es.map sE.O).take i ++ List.replicate (es.length - i) zE)) [(56, .i .i64 i), (55, .i .i64 es.length), (54, .imm (es.map sE.I))] 60) es.length (fun _ => True) (Wk.less rfl (by simp [cgs]) (by simp [cgs]) (by simp [cgs])) trivial ?_
  intro i hi _
  simp only [cgs, List.cons_append, List.nil_append] at hQ ⊢
  rcases Nat.lt_or_ge i es.length with h1 | h1
  · obtain ⟨x, hx⟩ : ∃ x, es[i]? = some x := ⟨_, List.getElem?_eq_getElem h1⟩
    have hw : IntKind.i64.wrap ((i : Int) + 1) = (i : Int) + 1 := wrap1 (by omega)
    have hrow := fill_row sE.O es (z := zE) h1
    have hset := fill_set sE.O es (z := zE) h1
    have hnew := fill_new sE.O hx
    have hg := fun r => fill_get sE.O (l := es) (r := r) (z := zE) h1
    have hs2 := fun r r' => fill_set2 sE.O (l := es) (r := r) (r' := r') (z := zE) h1
    obtain ⟨k2, k3⟩ := hE x (List.mem_of_getElem? hx)
    have hps := cloneProps_c x.props k2 k3
    obtain ⟨id, kd, fr, to, ps⟩ := x
    simp only at hps k2
    have hml : min i es.length + (es.length - i) = es.length := by omega
    have hmi : (min (i : Int) (es.length : Int)) + ((es.length - i : Nat) : Int) = es.length := by omega
    have htl : ∀ r, ((es.map sE.O).take i ++ r :: List.replicate (es.length - (i + 1)) zE).take es.length = (es.map sE.O).take i ++ r :: List.replicate (es.length - (i + 1)) zE := fun r => List.take_of_length_le (by simp; omega)
    have hle : es.length ≤ min i es.length + (es.length - (i + 1) + 1) := by omega
    have hcA : cleanR ((es.map sE.O).take i) = true := by rw [← List.map_take]; exact sE.crO _
    simp [lb_impl_cloneGraph_1, -getElem?_pos, hx, hw, h1, hrow, hset, hml, hmi]
    repeat refine need_mk (by decide +kernel) ?_
    refine callK_val (by simp) hps (by simp [T.noImm]) ?_
    simp [-getElem?_pos, hx, hw, h1, hrow, hset, hml, hmi]
    repeat refine need_mk (by decide +kernel) ?_
    refine Wk.trans (Wk.join (b := 70) (r := i) (cs := sE.O ⟨id, kd, fr, to, ps⟩) rfl (by simp [hg]; rfl) (by simp) (by simp)) ?_
    refine Wk.trans (Wk.join (b := 2) (r := 0) (cs := [.own 3 (l.map sN.O), .own 5 ((es.map sE.O).take (i + 1) ++ List.replicate (es.length - (i + 1)) zE), .i .i64 nn, .i .i64 ne]) rfl rfl (by simp [hs2, hnew, hle, htl, hcA, hrep]) (by simp)) ?_
    exact Wk.to rfl (by simp) (by simp) (by simp [Blk.names]) (by simp)
  · have h2 : ¬ i < es.length := by omega
    obtain rfl : i = es.length := by omega
    have e1 : (es.map sE.O).take es.length = es.map sE.O := List.take_of_length_le (by simp)
    simp [lb_impl_cloneGraph_1, e1]
    exact hQ
theorem cloneGraph_c (g : Gr) (hc : g.cnt ≤ 2 ^ 20) (hN : ∀ x ∈ g.nodes, ∀ p ∈ x.props, Rv Try.prog 88 [.agg (sV.I p.val)] (.agg (sV.O p.val))) (hE : ∀ x ∈ g.edges, ∀ p ∈ x.props, Rv Try.prog 88 [.agg (sV.I p.val)] (.agg (sV.O p.val))) : Rv Try.prog 96 [.agg (sG.I g)] (.agg (sG.O g)) := by
  have hpN : ∀ x ∈ g.nodes, x.labels.length ≤ 2 ^ 20 ∧ x.props.length ≤ 2 ^ 20 ∧ ∀ p ∈ x.props, Rv Try.prog 88 [.agg (sV.I p.val)] (.agg (sV.O p.val)) := by
    intro x hx
    have h1 := sums_mem (c := Nd.cnt) hx
    have h0 : x.cnt = x.labels.length + sums List.length x.labels + (x.props.length + sums Pr.cnt x.props) := rfl
    unfold Gr.cnt cl at hc
    exact ⟨by omega, by omega, hN x hx⟩
  have hpE : ∀ x ∈ g.edges, x.props.length ≤ 2 ^ 20 ∧ ∀ p ∈ x.props, Rv Try.prog 88 [.agg (sV.I p.val)] (.agg (sV.O p.val)) := by
    intro x hx
    have h1 := sums_mem (c := Eg.cnt) hx
    have h0 : x.cnt = x.kind.length + (x.props.length + sums Pr.cnt x.props) := rfl
    unfold Gr.cnt cl at hc
    exact ⟨by omega, hE x hx⟩
  have hl1 : g.nodes.length ≤ 2 ^ 20 := by unfold Gr.cnt cl at hc; omega
  have hl2 : g.edges.length ≤ 2 ^ 20 := by unfold Gr.cnt cl at hc; omega
  have L1 := fun {Q} => @cg_l1 g hl1 hpN Q
  have L2 := fun {Q} => @cg_l2 g hl2 hpE Q
  obtain ⟨l, es, nn, ne⟩ := g
  simp only [cgs, List.cons_append, List.nil_append] at L1 L2 hl1 hl2
  refine via_impl_cloneGraph (by simp) ?_
  have hb1 : (l.length : Int) * 56 ≤ 35184372088832 := by omega
  have hb2 : (l.length : Int) ≤ 35184372088832 := by omega
  have hb3 : (es.length : Int) * 64 ≤ 35184372088832 := by omega
  have hb4 : (es.length : Int) ≤ 35184372088832 := by omega
  have hrep : ∀ k, cleanR (List.replicate k zN) = true := by intro k; simp [cleanR, T.clean]
  have hrepE : ∀ k, cleanR (List.replicate k zE) = true := by intro k; simp [cleanR, T.clean]
  by_cases h0 : l.length = 0
  · simp [pc_impl_cloneGraph, h0]
    refine W_wk (s' := ⟨[(25, .i .i64 0), (24, .i .i64 l.length), (23, .imm (l.map sN.I)), (1, .ptr 0 0 0), (2, .ptr 1 0 0), (3, .ptr 2 0 0)], [(0, .arr 4 [sG.I ⟨l, es, nn, ne⟩]), (1, .arr 4 [[.nl, .nl, .i .i64 0, .i .i64 0]]), (2, .arr 4 [[.own 3 (List.replicate l.length zN), .nl, .i .i64 nn, .i .i64 ne]])], 20, 0⟩) ?_ (L1 ?_)
    · refine Wk.trans (Wk.join (b := 2) (r := 0) (cs := [.own 3 [], .nl, .i .i64 nn, .i .i64 ne]) rfl rfl (by simp) (by simp)) ?_
      exact Wk.less rfl (by simp) (by simp [h0]) (by simp [h0])
    · clear h0
      by_cases h3 : es.length = 0
      · simp [h3]
        refine W_wk (s' := ⟨[(56, .i .i64 0), (55, .i .i64 es.length), (54, .imm (es.map sE.I)), (1, .ptr 0 0 0), (2, .ptr 1 0 0), (3, .ptr 2 0 0)], [(0, .arr 4 [sG.I ⟨l, es, nn, ne⟩]), (1, .arr 4 [[.nl, .nl, .i .i64 0, .i .i64 0]]), (2, .arr 4 [[.own 3 (l.map sN.O), .own 5 (List.replicate es.length zE), .i .i64 nn, .i .i64 ne]])], 60, 0⟩) ?_ (L2 ?_)
        · refine Wk.trans (Wk.join (b := 2) (r := 0) (cs := [.own 3 (l.map sN.O), .own 5 [], .i .i64 nn, .i .i64 ne]) rfl rfl (by simp) (by simp)) ?_
          exact Wk.less rfl (by simp) (by simp [h3]) (by simp [h3])
        · simp
          exact fin_own (by simp; rfl) (by simp) (by simp) (by simp)
      · have h3' : 0 < es.length := by omega
        simp [h3', hb3, hb4]
        refine W_wk (s' := ⟨[(56, .i .i64 0), (55, .i .i64 es.length), (54, .imm (es.map sE.I)), (1, .ptr 0 0 0), (2, .ptr 1 0 0), (3, .ptr 2 0 0)], [(0, .arr 4 [sG.I ⟨l, es, nn, ne⟩]), (1, .arr 4 [[.nl, .nl, .i .i64 0, .i .i64 0]]), (2, .arr 4 [[.own 3 (l.map sN.O), .own 5 (List.replicate es.length zE), .i .i64 nn, .i .i64 ne]])], 60, 0⟩) ?_ (L2 ?_)
        · refine Wk.trans (Wk.join (b := 2) (r := 0) (cs := [.own 3 (l.map sN.O), .own 5 (List.replicate es.length zE), .i .i64 nn, .i .i64 ne]) rfl rfl (by simp [hrepE]) (by simp)) ?_
          exact Wk.less rfl (by simp) (by simp) (by simp)
        · simp
          exact fin_own (by simp; rfl) (by simp) (by simp) (by simp)
  · have h0' : 0 < l.length := by omega
    simp [pc_impl_cloneGraph, h0', hb1, hb2]
    refine W_wk (s' := ⟨[(25, .i .i64 0), (24, .i .i64 l.length), (23, .imm (l.map sN.I)), (1, .ptr 0 0 0), (2, .ptr 1 0 0), (3, .ptr 2 0 0)], [(0, .arr 4 [sG.I ⟨l, es, nn, ne⟩]), (1, .arr 4 [[.nl, .nl, .i .i64 0, .i .i64 0]]), (2, .arr 4 [[.own 3 (List.replicate l.length zN), .nl, .i .i64 nn, .i .i64 ne]])], 20, 0⟩) ?_ (L1 ?_)
    · refine Wk.trans (Wk.join (b := 2) (r := 0) (cs := [.own 3 (List.replicate l.length zN), .nl, .i .i64 nn, .i .i64 ne]) rfl rfl (by simp [hrep]) (by simp)) ?_
      exact Wk.less rfl (by simp) (by simp) (by simp)
    · clear h0 h0'
      by_cases h3 : es.length = 0
      · simp [h3]
        refine W_wk (s' := ⟨[(56, .i .i64 0), (55, .i .i64 es.length), (54, .imm (es.map sE.I)), (1, .ptr 0 0 0), (2, .ptr 1 0 0), (3, .ptr 2 0 0)], [(0, .arr 4 [sG.I ⟨l, es, nn, ne⟩]), (1, .arr 4 [[.nl, .nl, .i .i64 0, .i .i64 0]]), (2, .arr 4 [[.own 3 (l.map sN.O), .own 5 (List.replicate es.length zE), .i .i64 nn, .i .i64 ne]])], 60, 0⟩) ?_ (L2 ?_)
        · refine Wk.trans (Wk.join (b := 2) (r := 0) (cs := [.own 3 (l.map sN.O), .own 5 [], .i .i64 nn, .i .i64 ne]) rfl rfl (by simp) (by simp)) ?_
          exact Wk.less rfl (by simp) (by simp [h3]) (by simp [h3])
        · simp
          exact fin_own (by simp; rfl) (by simp) (by simp) (by simp)
      · have h3' : 0 < es.length := by omega
        simp [h3', hb3, hb4]
        refine W_wk (s' := ⟨[(56, .i .i64 0), (55, .i .i64 es.length), (54, .imm (es.map sE.I)), (1, .ptr 0 0 0), (2, .ptr 1 0 0), (3, .ptr 2 0 0)], [(0, .arr 4 [sG.I ⟨l, es, nn, ne⟩]), (1, .arr 4 [[.nl, .nl, .i .i64 0, .i .i64 0]]), (2, .arr 4 [[.own 3 (l.map sN.O), .own 5 (List.replicate es.length zE), .i .i64 nn, .i .i64 ne]])], 60, 0⟩) ?_ (L2 ?_)
        · refine Wk.trans (Wk.join (b := 2) (r := 0) (cs := [.own 3 (l.map sN.O), .own 5 (List.replicate es.length zE), .i .i64 nn, .i .i64 ne]) rfl rfl (by simp [hrepE]) (by simp)) ?_
          exact Wk.less rfl (by simp) (by simp) (by simp)
        · simp
          exact fin_own (by simp; rfl) (by simp) (by simp) (by simp)
end Go.Proofs.Ytehdfbhfbidadaa.V
/- Edges dropped. -/
namespace Go.Proofs.Ytehdfbhfbidadaa.V
open Go
set_option linter.unusedVariables false
set_option linter.unusedSimpArgs false
set_option maxHeartbeats 16000000
/-- A contract of a call whose result is shared for good. -/
def Ri (P : Program) (f : Nat) (xs : List T) (v : T) : Prop := ∃ r, Rv P f xs r ∧ r.toI = v
theorem callK_ri {P : Program} {s : St} {i f : Nat} {args xs : List T} {v : T} {K : T → Δ → List Nat → Prop} (hx : handed s [] 0 args = some xs) (hr : Ri P f xs v) (hk : K v ((named [] false 0 args).map fun t => (t, none)) (named [] false 0 args)) : callK P s i [] .imm f args K := by
  obtain ⟨r, h1, rfl⟩ := hr
  exact callK_imm hx h1 hk
theorem fin_eaten {P : Program} {s : St} {rs : List ResultVar} {args : List T} {r : T} {xs : List T} (h1 : resK P s rs = some xs) (h2 : rfP s (res1 xs) r) (h4 : (rfN (res1 xs) r).Nodup) : fin P rs args r (args.map fun _ => .dead) .ret s :=
  fin_eat h1 (rfP_ok h2) h4
theorem fin_wk {P : Program} {s s' : St} {rs : List ResultVar} {args outs : List T} {r : T} {e : Exit} (hw : Wk s s') (h : fin P rs args r outs e s') : fin P rs args r outs e s := by
  obtain ⟨h1, s2, h2, h3⟩ := h
  exact ⟨h1, s2, Wk.trans hw h2, h3⟩
def zG : Gr := ⟨[], [], 0, 0⟩
def gDropE (g : Gr) (id : Int) : Gr := { g with edges := g.edges.filter (fun e => !decide (e.id = id)) }
open Classical in
noncomputable def edgeDrop (g : Gr) (id : Int) : Gr × Bool :=
  if GOk g then (if posOf Eg.id id g.edges < 0 then (g, false) else (gDropE g id, true)) else (zG, false)
theorem PropsOk.val {ps : List Pr} (h : PropsOk ps) : ∀ p ∈ ps, vOk p.val = true := by
  intro p hp
  obtain ⟨j, hj⟩ := List.mem_iff_getElem?.1 hp
  have := (h.1 j p hj).1
  simp only [prOk, sto, Bool.and_eq_true] at this
  exact this.2.1
theorem cloneOk {g : Gr} (hf : g.fit) (hc : g.cnt ≤ 2 ^ 20) (hg : GOk g) : Rv Try.prog 96 [.agg (sG.I g)] (.agg (sG.O g)) := by
  refine cloneGraph_c g hc ?_ ?_
  · intro x hx p hp
    have h1 := sums_mem (c := Nd.cnt) hx
    have h0 : x.cnt = x.labels.length + sums List.length x.labels + (x.props.length + sums Pr.cnt x.props) := rfl
    have h2 := sums_mem (c := Pr.cnt) hp
    have h3 : p.cnt = p.name.length + p.val.cnt := rfl
    unfold Gr.cnt cl at hc
    exact cloneValue_c p.val ((hf.2.1 x hx).2.2.2.2 p hp).2 (by omega) (PropsOk.val (hg.nok x hx).2 p hp)
  · intro x hx p hp
    have h1 := sums_mem (c := Eg.cnt) hx
    have h0 : x.cnt = x.kind.length + (x.props.length + sums Pr.cnt x.props) := rfl
    have h2 := sums_mem (c := Pr.cnt) hp
    have h3 : p.cnt = p.name.length + p.val.cnt := rfl
    unfold Gr.cnt cl at hc
    exact cloneValue_c p.val ((hf.2.2.2.1 x hx).2.2.2.2.2 p hp).2 (by omega) (PropsOk.val (hg.eok x hx).2.1 p hp)
end Go.Proofs.Ytehdfbhfbidadaa.V
/- Nodes added. -/
namespace Go.Proofs.Ytehdfbhfbidadaa.V
open Go
set_option linter.unusedVariables false
set_option linter.unusedSimpArgs false
set_option maxHeartbeats 16000000
def gAddN (g : Gr) (lb : List Tx) (ps : List Pr) : Gr := ⟨g.nodes ++ [⟨g.nn, lb, ps⟩], g.edges, g.nn + 1, g.ne⟩
def addNOk (g : Gr) (lb : List Tx) (ps : List Pr) : Prop := LabelsOk lb ∧ PropsOk ps ∧ g.nodes.length < 12 ∧ g.nn < 1000000000
open Classical in
noncomputable def nAdd (g : Gr) (lb : List Tx) (ps : List Pr) : Gr × Bool := if addNOk g lb ps then (gAddN g lb ps, true) else (g, false)
open Classical in
noncomputable def nodeAdd (g : Gr) (lb : List Tx) (ps : List Pr) : Gr × Int × Bool :=
  if GOk g then ((nAdd g lb ps).1, if addNOk g lb ps then g.nn else 0, decide (addNOk g lb ps)) else (zG, 0, false)
theorem l2AddNode_c (g : Gr) (hi : i64 g.nn) (hl1 : g.nodes.length ≤ 2 ^ 40) (lb : List Tx) (hlb : ln lb ∧ ∀ x ∈ lb, ln x) (ps : List Pr) (hps : ln ps ∧ ∀ x ∈ ps, x.fit) (hcp : cl Pr.cnt ps ≤ 2 ^ 20) :
    Ret Try.prog 176 [.agg (sG.O g), .imm (lb.map sS.I), .imm (ps.map sP.I)] (.tup [.agg (sG.O (nAdd g lb ps).1), .b (nAdd g lb ps).2]) [.dead, .dead, .dead] := by
  have h1 := l2Labels_c lb hlb.1 hlb.2
  have h2 := l2Props_c ps hps.1 hps.2
  have hlp : ps.length ≤ 2 ^ 20 := by unfold cl at hcp; omega
  have h3 := l2Ps_c ps hlp (fun p hp => by
    have h2 := sums_mem (c := Pr.cnt) hp
    have h3 : p.cnt = p.name.length + p.val.cnt := rfl
    unfold cl at hcp; omega)
  obtain ⟨l, es, nn, ne⟩ := g
  simp only at hi hl1
  refine via_spec_l2AddNode (by simp) ?_
  by_cases c1 : LabelsOk lb
  · by_cases c2 : PropsOk ps
    · by_cases c3 : 12 ≤ (l.length : Int)
      · have hno : ¬ addNOk ⟨l, es, nn, ne⟩ lb ps := fun h => by have := h.2.2.1; simp only at this; omega
        simp [pc_spec_l2AddNode]
        refine callK_val (by simp) h1 rfl ?_
        simp [c1]
        refine callK_val (by simp) h2 rfl ?_
        simp [c1, c2, c3]
        exact fin_eaten (by simp; rfl) (by simp [nAdd, hno]) (by simp [nAdd, hno])
      · by_cases c4 : 1000000000 ≤ nn
        · have hno : ¬ addNOk ⟨l, es, nn, ne⟩ lb ps := fun h => by have := h.2.2.2; simp only at this; omega
          simp [pc_spec_l2AddNode]
          refine callK_val (by simp) h1 rfl ?_
          simp [c1]
          refine callK_val (by simp) h2 rfl ?_
          simp [c1, c2, c3, c4]
          exact fin_eaten (by simp; rfl) (by simp [nAdd, hno]) (by simp [nAdd, hno])
        · have hyes : addNOk ⟨l, es, nn, ne⟩ lb ps := ⟨c1, c2, by simp only; omega, by simp only; omega⟩
          have hw : IntKind.i64.wrap (nn + 1) = nn + 1 := wrap64 (by have := hi.1; omega) (by omega)
          have hb1 : lb.length * 16 ≤ 35184372088832 := by have := c1.2; omega
          have hb2 : (l.length + 1) * 56 ≤ 35184372088832 := by omega
          simp [pc_spec_l2AddNode]
          refine callK_val (by simp) h1 rfl ?_
          simp [c1]
          refine callK_val (by simp) h2 rfl ?_
          simp [c1, c2, c3, c4, hb1, hb2, hw]
          repeat refine need_mk (by decide +kernel) ?_
          refine callK_val (by simp) h3 (by simp [T.noImm]) ?_
          simp [c1, c2, c3, c4, hb1, hb2, hw]
          repeat refine need_mk (by decide +kernel) ?_
          have hA : (l.map sN.O).length = l.length := by simp
          have hg2 := app1_get hA
          have hs3 := app1_set hA
          have hSS : lb.map sS.I = lb.map sS.O := rfl
          refine fin_wk (Wk.join (b := 92) (r := l.length) (cs := sN.O ⟨nn, lb, ps⟩) rfl (by simp [hg2]; rfl) (by simp [hSS]) (by simp)) ?_
          simp [hs3]
          exact fin_eaten (by simp; rfl) (by simp [nAdd, hyes, gAddN, List.take_of_length_le]) (by simp [nAdd, hyes, gAddN])
    · have hno : ¬ addNOk ⟨l, es, nn, ne⟩ lb ps := fun h => c2 h.2.1
      simp [pc_spec_l2AddNode]
      refine callK_val (by simp) h1 rfl ?_
      simp [c1]
      refine callK_val (by simp) h2 rfl ?_
      simp [c1, c2]
      exact fin_eaten (by simp; rfl) (by simp [nAdd, hno]) (by simp [nAdd, hno])
  · have hno : ¬ addNOk ⟨l, es, nn, ne⟩ lb ps := fun h => c1 h.1
    simp [pc_spec_l2AddNode]
    refine callK_val (by simp) h1 rfl ?_
    simp [c1]
    exact fin_eaten (by simp; rfl) (by simp [nAdd, hno]) (by simp [nAdd, hno])
end Go.Proofs.Ytehdfbhfbidadaa.V
/- Nodes added: the two functions. -/
namespace Go.Proofs.Ytehdfbhfbidadaa.V
open Go
set_option linter.unusedVariables false
set_option linter.unusedSimpArgs false
set_option maxHeartbeats 16000000
end Go.Proofs.Ytehdfbhfbidadaa.V
/- Edges added. -/
namespace Go.Proofs.Ytehdfbhfbidadaa.V
open Go
set_option linter.unusedVariables false
set_option linter.unusedSimpArgs false
set_option maxHeartbeats 16000000
def gAddE (g : Gr) (kd : Tx) (fr to : Int) (ps : List Pr) : Gr := ⟨g.nodes, g.edges ++ [⟨g.ne, kd, fr, to, ps⟩], g.nn, g.ne + 1⟩
def addEOk (g : Gr) (kd : Tx) (fr to : Int) (ps : List Pr) : Prop := nameOk kd = true ∧ PropsOk ps ∧ 0 ≤ posOf Nd.id fr g.nodes ∧ 0 ≤ posOf Nd.id to g.nodes ∧ g.edges.length < 16 ∧ g.ne < 1000000000
open Classical in
noncomputable def eAdd (g : Gr) (kd : Tx) (fr to : Int) (ps : List Pr) : Gr × Bool := if addEOk g kd fr to ps then (gAddE g kd fr to ps, true) else (g, false)
open Classical in
noncomputable def edgeAdd (g : Gr) (kd : Tx) (fr to : Int) (ps : List Pr) : Gr × Int × Bool :=
  if GOk g then ((eAdd g kd fr to ps).1, if addEOk g kd fr to ps then g.ne else 0, decide (addEOk g kd fr to ps)) else (zG, 0, false)
theorem l2AddEdge_c (g : Gr) (hi : i64 g.ne) (hl0 : g.nodes.length ≤ 2 ^ 40) (hl1 : g.edges.length ≤ 2 ^ 40) (kd : Tx) (hkd : ln kd) (fr to : Int) (ps : List Pr) (hps : ln ps ∧ ∀ x ∈ ps, x.fit) (hcp : cl Pr.cnt ps ≤ 2 ^ 20) :
    Ret Try.prog 179 [.agg (sG.O g), .s kd, .i .i64 fr, .i .i64 to, .imm (ps.map sP.I)] (.tup [.agg (sG.O (eAdd g kd fr to ps).1), .b (eAdd g kd fr to ps).2]) [.dead, .dead, .dead, .dead, .dead] := by
  have h1 := l2Name_c kd hkd
  have h2 := l2Props_c ps hps.1 hps.2
  have hlp : ps.length ≤ 2 ^ 20 := by unfold cl at hcp; omega
  have h3 := l2Ps_c ps hlp (fun p hp => by
    have h2 := sums_mem (c := Pr.cnt) hp
    have h3 : p.cnt = p.name.length + p.val.cnt := rfl
    unfold cl at hcp; omega)
  have hlN : ln g.nodes := by simp only [ln]; omega
  have h4 := l2Node_c g hlN fr
  have h5 := l2Node_c g hlN to
  obtain ⟨l, es, nn, ne⟩ := g
  simp only at hi hl1 hl0
  refine via_spec_l2AddEdge (by simp) ?_
  by_cases c1 : nameOk kd = true
  · by_cases c2 : PropsOk ps
    · by_cases c3 : 0 ≤ posOf Nd.id fr l
      · have d3 : ¬ posOf Nd.id fr l < 0 := by omega
        by_cases c4 : 0 ≤ posOf Nd.id to l
        · have d4 : ¬ posOf Nd.id to l < 0 := by omega
          by_cases c5 : (es.length : Int) < 16
          · have d5 : ¬ 16 ≤ (es.length : Int) := by omega
            by_cases c6 : ne < 1000000000
            · have d6 : ¬ 1000000000 ≤ ne := by omega
              have hyes : addEOk ⟨l, es, nn, ne⟩ kd fr to ps := ⟨c1, c2, c3, c4, by simp only; omega, c6⟩
              have hw : IntKind.i64.wrap (ne + 1) = ne + 1 := wrap64 (by have := hi.1; omega) (by omega)
              have hb2 : (es.length + 1) * 64 ≤ 35184372088832 := by omega
              simp [pc_spec_l2AddEdge]
              refine callK_val (by simp) h1 rfl ?_
              simp [c1]
              refine callK_val (by simp) h2 rfl ?_
              simp [c1, c2]
              refine callK_val (by simp) h4 rfl ?_
              simp [c1, c2, c3, d3]
              refine callK_val (by simp) h5 rfl ?_
              simp [c1, c2, c3, d3, c4, d4, c5, d5, c6, d6, hb2, hw]
              repeat refine need_mk (by decide +kernel) ?_
              refine callK_val (by simp) h3 (by simp [T.noImm]) ?_
              simp [c1, c2, c3, d3, c4, d4, c5, d5, c6, d6, hb2, hw]
              repeat refine need_mk (by decide +kernel) ?_
              have hA : (es.map sE.O).length = es.length := by simp
              have hg2 := app1_get hA
              have hs3 := app1_set hA
              refine fin_wk (Wk.join (b := 92) (r := es.length) (cs := sE.O ⟨ne, kd, fr, to, ps⟩) rfl (by simp [hg2]; rfl) (by simp) (by simp)) ?_
              simp [hs3]
              exact fin_eaten (by simp; rfl) (by simp [eAdd, hyes, gAddE, List.take_of_length_le]) (by simp [eAdd, hyes, gAddE])
            · have d6 : 1000000000 ≤ ne := by omega
              have hno : ¬ addEOk ⟨l, es, nn, ne⟩ kd fr to ps := fun h => c6 h.2.2.2.2.2
              simp [pc_spec_l2AddEdge]
              refine callK_val (by simp) h1 rfl ?_
              simp [c1]
              refine callK_val (by simp) h2 rfl ?_
              simp [c1, c2]
              refine callK_val (by simp) h4 rfl ?_
              simp [c1, c2, c3, d3]
              refine callK_val (by simp) h5 rfl ?_
              simp [c1, c2, c3, d3, c4, d4, c5, d5, c6, d6]
              exact fin_eaten (by simp; rfl) (by simp [eAdd, hno]) (by simp [eAdd, hno])
          · have d5 : 16 ≤ (es.length : Int) := by omega
            have hno : ¬ addEOk ⟨l, es, nn, ne⟩ kd fr to ps := fun h => c5 (by have := h.2.2.2.2.1; simp only at this; omega)
            simp [pc_spec_l2AddEdge]
            refine callK_val (by simp) h1 rfl ?_
            simp [c1]
            refine callK_val (by simp) h2 rfl ?_
            simp [c1, c2]
            refine callK_val (by simp) h4 rfl ?_
            simp [c1, c2, c3, d3]
            refine callK_val (by simp) h5 rfl ?_
            simp [c1, c2, c3, d3, c4, d4, c5, d5]
            exact fin_eaten (by simp; rfl) (by simp [eAdd, hno]) (by simp [eAdd, hno])
        · have d4 : posOf Nd.id to l < 0 := by omega
          have hno : ¬ addEOk ⟨l, es, nn, ne⟩ kd fr to ps := fun h => c4 h.2.2.2.1
          simp [pc_spec_l2AddEdge]
          refine callK_val (by simp) h1 rfl ?_
          simp [c1]
          refine callK_val (by simp) h2 rfl ?_
          simp [c1, c2]
          refine callK_val (by simp) h4 rfl ?_
          simp [c1, c2, c3, d3]
          refine callK_val (by simp) h5 rfl ?_
          simp [c1, c2, c3, d3, c4, d4]
          exact fin_eaten (by simp; rfl) (by simp [eAdd, hno]) (by simp [eAdd, hno])
      · have d3 : posOf Nd.id fr l < 0 := by omega
        have hno : ¬ addEOk ⟨l, es, nn, ne⟩ kd fr to ps := fun h => c3 h.2.2.1
        simp [pc_spec_l2AddEdge]
        refine callK_val (by simp) h1 rfl ?_
        simp [c1]
        refine callK_val (by simp) h2 rfl ?_
        simp [c1, c2]
        refine callK_val (by simp) h4 rfl ?_
        simp [c1, c2, c3, d3]
        exact fin_eaten (by simp; rfl) (by simp [eAdd, hno]) (by simp [eAdd, hno])
    · have hno : ¬ addEOk ⟨l, es, nn, ne⟩ kd fr to ps := fun h => c2 h.2.1
      simp [pc_spec_l2AddEdge]
      refine callK_val (by simp) h1 rfl ?_
      simp [c1]
      refine callK_val (by simp) h2 rfl ?_
      simp [c1, c2]
      exact fin_eaten (by simp; rfl) (by simp [eAdd, hno]) (by simp [eAdd, hno])
  · have hno : ¬ addEOk ⟨l, es, nn, ne⟩ kd fr to ps := fun h => c1 h.1
    simp [pc_spec_l2AddEdge]
    refine callK_val (by simp) h1 rfl ?_
    simp [c1]
    exact fin_eaten (by simp; rfl) (by simp [eAdd, hno]) (by simp [eAdd, hno])
theorem nameOk_len {s : Tx} (h : nameOk s = true) : s.length ≤ 8 := by
  cases s with
  | nil => simp [nameOk] at h
  | cons c r =>
    simp only [nameOk, Bool.and_eq_true, decide_eq_true_eq] at h
    have := h.1.2
    simp only [List.length_cons]; omega
end Go.Proofs.Ytehdfbhfbidadaa.V
/- Edges beside their nodes. -/
namespace Go.Proofs.Ytehdfbhfbidadaa.V
open Go
set_option linter.unusedVariables false
set_option linter.unusedSimpArgs false
set_option maxHeartbeats 16000000
abbrev Grp := List (Int × List Int)
def gFind (k : Int) (m : Grp) : Option Nat := m.findIdx? (fun p => decide (p.1 = k))
def gGet (k : Int) (m : Grp) : List Int := match gFind k m with | some j => (match m[j]? with | some p => p.2 | none => []) | none => []
def gAdd (m : Grp) (k i : Int) : Grp := match gFind k m with | some j => m.set j (k, gGet k m ++ [i]) | none => m ++ [(k, [i])]
def gT (m : Grp) : List (T × T) := m.map fun p => (.i .i64 p.1, .own 1 (p.2.map sI.O))
def gStep (m : Grp) (p : Eg × Nat) : Grp := if p.1.to ≠ p.1.frm then gAdd (gAdd m p.1.frm p.2) p.1.to p.2 else gAdd m p.1.frm p.2
def bsd (es : List Eg) : Grp := es.zipIdx.foldl gStep []
/-- How long a row is at most. -/
def gLen (m : Grp) (n : Nat) : Prop := ∀ p ∈ m, p.2.length ≤ n
theorem gT_clean (m : Grp) : ((gT m).map Prod.snd).all T.clean = true := by
  simp only [gT, List.map_map, List.all_map, List.all_eq_true]
  intro p _
  rfl
@[simp] theorem gT_names (m : Grp) : namess ((gT m).map Prod.snd) = [] := namess_clean (gT_clean m)
end Go.Proofs.Ytehdfbhfbidadaa.V
/- Edges of a node. -/
namespace Go.Proofs.Ytehdfbhfbidadaa.V
open Go
set_option linter.unusedVariables false
set_option linter.unusedSimpArgs false
set_option maxHeartbeats 16000000
def atN (id : Int) (e : Eg) : Bool := decide (e.frm = id) || decide (e.to = id)
def plAt (id : Int) (es : List Eg) : List (Eg × Nat) := es.zipIdx.filter (fun p => atN id p.1)
def goes (id way : Int) (kd : Tx) (e : Eg) : Bool := (decide (kd = []) || decide (e.kind = kd)) && ((decide (0 ≤ way) && decide (e.frm = id)) || (decide (way ≤ 0) && decide (e.to = id)))
def idsOf (id way : Int) (kd : Tx) (es : List Eg) : List Int := (es.filter (goes id way kd)).map Eg.id
open Classical in
noncomputable def edgesOf (g : Gr) (id way : Int) (kd : Tx) : List Int := if GOk g ∧ -1 ≤ way ∧ way ≤ 1 then idsOf id way kd g.edges else []
end Go.Proofs.Ytehdfbhfbidadaa.V
/- Edges of a node, by the reference. -/
namespace Go.Proofs.Ytehdfbhfbidadaa.V
open Go
set_option linter.unusedVariables false
set_option linter.unusedSimpArgs false
set_option maxHeartbeats 16000000
theorem l2Edges_c (g : Gr) (hl : g.edges.length ≤ 2 ^ 20) (id way : Int) (kd : Tx) : Rv Try.prog 191 [.agg (sG.I g), .i .i64 id, .i .i64 way, .s kd] (.own 1 ((idsOf id way kd g.edges).map sI.O)) := by
  obtain ⟨l, es, nn, ne⟩ := g
  simp only at hl
  refine via_spec_l2Edges (by simp) ?_
  simp [pc_spec_l2Edges]
  refine W_forS (fun i => ⟨[(10, .i .i64 i), (9, .ref 1 0 (idsOf id way kd (es.take i)).length), (1, .i .i64 id), (2, .i .i64 way), (3, .s kd), (4, .ptr 0 0 0)], [(0, .arr 4 [sG.I ⟨l, es, nn, ne⟩]), (1, .arr 1 ((idsOf id way kd (es.take i)).map sI.O))], 20, 0⟩) es.length (fun _ => True) ?_ trivial ?_
  · exact Wk.less rfl (by simp) (by simp [idsOf]) (by simp [idsOf])
  intro i hi _
  rcases Nat.lt_or_ge i es.length with h1 | h1
  · obtain ⟨x, hx⟩ : ∃ x, es[i]? = some x := ⟨_, List.getElem?_eq_getElem h1⟩
    have hw : IntKind.i64.wrap ((i : Int) + 1) = (i : Int) + 1 := wrap1 (by omega)
    have hfl : (idsOf id way kd (es.take i)).length ≤ i := by
      unfold idsOf
      rw [List.length_map]
      exact Nat.le_trans (List.length_filter_le _ _) (by simp; omega)
    have htk : es.take (i + 1) = es.take i ++ [x] := by rw [List.take_add_one, hx]; simp
    obtain ⟨a, b, c, d, e⟩ := x
    have hn0 : goes id way kd ⟨a, b, c, d, e⟩ = true → idsOf id way kd (es.take (i + 1)) = idsOf id way kd (es.take i) ++ [a] := fun h => by rw [htk]; unfold idsOf; rw [List.filter_append]; simp [h]
    have hn1 : ¬ goes id way kd ⟨a, b, c, d, e⟩ = true → idsOf id way kd (es.take (i + 1)) = idsOf id way kd (es.take i) := fun h => by rw [htk]; unfold idsOf; rw [List.filter_append]; simp [h]
    generalize idsOf id way kd (es.take i) = A at *
    generalize idsOf id way kd (es.take (i + 1)) = A' at *
    have hbig : (A.length + 1) * 8 ≤ 35184372088832 := by omega
    have hcl0 := sI.crO A
    refine WW_seq (WW_of_W ?_)
    simp [h1]
    refine WW_seq (WW_block (WW_seq (thn_cut (s2 := ⟨[(10, .i .i64 i), (9, .ref 1 0 A.length), (1, .i .i64 id), (2, .i .i64 way), (3, .s kd), (4, .ptr 0 0 0), (11, .ptr 20 0 0)], [(0, .arr 4 [sG.I ⟨l, es, nn, ne⟩]), (1, .arr 1 (A.map sI.O)), (20, .arr 5 [sE.I ⟨a, b, c, d, e⟩])], 30, 0⟩) ?_ ?_)))
    · simp [-getElem?_pos, hx, h1]
      exact Wk.to rfl (by simp) (by simp) (by simp [Blk.names, namesr_clean hcl0]) (by simp)
    refine WW_seq (thn_cut (s2 := ⟨[(10, .i .i64 i), (9, .ref 1 0 A.length), (1, .i .i64 id), (2, .i .i64 way), (3, .s kd), (4, .ptr 0 0 0), (11, .ptr 20 0 0), (12, .b ((decide (0 ≤ way) && decide (c = id)) || (decide (way ≤ 0) && decide (d = id))))], [(0, .arr 4 [sG.I ⟨l, es, nn, ne⟩]), (1, .arr 1 (A.map sI.O)), (20, .arr 5 [sE.I ⟨a, b, c, d, e⟩])], 30, 0⟩) ?_ ?_)
    · by_cases c3 : 0 ≤ way <;> by_cases c4 : c = id <;> by_cases c5 : way ≤ 0 <;> by_cases c6 : d = id <;> (simp [c3, c4, c5, c6]; exact Wk.to rfl (by simp) (by simp [c3, c4, c5, c6]) (by simp [Blk.names, namesr_clean hcl0]) (by simp))
    have hgo : goes id way kd ⟨a, b, c, d, e⟩ = ((decide (kd = []) || decide (b = kd)) && ((decide (0 ≤ way) && decide (c = id)) || (decide (way ≤ 0) && decide (d = id)))) := rfl
    generalize ((decide (0 ≤ way) && decide (c = id)) || (decide (way ≤ 0) && decide (d = id))) = is at *
    refine WW_seq (thn_cut (s2 := ⟨[(10, .i .i64 i), (9, .ref 1 0 A.length), (1, .i .i64 id), (2, .i .i64 way), (3, .s kd), (4, .ptr 0 0 0), (11, .ptr 20 0 0), (54, .b (goes id way kd ⟨a, b, c, d, e⟩))], [(0, .arr 4 [sG.I ⟨l, es, nn, ne⟩]), (1, .arr 1 (A.map sI.O)), (20, .arr 5 [sE.I ⟨a, b, c, d, e⟩])], 30, 0⟩) ?_ ?_)
    · rw [hgo]
      by_cases c1 : kd = [] <;> by_cases c2 : b = kd <;> cases is <;> (simp [c1, c2]; exact Wk.to rfl (by simp) (by simp [c1, c2]) (by simp [Blk.names, namesr_clean hcl0]) (by simp))
    clear hgo
    refine WW_of_W ?_
    by_cases hgo : goes id way kd ⟨a, b, c, d, e⟩ = true
    · rw [hn0 hgo]
      have hcl := sI.crO (A ++ [a])
      rw [List.map_append] at hcl
      simp only [List.map_cons, List.map_nil, sI_O] at hcl
      simp [hgo, hbig]
      refine WW_of_W ?_
      simp [hw, h1]
      refine Wk.ren (fun t => if t = 1 then 31 else t) rfl (by simp) (by simp) (by simp) ?_ (by simp)
      simp [Blk.rn, Blk.names, namesr_clean hcl, rnr_cl hcl]
    · rw [hn1 hgo]
      simp [hgo]
      refine WW_of_W ?_
      simp [hw, h1]
      exact Wk.to rfl (by simp) (by simp) (by simp [Blk.names, namesr_clean hcl0]) (by simp)
  · have h2 : ¬ i < es.length := by omega
    have e : es.take i = es := List.take_of_length_le (by omega)
    refine WW_of_W ?_
    simp [h2, e]
    exact fin_own (by simp; rfl) (by simp) (by simp) (by simp)
end Go.Proofs.Ytehdfbhfbidadaa.V
/- Edges of a node: the two functions. -/
namespace Go.Proofs.Ytehdfbhfbidadaa.V
open Go
set_option linter.unusedVariables false
set_option linter.unusedSimpArgs false
set_option maxHeartbeats 16000000
end Go.Proofs.Ytehdfbhfbidadaa.V
/- Nodes that go. -/
namespace Go.Proofs.Ytehdfbhfbidadaa.V
open Go
set_option linter.unusedVariables false
set_option linter.unusedSimpArgs false
set_option maxHeartbeats 16000000
def dN (e : Nd) : List T := [.i .i64 e.id, .dead, .dead]
end Go.Proofs.Ytehdfbhfbidadaa.V
/- Nodes dropped: what comes of it. -/
namespace Go.Proofs.Ytehdfbhfbidadaa.V
open Go
set_option linter.unusedVariables false
set_option linter.unusedSimpArgs false
set_option maxHeartbeats 16000000
def gDropN (g : Gr) (id : Int) : Gr := ⟨g.nodes.filter (fun n => !decide (n.id = id)), g.edges.filter (fun e => !(idsOf id 0 [] g.edges).contains e.id), g.nn, g.ne⟩
def dropN (g : Gr) (id : Int) (det : Bool) : Gr × Bool := if idsOf id 0 [] g.edges ≠ [] ∧ det = false then (g, false) else (gDropN g id, true)
open Classical in
noncomputable def nodeDrop (g : Gr) (id : Int) (det : Bool) : Gr × Bool := if GOk g then (if posOf Nd.id id g.nodes < 0 then (g, false) else dropN g id det) else (zG, false)
end Go.Proofs.Ytehdfbhfbidadaa.V
/- Whether two values are the same. -/
namespace Go.Proofs.Ytehdfbhfbidadaa.V
open Go
set_option linter.unusedVariables false
set_option linter.unusedSimpArgs false
set_option maxHeartbeats 4000000
noncomputable def sameB (a b : Vl) : Bool := @decide (a = b) (Classical.propDecidable _)
end Go.Proofs.Ytehdfbhfbidadaa.V
/- Nodes with a label. -/
namespace Go.Proofs.Ytehdfbhfbidadaa.V
open Go
set_option linter.unusedVariables false
set_option linter.unusedSimpArgs false
set_option maxHeartbeats 4000000
def withL (lb : Tx) (n : Nd) : Bool := decide (lb = []) || decide (lb ∈ n.labels)
def idsWith (lb : Tx) (l : List Nd) : List Int := (l.filter (withL lb)).map Nd.id
open Classical in
noncomputable def nodesWith (g : Gr) (lb : Tx) : List Int := if GOk g then idsWith lb g.nodes else []
end Go.Proofs.Ytehdfbhfbidadaa.V
/- What is found by a prop. -/
namespace Go.Proofs.Ytehdfbhfbidadaa.V
open Go
set_option linter.unusedVariables false
set_option linter.unusedSimpArgs false
set_option maxHeartbeats 8000000
noncomputable def hasV (nm : Tx) (v : Vl) (x : Nd) : Bool := decide ((getP x.props nm).k ≠ 0) && sameB (getP x.props nm) v
noncomputable def findL (lb nm : Tx) (v : Vl) (l : List Nd) : List Int := (l.filter (fun x => withL lb x && hasV nm v x)).map Nd.id
open Classical in
noncomputable def findBy (g : Gr) (lb nm : Tx) (v : Vl) : List Int := if GOk g ∧ vOk v = true ∧ lb ≠ [] then findL lb nm v g.nodes else []
end Go.Proofs.Ytehdfbhfbidadaa.V
