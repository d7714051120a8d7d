/- Texts Sh, Eva, Cfit, Cname, Cval, Cprop, Clab, Cgok, Cgok2, Opc, Opb. -/
import Derived.Test.YtehdfbhfbidadaaVC
import Derived.Test.YtehdfbhfbidadaaVpc
import Derived.Below
import Derived.Carry
/- Kinds of data as rows of trees: what is read, what is owned. -/
namespace Go.Proofs.Ytehdfbhfbidadaa.V
open Go
set_option linter.unusedVariables false
set_option linter.unusedSimpArgs false
/-- A cell of what is read. -/
def T.im : T → Bool
  | .b _ | .i _ _ | .s _ | .imm _ => true
  | _ => false
/-- A cell of what is owned. -/
def T.ow : T → Bool
  | .b _ | .i _ _ | .s _ => true
  | .own _ rows => cleanR rows && noImr rows
  | _ => false
structure Sh (α : Type) where
  sz : Nat
  I : α → List T
  O : α → List T
  lI : ∀ a, (I a).length = sz
  lO : ∀ a, (O a).length = sz
  toO : ∀ a, toIs (O a) = I a
  im : ∀ a, (I a).all T.im = true
  ow : ∀ a, (O a).all T.ow = true
section
variable {n : Nat} {s : St}
theorem im_mats : ∀ {cs : List T} {n : Nat}, cs.all T.im = true → mats cs n = (cs, [])
  | [], n, h => by simp [mats]
  | c :: cs, n, h => by
    simp only [List.all_cons, Bool.and_eq_true] at h
    have : mat c n = (c, []) := by cases c <;> simp [T.im] at h <;> simp [mat]
    simp only [mats, this, List.length_nil, Nat.add_zero, im_mats h.2, List.nil_append]
theorem im_argIs : ∀ {cs : List T}, cs.all T.im = true → argIs s cs = some cs
  | [], h => by simp [argIs]
  | c :: cs, h => by
    simp only [List.all_cons, Bool.and_eq_true] at h
    have : argI s c = some c := by cases c <;> simp [T.im] at h <;> simp [argI]
    simp only [argIs, this, im_argIs h.2]
theorem im_names : ∀ {cs : List T}, cs.all T.im = true → namess cs = []
  | [], h => by simp [namess]
  | c :: cs, h => by
    simp only [List.all_cons, Bool.and_eq_true] at h
    have : c.names = [] := by cases c <;> simp [T.im] at h <;> simp [T.names]
    simp only [namess, this, im_names h.2, List.append_nil]
theorem im_toIs : ∀ {cs : List T}, cs.all T.im = true → toIs cs = cs
  | [], h => by simp [toIs]
  | c :: cs, h => by
    simp only [List.all_cons, Bool.and_eq_true] at h
    have : c.toI = c := by cases c <;> simp [T.im] at h <;> simp [T.toI]
    simp only [toIs, this, im_toIs h.2]
theorem im_all {f : T → Bool} (hf : ∀ t : T, t.im = true → f t = true) {cs : List T} (h : cs.all T.im = true) : cs.all f = true := by
  rw [List.all_eq_true] at h ⊢
  exact fun t ht => hf t (h t ht)
theorem im_clean {cs : List T} (h : cs.all T.im = true) : cs.all T.clean = true := im_all (fun t ht => by cases t <;> simp [T.im] at ht <;> rfl) h
theorem im_cell {cs : List T} (h : cs.all T.im = true) : cs.all T.cell = true := im_all (fun t ht => by cases t <;> simp [T.im] at ht <;> rfl) h
theorem ow_all {f : T → Bool} (hf : ∀ t : T, t.ow = true → f t = true) {cs : List T} (h : cs.all T.ow = true) : cs.all f = true := by
  rw [List.all_eq_true] at h ⊢
  exact fun t ht => hf t (h t ht)
theorem ow_pl {cs : List T} (h : cs.all T.ow = true) : cs.all T.pl = true := ow_all (fun t ht => by cases t <;> simp [T.ow] at ht <;> simp [T.pl, ht]) h
theorem ow_clean {cs : List T} (h : cs.all T.ow = true) : cs.all T.clean = true := ow_all (fun t ht => by cases t <;> simp [T.ow] at ht <;> simp [T.clean, ht]) h
theorem ow_noImm : ∀ {cs : List T}, cs.all T.ow = true → noIms cs = true
  | [], h => by simp [noIms]
  | c :: cs, h => by
    simp only [List.all_cons, Bool.and_eq_true] at h
    have : c.noImm = true := by cases c <;> simp [T.ow] at h <;> simp [T.noImm, h]
    simp only [noIms, this, ow_noImm h.2, Bool.and_self]
theorem ow_cell : ∀ {cs : List T} {n : Nat}, cs.all T.ow = true → ((mats cs n).1.all T.cell) = true
  | [], n, h => by simp [mats]
  | c :: cs, n, h => by
    simp only [List.all_cons, Bool.and_eq_true] at h
    have : (mat c n).1.cell = true := by cases c <;> simp [T.ow] at h <;> simp [mat, T.cell]
    simp only [mats, List.all_cons, this, ow_cell h.2, Bool.and_self]
end
section
variable {s : St}
theorem mats_len : ∀ (cs : List T) (n : Nat), (mats cs n).1.length = cs.length
  | [], n => by simp [mats]
  | c :: cs, n => by simp only [mats, List.length_cons, mats_len cs]
theorem im_gives {cs : List T} (h : cs.all T.im = true) : cs.any T.gives1 = false := by
  rw [List.any_eq_false]
  intro t ht
  have := List.all_eq_true.1 h t ht
  cases t <;> simp [T.im] at this <;> simp [T.gives1]
/-- Nothing is handed over. -/
def gfree : List T → Bool
  | [] => true
  | t :: ts => !t.gives && gfree ts
theorem taken_gfree : ∀ {args es : List T}, gfree args = true → es.length = args.length → taken s args es = some (args.map fun _ => .dead) ∧ takenN args es = []
  | [], [], h, hl => ⟨rfl, rfl⟩
  | t :: args, e :: es, h, hl => by
    simp only [gfree, Bool.and_eq_true, Bool.not_eq_true'] at h
    obtain ⟨h1, h2⟩ := taken_gfree h.2 (by simpa using hl)
    simp only [taken, takenN, h1, h2, h.1, Bool.false_eq_true, if_false, List.map_cons, List.append_nil, and_self]
  | [], _ :: _, h, hl => by simp at hl
  | _ :: _, [], h, hl => by simp at hl
mutual
def rfN : T → T → List Nat
  | .ref t _ _, .own _ _ => [t]
  | .agg cs, .agg rs => rfNs cs rs
  | .tup cs, .tup rs => rfNs cs rs
  | _, _ => []
def rfNs : List T → List T → List Nat
  | c :: cs, r :: rs => rfN c r ++ rfNs cs rs
  | _, _ => []
end
mutual
def rfP (s : St) : T → T → Prop
  | .ref t o n, .own sz rows => onArr (hget s.hp t) fun sz' rs => o + n ≤ rs.length ∧ sz' = sz ∧ (rs.drop o).take n = rows ∧ cleanR rows = true
  | .nl, .own _ rows => rows = []
  | .agg cs, .agg rs => rfPs s cs rs
  | .tup cs, .tup rs => rfPs s cs rs
  | .fn _ _, _ => False
  | .ifc _ _, _ => False
  | .ref _ _ _, _ => False
  | .ptr _ _ _, _ => False
  | .mp _, _ => False
  | .agg _, _ => False
  | .tup _, _ => False
  | x, r => x = r
def rfPs (s : St) : List T → List T → Prop
  | [], [] => True
  | c :: cs, r :: rs => rfP s c r ∧ rfPs s cs rs
  | _, _ => False
end
mutual
theorem rfP_ok : ∀ {x r : T}, rfP s x r → rf s x r (rfN x r)
  | .ref t o n, r, h => by
    cases r <;> simp only [rfP] at h
    simp only [rf, rfN]
    exact ⟨trivial, h⟩
  | .nl, r, h => by cases r <;> simp only [rfP, reduceCtorEq] at h <;> simp only [rf, rfN, and_self, h]
  | .agg cs, r, h => by
    cases r <;> simp only [rfP] at h
    simp only [rf, rfN]; exact rfPs_ok h
  | .tup cs, r, h => by
    cases r <;> simp only [rfP] at h
    simp only [rf, rfN]; exact rfPs_ok h
  | .fn _ _, r, h => by simp only [rfP] at h
  | .ifc _ _, r, h => by simp only [rfP] at h
  | .ptr _ _ _, r, h => by simp only [rfP] at h
  | .mp _, r, h => by simp only [rfP] at h
  | .un, r, h => by simp only [rfP] at h; subst h; simp [rf, rfN]
  | .dead, r, h => by simp only [rfP] at h; subst h; simp [rf, rfN]
  | .b _, r, h => by simp only [rfP] at h; subst h; simp [rf, rfN]
  | .i _ _, r, h => by simp only [rfP] at h; subst h; simp [rf, rfN]
  | .s _, r, h => by simp only [rfP] at h; subst h; simp [rf, rfN]
  | .imm _, r, h => by simp only [rfP] at h; subst h; simp [rf, rfN]
  | .own _ _, r, h => by simp only [rfP] at h; subst h; simp [rf, rfN]
  | .bx _, r, h => by simp only [rfP] at h; subst h; simp [rf, rfN]
  | .np, r, h => by simp only [rfP] at h; subst h; simp [rf, rfN]
  | .pim _, r, h => by simp only [rfP] at h; subst h; simp [rf, rfN]
  | .nfn, r, h => by simp only [rfP] at h; subst h; simp [rf, rfN]
  | .nif, r, h => by simp only [rfP] at h; subst h; simp [rf, rfN]
  | .nmp, r, h => by simp only [rfP] at h; subst h; simp [rf, rfN]
theorem rfPs_ok : ∀ {cs rs : List T}, rfPs s cs rs → rfs s cs rs (rfNs cs rs)
  | [], [], h => by simp only [rfs, rfNs]
  | c :: cs, r :: rs, h => by
    simp only [rfPs] at h
    simp only [rfs, rfNs]
    exact ⟨_, _, rfl, rfP_ok h.1, rfPs_ok h.2⟩
  | [], _ :: _, h => by simp only [rfPs] at h
  | _ :: _, [], h => by simp only [rfPs] at h
end
theorem fin_own {P : Program} {rs : List ResultVar} {args : List T} {r : T} {xs : List T} (h1 : resK P s rs = some xs) (h2 : rfP s (res1 xs) r) (hg : gfree args = true) (h4 : (rfN (res1 xs) r).Nodup) : fin P rs args r (args.map fun _ => .dead) .ret s := by
  obtain ⟨h5, h6⟩ := taken_gfree (s := s) hg (mats_len args 0)
  exact fin_ret h1 (rfP_ok h2) h5 (by rw [h6, List.append_nil]; exact h4)
theorem fin_val {P : Program} {rs : List ResultVar} {args : List T} {r : T} {xs : List T} (h1 : resK P s rs = some xs) (h2 : rf s (res1 xs) r []) (hg : gfree args = true) : fin P rs args r (args.map fun _ => .dead) .ret s := by
  obtain ⟨h5, h6⟩ := taken_gfree (s := s) hg (mats_len args 0)
  exact fin_ret h1 h2 h5 (by rw [h6]; simp)
end
attribute [simp] gfree rfP rfPs rfN rfNs
namespace Sh
variable {α : Type} (S : Sh α) {n : Nat} {s : St}
theorem lenI (a : α) : (S.I a).length = S.sz := S.lI a
theorem takeI (a : α) : (S.I a).take S.sz = S.I a := List.take_of_length_le (by rw [S.lI]; exact Nat.le_refl _)
theorem mI (a : α) (n : Nat) : mats (S.I a) n = (S.I a, []) := im_mats (S.im a)
theorem aI (a : α) (s : St) : argIs s (S.I a) = some (S.I a) := im_argIs (S.im a)
theorem nI (a : α) : namess (S.I a) = [] := im_names (S.im a)
theorem gI (a : α) : (S.I a).any T.gives1 = false := im_gives (S.im a)
theorem kI (a : α) : (S.I a).all T.cell = true := im_cell (S.im a)
theorem kI' (a : α) (x : T) (h : x ∈ S.I a) : x.cell = true := List.all_eq_true.1 (im_cell (S.im a)) x h
theorem cI (a : α) : (S.I a).all T.clean = true := im_clean (S.im a)
theorem toI (a : α) : toIs (S.I a) = S.I a := im_toIs (S.im a)
theorem cO (a : α) : (S.O a).all T.clean = true := ow_clean (S.ow a)
theorem plO (a : α) : (S.O a).all T.pl = true := ow_pl (S.ow a)
theorem nO (a : α) : noIms (S.O a) = true := ow_noImm (S.ow a)
theorem rO : ∀ (l : List α), toIr (l.map S.O) = l.map S.I
  | [] => by simp [toIr]
  | a :: l => by simp only [List.map_cons, toIr, S.toO, rO l]
theorem rI : ∀ (l : List α), toIr (l.map S.I) = l.map S.I
  | [] => by simp [toIr]
  | a :: l => by simp only [List.map_cons, toIr, S.toI, rI l]
theorem crO (l : List α) : cleanR (l.map S.O) = true := by
  simp only [cleanR, List.all_map, List.all_eq_true]
  intro a _; exact S.cO a
theorem crI (l : List α) : cleanR (l.map S.I) = true := by
  simp only [cleanR, List.all_map, List.all_eq_true]
  intro a _; exact S.cI a
theorem nrO : ∀ (l : List α), noImr (l.map S.O) = true
  | [] => by simp [noImr]
  | a :: l => by simp only [List.map_cons, noImr, S.nO, nrO l, Bool.and_self]
theorem lrI (l : List α) : ∀ r ∈ l.map S.I, r.length = S.sz := by
  intro r hr; obtain ⟨a, _, rfl⟩ := List.mem_map.1 hr; exact S.lI a
theorem lrO (l : List α) : ∀ r ∈ l.map S.O, r.length = S.sz := by
  intro r hr; obtain ⟨a, _, rfl⟩ := List.mem_map.1 hr; exact S.lO a
end Sh
attribute [simp] Sh.kI' Sh.gI Sh.im Sh.ow Sh.takeI Sh.mI Sh.aI Sh.nI Sh.kI Sh.cI Sh.toI Sh.cO Sh.plO Sh.nO Sh.rO Sh.rI Sh.crO Sh.crI Sh.nrO Sh.lI Sh.lO
theorem toIs_append : ∀ (a b : List T), toIs (a ++ b) = toIs a ++ toIs b
  | [], b => by simp [toIs]
  | x :: a, b => by simp [toIs, toIs_append a b]
theorem noIms_append : ∀ (a b : List T), noIms (a ++ b) = (noIms a && noIms b)
  | [], b => by simp [noIms]
  | x :: a, b => by simp [noIms, noIms_append a b, Bool.and_assoc]
theorem namess_append : ∀ (a b : List T), namess (a ++ b) = namess a ++ namess b
  | [], b => by simp [namess]
  | x :: a, b => by simp [namess, namess_append a b]
attribute [simp] toIs_append noIms_append namess_append
theorem wrap1 {i : Nat} (h : (i : Int) < 9223372036854775807) : IntKind.i64.wrap ((i : Int) + 1) = (i : Int) + 1 := wrap64 (by omega) (by omega)
/-! ### loops over slices -/
def left (x : Int) (n : Nat) : Int := if x - n < 0 then -1 else x - n
theorem left_neg {x : Int} {n : Nat} (h : x - n < 0) : left x n = -1 := by unfold left; rw [if_pos h]
theorem left_pos {x : Int} {n : Nat} (h : ¬ x - n < 0) : left x n = x - n := by unfold left; rw [if_neg h]
def eqSpc (f sz : Nat) : PC :=
  .seq (.reg [⟨(some 4), .mv (.c (.b false)), none, []⟩] false) (.seq (.seq (.reg [⟨(some 6), .mv (.t 0), none, []⟩, ⟨(some 7), .len (.t 6), none, []⟩, ⟨(some 8), .mv (.t 1), none, []⟩, ⟨(some 9), .len (.t 8), none, []⟩, ⟨(some 10), .bin .neq (.t 7) (.t 9), none, []⟩] false) (.cond (.t 10) (.seq (.reg [⟨(some 4), .mv (.c (.b false)), none, []⟩] false) (.ret)) (.skip))) (.seq (.seq (.reg [⟨(some 5), .mv (.c (.i .i64 0)), none, []⟩] false) (.block 0 (.loop (.seq (.seq (.reg [⟨(some 11), .mv (.t 5), none, []⟩, ⟨(some 12), .mv (.t 0), none, []⟩, ⟨(some 13), .len (.t 12), none, []⟩, ⟨(some 14), .bin .lss (.t 11) (.t 13), none, []⟩] false) (.cond (.t 14) (.skip) (.exit 0))) (.seq (.block 1 (.seq (.reg [⟨(some 17), .mv (.t 0), none, []⟩, ⟨(some 18), .mv (.t 5), none, []⟩, ⟨(some 19), .ia sz (.t 17) (.t 18), none, [0, 1]⟩, ⟨(some 20), .load (some sz) (.t 19), none, [2]⟩, ⟨(some 21), .mv (.t 1), none, []⟩, ⟨(some 22), .mv (.t 5), none, []⟩, ⟨(some 23), .ia sz (.t 21) (.t 22), none, [4, 5]⟩, ⟨(some 24), .load (some sz) (.t 23), none, [6]⟩, ⟨(some 25), .call (.ev [] .own) f [(.t 20), (.t 24)], none, [3, 7]⟩, ⟨(some 26), .un .not (.t 25), none, [8]⟩] true) (.cond (.t 26) (.seq (.reg [⟨(some 4), .mv (.c (.b false)), none, []⟩] false) (.ret)) (.skip)))) (.reg [⟨(some 15), .mv (.t 5), none, []⟩, ⟨(some 16), .bin .add (.t 15) (.c (.i .i64 1)), none, []⟩, ⟨(some 5), .mv (.t 16), none, []⟩] false)))))) (.seq (.reg [⟨(some 4), .mv (.c (.b true)), none, []⟩] false) (.ret))))
def szSpc (f sz : Nat) : PC :=
  .seq (.reg [⟨(some 4), .mv (.c (.i .i64 0)), none, []⟩] false) (.seq (.reg [⟨(some 6), .mv (.t 1), none, []⟩, ⟨(some 7), .mv (.t 0), none, []⟩, ⟨(some 8), .len (.t 7), none, []⟩, ⟨(some 9), .bin .sub (.t 6) (.t 8), none, []⟩, ⟨(some 1), .mv (.t 9), none, []⟩] false) (.seq (.seq (.reg [⟨(some 10), .mv (.t 1), none, []⟩, ⟨(some 11), .bin .lss (.t 10) (.c (.i .i64 0)), none, []⟩] false) (.cond (.t 11) (.seq (.reg [⟨(some 4), .mv (.c (.i .i64 (-1))), none, []⟩] false) (.ret)) (.skip))) (.seq (.seq (.reg [⟨(some 5), .mv (.c (.i .i64 0)), none, []⟩] false) (.block 0 (.loop (.seq (.seq (.reg [⟨(some 12), .mv (.t 5), none, []⟩, ⟨(some 13), .mv (.t 0), none, []⟩, ⟨(some 14), .len (.t 13), none, []⟩, ⟨(some 15), .bin .lss (.t 12) (.t 14), none, []⟩] false) (.cond (.t 15) (.skip) (.exit 0))) (.seq (.block 1 (.seq (.reg [⟨(some 18), .mv (.t 0), none, []⟩, ⟨(some 19), .mv (.t 5), none, []⟩, ⟨(some 20), .ia sz (.t 18) (.t 19), none, []⟩, ⟨(some 21), .load (some sz) (.t 20), none, []⟩, ⟨(some 22), .mv (.t 1), none, []⟩, ⟨(some 23), .call (.ev [] .own) f [(.t 21), (.t 22)], none, []⟩, ⟨(some 1), .mv (.t 23), none, []⟩] false) (.seq (.reg [⟨(some 24), .mv (.t 1), none, []⟩, ⟨(some 25), .bin .lss (.t 24) (.c (.i .i64 0)), none, []⟩] false) (.cond (.t 25) (.seq (.reg [⟨(some 4), .mv (.c (.i .i64 (-1))), none, []⟩] false) (.ret)) (.skip))))) (.reg [⟨(some 16), .mv (.t 5), none, []⟩, ⟨(some 17), .bin .add (.t 16) (.c (.i .i64 1)), none, []⟩, ⟨(some 5), .mv (.t 17), none, []⟩] false)))))) (.seq (.reg [⟨(some 26), .mv (.t 1), none, []⟩, ⟨(some 4), .mv (.t 26), none, []⟩] false) (.ret)))))
def toSpc (f sz bytes : Nat) (zs : List T) : PC :=
  .seq (.reg [⟨(some 2), .mv (.c (.nl)), none, []⟩] false) (.seq (.reg [⟨(some 5), .mv (.t 0), none, []⟩, ⟨(some 6), .len (.t 5), none, []⟩, ⟨(some 7), .make sz bytes zs (.t 6), none, []⟩, ⟨(some 3), .mv (.t 7), none, []⟩] false) (.seq (.seq (.reg [⟨(some 4), .mv (.c (.i .i64 0)), none, []⟩] false) (.block 0 (.loop (.seq (.seq (.reg [⟨(some 8), .mv (.t 4), none, []⟩, ⟨(some 9), .mv (.t 0), none, []⟩, ⟨(some 10), .len (.t 9), none, []⟩, ⟨(some 11), .bin .lss (.t 8) (.t 10), none, []⟩] false) (.cond (.t 11) (.skip) (.exit 0))) (.seq (.block 1 (.reg [⟨(some 14), .mv (.t 3), none, []⟩, ⟨(some 15), .mv (.t 4), none, []⟩, ⟨(some 16), .mv (.t 0), none, []⟩, ⟨(some 17), .mv (.t 4), none, []⟩, ⟨(some 18), .ia sz (.t 16) (.t 17), none, []⟩, ⟨(some 19), .load (some sz) (.t 18), none, []⟩, ⟨(some 20), .call (.ev [] .own) f [(.t 19)], none, []⟩, ⟨(some 21), .ia sz (.t 14) (.t 15), none, []⟩, ⟨none, .store (some sz) (.t 21) (.t 20), none, []⟩] false)) (.reg [⟨(some 12), .mv (.t 4), none, []⟩, ⟨(some 13), .bin .add (.t 12) (.c (.i .i64 1)), none, []⟩, ⟨(some 4), .mv (.t 13), none, []⟩] false)))))) (.seq (.reg [⟨(some 22), .mv (.t 3), none, []⟩, ⟨(some 2), .mv (.t 22), none, []⟩] false) (.ret))))
section
variable {α : Type} (S : Sh α) {P : Program} {M : List (Nat × CM)} {f : Nat}
/-- Equal lists. -/
theorem eqS_gen (l : List α) (hl : l.length < 2 ^ 62) (h : ∀ v ∈ l, Rv P f [.agg (S.I v), .agg (S.I v)] (.b true)) :
    W P M 27 (eqSpc f S.sz) (enter [.imm (l.map S.I), .imm (l.map S.I)]) (fin P [.tmp 4] [.imm (l.map S.I), .imm (l.map S.I)] (.b true) [.dead, .dead]) := by
  simp [eqSpc]
  refine W_for (fun i => ⟨[(5, .i .i64 i), (0, .imm (l.map S.I)), (1, .imm (l.map S.I))], [], 0, 0⟩) l.length (fun i => True) (Wk.less rfl (by simp) (by simp) (by simp)) trivial ?_
  intro i hi _
  rcases Nat.lt_or_ge i l.length with h1 | h1
  · obtain ⟨x, hx⟩ : ∃ x, l[i]? = some x := ⟨_, List.getElem?_eq_getElem h1⟩
    have hw : IntKind.i64.wrap ((i : Int) + 1) = (i : Int) + 1 := wrap1 (by omega)
    simp [-getElem?_pos, hx, hw, h1]
    refine callK_val (by simp) (h x (List.mem_of_getElem? hx)) rfl ?_
    simp [-getElem?_pos, hx, hw, h1]
    exact Wk.to rfl (by simp) (by simp) (by simp) (by simp)
  · have h2 : ¬ i < l.length := by omega
    simp [h2]
    exact fin_ret0 rfl (by simp) rfl (by simp)
def sums (c : α → Nat) (l : List α) : Nat := (l.map c).sum
theorem sums_take {c : α → Nat} {l : List α} {i : Nat} {v : α} (h : l[i]? = some v) : sums c (l.take (i + 1)) = sums c (l.take i) + c v := by
  rw [List.take_add_one, h]; simp [sums]
theorem sums_le {c : α → Nat} {l : List α} (i : Nat) : sums c (l.take i) ≤ sums c l := by
  conv => rhs; rw [← List.take_append_drop i l]
  simp only [sums, List.map_append, List.sum_append]; omega
def cl (c : α → Nat) (l : List α) : Nat := l.length + sums c l
theorem szS_gen (c : α → Nat) (l : List α) (hl : l.length ≤ 9223372036854775807) (x : Int) (h0 : 0 ≤ x) (h1 : x < 2 ^ 62) (h : ∀ v ∈ l, ∀ x : Int, 0 ≤ x → x < 2 ^ 62 → Rv P f [.agg (S.I v), .i .i64 x] (.i .i64 (left x (c v)))) :
    W P M 27 (szSpc f S.sz) (enter [.imm (l.map S.I), .i .i64 x]) (fin P [.tmp 4] [.imm (l.map S.I), .i .i64 x] (.i .i64 (left x (cl c l))) [.dead, .dead]) := by
  unfold cl
  have hw : IntKind.i64.wrap (x - l.length) = x - l.length := by rw [wrap64] <;> omega
  by_cases hc : x - l.length < 0
  · simp [szSpc, hw, hc]
    have e : left x (l.length + sums c l) = -1 := by
      unfold left
      rw [if_pos (by omega)]
    exact fin_ret0 rfl (by simp [e]) rfl (by simp)
  · simp [szSpc, hw, hc]
    refine W_for (fun i => ⟨[(5, .i .i64 i), (1, .i .i64 (x - l.length - sums c (l.take i))), (0, .imm (l.map S.I))], [], 0, 0⟩) l.length (fun i => 0 ≤ x - l.length - sums c (l.take i)) (Wk.less rfl (by simp) (by simp [sums]) (by simp)) (by simp [sums]; omega) ?_
    intro i hi hv
    rcases Nat.lt_or_ge i l.length with h2 | h2
    · obtain ⟨v, hx⟩ : ∃ v, l[i]? = some v := ⟨_, List.getElem?_eq_getElem h2⟩
      have hw2 : IntKind.i64.wrap ((i : Int) + 1) = (i : Int) + 1 := wrap1 (by omega)
      have hst := sums_take (c := c) hx
      simp [-getElem?_pos, hx, hw2, h2]
      refine callK_val (by simp) (h v (List.mem_of_getElem? hx) _ hv (by omega)) rfl ?_
      by_cases h3 : x - l.length - sums c (l.take i) - c v < 0
      · have e : left (x - l.length - sums c (l.take i)) (c v) = -1 := by unfold left; rw [if_pos h3]
        simp [e]
        have hle := sums_le (c := c) (l := l) (i + 1)
        have e2 : left x (l.length + sums c l) = -1 := by
          unfold left
          rw [if_pos (by omega)]
        exact fin_ret0 rfl (by simp [e2]) rfl (by simp)
      · have e : left (x - l.length - sums c (l.take i)) (c v) = x - l.length - sums c (l.take i) - c v := by unfold left; rw [if_neg h3]
        simp [e, h3, hw2, h2]
        exact ⟨by omega, Wk.to rfl (by simp) (by simp; omega) (by simp) (by simp)⟩
    · have h4 : ¬ i < l.length := by omega
      simp [h4]
      rw [List.take_of_length_le h2] at hv
      have e2 : left x (l.length + sums c l) = x - l.length - sums c l := by
        unfold left
        rw [if_neg (by omega)]
        omega
      exact fin_ret0 rfl (by simp [e2, List.take_of_length_le h2]) rfl (by simp)
attribute [simp] hdels joins joinT joinsN joinN
theorem take_map_eq {β γ : Type} {g : β → γ} {l : List β} {n : Nat} (h : l.length = n) : (l.map g).take n = l.map g := List.take_of_length_le (by simp; omega)
@[simp] theorem cleanR_nil : cleanR [] = true := rfl
@[simp] theorem cleanR_cons (r : List T) (l : List (List T)) : cleanR (r :: l) = (r.all T.clean && cleanR l) := rfl
@[simp] theorem cleanR_append (a b : List (List T)) : cleanR (a ++ b) = (cleanR a && cleanR b) := by simp [cleanR]
@[simp] theorem take_map_self {β γ : Type} (g : β → γ) (l : List β) : (l.map g).take l.length = l.map g := List.take_of_length_le (by simp)
theorem app1_get {β : Type} {A : List β} {i : Nat} (h : A.length = i) (r : β) : (A ++ [r])[i]? = some r := by rw [List.getElem?_append_right (by omega), h]; simp
theorem app1_set {β : Type} {A : List β} {i : Nat} (h : A.length = i) (r r' : β) : (A ++ [r]).set i r' = A ++ [r'] := by rw [List.set_append_right _ _ (by omega), h]; simp
theorem app1_take {β : Type} {A : List β} {i : Nat} (h : A.length = i) (r : β) : (A ++ [r]).take (i + 1) = A ++ [r] := List.take_of_length_le (by simp; omega)
/-- A state told with less: one block is left. -/
theorem Wk.to1 {s : St} {tm : List (Nat × T)} {b sz nx fb : Nat} {rows : List (List T)} (hfb : fb = s.fb) (hnx : s.fb ≤ nx) (htm : ∀ p ∈ tm, p.2 = tget s.tm p.1 ∧ ∀ x ∈ p.2.names, x < nx) (hb : hget s.hp b = some (.arr sz rows)) (hcl : cleanR rows = true) (hbn : b < nx) :
    Wk s ⟨tm, [(b, .arr sz rows)], nx, fb⟩ := by
  refine Wk.to hfb hnx htm ?_ (by simp)
  intro p hp
  simp only [List.mem_singleton] at hp
  subst hp
  refine ⟨hb, hbn, ?_⟩
  intro x hx
  rw [Blk.names, namesr_clean hcl] at hx
  simp at hx
/-- Rows that are filled one by one. -/
theorem fill_row (g : α → List T) (l : List α) {z : List T} {i : Nat} (h : i < l.length) : ((l.map g).take i ++ List.replicate (l.length - i) z)[i]? = some z := by
  have hlen : ((l.map g).take i).length = i := by simp; omega
  rw [List.getElem?_append_right (by omega), hlen, show l.length - i = l.length - (i + 1) + 1 by omega, List.replicate_succ]; simp
theorem fill_set (g : α → List T) (l : List α) {z : List T} {i : Nat} (h : i < l.length) (r : List T) : ((l.map g).take i ++ List.replicate (l.length - i) z).set i r = (l.map g).take i ++ r :: List.replicate (l.length - (i + 1)) z := by
  have hlen : ((l.map g).take i).length = i := by simp; omega
  rw [List.set_append_right _ _ (by omega), hlen, show l.length - i = l.length - (i + 1) + 1 by omega, List.replicate_succ]; simp
theorem fill_new (g : α → List T) {l : List α} {i : Nat} {v : α} (hx : l[i]? = some v) : (l.map g).take (i + 1) = (l.map g).take i ++ [g v] := by
  rw [List.take_add_one, List.getElem?_map, hx]; simp
theorem fill_get (g : α → List T) {l : List α} {r z : List T} {i : Nat} (h : i < l.length) : ((l.map g).take i ++ r :: List.replicate (l.length - (i + 1)) z)[i]? = some r := by
  have hlen : ((l.map g).take i).length = i := by simp; omega
  rw [List.getElem?_append_right (by omega), hlen]; simp
theorem fill_set2 (g : α → List T) {l : List α} {r r' z : List T} {i : Nat} (h : i < l.length) : ((l.map g).take i ++ r :: List.replicate (l.length - (i + 1)) z).set i r' = (l.map g).take i ++ r' :: List.replicate (l.length - (i + 1)) z := by
  have hlen : ((l.map g).take i).length = i := by simp; omega
  rw [List.set_append_right _ _ (by omega), hlen]; simp
theorem fill_clean (S : Sh α) {l : List α} {z : List T} (hz : z.all T.clean = true) (i n : Nat) : cleanR ((l.map S.O).take i ++ List.replicate n z) = true := by
  have h3 := S.crO (l.take i)
  rw [List.map_take] at h3
  simp only [cleanR] at h3 ⊢
  simp only [List.all_append, h3, List.all_replicate, hz, Bool.true_and]
  simp
theorem toS_gen {bytes : Nat} {zs : List T} (hz : zs.length = S.sz) (hzc : zs.all T.clean = true) (hb : bytes ≤ 1024) (l : List α) (hl : l.length ≤ 2 ^ 20) (h : ∀ v ∈ l, Rv P f [.agg (S.I v)] (.agg (S.O v))) :
    W P M 23 (toSpc f S.sz bytes zs) (enter [.imm (l.map S.I)]) (fin P [.tmp 2] [.imm (l.map S.I)] (.own S.sz (l.map S.O)) [.dead]) := by
  have hb1 : (l.length : Int) * bytes ≤ 35184372088832 := by
    have : l.length * bytes ≤ 2 ^ 20 * 1024 := Nat.mul_le_mul hl hb
    have h2 : ((l.length * bytes : Nat) : Int) ≤ ((2 ^ 20 * 1024 : Nat) : Int) := Int.ofNat_le.2 this
    simp only [Int.natCast_mul] at h2
    omega
  have hb2 : (l.length : Int) ≤ 35184372088832 := by omega
  simp [toSpc, hb1, hb2]
  refine W_for (fun i => ⟨[(4, .i .i64 i), (3, .ref 0 0 l.length), (0, .imm (l.map S.I))], [(0, .arr S.sz ((l.map S.O).take i ++ List.replicate (l.length - i) zs))], 1, 0⟩) l.length (fun i => True) (Wk.less rfl (by simp) (by simp) (by simp)) trivial ?_
  intro i hi _
  rcases Nat.lt_or_ge i l.length with h2 | h2
  · obtain ⟨v, hx⟩ : ∃ v, l[i]? = some v := ⟨_, List.getElem?_eq_getElem h2⟩
    have hw2 : IntKind.i64.wrap ((i : Int) + 1) = (i : Int) + 1 := wrap1 (by omega)
    simp [-getElem?_pos, hx, hw2, h2]
    refine callK_val (by simp) (h v (List.mem_of_getElem? hx)) (by simp [T.noImm]) ?_
    have hrep : List.replicate (l.length - i) zs = zs :: List.replicate (l.length - (i + 1)) zs := by
      rw [show l.length - i = l.length - (i + 1) + 1 by omega, List.replicate_succ]
    have hlen : ((l.map S.O).take i).length = i := by simp; omega
    have hrow : ((l.map S.O).take i ++ List.replicate (l.length - i) zs)[i]? = some zs := by
      rw [List.getElem?_append_right (by omega), hlen, hrep]; simp
    have hset : ∀ r, ((l.map S.O).take i ++ List.replicate (l.length - i) zs).set i r = (l.map S.O).take i ++ r :: List.replicate (l.length - (i + 1)) zs := by
      intro r
      rw [List.set_append_right _ _ (by omega), hlen, hrep]; simp
    have hnew : (l.map S.O).take (i + 1) = (l.map S.O).take i ++ [S.O v] := by
      rw [List.take_add_one, List.getElem?_map, hx]; simp
    have hcell := ow_cell (n := 1) (S.ow v)
    have hml := mats_len (S.O v) 1
    have hnm := mats_names (n := 1) (S.plO v)
    have hn0 : 0 ∉ (mats (S.O v) 1).2.map (·.1) := fun h => by have := hnm.1 0 h; omega
    have hg0 : ∀ k, hget (hap [(0, k)] (news (mats (S.O v) 1).2)) 0 = some k := fun k => by rw [hget_news_not hn0]; rfl
    have hg1 : ∀ k, ∀ p ∈ (mats (S.O v) 1).2, hget (hap [(0, k)] (news (mats (S.O v) 1).2)) p.1 = some p.2 := fun k => hget_news_mem hnm.2
    simp only [news] at hg0 hg1
    simp [-getElem?_pos, hx, hw2, h2, hg0, hml, hrow, hset, hcell, hz]
    have hzd : List.drop S.sz zs = [] := List.drop_of_length_le (by omega)
    have hl2 : ((l.map S.O).take i ++ (mats (S.O v) 1).1 :: List.replicate (l.length - (i + 1)) zs)[i]? = some (mats (S.O v) 1).1 := by
      rw [List.getElem?_append_right (by omega), hlen]; simp
    have hset2 : ((l.map S.O).take i ++ (mats (S.O v) 1).1 :: List.replicate (l.length - (i + 1)) zs).set i (S.O v) = (l.map S.O).take i ++ S.O v :: List.replicate (l.length - (i + 1)) zs := by
      rw [List.set_append_right _ _ (by omega), hlen]; simp
    have hcl : cleanR ((l.map S.O).take i ++ S.O v :: List.replicate (l.length - (i + 1)) zs) = true := by
      have h3 := S.crO (l.take i)
      rw [List.map_take] at h3
      simp only [cleanR] at h3 ⊢
      simp only [List.all_append, h3, List.all_cons, S.cO, List.all_replicate, hzc, Bool.true_and, Bool.and_true]
      simp
    rw [hzd, List.append_nil]
    refine Wk.trans (Wk.joinR (b := 0) (n := 1) (r := i) (cs := S.O v) (hget_hset_same _ _ _) hl2 (S.plO v) (fun p hp => ?_) (by omega)) ?_
    · have hpn := (hnm.1 p.1 (List.mem_map.2 ⟨p, hp, rfl⟩)).1
      rw [hget_hset_ne _ _ (by omega)]
      exact hg1 _ p hp
    · rw [hset2]
      refine Wk.to rfl (by simp) (by simp) ?_ (by simp)
      intro p hp
      simp only [List.mem_singleton] at hp
      subst hp
      refine ⟨?_, by simp, ?_⟩
      · rw [hget_hset_same, hnew]; simp
      · intro x hx
        rw [Blk.names, namesr_clean (by rw [hnew]; simpa using hcl)] at hx
        simp at hx
  · have h4 : ¬ i < l.length := by omega
    have h5 : l.length - i = 0 := by omega
    simp [h4]
    refine fin_ret (ts := [0]) rfl ?_ rfl (by simp)
    have e : (l.map S.O).take i = l.map S.O := List.take_of_length_le (by simp; omega)
    have e2 : (l.map S.O).take l.length = l.map S.O := List.take_of_length_le (by simp)
    simp [e, e2, h5]
end
end Go.Proofs.Ytehdfbhfbidadaa.V
/- Values, props, nodes, edges, graphs as rows of trees. -/
namespace Go.Proofs.Ytehdfbhfbidadaa.V
open Go
set_option linter.unusedVariables false
set_option linter.unusedSimpArgs false
inductive Vl where
  | mk (k n : Int) (s : List UInt8) (l : List Vl)
namespace Vl
def k : Vl → Int | .mk k _ _ _ => k
def n : Vl → Int | .mk _ n _ _ => n
def s : Vl → List UInt8 | .mk _ _ s _ => s
def l : Vl → List Vl | .mk _ _ _ l => l
end Vl
attribute [simp] Vl.k Vl.n Vl.s Vl.l
theorem Vl.eta (v : Vl) : Vl.mk v.k v.n v.s v.l = v := by cases v; rfl
mutual
def VO : Vl → List T
  | .mk k n s l => [.i .i64 k, .i .i64 n, .s s, .own 4 (VOs l)]
def VOs : List Vl → List (List T)
  | [] => []
  | v :: l => VO v :: VOs l
end
mutual
def VI : Vl → List T
  | .mk k n s l => [.i .i64 k, .i .i64 n, .s s, .imm (VIs l)]
def VIs : List Vl → List (List T)
  | [] => []
  | v :: l => VI v :: VIs l
end
theorem VIs_map : ∀ l, VIs l = l.map VI
  | [] => rfl
  | v :: l => by simp [VIs, VIs_map l]
theorem VOs_map : ∀ l, VOs l = l.map VO
  | [] => rfl
  | v :: l => by simp [VOs, VOs_map l]
mutual
theorem VO_toI : ∀ v, toIs (VO v) = VI v
  | .mk k n s l => by simp [VO, VI, toIs, T.toI, VOs_toI l]
theorem VOs_toI : ∀ l, toIr (VOs l) = VIs l
  | [] => by simp [VOs, VIs, toIr]
  | v :: l => by simp [VOs, VIs, toIr, VO_toI v, VOs_toI l]
end
mutual
theorem VO_ow : ∀ v, (VO v).all T.ow = true
  | .mk k n s l => by simp [VO, T.ow, (VOs_ow l).1, (VOs_ow l).2]
theorem VOs_ow : ∀ l, cleanR (VOs l) = true ∧ noImr (VOs l) = true
  | [] => by simp [VOs, cleanR, noImr]
  | v :: l => by
    have h1 := VO_ow v
    have h2 := VOs_ow l
    have h3 := h2.1
    simp only [cleanR] at h3
    exact ⟨by simp only [VOs, cleanR, List.all_cons, ow_clean h1, h3, Bool.and_self], by simp only [VOs, noImr, ow_noImm h1, h2.2, Bool.and_self]⟩
end
def sV : Sh Vl where
  sz := 4
  I := VI
  O := VO
  lI v := by cases v; simp [VI]
  lO v := by cases v; simp [VO]
  toO := VO_toI
  im v := by cases v; simp [VI, T.im]
  ow := VO_ow
@[simp] theorem sV_sz : sV.sz = 4 := rfl
@[simp] theorem sV_I (k n : Int) (s : List UInt8) (l : List Vl) : sV.I (.mk k n s l) = [.i .i64 k, .i .i64 n, .s s, .imm (l.map sV.I)] := by
  show VI _ = _
  simp only [VI, VIs_map]; rfl
@[simp] theorem sV_O (k n : Int) (s : List UInt8) (l : List Vl) : sV.O (.mk k n s l) = [.i .i64 k, .i .i64 n, .s s, .own 4 (l.map sV.O)] := by
  show VO _ = _
  simp only [VO, VOs_map]; rfl
@[simp] theorem sV_take (v : Vl) : (sV.I v).take 4 = sV.I v := sV.takeI v
mutual
def Vl.cnt : Vl → Nat
  | .mk _ _ s l => s.length + Vl.cnts l
def Vl.cnts : List Vl → Nat
  | [] => 0
  | v :: l => 1 + v.cnt + Vl.cnts l
end
theorem Vl.cnts_eq : ∀ l, Vl.cnts l = l.length + sums Vl.cnt l
  | [] => rfl
  | v :: l => by simp only [Vl.cnts, Vl.cnts_eq l, sums, List.map_cons, List.sum_cons, List.length_cons]; omega
theorem Vl.cnt_mk (k n : Int) (s : List UInt8) (l : List Vl) : (Vl.mk k n s l).cnt = s.length + cl Vl.cnt l := by simp only [Vl.cnt, Vl.cnts_eq, cl]
theorem sums_mem {α : Type} {c : α → Nat} {l : List α} {a : α} (h : a ∈ l) : c a ≤ sums c l := by
  induction l with
  | nil => simp at h
  | cons x l ih =>
    simp only [sums, List.map_cons, List.sum_cons]
    rcases List.mem_cons.1 h with rfl | h
    · omega
    · have := ih h; simp only [sums] at this; omega
/-- What holds of a value if it holds of those in its list. -/
theorem Vl.ind {p : Vl → Prop} (h : ∀ k n s l, (∀ v ∈ l, p v) → p (.mk k n s l)) (v : Vl) : p v :=
  Vl.rec (motive_1 := p) (motive_2 := fun l => ∀ v ∈ l, p v) (fun k n s l hl => h k n s l hl) (by simp) (fun v l h1 h2 w hw => by
    rcases List.mem_cons.1 hw with rfl | hw
    · exact h1
    · exact h2 w hw) v
/-! ### texts and numbers -/
abbrev Tx := List UInt8
def sS : Sh Tx where
  sz := 1
  I x := [.s x]
  O x := [.s x]
  lI _ := rfl
  lO _ := rfl
  toO _ := by simp
  im _ := by simp [T.im]
  ow _ := by simp [T.ow]
@[simp] theorem sS_sz : sS.sz = 1 := rfl
@[simp] theorem sS_I (x : Tx) : sS.I x = [.s x] := rfl
@[simp] theorem sS_O (x : Tx) : sS.O x = [.s x] := rfl
def sI : Sh Int where
  sz := 1
  I x := [.i .i64 x]
  O x := [.i .i64 x]
  lI _ := rfl
  lO _ := rfl
  toO _ := by simp
  im _ := by simp [T.im]
  ow _ := by simp [T.ow]
@[simp] theorem sI_sz : sI.sz = 1 := rfl
@[simp] theorem sI_I (x : Int) : sI.I x = [.i .i64 x] := rfl
@[simp] theorem sI_O (x : Int) : sI.O x = [.i .i64 x] := rfl
/-! ### props, nodes, edges, graphs -/
structure Pr where
  name : Tx
  val : Vl
structure Nd where
  id : Int
  labels : List Tx
  props : List Pr
structure Eg where
  id : Int
  kind : Tx
  frm : Int
  to : Int
  props : List Pr
structure Gr where
  nodes : List Nd
  edges : List Eg
  nn : Int
  ne : Int
def sP : Sh Pr where
  sz := 5
  I p := .s p.name :: sV.I p.val
  O p := .s p.name :: sV.O p.val
  lI _ := by simp
  lO _ := by simp
  toO _ := by simp [Sh.toO]
  im _ := by simp [T.im, Sh.im, -List.all_eq_true]
  ow _ := by simp [T.ow, Sh.ow, -List.all_eq_true]
@[simp] theorem sP_sz : sP.sz = 5 := rfl
@[simp] theorem sP_I (n : Tx) (v : Vl) : sP.I ⟨n, v⟩ = .s n :: sV.I v := rfl
@[simp] theorem sP_O (n : Tx) (v : Vl) : sP.O ⟨n, v⟩ = .s n :: sV.O v := rfl
@[simp] theorem sP_take (p : Pr) : (sP.I p).take 5 = sP.I p := sP.takeI p
def Pr.cnt (p : Pr) : Nat := p.name.length + p.val.cnt
def sN : Sh Nd where
  sz := 3
  I a := [.i .i64 a.id, .imm (a.labels.map sS.I), .imm (a.props.map sP.I)]
  O a := [.i .i64 a.id, .own 1 (a.labels.map sS.O), .own 5 (a.props.map sP.O)]
  lI _ := by simp
  lO _ := by simp
  toO _ := by simp only [toIs, toI_i, toI_own, Sh.rO]
  im _ := by simp [T.im]
  ow _ := by simp only [List.all_cons, T.ow, Sh.crO, Sh.nrO, Bool.and_self, List.all_nil]
@[simp] theorem sN_sz : sN.sz = 3 := rfl
@[simp] theorem sN_I (i : Int) (l : List Tx) (p : List Pr) : sN.I ⟨i, l, p⟩ = [.i .i64 i, .imm (l.map sS.I), .imm (p.map sP.I)] := rfl
@[simp] theorem sN_O (i : Int) (l : List Tx) (p : List Pr) : sN.O ⟨i, l, p⟩ = [.i .i64 i, .own 1 (l.map sS.O), .own 5 (p.map sP.O)] := rfl
@[simp] theorem sN_take (a : Nd) : (sN.I a).take 3 = sN.I a := sN.takeI a
def Nd.cnt (a : Nd) : Nat := cl List.length a.labels + cl Pr.cnt a.props
def sE : Sh Eg where
  sz := 5
  I a := [.i .i64 a.id, .s a.kind, .i .i64 a.frm, .i .i64 a.to, .imm (a.props.map sP.I)]
  O a := [.i .i64 a.id, .s a.kind, .i .i64 a.frm, .i .i64 a.to, .own 5 (a.props.map sP.O)]
  lI _ := by simp
  lO _ := by simp
  toO _ := by simp only [toIs, toI_i, toI_s, toI_own, Sh.rO]
  im _ := by simp [T.im]
  ow _ := by simp only [List.all_cons, T.ow, Sh.crO, Sh.nrO, Bool.and_self, List.all_nil]
@[simp] theorem sE_sz : sE.sz = 5 := rfl
@[simp] theorem sE_I (i : Int) (k : Tx) (f t : Int) (p : List Pr) : sE.I ⟨i, k, f, t, p⟩ = [.i .i64 i, .s k, .i .i64 f, .i .i64 t, .imm (p.map sP.I)] := rfl
@[simp] theorem sE_O (i : Int) (k : Tx) (f t : Int) (p : List Pr) : sE.O ⟨i, k, f, t, p⟩ = [.i .i64 i, .s k, .i .i64 f, .i .i64 t, .own 5 (p.map sP.O)] := rfl
@[simp] theorem sE_take (a : Eg) : (sE.I a).take 5 = sE.I a := sE.takeI a
def Eg.cnt (a : Eg) : Nat := a.kind.length + cl Pr.cnt a.props
def sG : Sh Gr where
  sz := 4
  I a := [.imm (a.nodes.map sN.I), .imm (a.edges.map sE.I), .i .i64 a.nn, .i .i64 a.ne]
  O a := [.own 3 (a.nodes.map sN.O), .own 5 (a.edges.map sE.O), .i .i64 a.nn, .i .i64 a.ne]
  lI _ := by simp
  lO _ := by simp
  toO _ := by simp only [toIs, toI_i, toI_s, toI_own, Sh.rO]
  im _ := by simp [T.im]
  ow _ := by simp only [List.all_cons, T.ow, Sh.crO, Sh.nrO, Bool.and_self, List.all_nil]
@[simp] theorem sG_sz : sG.sz = 4 := rfl
@[simp] theorem sG_I (a : List Nd) (b : List Eg) (c d : Int) : sG.I ⟨a, b, c, d⟩ = [.imm (a.map sN.I), .imm (b.map sE.I), .i .i64 c, .i .i64 d] := rfl
@[simp] theorem sG_O (a : List Nd) (b : List Eg) (c d : Int) : sG.O ⟨a, b, c, d⟩ = [.own 3 (a.map sN.O), .own 5 (b.map sE.O), .i .i64 c, .i .i64 d] := rfl
@[simp] theorem sG_take (a : Gr) : (sG.I a).take 4 = sG.I a := sG.takeI a
def Gr.cnt (a : Gr) : Nat := cl Nd.cnt a.nodes + cl Eg.cnt a.edges
end Go.Proofs.Ytehdfbhfbidadaa.V
/- What memory can hold. -/
namespace Go.Proofs.Ytehdfbhfbidadaa.V
open Go
set_option linter.unusedVariables false
set_option linter.unusedSimpArgs false
set_option maxHeartbeats 2000000
/-! ### what memory can hold -/
abbrev i64 (x : Int) : Prop := -9223372036854775808 ≤ x ∧ x < 9223372036854775808
abbrev ln {α : Type} (l : List α) : Prop := l.length ≤ 9223372036854775807
mutual
def Vl.fit : Vl → Prop
  | .mk k n s l => i64 k ∧ i64 n ∧ ln s ∧ ln l ∧ Vl.fits l
def Vl.fits : List Vl → Prop
  | [] => True
  | v :: l => v.fit ∧ Vl.fits l
end
theorem Vl.fits_iff : ∀ {l : List Vl}, Vl.fits l ↔ ∀ v ∈ l, v.fit
  | [] => by simp [Vl.fits]
  | v :: l => by simp [Vl.fits, Vl.fits_iff (l := l)]
theorem Vl.fit_mk {k n : Int} {s : Tx} {l : List Vl} : (Vl.mk k n s l).fit ↔ i64 k ∧ i64 n ∧ ln s ∧ ln l ∧ ∀ v ∈ l, v.fit := by
  rw [Vl.fit, Vl.fits_iff]
def Pr.fit (p : Pr) : Prop := ln p.name ∧ p.val.fit
def Nd.fit (a : Nd) : Prop := i64 a.id ∧ ln a.labels ∧ (∀ x ∈ a.labels, ln x) ∧ ln a.props ∧ ∀ p ∈ a.props, p.fit
def Eg.fit (a : Eg) : Prop := i64 a.id ∧ ln a.kind ∧ i64 a.frm ∧ i64 a.to ∧ ln a.props ∧ ∀ p ∈ a.props, p.fit
def Gr.fit (a : Gr) : Prop := ln a.nodes ∧ (∀ x ∈ a.nodes, x.fit) ∧ ln a.edges ∧ (∀ x ∈ a.edges, x.fit) ∧ i64 a.nn ∧ i64 a.ne
theorem wsub {x : Int} {n : Nat} (h0 : 0 ≤ x) (h1 : x < 2 ^ 62) (h : n ≤ 9223372036854775807) : IntKind.i64.wrap (x - n) = x - n := wrap64 (by omega) (by omega)
theorem left_lt {x : Int} {n : Nat} (h1 : x < 2 ^ 62) : left x n < 2 ^ 62 := by unfold left; split <;> omega
@[simp] theorem wrap_one : IntKind.i64.wrap 1 = 1 := by decide
@[simp] theorem wrap_zero : IntKind.i64.wrap 0 = 0 := by decide
end Go.Proofs.Ytehdfbhfbidadaa.V
/- Names and texts. -/
namespace Go.Proofs.Ytehdfbhfbidadaa.V
open Go
set_option linter.unusedVariables false
set_option linter.unusedSimpArgs false
set_option maxHeartbeats 4000000
def isLet (c : UInt8) : Bool := (decide (97 ≤ c.toNat) && decide (c.toNat ≤ 122)) || (decide (65 ≤ c.toNat) && decide (c.toNat ≤ 90))
def isFig (c : UInt8) : Bool := decide (48 ≤ c.toNat) && decide (c.toNat ≤ 57)
def kept : List Tx := [[77, 65, 84, 67, 72], [79, 80, 84, 73, 79, 78, 65, 76], [87, 72, 69, 82, 69], [85, 78, 87, 73, 78, 68], [87, 73, 84, 72], [82, 69, 84, 85, 82, 78], [67, 82, 69, 65, 84, 69], [83, 69, 84], [68, 69, 76, 69, 84, 69], [68, 69, 84, 65, 67, 72], [65, 83], [65, 78, 68], [79, 82], [78, 79, 84], [73, 83], [78, 85, 76, 76], [73, 78], [68, 73, 83, 84, 73, 78, 67, 84], [79, 82, 68, 69, 82], [66, 89], [68, 69, 83, 67], [83, 75, 73, 80], [76, 73, 77, 73, 84], [110, 117, 108, 108], [116, 114, 117, 101], [102, 97, 108, 115, 101], [99, 111, 117, 110, 116], [115, 117, 109], [115, 105, 122, 101]]
/-- From the second letter on. -/
def inName (c : UInt8) : Bool := isLet c || isFig c
def nameOk : Tx → Bool
  | [] => false
  | c :: r => isLet c && r.all inName && decide (r.length ≤ 7) && !kept.contains (c :: r)
theorem l2Letter_c (c : UInt8) : Rv Try.prog 130 [.i .u8 (c.toNat : Int)] (.b (isLet c)) := by
  refine via_spec_l2Letter (by simp) ?_
  by_cases h1 : 97 ≤ (c.toNat : Int) <;> by_cases h2 : (c.toNat : Int) ≤ 122 <;> by_cases h3 : 65 ≤ (c.toNat : Int) <;> by_cases h4 : (c.toNat : Int) ≤ 90 <;>
    (simp [pc_spec_l2Letter, h1, h2, h3, h4]; exact fin_val rfl (by simp [isLet]; omega) (by simp))
theorem isLetter_c (c : UInt8) : Rv Try.prog 134 [.i .u8 (c.toNat : Int)] (.b (isLet c)) := by
  refine via_impl_isLetter (by simp) ?_
  by_cases h1 : 97 ≤ (c.toNat : Int) <;> by_cases h2 : (c.toNat : Int) ≤ 122 <;> by_cases h3 : 65 ≤ (c.toNat : Int) <;> by_cases h4 : (c.toNat : Int) ≤ 90 <;>
    (simp [pc_impl_isLetter, h1, h2, h3, h4]; exact fin_val rfl (by simp [isLet]; omega) (by simp))
theorem isFigure_c (c : UInt8) : Rv Try.prog 135 [.i .u8 (c.toNat : Int)] (.b (isFig c)) := by
  refine via_impl_isFigure (by simp) ?_
  by_cases h1 : 48 ≤ (c.toNat : Int) <;> by_cases h2 : (c.toNat : Int) ≤ 57 <;>
    (simp [pc_impl_isFigure, h1, h2]; exact fin_val rfl (by simp [isFig]; omega) (by simp))
theorem l1In_c (n lo hi : Int) : Rv Try.prog 69 [.i .i64 n, .i .i64 lo, .i .i64 hi] (.b (decide (lo ≤ n) && decide (n ≤ hi))) := by
  refine via_spec_l1In (by simp) ?_
  by_cases h1 : lo ≤ n <;> by_cases h2 : n ≤ hi <;>
    (simp [pc_spec_l1In, h1, h2]; exact fin_val rfl (by simp [h1, h2]) (by simp))
theorem kept_len : kept.length = 29 := rfl
theorem l2Kept_c (s : Tx) : Rv Try.prog 131 [.s s] (.b (kept.contains s)) := by
  refine via_spec_l2Kept (by simp) ?_
  simp [pc_spec_l2Kept]
  refine W_for (fun i => ⟨[(4, .i .i64 i), (3, .ref 0 0 29), (0, .s s)], [(0, .arr 1 (kept.map sS.O))], 1, 0⟩) 29 (fun i => ∀ j, j < i → kept[j]? ≠ some s) (Wk.less rfl (by simp) (by simp) (by simp [kept])) (by simp) ?_
  intro i hi hv
  rcases Nat.lt_or_ge i 29 with h1 | h1
  · obtain ⟨x, hx⟩ : ∃ x, kept[i]? = some x := ⟨_, List.getElem?_eq_getElem (by rw [kept_len]; exact h1)⟩
    have hw : IntKind.i64.wrap ((i : Int) + 1) = (i : Int) + 1 := wrap1 (by omega)
    have h1' : (i : Int) < 29 := by omega
    by_cases e : x = s
    · simp [-getElem?_pos, hx, hw, h1', e]
      exact fin_val rfl (by simp [← e, List.mem_of_getElem? hx]) (by simp)
    · simp [-getElem?_pos, hx, hw, h1', e, h1]
      refine ⟨?_, Wk.to1 rfl (by simp) (by simp) (by simp) (Sh.crO sS _) (by omega)⟩
      intro j hj
      rcases Nat.lt_or_ge j i with h2 | h2
      · exact hv j h2
      · rw [show j = i by omega, hx]; simpa using e
  · have h2 : ¬ (i : Int) < 29 := by omega
    simp [h2]
    have hn : ¬ s ∈ kept := by
      intro h
      obtain ⟨j, hj⟩ := List.mem_iff_getElem?.1 h
      have : j < kept.length := (List.getElem?_eq_some_iff.1 hj).1
      rw [kept_len] at this
      exact hv j (by omega) hj
    exact fin_val rfl (by simp [hn]) (by simp)
/-- What may stand at a place of a name. -/
def okAt (i : Nat) (c : UInt8) : Prop := isLet c = true ∨ (i ≠ 0 ∧ isFig c = true)
theorem nameOk_iff (s : Tx) : nameOk s = true ↔ (∀ i c, s[i]? = some c → okAt i c) ∧ 1 ≤ s.length ∧ s.length ≤ 8 ∧ ¬ s ∈ kept := by
  cases s with
  | nil => simp [nameOk]
  | cons c r =>
    simp only [nameOk, Bool.and_eq_true, List.all_eq_true, decide_eq_true_eq, Bool.not_eq_true', List.length_cons]
    constructor
    · rintro ⟨⟨⟨h1, h2⟩, h3⟩, h4⟩
      refine ⟨fun i d hd => ?_, by omega, by omega, fun h => by simp [h] at h4⟩
      cases i with
      | zero => simp at hd; subst hd; exact .inl h1
      | succ i =>
        simp at hd
        have := h2 d (List.mem_of_getElem? hd)
        simp only [inName, Bool.or_eq_true] at this
        exact this.imp id fun h => ⟨by omega, h⟩
    · rintro ⟨h1, h2, h3, h4⟩
      refine ⟨⟨⟨?_, fun d hd => ?_⟩, by omega⟩, by simp [h4]⟩
      · have := h1 0 c rfl
        rcases this with h | h
        · exact h
        · exact absurd rfl h.1
      · obtain ⟨i, hi⟩ := List.mem_iff_getElem?.1 hd
        have := h1 (i + 1) d (by simpa using hi)
        simp only [inName, Bool.or_eq_true]
        exact this.imp id And.right
theorem nameOk_false {s : Tx} (h : ¬ ((∀ i c, s[i]? = some c → okAt i c) ∧ 1 ≤ s.length ∧ s.length ≤ 8 ∧ ¬ s ∈ kept)) : nameOk s = false := by
  rw [Bool.eq_false_iff]; intro h2; exact h ((nameOk_iff s).1 h2)
theorem l2Name_c (s : Tx) (hs : ln s) : Rv Try.prog 67 [.s s] (.b (nameOk s)) := by
  refine via_spec_l2Name (by simp) ?_
  simp [pc_spec_l2Name]
  refine W_for (fun i => ⟨[(3, .i .i64 i), (0, .s s)], [], 0, 0⟩) s.length (fun i => ∀ j c, j < i → s[j]? = some c → okAt j c) (Wk.less rfl (by simp) (by simp) (by simp)) (by simp) ?_
  intro i hi hv
  rcases Nat.lt_or_ge i s.length with h1 | h1
  · obtain ⟨x, hx⟩ : ∃ x, s[i]? = some x := ⟨_, List.getElem?_eq_getElem h1⟩
    have hw : IntKind.i64.wrap ((i : Int) + 1) = (i : Int) + 1 := wrap1 (by omega)
    simp [-getElem?_pos, hx, h1]
    refine callK_val (by simp) (l2Letter_c x) rfl ?_
    by_cases hl : isLet x = true
    · simp [-getElem?_pos, hx, h1, hl, hw]
      refine ⟨fun j c hj hc => ?_, Wk.to rfl (by simp) (by simp) (by simp) (by simp)⟩
      rcases Nat.lt_or_ge j i with h2 | h2
      · exact hv j c h2 hc
      · rw [show j = i by omega, hx] at hc
        simp at hc; subst hc; exact .inl hl
    · by_cases h0 : i = 0
      · simp [-getElem?_pos, hx, h1, hl, hw, h0]
        refine fin_val rfl ?_ (by simp)
        rw [nameOk_false fun h => ?_]
        · simp
        · have := h.1 i x hx
          simp [okAt, hl, h0] at this
      · by_cases h2 : (x.toNat : Int) < 48
        · simp [-getElem?_pos, hx, h1, hl, hw, h0, h2]
          refine fin_val rfl ?_ (by simp)
          rw [nameOk_false fun h => ?_]
          · simp
          · have := h.1 i x hx
            simp [okAt, hl, isFig] at this
            omega
        · by_cases h3 : 57 < (x.toNat : Int)
          · simp [-getElem?_pos, hx, h1, hl, hw, h0, h2, h3]
            refine fin_val rfl ?_ (by simp)
            rw [nameOk_false fun h => ?_]
            · simp
            · have := h.1 i x hx
              simp [okAt, hl, isFig] at this
              omega
          · simp [-getElem?_pos, hx, h1, hl, hw, h0, h2, h3]
            refine ⟨fun j c hj hc => ?_, Wk.to rfl (by simp) (by simp) (by simp) (by simp)⟩
            rcases Nat.lt_or_ge j i with h4 | h4
            · exact hv j c h4 hc
            · rw [show j = i by omega, hx] at hc
              simp at hc; subst hc; exact .inr ⟨by omega, by simp [isFig]; omega⟩
  · have h2 : ¬ i < s.length := by omega
    have hall : ∀ j c, s[j]? = some c → okAt j c := fun j c hc => hv j c (by have := (List.getElem?_eq_some_iff.1 hc).1; omega) hc
    simp [h2]
    refine callK_val (by simp) (l1In_c s.length 1 8) rfl ?_
    by_cases h3 : 1 ≤ s.length
    · by_cases h4 : s.length ≤ 8
      · have h3' : (1 : Int) ≤ s.length := by omega
        have h4' : (s.length : Int) ≤ 8 := by omega
        simp [h3', h4', h3, h4]
        refine callK_val (by simp) (l2Kept_c s) rfl ?_
        by_cases h5 : s ∈ kept
        · simp [h3', h4', h5, h3, h4]
          refine fin_val rfl ?_ (by simp)
          rw [nameOk_false fun h => h.2.2.2 h5]; simp
        · simp [h3', h4', h5, h3, h4]
          refine fin_val rfl ?_ (by simp)
          rw [(nameOk_iff s).2 ⟨hall, h3, h4, h5⟩]; simp
      · have h4' : ¬ (s.length : Int) ≤ 8 := by omega
        simp [h4', h4]
        refine fin_val rfl ?_ (by simp)
        rw [nameOk_false fun h => h4 h.2.2.1]; simp
    · have h3' : ¬ (1 : Int) ≤ s.length := by omega
      simp [h3', h3]
      refine fin_val rfl ?_ (by simp)
      rw [nameOk_false fun h => h3 h.2.1]; simp
set_option maxRecDepth 20000 in
theorem NameOk_c (s : Tx) (hs : ln s) : Rv Try.prog 71 [.s s] (.b (nameOk s)) := by
  refine via_impl_NameOk (by simp) ?_
  cases hs0 : s with
  | nil =>
    simp [pc_impl_NameOk]
    exact fin_val rfl (by simp [nameOk]) (by simp)
  | cons c r =>
    rw [← hs0]
    have hne : ¬ s = [] := by simp [hs0]
    have hc0 : s[0]? = some c := by simp [hs0]
    have hlen : s.length = r.length + 1 := by simp [hs0]
    by_cases h8 : 8 < s.length
    · have h8' : (8 : Int) < s.length := by omega
      simp [pc_impl_NameOk, hne, h8, h8']
      refine fin_val rfl ?_ (by simp)
      rw [nameOk_false fun h => by omega]; simp
    · have h8' : ¬ (8 : Int) < s.length := by omega
      simp [-getElem?_pos, pc_impl_NameOk, hne, h8, h8', hc0]
      refine callK_val (by simp) (isLetter_c c) rfl ?_
      by_cases hl : isLet c = true
      · simp [-getElem?_pos, hne, h8, h8', hc0, hl]
        refine W_wk (s' := ⟨[(3, .i .i64 1), (0, .s s)], [], 0, 0⟩) (Wk.less rfl (by simp) (by simp) (by simp)) ?_
        refine W_while (m := s.length - 1) (fun m st => ∃ i : Nat, 1 ≤ i ∧ i + m = s.length ∧ (∀ j d, j < i → s[j]? = some d → okAt j d) ∧ st = ⟨[(3, .i .i64 i), (0, .s s)], [], 0, 0⟩) ⟨1, by omega, by omega, fun j d hj hd => by
          rw [show j = 0 by omega, hc0] at hd; simp at hd; subst hd; exact .inl hl, rfl⟩ ?_
        rintro m st ⟨i, hi1, him, hv, rfl⟩
        rcases Nat.lt_or_ge i s.length with h1 | h1
        · obtain ⟨x, hx⟩ : ∃ x, s[i]? = some x := ⟨_, List.getElem?_eq_getElem h1⟩
          have hw : IntKind.i64.wrap ((i : Int) + 1) = (i : Int) + 1 := wrap1 (by omega)
          have h1' : (i : Int) < s.length := by omega
          have done : okAt i x → ∀ j d, j < i + 1 → s[j]? = some d → okAt j d := by
            intro ho j d hj hd
            rcases Nat.lt_or_ge j i with h4 | h4
            · exact hv j d h4 hd
            · obtain rfl : j = i := by omega
              rw [hx] at hd
              simp at hd; subst hd; exact ho
          simp [-getElem?_pos, hx, h1, h1']
          refine callK_val (by simp) (isLetter_c x) rfl ?_
          by_cases hlx : isLet x = true
          · simp [-getElem?_pos, hx, h1, h1', hlx, hw]
            exact ⟨_, Wk.to (s' := ⟨[(3, .i .i64 ((i + 1 : Nat) : Int)), (0, .s s)], [], 0, 0⟩) rfl (by simp) (by simp) (by simp) (by simp), s.length - (i + 1), by omega, i + 1, by omega, by omega, done (.inl hlx), rfl⟩
          · simp [-getElem?_pos, hx, h1, h1', hlx, hw]
            refine callK_val (by simp) (isFigure_c x) rfl ?_
            by_cases hfx : isFig x = true
            · simp [-getElem?_pos, hx, h1, h1', hlx, hw, hfx]
              exact ⟨_, Wk.to (s' := ⟨[(3, .i .i64 ((i + 1 : Nat) : Int)), (0, .s s)], [], 0, 0⟩) rfl (by simp) (by simp) (by simp) (by simp), s.length - (i + 1), by omega, i + 1, by omega, by omega, done (.inr ⟨by omega, hfx⟩), rfl⟩
            · simp [-getElem?_pos, hx, h1, h1', hlx, hw, hfx]
              refine fin_val rfl ?_ (by simp)
              rw [nameOk_false fun h => ?_]
              · simp
              · have := h.1 i x hx
                simp [okAt, hlx, hfx] at this
        · have h2 : ¬ i < s.length := by omega
          have h2' : ¬ (i : Int) < s.length := by omega
          have hall : ∀ j d, s[j]? = some d → okAt j d := fun j d hd => hv j d (by have := (List.getElem?_eq_some_iff.1 hd).1; omega) hd
          simp [h2, h2']
          by_cases hk : s ∈ kept
          · have hf : nameOk s = false := nameOk_false fun h => h.2.2.2 hk
            rw [hf]
            clear hf hall hv
            simp only [kept, List.mem_cons, List.not_mem_nil, or_false] at hk
            repeat' rcases hk with hk | hk
            all_goals (simp; exact fin_val rfl (by simp) (by simp))
          · have hf : nameOk s = true := (nameOk_iff s).2 ⟨hall, by omega, by omega, hk⟩
            rw [hf]
            simp only [kept, List.mem_cons, List.not_mem_nil, or_false, not_or] at hk
            simp [hk]
            exact fin_val rfl (by simp) (by simp)
      · simp [-getElem?_pos, hne, h8, h8', hc0, hl]
        refine fin_val rfl ?_ (by simp)
        rw [nameOk_false fun h => ?_]
        · simp
        · have := h.1 0 c hc0
          simp [okAt, hl] at this
end Go.Proofs.Ytehdfbhfbidadaa.V
/- Values that are ok. -/
namespace Go.Proofs.Ytehdfbhfbidadaa.V
open Go
set_option linter.unusedVariables false
set_option linter.unusedSimpArgs false
set_option maxHeartbeats 8000000
def okB (c : UInt8) : Bool := !(decide ((c.toNat : Int) < 32) || decide (126 < (c.toNat : Int)) || decide ((c.toNat : Int) = 39))
def okT (s : Tx) : Bool := s.all okB && decide (s.length ≤ 16)
theorem okT_false {s : Tx} {i : Nat} {c : UInt8} (h : s[i]? = some c) (h1 : okB c = false) : okT s = false := by
  rw [Bool.eq_false_iff]
  intro h2
  simp only [okT, Bool.and_eq_true, List.all_eq_true] at h2
  exact absurd (h2.1 c (List.mem_of_getElem? h)) (by simp [h1])
theorem okT_of {s : Tx} (h : ∀ (j : Nat) (c : UInt8), s[j]? = some c → okB c = true) : okT s = decide (s.length ≤ 16) := by
  have : s.all okB = true := List.all_eq_true.2 fun c hc => by
    obtain ⟨j, hj⟩ := List.mem_iff_getElem?.1 hc
    exact h j c hj
  simp [okT, this]
theorem l1Text_c (s : Tx) (hs : ln s) : Rv Try.prog 148 [.s s] (.b (okT s)) := by
  refine via_spec_l1Text (by simp) ?_
  simp [pc_spec_l1Text]
  refine W_for (fun i => ⟨[(3, .i .i64 i), (0, .s s)], [], 0, 0⟩) s.length (fun i => ∀ j c, j < i → s[j]? = some c → okB c = true) (Wk.less rfl (by simp) (by simp) (by simp)) (by simp) ?_
  intro i hi hv
  rcases Nat.lt_or_ge i s.length with h1 | h1
  · obtain ⟨x, hx⟩ : ∃ x, s[i]? = some x := ⟨_, List.getElem?_eq_getElem h1⟩
    have hw : IntKind.i64.wrap ((i : Int) + 1) = (i : Int) + 1 := wrap1 (by omega)
    by_cases h3 : (x.toNat : Int) < 32
    · simp [-getElem?_pos, hx, h1, h3, hw]
      exact fin_val rfl (by simp [okT_false hx (by simp [okB]; omega)]) (by simp)
    · by_cases h4 : 126 < (x.toNat : Int)
      · simp [-getElem?_pos, hx, h1, h3, h4, hw]
        exact fin_val rfl (by simp [okT_false hx (by simp [okB]; omega)]) (by simp)
      · by_cases h5 : (x.toNat : Int) = 39
        · simp [-getElem?_pos, hx, h1, h3, h4, h5, hw]
          exact fin_val rfl (by simp [okT_false hx (by simp [okB]; omega)]) (by simp)
        · simp [-getElem?_pos, hx, h1, h3, h4, h5, hw]
          refine ⟨fun j c hj hc => ?_, Wk.to rfl (by simp) (by simp) (by simp) (by simp)⟩
          rcases Nat.lt_or_ge j i with h6 | h6
          · exact hv j c h6 hc
          · obtain rfl : j = i := by omega
            rw [hx] at hc; simp at hc; subst hc
            simp [okB]; omega
  · have h2 : ¬ i < s.length := by omega
    simp [h2]
    refine fin_val rfl ?_ (by simp)
    rw [okT_of fun j c hc => hv j c (by have := (List.getElem?_eq_some_iff.1 hc).1; omega) hc]
    simp
    omega
theorem textFits_c (s : Tx) (hs : ln s) : Rv Try.prog 128 [.s s] (.b (okT s)) := by
  refine via_impl_textFits (by simp) ?_
  by_cases h16 : 16 < s.length
  · have h16' : (16 : Int) < s.length := by omega
    simp [pc_impl_textFits, h16, h16']
    exact fin_val rfl (by simp [okT]; omega) (by simp)
  · have h16' : ¬ (16 : Int) < s.length := by omega
    simp [pc_impl_textFits, h16, h16']
    refine W_for (fun i => ⟨[(3, .i .i64 i), (0, .s s)], [], 0, 0⟩) s.length (fun i => ∀ j c, j < i → s[j]? = some c → okB c = true) (Wk.less rfl (by simp) (by simp) (by simp)) (by simp) ?_
    intro i hi hv
    rcases Nat.lt_or_ge i s.length with h1 | h1
    · obtain ⟨x, hx⟩ : ∃ x, s[i]? = some x := ⟨_, List.getElem?_eq_getElem h1⟩
      have hw : IntKind.i64.wrap ((i : Int) + 1) = (i : Int) + 1 := wrap1 (by omega)
      by_cases h3 : (x.toNat : Int) < 32
      · simp [-getElem?_pos, hx, h1, h3, hw]
        exact fin_val rfl (by simp [okT_false hx (by simp [okB]; omega)]) (by simp)
      · by_cases h4 : 126 < (x.toNat : Int)
        · simp [-getElem?_pos, hx, h1, h3, h4, hw]
          exact fin_val rfl (by simp [okT_false hx (by simp [okB]; omega)]) (by simp)
        · by_cases h5 : (x.toNat : Int) = 39
          · simp [-getElem?_pos, hx, h1, h3, h4, h5, hw]
            exact fin_val rfl (by simp [okT_false hx (by simp [okB]; omega)]) (by simp)
          · simp [-getElem?_pos, hx, h1, h3, h4, h5, hw]
            refine ⟨fun j c hj hc => ?_, Wk.to rfl (by simp) (by simp) (by simp) (by simp)⟩
            rcases Nat.lt_or_ge j i with h6 | h6
            · exact hv j c h6 hc
            · obtain rfl : j = i := by omega
              rw [hx] at hc; simp at hc; subst hc
              simp [okB]; omega
    · have h2 : ¬ i < s.length := by omega
      simp [h2]
      refine fin_val rfl ?_ (by simp)
      rw [okT_of fun j c hc => hv j c (by have := (List.getElem?_eq_some_iff.1 hc).1; omega) hc]
      simp
      omega
/-- A value that is ok, and at most so many within each other. -/
def okV : Nat → Vl → Bool
  | 0, _ => false
  | d + 1, .mk k n s l =>
    if k = 0 then decide (n = 0) && decide (s = []) && decide (l.length = 0)
    else if k = 1 then (decide (n = 0) || decide (n = 1)) && decide (s = []) && decide (l.length = 0)
    else if k = 2 then decide (-1000000000 ≤ n) && decide (n ≤ 1000000000) && decide (s = []) && decide (l.length = 0)
    else if k = 3 then decide (n = 0) && okT s && decide (l.length = 0)
    else if k = 5 ∨ k = 6 then decide (0 ≤ n) && decide (n ≤ 1000000000) && decide (s = []) && decide (l.length = 0)
    else if k = 4 then decide (n = 0) && decide (s = []) && decide (l.length ≤ 6) && l.all (okV d)
    else false
theorem valueFits_0 (v : Vl) : Rv Try.prog 65 [.agg (sV.I v), .i .i64 0] (.b false) := by
  refine via_impl_valueFits (by simp) ?_
  obtain ⟨k, n, s, l⟩ := v
  simp [pc_impl_valueFits]
  exact fin_val rfl (by simp) (by simp)
theorem valueFits_c (d : Nat) (hd : d ≤ 3) : ∀ v : Vl, v.fit → Rv Try.prog 65 [.agg (sV.I v), .i .i64 (d : Int)] (.b (okV d v)) := by
  induction d with
  | zero => exact fun v _ => valueFits_0 v
  | succ d ih =>
    intro v hf
    obtain ⟨k, n, s, l⟩ := v
    obtain ⟨_, _, hs, hl, hv⟩ := Vl.fit_mk.1 hf
    refine via_impl_valueFits (by simp) ?_
    have h1 : ¬ ((d + 1 : Nat) : Int) < 1 := by omega
    have h1' : ¬ (d : Int) + 1 < 1 := by omega
    have h1'' : ¬ (d : Int) < 0 := by omega
    by_cases k0 : k = 0
    · subst k0
      by_cases hn : n = 0
      · by_cases hs0 : s = []
        · simp [pc_impl_valueFits, h1, h1', hn, hs0]
          exact fin_val rfl (by simp [okV, hn, hs0]) (by simp)
        · simp [pc_impl_valueFits, h1, h1', hn, hs0]
          exact fin_val rfl (by simp [okV, hn, hs0]) (by simp)
      · simp [pc_impl_valueFits, h1, h1', hn]
        exact fin_val rfl (by simp [okV, hn]) (by simp)
    by_cases k1 : k = 1
    · subst k1
      by_cases hn : n = 0
      · by_cases hs0 : s = []
        · simp [pc_impl_valueFits, h1, h1', hn, hs0]
          exact fin_val rfl (by simp [okV, hn, hs0]) (by simp)
        · simp [pc_impl_valueFits, h1, h1', hn, hs0]
          exact fin_val rfl (by simp [okV, hn, hs0]) (by simp)
      · by_cases hn1 : n = 1
        · by_cases hs0 : s = []
          · simp [pc_impl_valueFits, h1, h1', hn, hn1, hs0]
            exact fin_val rfl (by simp [okV, hn, hn1, hs0]) (by simp)
          · simp [pc_impl_valueFits, h1, h1', hn, hn1, hs0]
            exact fin_val rfl (by simp [okV, hn, hn1, hs0]) (by simp)
        · simp [pc_impl_valueFits, h1, h1', hn, hn1]
          exact fin_val rfl (by simp [okV, hn, hn1]) (by simp)
    by_cases k2 : k = 2
    · subst k2
      by_cases hn : -1000000000 ≤ n
      · by_cases hn2 : n ≤ 1000000000
        · by_cases hs0 : s = []
          · simp [pc_impl_valueFits, h1, h1', hn, hn2, hs0]
            exact fin_val rfl (by simp [okV, hn, hn2, hs0]) (by simp)
          · simp [pc_impl_valueFits, h1, h1', hn, hn2, hs0]
            exact fin_val rfl (by simp [okV, hn, hn2, hs0]) (by simp)
        · simp [pc_impl_valueFits, h1, h1', hn, hn2]
          exact fin_val rfl (by simp [okV, hn, hn2]) (by simp)
      · simp [pc_impl_valueFits, h1, h1', hn]
        exact fin_val rfl (by simp [okV, hn]) (by simp)
    by_cases k3 : k = 3
    · subst k3
      by_cases hn : n = 0
      · simp [pc_impl_valueFits, h1, h1', hn]
        refine callK_val (by simp) (textFits_c s hs) rfl ?_
        by_cases ht : okT s = true
        · simp [ht]
          exact fin_val rfl (by simp [okV, ht]) (by simp)
        · simp [ht]
          exact fin_val rfl (by simp [okV, ht]) (by simp)
      · simp [pc_impl_valueFits, h1, h1', hn]
        exact fin_val rfl (by simp [okV, hn]) (by simp)
    by_cases k5 : k = 5
    · subst k5
      by_cases hn : 0 ≤ n
      · by_cases hn2 : n ≤ 1000000000
        · by_cases hs0 : s = []
          · simp [pc_impl_valueFits, h1, h1', hn, hn2, hs0]
            exact fin_val rfl (by simp [okV, hn, hn2, hs0]) (by simp)
          · simp [pc_impl_valueFits, h1, h1', hn, hn2, hs0]
            exact fin_val rfl (by simp [okV, hn, hn2, hs0]) (by simp)
        · simp [pc_impl_valueFits, h1, h1', hn, hn2]
          exact fin_val rfl (by simp [okV, hn, hn2]) (by simp)
      · simp [pc_impl_valueFits, h1, h1', hn]
        exact fin_val rfl (by simp [okV, hn]) (by simp)
    by_cases k6 : k = 6
    · subst k6
      by_cases hn : 0 ≤ n
      · by_cases hn2 : n ≤ 1000000000
        · by_cases hs0 : s = []
          · simp [pc_impl_valueFits, h1, h1', hn, hn2, hs0]
            exact fin_val rfl (by simp [okV, hn, hn2, hs0]) (by simp)
          · simp [pc_impl_valueFits, h1, h1', hn, hn2, hs0]
            exact fin_val rfl (by simp [okV, hn, hn2, hs0]) (by simp)
        · simp [pc_impl_valueFits, h1, h1', hn, hn2]
          exact fin_val rfl (by simp [okV, hn, hn2]) (by simp)
      · simp [pc_impl_valueFits, h1, h1', hn]
        exact fin_val rfl (by simp [okV, hn]) (by simp)
    by_cases k4 : k = 4
    · subst k4
      by_cases hn : n = 0
      · by_cases hs0 : s = []
        · by_cases hl6 : 6 < l.length
          · have hl6' : (6 : Int) < l.length := by omega
            simp [pc_impl_valueFits, h1, h1', hn, hs0, hl6']
            have hl7 : ¬ l.length ≤ 6 := by omega
            exact fin_val rfl (by simp [okV, hl7]) (by simp)
          · have hl6' : ¬ (6 : Int) < l.length := by omega
            simp [pc_impl_valueFits, h1, h1', hn, hs0, hl6']
            have hwd : IntKind.i64.wrap (d : Int) = d := wrap64 (by omega) (by omega)
            refine W_for (fun i => ⟨[(126, .i .i64 i), (125, .i .i64 l.length), (124, .imm (l.map sV.I)), (1, .i .i64 ((d : Int) + 1))], [], 1, 0⟩) l.length (fun i => ∀ j v, j < i → l[j]? = some v → okV d v = true) (Wk.less rfl (by simp) (by simp) (by simp)) (by simp) ?_
            intro i hi hv2
            rcases Nat.lt_or_ge i l.length with h2 | h2
            · obtain ⟨x, hx⟩ : ∃ x, l[i]? = some x := ⟨_, List.getElem?_eq_getElem h2⟩
              have hw : IntKind.i64.wrap ((i : Int) + 1) = (i : Int) + 1 := wrap1 (by omega)
              simp [-getElem?_pos, hx, hw, h2, hwd]
              refine callK_val (by simp) (ih (by omega) x (hv x (List.mem_of_getElem? hx))) rfl ?_
              by_cases ho : okV d x = true
              · simp [-getElem?_pos, hx, hw, h2, hwd, ho]
                refine ⟨fun j v hj hc => ?_, Wk.to rfl (by simp) (by simp) (by simp) (by simp)⟩
                rcases Nat.lt_or_ge j i with h6 | h6
                · exact hv2 j v h6 hc
                · obtain rfl : j = i := by omega
                  rw [hx] at hc; simp at hc; subst hc; exact ho
              · simp [-getElem?_pos, hx, hw, h2, hwd, ho]
                refine fin_val rfl ?_ (by simp)
                have : l.all (okV d) = false := by
                  rw [Bool.eq_false_iff]; intro h
                  exact ho (List.all_eq_true.1 h x (List.mem_of_getElem? hx))
                simp [okV, this]
            · have h3 : ¬ i < l.length := by omega
              simp [h3]
              have : l.all (okV d) = true := List.all_eq_true.2 fun v hm => by
                obtain ⟨j, hj⟩ := List.mem_iff_getElem?.1 hm
                exact hv2 j v (by have := (List.getElem?_eq_some_iff.1 hj).1; omega) hj
              have hl7 : l.length ≤ 6 := by omega
              exact fin_val rfl (by simp [okV, hn, hs0, this, hl7]) (by simp)
        · simp [pc_impl_valueFits, h1, h1', hn, hs0]
          exact fin_val rfl (by simp [okV, hn, hs0]) (by simp)
      · simp [pc_impl_valueFits, h1, h1', hn]
        exact fin_val rfl (by simp [okV, hn]) (by simp)
    simp [pc_impl_valueFits, h1, h1', k0, k1, k2, k3, k4, k5, k6]
    exact fin_val rfl (by simp [okV, k0, k1, k2, k3, k4, k5, k6]) (by simp)
/-- The lists' case apart. -/
theorem l1Ok_of (d : Nat) (hd : d ≤ 2) (k n : Int) (s : Tx) (l : List Vl) (hs : ln s) (hl : ln l) (h4' : k = 4 → Rv Try.prog 87 [.agg (sV.I (.mk 4 n s l)), .i .i64 ((d : Int) + 1)] (.b (okV (d + 1) (.mk 4 n s l)))) :
    Rv Try.prog 87 [.agg (sV.I (.mk k n s l)), .i .i64 ((d : Int) + 1)] (.b (okV (d + 1) (.mk k n s l))) := by
  by_cases k4 : k = 4
  · subst k4; exact h4' rfl
  refine via_spec_l1Ok (by simp) ?_
  by_cases k0 : k = 0
  · subst k0
    by_cases hs0 : s = []
    · by_cases hl0 : l = []
      · by_cases hn : n = 0
        · simp [pc_spec_l1Ok, hs0, hl0, hn]
          exact fin_val rfl (by simp [okV, hs0, hl0, hn]) (by simp)
        · simp [pc_spec_l1Ok, hs0, hl0, hn]
          exact fin_val rfl (by simp [okV, hs0, hl0, hn]) (by simp)
      · simp [pc_spec_l1Ok, hs0, hl0]
        exact fin_val rfl (by simp [okV, hs0, hl0]) (by simp)
    · simp [pc_spec_l1Ok, hs0]
      exact fin_val rfl (by simp [okV, hs0]) (by simp)
  by_cases k1 : k = 1
  · subst k1
    by_cases hs0 : s = []
    · by_cases hl0 : l = []
      · simp [pc_spec_l1Ok, hs0, hl0]
        refine callK_val (by simp) (l1In_c n 0 1) rfl ?_
        by_cases a : 0 ≤ n
        · by_cases b : n ≤ 1
          · simp [a, b]
            exact fin_val rfl (by simp [okV, a, b, hs0, hl0]; omega) (by simp)
          · simp [a, b]
            exact fin_val rfl (by simp [okV, a, b, hs0, hl0]; omega) (by simp)
        · simp [a]
          exact fin_val rfl (by simp [okV, a, hs0, hl0]; omega) (by simp)
      · simp [pc_spec_l1Ok, hs0, hl0]
        exact fin_val rfl (by simp [okV, hs0, hl0]) (by simp)
    · simp [pc_spec_l1Ok, hs0]
      exact fin_val rfl (by simp [okV, hs0]) (by simp)
  by_cases k2 : k = 2
  · subst k2
    by_cases hs0 : s = []
    · by_cases hl0 : l = []
      · simp [pc_spec_l1Ok, hs0, hl0]
        refine callK_val (by simp) (l1In_c n (-1000000000) 1000000000) rfl ?_
        by_cases a : -1000000000 ≤ n
        · by_cases b : n ≤ 1000000000
          · simp [a, b]
            exact fin_val rfl (by simp [okV, a, b, hs0, hl0]) (by simp)
          · simp [a, b]
            exact fin_val rfl (by simp [okV, a, b, hs0, hl0]) (by simp)
        · simp [a]
          exact fin_val rfl (by simp [okV, a, hs0, hl0]) (by simp)
      · simp [pc_spec_l1Ok, hs0, hl0]
        exact fin_val rfl (by simp [okV, hs0, hl0]) (by simp)
    · simp [pc_spec_l1Ok, hs0]
      exact fin_val rfl (by simp [okV, hs0]) (by simp)
  by_cases k3 : k = 3
  · subst k3
    by_cases hn : n = 0
    · by_cases hl0 : l = []
      · by_cases hs0 : s = []
        · subst hs0
          simp [pc_spec_l1Ok, hn, hl0]
          refine callK_val (by simp) (l1Text_c [] (by simp [ln])) rfl ?_
          simp [okT]
          exact fin_val rfl (by simp [okV, okT]) (by simp)
        · simp [pc_spec_l1Ok, hn, hl0, hs0]
          refine callK_val (by simp) (l1Text_c s hs) rfl ?_
          by_cases ht : okT s = true
          · simp [ht]
            exact fin_val rfl (by simp [okV, ht]) (by simp)
          · simp [ht]
            exact fin_val rfl (by simp [okV, ht]) (by simp)
      · by_cases hs0 : s = []
        all_goals
          simp [pc_spec_l1Ok, hn, hl0, hs0]
          exact fin_val rfl (by simp [okV, hn, hl0]) (by simp)
    · by_cases hs0 : s = []
      all_goals
        by_cases hl0 : l = []
        all_goals
          simp [pc_spec_l1Ok, hn, hs0, hl0]
          exact fin_val rfl (by simp [okV, hn]) (by simp)
  by_cases k5 : k = 5
  · subst k5
    by_cases hs0 : s = []
    · by_cases hl0 : l = []
      · simp [pc_spec_l1Ok, hs0, hl0]
        refine callK_val (by simp) (l1In_c n 0 1000000000) rfl ?_
        by_cases a : 0 ≤ n
        · by_cases b : n ≤ 1000000000
          · simp [a, b]
            exact fin_val rfl (by simp [okV, a, b, hs0, hl0]) (by simp)
          · simp [a, b]
            exact fin_val rfl (by simp [okV, a, b, hs0, hl0]) (by simp)
        · simp [a]
          exact fin_val rfl (by simp [okV, a, hs0, hl0]) (by simp)
      · simp [pc_spec_l1Ok, hs0, hl0]
        exact fin_val rfl (by simp [okV, hs0, hl0]) (by simp)
    · simp [pc_spec_l1Ok, hs0]
      exact fin_val rfl (by simp [okV, hs0]) (by simp)
  by_cases k6 : k = 6
  · subst k6
    by_cases hs0 : s = []
    · by_cases hl0 : l = []
      · simp [pc_spec_l1Ok, hs0, hl0]
        refine callK_val (by simp) (l1In_c n 0 1000000000) rfl ?_
        by_cases a : 0 ≤ n
        · by_cases b : n ≤ 1000000000
          · simp [a, b]
            exact fin_val rfl (by simp [okV, a, b, hs0, hl0]) (by simp)
          · simp [a, b]
            exact fin_val rfl (by simp [okV, a, b, hs0, hl0]) (by simp)
        · simp [a]
          exact fin_val rfl (by simp [okV, a, hs0, hl0]) (by simp)
      · simp [pc_spec_l1Ok, hs0, hl0]
        exact fin_val rfl (by simp [okV, hs0, hl0]) (by simp)
    · simp [pc_spec_l1Ok, hs0]
      exact fin_val rfl (by simp [okV, hs0]) (by simp)
  by_cases hs0 : s = []
  all_goals
    by_cases hl0 : l = []
    all_goals
      simp [pc_spec_l1Ok, hs0, hl0, k0, k1, k2, k3, k4, k5, k6]
      exact fin_val rfl (by simp [okV, k0, k1, k2, k3, k4, k5, k6]) (by simp)
/-- Lists. -/
theorem l1Ok_list (d : Nat) (hd : d ≤ 2) (n : Int) (s : Tx) (l : List Vl) (hl : ln l) (h : ∀ v ∈ l, 1 ≤ d → Rv Try.prog 87 [.agg (sV.I v), .i .i64 (d : Int)] (.b (okV d v))) : Rv Try.prog 87 [.agg (sV.I (.mk 4 n s l)), .i .i64 ((d : Int) + 1)] (.b (okV (d + 1) (.mk 4 n s l))) := by
  refine via_spec_l1Ok (by simp) ?_
  have hwd : IntKind.i64.wrap (d : Int) = d := wrap64 (by omega) (by omega)
  rcases Classical.em (s = []) with hs0 | hs0
  all_goals
    rcases Classical.em (l = []) with hl0 | hl0
    all_goals
      first | have e1 := eq_false hs0 | have e1 := eq_true hs0
      first | have e2 := eq_false hl0 | have e2 := eq_true hl0
      simp [pc_spec_l1Ok, e1, e2]
      refine W_for (fun i => ⟨[(6, .i .i64 i), (2, .ptr 0 0 0), (1, .i .i64 ((d : Int) + 1))], [(0, .arr 4 [sV.I (.mk 4 n s l)])], 1, 0⟩) l.length (fun i => ∀ j v, j < i → l[j]? = some v → okV d v = true) (Wk.less rfl (by simp) (by simp) (by simp)) (by simp) ?_
      intro i hi hv2
      clear e1 e2
      rcases Nat.lt_or_ge i l.length with h2 | h2
      · obtain ⟨x, hx⟩ : ∃ x, l[i]? = some x := ⟨_, List.getElem?_eq_getElem h2⟩
        have hw : IntKind.i64.wrap ((i : Int) + 1) = (i : Int) + 1 := wrap1 (by omega)
        by_cases hd0 : d = 0
        · have hd2 : (d : Int) + 1 < 2 := by omega
          simp [-getElem?_pos, hx, hw, h2, hwd, hd2]
          refine fin_val rfl ?_ (by simp)
          have : l.all (okV d) = false := by
            rw [Bool.eq_false_iff]; intro h
            have := List.all_eq_true.1 h x (List.mem_of_getElem? hx)
            simp [hd0, okV] at this
          simp [okV, this]
        · have hd2 : ¬ (d : Int) + 1 < 2 := by omega
          simp [-getElem?_pos, hx, hw, h2, hwd, hd2]
          refine callK_val (by simp) (h x (List.mem_of_getElem? hx) (by omega)) rfl ?_
          by_cases ho : okV d x = true
          · simp [-getElem?_pos, hx, hw, h2, hwd, ho, hd2]
            refine ⟨fun j v hj hc => ?_, Wk.to1 rfl (by simp) (by simp) (by simp) (by simp) (by omega)⟩
            rcases Nat.lt_or_ge j i with h6 | h6
            · exact hv2 j v h6 hc
            · obtain rfl : j = i := by omega
              rw [hx] at hc; simp at hc; subst hc; exact ho
          · simp [-getElem?_pos, hx, hw, h2, hwd, ho, hd2]
            refine fin_val rfl ?_ (by simp)
            have : l.all (okV d) = false := by
              rw [Bool.eq_false_iff]; intro h
              exact ho (List.all_eq_true.1 h x (List.mem_of_getElem? hx))
            simp [okV, this]
      · have h3 : ¬ i < l.length := by omega
        have hal : l.all (okV d) = true := List.all_eq_true.2 fun v hm => by
          obtain ⟨j, hj⟩ := List.mem_iff_getElem?.1 hm
          exact hv2 j v (by have := (List.getElem?_eq_some_iff.1 hj).1; omega) hj
        by_cases hn : n = 0
        · by_cases hs1 : s = []
          · simp [h3, hn, hs1]
            exact fin_val rfl (by simp [okV, hal]; omega) (by simp)
          · simp [h3, hn, hs1]
            exact fin_val rfl (by simp [okV, hs1]) (by simp)
        · simp [h3, hn]
          exact fin_val rfl (by simp [okV, hn]) (by simp)
theorem l1Ok_c (d : Nat) (hd : d ≤ 2) : ∀ v : Vl, v.fit → Rv Try.prog 87 [.agg (sV.I v), .i .i64 ((d : Int) + 1)] (.b (okV (d + 1) v)) := by
  induction d with
  | zero =>
    intro v hf
    obtain ⟨k, n, s, l⟩ := v
    obtain ⟨_, _, hs, hl, hv⟩ := Vl.fit_mk.1 hf
    exact l1Ok_of 0 (by omega) k n s l hs hl fun _ => l1Ok_list 0 (by omega) n s l hl fun v hm h => by omega
  | succ d ih =>
    intro v hf
    obtain ⟨k, n, s, l⟩ := v
    obtain ⟨_, _, hs, hl, hv⟩ := Vl.fit_mk.1 hf
    exact l1Ok_of (d + 1) hd k n s l hs hl fun _ => l1Ok_list (d + 1) hd n s l hl fun v hm h => ih (by omega) v (hv v hm)
end Go.Proofs.Ytehdfbhfbidadaa.V
/- Props and labels that are ok. -/
namespace Go.Proofs.Ytehdfbhfbidadaa.V
open Go
set_option linter.unusedVariables false
set_option linter.unusedSimpArgs false
set_option maxHeartbeats 8000000
def vOk (v : Vl) : Bool := okV 3 v
theorem specValueOk_c (v : Vl) (hf : v.fit) : Rv Try.prog 35 [.agg (sV.I v)] (.b (vOk v)) := by
  obtain ⟨k, n, s, l⟩ := v
  refine via_spec_ValueOk (by simp) ?_
  simp [pc_spec_ValueOk]
  refine callK_val (by simp) (l1Ok_c 2 (by omega) (.mk k n s l) hf) rfl ?_
  simp
  exact fin_val rfl (by simp [vOk]) (by simp)
theorem ValueOk_c (v : Vl) (hf : v.fit) : Rv Try.prog 24 [.agg (sV.I v)] (.b (vOk v)) := by
  obtain ⟨k, n, s, l⟩ := v
  refine via_impl_ValueOk (by simp) ?_
  simp [pc_impl_ValueOk]
  refine callK_val (by simp) (valueFits_c 3 (by omega) (.mk k n s l) hf) rfl ?_
  simp
  exact fin_val rfl (by simp [vOk]) (by simp)
/-! ### kinds within a value -/
mutual
def Vl.has (q : Int) : Vl → Bool
  | .mk k _ _ l => decide (k = q) || Vl.hass q l
def Vl.hass (q : Int) : List Vl → Bool
  | [] => false
  | v :: l => v.has q || Vl.hass q l
end
theorem Vl.hass_eq (q : Int) : ∀ l, Vl.hass q l = l.any (Vl.has q)
  | [] => rfl
  | v :: l => by simp [Vl.hass, Vl.hass_eq q l]
theorem Vl.has_mk (q k n : Int) (s : Tx) (l : List Vl) : (Vl.mk k n s l).has q = (decide (k = q) || l.any (Vl.has q)) := by rw [Vl.has, Vl.hass_eq]
mutual
def Vl.plain : Vl → Bool
  | .mk k _ _ l => Vl.plains l && decide (1 ≤ k) && decide (k ≤ 4)
def Vl.plains : List Vl → Bool
  | [] => true
  | v :: l => v.plain && Vl.plains l
end
theorem Vl.plains_eq : ∀ l, Vl.plains l = l.all Vl.plain
  | [] => rfl
  | v :: l => by simp [Vl.plains, Vl.plains_eq l]
theorem Vl.plain_mk (k n : Int) (s : Tx) (l : List Vl) : (Vl.mk k n s l).plain = (l.all Vl.plain && decide (1 ≤ k) && decide (k ≤ 4)) := by rw [Vl.plain, Vl.plains_eq]
/-- Of an ok value: plain just if nothing, no node and no edge is within it. -/
theorem plain_has : ∀ (d : Nat) (v : Vl), okV d v = true → v.plain = (!v.has 0 && !v.has 5 && !v.has 6) := by
  intro d
  induction d with
  | zero => intro v h; simp [okV] at h
  | succ d ih =>
    rintro ⟨k, n, s, l⟩ h
    have hall : ∀ v ∈ l, okV d v = true := by
      by_cases k4 : k = 4
      · subst k4
        simp [okV] at h
        exact h.2
      · have : l = [] := by
          unfold okV at h
          split at h
          · simp at h; exact h.2
          · split at h
            · simp at h; exact h.2
            · split at h
              · simp at h; exact h.2
              · split at h
                · simp at h; exact h.2
                · split at h
                  · simp at h; exact h.2
                  · simp [k4] at h
        simp [this]
    have hk : 0 ≤ k ∧ k ≤ 6 := by
      unfold okV at h
      split at h
      · omega
      · split at h
        · omega
        · split at h
          · omega
          · split at h
            · omega
            · split at h
              · omega
              · split at h
                · omega
                · simp at h
    have hl : l.all Vl.plain = (!l.any (Vl.has 0) && !l.any (Vl.has 5) && !l.any (Vl.has 6)) := by
      clear h
      induction l with
      | nil => rfl
      | cons v l ihl =>
        simp only [List.all_cons, List.any_cons, ih v (hall v (by simp)), ihl (fun w hw => hall w (by simp [hw]))]
        cases v.has 0 <;> cases v.has 5 <;> cases v.has 6 <;> simp
    rw [Vl.plain_mk, Vl.has_mk, Vl.has_mk, Vl.has_mk, hl]
    by_cases k0 : k = 0
    · simp [k0]
    by_cases k5 : k = 5
    · simp [k5]
    by_cases k6 : k = 6
    · simp [k6]
    · have h1 : 1 ≤ k := by omega
      have h2 : k ≤ 4 := by omega
      simp [k0, k5, k6, h1, h2]
theorem l2Plain_c (v : Vl) : v.fit → Rv Try.prog 147 [.agg (sV.I v)] (.b v.plain) := by
  refine Vl.ind (p := fun v => v.fit → Rv Try.prog 147 [.agg (sV.I v)] (.b v.plain)) ?_ v
  intro k n s l ih hf
  obtain ⟨_, _, hs, hl, hv⟩ := Vl.fit_mk.1 hf
  refine via_spec_l2Plain (by simp) ?_
  simp [pc_spec_l2Plain]
  refine W_for (fun i => ⟨[(3, .i .i64 i), (1, .ptr 0 0 0)], [(0, .arr 4 [sV.I (.mk k n s l)])], 1, 0⟩) l.length (fun i => ∀ j v, j < i → l[j]? = some v → v.plain = true) (Wk.less rfl (by simp) (by simp) (by simp)) (by simp) ?_
  intro i hi hv2
  rcases Nat.lt_or_ge i l.length with h2 | h2
  · obtain ⟨x, hx⟩ : ∃ x, l[i]? = some x := ⟨_, List.getElem?_eq_getElem h2⟩
    have hw : IntKind.i64.wrap ((i : Int) + 1) = (i : Int) + 1 := wrap1 (by omega)
    simp [-getElem?_pos, hx, hw, h2]
    refine callK_val (by simp) (ih x (List.mem_of_getElem? hx) (hv x (List.mem_of_getElem? hx))) rfl ?_
    by_cases ho : x.plain = true
    · simp [-getElem?_pos, hx, hw, h2, ho]
      refine ⟨fun j v hj hc => ?_, Wk.to1 rfl (by simp) (by simp) (by simp) (by simp) (by omega)⟩
      rcases Nat.lt_or_ge j i with h6 | h6
      · exact hv2 j v h6 hc
      · obtain rfl : j = i := by omega
        rw [hx] at hc; simp at hc; subst hc; exact ho
    · simp [-getElem?_pos, hx, hw, h2, ho]
      refine fin_val rfl ?_ (by simp)
      have : l.all Vl.plain = false := by
        rw [Bool.eq_false_iff]; intro h
        exact ho (List.all_eq_true.1 h x (List.mem_of_getElem? hx))
      simp [Vl.plain_mk, this]
  · have h3 : ¬ i < l.length := by omega
    simp [h3]
    refine callK_val (by simp) (l1In_c k 1 4) rfl ?_
    simp
    have : l.all Vl.plain = true := List.all_eq_true.2 fun v hm => by
      obtain ⟨j, hj⟩ := List.mem_iff_getElem?.1 hm
      exact hv2 j v (by have := (List.getElem?_eq_some_iff.1 hj).1; omega) hj
    exact fin_val rfl (by simp [Vl.plain_mk, this]) (by simp)
theorem valueHas_c (q : Int) (v : Vl) : v.fit → Rv Try.prog 169 [.agg (sV.I v), .i .i64 q] (.b (v.has q)) := by
  refine Vl.ind (p := fun v => v.fit → Rv Try.prog 169 [.agg (sV.I v), .i .i64 q] (.b (v.has q))) ?_ v
  intro k n s l ih hf
  obtain ⟨_, _, hs, hl, hv⟩ := Vl.fit_mk.1 hf
  refine via_impl_valueHas (by simp) ?_
  by_cases hk : k = q
  · simp [pc_impl_valueHas, hk]
    exact fin_val rfl (by simp [Vl.has_mk]) (by simp)
  · simp [pc_impl_valueHas, hk]
    refine W_for (fun i => ⟨[(14, .i .i64 i), (13, .i .i64 l.length), (12, .imm (l.map sV.I)), (1, .i .i64 q)], [], 1, 0⟩) l.length (fun i => ∀ j v, j < i → l[j]? = some v → v.has q = false) (Wk.less rfl (by simp) (by simp) (by simp)) (by simp) ?_
    intro i hi hv2
    rcases Nat.lt_or_ge i l.length with h2 | h2
    · obtain ⟨x, hx⟩ : ∃ x, l[i]? = some x := ⟨_, List.getElem?_eq_getElem h2⟩
      have hw : IntKind.i64.wrap ((i : Int) + 1) = (i : Int) + 1 := wrap1 (by omega)
      simp [-getElem?_pos, hx, hw, h2]
      refine callK_val (by simp) (ih x (List.mem_of_getElem? hx) (hv x (List.mem_of_getElem? hx))) rfl ?_
      by_cases ho : x.has q = true
      · simp [-getElem?_pos, hx, hw, h2, ho]
        refine fin_val rfl ?_ (by simp)
        have : l.any (Vl.has q) = true := List.any_eq_true.2 ⟨x, List.mem_of_getElem? hx, ho⟩
        simp [Vl.has_mk, this]
      · simp [-getElem?_pos, hx, hw, h2, ho]
        refine ⟨fun j v hj hc => ?_, Wk.to rfl (by simp) (by simp) (by simp) (by simp)⟩
        rcases Nat.lt_or_ge j i with h6 | h6
        · exact hv2 j v h6 hc
        · obtain rfl : j = i := by omega
          rw [hx] at hc; simp at hc; subst hc; simpa using ho
    · have h3 : ¬ i < l.length := by omega
      simp [h3]
      refine fin_val rfl ?_ (by simp)
      have : l.any (Vl.has q) = false := by
        rw [List.any_eq_false]
        intro v hm
        obtain ⟨j, hj⟩ := List.mem_iff_getElem?.1 hm
        simpa using hv2 j v (by have := (List.getElem?_eq_some_iff.1 hj).1; omega) hj
      simp [Vl.has_mk, this, hk]
/-- What may be stored. -/
def sto (v : Vl) : Bool := vOk v && v.plain
theorem storable_c (v : Vl) (hf : v.fit) : Rv Try.prog 108 [.agg (sV.I v)] (.b (sto v)) := by
  refine via_impl_storable (by simp) ?_
  have hp := plain_has 3 v
  obtain ⟨k, n, s, l⟩ := v
  simp [pc_impl_storable]
  refine callK_val (by simp) (ValueOk_c _ hf) rfl ?_
  by_cases h1 : vOk (.mk k n s l) = true
  · have hp := hp h1
    simp [h1]
    refine callK_val (by simp) (valueHas_c 0 _ hf) rfl ?_
    by_cases h2 : (Vl.mk k n s l).has 0 = true
    · simp [h1, h2]
      exact fin_val rfl (by simp [sto, h1, hp, h2]) (by simp)
    · simp [h1, h2]
      refine callK_val (by simp) (valueHas_c 5 _ hf) rfl ?_
      by_cases h3 : (Vl.mk k n s l).has 5 = true
      · simp [h1, h2, h3]
        exact fin_val rfl (by simp [sto, h1, hp, h2, h3]) (by simp)
      · simp [h1, h2, h3]
        refine callK_val (by simp) (valueHas_c 6 _ hf) rfl ?_
        simp [h1, h2, h3]
        exact fin_val rfl (by simp [sto, h1, hp, h2, h3]) (by simp)
  · simp [h1]
    exact fin_val rfl (by simp [sto, h1]) (by simp)
end Go.Proofs.Ytehdfbhfbidadaa.V
/- Labels and lists of props that are ok. -/
namespace Go.Proofs.Ytehdfbhfbidadaa.V
open Go
set_option linter.unusedVariables false
set_option linter.unusedSimpArgs false
set_option maxHeartbeats 8000000
/-- Whether each of a list fits its place, and it comes behind the one ahead of it. -/
def Each {α : Type} (ok : α → Bool) (nm : α → Tx) (l : List α) : Prop :=
  ∀ (i : Nat) (x : α), l[i]? = some x → ok x = true ∧ ∀ y, 0 < i → l[i - 1]? = some y → Op.bytesLess (nm y) (nm x) = true
theorem Each.nil {α : Type} {ok : α → Bool} {nm : α → Tx} : Each ok nm ([] : List α) := by intro i x h; simp at h
def EachTo {α : Type} (ok : α → Bool) (nm : α → Tx) (l : List α) (n : Nat) : Prop :=
  ∀ (i : Nat) (x : α), i < n → l[i]? = some x → ok x = true ∧ ∀ y, 0 < i → l[i - 1]? = some y → Op.bytesLess (nm y) (nm x) = true
theorem EachTo.zero {α : Type} {ok : α → Bool} {nm : α → Tx} {l : List α} : EachTo ok nm l 0 := by intro i x h; omega
theorem EachTo.all {α : Type} {ok : α → Bool} {nm : α → Tx} {l : List α} {n : Nat} (h : EachTo ok nm l n) (hn : l.length ≤ n) : Each ok nm l :=
  fun i x hx => h i x (by have := (List.getElem?_eq_some_iff.1 hx).1; omega) hx
theorem EachTo.succ {α : Type} {ok : α → Bool} {nm : α → Tx} {l : List α} {n : Nat} {x : α} (h : EachTo ok nm l n) (hx : l[n]? = some x) (h1 : ok x = true) (h2 : ∀ y, 0 < n → l[n - 1]? = some y → Op.bytesLess (nm y) (nm x) = true) : EachTo ok nm l (n + 1) := by
  intro i z hi hz
  rcases Nat.lt_or_ge i n with h3 | h3
  · exact h i z h3 hz
  · obtain rfl : i = n := by omega
    rw [hx] at hz; simp at hz; subst hz
    exact ⟨h1, h2⟩
def LabelsOk (l : List Tx) : Prop := Each nameOk id l ∧ l.length ≤ 3
def prOk (p : Pr) : Bool := nameOk p.name && sto p.val
def PropsOk (l : List Pr) : Prop := Each prOk Pr.name l ∧ l.length ≤ 4
theorem wback {i : Nat} (h : 0 < i) (h2 : (i : Int) < 9223372036854775808) : IntKind.i64.wrap ((i : Int) - 1) = ((i - 1 : Nat) : Int) := by
  rw [wrap64 (by omega) (by omega)]; omega
open Classical in
theorem l2Labels_c (l : List Tx) (hl : ln l) (hf : ∀ x ∈ l, ln x) : Rv Try.prog 84 [.imm (l.map sS.I)] (.b (decide (LabelsOk l))) := by
  refine via_spec_l2Labels (by simp) ?_
  simp [pc_spec_l2Labels]
  refine W_for (fun i => ⟨[(3, .i .i64 i), (0, .imm (l.map sS.I))], [], 0, 0⟩) l.length (EachTo nameOk id l) (Wk.less rfl (by simp) (by simp) (by simp)) .zero ?_
  intro i hi hv
  rcases Nat.lt_or_ge i l.length with h1 | h1
  · obtain ⟨x, hx⟩ : ∃ x, l[i]? = some x := ⟨_, List.getElem?_eq_getElem h1⟩
    have hw : IntKind.i64.wrap ((i : Int) + 1) = (i : Int) + 1 := wrap1 (by omega)
    simp [-getElem?_pos, hx, hw, h1]
    refine callK_val (by simp) (l2Name_c x (hf x (List.mem_of_getElem? hx))) rfl ?_
    by_cases ho : nameOk x = true
    · by_cases h0 : 0 < i
      · obtain ⟨y, hy⟩ : ∃ y, l[i - 1]? = some y := ⟨_, List.getElem?_eq_getElem (by omega)⟩
        have hb := wback h0 (by omega)
        by_cases hlt : Op.bytesLess y x = true
        · simp [-getElem?_pos, hx, hw, h1, ho, h0, hb, hy, hlt]
          refine ⟨hv.succ hx ho fun z _ hz => ?_, Wk.to rfl (by simp) (by simp) (by simp) (by simp)⟩
          rw [hy] at hz; simp at hz; subst hz; exact hlt
        · simp [-getElem?_pos, hx, hw, h1, ho, h0, hb, hy, hlt]
          have : ¬ LabelsOk l := fun h => hlt ((h.1 i x hx).2 y h0 hy)
          exact fin_val rfl (by simp [this]) (by simp)
      · obtain rfl : i = 0 := by omega
        simp [-getElem?_pos, hx, hw, h1, ho]
        exact ⟨hv.succ hx ho fun z h _ => by omega, Wk.to rfl (by simp) (by simp) (by simp) (by simp)⟩
    · simp [-getElem?_pos, hx, hw, h1, ho]
      have : ¬ LabelsOk l := fun h => ho (h.1 i x hx).1
      exact fin_val rfl (by simp [this]) (by simp)
  · have h2 : ¬ i < l.length := by omega
    have := hv.all h1
    by_cases h3 : l.length ≤ 3
    · have h3' : (l.length : Int) ≤ 3 := by omega
      simp [h2, h3']
      exact fin_val rfl (by simp [LabelsOk, this, h3]) (by simp)
    · have h3' : ¬ (l.length : Int) ≤ 3 := by omega
      simp [h2, h3']
      exact fin_val rfl (by simp [LabelsOk, this, h3]) (by simp)
open Classical in
theorem labelsOk_c (l : List Tx) (hl : ln l) (hf : ∀ x ∈ l, ln x) : Rv Try.prog 100 [.imm (l.map sS.I)] (.b (decide (LabelsOk l))) := by
  refine via_impl_labelsOk (by simp) ?_
  by_cases h3 : 3 < l.length
  · have h3' : (3 : Int) < l.length := by omega
    simp [pc_impl_labelsOk, h3']
    have : ¬ LabelsOk l := fun h => by have := h.2; omega
    exact fin_val rfl (by simp [this]) (by simp)
  · have h3' : ¬ (3 : Int) < l.length := by omega
    simp [pc_impl_labelsOk, h3']
    refine W_for (fun i => ⟨[(10, .i .i64 i), (9, .i .i64 l.length), (8, .imm (l.map sS.I)), (0, .imm (l.map sS.I))], [], 0, 0⟩) l.length (EachTo nameOk id l) (Wk.less rfl (by simp) (by simp) (by simp)) .zero ?_
    intro i hi hv
    rcases Nat.lt_or_ge i l.length with h1 | h1
    · obtain ⟨x, hx⟩ : ∃ x, l[i]? = some x := ⟨_, List.getElem?_eq_getElem h1⟩
      have hw : IntKind.i64.wrap ((i : Int) + 1) = (i : Int) + 1 := wrap1 (by omega)
      simp [-getElem?_pos, hx, hw, h1]
      refine callK_val (by simp) (NameOk_c x (hf x (List.mem_of_getElem? hx))) rfl ?_
      by_cases ho : nameOk x = true
      · by_cases h0 : 0 < i
        · obtain ⟨y, hy⟩ : ∃ y, l[i - 1]? = some y := ⟨_, List.getElem?_eq_getElem (by omega)⟩
          have hb := wback h0 (by omega)
          by_cases hlt : Op.bytesLess y x = true
          · simp [-getElem?_pos, hx, hw, h1, ho, h0, hb, hy, hlt]
            refine ⟨hv.succ hx ho fun z _ hz => ?_, Wk.to rfl (by simp) (by simp) (by simp) (by simp)⟩
            rw [hy] at hz; simp at hz; subst hz; exact hlt
          · simp [-getElem?_pos, hx, hw, h1, ho, h0, hb, hy, hlt]
            have : ¬ LabelsOk l := fun h => hlt ((h.1 i x hx).2 y h0 hy)
            exact fin_val rfl (by simp [this]) (by simp)
        · obtain rfl : i = 0 := by omega
          simp [-getElem?_pos, hx, hw, h1, ho]
          exact ⟨hv.succ hx ho fun z h _ => by omega, Wk.to rfl (by simp) (by simp) (by simp) (by simp)⟩
      · simp [-getElem?_pos, hx, hw, h1, ho]
        have : ¬ LabelsOk l := fun h => ho (h.1 i x hx).1
        exact fin_val rfl (by simp [this]) (by simp)
    · have h2 : ¬ i < l.length := by omega
      have := hv.all h1
      simp [h2]
      exact fin_val rfl (by simp [LabelsOk, this]; omega) (by simp)
open Classical in
theorem l2Props_c (l : List Pr) (hl : ln l) (hf : ∀ x ∈ l, x.fit) : Rv Try.prog 85 [.imm (l.map sP.I)] (.b (decide (PropsOk l))) := by
  refine via_spec_l2Props (by simp) ?_
  simp [pc_spec_l2Props]
  refine W_for (fun i => ⟨[(3, .i .i64 i), (0, .imm (l.map sP.I))], [], 0, 0⟩) l.length (EachTo prOk Pr.name l) (Wk.less rfl (by simp) (by simp) (by simp)) .zero ?_
  intro i hi hv
  rcases Nat.lt_or_ge i l.length with h1 | h1
  · obtain ⟨⟨nm, v⟩, hx⟩ : ∃ x, l[i]? = some x := ⟨_, List.getElem?_eq_getElem h1⟩
    have hw : IntKind.i64.wrap ((i : Int) + 1) = (i : Int) + 1 := wrap1 (by omega)
    have hfx := hf _ (List.mem_of_getElem? hx)
    obtain ⟨hf1, hf2⟩ := hfx
    simp only at hf1 hf2
    simp [-getElem?_pos, hx, hw, h1]
    refine callK_val (by simp) (l2Name_c nm hf1) rfl ?_
    by_cases ho : nameOk nm = true
    · simp [-getElem?_pos, hx, hw, h1, ho]
      refine callK_val (by simp) (specValueOk_c v hf2) rfl ?_
      by_cases hvo : vOk v = true
      · simp [-getElem?_pos, hx, hw, h1, ho, hvo]
        refine callK_val (by simp) (l2Plain_c v hf2) rfl ?_
        by_cases hpl : v.plain = true
        · have hok : prOk ⟨nm, v⟩ = true := by simp [prOk, sto, ho, hvo, hpl]
          by_cases h0 : 0 < i
          · obtain ⟨⟨nm', v'⟩, hy⟩ : ∃ y, l[i - 1]? = some y := ⟨_, List.getElem?_eq_getElem (by omega)⟩
            have hb := wback h0 (by omega)
            by_cases hlt : Op.bytesLess nm' nm = true
            · simp [-getElem?_pos, hx, hw, h1, ho, h0, hb, hy, hlt, hvo, hpl]
              refine ⟨hv.succ hx hok fun z _ hz => ?_, Wk.to rfl (by simp) (by simp) (by simp) (by simp)⟩
              rw [hy] at hz; simp at hz; subst hz; exact hlt
            · simp [-getElem?_pos, hx, hw, h1, ho, h0, hb, hy, hlt, hvo, hpl]
              have : ¬ PropsOk l := fun h => hlt ((h.1 i _ hx).2 _ h0 hy)
              exact fin_val rfl (by simp [this]) (by simp)
          · obtain rfl : i = 0 := by omega
            simp [-getElem?_pos, hx, hw, h1, ho, hvo, hpl]
            exact ⟨hv.succ hx hok fun z h _ => by omega, Wk.to rfl (by simp) (by simp) (by simp) (by simp)⟩
        · simp [-getElem?_pos, hx, hw, h1, ho, hvo, hpl]
          have : ¬ PropsOk l := fun h => by have := (h.1 i _ hx).1; simp [prOk, sto, hpl] at this
          exact fin_val rfl (by simp [this]) (by simp)
      · simp [-getElem?_pos, hx, hw, h1, ho, hvo]
        have : ¬ PropsOk l := fun h => by have := (h.1 i _ hx).1; simp [prOk, sto, hvo] at this
        exact fin_val rfl (by simp [this]) (by simp)
    · simp [-getElem?_pos, hx, hw, h1, ho]
      have : ¬ PropsOk l := fun h => by have := (h.1 i _ hx).1; simp [prOk, ho] at this
      exact fin_val rfl (by simp [this]) (by simp)
  · have h2 : ¬ i < l.length := by omega
    have := hv.all h1
    by_cases h3 : l.length ≤ 4
    · have h3' : (l.length : Int) ≤ 4 := by omega
      simp [h2, h3']
      exact fin_val rfl (by simp [PropsOk, this, h3]) (by simp)
    · have h3' : ¬ (l.length : Int) ≤ 4 := by omega
      simp [h2, h3']
      exact fin_val rfl (by simp [PropsOk, this, h3]) (by simp)
open Classical in
theorem propsOk_c (l : List Pr) (hl : ln l) (hf : ∀ x ∈ l, x.fit) : Rv Try.prog 112 [.imm (l.map sP.I)] (.b (decide (PropsOk l))) := by
  refine via_impl_propsOk (by simp) ?_
  by_cases h4 : 4 < l.length
  · have h4' : (4 : Int) < l.length := by omega
    simp [pc_impl_propsOk, h4']
    have : ¬ PropsOk l := fun h => by have := h.2; omega
    exact fin_val rfl (by simp [this]) (by simp)
  · have h4' : ¬ (4 : Int) < l.length := by omega
    simp [pc_impl_propsOk, h4']
    refine W_for (fun i => ⟨[(10, .i .i64 i), (9, .i .i64 l.length), (8, .imm (l.map sP.I)), (0, .imm (l.map sP.I))], [], 0, 0⟩) l.length (EachTo prOk Pr.name l) (Wk.less rfl (by simp) (by simp) (by simp)) .zero ?_
    intro i hi hv
    rcases Nat.lt_or_ge i l.length with h1 | h1
    · obtain ⟨⟨nm, v⟩, hx⟩ : ∃ x, l[i]? = some x := ⟨_, List.getElem?_eq_getElem h1⟩
      have hw : IntKind.i64.wrap ((i : Int) + 1) = (i : Int) + 1 := wrap1 (by omega)
      have hfx := hf _ (List.mem_of_getElem? hx)
      obtain ⟨hf1, hf2⟩ := hfx
      simp only at hf1 hf2
      obtain ⟨k, n, s, l'⟩ := v
      simp [-getElem?_pos, hx, hw, h1]
      refine callK_val (by simp) (NameOk_c nm hf1) rfl ?_
      by_cases ho : nameOk nm = true
      · simp [-getElem?_pos, hx, hw, h1, ho]
        refine callK_val (by simp) (storable_c (.mk k n s l') hf2) rfl ?_
        by_cases hvo : sto (.mk k n s l') = true
        · have hok : prOk ⟨nm, .mk k n s l'⟩ = true := by simp [prOk, ho, hvo]
          by_cases h0 : 0 < i
          · obtain ⟨⟨nm', v'⟩, hy⟩ : ∃ y, l[i - 1]? = some y := ⟨_, List.getElem?_eq_getElem (by omega)⟩
            have hb := wback h0 (by omega)
            by_cases hlt : Op.bytesLess nm' nm = true
            · simp [-getElem?_pos, hx, hw, h1, ho, h0, hb, hy, hlt, hvo]
              refine ⟨hv.succ hx hok fun z _ hz => ?_, Wk.to rfl (by simp) (by simp) (by simp) (by simp)⟩
              rw [hy] at hz; simp at hz; subst hz; exact hlt
            · simp [-getElem?_pos, hx, hw, h1, ho, h0, hb, hy, hlt, hvo]
              have : ¬ PropsOk l := fun h => hlt ((h.1 i _ hx).2 _ h0 hy)
              exact fin_val rfl (by simp [this]) (by simp)
          · obtain rfl : i = 0 := by omega
            simp [-getElem?_pos, hx, hw, h1, ho, hvo]
            exact ⟨hv.succ hx hok fun z h _ => by omega, Wk.to rfl (by simp) (by simp) (by simp) (by simp)⟩
        · simp [-getElem?_pos, hx, hw, h1, ho, hvo]
          have : ¬ PropsOk l := fun h => by have := (h.1 i _ hx).1; simp [prOk, hvo] at this
          exact fin_val rfl (by simp [this]) (by simp)
      · simp [-getElem?_pos, hx, hw, h1, ho]
        have : ¬ PropsOk l := fun h => by have := (h.1 i _ hx).1; simp [prOk, ho] at this
        exact fin_val rfl (by simp [this]) (by simp)
    · have h2 : ¬ i < l.length := by omega
      have := hv.all h1
      simp [h2]
      exact fin_val rfl (by simp [PropsOk, this]; omega) (by simp)
end Go.Proofs.Ytehdfbhfbidadaa.V
/- Graphs that are ok. -/
namespace Go.Proofs.Ytehdfbhfbidadaa.V
open Go
set_option linter.unusedVariables false
set_option linter.unusedSimpArgs false
set_option maxHeartbeats 8000000
/-! ### places by number -/
section
variable {α : Type} (f : α → Int)
def posOf (id : Int) (l : List α) : Int := match l.findIdx? (fun x => decide (f x = id)) with | some i => (i : Int) | none => -1
variable {f}
theorem posOf_at {id : Int} {l : List α} {i : Nat} {x : α} (hx : l[i]? = some x) (h : f x = id) (hn : ∀ j y, j < i → l[j]? = some y → f y ≠ id) : posOf f id l = i := by
  unfold posOf
  have : l.findIdx? (fun x => decide (f x = id)) = some i := by
    rw [List.findIdx?_eq_some_iff_getElem]
    obtain ⟨hi, rfl⟩ := List.getElem?_eq_some_iff.1 hx
    exact ⟨hi, by simpa using h, fun j hj => by simpa using hn j _ hj (List.getElem?_eq_getElem (by omega))⟩
  rw [this]
theorem posOf_none {id : Int} {l : List α} (h : ∀ (j : Nat) (y : α), l[j]? = some y → f y ≠ id) : posOf f id l = -1 := by
  unfold posOf
  have : l.findIdx? (fun x => decide (f x = id)) = none := by
    rw [List.findIdx?_eq_none_iff]
    intro x hx
    obtain ⟨j, hj⟩ := List.mem_iff_getElem?.1 hx
    simpa using h j x hj
  rw [this]
theorem posOf_cases (f : α → Int) (id : Int) (l : List α) : (∃ (i : Nat) (x : α), posOf f id l = i ∧ l[i]? = some x ∧ f x = id ∧ ∀ j y, j < i → l[j]? = some y → f y ≠ id) ∨ (posOf f id l = -1 ∧ ∀ x ∈ l, f x ≠ id) := by
  cases h : l.findIdx? (fun x => decide (f x = id)) with
  | none =>
    right
    refine ⟨by unfold posOf; rw [h], fun x hx => ?_⟩
    rw [List.findIdx?_eq_none_iff] at h
    simpa using h x hx
  | some i =>
    left
    rw [List.findIdx?_eq_some_iff_getElem] at h
    obtain ⟨hi, h1, h2⟩ := h
    refine ⟨i, l[i], ?_, List.getElem?_eq_getElem hi, by simpa using h1, fun j y hj hy => ?_⟩
    · exact posOf_at (List.getElem?_eq_getElem hi) (by simpa using h1) (fun j y hj hy => by
        obtain ⟨hj', rfl⟩ := List.getElem?_eq_some_iff.1 hy
        simpa using h2 j hj)
    · obtain ⟨hj', rfl⟩ := List.getElem?_eq_some_iff.1 hy
      simpa using h2 j hj
end
theorem l2Node_c (g : Gr) (hl : ln g.nodes) (id : Int) : Rv Try.prog 86 [.agg (sG.I g), .i .i64 id] (.i .i64 (posOf Nd.id id g.nodes)) := by
  obtain ⟨l, es, nn, ne⟩ := g
  simp only at hl ⊢
  refine via_spec_l2Node (by simp) ?_
  simp [pc_spec_l2Node]
  refine W_for (fun i => ⟨[(5, .i .i64 i), (2, .ptr 0 0 0), (1, .i .i64 id)], [(0, .arr 4 [sG.I ⟨l, es, nn, ne⟩])], 1, 0⟩) l.length (fun i => ∀ j y, j < i → l[j]? = some y → y.id ≠ id) (Wk.less rfl (by simp) (by simp) (by simp)) (by simp) ?_
  intro i hi hv
  rcases Nat.lt_or_ge i l.length with h1 | h1
  · obtain ⟨⟨a, b, c⟩, hx⟩ : ∃ x, l[i]? = some x := ⟨_, List.getElem?_eq_getElem h1⟩
    have hw : IntKind.i64.wrap ((i : Int) + 1) = (i : Int) + 1 := wrap1 (by omega)
    by_cases h : a = id
    · simp [-getElem?_pos, hx, hw, h1, h]
      exact fin_val rfl (by simp [posOf_at (f := Nd.id) hx h hv]) (by simp)
    · simp [-getElem?_pos, hx, hw, h1, h]
      refine ⟨fun j y hj hy => ?_, Wk.to1 rfl (by simp) (by simp) (by simp) (by simp) (by omega)⟩
      rcases Nat.lt_or_ge j i with h6 | h6
      · exact hv j y h6 hy
      · obtain rfl : j = i := by omega
        rw [hx] at hy; simp at hy; subst hy; exact h
  · have h2 : ¬ i < l.length := by omega
    simp [h2]
    refine fin_val rfl ?_ (by simp)
    rw [posOf_none fun j y hy => hv j y (by have := (List.getElem?_eq_some_iff.1 hy).1; omega) hy]
    simp
theorem nodesOf1_c (n : Nd) : Rv Try.prog 158 [.agg (sN.I n)] (.i .i64 n.id) := by
  obtain ⟨a, b, c⟩ := n
  refine via_impl_nodesOf_1 (by simp) ?_
  simp [pc_impl_nodesOf_1]
  exact fin_val rfl (by simp) (by simp)
theorem edgesIn1_c (n : Eg) : Rv Try.prog 175 [.agg (sE.I n)] (.i .i64 n.id) := by
  obtain ⟨a, b, c, d, e⟩ := n
  refine via_impl_edgesIn_1 (by simp) ?_
  simp [pc_impl_edgesIn_1]
  exact fin_val rfl (by simp) (by simp)
theorem nodesOf_v (a b : T) (ha : a.cell = true) (hb : b.cell = true) (nn ne : Int) : Vw Try.prog 97 [.agg [a, b, .i .i64 nn, .i .i64 ne]] [] (.agg [a, .fn 158 []]) := by
  obtain ⟨N, hN⟩ : ∃ N, ∀ x ∈ a.names ++ b.names, x < N := by
    have : ∀ l : List Nat, ∃ N, ∀ x ∈ l, x < N := by
      intro l
      induction l with
      | nil => exact ⟨0, by simp⟩
      | cons y l ih =>
        obtain ⟨N, hN⟩ := ih
        refine ⟨max N (y + 1), fun x hx => ?_⟩
        rcases List.mem_cons.1 hx with rfl | hx
        · omega
        · have := hN x hx; omega
    exact this _
  refine see_impl_nodesOf N (by simp) (by simpa using hN) (by simp; intro x hx; exact .inl hx) (by simp) (by simp) ?_
  have m1 : ∀ n, mat a n = (a, []) := fun n => by cases a <;> simp [T.cell] at ha <;> simp
  have c1 : a.cells = [a] := by cases a <;> simp [T.cell] at ha <;> rfl
  simp [pc_impl_nodesOf, ha, hb, m1, c1]
  exact fin_view (by simp [ha]; rfl) (by simp) (by simp)
theorem edgesIn_v (a b : T) (ha : a.cell = true) (hb : b.cell = true) (nn ne : Int) : Vw Try.prog 116 [.agg [a, b, .i .i64 nn, .i .i64 ne]] [] (.agg [b, .fn 175 []]) := by
  obtain ⟨N, hN⟩ : ∃ N, ∀ x ∈ a.names ++ b.names, x < N := by
    have : ∀ l : List Nat, ∃ N, ∀ x ∈ l, x < N := by
      intro l
      induction l with
      | nil => exact ⟨0, by simp⟩
      | cons y l ih =>
        obtain ⟨N, hN⟩ := ih
        refine ⟨max N (y + 1), fun x hx => ?_⟩
        rcases List.mem_cons.1 hx with rfl | hx
        · omega
        · have := hN x hx; omega
    exact this _
  refine see_impl_edgesIn N (by simp) (by simpa using hN) (by simp; intro x hx; exact .inr hx) (by simp) (by simp) ?_
  have m1 : ∀ n, mat b n = (b, []) := fun n => by cases b <;> simp [T.cell] at hb <;> simp
  have c1 : b.cells = [b] := by cases b <;> simp [T.cell] at hb <;> rfl
  simp [pc_impl_edgesIn, ha, hb, m1, c1]
  exact fin_view (by simp [hb]; rfl) (by simp) (by simp)
/-! ### numbers ascending -/
def AscTo {α : Type} (f : α → Int) (e : Int) (l : List α) (n : Nat) : Prop := ∀ (i : Nat) (x : α), i < n → l[i]? = some x → 0 ≤ f x ∧ f x < e ∧ ∀ y, 0 < i → l[i - 1]? = some y → f y < f x
def Asc {α : Type} (f : α → Int) (e : Int) (l : List α) : Prop := ∀ (i : Nat) (x : α), l[i]? = some x → 0 ≤ f x ∧ f x < e ∧ ∀ y, 0 < i → l[i - 1]? = some y → f y < f x
/-- The number ahead of a place; less than nothing at the first. -/
def ahd {α : Type} (f : α → Int) (l : List α) (i : Nat) : Int := if i = 0 then -1 else match l[i - 1]? with | some y => f y | none => -1
theorem AscTo.all {α : Type} {f : α → Int} {e : Int} {l : List α} {n : Nat} (h : AscTo f e l n) (hn : l.length ≤ n) : Asc f e l :=
  fun i x hx => h i x (by have := (List.getElem?_eq_some_iff.1 hx).1; omega) hx
theorem AscTo.succ {α : Type} {f : α → Int} {e : Int} {l : List α} {n : Nat} {x : α} (h : AscTo f e l n) (hx : l[n]? = some x) (h1 : ahd f l n < f x) (h2 : f x < e) : AscTo f e l (n + 1) := by
  intro i z hi hz
  rcases Nat.lt_or_ge i n with h3 | h3
  · exact h i z h3 hz
  · obtain rfl : i = n := by omega
    rw [hx] at hz; simp at hz; subst hz
    unfold ahd at h1
    by_cases h0 : i = 0
    · rw [if_pos h0] at h1
      exact ⟨by omega, h2, fun y hy => by omega⟩
    · rw [if_neg h0] at h1
      have hi := (List.getElem?_eq_some_iff.1 hx).1
      have hy : l[i - 1]? = some (l[i - 1]'(by omega)) := List.getElem?_eq_getElem (by omega)
      have := (h (i - 1) _ (by omega) hy).1
      rw [hy] at h1
      simp only at h1
      refine ⟨by omega, h2, fun y _ hy' => ?_⟩
      rw [hy] at hy'; simp at hy'; subst hy'; exact h1
theorem Asc.fails {α : Type} {f : α → Int} {e : Int} {l : List α} {n : Nat} {x : α} (hx : l[n]? = some x) (h : f x ≤ ahd f l n ∨ e ≤ f x) : ¬ Asc f e l := by
  intro ha
  obtain ⟨h1, h2, h3⟩ := ha n x hx
  rcases h with h | h
  · unfold ahd at h
    by_cases h0 : n = 0
    · rw [if_pos h0] at h; omega
    · rw [if_neg h0] at h
      have hi := (List.getElem?_eq_some_iff.1 hx).1
      have hy : l[n - 1]? = some (l[n - 1]'(by omega)) := List.getElem?_eq_getElem (by omega)
      rw [hy] at h
      have := h3 _ (by omega) hy
      simp only at h
      omega
  · omega
theorem ahd_succ {α : Type} {f : α → Int} {l : List α} {n : Nat} {x : α} (hx : l[n]? = some x) : ahd f l (n + 1) = f x := by
  unfold ahd; simp [hx]
open Classical in
theorem ascendN_c (l : List Nd) (hl : l.length ≤ 9223372036854775806) (e : Int) : Rv Try.prog 115 [.agg [.imm (l.map sN.I), .fn 158 []], .i .i64 e] (.b (decide (Asc Nd.id e l))) := by
  have hok : okCall Try.prog 158 = true := by kernel_rfl
  refine via_impl_numbered_impl_Node_ascend (by simp) ?_
  simp [pc_impl_numbered_impl_Node_ascend]
  refine W_for (fun i => ⟨[(12, .i .i64 i), (11, .i .i64 l.length), (10, .imm (l.map sN.I)), (5, .i .i64 (ahd Nd.id l i)), (2, .ptr 0 0 0), (1, .i .i64 e)], [(0, .arr 2 [[.imm (l.map sN.I), .fn 158 []]])], 1, 0⟩) l.length (AscTo Nd.id e l) (Wk.less rfl (by simp) (by simp [ahd]) (by simp)) (fun i x h => by omega) ?_
  intro i hi hv
  rcases Nat.lt_or_ge i l.length with h1 | h1
  · obtain ⟨⟨a, b, c⟩, hx⟩ : ∃ x, l[i]? = some x := ⟨_, List.getElem?_eq_getElem h1⟩
    have hw : IntKind.i64.wrap ((i : Int) + 1) = (i : Int) + 1 := wrap1 (by omega)
    have ha := ahd_succ (f := Nd.id) hx
    simp [-getElem?_pos, hx, hw, h1, hok]
    refine callK_val (by simp) (nodesOf1_c ⟨a, b, c⟩) rfl ?_
    by_cases h2 : a ≤ ahd Nd.id l i
    · simp [-getElem?_pos, hx, hw, h1, h2]
      exact fin_val rfl (by simp [Asc.fails (f := Nd.id) hx (.inl h2)]) (by simp)
    · by_cases h3 : e ≤ a
      · simp [-getElem?_pos, hx, hw, h1, h2, h3]
        exact fin_val rfl (by simp [Asc.fails (f := Nd.id) hx (.inr h3)]) (by simp)
      · simp [-getElem?_pos, hx, hw, h1, h2, h3]
        exact ⟨hv.succ hx (by simp only; omega) (by simp only; omega), Wk.to rfl (by simp) (by simp [ha]) (by simp [Blk.names]) (by simp)⟩
  · have h2 : ¬ i < l.length := by omega
    simp [h2]
    exact fin_val rfl (by simp [hv.all h1]) (by simp)
theorem placeN_c (l : List Nd) (hl : l.length ≤ 9223372036854775806) (id : Int) : Rv Try.prog 98 [.agg [.imm (l.map sN.I), .fn 158 []], .i .i64 id] (.i .i64 (posOf Nd.id id l)) := by
  have hok : okCall Try.prog 158 = true := by kernel_rfl
  refine via_impl_numbered_impl_Node_place (by simp) ?_
  simp [pc_impl_numbered_impl_Node_place]
  refine W_for (fun i => ⟨[(10, .i .i64 i), (9, .i .i64 l.length), (8, .imm (l.map sN.I)), (2, .ptr 0 0 0), (1, .i .i64 id)], [(0, .arr 2 [[.imm (l.map sN.I), .fn 158 []]])], 1, 0⟩) l.length (fun i => ∀ j y, j < i → l[j]? = some y → y.id ≠ id) (Wk.less rfl (by simp) (by simp) (by simp)) (by simp) ?_
  intro i hi hv
  rcases Nat.lt_or_ge i l.length with h1 | h1
  · obtain ⟨⟨a, b, c⟩, hx⟩ : ∃ x, l[i]? = some x := ⟨_, List.getElem?_eq_getElem h1⟩
    have hw : IntKind.i64.wrap ((i : Int) + 1) = (i : Int) + 1 := wrap1 (by omega)
    simp [-getElem?_pos, hx, hw, h1, hok]
    refine callK_val (by simp) (nodesOf1_c ⟨a, b, c⟩) rfl ?_
    by_cases h : a = id
    · simp [-getElem?_pos, hx, hw, h1, h]
      exact fin_val rfl (by simp [posOf_at (f := Nd.id) hx h hv]) (by simp)
    · simp [-getElem?_pos, hx, hw, h1, h]
      refine ⟨fun j y hj hy => ?_, Wk.to rfl (by simp) (by simp) (by simp [Blk.names]) (by simp)⟩
      rcases Nat.lt_or_ge j i with h6 | h6
      · exact hv j y h6 hy
      · obtain rfl : j = i := by omega
        rw [hx] at hy; simp at hy; subst hy; exact h
  · have h2 : ¬ i < l.length := by omega
    simp [h2]
    refine fin_val rfl ?_ (by simp)
    rw [posOf_none fun j y hy => hv j y (by have := (List.getElem?_eq_some_iff.1 hy).1; omega) hy]
    simp
open Classical in
theorem ascendE_c (l : List Eg) (hl : l.length ≤ 9223372036854775806) (e : Int) : Rv Try.prog 117 [.agg [.imm (l.map sE.I), .fn 175 []], .i .i64 e] (.b (decide (Asc Eg.id e l))) := by
  have hok : okCall Try.prog 175 = true := by kernel_rfl
  refine via_impl_numbered_impl_Edge_ascend (by simp) ?_
  simp [pc_impl_numbered_impl_Edge_ascend]
  refine W_for (fun i => ⟨[(12, .i .i64 i), (11, .i .i64 l.length), (10, .imm (l.map sE.I)), (5, .i .i64 (ahd Eg.id l i)), (2, .ptr 0 0 0), (1, .i .i64 e)], [(0, .arr 2 [[.imm (l.map sE.I), .fn 175 []]])], 1, 0⟩) l.length (AscTo Eg.id e l) (Wk.less rfl (by simp) (by simp [ahd]) (by simp)) (fun i x h => by omega) ?_
  intro i hi hv
  rcases Nat.lt_or_ge i l.length with h1 | h1
  · obtain ⟨⟨a, b, c, d, p⟩, hx⟩ : ∃ x, l[i]? = some x := ⟨_, List.getElem?_eq_getElem h1⟩
    have hw : IntKind.i64.wrap ((i : Int) + 1) = (i : Int) + 1 := wrap1 (by omega)
    have ha := ahd_succ (f := Eg.id) hx
    simp [-getElem?_pos, hx, hw, h1, hok]
    refine callK_val (by simp) (edgesIn1_c ⟨a, b, c, d, p⟩) rfl ?_
    by_cases h2 : a ≤ ahd Eg.id l i
    · simp [-getElem?_pos, hx, hw, h1, h2]
      exact fin_val rfl (by simp [Asc.fails (f := Eg.id) hx (.inl h2)]) (by simp)
    · by_cases h3 : e ≤ a
      · simp [-getElem?_pos, hx, hw, h1, h2, h3]
        exact fin_val rfl (by simp [Asc.fails (f := Eg.id) hx (.inr h3)]) (by simp)
      · simp [-getElem?_pos, hx, hw, h1, h2, h3]
        exact ⟨hv.succ hx (by simp only; omega) (by simp only; omega), Wk.to rfl (by simp) (by simp [ha]) (by simp [Blk.names]) (by simp)⟩
  · have h2 : ¬ i < l.length := by omega
    simp [h2]
    exact fin_val rfl (by simp [hv.all h1]) (by simp)
theorem placeE_c (l : List Eg) (hl : l.length ≤ 9223372036854775806) (id : Int) : Rv Try.prog 170 [.agg [.imm (l.map sE.I), .fn 175 []], .i .i64 id] (.i .i64 (posOf Eg.id id l)) := by
  have hok : okCall Try.prog 175 = true := by kernel_rfl
  refine via_impl_numbered_impl_Edge_place (by simp) ?_
  simp [pc_impl_numbered_impl_Edge_place]
  refine W_for (fun i => ⟨[(10, .i .i64 i), (9, .i .i64 l.length), (8, .imm (l.map sE.I)), (2, .ptr 0 0 0), (1, .i .i64 id)], [(0, .arr 2 [[.imm (l.map sE.I), .fn 175 []]])], 1, 0⟩) l.length (fun i => ∀ j y, j < i → l[j]? = some y → y.id ≠ id) (Wk.less rfl (by simp) (by simp) (by simp)) (by simp) ?_
  intro i hi hv
  rcases Nat.lt_or_ge i l.length with h1 | h1
  · obtain ⟨⟨a, b, c, d, p⟩, hx⟩ : ∃ x, l[i]? = some x := ⟨_, List.getElem?_eq_getElem h1⟩
    have hw : IntKind.i64.wrap ((i : Int) + 1) = (i : Int) + 1 := wrap1 (by omega)
    simp [-getElem?_pos, hx, hw, h1, hok]
    refine callK_val (by simp) (edgesIn1_c ⟨a, b, c, d, p⟩) rfl ?_
    by_cases h : a = id
    · simp [-getElem?_pos, hx, hw, h1, h]
      exact fin_val rfl (by simp [posOf_at (f := Eg.id) hx h hv]) (by simp)
    · simp [-getElem?_pos, hx, hw, h1, h]
      refine ⟨fun j y hj hy => ?_, Wk.to rfl (by simp) (by simp) (by simp [Blk.names]) (by simp)⟩
      rcases Nat.lt_or_ge j i with h6 | h6
      · exact hv j y h6 hy
      · obtain rfl : j = i := by omega
        rw [hx] at hy; simp at hy; subst hy; exact h
  · have h2 : ¬ i < l.length := by omega
    simp [h2]
    refine fin_val rfl ?_ (by simp)
    rw [posOf_none fun j y hy => hv j y (by have := (List.getElem?_eq_some_iff.1 hy).1; omega) hy]
    simp
end Go.Proofs.Ytehdfbhfbidadaa.V
/- Graphs that are ok: the program's and the reference's word. -/
namespace Go.Proofs.Ytehdfbhfbidadaa.V
open Go
set_option linter.unusedVariables false
set_option linter.unusedSimpArgs false
set_option maxHeartbeats 16000000
structure GOk (g : Gr) : Prop where
  nn : 0 ≤ g.nn ∧ g.nn ≤ 1000000000
  ne : 0 ≤ g.ne ∧ g.ne ≤ 1000000000
  nl : g.nodes.length ≤ 12
  el : g.edges.length ≤ 16
  na : Asc Nd.id g.nn g.nodes
  ea : Asc Eg.id g.ne g.edges
  nok : ∀ x ∈ g.nodes, LabelsOk x.labels ∧ PropsOk x.props
  eok : ∀ x ∈ g.edges, nameOk x.kind = true ∧ PropsOk x.props ∧ 0 ≤ posOf Nd.id x.frm g.nodes ∧ 0 ≤ posOf Nd.id x.to g.nodes
/-- Up to a place. -/
def To {α : Type} (C : α → Prop) (l : List α) (n : Nat) : Prop := ∀ (i : Nat) (x : α), i < n → l[i]? = some x → C x
theorem To.zero {α : Type} {C : α → Prop} {l : List α} : To C l 0 := fun i x h => by omega
theorem To.succ {α : Type} {C : α → Prop} {l : List α} {n : Nat} {x : α} (h : To C l n) (hx : l[n]? = some x) (h1 : C x) : To C l (n + 1) := by
  intro i z hi hz
  rcases Nat.lt_or_ge i n with h3 | h3
  · exact h i z h3 hz
  · obtain rfl : i = n := by omega
    rw [hx] at hz; simp at hz; subst hz; exact h1
theorem To.all {α : Type} {C : α → Prop} {l : List α} {n : Nat} (h : To C l n) (hn : l.length ≤ n) : ∀ x ∈ l, C x := by
  intro x hx
  obtain ⟨j, hj⟩ := List.mem_iff_getElem?.1 hx
  exact h j x (by have := (List.getElem?_eq_some_iff.1 hj).1; omega) hj
open Classical in
theorem GraphOk_c (g : Gr) (hf : g.fit) : Rv Try.prog 50 [.agg (sG.I g)] (.b (decide (GOk g))) := by
  have ok1 : okCall Try.prog 97 = true := by kernel_rfl
  have ok2 : okCall Try.prog 116 = true := by kernel_rfl
  obtain ⟨l, es, nn, ne⟩ := g
  obtain ⟨hl, hl', he, he', hn1, hn2⟩ := hf
  simp only at hl hl' he he' hn1 hn2
  refine via_impl_GraphOk (by simp) ?_
  by_cases h1 : nn < 0
  · simp [pc_impl_GraphOk, h1]
    exact fin_val rfl (by simp [show ¬ GOk ⟨l, es, nn, ne⟩ from fun h => by have := h.nn; simp only at this; omega]) (by simp)
  by_cases h2 : 1000000000 < nn
  · simp [pc_impl_GraphOk, h1, h2]
    exact fin_val rfl (by simp [show ¬ GOk ⟨l, es, nn, ne⟩ from fun h => by have := h.nn; simp only at this; omega]) (by simp)
  by_cases h3 : ne < 0
  · simp [pc_impl_GraphOk, h1, h2, h3]
    exact fin_val rfl (by simp [show ¬ GOk ⟨l, es, nn, ne⟩ from fun h => by have := h.ne; simp only at this; omega]) (by simp)
  by_cases h4 : 1000000000 < ne
  · simp [pc_impl_GraphOk, h1, h2, h3, h4]
    exact fin_val rfl (by simp [show ¬ GOk ⟨l, es, nn, ne⟩ from fun h => by have := h.ne; simp only at this; omega]) (by simp)
  by_cases h5 : 12 < (l.length : Int)
  · simp [pc_impl_GraphOk, h1, h2, h3, h4, h5]
    exact fin_val rfl (by simp [show ¬ GOk ⟨l, es, nn, ne⟩ from fun h => by have := h.nl; simp only at this; omega]) (by simp)
  by_cases h6 : 16 < (es.length : Int)
  · simp [pc_impl_GraphOk, h1, h2, h3, h4, h5, h6]
    exact fin_val rfl (by simp [show ¬ GOk ⟨l, es, nn, ne⟩ from fun h => by have := h.el; simp only at this; omega]) (by simp)
  simp [pc_impl_GraphOk, h1, h2, h3, h4, h5, h6]
  refine hookH_view (nodesOf_v (.imm (l.map sN.I)) (.imm (es.map sE.I)) rfl rfl nn ne) rfl ok1 (by simp) ?_
  simp
  refine callK_val (by simp) (ascendN_c l (by omega) nn) rfl ?_
  by_cases h7 : Asc Nd.id nn l
  · simp [h7]
    refine hookH_view (edgesIn_v (.imm (l.map sN.I)) (.imm (es.map sE.I)) rfl rfl nn ne) rfl ok2 (by simp) ?_
    simp [h7]
    refine callK_val (by simp) (ascendE_c es (by omega) ne) rfl ?_
    by_cases h8 : Asc Eg.id ne es
    · simp [h7, h8]
      refine W_for (fun i => ⟨[(54, .i .i64 i), (53, .i .i64 l.length), (52, .imm (l.map sN.I)), (1, .ptr 0 0 0), (3, .ptr 1 0 0)], [(0, .arr 4 [sG.I ⟨l, es, nn, ne⟩]), (1, .arr 2 [[.imm (l.map sN.I), .fn 158 []]])], 107, 0⟩) l.length (To (fun x : Nd => LabelsOk x.labels ∧ PropsOk x.props) l) (Wk.less rfl (by simp) (by simp) (by simp)) .zero ?_
      intro i hi hv
      rcases Nat.lt_or_ge i l.length with hlt | hge
      · obtain ⟨⟨a, b, c⟩, hx⟩ : ∃ x, l[i]? = some x := ⟨_, List.getElem?_eq_getElem hlt⟩
        have hw : IntKind.i64.wrap ((i : Int) + 1) = (i : Int) + 1 := wrap1 (by omega)
        obtain ⟨_, f1, f2, f3, f4⟩ := hl' _ (List.mem_of_getElem? hx)
        simp only at f1 f2 f3 f4
        simp [-getElem?_pos, hx, hw, hlt]
        refine callK_val (by simp) (labelsOk_c b f1 f2) rfl ?_
        by_cases g1 : LabelsOk b
        · simp [-getElem?_pos, hx, hw, hlt, g1]
          refine callK_val (by simp) (propsOk_c c f3 f4) rfl ?_
          by_cases g2 : PropsOk c
          · simp [-getElem?_pos, hx, hw, hlt, g1, g2]
            exact ⟨hv.succ hx ⟨g1, g2⟩, Wk.to rfl (by simp) (by simp) (by simp [Blk.names]) (by simp)⟩
          · simp [-getElem?_pos, hx, hw, hlt, g1, g2]
            exact fin_val rfl (by simp [show ¬ GOk ⟨l, es, nn, ne⟩ from fun h => g2 (h.nok _ (List.mem_of_getElem? hx)).2]) (by simp)
        · simp [-getElem?_pos, hx, hw, hlt, g1]
          exact fin_val rfl (by simp [show ¬ GOk ⟨l, es, nn, ne⟩ from fun h => g1 (h.nok _ (List.mem_of_getElem? hx)).1]) (by simp)
      · have hnlt : ¬ i < l.length := by omega
        have hnok := hv.all hge
        simp [hnlt]
        refine W_for (fun i => ⟨[(72, .i .i64 i), (71, .i .i64 es.length), (70, .imm (es.map sE.I)), (1, .ptr 0 0 0), (3, .ptr 1 0 0)], [(0, .arr 4 [sG.I ⟨l, es, nn, ne⟩]), (1, .arr 2 [[.imm (l.map sN.I), .fn 158 []]])], 107, 0⟩) es.length (To (fun x : Eg => nameOk x.kind = true ∧ PropsOk x.props ∧ 0 ≤ posOf Nd.id x.frm l ∧ 0 ≤ posOf Nd.id x.to l) es) (Wk.less rfl (by simp) (by simp) (by simp)) .zero ?_
        intro i hi hv
        rcases Nat.lt_or_ge i es.length with hlt | hge
        · obtain ⟨⟨a, k, b, c, p⟩, hx⟩ : ∃ x, es[i]? = some x := ⟨_, List.getElem?_eq_getElem hlt⟩
          have hw : IntKind.i64.wrap ((i : Int) + 1) = (i : Int) + 1 := wrap1 (by omega)
          obtain ⟨_, f1, _, _, f3, f4⟩ := he' _ (List.mem_of_getElem? hx)
          simp only at f1 f3 f4
          have no : ¬ (nameOk k = true ∧ PropsOk p ∧ 0 ≤ posOf Nd.id b l ∧ 0 ≤ posOf Nd.id c l) → ¬ GOk ⟨l, es, nn, ne⟩ := fun h h2 => h (h2.eok _ (List.mem_of_getElem? hx))
          simp [-getElem?_pos, hx, hw, hlt]
          refine callK_val (by simp) (NameOk_c k f1) rfl ?_
          by_cases g1 : nameOk k = true
          · simp [-getElem?_pos, hx, hw, hlt, g1]
            refine callK_val (by simp) (propsOk_c p f3 f4) rfl ?_
            by_cases g2 : PropsOk p
            · simp [-getElem?_pos, hx, hw, hlt, g1, g2]
              refine callK_val (by simp) (placeN_c l (by omega) b) rfl ?_
              by_cases g3 : posOf Nd.id b l < 0
              · simp [-getElem?_pos, hx, hw, hlt, g1, g2, g3]
                exact fin_val rfl (by simp [no (by omega)]) (by simp)
              · simp [-getElem?_pos, hx, hw, hlt, g1, g2, g3]
                refine callK_val (by simp) (placeN_c l (by omega) c) rfl ?_
                by_cases g4 : posOf Nd.id c l < 0
                · simp [-getElem?_pos, hx, hw, hlt, g1, g2, g3, g4]
                  exact fin_val rfl (by simp [no (by omega)]) (by simp)
                · simp [-getElem?_pos, hx, hw, hlt, g1, g2, g3, g4]
                  exact ⟨hv.succ hx ⟨g1, g2, by simp only; omega, by simp only; omega⟩, Wk.to rfl (by simp) (by simp) (by simp [Blk.names]) (by simp)⟩
            · simp [-getElem?_pos, hx, hw, hlt, g1, g2]
              exact fin_val rfl (by simp [no (fun h => g2 h.2.1)]) (by simp)
          · simp [-getElem?_pos, hx, hw, hlt, g1]
            exact fin_val rfl (by simp [no (fun h => g1 h.1)]) (by simp)
        · have hnlt : ¬ i < es.length := by omega
          have heok := hv.all hge
          simp [hnlt]
          have : GOk ⟨l, es, nn, ne⟩ := ⟨by simp only; omega, by simp only; omega, by simp only; omega, by simp only; omega, h7, h8, hnok, heok⟩
          exact fin_val rfl (by simp [this]) (by simp)
    · simp [h7, h8]
      exact fin_val rfl (by simp [show ¬ GOk ⟨l, es, nn, ne⟩ from fun h => h8 h.ea]) (by simp)
  · simp [h7]
    exact fin_val rfl (by simp [show ¬ GOk ⟨l, es, nn, ne⟩ from fun h => h7 h.na]) (by simp)
theorem Asc.mono {α : Type} {f : α → Int} {e e' : Int} {l : List α} (h : Asc f e l) (he : e ≤ e') : Asc f e' l := fun i x hx => by
  obtain ⟨h1, h2, h3⟩ := h i x hx
  exact ⟨h1, by omega, h3⟩
/-- Between 0 and one less, behind the one ahead. -/
def Stp {α : Type} (f : α → Int) (e : Int) (l : List α) (i : Nat) (x : α) : Prop := 0 ≤ f x ∧ f x ≤ e ∧ ∀ y, 0 < i → l[i - 1]? = some y → f y < f x
def ToI {α : Type} (C : Nat → α → Prop) (l : List α) (n : Nat) : Prop := ∀ (i : Nat) (x : α), i < n → l[i]? = some x → C i x
theorem ToI.zero {α : Type} {C : Nat → α → Prop} {l : List α} : ToI C l 0 := fun i x h => by omega
theorem ToI.succ {α : Type} {C : Nat → α → Prop} {l : List α} {n : Nat} {x : α} (h : ToI C l n) (hx : l[n]? = some x) (h1 : C n x) : ToI C l (n + 1) := by
  intro i z hi hz
  rcases Nat.lt_or_ge i n with h3 | h3
  · exact h i z h3 hz
  · obtain rfl : i = n := by omega
    rw [hx] at hz; simp at hz; subst hz; exact h1
theorem ToI.all {α : Type} {C : Nat → α → Prop} {l : List α} {n : Nat} (h : ToI C l n) (hn : l.length ≤ n) : ∀ (i : Nat) (x : α), l[i]? = some x → C i x :=
  fun i x hx => h i x (by have := (List.getElem?_eq_some_iff.1 hx).1; omega) hx
open Classical in
theorem specGraphOk_c (g : Gr) (hf : g.fit) : Rv Try.prog 34 [.agg (sG.I g)] (.b (decide (GOk g))) := by
  obtain ⟨l, es, nn, ne⟩ := g
  obtain ⟨hl, hl', he, he', hn1, hn2⟩ := hf
  simp only at hl hl' he he' hn1 hn2
  have q1 : GOk ⟨l, es, nn, ne⟩ → IntKind.i64.wrap (nn - 1) = nn - 1 := fun h => wrap64 (by have := h.nn; simp only at this; omega) (by have := h.nn; simp only at this; omega)
  have q2 : GOk ⟨l, es, nn, ne⟩ → IntKind.i64.wrap (ne - 1) = ne - 1 := fun h => wrap64 (by have := h.ne; simp only at this; omega) (by have := h.ne; simp only at this; omega)
  refine via_spec_GraphOk (by simp) ?_
  have nN : ∀ (i : Nat) (x : Nd), l[i]? = some x → ¬ (Stp Nd.id (IntKind.i64.wrap (nn - 1)) l i x ∧ LabelsOk x.labels ∧ PropsOk x.props) → ¬ GOk ⟨l, es, nn, ne⟩ := by
    intro i x hx h hg
    refine h ⟨?_, hg.nok x (List.mem_of_getElem? hx)⟩
    obtain ⟨a1, a2, a3⟩ := hg.na i x hx
    rw [q1 hg]
    exact ⟨a1, by simp only at a2; omega, a3⟩
  have nE : ∀ (i : Nat) (x : Eg), es[i]? = some x → ¬ (Stp Eg.id (IntKind.i64.wrap (ne - 1)) es i x ∧ nameOk x.kind = true ∧ PropsOk x.props ∧ 0 ≤ posOf Nd.id x.frm l ∧ 0 ≤ posOf Nd.id x.to l) → ¬ GOk ⟨l, es, nn, ne⟩ := by
    intro i x hx h hg
    refine h ⟨?_, hg.eok x (List.mem_of_getElem? hx)⟩
    obtain ⟨a1, a2, a3⟩ := hg.ea i x hx
    rw [q2 hg]
    exact ⟨a1, by simp only at a2; omega, a3⟩
  generalize hq1 : IntKind.i64.wrap (nn - 1) = w1 at *
  generalize hq2 : IntKind.i64.wrap (ne - 1) = w2 at *
  simp [pc_spec_GraphOk]
  refine W_for (fun i => ⟨[(3, .i .i64 i), (1, .ptr 0 0 0)], [(0, .arr 4 [sG.I ⟨l, es, nn, ne⟩])], 1, 0⟩) l.length (ToI (fun i (x : Nd) => Stp Nd.id w1 l i x ∧ LabelsOk x.labels ∧ PropsOk x.props) l) (Wk.less rfl (by simp) (by simp) (by simp)) .zero ?_
  intro i hi hv
  rcases Nat.lt_or_ge i l.length with hlt | hge
  · obtain ⟨⟨a, b, c⟩, hx⟩ : ∃ x, l[i]? = some x := ⟨_, List.getElem?_eq_getElem hlt⟩
    have hw : IntKind.i64.wrap ((i : Int) + 1) = (i : Int) + 1 := wrap1 (by omega)
    obtain ⟨_, f1, f2, f3, f4⟩ := hl' _ (List.mem_of_getElem? hx)
    simp only at f1 f2 f3 f4
    have no := nN i _ hx
    simp only at no
    simp [-getElem?_pos, hx, hw, hlt, hq1]
    refine callK_val (by simp) (l1In_c a 0 w1) rfl ?_
    by_cases b1 : 0 ≤ a
    · by_cases b2 : a ≤ w1
      · simp [-getElem?_pos, hx, hw, hlt, hq1, b1, b2]
        refine callK_val (by simp) (l2Labels_c b f1 f2) rfl ?_
        by_cases g1 : LabelsOk b
        · simp [-getElem?_pos, hx, hw, hlt, hq1, b1, b2, g1]
          refine callK_val (by simp) (l2Props_c c f3 f4) rfl ?_
          by_cases g2 : PropsOk c
          · by_cases h0 : 0 < i
            · obtain ⟨⟨a', b', c'⟩, hy⟩ : ∃ y, l[i - 1]? = some y := ⟨_, List.getElem?_eq_getElem (by omega)⟩
              have hb := wback h0 (by omega)
              by_cases hlt2 : a ≤ a'
              · simp [-getElem?_pos, hx, hw, hlt, hq1, b1, b2, g1, g2, h0, hb, hy, hlt2]
                exact fin_val rfl (by simp [no (fun h => by have := h.1.2.2 _ h0 hy; simp only at this; omega)]) (by simp)
              · simp [-getElem?_pos, hx, hw, hlt, hq1, b1, b2, g1, g2, h0, hb, hy, hlt2]
                refine ⟨hv.succ hx ⟨⟨b1, b2, fun z _ hz => ?_⟩, g1, g2⟩, Wk.to1 rfl (by simp) (by simp) (by simp) (by simp) (by omega)⟩
                rw [hy] at hz; simp at hz; subst hz; simp only; omega
            · obtain rfl : i = 0 := by omega
              simp [-getElem?_pos, hx, hw, hlt, hq1, b1, b2, g1, g2]
              exact ⟨hv.succ hx ⟨⟨b1, b2, fun z h _ => by omega⟩, g1, g2⟩, Wk.to1 rfl (by simp) (by simp) (by simp) (by simp) (by omega)⟩
          · simp [-getElem?_pos, hx, hw, hlt, hq1, b1, b2, g1, g2]
            exact fin_val rfl (by simp [no (fun h => g2 h.2.2)]) (by simp)
        · simp [-getElem?_pos, hx, hw, hlt, hq1, b1, b2, g1]
          exact fin_val rfl (by simp [no (fun h => g1 h.2.1)]) (by simp)
      · simp [-getElem?_pos, hx, hw, hlt, hq1, b1, b2]
        exact fin_val rfl (by simp [no (fun h => b2 h.1.2.1)]) (by simp)
    · simp [-getElem?_pos, hx, hw, hlt, hq1, b1]
      exact fin_val rfl (by simp [no (fun h => b1 h.1.1)]) (by simp)
  · have hnlt : ¬ i < l.length := by omega
    have hnok := hv.all hge
    simp [hnlt]
    refine W_for (fun i => ⟨[(5, .i .i64 i), (1, .ptr 0 0 0)], [(0, .arr 4 [sG.I ⟨l, es, nn, ne⟩])], 1, 0⟩) es.length (ToI (fun i (x : Eg) => Stp Eg.id w2 es i x ∧ nameOk x.kind = true ∧ PropsOk x.props ∧ 0 ≤ posOf Nd.id x.frm l ∧ 0 ≤ posOf Nd.id x.to l) es) (Wk.less rfl (by simp) (by simp) (by simp)) .zero ?_
    intro i hi hv
    rcases Nat.lt_or_ge i es.length with hlt | hge
    · obtain ⟨⟨a, k, b, c, p⟩, hx⟩ : ∃ x, es[i]? = some x := ⟨_, List.getElem?_eq_getElem hlt⟩
      have hw : IntKind.i64.wrap ((i : Int) + 1) = (i : Int) + 1 := wrap1 (by omega)
      obtain ⟨_, f1, _, _, f3, f4⟩ := he' _ (List.mem_of_getElem? hx)
      simp only at f1 f3 f4
      have no := nE i _ hx
      simp only at no
      simp [-getElem?_pos, hx, hw, hlt, hq2]
      refine callK_val (by simp) (l1In_c a 0 w2) rfl ?_
      by_cases b1 : 0 ≤ a
      · by_cases b2 : a ≤ w2
        · simp [-getElem?_pos, hx, hw, hlt, hq2, b1, b2]
          refine callK_val (by simp) (l2Name_c k f1) rfl ?_
          by_cases g1 : nameOk k = true
          · simp [-getElem?_pos, hx, hw, hlt, hq2, b1, b2, g1]
            refine callK_val (by simp) (l2Props_c p f3 f4) rfl ?_
            by_cases g2 : PropsOk p
            · simp [-getElem?_pos, hx, hw, hlt, hq2, b1, b2, g1, g2]
              refine callK_val (by simp) (l2Node_c ⟨l, es, nn, ne⟩ hl b) rfl ?_
              by_cases g3 : posOf Nd.id b l < 0
              · simp [-getElem?_pos, hx, hw, hlt, hq2, b1, b2, g1, g2, g3]
                exact fin_val rfl (by simp [no (fun h => by have := h.2.2.2.1; omega)]) (by simp)
              · simp [-getElem?_pos, hx, hw, hlt, hq2, b1, b2, g1, g2, g3]
                refine callK_val (by simp) (l2Node_c ⟨l, es, nn, ne⟩ hl c) rfl ?_
                by_cases g4 : posOf Nd.id c l < 0
                · simp [-getElem?_pos, hx, hw, hlt, hq2, b1, b2, g1, g2, g3, g4]
                  exact fin_val rfl (by simp [no (fun h => by have := h.2.2.2.2; omega)]) (by simp)
                · by_cases h0 : 0 < i
                  · obtain ⟨⟨a', k', b', c', p'⟩, hy⟩ : ∃ y, es[i - 1]? = some y := ⟨_, List.getElem?_eq_getElem (by omega)⟩
                    have hb := wback h0 (by omega)
                    by_cases hlt2 : a ≤ a'
                    · simp [-getElem?_pos, hx, hw, hlt, hq2, b1, b2, g1, g2, g3, g4, h0, hb, hy, hlt2]
                      exact fin_val rfl (by simp [no (fun h => by have := h.1.2.2 _ h0 hy; simp only at this; omega)]) (by simp)
                    · simp [-getElem?_pos, hx, hw, hlt, hq2, b1, b2, g1, g2, g3, g4, h0, hb, hy, hlt2]
                      refine ⟨hv.succ hx ⟨⟨b1, b2, fun z _ hz => ?_⟩, g1, g2, by simp only; omega, by simp only; omega⟩, Wk.to1 rfl (by simp) (by simp) (by simp) (by simp) (by omega)⟩
                      rw [hy] at hz; simp at hz; subst hz; simp only; omega
                  · obtain rfl : i = 0 := by omega
                    simp [-getElem?_pos, hx, hw, hlt, hq2, b1, b2, g1, g2, g3, g4]
                    exact ⟨hv.succ hx ⟨⟨b1, b2, fun z h _ => by omega⟩, g1, g2, by simp only; omega, by simp only; omega⟩, Wk.to1 rfl (by simp) (by simp) (by simp) (by simp) (by omega)⟩
            · simp [-getElem?_pos, hx, hw, hlt, hq2, b1, b2, g1, g2]
              exact fin_val rfl (by simp [no (fun h => g2 h.2.2.1)]) (by simp)
          · simp [-getElem?_pos, hx, hw, hlt, hq2, b1, b2, g1]
            exact fin_val rfl (by simp [no (fun h => g1 h.2.1)]) (by simp)
        · simp [-getElem?_pos, hx, hw, hlt, hq2, b1, b2]
          exact fin_val rfl (by simp [no (fun h => b2 h.1.2.1)]) (by simp)
      · simp [-getElem?_pos, hx, hw, hlt, hq2, b1]
        exact fin_val rfl (by simp [no (fun h => b1 h.1.1)]) (by simp)
    · have hnlt : ¬ i < es.length := by omega
      have heok := hv.all hge
      have all : (0 ≤ nn ∧ nn ≤ 1000000000) → (0 ≤ ne ∧ ne ≤ 1000000000) → l.length ≤ 12 → es.length ≤ 16 → GOk ⟨l, es, nn, ne⟩ := by
        intro c1 c2 c3 c4
        have e1 : w1 = nn - 1 := by rw [← hq1]; exact wrap64 (by omega) (by omega)
        have e2 : w2 = ne - 1 := by rw [← hq2]; exact wrap64 (by omega) (by omega)
        refine ⟨c1, c2, c3, c4, fun i x hx => ?_, fun i x hx => ?_, fun x hx => ?_, fun x hx => ?_⟩
        · obtain ⟨⟨d1, d2, d3⟩, _⟩ := hnok i x hx; exact ⟨d1, by simp only; omega, d3⟩
        · obtain ⟨⟨d1, d2, d3⟩, _⟩ := heok i x hx; exact ⟨d1, by simp only; omega, d3⟩
        · obtain ⟨j, hj⟩ := List.mem_iff_getElem?.1 hx; exact (hnok j x hj).2
        · obtain ⟨j, hj⟩ := List.mem_iff_getElem?.1 hx; exact (heok j x hj).2
      by_cases c3 : (l.length : Int) ≤ 12
      · by_cases c4 : (es.length : Int) ≤ 16
        · simp [hnlt, c3, c4]
          refine callK_val (by simp) (l1In_c nn 0 1000000000) rfl ?_
          by_cases c1 : 0 ≤ nn ∧ nn ≤ 1000000000
          · simp [hnlt, c3, c4, c1.1, c1.2]
            refine callK_val (by simp) (l1In_c ne 0 1000000000) rfl ?_
            by_cases c2 : 0 ≤ ne ∧ ne ≤ 1000000000
            · simp [hnlt, c3, c4, c1.1, c1.2, c2.1, c2.2]
              exact fin_val rfl (by simp [all c1 c2 (by omega) (by omega)]) (by simp)
            · have c2' : (decide (0 ≤ ne) && decide (ne ≤ 1000000000)) = false := by
                simp only [Bool.and_eq_false_iff, decide_eq_false_iff_not]; omega
              simp [hnlt, c3, c4, c1.1, c1.2, c2']
              exact fin_val rfl (by simp [show ¬ GOk ⟨l, es, nn, ne⟩ from fun h => c2 h.ne]) (by simp)
          · have c1' : (decide (0 ≤ nn) && decide (nn ≤ 1000000000)) = false := by
              simp only [Bool.and_eq_false_iff, decide_eq_false_iff_not]; omega
            simp [hnlt, c3, c4, c1']
            exact fin_val rfl (by simp [show ¬ GOk ⟨l, es, nn, ne⟩ from fun h => c1 h.nn]) (by simp)
        · simp [hnlt, c3, c4]
          exact fin_val rfl (by simp [show ¬ GOk ⟨l, es, nn, ne⟩ from fun h => by have := h.el; simp only at this; omega]) (by simp)
      · simp [hnlt, c3]
        exact fin_val rfl (by simp [show ¬ GOk ⟨l, es, nn, ne⟩ from fun h => by have := h.nl; simp only at this; omega]) (by simp)
end Go.Proofs.Ytehdfbhfbidadaa.V
/- Arguments that came in: rows; a law on trees is a law of the program. -/
namespace Go.Proofs.Ytehdfbhfbidadaa.V
open Go Go.RowKit
set_option linter.unusedVariables false
set_option linter.unusedSimpArgs false
theorem rows_list {α : Type} {f : α → List T} {p : α → Prop} : ∀ {rows : List (List T)}, (∀ r ∈ rows, ∃ a, r = f a ∧ p a) → ∃ l : List α, rows = l.map f ∧ ∀ a ∈ l, p a
  | [], h => ⟨[], rfl, by simp⟩
  | r :: rows, h => by
    obtain ⟨a, ha, hp⟩ := h r (by simp)
    obtain ⟨l, hl, hq⟩ := rows_list (rows := rows) fun r hr => h r (List.mem_cons_of_mem _ hr)
    exact ⟨a :: l, by simp [ha, hl], fun b hb => by
      rcases List.mem_cons.1 hb with rfl | hb
      · exact hp
      · exact hq b hb⟩
theorem CI_agg {W : World} {O : Nat → Prop} {ts : List T} {cs : Array Value} (h : CIs W O ts cs.toList) : CI W O (.agg ts) (.agg cs) := by
  simp only [CI]; exact ⟨cs.toList, by simp, h⟩
theorem CI_1 {W : World} {O : Nat → Prop} {t : T} {v : Value} (h : CIs W O [t] [v]) : CI W O t v := by
  simp only [CIs, List.cons.injEq] at h
  obtain ⟨v', r, ⟨rfl, _⟩, h1, _⟩ := h
  exact h1
theorem CI_bool {W : World} {O : Nat → Prop} (b : Bool) : CI W O (.b b) (.bool b) := by simp only [CI]
theorem CIs_nil {W : World} {O : Nat → Prop} : CIs W O [] [] := by simp only [CIs]
theorem CIs_cons {W : World} {O : Nat → Prop} {t : T} {ts : List T} {v : Value} {vs : List Value} (h : CI W O t v) (h2 : CIs W O ts vs) : CIs W O (t :: ts) (v :: vs) := by
  simp only [CIs]; exact ⟨v, vs, rfl, h, h2⟩
/-- A law on trees is a law of the program. -/
theorem law_run {f : Nat} {args : List T} {vs : List Value} {W : World} (h : Rv Try.prog f args (.b true)) (hc : CIs W (· < W.heap.size) args vs) : Calls Try.prog f vs.toArray W fun e w' => e = .returned (.bool true) ∧ Below W.heap.size W w' := by
  have hk : Ks W (· < W.heap.size) args vs [] := by
    have : ∀ {ts : List T} {vs : List Value}, CIs W (· < W.heap.size) ts vs → Ks W (· < W.heap.size) ts vs [] := by
      intro ts
      induction ts with
      | nil => intro vs h; simp only [CIs] at h; simp [Ks, h]
      | cons t ts ih =>
        intro vs h
        simp only [CIs] at h; simp only [Ks]
        obtain ⟨v, r, e, h1, h2⟩ := h
        exact ⟨v, r, [], [], e, rfl, K_of_CI h1, ih h2⟩
    exact this hc
  refine (h W vs (· < W.heap.size) [] (fun _ h => h) hk (by simp) (by simp)).mono ?_
  rintro e w' ⟨v, O', Fr, Fo, rfl, h1, h2, h3, hr, ho, hnd, hm, hkeep⟩
  simp only [K, CI] at hr
  refine ⟨by rw [hr.1], hkeep.os, hkeep.tape, hkeep.output, hkeep.size, fun k hk => hkeep.block k hk (by simp)⟩
end Go.Proofs.Ytehdfbhfbidadaa.V
/- Codes that came in, as rows of bytes. -/
namespace Go.Proofs.Ytehdfbhfbidadaa.V
open Go Go.RowKit
set_option linter.unusedVariables false
set_option linter.unusedSimpArgs false
theorem wf_u8 {y : Int} (h : (Lit.int .u8 y).wf = true) : ∃ c : UInt8, y = (c.toNat : Int) := by
  simp [Lit.wf, IntKind.min, IntKind.max, IntKind.signed, IntKind.bits] at h
  refine ⟨UInt8.ofNat y.toNat, ?_⟩
  rw [UInt8.toNat_ofNat_of_lt' (by simp [UInt8.size]; omega)]; omega
theorem op_Bytes (n : Nat) : OpensT Try.prog n 35 (fun ts => ∃ l : List UInt8, ts = [.imm (l.map fun c => [.i .u8 (c.toNat : Int)])] ∧ l.length ≤ 9223372036854775807) :=
  ot_mono (ot_slice (sz := 1) Try.underlying35 (by kernel_rfl) (by omega) fun m _ => ot_mono (ot_int Try.underlying5) (fun ts h => (h : ∃ y, ts = [T.i .u8 y] ∧ (Lit.int .u8 y).wf = true))) fun ts ⟨rows, h1, h2, h3⟩ => by
    obtain ⟨l, rfl, _⟩ := rows_list (f := fun c : UInt8 => [T.i .u8 (c.toNat : Int)]) (p := fun _ => True) fun r hr => by
      obtain ⟨⟨y, h4, h5⟩, _⟩ := h3 r hr
      obtain ⟨c, rfl⟩ := wf_u8 h5
      exact ⟨c, h4, trivial⟩
    exact ⟨l, h1, by simpa [maxLen] using h2⟩
end Go.Proofs.Ytehdfbhfbidadaa.V
