/- Kinds of data as rows of trees: what is read, what is owned. -/
import Derived.Test.YtehdfbhfbidadaaVC
namespace Go.Proofs.Ytehdfbhfbidadaa.V
open Go
set_option linter.unusedVariables false
set_option linter.unusedSimpArgs false
/-- A cell of what is read. -/
def T.im : T → Bool
  | .b _ | .i _ _ | .s _ | .imm _ => true
  | _ => false
/-- A cell of what is owned. -/
def T.ow : T → Bool
  | .b _ | .i _ _ | .s _ => true
  | .own _ rows => cleanR rows && noImr rows
  | _ => false
structure Sh (α : Type) where
  sz : Nat
  I : α → List T
  O : α → List T
  lI : ∀ a, (I a).length = sz
  lO : ∀ a, (O a).length = sz
  toO : ∀ a, toIs (O a) = I a
  im : ∀ a, (I a).all T.im = true
  ow : ∀ a, (O a).all T.ow = true
section
variable {n : Nat} {s : St}
theorem im_mats : ∀ {cs : List T} {n : Nat}, cs.all T.im = true → mats cs n = (cs, [])
  | [], n, h => by simp [mats]
  | c :: cs, n, h => by
    simp only [List.all_cons, Bool.and_eq_true] at h
    have : mat c n = (c, []) := by cases c <;> simp [T.im] at h <;> simp [mat]
    simp only [mats, this, List.length_nil, Nat.add_zero, im_mats h.2, List.nil_append]
theorem im_argIs : ∀ {cs : List T}, cs.all T.im = true → argIs s cs = some cs
  | [], h => by simp [argIs]
  | c :: cs, h => by
    simp only [List.all_cons, Bool.and_eq_true] at h
    have : argI s c = some c := by cases c <;> simp [T.im] at h <;> simp [argI]
    simp only [argIs, this, im_argIs h.2]
theorem im_names : ∀ {cs : List T}, cs.all T.im = true → namess cs = []
  | [], h => by simp [namess]
  | c :: cs, h => by
    simp only [List.all_cons, Bool.and_eq_true] at h
    have : c.names = [] := by cases c <;> simp [T.im] at h <;> simp [T.names]
    simp only [namess, this, im_names h.2, List.append_nil]
theorem im_toIs : ∀ {cs : List T}, cs.all T.im = true → toIs cs = cs
  | [], h => by simp [toIs]
  | c :: cs, h => by
    simp only [List.all_cons, Bool.and_eq_true] at h
    have : c.toI = c := by cases c <;> simp [T.im] at h <;> simp [T.toI]
    simp only [toIs, this, im_toIs h.2]
theorem im_all {f : T → Bool} (hf : ∀ t : T, t.im = true → f t = true) {cs : List T} (h : cs.all T.im = true) : cs.all f = true := by
  rw [List.all_eq_true] at h ⊢
  exact fun t ht => hf t (h t ht)
theorem im_clean {cs : List T} (h : cs.all T.im = true) : cs.all T.clean = true := im_all (fun t ht => by cases t <;> simp [T.im] at ht <;> rfl) h
theorem im_cell {cs : List T} (h : cs.all T.im = true) : cs.all T.cell = true := im_all (fun t ht => by cases t <;> simp [T.im] at ht <;> rfl) h
theorem ow_all {f : T → Bool} (hf : ∀ t : T, t.ow = true → f t = true) {cs : List T} (h : cs.all T.ow = true) : cs.all f = true := by
  rw [List.all_eq_true] at h ⊢
  exact fun t ht => hf t (h t ht)
theorem ow_pl {cs : List T} (h : cs.all T.ow = true) : cs.all T.pl = true := ow_all (fun t ht => by cases t <;> simp [T.ow] at ht <;> simp [T.pl, ht]) h
theorem ow_clean {cs : List T} (h : cs.all T.ow = true) : cs.all T.clean = true := ow_all (fun t ht => by cases t <;> simp [T.ow] at ht <;> simp [T.clean, ht]) h
theorem ow_noImm : ∀ {cs : List T}, cs.all T.ow = true → noIms cs = true
  | [], h => by simp [noIms]
  | c :: cs, h => by
    simp only [List.all_cons, Bool.and_eq_true] at h
    have : c.noImm = true := by cases c <;> simp [T.ow] at h <;> simp [T.noImm, h]
    simp only [noIms, this, ow_noImm h.2, Bool.and_self]
theorem ow_cell : ∀ {cs : List T} {n : Nat}, cs.all T.ow = true → ((mats cs n).1.all T.cell) = true
  | [], n, h => by simp [mats]
  | c :: cs, n, h => by
    simp only [List.all_cons, Bool.and_eq_true] at h
    have : (mat c n).1.cell = true := by cases c <;> simp [T.ow] at h <;> simp [mat, T.cell]
    simp only [mats, List.all_cons, this, ow_cell h.2, Bool.and_self]
end
section
variable {s : St}
theorem mats_len : ∀ (cs : List T) (n : Nat), (mats cs n).1.length = cs.length
  | [], n => by simp [mats]
  | c :: cs, n => by simp only [mats, List.length_cons, mats_len cs]
theorem im_gives {cs : List T} (h : cs.all T.im = true) : cs.any T.gives1 = false := by
  rw [List.any_eq_false]
  intro t ht
  have := List.all_eq_true.1 h t ht
  cases t <;> simp [T.im] at this <;> simp [T.gives1]
/-- Nothing is handed over. -/
def gfree : List T → Bool
  | [] => true
  | t :: ts => !t.gives && gfree ts
theorem taken_gfree : ∀ {args es : List T}, gfree args = true → es.length = args.length → taken s args es = some (args.map fun _ => .dead) ∧ takenN args es = []
  | [], [], h, hl => ⟨rfl, rfl⟩
  | t :: args, e :: es, h, hl => by
    simp only [gfree, Bool.and_eq_true, Bool.not_eq_true'] at h
    obtain ⟨h1, h2⟩ := taken_gfree h.2 (by simpa using hl)
    simp only [taken, takenN, h1, h2, h.1, Bool.false_eq_true, if_false, List.map_cons, List.append_nil, and_self]
  | [], _ :: _, h, hl => by simp at hl
  | _ :: _, [], h, hl => by simp at hl
mutual
def rfN : T → T → List Nat
  | .ref t _ _, .own _ _ => [t]
  | .agg cs, .agg rs => rfNs cs rs
  | .tup cs, .tup rs => rfNs cs rs
  | _, _ => []
def rfNs : List T → List T → List Nat
  | c :: cs, r :: rs => rfN c r ++ rfNs cs rs
  | _, _ => []
end
mutual
def rfP (s : St) : T → T → Prop
  | .ref t o n, .own sz rows => onArr (hget s.hp t) fun sz' rs => o + n ≤ rs.length ∧ sz' = sz ∧ (rs.drop o).take n = rows ∧ cleanR rows = true
  | .nl, .own _ rows => rows = []
  | .agg cs, .agg rs => rfPs s cs rs
  | .tup cs, .tup rs => rfPs s cs rs
  | .fn _ _, _ => False
  | .ifc _ _, _ => False
  | .ref _ _ _, _ => False
  | .ptr _ _ _, _ => False
  | .mp _, _ => False
  | .agg _, _ => False
  | .tup _, _ => False
  | x, r => x = r
def rfPs (s : St) : List T → List T → Prop
  | [], [] => True
  | c :: cs, r :: rs => rfP s c r ∧ rfPs s cs rs
  | _, _ => False
end
mutual
theorem rfP_ok : ∀ {x r : T}, rfP s x r → rf s x r (rfN x r)
  | .ref t o n, r, h => by
    cases r <;> simp only [rfP] at h
    simp only [rf, rfN]
    exact ⟨trivial, h⟩
  | .nl, r, h => by cases r <;> simp only [rfP, reduceCtorEq] at h <;> simp only [rf, rfN, and_self, h]
  | .agg cs, r, h => by
    cases r <;> simp only [rfP] at h
    simp only [rf, rfN]; exact rfPs_ok h
  | .tup cs, r, h => by
    cases r <;> simp only [rfP] at h
    simp only [rf, rfN]; exact rfPs_ok h
  | .fn _ _, r, h => by simp only [rfP] at h
  | .ifc _ _, r, h => by simp only [rfP] at h
  | .ptr _ _ _, r, h => by simp only [rfP] at h
  | .mp _, r, h => by simp only [rfP] at h
  | .un, r, h => by simp only [rfP] at h; subst h; simp [rf, rfN]
  | .dead, r, h => by simp only [rfP] at h; subst h; simp [rf, rfN]
  | .b _, r, h => by simp only [rfP] at h; subst h; simp [rf, rfN]
  | .i _ _, r, h => by simp only [rfP] at h; subst h; simp [rf, rfN]
  | .s _, r, h => by simp only [rfP] at h; subst h; simp [rf, rfN]
  | .imm _, r, h => by simp only [rfP] at h; subst h; simp [rf, rfN]
  | .own _ _, r, h => by simp only [rfP] at h; subst h; simp [rf, rfN]
  | .bx _, r, h => by simp only [rfP] at h; subst h; simp [rf, rfN]
  | .np, r, h => by simp only [rfP] at h; subst h; simp [rf, rfN]
  | .pim _, r, h => by simp only [rfP] at h; subst h; simp [rf, rfN]
  | .nfn, r, h => by simp only [rfP] at h; subst h; simp [rf, rfN]
  | .nif, r, h => by simp only [rfP] at h; subst h; simp [rf, rfN]
  | .nmp, r, h => by simp only [rfP] at h; subst h; simp [rf, rfN]
theorem rfPs_ok : ∀ {cs rs : List T}, rfPs s cs rs → rfs s cs rs (rfNs cs rs)
  | [], [], h => by simp only [rfs, rfNs]
  | c :: cs, r :: rs, h => by
    simp only [rfPs] at h
    simp only [rfs, rfNs]
    exact ⟨_, _, rfl, rfP_ok h.1, rfPs_ok h.2⟩
  | [], _ :: _, h => by simp only [rfPs] at h
  | _ :: _, [], h => by simp only [rfPs] at h
end
theorem fin_own {P : Program} {rs : List ResultVar} {args : List T} {r : T} {xs : List T} (h1 : resK P s rs = some xs) (h2 : rfP s (res1 xs) r) (hg : gfree args = true) (h4 : (rfN (res1 xs) r).Nodup) : fin P rs args r (args.map fun _ => .dead) .ret s := by
  obtain ⟨h5, h6⟩ := taken_gfree (s := s) hg (mats_len args 0)
  exact fin_ret h1 (rfP_ok h2) h5 (by rw [h6, List.append_nil]; exact h4)
theorem fin_val {P : Program} {rs : List ResultVar} {args : List T} {r : T} {xs : List T} (h1 : resK P s rs = some xs) (h2 : rf s (res1 xs) r []) (hg : gfree args = true) : fin P rs args r (args.map fun _ => .dead) .ret s := by
  obtain ⟨h5, h6⟩ := taken_gfree (s := s) hg (mats_len args 0)
  exact fin_ret h1 h2 h5 (by rw [h6]; simp)
end
attribute [simp] gfree rfP rfPs rfN rfNs
namespace Sh
variable {α : Type} (S : Sh α) {n : Nat} {s : St}
theorem lenI (a : α) : (S.I a).length = S.sz := S.lI a
theorem takeI (a : α) : (S.I a).take S.sz = S.I a := List.take_of_length_le (by rw [S.lI]; exact Nat.le_refl _)
theorem mI (a : α) (n : Nat) : mats (S.I a) n = (S.I a, []) := im_mats (S.im a)
theorem aI (a : α) (s : St) : argIs s (S.I a) = some (S.I a) := im_argIs (S.im a)
theorem nI (a : α) : namess (S.I a) = [] := im_names (S.im a)
theorem gI (a : α) : (S.I a).any T.gives1 = false := im_gives (S.im a)
theorem kI (a : α) : (S.I a).all T.cell = true := im_cell (S.im a)
theorem kI' (a : α) (x : T) (h : x ∈ S.I a) : x.cell = true := List.all_eq_true.1 (im_cell (S.im a)) x h
theorem cI (a : α) : (S.I a).all T.clean = true := im_clean (S.im a)
theorem toI (a : α) : toIs (S.I a) = S.I a := im_toIs (S.im a)
theorem cO (a : α) : (S.O a).all T.clean = true := ow_clean (S.ow a)
theorem plO (a : α) : (S.O a).all T.pl = true := ow_pl (S.ow a)
theorem nO (a : α) : noIms (S.O a) = true := ow_noImm (S.ow a)
theorem rO : ∀ (l : List α), toIr (l.map S.O) = l.map S.I
  | [] => by simp [toIr]
  | a :: l => by simp only [List.map_cons, toIr, S.toO, rO l]
theorem rI : ∀ (l : List α), toIr (l.map S.I) = l.map S.I
  | [] => by simp [toIr]
  | a :: l => by simp only [List.map_cons, toIr, S.toI, rI l]
theorem crO (l : List α) : cleanR (l.map S.O) = true := by
  simp only [cleanR, List.all_map, List.all_eq_true]
  intro a _; exact S.cO a
theorem crI (l : List α) : cleanR (l.map S.I) = true := by
  simp only [cleanR, List.all_map, List.all_eq_true]
  intro a _; exact S.cI a
theorem nrO : ∀ (l : List α), noImr (l.map S.O) = true
  | [] => by simp [noImr]
  | a :: l => by simp only [List.map_cons, noImr, S.nO, nrO l, Bool.and_self]
theorem lrI (l : List α) : ∀ r ∈ l.map S.I, r.length = S.sz := by
  intro r hr; obtain ⟨a, _, rfl⟩ := List.mem_map.1 hr; exact S.lI a
theorem lrO (l : List α) : ∀ r ∈ l.map S.O, r.length = S.sz := by
  intro r hr; obtain ⟨a, _, rfl⟩ := List.mem_map.1 hr; exact S.lO a
end Sh
attribute [simp] Sh.kI' Sh.gI Sh.im Sh.ow Sh.takeI Sh.mI Sh.aI Sh.nI Sh.kI Sh.cI Sh.toI Sh.cO Sh.plO Sh.nO Sh.rO Sh.rI Sh.crO Sh.crI Sh.nrO Sh.lI Sh.lO
theorem toIs_append : ∀ (a b : List T), toIs (a ++ b) = toIs a ++ toIs b
  | [], b => by simp [toIs]
  | x :: a, b => by simp [toIs, toIs_append a b]
theorem noIms_append : ∀ (a b : List T), noIms (a ++ b) = (noIms a && noIms b)
  | [], b => by simp [noIms]
  | x :: a, b => by simp [noIms, noIms_append a b, Bool.and_assoc]
theorem namess_append : ∀ (a b : List T), namess (a ++ b) = namess a ++ namess b
  | [], b => by simp [namess]
  | x :: a, b => by simp [namess, namess_append a b]
attribute [simp] toIs_append noIms_append namess_append
theorem wrap1 {i : Nat} (h : (i : Int) < 9223372036854775807) : IntKind.i64.wrap ((i : Int) + 1) = (i : Int) + 1 := wrap64 (by omega) (by omega)
/-! ### loops over slices -/
def left (x : Int) (n : Nat) : Int := if x - n < 0 then -1 else x - n
theorem left_neg {x : Int} {n : Nat} (h : x - n < 0) : left x n = -1 := by unfold left; rw [if_pos h]
theorem left_pos {x : Int} {n : Nat} (h : ¬ x - n < 0) : left x n = x - n := by unfold left; rw [if_neg h]
def eqSpc (f sz : Nat) : PC :=
  .seq (.reg [⟨(some 4), .mv (.c (.b false)), none, []⟩] false) (.seq (.seq (.reg [⟨(some 6), .mv (.t 0), none, []⟩, ⟨(some 7), .len (.t 6), none, []⟩, ⟨(some 8), .mv (.t 1), none, []⟩, ⟨(some 9), .len (.t 8), none, []⟩, ⟨(some 10), .bin .neq (.t 7) (.t 9), none, []⟩] false) (.cond (.t 10) (.seq (.reg [⟨(some 4), .mv (.c (.b false)), none, []⟩] false) (.ret)) (.skip))) (.seq (.seq (.reg [⟨(some 5), .mv (.c (.i .i64 0)), none, []⟩] false) (.block 0 (.loop (.seq (.seq (.reg [⟨(some 11), .mv (.t 5), none, []⟩, ⟨(some 12), .mv (.t 0), none, []⟩, ⟨(some 13), .len (.t 12), none, []⟩, ⟨(some 14), .bin .lss (.t 11) (.t 13), none, []⟩] false) (.cond (.t 14) (.skip) (.exit 0))) (.seq (.block 1 (.seq (.reg [⟨(some 17), .mv (.t 0), none, []⟩, ⟨(some 18), .mv (.t 5), none, []⟩, ⟨(some 19), .ia sz (.t 17) (.t 18), none, [0, 1]⟩, ⟨(some 20), .load (some sz) (.t 19), none, [2]⟩, ⟨(some 21), .mv (.t 1), none, []⟩, ⟨(some 22), .mv (.t 5), none, []⟩, ⟨(some 23), .ia sz (.t 21) (.t 22), none, [4, 5]⟩, ⟨(some 24), .load (some sz) (.t 23), none, [6]⟩, ⟨(some 25), .call (.ev [] .own) f [(.t 20), (.t 24)], none, [3, 7]⟩, ⟨(some 26), .un .not (.t 25), none, [8]⟩] true) (.cond (.t 26) (.seq (.reg [⟨(some 4), .mv (.c (.b false)), none, []⟩] false) (.ret)) (.skip)))) (.reg [⟨(some 15), .mv (.t 5), none, []⟩, ⟨(some 16), .bin .add (.t 15) (.c (.i .i64 1)), none, []⟩, ⟨(some 5), .mv (.t 16), none, []⟩] false)))))) (.seq (.reg [⟨(some 4), .mv (.c (.b true)), none, []⟩] false) (.ret))))
def szSpc (f sz : Nat) : PC :=
  .seq (.reg [⟨(some 4), .mv (.c (.i .i64 0)), none, []⟩] false) (.seq (.reg [⟨(some 6), .mv (.t 1), none, []⟩, ⟨(some 7), .mv (.t 0), none, []⟩, ⟨(some 8), .len (.t 7), none, []⟩, ⟨(some 9), .bin .sub (.t 6) (.t 8), none, []⟩, ⟨(some 1), .mv (.t 9), none, []⟩] false) (.seq (.seq (.reg [⟨(some 10), .mv (.t 1), none, []⟩, ⟨(some 11), .bin .lss (.t 10) (.c (.i .i64 0)), none, []⟩] false) (.cond (.t 11) (.seq (.reg [⟨(some 4), .mv (.c (.i .i64 (-1))), none, []⟩] false) (.ret)) (.skip))) (.seq (.seq (.reg [⟨(some 5), .mv (.c (.i .i64 0)), none, []⟩] false) (.block 0 (.loop (.seq (.seq (.reg [⟨(some 12), .mv (.t 5), none, []⟩, ⟨(some 13), .mv (.t 0), none, []⟩, ⟨(some 14), .len (.t 13), none, []⟩, ⟨(some 15), .bin .lss (.t 12) (.t 14), none, []⟩] false) (.cond (.t 15) (.skip) (.exit 0))) (.seq (.block 1 (.seq (.reg [⟨(some 18), .mv (.t 0), none, []⟩, ⟨(some 19), .mv (.t 5), none, []⟩, ⟨(some 20), .ia sz (.t 18) (.t 19), none, []⟩, ⟨(some 21), .load (some sz) (.t 20), none, []⟩, ⟨(some 22), .mv (.t 1), none, []⟩, ⟨(some 23), .call (.ev [] .own) f [(.t 21), (.t 22)], none, []⟩, ⟨(some 1), .mv (.t 23), none, []⟩] false) (.seq (.reg [⟨(some 24), .mv (.t 1), none, []⟩, ⟨(some 25), .bin .lss (.t 24) (.c (.i .i64 0)), none, []⟩] false) (.cond (.t 25) (.seq (.reg [⟨(some 4), .mv (.c (.i .i64 (-1))), none, []⟩] false) (.ret)) (.skip))))) (.reg [⟨(some 16), .mv (.t 5), none, []⟩, ⟨(some 17), .bin .add (.t 16) (.c (.i .i64 1)), none, []⟩, ⟨(some 5), .mv (.t 17), none, []⟩] false)))))) (.seq (.reg [⟨(some 26), .mv (.t 1), none, []⟩, ⟨(some 4), .mv (.t 26), none, []⟩] false) (.ret)))))
def toSpc (f sz bytes : Nat) (zs : List T) : PC :=
  .seq (.reg [⟨(some 2), .mv (.c (.nl)), none, []⟩] false) (.seq (.reg [⟨(some 5), .mv (.t 0), none, []⟩, ⟨(some 6), .len (.t 5), none, []⟩, ⟨(some 7), .make sz bytes zs (.t 6), none, []⟩, ⟨(some 3), .mv (.t 7), none, []⟩] false) (.seq (.seq (.reg [⟨(some 4), .mv (.c (.i .i64 0)), none, []⟩] false) (.block 0 (.loop (.seq (.seq (.reg [⟨(some 8), .mv (.t 4), none, []⟩, ⟨(some 9), .mv (.t 0), none, []⟩, ⟨(some 10), .len (.t 9), none, []⟩, ⟨(some 11), .bin .lss (.t 8) (.t 10), none, []⟩] false) (.cond (.t 11) (.skip) (.exit 0))) (.seq (.block 1 (.reg [⟨(some 14), .mv (.t 3), none, []⟩, ⟨(some 15), .mv (.t 4), none, []⟩, ⟨(some 16), .mv (.t 0), none, []⟩, ⟨(some 17), .mv (.t 4), none, []⟩, ⟨(some 18), .ia sz (.t 16) (.t 17), none, []⟩, ⟨(some 19), .load (some sz) (.t 18), none, []⟩, ⟨(some 20), .call (.ev [] .own) f [(.t 19)], none, []⟩, ⟨(some 21), .ia sz (.t 14) (.t 15), none, []⟩, ⟨none, .store (some sz) (.t 21) (.t 20), none, []⟩] false)) (.reg [⟨(some 12), .mv (.t 4), none, []⟩, ⟨(some 13), .bin .add (.t 12) (.c (.i .i64 1)), none, []⟩, ⟨(some 4), .mv (.t 13), none, []⟩] false)))))) (.seq (.reg [⟨(some 22), .mv (.t 3), none, []⟩, ⟨(some 2), .mv (.t 22), none, []⟩] false) (.ret))))
section
variable {α : Type} (S : Sh α) {P : Program} {M : List (Nat × CM)} {f : Nat}
/-- Equal lists. -/
theorem eqS_gen (l : List α) (hl : l.length < 2 ^ 62) (h : ∀ v ∈ l, Rv P f [.agg (S.I v), .agg (S.I v)] (.b true)) :
    W P M 27 (eqSpc f S.sz) (enter [.imm (l.map S.I), .imm (l.map S.I)]) (fin P [.tmp 4] [.imm (l.map S.I), .imm (l.map S.I)] (.b true) [.dead, .dead]) := by
  simp [eqSpc]
  refine W_for (fun i => ⟨[(5, .i .i64 i), (0, .imm (l.map S.I)), (1, .imm (l.map S.I))], [], 0, 0⟩) l.length (fun i => True) (Wk.less rfl (by simp) (by simp) (by simp)) trivial ?_
  intro i hi _
  rcases Nat.lt_or_ge i l.length with h1 | h1
  · obtain ⟨x, hx⟩ : ∃ x, l[i]? = some x := ⟨_, List.getElem?_eq_getElem h1⟩
    have hw : IntKind.i64.wrap ((i : Int) + 1) = (i : Int) + 1 := wrap1 (by omega)
    simp [-getElem?_pos, hx, hw, h1]
    refine callK_val (by simp) (h x (List.mem_of_getElem? hx)) rfl ?_
    simp [-getElem?_pos, hx, hw, h1]
    exact Wk.to rfl (by simp) (by simp) (by simp) (by simp)
  · have h2 : ¬ i < l.length := by omega
    simp [h2]
    exact fin_ret0 rfl (by simp) rfl (by simp)
def sums (c : α → Nat) (l : List α) : Nat := (l.map c).sum
theorem sums_take {c : α → Nat} {l : List α} {i : Nat} {v : α} (h : l[i]? = some v) : sums c (l.take (i + 1)) = sums c (l.take i) + c v := by
  rw [List.take_add_one, h]; simp [sums]
theorem sums_le {c : α → Nat} {l : List α} (i : Nat) : sums c (l.take i) ≤ sums c l := by
  conv => rhs; rw [← List.take_append_drop i l]
  simp only [sums, List.map_append, List.sum_append]; omega
def cl (c : α → Nat) (l : List α) : Nat := l.length + sums c l
theorem szS_gen (c : α → Nat) (l : List α) (hl : l.length ≤ 9223372036854775807) (x : Int) (h0 : 0 ≤ x) (h1 : x < 2 ^ 62) (h : ∀ v ∈ l, ∀ x : Int, 0 ≤ x → x < 2 ^ 62 → Rv P f [.agg (S.I v), .i .i64 x] (.i .i64 (left x (c v)))) :
    W P M 27 (szSpc f S.sz) (enter [.imm (l.map S.I), .i .i64 x]) (fin P [.tmp 4] [.imm (l.map S.I), .i .i64 x] (.i .i64 (left x (cl c l))) [.dead, .dead]) := by
  unfold cl
  have hw : IntKind.i64.wrap (x - l.length) = x - l.length := by rw [wrap64] <;> omega
  by_cases hc : x - l.length < 0
  · simp [szSpc, hw, hc]
    have e : left x (l.length + sums c l) = -1 := by
      unfold left
      rw [if_pos (by omega)]
    exact fin_ret0 rfl (by simp [e]) rfl (by simp)
  · simp [szSpc, hw, hc]
    refine W_for (fun i => ⟨[(5, .i .i64 i), (1, .i .i64 (x - l.length - sums c (l.take i))), (0, .imm (l.map S.I))], [], 0, 0⟩) l.length (fun i => 0 ≤ x - l.length - sums c (l.take i)) (Wk.less rfl (by simp) (by simp [sums]) (by simp)) (by simp [sums]; omega) ?_
    intro i hi hv
    rcases Nat.lt_or_ge i l.length with h2 | h2
    · obtain ⟨v, hx⟩ : ∃ v, l[i]? = some v := ⟨_, List.getElem?_eq_getElem h2⟩
      have hw2 : IntKind.i64.wrap ((i : Int) + 1) = (i : Int) + 1 := wrap1 (by omega)
      have hst := sums_take (c := c) hx
      simp [-getElem?_pos, hx, hw2, h2]
      refine callK_val (by simp) (h v (List.mem_of_getElem? hx) _ hv (by omega)) rfl ?_
      by_cases h3 : x - l.length - sums c (l.take i) - c v < 0
      · have e : left (x - l.length - sums c (l.take i)) (c v) = -1 := by unfold left; rw [if_pos h3]
        simp [e]
        have hle := sums_le (c := c) (l := l) (i + 1)
        have e2 : left x (l.length + sums c l) = -1 := by
          unfold left
          rw [if_pos (by omega)]
        exact fin_ret0 rfl (by simp [e2]) rfl (by simp)
      · have e : left (x - l.length - sums c (l.take i)) (c v) = x - l.length - sums c (l.take i) - c v := by unfold left; rw [if_neg h3]
        simp [e, h3, hw2, h2]
        exact ⟨by omega, Wk.to rfl (by simp) (by simp; omega) (by simp) (by simp)⟩
    · have h4 : ¬ i < l.length := by omega
      simp [h4]
      rw [List.take_of_length_le h2] at hv
      have e2 : left x (l.length + sums c l) = x - l.length - sums c l := by
        unfold left
        rw [if_neg (by omega)]
        omega
      exact fin_ret0 rfl (by simp [e2, List.take_of_length_le h2]) rfl (by simp)
attribute [simp] hdels joins joinT joinsN joinN
theorem take_map_eq {β γ : Type} {g : β → γ} {l : List β} {n : Nat} (h : l.length = n) : (l.map g).take n = l.map g := List.take_of_length_le (by simp; omega)
@[simp] theorem cleanR_nil : cleanR [] = true := rfl
@[simp] theorem cleanR_cons (r : List T) (l : List (List T)) : cleanR (r :: l) = (r.all T.clean && cleanR l) := rfl
@[simp] theorem cleanR_append (a b : List (List T)) : cleanR (a ++ b) = (cleanR a && cleanR b) := by simp [cleanR]
@[simp] theorem take_map_self {β γ : Type} (g : β → γ) (l : List β) : (l.map g).take l.length = l.map g := List.take_of_length_le (by simp)
theorem app1_get {β : Type} {A : List β} {i : Nat} (h : A.length = i) (r : β) : (A ++ [r])[i]? = some r := by rw [List.getElem?_append_right (by omega), h]; simp
theorem app1_set {β : Type} {A : List β} {i : Nat} (h : A.length = i) (r r' : β) : (A ++ [r]).set i r' = A ++ [r'] := by rw [List.set_append_right _ _ (by omega), h]; simp
theorem app1_take {β : Type} {A : List β} {i : Nat} (h : A.length = i) (r : β) : (A ++ [r]).take (i + 1) = A ++ [r] := List.take_of_length_le (by simp; omega)
/-- A state told with less: one block is left. -/
theorem Wk.to1 {s : St} {tm : List (Nat × T)} {b sz nx fb : Nat} {rows : List (List T)} (hfb : fb = s.fb) (hnx : s.fb ≤ nx) (htm : ∀ p ∈ tm, p.2 = tget s.tm p.1 ∧ ∀ x ∈ p.2.names, x < nx) (hb : hget s.hp b = some (.arr sz rows)) (hcl : cleanR rows = true) (hbn : b < nx) :
    Wk s ⟨tm, [(b, .arr sz rows)], nx, fb⟩ := by
  refine Wk.to hfb hnx htm ?_ (by simp)
  intro p hp
  simp only [List.mem_singleton] at hp
  subst hp
  refine ⟨hb, hbn, ?_⟩
  intro x hx
  rw [Blk.names, namesr_clean hcl] at hx
  simp at hx
/-- Rows that are filled one by one. -/
theorem fill_row (g : α → List T) (l : List α) {z : List T} {i : Nat} (h : i < l.length) : ((l.map g).take i ++ List.replicate (l.length - i) z)[i]? = some z := by
  have hlen : ((l.map g).take i).length = i := by simp; omega
  rw [List.getElem?_append_right (by omega), hlen, show l.length - i = l.length - (i + 1) + 1 by omega, List.replicate_succ]; simp
theorem fill_set (g : α → List T) (l : List α) {z : List T} {i : Nat} (h : i < l.length) (r : List T) : ((l.map g).take i ++ List.replicate (l.length - i) z).set i r = (l.map g).take i ++ r :: List.replicate (l.length - (i + 1)) z := by
  have hlen : ((l.map g).take i).length = i := by simp; omega
  rw [List.set_append_right _ _ (by omega), hlen, show l.length - i = l.length - (i + 1) + 1 by omega, List.replicate_succ]; simp
theorem fill_new (g : α → List T) {l : List α} {i : Nat} {v : α} (hx : l[i]? = some v) : (l.map g).take (i + 1) = (l.map g).take i ++ [g v] := by
  rw [List.take_add_one, List.getElem?_map, hx]; simp
theorem fill_get (g : α → List T) {l : List α} {r z : List T} {i : Nat} (h : i < l.length) : ((l.map g).take i ++ r :: List.replicate (l.length - (i + 1)) z)[i]? = some r := by
  have hlen : ((l.map g).take i).length = i := by simp; omega
  rw [List.getElem?_append_right (by omega), hlen]; simp
theorem fill_set2 (g : α → List T) {l : List α} {r r' z : List T} {i : Nat} (h : i < l.length) : ((l.map g).take i ++ r :: List.replicate (l.length - (i + 1)) z).set i r' = (l.map g).take i ++ r' :: List.replicate (l.length - (i + 1)) z := by
  have hlen : ((l.map g).take i).length = i := by simp; omega
  rw [List.set_append_right _ _ (by omega), hlen]; simp
theorem fill_clean (S : Sh α) {l : List α} {z : List T} (hz : z.all T.clean = true) (i n : Nat) : cleanR ((l.map S.O).take i ++ List.replicate n z) = true := by
  have h3 := S.crO (l.take i)
  rw [List.map_take] at h3
  simp only [cleanR] at h3 ⊢
  simp only [List.all_append, h3, List.all_replicate, hz, Bool.true_and]
  simp
theorem toS_gen {bytes : Nat} {zs : List T} (hz : zs.length = S.sz) (hzc : zs.all T.clean = true) (hb : bytes ≤ 1024) (l : List α) (hl : l.length ≤ 2 ^ 20) (h : ∀ v ∈ l, Rv P f [.agg (S.I v)] (.agg (S.O v))) :
    W P M 23 (toSpc f S.sz bytes zs) (enter [.imm (l.map S.I)]) (fin P [.tmp 2] [.imm (l.map S.I)] (.own S.sz (l.map S.O)) [.dead]) := by
  have hb1 : (l.length : Int) * bytes ≤ 35184372088832 := by
    have : l.length * bytes ≤ 2 ^ 20 * 1024 := Nat.mul_le_mul hl hb
    have h2 : ((l.length * bytes : Nat) : Int) ≤ ((2 ^ 20 * 1024 : Nat) : Int) := Int.ofNat_le.2 this
    simp only [Int.natCast_mul] at h2
    omega
  have hb2 : (l.length : Int) ≤ 35184372088832 := by omega
  simp [toSpc, hb1, hb2]
  refine W_for (fun i => ⟨[(4, .i .i64 i), (3, .ref 0 0 l.length), (0, .imm (l.map S.I))], [(0, .arr S.sz ((l.map S.O).take i ++ List.replicate (l.length - i) zs))], 1, 0⟩) l.length (fun i => True) (Wk.less rfl (by simp) (by simp) (by simp)) trivial ?_
  intro i hi _
  rcases Nat.lt_or_ge i l.length with h2 | h2
  · obtain ⟨v, hx⟩ : ∃ v, l[i]? = some v := ⟨_, List.getElem?_eq_getElem h2⟩
    have hw2 : IntKind.i64.wrap ((i : Int) + 1) = (i : Int) + 1 := wrap1 (by omega)
    simp [-getElem?_pos, hx, hw2, h2]
    refine callK_val (by simp) (h v (List.mem_of_getElem? hx)) (by simp [T.noImm]) ?_
    have hrep : List.replicate (l.length - i) zs = zs :: List.replicate (l.length - (i + 1)) zs := by
      rw [show l.length - i = l.length - (i + 1) + 1 by omega, List.replicate_succ]
    have hlen : ((l.map S.O).take i).length = i := by simp; omega
    have hrow : ((l.map S.O).take i ++ List.replicate (l.length - i) zs)[i]? = some zs := by
      rw [List.getElem?_append_right (by omega), hlen, hrep]; simp
    have hset : ∀ r, ((l.map S.O).take i ++ List.replicate (l.length - i) zs).set i r = (l.map S.O).take i ++ r :: List.replicate (l.length - (i + 1)) zs := by
      intro r
      rw [List.set_append_right _ _ (by omega), hlen, hrep]; simp
    have hnew : (l.map S.O).take (i + 1) = (l.map S.O).take i ++ [S.O v] := by
      rw [List.take_add_one, List.getElem?_map, hx]; simp
    have hcell := ow_cell (n := 1) (S.ow v)
    have hml := mats_len (S.O v) 1
    have hnm := mats_names (n := 1) (S.plO v)
    have hn0 : 0 ∉ (mats (S.O v) 1).2.map (·.1) := fun h => by have := hnm.1 0 h; omega
    have hg0 : ∀ k, hget (hap [(0, k)] (news (mats (S.O v) 1).2)) 0 = some k := fun k => by rw [hget_news_not hn0]; rfl
    have hg1 : ∀ k, ∀ p ∈ (mats (S.O v) 1).2, hget (hap [(0, k)] (news (mats (S.O v) 1).2)) p.1 = some p.2 := fun k => hget_news_mem hnm.2
    simp only [news] at hg0 hg1
    simp [-getElem?_pos, hx, hw2, h2, hg0, hml, hrow, hset, hcell, hz]
    have hzd : List.drop S.sz zs = [] := List.drop_of_length_le (by omega)
    have hl2 : ((l.map S.O).take i ++ (mats (S.O v) 1).1 :: List.replicate (l.length - (i + 1)) zs)[i]? = some (mats (S.O v) 1).1 := by
      rw [List.getElem?_append_right (by omega), hlen]; simp
    have hset2 : ((l.map S.O).take i ++ (mats (S.O v) 1).1 :: List.replicate (l.length - (i + 1)) zs).set i (S.O v) = (l.map S.O).take i ++ S.O v :: List.replicate (l.length - (i + 1)) zs := by
      rw [List.set_append_right _ _ (by omega), hlen]; simp
    have hcl : cleanR ((l.map S.O).take i ++ S.O v :: List.replicate (l.length - (i + 1)) zs) = true := by
      have h3 := S.crO (l.take i)
      rw [List.map_take] at h3
      simp only [cleanR] at h3 ⊢
      simp only [List.all_append, h3, List.all_cons, S.cO, List.all_replicate, hzc, Bool.true_and, Bool.and_true]
      simp
    rw [hzd, List.append_nil]
    refine Wk.trans (Wk.joinR (b := 0) (n := 1) (r := i) (cs := S.O v) (hget_hset_same _ _ _) hl2 (S.plO v) (fun p hp => ?_) (by omega)) ?_
    · have hpn := (hnm.1 p.1 (List.mem_map.2 ⟨p, hp, rfl⟩)).1
      rw [hget_hset_ne _ _ (by omega)]
      exact hg1 _ p hp
    · rw [hset2]
      refine Wk.to rfl (by simp) (by simp) ?_ (by simp)
      intro p hp
      simp only [List.mem_singleton] at hp
      subst hp
      refine ⟨?_, by simp, ?_⟩
      · rw [hget_hset_same, hnew]; simp
      · intro x hx
        rw [Blk.names, namesr_clean (by rw [hnew]; simpa using hcl)] at hx
        simp at hx
  · have h4 : ¬ i < l.length := by omega
    have h5 : l.length - i = 0 := by omega
    simp [h4]
    refine fin_ret (ts := [0]) rfl ?_ rfl (by simp)
    have e : (l.map S.O).take i = l.map S.O := List.take_of_length_le (by simp; omega)
    have e2 : (l.map S.O).take l.length = l.map S.O := List.take_of_length_le (by simp)
    simp [e, e2, h5]
end
end Go.Proofs.Ytehdfbhfbidadaa.V
