/- The machine of trees: how it is run in a proof. -/
import Derived.Test.YtcchmhmbjhgfdaaVt
namespace Go.Proofs.Ytcchmhmbjhgfdaa.V
open Go
set_option linter.unusedVariables false
set_option linter.unusedSimpArgs false
section
variable {P : Program} {M : List (Nat × CM)} {n : Nat} {s s' : St} {Q : Exit → St → Prop}
@[simp] theorem W_skip : W P M n .skip s Q = Q .normal s := id rfl
@[simp] theorem W_reg {ops : List PO} : W P M n (.reg ops false) s Q = wops P ops s (Q .normal) := id rfl
@[simp] theorem W_draw {ops : List PO} : W P M n (.reg ops true) s Q = wdraw P ops s (Q .normal) := id rfl
@[simp] theorem W_seq {a b : PC} : W P M n (.seq a b) s Q = W P M n a s (thn (fun s' => W P M n b s' Q) Q) := id rfl
theorem W_cond {x : X} {a b : PC} : W P M n (.cond x a b) s Q = match x.ev s with
    | .b t => if t = true then W P M n a s Q else W P M n b s Q
    | _ => False := rfl
@[simp] theorem W_block {id : Nat} {b : PC} : W P M n (.block id b) s Q = W P M n b s (inb id Q) := _root_.id rfl
@[simp] theorem W_exit {id : Nat} : W P M n (.exit id) s Q = Q (.exit id) s := _root_.id rfl
@[simp] theorem W_ret : W P M n .ret s Q = Q .ret s := id rfl
@[simp] theorem thn_normal {k : St → Prop} : thn k Q .normal s = k s := id rfl
@[simp] theorem thn_exit {k : St → Prop} {i : Nat} : thn k Q (.exit i) s = Q (.exit i) s := id rfl
@[simp] theorem thn_ret {k : St → Prop} : thn k Q .ret s = Q .ret s := id rfl
@[simp] theorem inb_normal {i : Nat} : inb i Q .normal s = Q .normal s := id rfl
@[simp] theorem inb_ret {i : Nat} : inb i Q .ret s = Q .ret s := id rfl
@[simp] theorem inb_exit {i j : Nat} : inb i Q (.exit j) s = if j = i then Q .normal s else Q (.exit j) s := id rfl
theorem step_mono {i : Nat} {pi : PI} {K K' : T → Δ → List Nat → Prop} (h : stepK P s i pi K) (hk : ∀ v δ rd, K v δ rd → K' v δ rd) : stepK P s i pi K' := by
  obtain ⟨v, δ, rd, h1, h2⟩ := step_loc h
  exact h2 s (fun _ _ => rfl) (fun _ _ => rfl) K' (hk _ _ _ h1)
theorem wop_mono {po : PO} {k k' : St → Prop} (h : wop P s po k) (hk : ∀ s, k s → k' s) : wop P s po k' := by
  simp only [wop] at h ⊢
  split at h
  · exact step_mono h fun v δ rd h => hk _ h
  · split at h
    · rename_i hx
      split at h
      · rename_i hc; rw [if_pos hc]; exact step_mono h fun v δ rd h => hk _ h
      · rename_i hc; rw [if_neg hc]; exact hk _ h
    · exact hk _ h
    · exact h.elim
theorem wops_mono : ∀ {l : List PO} {s : St} {k k' : St → Prop}, wops P l s k → (∀ s, k s → k' s) → wops P l s k'
  | [], s, k, k', h, hk => hk _ h
  | po :: l, s, k, k', h, hk => wop_mono h fun s h => wops_mono h hk
theorem wdl_mono {ah : List (List Nat)} {base : Nat} : ∀ {l : List PO} {j : Nat} {s : St} {log : List (Nat × List Nat × List Nat)} {k k' : St → Prop}, wdl P ah base l j s log k → (∀ s, k s → k' s) → wdl P ah base l j s log k'
  | [], j, s, log, k, k', h, hk => hk _ h
  | po :: l, j, s, log, k, k', h, hk => by
    simp only [wdl] at h ⊢
    split at h
    · exact step_mono h fun v δ rd h => ⟨h.1, h.2.1, wdl_mono h.2.2 hk⟩
    · exact wdl_mono h hk
    · exact h.elim
theorem thn_mono {k k' : St → Prop} {Q Q' : Exit → St → Prop} (hk : ∀ s, k s → k' s) (hq : ∀ e s, Q e s → Q' e s) : ∀ e s, thn k Q e s → thn k' Q' e s
  | .normal, s, h => hk s h
  | .exit _, s, h => hq _ s h
  | .goto _, s, h => hq _ s h
  | .ret, s, h => hq _ s h
  | .panic _, s, h => hq _ s h
  | .outgrown, s, h => hq _ s h
theorem inb_mono {id : Nat} {Q Q' : Exit → St → Prop} (hq : ∀ e s, Q e s → Q' e s) : ∀ e s, inb id Q e s → inb id Q' e s
  | .normal, s, h => hq _ s h
  | .exit i, s, h => by simp only [inb] at h ⊢; split at h <;> rename_i hc <;> simp only [hc, if_true, if_false] <;> exact hq _ s h
  | .goto _, s, h => hq _ s h
  | .ret, s, h => hq _ s h
  | .panic _, s, h => hq _ s h
  | .outgrown, s, h => hq _ s h
theorem W_mono : ∀ {pc : PC} {s : St} {Q Q' : Exit → St → Prop}, W P M n pc s Q → (∀ e s, Q e s → Q' e s) → W P M n pc s Q'
  | .skip, s, Q, Q', h, hq => hq _ _ h
  | .reg ops false, s, Q, Q', h, hq => wops_mono h fun s h => hq _ s h
  | .reg ops true, s, Q, Q', h, hq => wdl_mono (k := Q .normal) h fun s h => hq _ s h
  | .seq a b, s, Q, Q', h, hq => W_mono (pc := a) h (thn_mono (fun s h => W_mono h hq) hq)
  | .cond x a b, s, Q, Q', h, hq => by
    simp only [W] at h ⊢
    split at h
    · split at h
      · rename_i hc; rw [if_pos hc]; exact W_mono h hq
      · rename_i hc; rw [if_neg hc]; exact W_mono h hq
    · exact h.elim
  | .block id b, s, Q, Q', h, hq => W_mono (pc := b) h (inb_mono hq)
  | .loop b, s, Q, Q', h, hq => by
    simp only [W] at h ⊢
    intro E c a w h1 h2 h3 bf k cs
    obtain ⟨e, a', w', ⟨s', h4, h5⟩, h6⟩ := h E c a w h1 h2 h3 bf k cs
    exact ⟨e, a', w', ⟨s', hq _ _ h4, h5⟩, h6⟩
  | .exit id, s, Q, Q', h, hq => hq _ _ h
  | .ret, s, Q, Q', h, hq => hq _ _ h
/-- A loop that keeps an invariant. -/
theorem W_while0 {b : PC} (I : Nat → St → Prop) {m : Nat} (h0 : I m s) (step : ∀ m s, I m s → W P M n b s (thn (fun s' => ∃ s2 m', Wk s' s2 ∧ m' < m ∧ I m' s2) Q)) : W P M n (.loop b) s Q := by
  induction m using Nat.strongRecOn generalizing s with
  | _ m ih =>
    refine W_loop ?_
    have h1 := step m s h0
    exact W_mono h1 (thn_mono (fun s' ⟨s2, m', h2, h3, h4⟩ => ⟨s2, h2, ih m' h3 h4⟩) (fun e s h => h))
/-- A loop over numbers from 0 on. -/
theorem W_for0 {b : PC} (st : Nat → St) (len : Nat) (inv : Nat → Prop) (h0 : Wk s (st 0)) (hi : inv 0) (step : ∀ i, i ≤ len → inv i → W P M n b (st i) (thn (fun s' => i < len ∧ inv (i + 1) ∧ Wk s' (st (i + 1))) Q)) : W P M n (.loop b) s Q := by
  refine W_wk0 h0 (W_while0 (m := len) (fun m s => ∃ i, i + m = len ∧ inv i ∧ s = st i) ⟨0, by omega, hi, rfl⟩ ?_)
  rintro m s ⟨i, h1, h2, rfl⟩
  refine W_mono (step i (by omega) h2) (thn_mono ?_ (fun _ _ h => h))
  rintro s' ⟨h3, h4, h5⟩
  exact ⟨_, m - 1, h5, by omega, i + 1, by omega, h4, rfl⟩
theorem bodyOf {f : Func} {pc : PC} (h : (f.body).bind (comp P M f.ntmps) = some pc) : ∃ c, f.body = some c ∧ comp P M f.ntmps c = some pc := by
  cases hb : f.body with
  | none => simp [hb] at h
  | some c => rw [hb] at h; exact ⟨c, rfl, h⟩
/-- A function's contract, from its code. -/
theorem Ret.of {f : Nat} {fn : Func} {pc : PC} {args : List T} {r : T} {outs : List T} {rs : List ResultVar} (hf : P.funcs[f]? = some fn) (hc : (fn.body).bind (comp P M fn.ntmps) = some pc) (hr : fn.results = rs.toArray) (hn : fn.ntmps = n) (ha : args.length ≤ n)
    (h : W P M n pc (enter args) (fin P rs args r outs)) : Ret P f args r outs := by
  obtain ⟨c, hb, hc⟩ := bodyOf hc
  subst hn
  refine Ret.intro hf hb hc ha ?_
  rw [hr]
  simpa using h
theorem fin_ret {rs : List ResultVar} {args : List T} {r : T} {outs : List T} {xs : List T} {ts : List Nat} (h1 : resK P s rs = some xs) (h2 : rf s (res1 xs) r ts) (h3 : taken s args (mats args 0).1 = some outs) (h4 : (ts ++ takenN args (mats args 0).1).Nodup) : fin P rs args r outs .ret s :=
  ⟨.inr rfl, s, Wk.refl _, xs, ts, h1, h2, h3, h4⟩
theorem fin_ret0 {rs : List ResultVar} {args : List T} {r : T} {outs : List T} {xs : List T} (h1 : resK P s rs = some xs) (h2 : rf s (res1 xs) r []) (h3 : taken s args (mats args 0).1 = some outs) (h4 : (takenN args (mats args 0).1).Nodup) : fin P rs args r outs .ret s :=
  fin_ret h1 h2 h3 (by simpa using h4)
theorem fin_normal {rs : List ResultVar} {args : List T} {r : T} {outs : List T} {xs : List T} {ts : List Nat} (h1 : resK P s rs = some xs) (h2 : rf s (res1 xs) r ts) (h3 : taken s args (mats args 0).1 = some outs) (h4 : (ts ++ takenN args (mats args 0).1).Nodup) : fin P rs args r outs .normal s :=
  ⟨.inl rfl, s, Wk.refl _, xs, ts, h1, h2, h3, h4⟩
/-- A contract of a call that changes none of its arguments. -/
def Rv (P : Program) (f : Nat) (xs : List T) (r : T) : Prop := Ret P f xs r (xs.map fun _ => .dead)
theorem handed_len : ∀ {args xs : List T} {mu : List Nat} {j : Nat}, handed s mu j args = some xs → xs.length = args.length
  | [], xs, mu, j, h => by simp only [handed, Option.some.injEq] at h; subst h; rfl
  | a :: as, xs, mu, j, h => by
    simp only [handed] at h
    split at h
    · rename_i x ys h1 h2
      simp only [Option.some.injEq] at h
      subst h
      simp [handed_len h2]
    · exact absurd h (by simp)
theorem back_nil : ∀ {args xs outs : List T} {j : Nat}, xs.length = args.length → outs.length = args.length → back [] j args xs outs = some []
  | [], [], [], j, h1, h2 => rfl
  | a :: as, x :: xs, o :: os, j, h1, h2 => by
    simp only [back, back_nil (args := as) (xs := xs) (outs := os) (j := j + 1) (by simpa using h1) (by simpa using h2)]
    rfl
  | [], _ :: _, _, j, h1, h2 => by simp at h1
  | _ :: _, [], _, j, h1, h2 => by simp at h1
  | [], [], _ :: _, j, h1, h2 => by simp at h2
  | _ :: _, _ :: _, [], j, h1, h2 => by simp at h2
theorem named_nil : ∀ {args : List T} {j : Nat}, named [] true j args = []
  | [], j => rfl
  | a :: as, j => by simp [named, named_nil (args := as)]
theorem noIms_dead : ∀ {α : Type} (l : List α), noIms (l.map fun _ => T.dead) = true
  | _, [] => rfl
  | _, a :: l => by simp [noIms, T.noImm, noIms_dead l]
/-- A call by value. -/
theorem callK_val {i f : Nat} {args xs : List T} {r : T} {K : T → Δ → List Nat → Prop} (hx : handed s [] 0 args = some xs) (hr : Rv P f xs r) (hn : r.noImm = true) (hk : K (mat r i).1 (news (mat r i).2) (named [] false 0 args)) : callK P s i [] .own f args K := by
  unfold callK
  rw [hx]
  refine ⟨by rw [named_nil]; simp, by rw [named_nil]; simp, r, _, hr, ?_⟩
  rw [back_nil (handed_len hx) (by simp [handed_len hx])]
  exact ⟨hn, noIms_dead xs, by simpa [named_nil, news] using hk⟩
/-- A call whose result is shared for good. -/
theorem callK_imm {i f : Nat} {args xs : List T} {r : T} {K : T → Δ → List Nat → Prop} (hx : handed s [] 0 args = some xs) (hr : Rv P f xs r) (hk : K r.toI ((named [] false 0 args).map fun t => (t, none)) (named [] false 0 args)) : callK P s i [] .imm f args K := by
  unfold callK
  rw [hx]
  refine ⟨by rw [named_nil]; simp, by rw [named_nil]; simp, r, _, hr, ?_⟩
  rw [back_nil (handed_len hx) (by simp [handed_len hx])]
  simpa [named_nil, news] using hk
/-- A call that is handed blocks. -/
theorem callK_mut {i f : Nat} {mu : List Nat} {args xs : List T} {r : T} {outs : List T} {bk : List (Nat × Blk)} {K : T → Δ → List Nat → Prop} (hx : handed s mu 0 args = some xs) (hr : Ret P f xs r outs) (hb : back mu 0 args xs outs = some bk) (h1 : (named mu true 0 args).Nodup) (h2 : ∀ t ∈ named mu false 0 args, t ∉ named mu true 0 args)
    (hn : r.noImm = true) (hns : noIms outs = true) (hk : K (mat r i).1 (news bk ++ news (mat r i).2) (named mu true 0 args ++ named mu false 0 args)) : callK P s i mu .own f args K := by
  unfold callK
  rw [hx]
  refine ⟨h1, h2, r, outs, hr, ?_⟩
  rw [hb]
  exact ⟨hn, hns, hk⟩
theorem Rv.of {f : Nat} {fn : Func} {pc : PC} {args : List T} {r : T} {rs : List ResultVar} (hf : P.funcs[f]? = some fn) (hc : (fn.body).bind (comp P M fn.ntmps) = some pc) (hr : fn.results = rs.toArray) (hn : fn.ntmps = n) (ha : args.length ≤ n)
    (h : W P M n pc (enter args) (fin P rs args r (args.map fun _ => .dead))) : Rv P f args r := Ret.of hf hc hr hn ha h
theorem wrap64 {x : Int} (h1 : -9223372036854775808 ≤ x) (h2 : x < 9223372036854775808) : IntKind.i64.wrap x = x := by
  unfold IntKind.wrap
  simp [IntKind.bits, IntKind.signed]
  omega
/-! ### where simp looks -/
@[congr] theorem cg_W {pc : PC} (h : s = s') : W P M n pc s Q = W P M n pc s' Q := by rw [h]
@[congr] theorem cg_wops {l : List PO} {k : St → Prop} (h : s = s') : wops P l s k = wops P l s' k := by rw [h]
@[congr] theorem cg_wop {po : PO} {k : St → Prop} (h : s = s') : wop P s po k = wop P s' po k := by rw [h]
@[congr] theorem cg_stepK {i i' : Nat} {pi : PI} {K : T → Δ → List Nat → Prop} (h : s = s') (hi : i = i') : stepK P s i pi K = stepK P s' i' pi K := by rw [h, hi]
@[congr] theorem cg_callK {i i' : Nat} {mu : List Nat} {q : RK} {f : Nat} {as as' : List T} {K : T → Δ → List Nat → Prop} (h : s = s') (hi : i = i') (ha : as = as') : callK P s i mu q f as K = callK P s' i' mu q f as' K := by rw [h, hi, ha]
@[congr] theorem cg_thn {k : St → Prop} {e e' : Exit} (he : e = e') (h : s = s') : thn k Q e s = thn k Q e' s' := by rw [he, h]
@[congr] theorem cg_inb {i : Nat} {e e' : Exit} (he : e = e') (h : s = s') : inb i Q e s = inb i Q e' s' := by rw [he, h]
@[congr] theorem cg_wdraw {l : List PO} {k : St → Prop} (h : s = s') : wdraw P l s k = wdraw P l s' k := by rw [h]
@[congr] theorem cg_wdl {ah : List (List Nat)} {base base' j j' : Nat} {l : List PO} {log log' : List (Nat × List Nat × List Nat)} {k : St → Prop} (hb : base = base') (hj : j = j') (h : s = s') (hl : log = log') : wdl P ah base l j s log k = wdl P ah base' l j' s' log' k := by rw [hb, hj, h, hl]
@[congr] theorem cg_binK {op : BinOp} {x y x' y' : T} {K : T → Prop} (hx : x = x') (hy : y = y') : binK op x y K = binK op x' y' K := by rw [hx, hy]
@[congr] theorem cg_beqK {op : BinOp} {x y x' y' : T} {K : T → Prop} (hx : x = x') (hy : y = y') : beqK op x y K = beqK op x' y' K := by rw [hx, hy]
@[congr] theorem cg_peqK {op : BinOp} {x y x' y' : T} {K : T → Prop} (hx : x = x') (hy : y = y') : peqK op x y K = peqK op x' y' K := by rw [hx, hy]
@[congr] theorem cg_bnd {m m' : Nat} {lo hi lo' hi' : Option T} {K : Nat → Nat → Prop} (h : m = m') (hl : lo = lo') (hh : hi = hi') : bnd m lo hi K = bnd m' lo' hi' K := by rw [h, hl, hh]
@[congr] theorem cg_fin {rs : List ResultVar} {args : List T} {r : T} {outs : List T} {e : Exit} (h : s = s') : fin P rs args r outs e s = fin P rs args r outs e s' := by rw [h]
end
end Go.Proofs.Ytcchmhmbjhgfdaa.V
