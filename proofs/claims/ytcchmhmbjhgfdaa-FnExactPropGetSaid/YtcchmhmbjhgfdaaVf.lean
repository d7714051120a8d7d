/- Each step of the machine of trees is a step of the model: what only reckons. -/
import Derived.Test.YtcchmhmbjhgfdaaVe
import Derived.MapKept
namespace Go.Proofs.Ytcchmhmbjhgfdaa.V
open Go
set_option linter.unusedVariables false
set_option linter.unusedSimpArgs false

section
variable {P : Program} {E : Env} {A A' : Nat → Prop} {ρ ρ' : Nat → Option RB} {O O' : Nat → Prop} {F F' : Nat → List Nat} {s : St} {a : Act} {w w' : World} {o : Oper} {n : Nat}
  {K : T → Δ → List Nat → Prop} {next : Act → World → Prop} {Q : Exit → Act → World → Prop}
/-- What follows a step. -/
def NX (E : Env) (A : Nat → Prop) (s : St) (a : Act) (n : Nat) (d : Option Nat) (K : T → Δ → List Nat → Prop) (next : Act → World → Prop) : Prop :=
  ∀ v δ rd u w', K v δ rd → Rel E (Aext A n δ.length) (s.app d v δ) (a.put d u) w' → next (a.put d u) w'
theorem wp_value {u : Value} (hr : (execOp a.eval o).run P w = .ok (.value u) w') (h : next (a.put o.dst u) w') : o.wp P a w next Q := by
  unfold Oper.wp; rw [hr]; exact h
theorem wp_skip' (hr : (execOp a.eval o).run P w = .ok .skip w') (h : next (a.put o.dst undef) w') : o.wp P a w next Q := by
  unfold Oper.wp; rw [hr]; exact h
theorem R.monoA (h : R E A ρ O F s a w) (hA : ∀ t, A t → A' t) : R E A' ρ O F s a w :=
  h.world (M := []) hA (fun _ h => h) (fun _ _ => rfl) h.ρ0 (fun _ _ => rfl) (fun _ _ _ _ _ => rfl) h.Olt (fun b hb => .inl hb) (Keep.refl _ _) (by simp)
theorem pureOp (hR : R E A ρ O F s a w) (hd : ∀ k, o.dst = some k → k < E.n) {u : Value} {v : T} (hrun : (execOp a.eval o).run P w = .ok (.value u) w) (hv : CV w O ρ A v u)
    (hK : ∃ rd, K v [] rd) (hn : NX E A s a n o.dst K next) : o.wp P a w next Q := by
  obtain ⟨rd, hK⟩ := hK
  refine wp_value hrun (hn v [] rd u w hK ⟨ρ, O, F, ?_⟩)
  exact (hR.put hd hv).monoA (fun t h => .inl h)

theorem cst_ok {v : Value} {t : T} (h : cst v = some t) : CI w O t v := by
  unfold cst at h
  split at h <;> first
    | (simp only [Option.some.injEq] at h; subst h; simp [CI])
    | exact absurd h (by simp)
theorem CV_of_CI {t : T} {v : Value} (h : CI w O t v) : (∀ u, (t = .agg u ∨ t = .tup u) → False) → (∀ f u, t = .fn f u → False) → (∀ f u, t = .ifc f u → False) → CV w O ρ A t v := by
  intro h1 h2 h3
  cases t <;> simp only [CV] <;> first
    | exact h
    | exact (h1 _ (.inl rfl)).elim
    | exact (h1 _ (.inr rfl)).elim
    | exact (h2 _ _ rfl).elim
    | exact (h3 _ _ rfl).elim
    | (simp only [CI] at h)
mutual
theorem CV.ofCI : ∀ {t : T} {v : Value}, CI w O t v → CV w O ρ A t v
  | .ref _ _ _, v, h => by simp only [CI] at h
  | .ptr _ _ _, v, h => by simp only [CI] at h
  | .mp _, v, h => by simp only [CI] at h
  | .agg cs, v, h => by
    simp only [CI] at h; simp only [CV]
    obtain ⟨us, e, h⟩ := h
    exact ⟨us, e, CVs.ofCI h⟩
  | .tup cs, v, h => by
    simp only [CI] at h; simp only [CV]
    obtain ⟨us, e, h⟩ := h
    exact ⟨us, e, CVs.ofCI h⟩
  | .fn f cs, v, h => by
    simp only [CI] at h; simp only [CV]
    obtain ⟨us, e, h⟩ := h
    exact ⟨us, e, CVs.ofCI h⟩
  | .ifc t x, v, h => by
    simp only [CI] at h; simp only [CV]
    obtain ⟨u, e, h⟩ := h
    exact ⟨u, e, CV.ofCI h⟩
  | .dead, v, h => by simp only [CV]; exact h
  | .un, v, h => by simp only [CV]; exact h
  | .b x, v, h => by simp only [CV]; exact h
  | .i k n, v, h => by simp only [CV]; exact h
  | .s l, v, h => by simp only [CV]; exact h
  | .nl, v, h => by simp only [CV]; exact h
  | .imm rows, v, h => by simp only [CV]; exact h
  | .own sz rows, v, h => by simp only [CV]; exact h
  | .bx cs, v, h => by simp only [CV]; exact h
  | .np, v, h => by simp only [CV]; exact h
  | .pim cs, v, h => by simp only [CV]; exact h
  | .nif, v, h => by simp only [CV]; exact h
  | .nfn, v, h => by simp only [CV]; exact h
  | .nmp, v, h => by simp only [CV]; exact h
theorem CVs.ofCI : ∀ {ts : List T} {vs : List Value}, CIs w O ts vs → CVs w O ρ A ts vs
  | [], vs, h => by simpa only [CVs, CIs] using h
  | t :: ts, vs, h => by
    simp only [CIs] at h; simp only [CVs]
    obtain ⟨v, r, e, h1, h2⟩ := h
    exact ⟨v, r, e, CV.ofCI h1, CVs.ofCI h2⟩
end
theorem ev_ok (h : R E A ρ O F s a w) {x : Operand} {y : X} (hx : opd x = some y) : CV w O ρ A (y.ev s) (a.eval x) := by
  cases x with
  | tmp j => simp only [opd, Option.some.injEq] at hx; subst hx; exact h.tm j
  | const v =>
    simp only [opd, Option.map_eq_some_iff] at hx
    obtain ⟨t, ht, rfl⟩ := hx
    exact CV.ofCI (cst_ok ht)
  | global g => simp [opd] at hx
  | func f =>
    simp only [opd, Option.some.injEq] at hx; subst hx
    simp only [X.ev, CV, Act.eval]
    exact ⟨[], rfl, by simp [CVs]⟩

/-- A string's bytes. -/
theorem str_toList (l : List UInt8) : (⟨l.toArray⟩ : ByteArray).toList = l := by rw [ByteArray.toList_eq]
theorem str_size (l : List UInt8) : (⟨l.toArray⟩ : ByteArray).size = l.length := by simp [ByteArray.size]

theorem s_mv (hR : R E A ρ O F s a w) (hd : ∀ k, o.dst = some k → k < E.n) {x : Operand} {y : X} (ho : o.op = .move x ∨ o.op = .assign x) (hx : opd x = some y)
    (hK : stepK P s n (.mv y) K) (hn : NX E A s a n o.dst K next) : o.wp P a w next Q := by
  refine pureOp hR hd (u := a.eval x) (v := y.ev s) ?_ (ev_ok hR hx) ⟨[], hK⟩ hn
  rcases ho with ho | ho <;> simp [execOp, ho]
theorem s_pick (hR : R E A ρ O F s a w) (hd : ∀ k, o.dst = some k → k < E.n) {c x y : Operand} {c' x' y' : X} (ho : o.op = .pick c x y) (hc : opd c = some c') (hx : opd x = some x') (hy : opd y = some y')
    (hK : stepK P s n (.pick c' x' y') K) (hn : NX E A s a n o.dst K next) : o.wp P a w next Q := by
  have hcv := ev_ok hR hc
  simp only [stepK] at hK
  split at hK
  · rename_i b hb
    rw [hb] at hcv
    simp only [CV, CI] at hcv
    cases b
    · simp only [Bool.false_eq_true, if_false] at hK
      exact pureOp hR hd (u := a.eval y) (v := y'.ev s) (by simp [execOp, ho, hcv, asBool]) (ev_ok hR hy) ⟨[], hK⟩ hn
    · simp only [if_true] at hK
      exact pureOp hR hd (u := a.eval x) (v := x'.ev s) (by simp [execOp, ho, hcv, asBool]) (ev_ok hR hx) ⟨[], hK⟩ hn
  · exact hK.elim
theorem s_un (hR : R E A ρ O F s a w) (hd : ∀ k, o.dst = some k → k < E.n) {p : UnOp} {ty : TypeId} {x : Operand} {x' : X} (ho : o.op = .unOp p ty x) (hx : opd x = some x')
    (hK : stepK P s n (.un p x') K) (hn : NX E A s a n o.dst K next) : o.wp P a w next Q := by
  have hv := ev_ok hR hx
  simp only [stepK] at hK
  split at hK
  · rename_i y hy
    rw [hy] at hv; simp only [CV, CI] at hv
    exact pureOp hR hd (u := .bool !y) (v := .b !y) (by simp [execOp, ho, hv, Op.unary]) (by simp [CV, CI]) ⟨[], hK⟩ hn
  · rename_i k m hy
    rw [hy] at hv; simp only [CV, CI] at hv
    exact pureOp hR hd (u := .int k (k.wrap (0 - m))) (v := .i k (k.wrap (0 - m))) (by simp [execOp, ho, hv, Op.unary, Op.intArith]) (by simp [CV, CI]) ⟨[], hK⟩ hn
  · exact hK.elim
theorem s_ext (hR : R E A ρ O F s a w) (hd : ∀ k, o.dst = some k → k < E.n) {i : Nat} {x : Operand} {x' : X} (ho : o.op = .extract x i) (hx : opd x = some x')
    (hK : stepK P s n (.ext i x') K) (hn : NX E A s a n o.dst K next) : o.wp P a w next Q := by
  have hv := ev_ok hR hx
  simp only [stepK] at hK
  split at hK
  · rename_i xs hy
    rw [hy] at hv; simp only [CV] at hv
    obtain ⟨us, e, hv⟩ := hv
    split at hK
    · rename_i v hi
      obtain ⟨l1, l2, rfl, rfl⟩ := split_at hi
      obtain ⟨v1, v2, rfl, h1, h2⟩ := CVs_append.1 hv
      simp only [CVs] at h2
      obtain ⟨u, r, rfl, h3, h4⟩ := h2
      have hl := h1.len
      refine pureOp hR hd (u := u) (v := v) ?_ h3 ⟨[], hK⟩ hn
      have : (v1 ++ u :: r)[l1.length]? = some u := by rw [← hl]; simp
      simp [execOp, ho, e, Instr.extract, this]
    · exact hK.elim
  · exact hK.elim
theorem s_nilchk (hR : R E A ρ O F s a w) (hd : ∀ k, o.dst = some k → k < E.n) {x : Operand} {x' : X} (ho : o.op = .nilCheck x) (hx : opd x = some x')
    (hK : stepK P s n (.nilchk x') K) (hn : NX E A s a n o.dst K next) : o.wp P a w next Q := by
  have hv := ev_ok hR hx
  simp only [stepK] at hK
  split at hK
  · rename_i t r q hy
    rw [hy] at hv
    have hv' := hv
    simp only [CV] at hv'
    obtain ⟨_, B, _, e⟩ := hv'
    exact pureOp hR hd (u := a.eval x) (v := .ptr t r q) (by simp [execOp, ho, e]) hv ⟨[], hK⟩ hn
  · rename_i cs hy
    rw [hy] at hv
    have hv' := hv
    simp only [CV, CI] at hv'
    obtain ⟨b, q, us, e, _⟩ := hv'
    exact pureOp hR hd (u := a.eval x) (v := .pim cs) (by simp [execOp, ho, e]) hv ⟨[], hK⟩ hn
  · exact hK.elim
theorem s_conv (hR : R E A ρ O F s a w) (hd : ∀ k, o.dst = some k → k < E.n) {t1 t2 : TypeId} {k k1 : IntKind} {x : Operand} {x' : X} (ho : o.op = .convert t1 t2 x) (h1 : P.underlying t1 = some (.int k1)) (h2 : P.underlying t2 = some (.int k)) (hx : opd x = some x')
    (hK : stepK P s n (.conv k x') K) (hn : NX E A s a n o.dst K next) : o.wp P a w next Q := by
  have hv := ev_ok hR hx
  simp only [stepK] at hK
  split at hK
  · rename_i k' m hy
    rw [hy] at hv; simp only [CV, CI] at hv
    exact pureOp hR hd (u := .int k (k.wrap m)) (v := .i k (k.wrap m)) (by simp [execOp, ho, hv, convert, run_underlying h1, run_underlying h2, Conv.intToInt]) (by simp [CV, CI]) ⟨[], hK⟩ hn
  · exact hK.elim
theorem s_convs (hR : R E A ρ O F s a w) (hd : ∀ k, o.dst = some k → k < E.n) {t1 t2 : TypeId} {x : Operand} {x' : X} (ho : o.op = .convert t1 t2 x) (h1 : P.underlying t1 = some .string) (h2 : P.underlying t2 = some .string) (hx : opd x = some x')
    (hK : stepK P s n (.strid x') K) (hn : NX E A s a n o.dst K next) : o.wp P a w next Q := by
  have hv := ev_ok hR hx
  simp only [stepK] at hK
  split at hK
  · rename_i l hy
    rw [hy] at hv; simp only [CV, CI] at hv
    exact pureOp hR hd (u := .string ⟨l.toArray⟩) (v := .s l) (by simp [execOp, ho, hv, convert, run_underlying h1, run_underlying h2]) (by simp [CV, CI]) ⟨[], hK⟩ hn
  · exact hK.elim
theorem s_ix (hR : R E A ρ O F s a w) (hd : ∀ k, o.dst = some k → k < E.n) {t : TypeId} {x i : Operand} {x' i' : X} (ho : o.op = .index t x i) (h1 : P.underlying t = some .string) (hx : opd x = some x') (hi : opd i = some i')
    (hK : stepK P s n (.ix x' i') K) (hn : NX E A s a n o.dst K next) : o.wp P a w next Q := by
  have hv := ev_ok hR hx
  have hw := ev_ok hR hi
  simp only [stepK] at hK
  split at hK
  · rename_i l k m hy hz
    rw [hy] at hv; rw [hz] at hw; simp only [CV, CI] at hv hw
    obtain ⟨h0, hK⟩ := hK
    split at hK
    · rename_i c hc
      refine pureOp hR hd (u := .int .u8 (c.toNat : Int)) (v := .i .u8 (c.toNat : Int)) ?_ (by simp [CV, CI]) ⟨[], hK⟩ hn
      have hg : (⟨l.toArray⟩ : ByteArray)[m.toNat]? = some c := by
        have : m.toNat < l.length := by
          rcases Nat.lt_or_ge m.toNat l.length with h | h
          · exact h
          · rw [List.getElem?_eq_none h] at hc; exact absurd hc (by simp)
        rw [List.getElem?_eq_getElem this] at hc
        rw [getElem?_pos (⟨l.toArray⟩ : ByteArray) m.toNat (by simpa [ByteArray.size] using this)]
        rw [← hc]; rfl
      simp [execOp, ho, hv, hw, Instr.index, asIntOf, run_underlying h1, h0, hg]
    · exact hK.elim
  · exact hK.elim
theorem s_mkfn (hR : R E A ρ O F s a w) (hd : ∀ k, o.dst = some k → k < E.n) {f : Nat} {caps : Array Operand} {ys : List X} (ho : o.op = .makeFunc (.func f) #[] caps) (hx : caps.toList.mapM opd = some ys)
    (hK : stepK P s n (.mkfn f ys) K) (hn : NX E A s a n o.dst K next) : o.wp P a w next Q := by
  simp only [stepK] at hK
  have key : ∀ (l : List Operand) (ys : List X), l.mapM opd = some ys → CVs w O ρ A (ys.map (·.ev s)) (l.map a.eval) := by
    intro l
    induction l with
    | nil => intro ys h; simp at h; subst h; simp [CVs]
    | cons x l ih =>
      intro ys h
      simp only [List.mapM_cons, Option.pure_def, Option.bind_eq_bind, Option.bind_eq_some_iff, Option.some.injEq] at h
      obtain ⟨y, hy, zs, hz, rfl⟩ := h
      simp only [List.map_cons, CVs]
      exact ⟨_, _, rfl, ev_ok hR hy, ih _ hz⟩
  refine pureOp hR hd (u := .func (.func f) #[] (caps.map a.eval)) (v := .fn f (ys.map (·.ev s))) (by simp [execOp, ho, Instr.makeFunc]) ?_ ⟨[], hK⟩ hn
  simp only [CV]
  exact ⟨caps.toList.map a.eval, by congr 1; apply Array.ext'; simp, key _ _ hx⟩

theorem s_len (hR : R E A ρ O F s a w) (hd : ∀ k, o.dst = some k → k < E.n) {c : Call} {e : TypeId} {x : Operand} {x' : X} (ho : o.op = .call c) (hc : c.callee = .builtin .len) (h0 : (c.argTypes[0]?).bind P.underlying = some (.slice e)) (ha : c.args.toList = [x]) (hx : opd x = some x')
    (hK : stepK P s n (.len x') K) (hn : NX E A s a n o.dst K next) : o.wp P a w next Q := by
  obtain ⟨callee, args, argTypes⟩ := c
  obtain ⟨al⟩ := args
  simp only at hc ha h0
  subst hc ha
  obtain ⟨t0, ht0, hu⟩ := Option.bind_eq_some_iff.1 h0
  have hv := ev_ok hR hx
  simp only [stepK] at hK
  have fin : ∀ (k : Nat) (b : Option Addr) (c : Nat), a.eval x = .slice b k c → K (.i .i64 (k : Int)) [] [] → o.wp P a w next Q := by
    intro k b c hr hK
    refine pureOp hR hd (u := goInt k) (v := .i .i64 k) ?_ (by simp [CV, CI, goInt]) ⟨[], hK⟩ hn
    simp [execOp, ho, resolve, invoke, builtin, Builtin.len_, ht0, run_underlying hu, hr]
  split at hK
  · rename_i rows hy
    rw [hy] at hv; simp only [CV, CI] at hv
    obtain ⟨b, c, e, _⟩ := hv
    exact fin _ _ _ e hK
  · rename_i t q m hy
    rw [hy] at hv; simp only [CV] at hv
    obtain ⟨_, ⟨_, _, hm, q, e⟩ | ⟨B, _, b', o', c, e, _⟩⟩ := hv
    · subst hm; exact fin _ _ _ e hK
    · exact fin _ _ _ e hK
  · rename_i hy
    rw [hy] at hv; simp only [CV, CI] at hv
    exact fin _ _ _ hv hK
  · exact hK.elim
theorem s_lens (hR : R E A ρ O F s a w) (hd : ∀ k, o.dst = some k → k < E.n) {c : Call} {x : Operand} {x' : X} (ho : o.op = .call c) (hc : c.callee = .builtin .len) (h0 : (c.argTypes[0]?).bind P.underlying = some .string) (ha : c.args.toList = [x]) (hx : opd x = some x')
    (hK : stepK P s n (.lens x') K) (hn : NX E A s a n o.dst K next) : o.wp P a w next Q := by
  obtain ⟨callee, args, argTypes⟩ := c
  obtain ⟨al⟩ := args
  simp only at hc ha h0
  subst hc ha
  obtain ⟨t0, ht0, hu⟩ := Option.bind_eq_some_iff.1 h0
  have hv := ev_ok hR hx
  simp only [stepK] at hK
  split at hK
  · rename_i l hy
    rw [hy] at hv; simp only [CV, CI] at hv
    refine pureOp hR hd (u := goInt l.length) (v := .i .i64 l.length) ?_ (by simp [CV, CI, goInt]) ⟨[], hK⟩ hn
    simp [execOp, ho, resolve, invoke, builtin, Builtin.len_, ht0, run_underlying hu, hv, str_size]
  · exact hK.elim
theorem eqGuard_plain (op : BinOp) (t : TypeId) (x y : Operand) (u v : Value) (h : (∀ c, u ≠ .agg c) ∧ u ≠ .nilIface) : (eqGuard op t x y u v).run P w = .ok () w := by
  obtain ⟨h1, h2⟩ := h
  unfold eqGuard
  cases u <;> first
    | exact absurd rfl h2
    | exact absurd rfl (h1 _)
    | (split <;> rfl)
theorem s_bin (hR : R E A ρ O F s a w) (hd : ∀ k, o.dst = some k → k < E.n) {p : BinOp} {t t' : TypeId} {x y : Operand} {x' y' : X} (ho : o.op = .binOp p t x y t') (hx : opd x = some x') (hy : opd y = some y')
    (hK : stepK P s n (.bin p x' y') K) (hn : NX E A s a n o.dst K next) : o.wp P a w next Q := by
  have hv := ev_ok hR hx
  have hw := ev_ok hR hy
  simp only [stepK] at hK
  have fin : ∀ (u : Value) (v : T), (eqGuard p t x y (a.eval x) (a.eval y)).run P w = .ok () w → (binOp p t (a.eval x) (a.eval y)).run P w = .ok u w → CV w O ρ A v u → K v [] [] → o.wp P a w next Q := by
    intro u v hg hr hv hK
    exact pureOp hR hd (u := u) (v := v) (by simp [execOp, ho, hg, hr]) hv ⟨[], hK⟩ hn
  unfold binK at hK
  split at hK
  · rename_i k p1 k' p2 h1 h2
    rw [h1] at hv; rw [h2] at hw; simp only [CV, CI] at hv hw
    obtain ⟨rfl, hK⟩ := hK
    have hg : (eqGuard p t x y (a.eval x) (a.eval y)).run P w = .ok () w := eqGuard_plain _ _ _ _ _ _ (by rw [hv]; simp)
    split at hK
    · exact fin _ _ hg (by simp [binOp, hv, hw, Op.intArith]; rfl) (by simp [CV, CI]) hK
    · exact fin _ _ hg (by simp [binOp, hv, hw, Op.intArith]; rfl) (by simp [CV, CI]) hK
    · exact fin _ _ hg (by simp [binOp, hv, hw, Op.intArith]; rfl) (by simp [CV, CI]) hK
    · exact fin _ _ hg (by simp [binOp, hv, hw, Op.intDiv, hK.1]; rfl) (by simp [CV, CI]) hK.2
    · exact fin _ _ hg (by simp [binOp, hv, hw, Op.intDiv, hK.1]; rfl) (by simp [CV, CI]) hK.2
    · exact fin _ _ hg (by simp [binOp, hv, hw, Op.intCmp]; rfl) (by simp [CV, CI]) hK
    · exact fin _ _ hg (by simp [binOp, hv, hw, Op.intCmp]; rfl) (by simp [CV, CI]) hK
    · exact fin _ _ hg (by simp [binOp, hv, hw, Op.intCmp]; rfl) (by simp [CV, CI]) hK
    · exact fin _ _ hg (by simp [binOp, hv, hw, Op.intCmp]; rfl) (by simp [CV, CI]) hK
    · exact fin _ _ hg (by simp [binOp, hv, hw, Op.intCmp]; rfl) (by simp [CV, CI]) hK
    · exact fin _ _ hg (by simp [binOp, hv, hw, Op.intCmp]; rfl) (by simp [CV, CI]) hK
    · exact hK.elim
  · rename_i l1 l2 h1 h2
    rw [h1] at hv; rw [h2] at hw; simp only [CV, CI] at hv hw
    have hg : (eqGuard p t x y (a.eval x) (a.eval y)).run P w = .ok () w := eqGuard_plain _ _ _ _ _ _ (by rw [hv]; simp)
    split at hK
    · refine fin (.string ⟨(l1 ++ l2).toArray⟩) _ hg ?_ (by simp [CV, CI]) hK.2
      have h64 : ¬ (((⟨l1.toArray⟩ : ByteArray).size + (⟨l2.toArray⟩ : ByteArray).size : Nat) : Int) > IntKind.i64.max := by
        have := hK.1
        simp only [str_size, IntKind.max, IntKind.signed, IntKind.bits]
        simp; omega
      simp only [binOp, hv, hw, Op.stringOp, h64, if_false, Sem.run_pure, Result.ok.injEq, and_true, Value.string.injEq]
      apply ByteArray.ext
      simp [ByteArray.data_append]
    · exact fin _ _ hg (by simp [binOp, hv, hw, Op.stringOp, str_toList]; rfl) (by simp [CV, CI]) hK
    · exact fin _ _ hg (by simp [binOp, hv, hw, Op.stringOp, str_toList]; rfl) (by simp [CV, CI]) hK
    · exact fin _ _ hg (by simp [binOp, hv, hw, Op.stringOp, str_toList]; rfl) (by simp [CV, CI]) hK
    · exact fin _ _ hg (by simp [binOp, hv, hw, Op.stringOp, str_toList]; rfl) (by simp [CV, CI]) hK
    · exact fin _ _ hg (by simp [binOp, hv, hw, Op.stringOp, str_toList]; rfl) (by simp [CV, CI]) hK
    · exact fin _ _ hg (by simp [binOp, hv, hw, Op.stringOp, str_toList]; rfl) (by simp [CV, CI]) hK
    · exact hK.elim
  · exact hK.elim
theorem equal_step (t : TypeId) (x y : Value) : ∃ d, Op.equal t x y = Op.equalIn (d + 1) t x y := ⟨9999, rfl⟩
theorem run_equal_bool {t : TypeId} (hu : P.underlying t = some .bool) (b c : Bool) : (Op.equal t (.bool b) (.bool c)).run P w = .ok (b == c) w := by
  obtain ⟨d, hd⟩ := equal_step t (.bool b) (.bool c)
  rw [hd, Op.equalIn]
  simp only [Sem.run_bind, run_underlying hu, Result.andThen_ok, Sem.run_pure]
theorem run_equal_nil {t e : TypeId} (hu : P.underlying t = some (.pointer e)) (p : Option Addr) : (Op.equal t (.pointer none) (.pointer p)).run P w = .ok p.isNone w := by
  obtain ⟨d, hd⟩ := equal_step t (.pointer none) (.pointer p)
  rw [hd, Op.equalIn]
  simp only [Sem.run_bind, run_underlying hu, Result.andThen_ok, Sem.run_pure]
theorem run_equal_nil' {t e : TypeId} (hu : P.underlying t = some (.pointer e)) (p : Addr) : (Op.equal t (.pointer (some p)) (.pointer none)).run P w = .ok false w := by
  obtain ⟨d, hd⟩ := equal_step t (.pointer (some p)) (.pointer none)
  rw [hd, Op.equalIn]
  simp only [Sem.run_bind, run_underlying hu, Result.andThen_ok, Sem.run_pure]
theorem s_beq (hR : R E A ρ O F s a w) (hd : ∀ k, o.dst = some k → k < E.n) {p : BinOp} {t t' : TypeId} {x y : Operand} {x' y' : X} (ho : o.op = .binOp p t x y t') (hu : P.underlying t = some .bool) (hx : opd x = some x') (hy : opd y = some y')
    (hK : stepK P s n (.beq p x' y') K) (hn : NX E A s a n o.dst K next) : o.wp P a w next Q := by
  have hv := ev_ok hR hx
  have hw := ev_ok hR hy
  simp only [stepK] at hK
  unfold beqK at hK
  split at hK
  · rename_i b c h1 h2
    rw [h1] at hv; rw [h2] at hw; simp only [CV, CI] at hv hw
    have hg : (eqGuard p t x y (a.eval x) (a.eval y)).run P w = .ok () w := eqGuard_plain _ _ _ _ _ _ (by rw [hv]; simp)
    split at hK
    · exact pureOp hR hd (u := .bool (b == c)) (v := .b (b == c)) (by rw [hv, hw] at hg; simp only [execOp, ho, hv, hw, Sem.run_bind, hg, Result.andThen_ok, binOp, run_equal_bool hu, Sem.run_pure, pure, Sem.run]) (by simp [CV, CI]) ⟨[], hK⟩ hn
    · exact pureOp hR hd (u := .bool (!(b == c))) (v := .b (!(b == c))) (by rw [hv, hw] at hg; simp only [execOp, ho, hv, hw, Sem.run_bind, hg, Result.andThen_ok, binOp, run_equal_bool hu, Sem.run_pure, pure, Sem.run]) (by simp [CV, CI]) ⟨[], hK⟩ hn
    · exact hK.elim
  · exact hK.elim
theorem nilness_ok {t : T} {v : Value} {p : Bool} (h : CV w O ρ A t v) (e : t.nilness = some p) : if p then v = .pointer none else ∃ q, v = .pointer (some q) := by
  unfold T.nilness at e
  split at e <;> simp only [Option.some.injEq, reduceCtorEq] at e
  · subst e; simpa [CV, CI] using h
  · subst e; simp only [CV] at h; obtain ⟨_, B, _, h⟩ := h; exact ⟨_, h⟩
  · subst e; simp only [CV, CI] at h; obtain ⟨b, q, us, h, _⟩ := h; exact ⟨_, h⟩
theorem s_peq (hR : R E A ρ O F s a w) (hd : ∀ k, o.dst = some k → k < E.n) {p : BinOp} {t t' e : TypeId} {x y : Operand} {x' y' : X} (ho : o.op = .binOp p t x y t') (hu : P.underlying t = some (.pointer e)) (hx : opd x = some x') (hy : opd y = some y')
    (hK : stepK P s n (.peq p x' y') K) (hn : NX E A s a n o.dst K next) : o.wp P a w next Q := by
  have hv := ev_ok hR hx
  have hw := ev_ok hR hy
  simp only [stepK] at hK
  unfold peqK at hK
  split at hK
  · rename_i b c h1 h2
    have g1 := nilness_ok hv h1
    have g2 := nilness_ok hw h2
    obtain ⟨hbc, hK⟩ := hK
    have hg : (eqGuard p t x y (a.eval x) (a.eval y)).run P w = .ok () w := by
      refine eqGuard_plain _ _ _ _ _ _ ?_
      cases b <;> simp only [Bool.false_eq_true, if_false, if_true] at g1
      · obtain ⟨q, g1⟩ := g1; rw [g1]; simp
      · rw [g1]; simp
    have key : (Op.equal t (a.eval x) (a.eval y)).run P w = .ok (b && c) w := by
      cases b <;> cases c <;> simp only [Bool.false_eq_true, if_false, if_true, or_self, or_true, true_or] at g1 g2 hbc
      · obtain ⟨q, g1⟩ := g1; rw [g1, g2, run_equal_nil' hu]; rfl
      · obtain ⟨q, g2⟩ := g2; rw [g1, g2, run_equal_nil hu]; rfl
      · rw [g1, g2, run_equal_nil hu]; rfl
    have key2 : ∀ p, (p = .eql → (binOp p t (a.eval x) (a.eval y)).run P w = .ok (.bool (b && c)) w) ∧ (p = .neq → (binOp p t (a.eval x) (a.eval y)).run P w = .ok (.bool (!(b && c))) w) := by
      intro p
      cases b <;> cases c <;> simp only [Bool.false_eq_true, if_false, if_true, or_self, or_true, true_or] at g1 g2 hbc
      · obtain ⟨q, g1⟩ := g1
        constructor <;> (rintro rfl; rw [g1, g2] at key ⊢; simp only [binOp, Sem.run_bind, key, Result.andThen_ok, Sem.run_pure])
      · obtain ⟨q, g2⟩ := g2
        constructor <;> (rintro rfl; rw [g1, g2] at key ⊢; simp only [binOp, Sem.run_bind, key, Result.andThen_ok, Sem.run_pure])
      · constructor <;> (rintro rfl; rw [g1, g2] at key ⊢; simp only [binOp, Sem.run_bind, key, Result.andThen_ok, Sem.run_pure])
    split at hK
    · exact pureOp hR hd (u := .bool (b && c)) (v := .b (b && c)) (by simp [execOp, ho, hg, (key2 .eql).1 rfl]) (by simp [CV, CI]) ⟨[], hK⟩ hn
    · exact pureOp hR hd (u := .bool (!(b && c))) (v := .b (!(b && c))) (by simp [execOp, ho, hg, (key2 .neq).2 rfl]) (by simp [CV, CI]) ⟨[], hK⟩ hn
    · exact hK.elim
  · exact hK.elim
end
end Go.Proofs.Ytcchmhmbjhgfdaa.V
