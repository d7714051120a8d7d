/- The machine of trees, texts Vz, Vy, Vy2. -/
import Derived.Test.YtehdfbhfbidadaaVC
import Derived.MapKept
import Derived.Laws.StructEq
/- The machine of trees: code that is run part by part; between the parts a state may be told anew. -/
namespace Go.Proofs.Ytehdfbhfbidadaa.V
open Go
set_option linter.unusedVariables false
set_option linter.unusedSimpArgs false
/-- What a code does, from a state on. -/
def WW (P : Program) (M : List (Nat × CM)) (n : Nat) (pc : PC) (s : St) (Q : Exit → St → Prop) : Prop :=
  ∀ (E : Env) (c : Code) (a : Act) (w : World), E.n = n → comp P M n c = some pc → RelN E s a w → c.wp P (post E Q) a w
section
variable {P : Program} {M : List (Nat × CM)} {n : Nat} {s s' : St} {Q Q' : Exit → St → Prop}
theorem WW_of_W {pc : PC} (h : W P M n pc s Q) : WW P M n pc s Q := fun E c a w hn hc hR => W_sound hc h hn hR
theorem WW_wk {pc : PC} (hw : Wk s s') (h : WW P M n pc s' Q) : WW P M n pc s Q := fun E c a w hn hc hR => h E c a w hn hc (hw E a w hR)
theorem post_mono {E : Env} (hq : ∀ e s, Q e s → Q' e s) : ∀ e a w, post E Q e a w → post E Q' e a w := fun e a w ⟨s, h, hR⟩ => ⟨s, hq e s h, hR⟩
theorem WW_mono {pc : PC} (h : WW P M n pc s Q) (hq : ∀ e s, Q e s → Q' e s) : WW P M n pc s Q' := fun E c a w hn hc hR => wp_mono (h E c a w hn hc hR) (post_mono hq)
theorem comp_seq {c : Code} {pa pb : PC} (h : comp P M n c = some (.seq pa pb)) : ∃ x y, c = .seq x y ∧ comp P M n x = some pa ∧ comp P M n y = some pb := by
  cases c with
  | seq x y =>
    simp only [comp, Option.bind_eq_bind, Option.bind_eq_some_iff, Option.some.injEq, PC.seq.injEq] at h
    obtain ⟨px, hx, py, hy, rfl, rfl⟩ := h
    exact ⟨x, y, rfl, hx, hy⟩
  | region id ops draw =>
    simp only [comp, Option.bind_eq_bind, Option.bind_eq_some_iff] at h
    obtain ⟨pos, _, h⟩ := h
    split at h
    · split at h <;> simp at h
    · simp at h
  | _ => simp [comp, Option.bind_eq_some_iff] at h
theorem comp_block {c : Code} {id : Nat} {pb : PC} (h : comp P M n c = some (.block id pb)) : ∃ y, c = .block id y ∧ comp P M n y = some pb := by
  cases c with
  | block i y =>
    simp only [comp, Option.bind_eq_bind, Option.bind_eq_some_iff, Option.some.injEq, PC.block.injEq] at h
    obtain ⟨py, hy, rfl, rfl⟩ := h
    exact ⟨y, rfl, hy⟩
  | region id ops draw =>
    simp only [comp, Option.bind_eq_bind, Option.bind_eq_some_iff] at h
    obtain ⟨pos, _, h⟩ := h
    split at h
    · split at h <;> simp at h
    · simp at h
  | _ => simp [comp, Option.bind_eq_some_iff] at h
theorem WW_seq {a b : PC} (h : WW P M n a s (thn (fun s' => WW P M n b s' Q) Q)) : WW P M n (.seq a b) s Q := by
  intro E c ac w hn hc hR
  obtain ⟨x, y, rfl, hx, hy⟩ := comp_seq hc
  refine wp_seq (wp_mono (h E x ac w hn hx hR) ?_)
  rintro e a' w' ⟨s', hq, hr⟩
  cases e with
  | normal => exact hq E y a' w' hn hy hr
  | _ => exact ⟨s', hq, hr⟩
theorem WW_block {id : Nat} {b : PC} (h : WW P M n b s (inb id Q)) : WW P M n (.block id b) s Q := by
  intro E c ac w hn hc hR
  obtain ⟨y, rfl, hy⟩ := comp_block hc
  refine wp_block (wp_mono (h E y ac w hn hy hR) ?_)
  rintro e a' w' ⟨s', hq, hr⟩
  cases e with
  | exit i =>
    simp only [inb] at hq
    simp only [Exit.inBlock]
    split at hq
    · rename_i h; rw [if_pos h]; exact ⟨s', hq, hr⟩
    · rename_i h; rw [if_neg h]; exact ⟨s', hq, hr⟩
  | _ => exact ⟨s', hq, hr⟩
/-- A loop, one round of it, part by part. -/
theorem W_loopS {b : PC} (h : WW P M n b s (thn (fun s' => ∃ s2, Wk s' s2 ∧ W P M n (.loop b) s2 Q) Q)) : W P M n (.loop b) s Q := by
  simp only [W]
  intro E c a w hn hc hR bf k cs
  obtain ⟨e, a1, w1, ⟨s', hq, hr⟩, harr⟩ := h E c a w hn hc hR bf (.inLoop c :: k) cs
  cases e with
  | normal =>
    simp only [thn] at hq
    obtain ⟨s2, hwk, hl⟩ := hq
    simp only [W] at hl
    obtain ⟨e2, a2, w2, hq2, harr2⟩ := hl E c a1 w1 hn hc (hwk E a1 w1 hr) bf k cs
    exact ⟨e2, a2, w2, hq2, .of_steps (Steps.trans harr (.one step_inLoop)) harr2⟩
  | exit id => exact ⟨_, a1, w1, ⟨s', hq, hr⟩, .pass (x := .inLoop c) rfl (fun _ _ => .inl (by simp)) harr⟩
  | goto l => exact ⟨_, a1, w1, ⟨s', hq, hr⟩, .pass (x := .inLoop c) rfl (fun _ _ => .inl (by simp)) harr⟩
  | ret => exact ⟨_, a1, w1, ⟨s', hq, hr⟩, .pass (x := .inLoop c) rfl (fun _ _ => .inl (by simp)) harr⟩
  | panic ch => exact ⟨_, a1, w1, ⟨s', hq, hr⟩, .pass (x := .inLoop c) rfl (fun _ _ => .inl (by simp)) harr⟩
  | outgrown => exact ⟨_, a1, w1, ⟨s', hq, hr⟩, .pass (x := .inLoop c) rfl (fun _ _ => .inl (by simp)) harr⟩
/-- A loop over numbers from 0 on, its rounds part by part. -/
theorem W_forS {b : PC} (st : Nat → St) (len : Nat) (inv : Nat → Prop) (h0 : Wk s (st 0)) (hi : inv 0) (step : ∀ i, i ≤ len → inv i → WW P M n b (st i) (thn (fun s' => i < len ∧ inv (i + 1) ∧ Wk s' (st (i + 1))) Q)) : @loopH P M n ⟨b⟩ s ⟨Q⟩ := by
  have key : ∀ m i, i + m = len → inv i → W P M n (.loop b) (st i) Q := by
    intro m
    induction m with
    | zero =>
      intro i hl hv
      refine W_loopS (WW_mono (step i (by omega) hv) (thn_mono ?_ (fun _ _ h => h)))
      rintro s' ⟨h1, _⟩
      omega
    | succ m ih =>
      intro i hl hv
      refine W_loopS (WW_mono (step i (by omega) hv) (thn_mono ?_ (fun _ _ h => h)))
      rintro s' ⟨h1, h2, h3⟩
      exact ⟨_, h3, ih (i + 1) (by omega) h2⟩
  exact W_wk0 h0 (key len 0 (by omega) hi)
/-- A loop that keeps an invariant, its rounds part by part. -/
theorem W_whileS {b : PC} (I : Nat → St → Prop) {m : Nat} (h0 : I m s) (step : ∀ m s, I m s → WW P M n b s (thn (fun s' => ∃ s2 m', Wk s' s2 ∧ m' < m ∧ I m' s2) Q)) : @loopH P M n ⟨b⟩ s ⟨Q⟩ := by
  have key : ∀ m s, I m s → W P M n (.loop b) s Q := by
    intro m
    induction m using Nat.strongRecOn with
    | _ m ih =>
      intro s h
      refine W_loopS (WW_mono (step m s h) (thn_mono ?_ (fun _ _ h => h)))
      rintro s' ⟨s2, m', h1, h2, h3⟩
      exact ⟨_, h1, ih m' h2 s2 h3⟩
  exact key m s h0
/-- A loop within code that is run part by part. -/
theorem WW_loopH {b : PC} (h : @loopH P M n ⟨b⟩ s ⟨Q⟩) : WW P M n (.loop b) s Q := WW_of_W h
/-- A part of the code comes to a state that is told anew. -/
theorem thn_cut {a b : PC} {s2 : St} (h : W P M n a s (fun e s' => e = .normal ∧ Wk s' s2)) (h2 : WW P M n b s2 Q) : WW P M n a s (thn (fun s' => WW P M n b s' Q) Q) := by
  refine WW_mono (WW_of_W h) ?_
  rintro e s' ⟨rfl, hw⟩
  exact WW_wk hw h2
/-- What a slot refers to is shared for good: it is written no more. -/
theorem Wk.share {j : Nat} {t x : T} (ht : tget s.tm j = t) (hx : argI s t = some x) : Wk s { s with tm := (j, x) :: s.tm, hp := hdels s.hp t.names } := by
  rintro E a w ⟨⟨ρ, O, F, hR⟩, hE⟩
  have hsub : ∀ t' k, hget (hdels s.hp t.names) t' = some k → t' ∉ t.names ∧ hget s.hp t' = some k := by
    intro t' k hk
    rw [hget_hdels] at hk
    split at hk
    · exact absurd hk (by simp)
    · exact ⟨‹_›, hk⟩
  let O2 : Nat → Prop := fun b => O b ∨ ∃ tk k, tk ∈ t.names ∧ hget s.hp tk = some k ∧ b ∈ F tk
  have hO : ∀ b, O b → O2 b := fun b h => .inl h
  have hci : CI w O2 x (a.tmps.getD j undef) := argI_ok hR hO (by have := hR.tm j; rw [ht] at this; exact this) hx (fun tk htk k hk b hb => .inr ⟨tk, k, htk, hk, hb⟩)
  refine ⟨⟨ρ, O2, F, hR.size, hR.defers, hR.fb, hR.ρ0, fun b hb => hO b (hR.O0 b hb), ?_, ?_, ?_, ?_, ?_, ?_, ?_, hR.keep⟩, hE⟩
  · rintro b (hb | ⟨tk, k, _, hk, hb⟩)
    · exact hR.Olt b hb
    · exact (hR.mine tk k hk b hb).2.1
  · rintro b (hb | ⟨tk, k, _, hk, hb⟩)
    · exact hR.Onew b hb
    · exact .inr (hR.mine tk k hk b hb).2.2
  · intro i
    simp only [tget]
    split
    · rename_i e; subst e; exact CV.ofCI hci
    · exact (hR.tm i).cong hO (fun _ _ => rfl) (fun _ h => h) (fun _ _ => rfl)
  · intro t' k hk
    have h1 := hR.hp t' k (hsub _ _ hk).2
    exact ⟨h1.1, BR.cong (A' := fun x => x < s.nx) (ρ' := ρ) hO (fun _ _ => rfl) (fun _ h => h) (fun _ _ => rfl) h1.1 (fun _ _ => rfl) h1.2⟩
  · intro t' k hk; exact hR.nodup t' k (hsub _ _ hk).2
  · intro t1 k1 t2 k2 h1 h2; exact hR.apart t1 k1 t2 k2 (hsub _ _ h1).2 (hsub _ _ h2).2
  · intro t' k hk b hb
    obtain ⟨h1, h2⟩ := hsub _ _ hk
    obtain ⟨h3, h4, h5⟩ := hR.mine t' k h2 b hb
    refine ⟨?_, h4, h5⟩
    rintro (ho | ⟨tk, k', htk, hk', hb'⟩)
    · exact h3 ho
    · exact hR.apart _ _ _ _ h2 hk' (fun e => h1 (e ▸ htk)) b hb hb'
theorem Ret.ofS {f : Nat} {fn : Func} {pc : PC} {args : List T} {r : T} {outs : List T} {rs : List ResultVar} (hf : P.funcs[f]? = some fn) (hc : (fn.body).bind (comp P M fn.ntmps) = some pc) (hr : fn.results = rs.toArray) (hn : fn.ntmps = n) (ha : args.length ≤ n)
    (h : WW P M n pc (enter args) (fin P rs args r outs)) : Ret P f args r outs := by
  obtain ⟨c, hb, hc⟩ := bodyOf hc
  subst hn
  refine Ret.introS hf hb hc ha ?_
  rw [hr, List.toList_toArray]
  exact h
end
end Go.Proofs.Ytehdfbhfbidadaa.V

/- Maps whose keys are numbers or texts. -/
namespace Go.Proofs.Ytehdfbhfbidadaa.V
open Go
set_option linter.unusedVariables false
set_option linter.unusedSimpArgs false
def T.isKey : TypeDesc → T → Bool
  | .int k, .i k' _ => decide (k' = k)
  | .string, .s _ => true
  | _, _ => false
def tkEq : T → T → Bool
  | .i _ a, .i _ b => decide (a = b)
  | .s a, .s b => decide (a = b)
  | _, _ => false
/-- Where a key stands. -/
def mfind (k : T) : List (T × T) → Option Nat
  | [] => none
  | p :: es => if tkEq p.1 k = true then some 0 else (mfind k es).map (· + 1)
section
variable {P : Program} {E : Env} {A A' : Nat → Prop} {ρ ρ' : Nat → Option RB} {O O' : Nat → Prop} {F F' : Nat → List Nat} {s s' : St} {a : Act} {w w' : World} {n : Nat}
theorem isKey_ok {d : TypeDesc} {t : T} {v : Value} (h : t.isKey d = true) (hv : CI w O t v) : MapKept.IsKey d v := by
  cases t <;> cases d <;> simp [T.isKey] at h
  · simp only [CI] at hv; subst hv; exact h
  · simp only [CI] at hv; subst hv; trivial
theorem tkEq_ok {d : TypeDesc} {t u : T} {v x : Value} (h : t.isKey d = true) (h' : u.isKey d = true) (hv : CI w O t v) (hx : CI w O u x) : tkEq t u = true ↔ v = x := by
  cases t <;> cases d <;> simp [T.isKey] at h <;> cases u <;> simp [T.isKey] at h'
  · simp only [CI] at hv hx; subst hv hx h h'; simp [tkEq]
  · simp only [CI] at hv hx; subst hv hx
    simp only [tkEq, decide_eq_true_eq]
    constructor
    · rintro rfl; rfl
    · intro e
      simp only [Value.string.injEq, ByteArray.mk.injEq] at e
      exact Array.toList_inj.2 e |> fun h => by simpa using h
theorem mfind_ok {d : TypeDesc} {t : T} {v : Value} (ht : t.isKey d = true) (hv : CI w O t v) : ∀ {es : List (T × T)} {ents : List MapEntry} {i : Nat}, (∀ p ∈ es, p.1.isKey d = true) → CIs w O (es.map Prod.fst) (ents.map (·.key)) →
    (∀ e ∈ ents, MapKept.IsKey d e.key) ∧ ((mfind t es = none ∧ Instr.findNow d v ents i = some none) ∨ ∃ j e, mfind t es = some j ∧ ents[j]? = some e ∧ e.key = v ∧ Instr.findNow d v ents i = some (some (i + j, e.val)))
  | [], ents, i, hes, hk => by
    simp only [List.map_nil, CIs, List.map_eq_nil_iff] at hk
    subst hk
    exact ⟨by simp, .inl ⟨rfl, rfl⟩⟩
  | p :: es, ents, i, hes, hk => by
    simp only [List.map_cons, CIs] at hk
    obtain ⟨x, r, e1, hx, hr⟩ := hk
    cases ents with
    | nil => simp at e1
    | cons e ents =>
      simp only [List.map_cons, List.cons.injEq] at e1
      obtain ⟨rfl, rfl⟩ := e1
      have hp := hes p (by simp)
      have hik := isKey_ok hp hx
      obtain ⟨q1, q2⟩ := mfind_ok (i := i + 1) ht hv (fun p hp => hes p (List.mem_cons_of_mem _ hp)) hr
      refine ⟨fun e' he' => by rcases List.mem_cons.1 he' with rfl | he'; exact hik; exact q1 e' he', ?_⟩
      obtain ⟨b, hb, hiff⟩ := MapKept.sameNow_of_keys (isKey_ok ht hv) hik
      have hte := tkEq_ok hp ht hx hv
      by_cases h : tkEq p.1 t = true
      · have hb1 : b = true := hiff.2 (hte.1 h).symm
        subst hb1
        exact .inr ⟨0, e, by simp [mfind, h], rfl, hte.1 h, by simp [Instr.findNow, hb]⟩
      · have hb1 : b = false := by
          cases b with
          | false => rfl
          | true => exact absurd (hte.2 (hiff.1 rfl).symm) h
        subst hb1
        rcases q2 with ⟨h1, h2⟩ | ⟨j, e', h1, h2, h3, h4⟩
        · exact .inl ⟨by simp [mfind, h, h1], by simp [Instr.findNow, hb, h2]⟩
        · exact .inr ⟨j + 1, e', by simp [mfind, h, h1], by simpa using h2, h3, by simp only [Instr.findNow, hb, h4]; rw [show i + 1 + j = i + (j + 1) by omega]⟩
theorem modify_at {α : Type} (f : α → α) (x : α) (l2 : List α) : ∀ l1 : List α, (l1 ++ x :: l2).modify l1.length f = l1 ++ f x :: l2
  | [] => by simp
  | a :: l1 => by simp [modify_at f x l2 l1]
theorem hook_makeMap {mT : TypeId} : HookOk P (.makeMap mT none) [] [] n (.mp n) [(n, some (.mb []))] := by
  intro E A ρ O F s a w o ys next Q hop hys hxs hR hd hg hfb hFR hn
  have hnA : ¬ A n := hFR n (Nat.le_refl _) (by simp)
  have hrun : (execOp a.eval o).run P w = .ok (.value (.map (some w.heap.size))) (w.alloc (.map #[] 0)) := by
    simp [execOp, hop, Instr.makeMap, newObj, Sem.run]
  have hw : ∀ b, O b → (w.alloc (.map #[] 0)).heap[b]? = w.heap[b]? := fun b hb => heap_push_old (hR.Olt b hb)
  have hA : ∀ t, A t → Aext A n 1 t := fun t h => .inl h
  have hρ : ∀ t, A t → (fun x => if x = n then some (⟨w.heap.size, 0, 0, 0⟩ : RB) else ρ x) t = ρ t := fun t ht => if_neg (fun (h : t = n) => hnA (by rw [← h]; exact ht))
  have h1 := hR.set1 (t := n) (k := .mb []) (Ft := [w.heap.size]) (M := []) (hp0 := s.hp) hA hρ (fun t ht => by rw [if_neg (by omega)]; exact hR.ρ0 t ht) hw (fun _ _ h => h) (fun t' k _ hk b hb => heap_push_old (hR.mine t' k hk b hb).2.1) (Keep.alloc _ _) (by simp) (.inr ⟨Nat.le_refl _, by omega⟩) ?_ (by simp) ?_ ?_
  · have h2 := h1.put hd (v := .mp n) (u := .map (some w.heap.size)) (by simp only [CV]; exact ⟨.inr ⟨Nat.le_refl _, by omega⟩, ⟨w.heap.size, 0, 0, 0⟩, by simp, rfl⟩)
    exact wp_value hrun (hn _ _ ⟨_, _, _, h2⟩)
  · simp only [BR]
    refine ⟨⟨w.heap.size, 0, 0, 0⟩, #[], 0, [], by simp, ?_, by simp [CIs], by simp [Ds], rfl⟩
    show (w.heap.push _)[w.heap.size]? = _
    simp
  · intro b hb
    simp only [List.mem_singleton] at hb
    subst hb
    refine ⟨fun ho => ?_, by simp, .inl hR.keep.size⟩
    have := hR.Olt _ ho; omega
  · intro t' k _ hk b hb hb'
    simp only [List.mem_singleton] at hb
    subst hb
    have := (hR.mine t' k hk _ hb').2.1
    omega
/-- What a lookup comes to. -/
def lkV (ok : Bool) (v : T) (found : Bool) : T := if ok = true then .tup [v, .b found] else v
theorem CV_lk {ok found : Bool} {v : T} {u : Value} (h : CV w O ρ A v u) : CV w O ρ A (lkV ok v found) (if ok then .tuple #[u, .bool found] else u) := by
  cases ok with
  | false => simpa [lkV] using h
  | true =>
    simp only [lkV, if_true, CV]
    exact ⟨[u, .bool found], rfl, by simp only [CVs]; exact ⟨u, _, rfl, h, _, _, rfl, by simp only [CV, CI], rfl⟩⟩
theorem map_at (hR : R E A ρ O F s a w) {t : Nat} {es : List (T × T)} (hg : hget s.hp t = some (.mb es)) {v : Value} (hv : CV w O ρ A (.mp t) v) :
    ∃ (B : RB) (ents : Array MapEntry) (clk : Nat) (F' : List Nat), v = .map (some B.b) ∧ ρ t = some B ∧ w.heap[B.b]? = some (.map ents clk) ∧ CIs w O (es.map Prod.fst) (ents.toList.map (·.key)) ∧ Ds w O ρ A (es.map Prod.snd) (ents.toList.map (·.val)) F' ∧ F t = B.b :: F' := by
  have hb := (hR.hp _ _ hg).2
  simp only [BR] at hb
  obtain ⟨B, ents, clk, F', hB, h1, h2, h3, h4⟩ := hb
  simp only [CV] at hv
  obtain ⟨_, B', hB', rfl⟩ := hv
  obtain rfl : B = B' := Option.some.inj (hB.symm.trans hB')
  exact ⟨B, ents, clk, F', rfl, hB, h1, h2, h3, h4⟩
theorem two_args (hR : R E A ρ O F s a w) {x i : Operand} {ys : List X} {u v : T} (hys : [x, i].mapM opd = some ys) (hxs : ys.map (·.ev s) = [u, v]) : CV w O ρ A u (a.eval x) ∧ CV w O ρ A v (a.eval i) := by
  have hvs := evs_ok hR hys
  rw [hxs] at hvs
  simp only [CVs, List.map_cons, List.map_nil, List.cons.injEq] at hvs
  obtain ⟨v1, r1, ⟨rfl, rfl⟩, h1, v2, r2, ⟨rfl, rfl⟩, h2, _⟩ := hvs
  exact ⟨h1, h2⟩
theorem key_CI {d : TypeDesc} {t : T} {v : Value} (h : t.isKey d = true) (hv : CV w O ρ A t v) : CI w O t v := by
  cases t <;> cases d <;> simp [T.isKey] at h <;> simpa only [CV] using hv
/-- A key that is not there. -/
theorem hook_lookup0 {mT kT eT : TypeId} {d : TypeDesc} {x i : Operand} {ok : Bool} {t : Nat} {k z : T} {es : List (T × T)} (hm : P.underlying mT = some (.map kT eT)) (hk : P.underlying kT = some d) (hd : k.isKey d = true) (hes : ∀ p ∈ es, p.1.isKey d = true)
    {zv : Value} (hz : (P.info? eT).bind (·.zero) = some zv) (hz1 : cst zv = some z) (hf : mfind k es = none) : HookOk P (.lookup mT x i ok) [.mp t, k] [(t, .mb es)] n (lkV ok z false) [] := by
  intro E A ρ O F s a w o ys next Q hop hys hxs hR hdst hg hfb hFR hn
  have hops : (Op.lookup mT x i ok).operands.toList = [x, i] := by simp [Op.operands]
  rw [hops] at hys
  obtain ⟨h1, h2⟩ := two_args hR hys hxs
  have hgt : hget s.hp t = some (.mb es) := hg (t, .mb es) (by simp)
  obtain ⟨B, ents, clk, F', ev, hB, hh, hks, hds, hF⟩ := map_at hR hgt h1
  have hkv := key_CI hd h2
  obtain ⟨q1, q2⟩ := mfind_ok (i := 0) hd hkv hes hks
  rcases q2 with ⟨_, q2⟩ | ⟨j, e, q3, _⟩
  · have hzr : (zeroValue eT).run P w = .ok zv w := by
      simp only [Option.bind_eq_some_iff] at hz
      obtain ⟨info, h1, h2⟩ := hz
      simp [zeroValue, typeInfo, program, Sem.run, h1, h2]
    have hzu : CI w O z zv := by
      obtain ⟨hci, _⟩ := csts_ok (w := w) (O := O) (vs := [zv]) (ts := [z]) (by simp [hz1])
      simp only [CIs] at hci
      obtain ⟨u, r, e1, e2, rfl⟩ := hci
      simp only [List.cons.injEq, and_true] at e1
      subst e1; exact e2
    have hrun : (execOp a.eval o).run P w = .ok (.value (if ok then .tuple #[zv, .bool false] else zv)) w := by
      simp [execOp, hop, Instr.lookup, run_underlying hm, ev, MapKept.run_getObj_map hh, MapKept.run_checkKey hk (isKey_ok hd hkv), MapKept.run_findKey hk q2, hzr, Result.andThen]
    have hR2 := hR.put hdst (v := lkV ok z false) (u := if ok then .tuple #[zv, .bool false] else zv) (CV_lk (CV.ofCI hzu))
    exact wp_value hrun (hn _ _ ⟨_, _, _, hR2.monoA (fun t h => .inl h)⟩)
  · rw [hf] at q3; exact absurd q3 (by simp)
/-- A key that is there. -/
theorem look_at (hR : R E A ρ O F s a w) {o : Oper} {ys : List X} {mT kT eT : TypeId} {d : TypeDesc} {x i : Operand} {ok : Bool} {t j : Nat} {k : T} {q : T × T} {es : List (T × T)} (hop : o.op = .lookup mT x i ok) (hys : o.op.operands.toList.mapM opd = some ys) (hxs : ys.map (·.ev s) = [.mp t, k]) (hgt : hget s.hp t = some (.mb es))
    (hm : P.underlying mT = some (.map kT eT)) (hk : P.underlying kT = some d) (hd : k.isKey d = true) (hes : ∀ p ∈ es, p.1.isKey d = true) (hf : mfind k es = some j) (hq : es[j]? = some q) :
    ∃ (B : RB) (ents : Array MapEntry) (clk : Nat) (es1 es2 : List (T × T)) (v1 v2 : List Value) (u : Value) (F1 Fj F3 : List Nat), (execOp a.eval o).run P w = .ok (.value (if ok then .tuple #[u, .bool true] else u)) w ∧
      es = es1 ++ q :: es2 ∧ es1.length = j ∧ ρ t = some B ∧ w.heap[B.b]? = some (.map ents clk) ∧ CIs w O (es.map Prod.fst) (ents.toList.map (·.key)) ∧ ents.toList.map (·.val) = v1 ++ u :: v2 ∧ Ds w O ρ A (es1.map Prod.snd) v1 F1 ∧ D w O ρ A q.2 u Fj ∧ Ds w O ρ A (es2.map Prod.snd) v2 F3 ∧ F t = B.b :: (F1 ++ (Fj ++ F3)) := by
  have hops : (Op.lookup mT x i ok).operands.toList = [x, i] := by simp [Op.operands]
  rw [hop, hops] at hys
  obtain ⟨h1, h2⟩ := two_args hR hys hxs
  obtain ⟨B, ents, clk, F', ev, hB, hh, hks, hds, hF⟩ := map_at hR hgt h1
  have hkv := key_CI hd h2
  obtain ⟨q1, q2⟩ := mfind_ok (i := 0) hd hkv hes hks
  rcases q2 with ⟨q3, _⟩ | ⟨j', e, q3, q4, q5, q2⟩
  · rw [hf] at q3; exact absurd q3 (by simp)
  obtain rfl : j = j' := by rw [hf] at q3; exact Option.some.inj q3
  have hrun : (execOp a.eval o).run P w = .ok (.value (if ok then .tuple #[e.val, .bool true] else e.val)) w := by
    simp [execOp, hop, Instr.lookup, run_underlying hm, ev, MapKept.run_getObj_map hh, MapKept.run_checkKey hk (isKey_ok hd hkv), MapKept.run_findKey hk q2, Result.andThen]
  obtain ⟨es1, es2, he, hl1⟩ := split_at hq
  rw [he, List.map_append, List.map_cons] at hds
  obtain ⟨v1, v2, F1, F2, e1, e2, d1, d2⟩ := Ds_append.1 hds
  simp only [Ds] at d2
  obtain ⟨vj, r2, Fj, F3, e3, e4, dj, d3⟩ := d2
  subst e3 e4
  have hlv : v1.length = j := by rw [d1.len]; simp [hl1]
  have hvj : vj = e.val := by
    have h5 : (ents.toList.map (·.val))[j]? = some e.val := by rw [List.getElem?_map, q4]; rfl
    rw [e1, List.getElem?_append_right (by omega), hlv] at h5
    simpa using h5
  subst hvj
  exact ⟨B, ents, clk, es1, es2, v1, r2, _, F1, Fj, F3, hrun, he, hl1, hB, hh, hks, e1, d1, dj, d3, by rw [hF, e2]⟩
theorem hook_lookup1 {mT kT eT : TypeId} {d : TypeDesc} {x i : Operand} {ok : Bool} {t j : Nat} {k : T} {q : T × T} {es : List (T × T)} (hm : P.underlying mT = some (.map kT eT)) (hk : P.underlying kT = some d) (hd : k.isKey d = true) (hes : ∀ p ∈ es, p.1.isKey d = true)
    (hf : mfind k es = some j) (hq : es[j]? = some q) (hs : ∀ m, mat q.2 m = (q.2, [])) : HookOk P (.lookup mT x i ok) [.mp t, k] [(t, .mb es)] n (lkV ok q.2 true) [] := by
  intro E A ρ O F s a w o ys next Q hop hys hxs hR hdst hg hfb hFR hn
  have hgt : hget s.hp t = some (.mb es) := hg (t, .mb es) (by simp)
  rw [← hop] at hys
  obtain ⟨B, ents, clk, es1, es2, v1, v2, u, F1, Fj, F3, hrun, he, hl1, hB, hh, hks, e1, d1, dj, d3, hF⟩ := look_at hR hop hys hxs hgt hm hk hd hes hf hq
  obtain ⟨ρ', m1, m2, m3⟩ := mats_D (ts := [q.2]) n ρ A (F := Fj) (vs := [u]) (by simp only [Ds]; exact ⟨u, [], Fj, [], rfl, by simp, dj, rfl, rfl⟩) (by simp [mats, hs]; intro x h1 h2; omega)
  simp only [mats, hs, CVs, List.length_nil, List.append_nil] at m2
  obtain ⟨u', r, e5, m2, _⟩ := m2
  simp only [List.cons.injEq] at e5
  obtain ⟨rfl, _⟩ := e5
  have hρ : ρ' = ρ := by
    funext x
    exact m1 x (by simp [mats, hs]; omega)
  subst hρ
  have hv : CV w O ρ' A q.2 u := m2.cong (fun _ h => h) (fun _ _ => rfl) (fun x hx => by rcases hx with h | ⟨h3, h4⟩; exact h; omega) (fun _ _ => rfl)
  have hR2 := hR.put hdst (v := lkV ok q.2 true) (u := if ok then .tuple #[u, .bool true] else u) (CV_lk hv)
  exact wp_value hrun (hn _ _ ⟨_, _, _, hR2.monoA (fun t h => .inl h)⟩)
/-- A key that is there, and a row of its own under it. -/
theorem hook_lookup2 {mT kT eT : TypeId} {d : TypeDesc} {x i : Operand} {ok : Bool} {t j sz : Nat} {k c : T} {rows : List (List T)} {es : List (T × T)} (hm : P.underlying mT = some (.map kT eT)) (hk : P.underlying kT = some d) (hd : k.isKey d = true) (hes : ∀ p ∈ es, p.1.isKey d = true)
    (hf : mfind k es = some j) (hq : es[j]? = some (c, .own sz rows)) : HookOk P (.lookup mT x i ok) [.mp t, k] [(t, .mb es)] n (lkV ok (.ref n 0 rows.length) true) [(t, some (.mb (es.set j (c, .ref n 0 rows.length)))), (n, some (.arr sz rows))] := by
  intro E A ρ O F s a w o ys next Q hop hys hxs hR hdst hg hfb hFR hn
  have hgt : hget s.hp t = some (.mb es) := hg (t, .mb es) (by simp)
  rw [← hop] at hys
  obtain ⟨B, ents, clk, es1, es2, v1, v2, u, F1, Fj, F3, hrun, he, hl1, hB, hh, hks, e1, d1, dj, d3, hF⟩ := look_at hR hop hys hxs hgt hm hk hd hes hf hq
  have hnA : ¬ A n := hFR n (Nat.le_refl _) (by simp)
  have hnt : t ≠ n := fun e => hnA (e ▸ (hR.hp _ _ hgt).1)
  have hnone : hget s.hp n = none := by
    cases hq2 : hget s.hp n with
    | none => rfl
    | some k => exact absurd (hR.hp _ _ hq2).1 hnA
  obtain ⟨ρ', m1, m2, m3⟩ := mats_D (ts := [.own sz rows]) n ρ A (F := Fj) (vs := [u]) (by simp only [Ds]; exact ⟨u, [], Fj, [], rfl, by simp, dj, rfl, rfl⟩) (by
    simp [mats, mat]
    intro x h1 h2
    obtain rfl : x = n := by omega
    exact hnA)
  simp only [mats, mat, CVs, List.length_singleton, List.append_nil, BL] at m1 m2 m3
  obtain ⟨u', r, e5, m2, _⟩ := m2
  simp only [List.cons.injEq] at e5
  obtain ⟨rfl, _⟩ := e5
  obtain ⟨_, G1, G2, rfl, hbr, rfl⟩ := m3
  have hAA : ∀ t, A t → Aext A n 2 t := fun t h => .inl h
  have hρ : ∀ t, A t → ρ' t = ρ t := fun t ht => m1 t (by
    have : t ≠ n := fun e => hnA (e ▸ ht)
    omega)
  have hA1 : ∀ t, Aext A n 1 t → Aext A n 2 t := fun t h => h.imp id (fun h => ⟨h.1, by omega⟩)
  have hFn := hR.nodup _ _ hgt
  rw [hF] at hFn
  have hsub1 : (B.b :: (F1 ++ F3)).Sublist (F t) := by
    rw [hF]; exact List.Sublist.cons_cons _ (List.Sublist.append (List.Sublist.refl _) (List.sublist_append_right _ _))
  have hsub2 : (G1 ++ []).Sublist (F t) := by
    rw [hF]; exact List.Sublist.cons _ (List.Sublist.trans (List.sublist_append_left _ _) (List.sublist_append_right _ _))
  have hCVr : CV w O ρ' (Aext A n 2) (.ref n 0 rows.length) u := m2.cong (fun _ h => h) (fun _ _ => rfl) hA1 (fun _ _ => rfl)
  have hR1 := hR.set1 (t := t) (k := .mb (es.set j (c, .ref n 0 rows.length))) (Ft := B.b :: (F1 ++ F3)) (M := []) (A' := Aext A n 2) (ρ' := ρ') (w' := w) (hp0 := s.hp)
    hAA hρ (fun t ht => by rw [m1 t (by omega)]; exact hR.ρ0 t ht) (fun _ _ => rfl) (fun _ _ h => h) (fun _ _ _ _ _ _ => rfl) (Keep.refl _ _) (by simp) (hAA _ (hR.hp _ _ hgt).1) ?_ ((hR.nodup _ _ hgt).sublist hsub1) (fun b hb => hR.mine _ _ hgt b (hsub1.subset hb)) (fun t' k' hne hk' b hb hin => hR.apart _ _ _ _ hk' hgt hne b hin (hsub1.subset hb))
  · have hR2 := hR1.set1 (t := n) (k := .arr sz rows) (Ft := G1 ++ []) (M := []) (A' := Aext A n 2) (ρ' := ρ') (w' := w) (hp0 := hset s.hp t (.mb (es.set j (c, .ref n 0 rows.length))))
      (fun _ h => h) (fun _ _ => rfl) hR1.ρ0 (fun _ _ => rfl) (fun _ _ h => h) (fun _ _ _ _ _ _ => rfl) (Keep.refl _ _) (by simp) (.inr ⟨Nat.le_refl _, by omega⟩) ?_ ((hR.nodup _ _ hgt).sublist hsub2) (fun b hb => hR.mine _ _ hgt b (hsub2.subset hb)) ?_
    · have hR3 := hR2.put hdst (v := lkV ok (.ref n 0 rows.length) true) (u := if ok then .tuple #[u, .bool true] else u) (CV_lk hCVr)
      exact wp_value hrun (hn _ _ ⟨_, _, _, hR3⟩)
    · rw [List.append_nil]
      exact hbr.cong (fun _ h => h) (fun _ _ => rfl) hA1 (fun _ _ => rfl) (.inr ⟨Nat.le_refl _, by omega⟩) (fun _ _ => rfl)
    · intro t' k' hne hk' b hb hin
      simp only [hget_hset] at hk'
      by_cases ht : t = t'
      · subst ht
        simp only [if_true] at hin
        rw [List.append_nil] at hb
        rcases List.mem_cons.1 hin with h | h
        · subst h
          exact (List.nodup_cons.1 hFn).1 (List.mem_append.2 (.inr (List.mem_append.2 (.inl (by simpa using hb)))))
        · have h6 := (List.nodup_append.1 (List.nodup_cons.1 hFn).2)
          rcases List.mem_append.1 h with h | h
          · exact h6.2.2 b h b (List.mem_append.2 (.inl (by simpa using hb))) rfl
          · exact (List.nodup_append.1 h6.2.1).2.2 b (by simpa using hb) b h rfl
      · rw [if_neg ht] at hk'
        rw [if_neg (fun h => ht h.symm)] at hin
        exact hR.apart _ _ _ _ hk' hgt (fun h => ht h.symm) b hin (hsub2.subset hb)
  · simp only [BR]
    have hset : es.set j (c, .ref n 0 rows.length) = es1 ++ (c, .ref n 0 rows.length) :: es2 := by rw [he, ← hl1, set_split]
    refine ⟨B, ents, clk, F1 ++ F3, by rw [hρ _ (hR.hp _ _ hgt).1]; exact hB, hh, ?_, ?_, rfl⟩
    · rw [hset]; rw [he] at hks; simpa only [List.map_append, List.map_cons] using hks
    · rw [hset, e1, List.map_append, List.map_cons]
      refine Ds_append.2 ⟨v1, u :: v2, F1, F3, rfl, rfl, d1.cong (fun _ h => h) (fun _ _ => rfl) hAA hρ (fun _ _ => rfl), ?_⟩
      simp only [Ds]
      exact ⟨u, v2, [], F3, rfl, rfl, .inr ⟨hCVr, rfl⟩, d3.cong (fun _ h => h) (fun _ _ => rfl) hAA hρ (fun _ _ => rfl)⟩
/-- A key and what is under it are put. -/
theorem hook_update {mT kT eT : TypeId} {d : TypeDesc} {x i y : Operand} {t : Nat} {k v : T} {es : List (T × T)} (hm : P.underlying mT = some (.map kT eT)) (hk : P.underlying kT = some d) (hd : k.isKey d = true) (hes : ∀ p ∈ es, p.1.isKey d = true) :
    HookOk P (.mapUpdate mT x i y) [.mp t, k, v] [(t, .mb es)] n .dead [(t, some (.mb (match mfind k es with | some j => es.set j (k, v) | none => es ++ [(k, v)])))] := by
  intro E A ρ O F s a w o ys next Q hop hys hxs hR hdst hg hfb hFR hn
  have hops : (Op.mapUpdate mT x i y).operands.toList = [x, i, y] := by simp [Op.operands]
  rw [hops] at hys
  have hvs := evs_ok hR hys
  rw [hxs] at hvs
  simp only [CVs, List.map_cons, List.map_nil, List.cons.injEq] at hvs
  obtain ⟨v1, r1, ⟨rfl, rfl⟩, h1, v2, r2, ⟨rfl, rfl⟩, h2, v3, r3, ⟨rfl, rfl⟩, h3, _⟩ := hvs
  have hgt : hget s.hp t = some (.mb es) := hg (t, .mb es) (by simp)
  obtain ⟨B, ents, clk, F', ev, hB, hh, hks, hds, hF⟩ := map_at hR hgt h1
  have hkv := key_CI hd h2
  obtain ⟨q1, q2⟩ := mfind_ok (i := 0) hd hkv hes hks
  obtain ⟨ents', clk', hrun, hkn, F2, hdn, hsub⟩ : ∃ (ents' : Array MapEntry) (clk' : Nat), (execOp a.eval o).run P w = .ok .skip { w with heap := w.heap.setIfInBounds B.b (.map ents' clk') } ∧
      CIs w O ((match mfind k es with | some j => es.set j (k, v) | none => es ++ [(k, v)]).map Prod.fst) (ents'.toList.map (·.key)) ∧ ∃ F2, Ds w O ρ A ((match mfind k es with | some j => es.set j (k, v) | none => es ++ [(k, v)]).map Prod.snd) (ents'.toList.map (·.val)) F2 ∧ F2.Sublist F' := by
    rcases q2 with ⟨q3, q2⟩ | ⟨j, e, q3, q4, q5, q2⟩
    · refine ⟨ents.push { key := a.eval i, val := a.eval y, born := clk }, clk + 1, ?_, ?_, F', ?_, List.Sublist.refl _⟩
      · simp [execOp, hop, Instr.mapUpdate, run_underlying hm, ev, MapKept.run_getObj_map hh, MapKept.run_checkKey hk (isKey_ok hd hkv), MapKept.run_findKey hk q2, MapKept.run_setObj_map _ hh, Result.andThen]
      · rw [q3]
        simp only [List.map_append, List.map_cons, List.map_nil, Array.toList_push]
        exact CIs_append.2 ⟨_, _, rfl, hks, by simp only [CIs]; exact ⟨_, _, rfl, hkv, rfl⟩⟩
      · rw [q3]
        simp only [List.map_append, List.map_cons, List.map_nil, Array.toList_push]
        exact Ds_append.2 ⟨_, _, F', [], rfl, by simp, hds, by simp only [Ds]; exact ⟨_, _, [], [], rfl, rfl, .inr ⟨h3, rfl⟩, rfl, rfl⟩⟩
    · have hjl : j < es.length := by
        have h5 := hks.len
        have h6 : j < ents.toList.length := (List.getElem?_eq_some_iff.1 q4).1
        simp at h5; simp at h6; omega
      obtain ⟨q, hq⟩ : ∃ q, es[j]? = some q := ⟨_, List.getElem?_eq_getElem hjl⟩
      obtain ⟨es1, es2, he, hl1⟩ := split_at hq
      obtain ⟨n1, n2, hen, hl2⟩ := split_at q4
      have hset : es.set j (k, v) = es1 ++ (k, v) :: es2 := by rw [he, ← hl1, set_split]
      have hmod : (ents.modify j fun e => { e with key := a.eval i, val := a.eval y }).toList = n1 ++ { e with key := a.eval i, val := a.eval y } :: n2 := by
        rw [Array.toList_modify, hen, ← hl2]; exact modify_at _ _ _ n1
      rw [he, hen, List.map_append, List.map_append, List.map_cons, List.map_cons] at hks hds
      obtain ⟨v1, v2, F1, F2, e1, e2, d1, d2⟩ := Ds_append.1 hds
      obtain ⟨k1, k2, e3, c1, c2⟩ := CIs_append.1 hks
      have hb1 : (n1.map (·.val)).length = v1.length := by rw [d1.len]; simp; omega
      obtain ⟨rfl, rfl⟩ := List.append_inj e1 hb1
      have hb2 : (n1.map (·.key)).length = k1.length := by rw [c1.len]; simp; omega
      obtain ⟨rfl, rfl⟩ := List.append_inj e3 hb2
      simp only [Ds] at d2
      obtain ⟨vj, r2, Fj, F3, e4, rfl, dj, d3⟩ := d2
      simp only [List.cons.injEq] at e4
      obtain ⟨rfl, rfl⟩ := e4
      simp only [CIs] at c2
      obtain ⟨kj, r4, e5, cj, c3⟩ := c2
      simp only [List.cons.injEq] at e5
      obtain ⟨rfl, rfl⟩ := e5
      refine ⟨ents.modify j fun e => { e with key := a.eval i, val := a.eval y }, clk, ?_, ?_, F1 ++ F3, ?_, ?_⟩
      · have hj2 : ents[j]? = some e := by simpa using q4
        simp [execOp, hop, Instr.mapUpdate, run_underlying hm, ev, MapKept.run_getObj_map hh, MapKept.run_checkKey hk (isKey_ok hd hkv), MapKept.run_findKey hk q2, hj2, q5, MapKept.run_keyThatStays (isKey_ok hd hkv), MapKept.run_setObj_map _ hh, Result.andThen]
      · rw [q3, hmod]
        simp only [hset, List.map_append, List.map_cons]
        exact CIs_append.2 ⟨_, _, rfl, c1, by simp only [CIs]; exact ⟨_, _, rfl, hkv, c3⟩⟩
      · rw [q3, hmod]
        simp only [hset, List.map_append, List.map_cons]
        exact Ds_append.2 ⟨_, _, F1, F3, rfl, rfl, d1, by simp only [Ds]; exact ⟨_, _, [], F3, rfl, rfl, .inr ⟨h3, rfl⟩, d3⟩⟩
      · rw [e2]; exact List.Sublist.append (List.Sublist.refl _) (List.sublist_append_right _ _)
  generalize (match mfind k es with | some j => es.set j (k, v) | none => es ++ [(k, v)]) = es' at hkn hdn hn
  obtain ⟨hs1, hs2⟩ := MapKept.heap_set (o' := .map ents' clk') hh
  have hmB := hR.mine _ _ hgt B.b (by rw [hF]; simp)
  have hFn := hR.nodup _ _ hgt
  rw [hF] at hFn
  have hoth : ∀ b, b ≠ B.b → ({ w with heap := w.heap.setIfInBounds B.b (.map ents' clk') } : World).heap[b]? = w.heap[b]? := hs2
  have hwO : ∀ b, O b → ({ w with heap := w.heap.setIfInBounds B.b (.map ents' clk') } : World).heap[b]? = w.heap[b]? := fun b hb => hoth b (by rintro rfl; exact hmB.1 hb)
  have hkp : Keep w [B.b] { w with heap := w.heap.setIfInBounds B.b (.map ents' clk') } := by
    refine ⟨rfl, rfl, rfl, by simp, fun b _ hb => hoth b (by simpa using hb), fun b c e f hc => ?_⟩
    have hne : b ≠ B.b := by rintro rfl; rw [hh] at hc; simp at hc
    exact ⟨c, e, f, by rw [hoth b hne]; exact hc, rfl⟩
  have hF2w : ∀ b ∈ F2, ({ w with heap := w.heap.setIfInBounds B.b (.map ents' clk') } : World).heap[b]? = w.heap[b]? := fun b hb => hoth b (by
    rintro rfl
    exact (List.nodup_cons.1 hFn).1 (hsub.subset hb))
  have hR1 := hR.set1 (t := t) (k := .mb es') (Ft := B.b :: F2) (M := [B.b]) (A' := A) (ρ' := ρ) (w' := { w with heap := w.heap.setIfInBounds B.b (.map ents' clk') }) (hp0 := s.hp)
    (fun _ h => h) (fun _ _ => rfl) hR.ρ0 hwO (fun _ _ h => h) ?_ hkp ?_ (hR.hp _ _ hgt).1 ?_ ?_ ?_ ?_
  · have h4 := hR1.put hdst (v := .dead) (u := undef) (by simp only [CV, CI])
    exact wp_skip' hrun (hn _ _ ⟨_, _, _, h4.monoA (fun t h => .inl h)⟩)
  · intro t' k' hne hk' b hb
    refine hoth b ?_
    rintro rfl
    exact hR.apart _ _ _ _ hk' hgt hne _ hb (by rw [hF]; simp)
  · intro b hb
    simp only [List.mem_singleton] at hb
    subst hb
    exact hmB.2.2
  · simp only [BR]
    exact ⟨B, ents', clk', F2, hB, hs1, hkn.cong (fun _ h => h) hwO, hdn.cong (fun _ h => h) hwO (fun _ h => h) (fun _ _ => rfl) hF2w, rfl⟩
  · exact hFn.sublist (List.Sublist.cons_cons _ hsub)
  · intro b hb
    have hb' : b ∈ F t := by rw [hF]; exact (List.Sublist.cons_cons _ hsub).subset hb
    obtain ⟨g1, g2, g3⟩ := hR.mine _ _ hgt b hb'
    exact ⟨g1, Nat.lt_of_lt_of_le g2 hkp.size, g3⟩
  · intro t' k' hne hk' b hb hin
    have hb' : b ∈ F t := by rw [hF]; exact (List.Sublist.cons_cons _ hsub).subset hb
    exact hR.apart _ _ _ _ hk' hgt hne _ hin hb'
/-- A block that a map's value refers to is the value's own. -/
theorem Wk.absorbM {b n j m sz : Nat} {es : List (T × T)} {rows : List (List T)} {c : T} (hb : hget s.hp b = some (.mb es)) (hn : hget s.hp n = some (.arr sz rows)) (hne : b ≠ n) (hj : es[j]? = some (c, .ref n 0 m)) (hm : m = rows.length) (hcl : cleanR rows = true) :
    Wk s { s with hp := hset (hdel s.hp n) b (.mb (es.set j (c, .own sz rows))) } := by
  rintro E a w ⟨⟨ρ, O, F, hR⟩, hE⟩
  have hbr := (hR.hp _ _ hb).2
  simp only [BR] at hbr
  obtain ⟨B, ents, clk, F', hB, hh, hks, hds, hF⟩ := hbr
  obtain ⟨es1, es2, he, hl1⟩ := split_at hj
  rw [he, List.map_append, List.map_cons] at hds
  obtain ⟨v1, v2, F1, F2, e1, rfl, d1, d2⟩ := Ds_append.1 hds
  simp only [Ds] at d2
  obtain ⟨u, r2, Fj, F3, e3, rfl, dj, d3⟩ := d2
  subst e3
  have hcv : CV w O ρ (· < s.nx) (.ref n 0 m) u ∧ Fj = [] := by
    rcases dj with dj | dj
    · simp only [K, CI] at dj; exact dj.1.elim
    · exact dj
  obtain ⟨hcv, rfl⟩ := hcv
  have hh1 : handed1 s (.ref n 0 m) = some (.own sz rows) := by simp only [handed1, hn, hm, hcl, and_self, if_true]
  obtain ⟨G, g1, g2, g3, _⟩ := handed1_ok hR (O2 := O) (fun _ h => h) hcv hh1
  have hGn : ∀ x ∈ G, x ∈ F n := by
    intro x hx
    obtain ⟨tk, k, h1, h2, h3⟩ := g3 x hx
    simp only [T.names, List.mem_singleton] at h1
    exact h1 ▸ h3
  have hset : es.set j (c, .own sz rows) = es1 ++ (c, .own sz rows) :: es2 := by rw [he, ← hl1, set_split]
  have hFn := hR.nodup _ _ hb
  rw [hF] at hFn
  have hmem : ∀ x ∈ B.b :: (F1 ++ (G ++ F3)), x ∈ F b ∨ x ∈ F n := by
    intro x hx
    rw [hF]
    simp only [List.mem_cons, List.mem_append, List.nil_append] at hx ⊢
    rcases hx with h | h | h | h
    · exact .inl (.inl h)
    · exact .inl (.inr (.inl h))
    · exact .inr (hGn x h)
    · exact .inl (.inr (.inr h))
  have hGb : ∀ x ∈ G, x ∉ F b := fun x hx hin => hR.apart _ _ _ _ hb hn hne x hin (hGn x hx)
  have hnd : (B.b :: (F1 ++ (G ++ F3))).Nodup := by
    have hp : (B.b :: (F1 ++ (G ++ F3))).Perm (G ++ (B.b :: (F1 ++ ([] ++ F3)))) := by
      refine List.perm_iff_count.2 fun x => ?_
      simp only [List.count_cons, List.count_append, List.nil_append]
      omega
    refine hp.nodup_iff.2 (List.nodup_append.2 ⟨g2, hFn, fun x hx y hy e => hGb x hx ?_⟩)
    subst e
    rw [hF]; exact hy
  have hsub : ∀ t k, hget (hdel s.hp n) t = some k → t ≠ n ∧ hget s.hp t = some k := by
    intro t k hk
    rw [hget_hdel] at hk
    split at hk
    · exact absurd hk (by simp)
    · exact ⟨fun e => ‹¬ n = t› e.symm, hk⟩
  have key := hR.set1 (t := b) (k := .mb (es.set j (c, .own sz rows))) (Ft := B.b :: (F1 ++ (G ++ F3))) (M := []) (hp0 := hdel s.hp n) (A' := fun t => t < s.nx) (ρ' := ρ) (w' := w) (fun _ h => h) (fun _ _ => rfl) hR.ρ0 (fun _ _ => rfl) (fun t' k hk => (hsub t' k hk).2) (fun _ _ _ _ _ _ => rfl)
    (Keep.refl _ _) (by simp) (hR.hp _ _ hb).1 ?_ hnd ?_ ?_
  · exact ⟨⟨ρ, O, _, key⟩, hE⟩
  · simp only [BR]
    refine ⟨B, ents, clk, F1 ++ (G ++ F3), hB, hh, ?_, ?_, rfl⟩
    · rw [hset]; rw [he] at hks; simpa only [List.map_append, List.map_cons] using hks
    · rw [hset, e1, List.map_append, List.map_cons]
      refine Ds_append.2 ⟨v1, u :: r2, F1, G ++ F3, rfl, rfl, d1, ?_⟩
      simp only [Ds]
      exact ⟨u, r2, G, F3, rfl, rfl, .inl g1, d3⟩
  · intro x hx
    rcases hmem x hx with h | h
    · exact hR.mine _ _ hb x h
    · exact hR.mine _ _ hn x h
  · intro t' k' hne' hk x hx hin
    obtain ⟨h1, h2⟩ := hsub _ _ hk
    rcases hmem x hx with h | h
    · exact hR.apart _ _ _ _ h2 hb hne' x hin h
    · exact hR.apart _ _ _ _ h2 hn h1 x hin h
/-- A call that comes to a map of its own; its arguments are only read. -/
def Rm (P : Program) (f : Nat) (args : List T) (es : List (T × T)) : Prop :=
  ∀ (w : World) (vs : List Value) (O : Nat → Prop), (∀ b, O b → b < w.heap.size) → CIs w O args vs →
    Calls P f vs.toArray w fun e w' => ∃ b O' F' ents clk, e = .returned (.map (some b)) ∧ (∀ b, O b → O' b) ∧ (∀ b, O' b → b < w'.heap.size) ∧ (∀ b, O' b → O b ∨ w.heap.size ≤ b) ∧
      w'.heap[b]? = some (.map ents clk) ∧ CIs w' O' (es.map Prod.fst) (ents.toList.map (·.key)) ∧ Ks w' O' (es.map Prod.snd) (ents.toList.map (·.val)) F' ∧ (b :: F').Nodup ∧ (∀ x ∈ b :: F', ¬ O' x ∧ x < w'.heap.size ∧ w.heap.size ≤ x) ∧ Keep w [] w'
def finM (P : Program) (rs : List ResultVar) (es : List (T × T)) : Exit → St → Prop := fun e s => (e = .normal ∨ e = .ret) ∧ ∃ s2 t, Wk s s2 ∧ resK P s2 rs = some [.mp t] ∧ hget s2.hp t = some (.mb es) ∧ (es.map Prod.snd).all T.pl = true
theorem fin_map {rs : List ResultVar} {es : List (T × T)} {s2 : St} (t : Nat) (hw : Wk s s2) (h1 : resK P s2 rs = some [.mp t]) (h2 : hget s2.hp t = some (.mb es)) (h3 : (es.map Prod.snd).all T.pl = true) : finM P rs es .ret s := ⟨.inr rfl, s2, t, hw, h1, h2, h3⟩
theorem Ks_of_CIs : ∀ {ts : List T} {vs : List Value}, CIs w O ts vs → Ks w O ts vs []
  | [], vs, h => by simp only [CIs] at h; simp [Ks, h]
  | t :: ts, vs, h => by
    simp only [CIs] at h
    obtain ⟨v, r, rfl, h1, h2⟩ := h
    simp only [Ks]
    exact ⟨v, r, [], [], rfl, rfl, K_of_CI h1, Ks_of_CIs h2⟩
theorem K_of_D {c : T} {u : Value} {G : List Nat} (hc : c.pl = true) (h : D w O ρ A c u G) : K w O c u G := by
  rcases h with h | ⟨h, rfl⟩
  · exact h
  · cases c <;> simp [T.pl] at hc <;> simp only [CV] at h <;> exact K_of_CI h
theorem Ks_of_Ds : ∀ {ts : List T} {vs : List Value} {G : List Nat}, ts.all T.pl = true → Ds w O ρ A ts vs G → Ks w O ts vs G
  | [], vs, G, hp, h => by simp only [Ds] at h; simp [Ks, h]
  | t :: ts, vs, G, hp, h => by
    simp only [List.all_cons, Bool.and_eq_true] at hp
    simp only [Ds] at h
    obtain ⟨v, r, F1, F2, rfl, rfl, h1, h2⟩ := h
    simp only [Ks]
    exact ⟨v, r, F1, F2, rfl, rfl, K_of_D hp.1 h1, Ks_of_Ds hp.2 h2⟩
theorem Rm.of {M : List (Nat × CM)} {f : Nat} {fn : Func} {pc : PC} {args : List T} {es : List (T × T)} {rs : List ResultVar} {m : Nat} (hf : P.funcs[f]? = some fn) (hc : (fn.body).bind (comp P M fn.ntmps) = some pc) (hr : fn.results = rs.toArray) (hnt : fn.ntmps = m) (ha : args.length ≤ m)
    (h : W P M m pc (enter args) (finM P rs es)) : Rm P f args es := by
  obtain ⟨c, hb, hc⟩ := bodyOf hc
  subst hnt
  intro w vs O hO hk
  have hlen := hk.len
  obtain ⟨ρ0, hv, hr0⟩ := entry (n := fn.ntmps) (G := []) hO (Ks_of_CIs hk) (by simp) (by simp) (by omega)
  refine calls_of_wp hf hb (wp_mono (W_sound hc h rfl hr0) ?_)
  rintro e a' w' ⟨s', ⟨he, s2, t, hwk, hres, hg, hpl⟩, hr'⟩
  obtain ⟨⟨ρ, O', F, hR⟩, hfb⟩ := hwk _ _ _ hr'
  obtain ⟨u, hu, hcu⟩ := results_ok (fn := fn) hR (by rw [hr]; simpa using hres)
  obtain ⟨B, ents, clk, F', rfl, hB, hh, hks, hds, hF⟩ := map_at hR hg (by simpa [res1] using hcu)
  have hfin : a'.defers = [] ∧ ∃ v, (results fn a'.tmps).run P w' = .ok v w' ∧ (∃ b O' F' ents clk, Ending.returned v = .returned (.map (some b)) ∧ (∀ b, O b → O' b) ∧ (∀ b, O' b → b < w'.heap.size) ∧ (∀ b, O' b → O b ∨ w.heap.size ≤ b) ∧
      w'.heap[b]? = some (.map ents clk) ∧ CIs w' O' (es.map Prod.fst) (ents.toList.map (·.key)) ∧ Ks w' O' (es.map Prod.snd) (ents.toList.map (·.val)) F' ∧ (b :: F').Nodup ∧ (∀ x ∈ b :: F', ¬ O' x ∧ x < w'.heap.size ∧ w.heap.size ≤ x) ∧ Keep w [] w') := by
    refine ⟨hR.defers, _, hu, B.b, O', F', ents, clk, rfl, hR.O0, hR.Olt, ?_, hh, hks, Ks_of_Ds hpl hds, by rw [← hF]; exact hR.nodup _ _ hg, ?_, hR.keep⟩
    · intro b hb'
      rcases hR.Onew b hb' with h | h | h
      · exact .inl h
      · exact .inr h
      · simp at h
    · intro x hx
      obtain ⟨h1, h2, h3⟩ := hR.mine _ _ hg x (by rw [hF]; exact hx)
      exact ⟨h1, h2, h3.resolve_right (by simp)⟩
  rcases he with rfl | rfl
  · exact hfin
  · exact hfin
theorem hook_callM {c : Call} {f : Nat} {args : List T} {es : List (T × T)} (hc : c.callee = .value (.func f)) (hok : okCall P f = true) (hcl : ∀ t ∈ args, t.clean = true ∨ ∃ cs, t = .agg cs ∧ cs.all T.clean = true) (h : Rm P f args es) : HookOk P (.call c) (.fn f [] :: args) [] n (.mp n) [(n, some (.mb es))] := by
  intro E A ρ O F s a w o ys next Q hop hys hxs hR hd hg hfb hfr hn
  have hops : (Op.call c).operands.toList = .func f :: c.args.toList := by
    simp [Op.operands, Call.operands, hc]
  rw [hops] at hys
  simp only [List.mapM_cons, opd, Option.pure_def, Option.bind_eq_bind, Option.bind_some, Option.bind_eq_some_iff, Option.some.injEq] at hys
  obtain ⟨zs, hz, rfl⟩ := hys
  simp only [List.map_cons, List.cons.injEq] at hxs
  obtain ⟨_, rfl⟩ := hxs
  have hvs := evs_ok hR hz
  have hci : CIs w O (zs.map (·.ev s)) (c.args.toList.map a.eval) := by
    have : ∀ {ts : List T} {vs : List Value}, (∀ t ∈ ts, t.clean = true ∨ ∃ cs, t = .agg cs ∧ cs.all T.clean = true) → CVs w O ρ A ts vs → CIs w O ts vs := by
      intro ts
      induction ts with
      | nil => intro vs _ hv; simpa only [CVs, CIs] using hv
      | cons t ts ih =>
        intro vs hcl hv
        simp only [CVs] at hv
        simp only [CIs]
        obtain ⟨v, r, e, h1, h2⟩ := hv
        refine ⟨v, r, e, ?_, ih (fun t ht => hcl t (List.mem_cons_of_mem _ ht)) h2⟩
        rcases hcl t (by simp) with h | ⟨cs, rfl, h⟩
        · exact CI_of_closed (by cases t <;> first | exact h | (simp [T.clean] at h)) h1
        · simp only [CV] at h1
          simp only [CI]
          obtain ⟨us, e, h1⟩ := h1
          exact ⟨us, e, CIs_of_clean h h1⟩
    exact this hcl hvs
  have hrun : (execOp a.eval o).run P w = .ok (.enter f (c.args.toList.map a.eval).toArray) w := by
    simp only [execOp, hop, resolve, hc, Act.eval, Deferred.ofValue, Sem.run_bind, Sem.run_pure, Result.andThen_ok, invoke]
    rw [run_enter hok]
    congr 2
    apply Array.ext'
    simp
  unfold Oper.wp
  rw [hrun, Oper.upon_enter]
  refine (h w _ O hR.Olt hci).mono ?_
  rintro e w' ⟨b, O', F', ents, clk, rfl, hOO, hOlt, hOn, hh, hks, hvals, hnd, hm, hk⟩
  simp only
  have hnA : ¬ A n := hfr n (Nat.le_refl _) (by simp)
  have hOw : ∀ b, O b → w'.heap[b]? = w.heap[b]? := fun b hb => hk.block b (hR.Olt b hb) (by simp)
  have hFw : ∀ t k, hget s.hp t = some k → ∀ b ∈ F t, w'.heap[b]? = w.heap[b]? := fun t k hk' b hb => hk.block b (hR.mine t k hk' b hb).2.1 (by simp)
  let ρ' : Nat → Option RB := fun x => if x = n then some ⟨b, 0, 0, 0⟩ else ρ x
  have hρ : ∀ t, A t → ρ' t = ρ t := fun t ht => if_neg (fun (h : t = n) => hnA (by rw [← h]; exact ht))
  have hA : ∀ t, A t → Aext A n 1 t := fun t h => .inl h
  have hR1 : R E (Aext A n 1) ρ' O' F s a w' := hR.world (M := []) hA hOO hρ (fun t ht => by
    have : t ≠ n := by omega
    simp only [ρ', if_neg this]; exact hR.ρ0 t ht) hOw hFw hOlt (fun b hb => (hOn b hb).imp id (fun h => ⟨.inl (Nat.le_trans hR.keep.size h), fun t k hk' hin => by have := (hR.mine t k hk' b hin).2.1; omega⟩)) hk (by simp)
  have hR2 := hR1.set1 (t := n) (k := .mb es) (Ft := b :: F') (M := []) (A' := Aext A n 1) (ρ' := ρ') (w' := w') (hp0 := s.hp)
    (fun _ h => h) (fun _ _ => rfl) hR1.ρ0 (fun _ _ => rfl) (fun _ _ h => h) (fun _ _ _ _ _ _ => rfl) (Keep.refl _ _) (by simp) (.inr ⟨Nat.le_refl _, by omega⟩) ?_ hnd (fun x hx => ⟨(hm x hx).1, (hm x hx).2.1, .inl (Nat.le_trans hR.keep.size (hm x hx).2.2)⟩) (fun t' k' hne hk' x hx hin => by
      have h1 := (hR.mine t' k' hk' x hin).2.1
      have h2 := (hm x hx).2.2
      omega)
  · have hR3 := hR2.put hd (v := .mp n) (u := .map (some b)) (by simp only [CV]; exact ⟨.inr ⟨Nat.le_refl _, by omega⟩, ⟨b, 0, 0, 0⟩, by simp [ρ'], rfl⟩)
    exact hn _ _ ⟨_, _, _, hR3⟩
  · simp only [BR]
    exact ⟨⟨b, 0, 0, 0⟩, ents, clk, F', by simp [ρ'], hh, hks, Ds_of_Ks hvals, rfl⟩
end
end Go.Proofs.Ytehdfbhfbidadaa.V

/- Structs of two texts, compared. -/
namespace Go.Proofs.Ytehdfbhfbidadaa.V
open Go
set_option linter.unusedVariables false
set_option linter.unusedSimpArgs false
section
variable {P : Program} {n : Nat}
theorem hook_eq2 {t st t' : TypeId} {x y : Operand} {a1 a2 b1 b2 : List UInt8} {f0 f1 : Field} (ht : P.underlying t = some (.struct (P.fieldsOf t))) (hp : P.stoodInHeld t = false) (hg : P.eqGuardType P.depth t = false) (hfs : (P.fieldsOf t).toList = [f0, f1])
    (h0 : f0.type = st ∧ f0.offset = 0 ∧ (f0.name ≠ "_")) (h1 : f1.type = st ∧ f1.offset = 1 ∧ (f1.name ≠ "_")) (hs : P.underlying st = some .string) :
    HookOk P (.binOp .eql t x y t') [.agg [.s a1, .s a2], .agg [.s b1, .s b2]] [] n (.b (decide (a1 = b1) && decide (a2 = b2))) [] := by
  intro E A ρ O F s a w o ys next Q hop hys hxs hR hdst hg0 hfb hFR hn
  have hops : (Op.binOp .eql t x y t').operands.toList = [x, y] := by simp [Op.operands]
  rw [hops] at hys
  obtain ⟨q1, q2⟩ := two_args hR hys hxs
  simp only [CV, CVs, CI] at q1 q2
  obtain ⟨us, e1, v1, r1, rfl, rfl, v2, r2, rfl, rfl, rfl⟩ := q1
  obtain ⟨us', e2, v1', r1', rfl, rfl, v2', r2', rfl, rfl, rfl⟩ := q2
  have hpart : ∀ (xs : Array Value) (k : Nat) (v : Value), xs[k]? = some v → (part st xs k).run P w = .ok v w := by
    intro xs k v hv
    simp [part, isAgg, run_underlying hs, Result.andThen, hv]
  have hp0 : ∀ c d : Value, (part st #[c, d] 0).run P w = .ok c w := fun c d => hpart _ 0 c rfl
  have hp1 : ∀ c d : Value, (part st #[c, d] 1).run P w = .ok d w := fun c d => hpart _ 1 d rfl
  have hrun : (execOp a.eval o).run P w = .ok (.value (.bool (decide (a1 = b1) && decide (a2 = b2)))) w := by
    have hL : ∀ l : List UInt8, (⟨l.toArray⟩ : ByteArray).toList = l := fun l => str_toList l
    have hbq : ∀ l l' : List UInt8, (l == l') = decide (l = l') := fun l l' => by by_cases h : l = l' <;> simp [h]
    simp only [execOp, hop, e1, e2, Sem.run_bind, run_eqGuard_agg w .eql t x y _ _ hg, Result.andThen_ok, run_eql_struct, run_equalIn_agg w 9999 t _ _ ht hp, hfs, Op.eqFields]
    simp only [h0.1, h0.2.1, h1.1, h1.2.1, ne_eq, h0.2.2, h1.2.2, not_false_eq_true, if_true, Sem.run_bind, hp0, hp1, Result.andThen_ok, run_equalIn_string w 9998 st _ _ hs, hL, hbq]
    by_cases c1 : a1 = b1 <;> by_cases c2 : a2 = b2 <;> simp [c1, c2, Sem.run_bind, hp0, hp1, run_equalIn_string w 9998 st _ _ hs, hL, Result.andThen]
  have hR2 := hR.put hdst (v := .b (decide (a1 = b1) && decide (a2 = b2))) (u := .bool (decide (a1 = b1) && decide (a2 = b2))) (by simp only [CV, CI])
  exact wp_value hrun (hn _ _ ⟨_, _, _, hR2.monoA (fun t h => .inl h)⟩)
end
end Go.Proofs.Ytehdfbhfbidadaa.V
