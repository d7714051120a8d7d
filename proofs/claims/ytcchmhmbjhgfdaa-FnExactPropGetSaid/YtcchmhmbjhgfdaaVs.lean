/- The machine of trees: a function. -/
import Derived.Test.YtcchmhmbjhgfdaaVr
namespace Go.Proofs.Ytcchmhmbjhgfdaa.V
open Go
set_option linter.unusedVariables false
set_option linter.unusedSimpArgs false
/-- The slots' numbers from 'j' on. -/
def slotsOf : Nat → List T → List (Nat × T)
  | _, [] => []
  | j, t :: ts => (j, t) :: slotsOf (j + 1) ts
/-- The state that a call begins in. -/
def enter (args : List T) : St := { tm := slotsOf 0 (mats args 0).1, hp := hap [] (news (mats args 0).2), nx := (mats args 0).2.length, fb := (mats args 0).2.length }
mutual
def rf (s : St) : T → T → List Nat → Prop
  | .ref t o n, .own sz rows, ts => ts = [t] ∧ match hget s.hp t with
    | some (.arr sz' rs) => o + n ≤ rs.length ∧ sz' = sz ∧ (rs.drop o).take n = rows ∧ cleanR rows = true
    | _ => False
  | .nl, .own _ rows, ts => rows = [] ∧ ts = []
  | .agg cs, .agg rs, ts => rfs s cs rs ts
  | .tup cs, .tup rs, ts => rfs s cs rs ts
  | .fn _ _, _, _ => False
  | .ifc _ _, _, _ => False
  | .ref _ _ _, _, _ => False
  | .ptr _ _ _, _, _ => False
  | .mp _, _, _ => False
  | .agg _, _, _ => False
  | .tup _, _, _ => False
  | x, r, ts => x = r ∧ ts = []
def rfs (s : St) : List T → List T → List Nat → Prop
  | [], [], ts => ts = []
  | c :: cs, r :: rs, ts => ∃ t1 t2, ts = t1 ++ t2 ∧ rf s c r t1 ∧ rfs s cs rs t2
  | _, _, _ => False
end
def T.gives1 : T → Bool | .own _ _ => true | .bx _ => true | _ => false
def T.gives : T → Bool | .agg cs => cs.any T.gives1 | t => t.gives1
/-- What is handed back of a struct. -/
def takeCs (s : St) : List T → List T → Option (List T)
  | [], [] => some []
  | t :: as, e :: es => match takeCs s as es with
    | some xs => if t.gives1 = true then (match handed1 s e with
      | some x => some (x :: xs)
      | none => none) else some (.dead :: xs)
    | none => none
  | _, _ => none
def takeCN : List T → List T → List Nat
  | t :: as, e :: es => (if t.gives1 = true then e.names else []) ++ takeCN as es
  | _, _ => []
def take1 (s : St) : T → T → Option T
  | .agg cs, .agg es => (takeCs s cs es).map .agg
  | .agg _, _ => none
  | _, e => handed1 s e
def takeN : T → T → List Nat
  | .agg cs, .agg es => takeCN cs es
  | .agg _, _ => []
  | _, e => e.names
/-- What is handed back. -/
def taken (s : St) : List T → List T → Option (List T)
  | [], [] => some []
  | t :: as, e :: es => match taken s as es with
    | some xs => if t.gives = true then (match take1 s t e with
      | some x => some (x :: xs)
      | none => none) else some (.dead :: xs)
    | none => none
  | _, _ => none
/-- The names of what was handed over. -/
def takenN : List T → List T → List Nat
  | t :: as, e :: es => (if t.gives = true then takeN t e else []) ++ takenN as es
  | _, _ => []
/-- The result variables. -/
def resK (P : Program) (s : St) : List ResultVar → Option (List T)
  | [] => some []
  | .tmp t :: r => match resK P s r with
    | some xs => some (tget s.tm t :: xs)
    | none => none
  | .cell a t :: r => match tget s.tm a, shp P t, resK P s r with
    | .ptr tk rr o, some m, some xs => match hget s.hp tk with
      | some (.arr _ rows) => match rows[rr]? with
        | some row => if o + m.getD 1 ≤ row.length ∧ (((row.drop o).take (m.getD 1)).all T.cell) = true then (match m, (row.drop o).take (m.getD 1) with
          | some _, cs => some (.agg cs :: xs)
          | none, [c] => some (c :: xs)
          | _, _ => none) else none
        | none => none
      | _ => none
    | _, _, _ => none
def res1 : List T → T
  | [x] => x
  | xs => .tup xs
/-- What a function's end must show. -/
def fin (P : Program) (rs : List ResultVar) (args : List T) (r : T) (outs : List T) : Exit → St → Prop := fun e s => (e = .normal ∨ e = .ret) ∧ ∃ s2, Wk s s2 ∧ ∃ xs ts, resK P s2 rs = some xs ∧ rf s2 (res1 xs) r ts ∧ taken s2 args (mats args 0).1 = some outs ∧ (ts ++ takenN args (mats args 0).1).Nodup
section
variable {P : Program} {E : Env} {A A' : Nat → Prop} {ρ ρ' : Nat → Option RB} {O O' O2 : Nat → Prop} {F F' : Nat → List Nat} {s : St} {a : Act} {w w' : World} {M : List (Nat × CM)}
theorem rf_ref (hR : R E A ρ O F s a w) {tk p m sz : Nat} {rows : List (List T)} {ts : List Nat} {v : Value} (hv : CV w O ρ A (.ref tk p m) v) (h : rf s (.ref tk p m) (.own sz rows) ts) : ∃ G, K w O (.own sz rows) v G ∧ G.Nodup ∧ ∀ b ∈ G, ∃ tk k, tk ∈ ts ∧ hget s.hp tk = some k ∧ b ∈ F tk := by
  simp only [rf] at h
  obtain ⟨rfl, h⟩ := h
  split at h
  case h_2 => exact h.elim
  rename_i sz' rs hg
  obtain ⟨hpm, rfl, rfl, hcl⟩ := h
  simp only [CV] at hv
  obtain ⟨hA, hv⟩ := hv
  have hlen : ((rs.drop p).take m).length = m := by simp; omega
  simp only [K]
  rcases (hR.hp _ _ hg).2.seg hpm with ⟨rfl, _, hn⟩ | ⟨B, c, e, us1, us, us2, F1, Fm, F2, hB, hsz, hcap, hsr, hb, hcs, hd, hm, l1, l2, hFt⟩
  · simp only [List.length_nil] at hpm
    obtain ⟨q1, e⟩ := ref_empty (by omega) (by omega) hv hn
    exact ⟨[], .inl ⟨by simp, ⟨q1, e⟩, rfl⟩, by simp, by simp⟩
  · rcases hv with ⟨hn, _⟩ | ⟨B', hB', b', o', c', e', hc', hmc, hbo⟩
    · rw [hn] at hB; exact absurd hB (by simp)
    obtain rfl : B = B' := Option.some.inj (hB.symm.trans hB')
    have hndF := hR.nodup _ _ hg
    rw [hFt] at hndF
    have hndt := List.nodup_cons.1 hndF
    rcases hbo with h00 | ⟨rfl, rfl⟩
    · subst h00
      have hm0 : m = 0 := by omega
      subst hm0
      exact ⟨[], .inl ⟨by simp, ⟨_, e'⟩, rfl⟩, by simp, by simp⟩
    · refine ⟨B.b :: Fm, .inr ⟨B.b, B.o + p * B.sz, c', c, e, us, Fm, by rw [hlen]; exact e', hb, by rw [hlen]; exact hmc, ?_, fun r hr => hsr r (List.mem_of_mem_drop (List.mem_of_mem_take hr)), rfl, Dr_K hd hcl, ?_⟩, ?_, ?_⟩
      · have : p * B.sz + c' * B.sz = B.cap * B.sz := by rw [← Nat.add_mul, hc']
        rw [hsz]; omega
      · intro j u hj
        have := hm (us1.length + j) u (by
          rw [List.append_assoc, List.getElem?_append_right (by omega), Nat.add_sub_cancel_left, List.getElem?_append_left (getElem?_len hj)]; exact hj)
        rw [l1, hsz] at this
        rw [← this]; congr 1; omega
      · exact List.nodup_cons.2 ⟨fun h => hndt.1 (by simp [h]), hndt.2.sublist (List.Sublist.trans (List.sublist_append_right F1 Fm) (List.sublist_append_left _ F2))⟩
      · intro b hb
        refine ⟨tk, _, by simp, hg, ?_⟩
        rw [hFt]
        rcases List.mem_cons.1 hb with rfl | hb
        · simp
        · simp [hb]
mutual
theorem rf_ok (hR : R E A ρ O F s a w) : ∀ {x r : T} {ts : List Nat} {v : Value}, CV w O ρ A x v → rf s x r ts → ts.Nodup → ∃ G, K w O r v G ∧ G.Nodup ∧ ∀ b ∈ G, ∃ tk k, tk ∈ ts ∧ hget s.hp tk = some k ∧ b ∈ F tk
  | .ref tk p m, r, ts, v, hv, h, hnd => by
    cases r <;> first
      | exact rf_ref hR hv h
      | (simp only [rf] at h)
  | .nl, r, ts, v, hv, h, hnd => by
    simp only [CV, CI] at hv
    cases r <;> simp only [rf] at h <;> first
      | (obtain ⟨rfl, rfl⟩ := h
         exact ⟨[], by simp only [K]; exact .inl ⟨trivial, ⟨none, hv⟩, trivial⟩, by simp, by simp⟩)
      | (obtain ⟨h1, rfl⟩ := h
         first
           | (cases h1; done)
           | exact ⟨[], by simp only [K, CI]; exact ⟨hv, trivial⟩, by simp, by simp⟩)
  | .agg cs, r, ts, v, hv, h, hnd => by
    cases r <;> simp only [rf] at h
    simp only [CV] at hv
    obtain ⟨us, e, hv⟩ := hv
    obtain ⟨G, h1, h2, h3⟩ := rfs_ok hR hv h hnd
    exact ⟨G, by simp only [K]; exact ⟨us, e, h1⟩, h2, h3⟩
  | .tup cs, r, ts, v, hv, h, hnd => by
    cases r <;> simp only [rf] at h
    simp only [CV] at hv
    obtain ⟨us, e, hv⟩ := hv
    obtain ⟨G, h1, h2, h3⟩ := rfs_ok hR hv h hnd
    exact ⟨G, by simp only [K]; exact ⟨us, e, h1⟩, h2, h3⟩
  | .un, r, ts, v, hv, h, hnd => by
    have h' : T.un = r ∧ ts = [] := by cases r <;> simpa only [rf] using h
    obtain ⟨rfl, rfl⟩ := h'
    exact ⟨[], by simp only [CV] at hv; simp only [K]; exact ⟨hv, trivial⟩, by simp, by simp⟩
  | .dead, r, ts, v, hv, h, hnd => by
    have h' : T.dead = r ∧ ts = [] := by cases r <;> simpa only [rf] using h
    obtain ⟨rfl, rfl⟩ := h'
    exact ⟨[], by simp only [CV] at hv; simp only [K]; exact ⟨hv, trivial⟩, by simp, by simp⟩
  | .b x, r, ts, v, hv, h, hnd => by
    have h' : T.b x = r ∧ ts = [] := by cases r <;> simpa only [rf] using h
    obtain ⟨rfl, rfl⟩ := h'
    exact ⟨[], by simp only [CV] at hv; simp only [K]; exact ⟨hv, trivial⟩, by simp, by simp⟩
  | .i k n, r, ts, v, hv, h, hnd => by
    have h' : T.i k n = r ∧ ts = [] := by cases r <;> simpa only [rf] using h
    obtain ⟨rfl, rfl⟩ := h'
    exact ⟨[], by simp only [CV] at hv; simp only [K]; exact ⟨hv, trivial⟩, by simp, by simp⟩
  | .s l, r, ts, v, hv, h, hnd => by
    have h' : T.s l = r ∧ ts = [] := by cases r <;> simpa only [rf] using h
    obtain ⟨rfl, rfl⟩ := h'
    exact ⟨[], by simp only [CV] at hv; simp only [K]; exact ⟨hv, trivial⟩, by simp, by simp⟩
  | .imm rows, r, ts, v, hv, h, hnd => by
    have h' : T.imm rows = r ∧ ts = [] := by cases r <;> simpa only [rf] using h
    obtain ⟨rfl, rfl⟩ := h'
    exact ⟨[], by simp only [CV] at hv; simp only [K]; exact ⟨hv, trivial⟩, by simp, by simp⟩
  | .np, r, ts, v, hv, h, hnd => by
    have h' : T.np = r ∧ ts = [] := by cases r <;> simpa only [rf] using h
    obtain ⟨rfl, rfl⟩ := h'
    exact ⟨[], by simp only [CV] at hv; simp only [K]; exact ⟨hv, trivial⟩, by simp, by simp⟩
  | .pim cs, r, ts, v, hv, h, hnd => by
    have h' : T.pim cs = r ∧ ts = [] := by cases r <;> simpa only [rf] using h
    obtain ⟨rfl, rfl⟩ := h'
    exact ⟨[], by simp only [CV] at hv; simp only [K]; exact ⟨hv, trivial⟩, by simp, by simp⟩
  | .nfn, r, ts, v, hv, h, hnd => by
    have h' : T.nfn = r ∧ ts = [] := by cases r <;> simpa only [rf] using h
    obtain ⟨rfl, rfl⟩ := h'
    exact ⟨[], by simp only [CV] at hv; simp only [K]; exact ⟨hv, trivial⟩, by simp, by simp⟩
  | .nif, r, ts, v, hv, h, hnd => by
    have h' : T.nif = r ∧ ts = [] := by cases r <;> simpa only [rf] using h
    obtain ⟨rfl, rfl⟩ := h'
    exact ⟨[], by simp only [CV] at hv; simp only [K]; exact ⟨hv, trivial⟩, by simp, by simp⟩
  | .nmp, r, ts, v, hv, h, hnd => by
    have h' : T.nmp = r ∧ ts = [] := by cases r <;> simpa only [rf] using h
    obtain ⟨rfl, rfl⟩ := h'
    exact ⟨[], by simp only [CV] at hv; simp only [K]; exact ⟨hv, trivial⟩, by simp, by simp⟩
  | .own _ _, r, ts, v, hv, h, hnd => by simp only [CV, CI] at hv
  | .bx _, r, ts, v, hv, h, hnd => by simp only [CV, CI] at hv
  | .fn _ _, r, ts, v, hv, h, hnd => by simp only [rf] at h
  | .ifc _ _, r, ts, v, hv, h, hnd => by simp only [rf] at h
  | .ptr _ _ _, r, ts, v, hv, h, hnd => by simp only [rf] at h
  | .mp _, r, ts, v, hv, h, hnd => by simp only [rf] at h
theorem rfs_ok (hR : R E A ρ O F s a w) : ∀ {xs rs : List T} {ts : List Nat} {vs : List Value}, CVs w O ρ A xs vs → rfs s xs rs ts → ts.Nodup → ∃ G, Ks w O rs vs G ∧ G.Nodup ∧ ∀ b ∈ G, ∃ tk k, tk ∈ ts ∧ hget s.hp tk = some k ∧ b ∈ F tk
  | [], [], ts, vs, hv, h, hnd => by
    simp only [CVs] at hv
    exact ⟨[], by simp [Ks, hv], by simp, by simp⟩
  | c :: cs, r :: rs, ts, vs, hv, h, hnd => by
    simp only [rfs] at h
    obtain ⟨t1, t2, rfl, h1, h2⟩ := h
    simp only [CVs] at hv
    obtain ⟨v, r', rfl, hv1, hv2⟩ := hv
    have hnd' := List.nodup_append.1 hnd
    obtain ⟨G1, g1, g2, g3⟩ := rf_ok hR hv1 h1 hnd'.1
    obtain ⟨G2, k1, k2, k3⟩ := rfs_ok hR hv2 h2 hnd'.2.1
    refine ⟨G1 ++ G2, by simp only [Ks]; exact ⟨v, r', G1, G2, rfl, rfl, g1, k1⟩, List.nodup_append.2 ⟨g2, k2, ?_⟩, ?_⟩
    · rintro b hb b' hb' rfl
      obtain ⟨tk, k, h4, h5, h6⟩ := g3 b hb
      obtain ⟨tk', k', h7, h8, h9⟩ := k3 b hb'
      exact hR.apart _ _ _ _ h5 h8 (hnd'.2.2 tk h4 tk' h7) b h6 h9
    · intro b hb
      rcases List.mem_append.1 hb with hb | hb
      · obtain ⟨tk, k, h4, h5, h6⟩ := g3 b hb
        exact ⟨tk, k, by simp [h4], h5, h6⟩
      · obtain ⟨tk, k, h4, h5, h6⟩ := k3 b hb
        exact ⟨tk, k, by simp [h4], h5, h6⟩
  | [], _ :: _, ts, vs, hv, h, hnd => by simp only [rfs] at h
  | _ :: _, [], ts, vs, hv, h, hnd => by simp only [rfs] at h
end
theorem Ks_join (hR : R E A ρ O F s a w) {x : T} {xs : List T} {v : Value} {r : List Value} {N1 N2 G1 G2 : List Nat} (hnd : (N1 ++ N2).Nodup) (k1 : K w O x v G1) (k2 : G1.Nodup) (k3 : ∀ b ∈ G1, ∃ tk k, tk ∈ N1 ∧ hget s.hp tk = some k ∧ b ∈ F tk)
    (g1 : Ks w O xs r G2) (g2 : G2.Nodup) (g3 : ∀ b ∈ G2, ∃ tk k, tk ∈ N2 ∧ hget s.hp tk = some k ∧ b ∈ F tk) : ∃ G, Ks w O (x :: xs) (v :: r) G ∧ G.Nodup ∧ ∀ b ∈ G, ∃ tk k, tk ∈ N1 ++ N2 ∧ hget s.hp tk = some k ∧ b ∈ F tk := by
  have hnd' := List.nodup_append.1 hnd
  refine ⟨G1 ++ G2, by simp only [Ks]; exact ⟨v, r, G1, G2, rfl, rfl, k1, g1⟩, List.nodup_append.2 ⟨k2, g2, ?_⟩, ?_⟩
  · rintro b hb b' hb' rfl
    obtain ⟨tk, k, h4, h5, h6⟩ := k3 b hb
    obtain ⟨tk', k', h7, h8, h9⟩ := g3 b hb'
    exact hR.apart _ _ _ _ h5 h8 (hnd'.2.2 tk h4 tk' h7) b h6 h9
  · intro b hb
    rcases List.mem_append.1 hb with hb | hb
    · obtain ⟨tk, k, h4, h5, h6⟩ := k3 b hb
      exact ⟨tk, k, List.mem_append.2 (.inl h4), h5, h6⟩
    · obtain ⟨tk, k, h4, h5, h6⟩ := g3 b hb
      exact ⟨tk, k, List.mem_append.2 (.inr h4), h5, h6⟩
theorem takeCs_ok (hR : R E A ρ O F s a w) : ∀ {args es outs : List T} {vs : List Value}, CVs w O ρ A es vs → takeCs s args es = some outs → (takeCN args es).Nodup → ∃ G, Ks w O outs vs G ∧ G.Nodup ∧ ∀ b ∈ G, ∃ tk k, tk ∈ takeCN args es ∧ hget s.hp tk = some k ∧ b ∈ F tk
  | [], [], outs, vs, hv, h, hnd => by
    simp only [takeCs, Option.some.injEq] at h
    subst h
    simp only [CVs] at hv
    exact ⟨[], by simp [Ks, hv], by simp, by simp⟩
  | t :: args, e :: es, outs, vs, hv, h, hnd => by
    simp only [CVs] at hv
    obtain ⟨v, r, rfl, hv1, hv2⟩ := hv
    simp only [takeCs] at h
    split at h
    case h_2 => exact absurd h (by simp)
    rename_i xs hxs
    simp only [takeCN] at hnd ⊢
    obtain ⟨G2, g1, g2, g3⟩ := takeCs_ok hR hv2 hxs (List.nodup_append.1 hnd).2.1
    split at h
    · rename_i hg
      split at h
      case h_2 => exact absurd h (by simp)
      rename_i x hx
      simp only [Option.some.injEq] at h
      subst h
      obtain ⟨G1, k1, k2, k3, _⟩ := handed1_ok hR (O2 := O) (fun _ h => h) hv1 hx
      exact Ks_join hR hnd k1 k2 (by rw [if_pos hg]; exact k3) g1 g2 g3
    · simp only [Option.some.injEq] at h
      subst h
      exact Ks_join hR hnd (G1 := []) (by simp [K, CI]) (by simp) (by simp) g1 g2 g3
  | [], _ :: _, outs, vs, hv, h, hnd => by simp [takeCs] at h
  | t :: _, [], outs, vs, hv, h, hnd => by simp [takeCs] at h
theorem taken_ok (hR : R E A ρ O F s a w) : ∀ {args es outs : List T} {vs : List Value}, CVs w O ρ A es vs → taken s args es = some outs → (takenN args es).Nodup → ∃ G, Ks w O outs vs G ∧ G.Nodup ∧ ∀ b ∈ G, ∃ tk k, tk ∈ takenN args es ∧ hget s.hp tk = some k ∧ b ∈ F tk
  | [], [], outs, vs, hv, h, hnd => by
    simp only [taken, Option.some.injEq] at h
    subst h
    simp only [CVs] at hv
    exact ⟨[], by simp [Ks, hv], by simp, by simp⟩
  | t :: args, e :: es, outs, vs, hv, h, hnd => by
    simp only [CVs] at hv
    obtain ⟨v, r, rfl, hv1, hv2⟩ := hv
    simp only [taken] at h
    split at h
    case h_2 => exact absurd h (by simp)
    rename_i xs hxs
    simp only [takenN] at hnd ⊢
    obtain ⟨G2, g1, g2, g3⟩ := taken_ok hR hv2 hxs (List.nodup_append.1 hnd).2.1
    split at h
    · rename_i hg
      rw [if_pos hg] at hnd ⊢
      split at h
      case h_2 => exact absurd h (by simp)
      rename_i x hx
      simp only [Option.some.injEq] at h
      subst h
      have one : ∃ G1, K w O x v G1 ∧ G1.Nodup ∧ ∀ b ∈ G1, ∃ tk k, tk ∈ takeN t e ∧ hget s.hp tk = some k ∧ b ∈ F tk := by
        have hnd1 := (List.nodup_append.1 hnd).1
        have leaf : handed1 s e = some x → takeN t e = e.names → ∃ G1, K w O x v G1 ∧ G1.Nodup ∧ ∀ b ∈ G1, ∃ tk k, tk ∈ takeN t e ∧ hget s.hp tk = some k ∧ b ∈ F tk := by
          intro h1 h2
          obtain ⟨G1, k1, k2, k3, _⟩ := handed1_ok hR (O2 := O) (fun _ h => h) hv1 h1
          exact ⟨G1, k1, k2, by rw [h2]; exact k3⟩
        cases t <;> first
          | (simp only [take1] at hx; exact leaf hx rfl)
          | skip
        rename_i cs
        cases e <;> simp only [take1] at hx <;> first
          | (cases hx; done)
          | skip
        rename_i ds
        simp only [Option.map_eq_some_iff] at hx
        obtain ⟨ys, hys, rfl⟩ := hx
        simp only [takeN] at hnd1 ⊢
        simp only [CV] at hv1
        obtain ⟨us, e', hv1⟩ := hv1
        obtain ⟨G1, k1, k2, k3⟩ := takeCs_ok hR hv1 hys hnd1
        exact ⟨G1, by simp only [K]; exact ⟨us, e', k1⟩, k2, k3⟩
      obtain ⟨G1, k1, k2, k3⟩ := one
      exact Ks_join hR hnd k1 k2 k3 g1 g2 g3
    · rename_i hg
      rw [if_neg hg] at hnd ⊢
      simp only [Option.some.injEq] at h
      subst h
      exact Ks_join hR hnd (G1 := []) (by simp [K, CI]) (by simp) (by simp) g1 g2 g3
  | [], _ :: _, outs, vs, hv, h, hnd => by simp [taken] at h
  | t :: _, [], outs, vs, hv, h, hnd => by simp [taken] at h
/-- The result variables, as they are read. -/
def readVar (P : Program) (tmps : Array Value) : ResultVar → Sem Value
  | .tmp t => pure (tmps.getD t undef)
  | .cell a t => do loadVar t (← asAddr (tmps.getD a undef))
theorem res_ok (hR : R E A ρ O F s a w) : ∀ {rs : List ResultVar} {xs : List T}, resK P s rs = some xs → ∃ us, (rs.mapM (readVar P a.tmps)).run P w = .ok us w ∧ CVs w O ρ A xs us
  | [], xs, h => by
    simp only [resK, Option.some.injEq] at h
    subst h
    exact ⟨[], rfl, by simp [CVs]⟩
  | .tmp t :: rs, xs, h => by
    simp only [resK] at h
    split at h
    · rename_i ys hys
      simp only [Option.some.injEq] at h
      subst h
      obtain ⟨us, h1, h2⟩ := res_ok hR hys
      refine ⟨a.tmps.getD t undef :: us, ?_, ?_⟩
      · simp only [List.mapM_cons, Sem.run_bind, readVar, Sem.run_pure, Result.andThen_ok, h1]
      · simp only [CVs]; exact ⟨_, _, rfl, hR.tm t, h2⟩
    · exact absurd h (by simp)
  | .cell c t :: rs, xs, h => by
    simp only [resK] at h
    split at h
    case h_2 => exact absurd h (by simp)
    rename_i tk rr q m ys hptr hs hys
    split at h
    case h_2 => exact absurd h (by simp)
    rename_i sz rows hg
    split at h
    case h_2 => exact absurd h (by simp)
    rename_i row hrow
    split at h
    case isFalse => exact absurd h (by simp)
    rename_i hc
    obtain ⟨hqm, hcell⟩ := hc
    obtain ⟨us, h1, h2⟩ := res_ok hR hys
    have hv := hR.tm c
    rw [hptr] at hv
    simp only [CV] at hv
    obtain ⟨hA, B, hB, e⟩ := hv
    obtain ⟨B', c', et, rs1, rs2, us1, us', us2, F1, Fr, F2, hB', hsz, hrows, hl1, hrl, hz1, hz2, hcap, hheap, hcs, hd1, hdr, hd2, hlie, hlu1, hlu, hF⟩ := (hR.hp _ _ hg).2.row hrow
    obtain rfl : B = B' := Option.some.inj (hB.symm.trans hB')
    have hrow3 : row = row.take q ++ ((row.drop q).take (m.getD 1) ++ row.drop (q + m.getD 1)) := by
      rw [← List.drop_drop, List.take_append_drop, List.take_append_drop]
    rw [hrow3] at hdr
    obtain ⟨ua, ub', Fa, Fb', rfl, rfl, hda, hdb'⟩ := Ds_append.1 hdr
    obtain ⟨ub, uc, Fb, Fc, rfl, rfl, hdb, hdc⟩ := Ds_append.1 hdb'
    have hla : ua.length = q := by rw [hda.len]; simp; omega
    have hlb : ub.length = m.getD 1 := by rw [hdb.len]; simp; omega
    have hlies : Lies w B.b (B.o + rr * B.sz + q) ub := by
      intro j u hj
      have := Lies.of_block (us := us1 ++ (ua ++ (ub ++ uc)) ++ us2) hheap hlie (us1.length + ua.length + j) u (by
        rw [show us1 ++ (ua ++ (ub ++ uc)) ++ us2 = (us1 ++ ua) ++ (ub ++ (uc ++ us2)) by simp, List.getElem?_append_right (by simp), List.getElem?_append_left (by simp; exact getElem?_len hj)]
        simpa using hj)
      rw [show B.o + rr * B.sz + q + j = B.o + (us1.length + ua.length + j) by rw [hlu1, hla, hsz]; omega]
      exact this
    have hcv := CVs_of_Ds hdb hcell
    have hload : (readVar P a.tmps (.cell c t)).run P w = .ok (ldv m ub) w := by
      have := run_loadAt (P := P) hs hlies hlb (a.tmps.getD c undef) e
      simp only [Instr.loadAt, Sem.run_bind, e, Instr.sureAddr, Sem.run_pure, Result.andThen_ok] at this
      simp only [readVar, Sem.run_bind, e, asAddr, Sem.run_pure, Result.andThen_ok, this]
    refine ⟨ldv m ub :: us, by simp only [List.mapM_cons, Sem.run_bind, hload, Result.andThen_ok, h1, Sem.run_pure], ?_⟩
    split at h
    · rename_i k cs hcs'
      simp only [Option.some.injEq] at h
      subst h
      simp only [CVs]
      refine ⟨_, _, rfl, ?_, h2⟩
      simp only [CV, ldv]
      exact ⟨ub, rfl, hcv⟩
    · rename_i cc hcc
      simp only [Option.some.injEq] at h
      subst h
      rw [hcc] at hcv
      simp only [CVs] at hcv ⊢
      obtain ⟨u, r', rfl, g1, rfl⟩ := hcv
      exact ⟨_, _, rfl, by simpa [ldv] using g1, h2⟩
    · exact absurd h (by simp)
theorem results_ok (hR : R E A ρ O F s a w) {fn : Func} {xs : List T} (h : resK P s fn.results.toList = some xs) : ∃ u, (results fn a.tmps).run P w = .ok u w ∧ CV w O ρ A (res1 xs) u := by
  obtain ⟨us, h1, h2⟩ := res_ok hR h
  have e : results fn a.tmps = (fn.results.mapM (readVar P a.tmps) >>= fun vs => pure (if h : vs.size = 1 then vs[0] else .tuple vs)) := by
    unfold results
    exact congrArg (fun g : ResultVar → Sem Value => (fn.results.mapM g >>= fun vs => pure (if h : vs.size = 1 then vs[0] else .tuple vs))) (funext fun x => by cases x <;> rfl)
  have hm : (fn.results.mapM (readVar P a.tmps)).run P w = .ok us.toArray w := by
    rw [Array.mapM_eq_mapM_toList, Sem.run_map, h1]
    rfl
  have hl := h2.len
  rw [e]
  simp only [Sem.run_bind, hm, Result.andThen_ok, Sem.run_pure]
  refine ⟨_, rfl, ?_⟩
  match xs, us, h2, hl with
  | [x], [u], h2, _ =>
    simp only [CVs] at h2
    obtain ⟨v, r, e, h3, h4⟩ := h2
    simp only [List.cons.injEq] at e
    obtain ⟨rfl, _⟩ := e
    simpa [res1] using h3
  | [], [], h2, _ => simp only [res1, CV]; exact ⟨[], by simp, h2⟩
  | x :: y :: xs, u :: v :: us, h2, _ =>
    simp only [res1, CV]
    exact ⟨u :: v :: us, by simp, h2⟩
theorem tget_slots : ∀ (ts : List T) (i j : Nat), tget (slotsOf i ts) j = if i ≤ j then ts.getD (j - i) .dead else .dead
  | [], i, j => by simp [slotsOf, tget]
  | t :: ts, i, j => by
    simp only [slotsOf, tget, tget_slots ts]
    by_cases h : i = j
    · subst h; simp
    · rw [if_neg h]
      by_cases h2 : i + 1 ≤ j
      · rw [if_pos h2, if_pos (by omega)]
        rw [show j - i = (j - (i + 1)) + 1 by omega]
        simp
      · rw [if_neg h2, if_neg (by omega)]
theorem CVs_at : ∀ {ts : List T} {vs : List Value}, CVs w O ρ A ts vs → ∀ j, CV w O ρ A (ts.getD j .dead) (vs.getD j undef)
  | [], vs, h, j => by simp [CV, CI]
  | t :: ts, vs, h, j => by
    simp only [CVs] at h
    obtain ⟨v, r, rfl, h1, h2⟩ := h
    cases j with
    | zero => simpa using h1
    | succ j => simpa using CVs_at h2 j
/-- A call begins. -/
theorem entry {args : List T} {vs : List Value} {n : Nat} {G : List Nat} (hO : ∀ b, O b → b < w.heap.size) (hk : Ks w O args vs G) (hnd : G.Nodup) (hG : ∀ b ∈ G, ¬ O b ∧ b < w.heap.size) (hn : vs.length ≤ n) :
    ∃ ρ0, CVs w O ρ0 (· < (mats args 0).2.length) (mats args 0).1 vs ∧ RelN { w0 := w, mine := G, O0 := O, ρ0 := ρ0, n := n, fb := (mats args 0).2.length } (enter args) { tmps := vs.toArray ++ Array.replicate (n - vs.toArray.size) undef, defers := [] } w := by
  obtain ⟨ρ0, h1, h2, h3⟩ := mats_K 0 (fun _ => none) (fun _ => False) hk (fun _ _ _ h => h)
  have hA : ∀ x, Aext (fun _ => False) 0 (mats args 0).2.length x ↔ x < (mats args 0).2.length := by
    intro x
    simp [Aext]
  have h2' : CVs w O ρ0 (· < (mats args 0).2.length) (mats args 0).1 vs := h2.cong (fun _ h => h) (fun _ _ => rfl) (fun x hx => (hA x).1 hx) (fun _ _ => rfl)
  have h3' : BL w O ρ0 (· < (mats args 0).2.length) 0 (mats args 0).2 G := h3.cong (fun _ h => h) (fun _ _ => rfl) (fun x hx => (hA x).1 hx) (fun _ _ => rfl) (fun _ _ => rfl) (fun x _ hx => .inr ⟨Nat.zero_le _, hx⟩)
  refine ⟨ρ0, h2', ?_, Nat.le_refl _⟩
  have hr0 : R { w0 := w, mine := G, O0 := O, ρ0 := ρ0, n := n, fb := (mats args 0).2.length } (· < (mats args 0).2.length) ρ0 O (fun _ => []) { tm := slotsOf 0 (mats args 0).1, hp := [], nx := (mats args 0).2.length, fb := (mats args 0).2.length } { tmps := vs.toArray ++ Array.replicate (n - vs.toArray.size) undef, defers := [] } w := by
    refine ⟨by simp; omega, rfl, rfl, fun _ _ => rfl, fun _ h => h, hO, fun b hb => .inl hb, ?_, by simp [hget], by simp [hget], by simp [hget], by simp [hget], Keep.refl _ _⟩
    intro j
    simp only [tget_slots, Nat.zero_le, if_true, Nat.sub_zero]
    have := CVs_at h2' j
    have e : (vs.toArray ++ Array.replicate (n - vs.toArray.size) undef).getD j undef = vs.getD j undef := by
      simp only [Array.getD_eq_getD_getElem?, List.getD_eq_getElem?_getD]
      by_cases hj : j < vs.length
      · rw [Array.getElem?_append_left (by simpa using hj)]; simp
      · rw [Array.getElem?_append_right (by simp; omega), List.getElem?_eq_none (by omega)]
        simp only [Array.getElem?_replicate]
        split <;> rfl
    rw [e]; exact this
  obtain ⟨F', hr1⟩ := R.adds hr0 h3' (fun x _ hx => by simpa using hx) (fun x _ _ => rfl) hnd (fun b hb => ⟨(hG b hb).1, (hG b hb).2, .inr hb⟩) (by simp [hget])
  exact ⟨ρ0, O, F', hr1⟩
/-- A function does what its code does. -/
theorem Ret.intro {f : Nat} {fn : Func} {c : Code} {pc : PC} {args : List T} {r : T} {outs : List T} (hf : P.funcs[f]? = some fn) (hb : fn.body = some c) (hc : comp P M fn.ntmps c = some pc) (ha : args.length ≤ fn.ntmps)
    (h : W P M fn.ntmps pc (enter args) (fin P fn.results.toList args r outs)) : Ret P f args r outs := by
  intro w vs O G hO hk hnd hG
  have hlen := hk.len
  obtain ⟨ρ0, hv, hr⟩ := entry (n := fn.ntmps) hO hk hnd hG (by omega)
  refine calls_of_wp hf hb (wp_mono (W_sound hc h rfl hr) ?_)
  rintro e a' w' ⟨s', ⟨he, s2, hwk, xs, ts, hres, hrf, htk, hnd2⟩, hr'⟩
  obtain ⟨⟨ρ, O', F, hR⟩, hfb⟩ := hwk _ _ _ hr'
  obtain ⟨u, hu, hcu⟩ := results_ok hR hres
  have hndd := List.nodup_append.1 hnd2
  obtain ⟨Gr, g1, g2, g3⟩ := rf_ok hR hcu hrf hndd.1
  have hvs : CVs w' O' ρ (· < s2.nx) (mats args 0).1 vs := by
    refine hv.cong hR.O0 (fun b hb => ?_) (fun t ht => Nat.lt_of_lt_of_le ht hfb) (fun t ht => hR.ρ0 t ht)
    exact hR.keep.block b (hO b hb) (fun hin => (hG b hin).1 hb)
  obtain ⟨Go, k1, k2, k3⟩ := taken_ok hR hvs htk hndd.2.1
  have hfin : a'.defers = [] ∧ ∃ v, (results fn a'.tmps).run P w' = .ok v w' ∧ (∃ v_1 O' Fr Fo, Ending.returned v = .returned v_1 ∧ (∀ b, O b → O' b) ∧ (∀ b, O' b → b < w'.heap.size) ∧ (∀ b, O' b → O b ∨ w.heap.size ≤ b ∨ b ∈ G) ∧
      V.K w' O' r v_1 Fr ∧ Ks w' O' outs vs Fo ∧ (Fr ++ Fo).Nodup ∧ (∀ b ∈ Fr ++ Fo, ¬ O' b ∧ b < w'.heap.size ∧ (w.heap.size ≤ b ∨ b ∈ G)) ∧ Keep w G w') := by
    refine ⟨hR.defers, u, hu, u, O', Gr, Go, rfl, hR.O0, hR.Olt, hR.Onew, g1, k1, List.nodup_append.2 ⟨g2, k2, ?_⟩, ?_, hR.keep⟩
    · rintro b hb b' hb' rfl
      obtain ⟨tk, k, h4, h5, h6⟩ := g3 b hb
      obtain ⟨tk', k', h7, h8, h9⟩ := k3 b hb'
      exact hR.apart _ _ _ _ h5 h8 (hndd.2.2 tk h4 tk' h7) b h6 h9
    · intro b hb
      rcases List.mem_append.1 hb with hb | hb
      · obtain ⟨tk, k, h4, h5, h6⟩ := g3 b hb
        exact hR.mine _ _ h5 b h6
      · obtain ⟨tk, k, h4, h5, h6⟩ := k3 b hb
        exact hR.mine _ _ h5 b h6
  rcases he with rfl | rfl
  · exact hfin
  · exact hfin
end
end Go.Proofs.Ytcchmhmbjhgfdaa.V
