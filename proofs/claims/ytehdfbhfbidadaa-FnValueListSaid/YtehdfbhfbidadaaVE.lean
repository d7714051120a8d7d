/- The machine of trees, texts Vin. -/
import Derived.Test.YtehdfbhfbidadaaVD
/- Interfaces: made, asked for their types, called. -/
namespace Go.Proofs.Ytehdfbhfbidadaa.V
open Go
set_option linter.unusedVariables false
set_option linter.unusedSimpArgs false
section
variable {P : Program} {E : Env} {A : Nat → Prop} {ρ : Nat → Option RB} {O : Nat → Prop} {F : Nat → List Nat} {s : St} {a : Act} {w : World} {n : Nat}
theorem one_arg (hR : R E A ρ O F s a w) {x : Operand} {ys : List X} {u : T} (hys : [x].mapM opd = some ys) (hxs : ys.map (·.ev s) = [u]) : CV w O ρ A u (a.eval x) := by
  have hvs := evs_ok hR hys
  rw [hxs] at hvs
  simp only [CVs, List.map_cons, List.map_nil, List.cons.injEq] at hvs
  obtain ⟨v1, r1, ⟨rfl, rfl⟩, h1, _⟩ := hvs
  exact h1
theorem hook_mkIface {t : TypeId} {x : Operand} {v : T} (ht : t < 4294967296) (hm : plainTy P t = true) : HookOk P (.makeInterface t x) [v] [] n (.ifc t v) [] := by
  intro E A ρ O F s a w o ys next Q hop hys hxs hR hdst hg hfb hFR hn
  have hops : (Op.makeInterface t x).operands.toList = [x] := by simp [Op.operands]
  rw [hops] at hys
  have h1 := one_arg hR hys hxs
  have hrun : (execOp a.eval o).run P w = .ok (.value (.iface t (a.eval x))) w := by
    unfold plainTy at hm
    split at hm
    · exact absurd hm (by simp)
    · exact absurd hm (by simp)
    · rename_i d h2 h3 h4
      simp only [execOp, hop, Instr.makeInterface, Sem.run_bind, run_underlying h4, Result.andThen_ok]
      cases d <;> first | rfl | (exact absurd rfl (h2 _))
    · exact absurd hm (by simp)
  have hR2 := hR.put hdst (v := .ifc t v) (u := .iface t (a.eval x)) (by simp only [CV]; exact ⟨_, (if_pos ht).symm, h1⟩)
  exact wp_value hrun (hn _ _ ⟨_, _, _, hR2.monoA (fun t h => .inl h)⟩)
theorem run_zero {t : TypeId} {zv : Value} (hz : (P.info? t).bind (·.zero) = some zv) : (zeroValue t).run P w = .ok zv w := by
  simp only [Option.bind_eq_some_iff] at hz
  obtain ⟨info, h1, h2⟩ := hz
  simp [zeroValue, typeInfo, program, Sem.run, h1, h2]
theorem cst_CI {zv : Value} {z : T} (hz1 : cst zv = some z) : CI w O z zv := by
  obtain ⟨hci, _⟩ := csts_ok (w := w) (O := O) (vs := [zv]) (ts := [z]) (by simp [hz1])
  simp only [CIs] at hci
  obtain ⟨u, r, e1, e2, rfl⟩ := hci
  simp only [List.cons.injEq, and_true] at e1
  subst e1; exact e2
theorem hook_assertY {t xt : TypeId} {x : Operand} {v : T} (ht : t < 4294967296) (hm : plainTy P t = true) : HookOk P (.typeAssert x xt t true) [.ifc t v] [] n (.tup [v, .b true]) [] := by
  intro E A ρ O F s a w o ys next Q hop hys hxs hR hdst hg hfb hFR hn
  have hops : (Op.typeAssert x xt t true).operands.toList = [x] := by simp [Op.operands]
  rw [hops] at hys
  have h1 := one_arg hR hys hxs
  simp only [CV] at h1
  obtain ⟨u, e1, h1⟩ := h1
  rw [ifW, if_pos ht] at e1
  have hrun : (execOp a.eval o).run P w = .ok (.value (.tuple #[u, .bool true])) w := by
    unfold plainTy at hm
    split at hm
    · exact absurd hm (by simp)
    · exact absurd hm (by simp)
    · rename_i d h2 h3 h4
      simp only [execOp, hop, Instr.typeAssert, Sem.run_bind, run_underlying h4, Result.andThen_ok, e1]
      cases d <;> first | (simp [Sem.run_bind, Sem.run_pure, Result.andThen]; done) | (exact absurd rfl (h2 _))
    · exact absurd hm (by simp)
  have hR2 := hR.put hdst (v := .tup [v, .b true]) (u := .tuple #[u, .bool true]) (by simp only [CV]; exact ⟨[u, .bool true], rfl, by simp only [CVs, CV, CI]; exact ⟨_, _, rfl, h1, _, _, rfl, rfl, rfl⟩⟩)
  exact wp_value hrun (hn _ _ ⟨_, _, _, hR2.monoA (fun t h => .inl h)⟩)
theorem hook_assertN {t t' xt : TypeId} {x : Operand} {v z : T} {zv : Value} (ht' : t' < 4294967296) (hm : plainTy P t = true) (hne : t' ≠ t) (hz : (P.info? t).bind (·.zero) = some zv) (hz1 : cst zv = some z) : HookOk P (.typeAssert x xt t true) [.ifc t' v] [] n (.tup [z, .b false]) [] := by
  intro E A ρ O F s a w o ys next Q hop hys hxs hR hdst hg hfb hFR hn
  have hops : (Op.typeAssert x xt t true).operands.toList = [x] := by simp [Op.operands]
  rw [hops] at hys
  have h1 := one_arg hR hys hxs
  simp only [CV] at h1
  obtain ⟨u, e1, h1⟩ := h1
  rw [ifW, if_pos ht'] at e1
  have hrun : (execOp a.eval o).run P w = .ok (.value (.tuple #[zv, .bool false])) w := by
    unfold plainTy at hm
    split at hm
    · exact absurd hm (by simp)
    · exact absurd hm (by simp)
    · rename_i d h2 h3 h4
      simp only [execOp, hop, Instr.typeAssert, Sem.run_bind, run_underlying h4, Result.andThen_ok, e1]
      cases d <;> first | (simp [Sem.run_bind, Sem.run_pure, Result.andThen, run_zero hz, hne]; done) | (exact absurd rfl (h2 _))
    · exact absurd hm (by simp)
  have hR2 := hR.put hdst (v := .tup [z, .b false]) (u := .tuple #[zv, .bool false]) (by simp only [CV]; exact ⟨[zv, .bool false], rfl, by simp only [CVs, CV, CI]; exact ⟨_, _, rfl, CV.ofCI (cst_CI hz1), _, _, rfl, rfl, rfl⟩⟩)
  exact wp_value hrun (hn _ _ ⟨_, _, _, hR2.monoA (fun t h => .inl h)⟩)
/-- The method of a type that is a function of its own. -/
def methOk (P : Program) (t : TypeId) (name : String) (f : Nat) : Bool := match P.info? t with
  | some i => (match i.methods.find? (·.name == name) with | some m => m.path.isEmpty && (match m.func with | some (g, false) => g == f | _ => false) | none => false) && plainTy P t
  | none => false
theorem run_method {t f : Nat} {name : String} {u : Value} (h : methOk P t name f = true) (k : Nat) : (method (k + 1) t u name).run P w = .ok (f, u) w := by
  unfold methOk at h
  split at h
  · rename_i i hi
    simp only [Bool.and_eq_true] at h
    obtain ⟨h1, h2⟩ := h
    split at h1
    · rename_i m hm
      simp only [Bool.and_eq_true] at h1
      obtain ⟨hp, hf⟩ := h1
      split at hf
      · rename_i g hg
        have hfg : g = f := by simpa using hf
        subst hfg
        have hpl : m.path.toList = [] := by
          have := Array.isEmpty_iff.1 hp
          simp [this]
        unfold plainTy at h2
        split at h2
        · exact absurd h2 (by simp)
        · exact absurd h2 (by simp)
        · rename_i d h3 h4 h5
          have hti : (typeInfo t).run P w = .ok i w := by simp [typeInfo, program, Sem.run, hi]
          simp only [method, Sem.run_bind, hti, Result.andThen_ok, hm, hpl, follow, Sem.run_pure, hg, receiverAt, run_underlying h5]
          cases d <;> first | (simp [Sem.run_bind, Sem.run_pure, Result.andThen, Place.get]; done) | (exact absurd rfl (h4 _))
        · exact absurd h2 (by simp)
      · exact absurd hf (by simp)
    · exact absurd h1 (by simp)
  · exact absurd h (by simp)
theorem enters_inv {c : Call} {recv : Operand} {name : String} {f t : Nat} {x : T} {args : List T} (ht : t < 4294967296) (hc : c.callee = .invoke recv name) (hm : methOk P t name f = true) (hok : okCall P f = true) : Enters P (.call c) (.ifc t x :: args) (x :: args) f := by
  intro E A ρ O F s a w o ys hop hys hxs' hR
  have hops : (Op.call c).operands.toList = recv :: c.args.toList := by
    simp [Op.operands, Call.operands, hc]
  rw [hops] at hys
  simp only [List.mapM_cons, Option.pure_def, Option.bind_eq_bind, Option.bind_eq_some_iff, Option.some.injEq] at hys
  obtain ⟨y, hy, zs, hz, rfl⟩ := hys
  simp only [List.map_cons, List.cons.injEq] at hxs'
  obtain ⟨hx1, rfl⟩ := hxs'
  have h1 := one_arg hR (x := recv) (ys := [y]) (u := .ifc t x) (by simp [hy]) (by simp [hx1])
  simp only [CV] at h1
  obtain ⟨u, e1, h1⟩ := h1
  rw [ifW, if_pos ht] at e1
  refine ⟨u :: c.args.toList.map a.eval, by simp only [CVs]; exact ⟨_, _, rfl, h1, evs_ok hR hz⟩, ?_⟩
  have hmm := run_method (w := w) (u := u) hm
  have hz2 : (#[a.eval recv] ++ c.args.map a.eval)[0]? = some (a.eval recv) := by rw [Array.getElem?_append_left (by simp)]; rfl
  have hprog : (program).run P w = .ok P w := rfl
  simp only [execOp, hop, resolve, hc, Sem.run_bind, Sem.run_pure, Result.andThen_ok]
  simp only [invoke, hz2]
  rw [e1]
  simp only [callMethod, Sem.run_bind, hprog, Result.andThen_ok]
  rw [show P.types.size + Made.depth = (P.types.size + (Made.depth - 1)) + 1 from rfl, hmm]
  simp only [Result.andThen_ok]
  rw [run_enter hok]
  congr 2
  apply Array.ext'
  simp only [Array.toList_extract, Array.toList_append, List.extract_eq_take_drop, Array.toList_map]
  simp
  exact List.take_of_length_le (by simp)
theorem hookH_inv {c : Call} {recv : Operand} {name : String} {f t : Nat} {x : T} {args outs : List T} {r : T} {K : T → Δ → List Nat → Prop} (hret : Ret P f (x :: args) r outs) (ht : t < 4294967296) (hc : c.callee = .invoke recv name) (hm : methOk P t name f = true) (hok : okCall P f = true)
    (hh : handedX ⟨[], [], 0, 0⟩ [] 0 (x :: args) = some (x :: args)) (hn1 : named [] true 0 (x :: args) = []) (hn2 : named [] false 0 (x :: args) = []) (hbk : backX [] 0 (x :: args) (x :: args) outs = some []) (h2 : K (mat r n).1 (news (mat r n).2) []) : @hookH P s n ⟨.call c⟩ (.ifc t x :: args) ⟨K⟩ := by
  refine hookH_of [] (hook_callG (mu := []) (enters_inv ht hc hm hok) hh (by rw [hn1]; exact List.nodup_nil) (by rw [hn2]; exact fun t ht => absurd ht (by simp)) hret hbk) (by simp) ?_
  unfold dX
  rw [hn1, hn2]
  exact h2
/-- The method of an interface, bound. -/
theorem hook_mkMet {y : Operand} {v : T} : HookOk P (.makeFunc (.method metName) #[y] #[]) [v] [] n (.ifc 4294967296 v) [] := by
  intro E A ρ O F s a w o ys next Q hop hys hxs hR hdst hg hfb hFR hn
  have hops : (Op.makeFunc (.method metName) #[y] #[]).operands.toList = [y] := by simp [Op.operands]
  rw [hops] at hys
  have h1 := one_arg hR hys hxs
  have hrun : (execOp a.eval o).run P w = .ok (.value (.func (.method metName) #[a.eval y] #[])) w := by
    simp [execOp, hop, Instr.makeFunc]
  have hR2 := hR.put hdst (v := .ifc 4294967296 v) (u := .func (.method metName) #[a.eval y] #[]) (by simp only [CV]; exact ⟨_, (if_neg (by omega)).symm, h1⟩)
  exact wp_value hrun (hn _ _ ⟨_, _, _, hR2.monoA (fun t h => .inl h)⟩)
end
end Go.Proofs.Ytehdfbhfbidadaa.V
