/- The law ValueList holds of trees. -/
import Derived.Test.YtehdfbhfbidadaaCord3
import Derived.Test.YtehdfbhfbidadaaDord
import Derived.Test.YtehdfbhfbidadaaVfFnValueList
namespace Go.Proofs.Ytehdfbhfbidadaa.V
open Go
set_option linter.unusedVariables false
set_option linter.unusedSimpArgs false
set_option maxHeartbeats 4000000
theorem cmpI_self (a : Int) : cmpI a a = 0 := by simp [cmpI]
theorem bytesLess_self : ∀ l : List UInt8, Op.bytesLess l l = false
  | [] => by simp [Op.bytesLess]
  | a :: l => by simp [Op.bytesLess, bytesLess_self l]
theorem cmpT_self (s : Tx) : cmpT s s = 0 := by simp [cmpT, bytesLess_self]
theorem ordV_self (v : Vl) : ordV v v = 0 := by
  refine Vl.ind (p := fun v => ordV v v = 0) ?_ v
  intro k n s l ih
  have hl : ∀ l : List Vl, (∀ v ∈ l, ordV v v = 0) → ordL l l = 0 := by
    intro l
    induction l with
    | nil => intro _; simp [ordL]
    | cons x l ihl => intro h; simp [ordL, h x (by simp), ihl (fun v hv => h v (by simp [hv]))]
  simp [ordV, cmpI_self, cmpT_self, hl l ih]
theorem okV_of_list {a : Vl} {l : List Vl} {n : Int} {s : Tx} (h : vOk (.mk 4 n s l) = true) (ha : a ∈ l) : okV 2 a = true := by
  unfold vOk okV at h
  simp at h
  exact h.2 a ha
theorem vOk_list {l : List Vl} (h : ∀ a ∈ l, okV 2 a = true) (hl : l.length ≤ 6) : vOk (.mk 4 0 [] l) = true := by
  unfold vOk okV
  simpa using ⟨hl, h⟩
theorem orderV_list {l l' : List Vl} (h : ∀ a ∈ l, okV 2 a = true) (h' : ∀ a ∈ l', okV 2 a = true) (hl : l.length ≤ 6) (hl' : l'.length ≤ 6) : orderV (.mk 4 0 [] l) (.mk 4 0 [] l') = ordL l l' := by
  rw [orderV, if_pos ⟨vOk_list h hl, vOk_list h' hl'⟩]
  simp [ordV]
set_option maxRecDepth 20000 in
theorem FnValueList_t (code : List UInt8) (_ : code.length ≤ 9223372036854775807) : Rv Try.prog 5 [.imm (u8T code)] (.b true) := by
  have hl := u8T_len code
  by_cases c : 1048576 < (code.length : Int)
  · refine via_laws_FnValueList (by simp) ?_
    simp [pc_laws_FnValueList, hl, c]
    exact fin_val rfl (by simp) (by simp)
  obtain ⟨v, w, v1, v2, w1, w2, hd⟩ := DrawValueOrder_d code
  have h1 := ValueOrder_c v w v1 w1
  have h2 := specValueOrder_c v w v1 w1
  have fx : (Vl.mk 4 0 [] [v]).fit := by simp [Vl.fit_mk, i64, ln, v1]
  have fy : (Vl.mk 4 0 [] [w]).fit := by simp [Vl.fit_mk, i64, ln, w1]
  have fu : (Vl.mk 4 0 [] [v, v]).fit := by simp [Vl.fit_mk, i64, ln, v1]
  have fv : (Vl.mk 4 0 [] [v, w]).fit := by simp [Vl.fit_mk, i64, ln, v1, w1]
  have kx := ValueOk_c _ fx
  have ky := ValueOk_c _ fy
  cases cx : vOk (.mk 4 0 [] [v]) with
  | false =>
    rw [cx] at kx
    obtain ⟨k, n, s, l⟩ := v
    obtain ⟨k', n', s', l'⟩ := w
    refine via_laws_FnValueList (by simp) ?_
    simp [pc_laws_FnValueList, hl, c]
    refine callK_ri (by simp) hd ?_
    simp
    refine callK_val (by simp) h1 rfl ?_
    simp
    refine callK_val (by simp) h2 rfl ?_
    simp
    refine callK_val (by simp) kx rfl ?_
    simp
    exact fin_val rfl (by simp) (by simp)
  | true =>
    cases cy : vOk (.mk 4 0 [] [w]) with
    | false =>
      rw [cx] at kx
      rw [cy] at ky
      obtain ⟨k, n, s, l⟩ := v
      obtain ⟨k', n', s', l'⟩ := w
      refine via_laws_FnValueList (by simp) ?_
      simp [pc_laws_FnValueList, hl, c]
      refine callK_ri (by simp) hd ?_
      simp
      refine callK_val (by simp) h1 rfl ?_
      simp
      refine callK_val (by simp) h2 rfl ?_
      simp
      refine callK_val (by simp) kx rfl ?_
      simp
      refine callK_val (by simp) ky rfl ?_
      simp
      exact fin_val rfl (by simp) (by simp)
    | true =>
      rw [cx] at kx
      rw [cy] at ky
      have ov := okV_of_list cx (a := v) (by simp)
      have ow := okV_of_list cy (a := w) (by simp)
      have o1 : vOk v = true := okV_mono 2 v ov
      have o2 : vOk w = true := okV_mono 2 w ow
      have e0 : orderV v w = ordV v w := by rw [orderV, if_pos ⟨o1, o2⟩]
      have e1 : orderV (.mk 4 0 [] [v]) (.mk 4 0 [] [w]) = ordV v w := by
        rw [orderV_list (by simpa using ov) (by simpa using ow) (by simp) (by simp)]
        simp [ordL]
        intro h; exact h.symm
      have e2 : orderV (.mk 4 0 [] [v, v]) (.mk 4 0 [] [v, w]) = ordV v w := by
        rw [orderV_list (by simpa using ov) (by simpa using ⟨ov, ow⟩) (by simp) (by simp)]
        simp [ordL, ordV_self]
        intro h; exact h.symm
      have e3 : orderV (.mk 4 0 [] [v]) (.mk 4 0 [] [v, w]) = -1 := by
        rw [orderV_list (by simpa using ov) (by simpa using ⟨ov, ow⟩) (by simp) (by simp)]
        simp [ordL, ordV_self]
      have q1 := ValueOrder_c _ _ fx fy
      have q2 := ValueOrder_c _ _ fu fv
      have q3 := ValueOrder_c _ _ fx fv
      rw [e0] at h1 h2
      rw [e1] at q1
      rw [e2] at q2
      rw [e3] at q3
      generalize ordV v w = K at *
      obtain ⟨k, n, s, l⟩ := v
      obtain ⟨k', n', s', l'⟩ := w
      refine via_laws_FnValueList (by simp) ?_
      simp [pc_laws_FnValueList, hl, c]
      refine callK_ri (by simp) hd ?_
      simp
      refine callK_val (by simp) h1 rfl ?_
      simp
      refine callK_val (by simp) h2 rfl ?_
      simp
      refine callK_val (by simp) kx rfl ?_
      simp
      refine callK_val (by simp) ky rfl ?_
      simp
      refine callK_val (by simp) q1 rfl ?_
      simp
      refine callK_val (by simp) q2 rfl ?_
      simp
      refine callK_val (by simp) q3 rfl ?_
      simp
      exact fin_val rfl (by simp) (by simp)
end Go.Proofs.Ytehdfbhfbidadaa.V
