/- Values, props, nodes, edges, graphs as rows of trees. -/
import Derived.Test.YtehdfbhfbidadaaSh
namespace Go.Proofs.Ytehdfbhfbidadaa.V
open Go
set_option linter.unusedVariables false
set_option linter.unusedSimpArgs false
inductive Vl where
  | mk (k n : Int) (s : List UInt8) (l : List Vl)
namespace Vl
def k : Vl → Int | .mk k _ _ _ => k
def n : Vl → Int | .mk _ n _ _ => n
def s : Vl → List UInt8 | .mk _ _ s _ => s
def l : Vl → List Vl | .mk _ _ _ l => l
end Vl
attribute [simp] Vl.k Vl.n Vl.s Vl.l
theorem Vl.eta (v : Vl) : Vl.mk v.k v.n v.s v.l = v := by cases v; rfl
mutual
def VO : Vl → List T
  | .mk k n s l => [.i .i64 k, .i .i64 n, .s s, .own 4 (VOs l)]
def VOs : List Vl → List (List T)
  | [] => []
  | v :: l => VO v :: VOs l
end
mutual
def VI : Vl → List T
  | .mk k n s l => [.i .i64 k, .i .i64 n, .s s, .imm (VIs l)]
def VIs : List Vl → List (List T)
  | [] => []
  | v :: l => VI v :: VIs l
end
theorem VIs_map : ∀ l, VIs l = l.map VI
  | [] => rfl
  | v :: l => by simp [VIs, VIs_map l]
theorem VOs_map : ∀ l, VOs l = l.map VO
  | [] => rfl
  | v :: l => by simp [VOs, VOs_map l]
mutual
theorem VO_toI : ∀ v, toIs (VO v) = VI v
  | .mk k n s l => by simp [VO, VI, toIs, T.toI, VOs_toI l]
theorem VOs_toI : ∀ l, toIr (VOs l) = VIs l
  | [] => by simp [VOs, VIs, toIr]
  | v :: l => by simp [VOs, VIs, toIr, VO_toI v, VOs_toI l]
end
mutual
theorem VO_ow : ∀ v, (VO v).all T.ow = true
  | .mk k n s l => by simp [VO, T.ow, (VOs_ow l).1, (VOs_ow l).2]
theorem VOs_ow : ∀ l, cleanR (VOs l) = true ∧ noImr (VOs l) = true
  | [] => by simp [VOs, cleanR, noImr]
  | v :: l => by
    have h1 := VO_ow v
    have h2 := VOs_ow l
    have h3 := h2.1
    simp only [cleanR] at h3
    exact ⟨by simp only [VOs, cleanR, List.all_cons, ow_clean h1, h3, Bool.and_self], by simp only [VOs, noImr, ow_noImm h1, h2.2, Bool.and_self]⟩
end
def sV : Sh Vl where
  sz := 4
  I := VI
  O := VO
  lI v := by cases v; simp [VI]
  lO v := by cases v; simp [VO]
  toO := VO_toI
  im v := by cases v; simp [VI, T.im]
  ow := VO_ow
@[simp] theorem sV_sz : sV.sz = 4 := rfl
@[simp] theorem sV_I (k n : Int) (s : List UInt8) (l : List Vl) : sV.I (.mk k n s l) = [.i .i64 k, .i .i64 n, .s s, .imm (l.map sV.I)] := by
  show VI _ = _
  simp only [VI, VIs_map]; rfl
@[simp] theorem sV_O (k n : Int) (s : List UInt8) (l : List Vl) : sV.O (.mk k n s l) = [.i .i64 k, .i .i64 n, .s s, .own 4 (l.map sV.O)] := by
  show VO _ = _
  simp only [VO, VOs_map]; rfl
@[simp] theorem sV_take (v : Vl) : (sV.I v).take 4 = sV.I v := sV.takeI v
mutual
def Vl.cnt : Vl → Nat
  | .mk _ _ s l => s.length + Vl.cnts l
def Vl.cnts : List Vl → Nat
  | [] => 0
  | v :: l => 1 + v.cnt + Vl.cnts l
end
theorem Vl.cnts_eq : ∀ l, Vl.cnts l = l.length + sums Vl.cnt l
  | [] => rfl
  | v :: l => by simp only [Vl.cnts, Vl.cnts_eq l, sums, List.map_cons, List.sum_cons, List.length_cons]; omega
theorem Vl.cnt_mk (k n : Int) (s : List UInt8) (l : List Vl) : (Vl.mk k n s l).cnt = s.length + cl Vl.cnt l := by simp only [Vl.cnt, Vl.cnts_eq, cl]
theorem sums_mem {α : Type} {c : α → Nat} {l : List α} {a : α} (h : a ∈ l) : c a ≤ sums c l := by
  induction l with
  | nil => simp at h
  | cons x l ih =>
    simp only [sums, List.map_cons, List.sum_cons]
    rcases List.mem_cons.1 h with rfl | h
    · omega
    · have := ih h; simp only [sums] at this; omega
/-- What holds of a value if it holds of those in its list. -/
theorem Vl.ind {p : Vl → Prop} (h : ∀ k n s l, (∀ v ∈ l, p v) → p (.mk k n s l)) (v : Vl) : p v :=
  Vl.rec (motive_1 := p) (motive_2 := fun l => ∀ v ∈ l, p v) (fun k n s l hl => h k n s l hl) (by simp) (fun v l h1 h2 w hw => by
    rcases List.mem_cons.1 hw with rfl | hw
    · exact h1
    · exact h2 w hw) v
/-! ### texts and numbers -/
abbrev Tx := List UInt8
def sS : Sh Tx where
  sz := 1
  I x := [.s x]
  O x := [.s x]
  lI _ := rfl
  lO _ := rfl
  toO _ := by simp
  im _ := by simp [T.im]
  ow _ := by simp [T.ow]
@[simp] theorem sS_sz : sS.sz = 1 := rfl
@[simp] theorem sS_I (x : Tx) : sS.I x = [.s x] := rfl
@[simp] theorem sS_O (x : Tx) : sS.O x = [.s x] := rfl
def sI : Sh Int where
  sz := 1
  I x := [.i .i64 x]
  O x := [.i .i64 x]
  lI _ := rfl
  lO _ := rfl
  toO _ := by simp
  im _ := by simp [T.im]
  ow _ := by simp [T.ow]
@[simp] theorem sI_sz : sI.sz = 1 := rfl
@[simp] theorem sI_I (x : Int) : sI.I x = [.i .i64 x] := rfl
@[simp] theorem sI_O (x : Int) : sI.O x = [.i .i64 x] := rfl
/-! ### props, nodes, edges, graphs -/
structure Pr where
  name : Tx
  val : Vl
structure Nd where
  id : Int
  labels : List Tx
  props : List Pr
structure Eg where
  id : Int
  kind : Tx
  frm : Int
  to : Int
  props : List Pr
structure Gr where
  nodes : List Nd
  edges : List Eg
  nn : Int
  ne : Int
def sP : Sh Pr where
  sz := 5
  I p := .s p.name :: sV.I p.val
  O p := .s p.name :: sV.O p.val
  lI _ := by simp
  lO _ := by simp
  toO _ := by simp [Sh.toO]
  im _ := by simp [T.im, Sh.im, -List.all_eq_true]
  ow _ := by simp [T.ow, Sh.ow, -List.all_eq_true]
@[simp] theorem sP_sz : sP.sz = 5 := rfl
@[simp] theorem sP_I (n : Tx) (v : Vl) : sP.I ⟨n, v⟩ = .s n :: sV.I v := rfl
@[simp] theorem sP_O (n : Tx) (v : Vl) : sP.O ⟨n, v⟩ = .s n :: sV.O v := rfl
@[simp] theorem sP_take (p : Pr) : (sP.I p).take 5 = sP.I p := sP.takeI p
def Pr.cnt (p : Pr) : Nat := p.name.length + p.val.cnt
def sN : Sh Nd where
  sz := 3
  I a := [.i .i64 a.id, .imm (a.labels.map sS.I), .imm (a.props.map sP.I)]
  O a := [.i .i64 a.id, .own 1 (a.labels.map sS.O), .own 5 (a.props.map sP.O)]
  lI _ := by simp
  lO _ := by simp
  toO _ := by simp only [toIs, toI_i, toI_own, Sh.rO]
  im _ := by simp [T.im]
  ow _ := by simp only [List.all_cons, T.ow, Sh.crO, Sh.nrO, Bool.and_self, List.all_nil]
@[simp] theorem sN_sz : sN.sz = 3 := rfl
@[simp] theorem sN_I (i : Int) (l : List Tx) (p : List Pr) : sN.I ⟨i, l, p⟩ = [.i .i64 i, .imm (l.map sS.I), .imm (p.map sP.I)] := rfl
@[simp] theorem sN_O (i : Int) (l : List Tx) (p : List Pr) : sN.O ⟨i, l, p⟩ = [.i .i64 i, .own 1 (l.map sS.O), .own 5 (p.map sP.O)] := rfl
@[simp] theorem sN_take (a : Nd) : (sN.I a).take 3 = sN.I a := sN.takeI a
def Nd.cnt (a : Nd) : Nat := cl List.length a.labels + cl Pr.cnt a.props
def sE : Sh Eg where
  sz := 5
  I a := [.i .i64 a.id, .s a.kind, .i .i64 a.frm, .i .i64 a.to, .imm (a.props.map sP.I)]
  O a := [.i .i64 a.id, .s a.kind, .i .i64 a.frm, .i .i64 a.to, .own 5 (a.props.map sP.O)]
  lI _ := by simp
  lO _ := by simp
  toO _ := by simp only [toIs, toI_i, toI_s, toI_own, Sh.rO]
  im _ := by simp [T.im]
  ow _ := by simp only [List.all_cons, T.ow, Sh.crO, Sh.nrO, Bool.and_self, List.all_nil]
@[simp] theorem sE_sz : sE.sz = 5 := rfl
@[simp] theorem sE_I (i : Int) (k : Tx) (f t : Int) (p : List Pr) : sE.I ⟨i, k, f, t, p⟩ = [.i .i64 i, .s k, .i .i64 f, .i .i64 t, .imm (p.map sP.I)] := rfl
@[simp] theorem sE_O (i : Int) (k : Tx) (f t : Int) (p : List Pr) : sE.O ⟨i, k, f, t, p⟩ = [.i .i64 i, .s k, .i .i64 f, .i .i64 t, .own 5 (p.map sP.O)] := rfl
@[simp] theorem sE_take (a : Eg) : (sE.I a).take 5 = sE.I a := sE.takeI a
def Eg.cnt (a : Eg) : Nat := a.kind.length + cl Pr.cnt a.props
def sG : Sh Gr where
  sz := 4
  I a := [.imm (a.nodes.map sN.I), .imm (a.edges.map sE.I), .i .i64 a.nn, .i .i64 a.ne]
  O a := [.own 3 (a.nodes.map sN.O), .own 5 (a.edges.map sE.O), .i .i64 a.nn, .i .i64 a.ne]
  lI _ := by simp
  lO _ := by simp
  toO _ := by simp only [toIs, toI_i, toI_s, toI_own, Sh.rO]
  im _ := by simp [T.im]
  ow _ := by simp only [List.all_cons, T.ow, Sh.crO, Sh.nrO, Bool.and_self, List.all_nil]
@[simp] theorem sG_sz : sG.sz = 4 := rfl
@[simp] theorem sG_I (a : List Nd) (b : List Eg) (c d : Int) : sG.I ⟨a, b, c, d⟩ = [.imm (a.map sN.I), .imm (b.map sE.I), .i .i64 c, .i .i64 d] := rfl
@[simp] theorem sG_O (a : List Nd) (b : List Eg) (c d : Int) : sG.O ⟨a, b, c, d⟩ = [.own 3 (a.map sN.O), .own 5 (b.map sE.O), .i .i64 c, .i .i64 d] := rfl
@[simp] theorem sG_take (a : Gr) : (sG.I a).take 4 = sG.I a := sG.takeI a
def Gr.cnt (a : Gr) : Nat := cl Nd.cnt a.nodes + cl Eg.cnt a.edges
end Go.Proofs.Ytehdfbhfbidadaa.V
