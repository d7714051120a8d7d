/- Arguments that came in, as kinds of data. -/
import Derived.Test.YtehdfbhfbidadaaG1
import Derived.Test.YtehdfbhfbidadaaVC
import Derived.Below
import Derived.Carry
namespace Go.Proofs.Ytehdfbhfbidadaa.V
open Go Go.RowKit
set_option linter.unusedVariables false
set_option linter.unusedSimpArgs false
theorem wf_i64 {y : Int} (h : (Lit.int .i64 y).wf = true) : i64 y := by
  simp [Lit.wf, IntKind.min, IntKind.max, IntKind.signed, IntKind.bits] at h
  exact ⟨by omega, by omega⟩
theorem op_int (n : Nat) : OpensT Try.prog n 3 (fun ts => ∃ y, ts = [.i .i64 y] ∧ i64 y) :=
  ot_mono (ot_int Try.underlying3) fun ts ⟨y, h1, h2⟩ => ⟨y, h1, wf_i64 h2⟩
theorem op_string (n : Nat) : OpensT Try.prog n 9 (fun ts => ∃ y : Tx, ts = [.s y] ∧ ln y) :=
  ot_mono (ot_string Try.underlying9) fun ts ⟨y, h1, h2⟩ => ⟨y, h1, by simpa [maxLen] using h2⟩
theorem op_list {α : Type} {f : α → List T} {p : α → Prop} {n : Nat} {t e : TypeId} {sz : Nat} (ht : Try.prog.underlying t = some (.slice e)) (hc : Try.prog.cellsOf e = sz) (h0 : 0 < sz) (he : ∀ m, m < n → OpensT Try.prog m e (fun ts => ∃ a, ts = f a ∧ p a)) :
    OpensT Try.prog n t (fun ts => ∃ l : List α, ts = [.imm (l.map f)] ∧ ln l ∧ ∀ a ∈ l, p a) :=
  ot_mono (ot_slice ht hc h0 he) fun ts ⟨rows, h1, h2, h3⟩ => by
    obtain ⟨l, rfl, hl⟩ := rows_list fun r hr => (h3 r hr).1
    exact ⟨l, h1, by simpa [maxLen] using h2, hl⟩
theorem op_Value (n : Nat) : OpensT Try.prog n 24 (fun ts => ∃ v, ts = sV.I v ∧ v.fit) := by
  induction n using Nat.strongRecOn with
  | _ n ih =>
    refine ot_mono (ot_struct (qs := [(3, fun ts => ∃ y, ts = [.i .i64 y] ∧ i64 y), (3, fun ts => ∃ y, ts = [.i .i64 y] ∧ i64 y), (9, fun ts => ∃ y : Tx, ts = [.s y] ∧ ln y), (22, fun ts => ∃ l : List Vl, ts = [.imm (l.map sV.I)] ∧ ln l ∧ ∀ v ∈ l, v.fit)])
      Try.underlying24 (by kernel_rfl) (by kernel_rfl) ?_) ?_
    · intro m hm p hp
      simp only [List.mem_cons, List.not_mem_nil, or_false] at hp
      rcases hp with rfl | rfl | rfl | rfl
      · exact op_int m
      · exact op_int m
      · exact op_string m
      · exact op_list (sz := 4) Try.underlying22 (by kernel_rfl) (by omega) fun m' hm' => ih m' (by omega)
    · rintro ts ⟨a, r, rfl, ⟨k, rfl, hk⟩, _, b, r, rfl, ⟨n, rfl, hn⟩, _, c, r, rfl, ⟨s, rfl, hs⟩, _, d, r, rfl, ⟨l, rfl, hl, hv⟩, _, rfl⟩
      exact ⟨.mk k n s l, by simp, Vl.fit_mk.2 ⟨hk, hn, hs, hl, hv⟩⟩
theorem op_Prop (n : Nat) : OpensT Try.prog n 206 (fun ts => ∃ v, ts = sP.I v ∧ v.fit) := by
  refine ot_mono (ot_struct (qs := [(9, fun ts => ∃ y : Tx, ts = [.s y] ∧ ln y), (24, fun ts => ∃ v, ts = sV.I v ∧ v.fit)]) Try.underlying206 (by kernel_rfl) (by kernel_rfl) ?_) ?_
  · intro m hm p hp
    simp only [List.mem_cons, List.not_mem_nil, or_false] at hp
    rcases hp with rfl | rfl
    · exact op_string m
    · exact op_Value m
  · rintro ts ⟨a, r, rfl, ⟨s, rfl, hs⟩, _, b, r, rfl, ⟨v, rfl, hv⟩, _, rfl⟩
    exact ⟨⟨s, v⟩, by simp, hs, hv⟩
theorem op_PropS (n : Nat) : OpensT Try.prog n 169 (fun ts => ∃ l : List Pr, ts = [.imm (l.map sP.I)] ∧ ln l ∧ ∀ a ∈ l, a.fit) :=
  op_list (sz := 5) Try.underlying169 (by kernel_rfl) (by omega) fun m _ => op_Prop m
theorem op_StringS (n : Nat) : OpensT Try.prog n 80 (fun ts => ∃ l : List Tx, ts = [.imm (l.map sS.I)] ∧ ln l ∧ ∀ a ∈ l, ln a) :=
  op_list (sz := 1) Try.underlying80 (by kernel_rfl) (by omega) fun m _ => op_string m
theorem op_Node (n : Nat) : OpensT Try.prog n 171 (fun ts => ∃ v, ts = sN.I v ∧ v.fit) := by
  refine ot_mono (ot_struct (qs := [(3, fun ts => ∃ y, ts = [.i .i64 y] ∧ i64 y), (80, fun ts => ∃ l : List Tx, ts = [.imm (l.map sS.I)] ∧ ln l ∧ ∀ a ∈ l, ln a), (169, fun ts => ∃ l : List Pr, ts = [.imm (l.map sP.I)] ∧ ln l ∧ ∀ a ∈ l, a.fit)]) Try.underlying171 (by kernel_rfl) (by kernel_rfl) ?_) ?_
  · intro m hm p hp
    simp only [List.mem_cons, List.not_mem_nil, or_false] at hp
    rcases hp with rfl | rfl | rfl
    · exact op_int m
    · exact op_StringS m
    · exact op_PropS m
  · rintro ts ⟨a, r, rfl, ⟨i, rfl, hi⟩, _, b, r, rfl, ⟨l, rfl, hl⟩, _, c, r, rfl, ⟨p, rfl, hp⟩, _, rfl⟩
    exact ⟨⟨i, l, p⟩, by simp, hi, hl.1, hl.2, hp.1, hp.2⟩
theorem op_Edge (n : Nat) : OpensT Try.prog n 174 (fun ts => ∃ v, ts = sE.I v ∧ v.fit) := by
  refine ot_mono (ot_struct (qs := [(3, fun ts => ∃ y, ts = [.i .i64 y] ∧ i64 y), (9, fun ts => ∃ y : Tx, ts = [.s y] ∧ ln y), (3, fun ts => ∃ y, ts = [.i .i64 y] ∧ i64 y), (3, fun ts => ∃ y, ts = [.i .i64 y] ∧ i64 y), (169, fun ts => ∃ l : List Pr, ts = [.imm (l.map sP.I)] ∧ ln l ∧ ∀ a ∈ l, a.fit)]) Try.underlying174 (by kernel_rfl) (by kernel_rfl) ?_) ?_
  · intro m hm p hp
    simp only [List.mem_cons, List.not_mem_nil, or_false] at hp
    rcases hp with rfl | rfl | rfl | rfl | rfl
    · exact op_int m
    · exact op_string m
    · exact op_int m
    · exact op_int m
    · exact op_PropS m
  · rintro ts ⟨a, r, rfl, ⟨i, rfl, hi⟩, _, b, r, rfl, ⟨k, rfl, hk⟩, _, c, r, rfl, ⟨f, rfl, hf⟩, _, d, r, rfl, ⟨t, rfl, ht⟩, _, e, r, rfl, ⟨p, rfl, hp⟩, _, rfl⟩
    exact ⟨⟨i, k, f, t, p⟩, by simp, hi, hk, hf, ht, hp.1, hp.2⟩
theorem op_Graph (n : Nat) : OpensT Try.prog n 66 (fun ts => ∃ v, ts = sG.I v ∧ v.fit) := by
  refine ot_mono (ot_struct (qs := [(63, fun ts => ∃ l : List Nd, ts = [.imm (l.map sN.I)] ∧ ln l ∧ ∀ a ∈ l, a.fit), (64, fun ts => ∃ l : List Eg, ts = [.imm (l.map sE.I)] ∧ ln l ∧ ∀ a ∈ l, a.fit), (3, fun ts => ∃ y, ts = [.i .i64 y] ∧ i64 y), (3, fun ts => ∃ y, ts = [.i .i64 y] ∧ i64 y)]) Try.underlying66 (by kernel_rfl) (by kernel_rfl) ?_) ?_
  · intro m hm p hp
    simp only [List.mem_cons, List.not_mem_nil, or_false] at hp
    rcases hp with rfl | rfl | rfl | rfl
    · exact op_list (sz := 3) Try.underlying63 (by kernel_rfl) (by omega) fun m _ => op_Node m
    · exact op_list (sz := 5) Try.underlying64 (by kernel_rfl) (by omega) fun m _ => op_Edge m
    · exact op_int m
    · exact op_int m
  · rintro ts ⟨a, r, rfl, ⟨l, rfl, hl⟩, _, b, r, rfl, ⟨es, rfl, he⟩, _, c, r, rfl, ⟨x, rfl, hx⟩, _, d, r, rfl, ⟨y, rfl, hy⟩, _, rfl⟩
    exact ⟨⟨l, es, x, y⟩, by simp, hl.1, hl.2, he.1, he.2, hx, hy⟩
end Go.Proofs.Ytehdfbhfbidadaa.V
