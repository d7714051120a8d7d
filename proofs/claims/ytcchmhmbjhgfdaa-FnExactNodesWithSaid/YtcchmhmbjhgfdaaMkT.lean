/- Marks of a graph: what is written, and how many. -/
import Derived.Test.YtcchmhmbjhgfdaaMkG
namespace Go.Proofs.Ytcchmhmbjhgfdaa.Mk
open Go.RowKit Go.Proofs.Ytcchmhmbjhgfdaa.G Go.Proofs.YtcchmhmbjhgfdaaW.PrintWords Go.Proofs.YtcchmhmbjhgfdaaW.PrintLast Go.Proofs.YtcchmhmbjhgfdaaW.PrintMore
open Own
set_option linter.unusedVariables false
set_option linter.unusedSimpArgs false

def cntGr (ns : List MN) (es : List MG) : Nat := cnts cntN ns + cnts cntG es
theorem markGraph_calls (base : Nat) (P : Nat → Prop) (ns : List MN) (es : List MG) (c d : Int) (v0 v1 : Value) (a : Int) (w : World) (hR0 : Kd.R k99 99 w base P v0 ns) (hR1 : Kd.R k104 104 w base P v1 es) (h0 : 0 < a) (h1 : a + cntGr ns es ≤ 4611686018427387904) :
    Calls Try.prog 23 #[.agg #[v0, v1, .int .i64 c, .int .i64 d], .int .i64 a] w fun e w' => e = .returned (.int .i64 (a + cntGr ns es)) ∧ Shaped (fun k => P k ∧ k < w.heap.size) w w' := by
  have hQ0 := Kd.R_mono (Kd.R_bound hR0) (fun k hk => (⟨hk.1, hk.2.2.1⟩ : P k ∧ k < w.heap.size))
  have hQ1 := Kd.R_mono (Kd.R_bound hR1) (fun k hk => (⟨hk.1, hk.2.2.1⟩ : P k ∧ k < w.heap.size))
  clear hR0 hR1
  obtain ⟨Q, hQ⟩ : ∃ Q : Nat → Prop, Q = fun k => P k ∧ k < w.heap.size := ⟨_, rfl⟩
  rw [← hQ] at hQ0 hQ1 ⊢
  have HQ := Aside0.mk (show ∀ k, Q k → k < w.heap.size by intro k hk; rw [hQ] at hk; exact hk.2)
  clear hQ
  obtain ⟨A0, c0, rfl⟩ := Kd.R_slice hQ0
  obtain ⟨A1, c1, rfl⟩ := Kd.R_slice hQ1
  have HR0 := Aside0.mk hQ0
  have HR1 := Aside0.mk hQ1
  have HN := Aside0.mk (fun w5 hs5 => markNodeS_calls w base Q ns _ a w5 hQ0 hs5 h0 (by unfold cntGr at h1; omega))
  have HE := Aside0.mk (fun w5 hs5 => markEdgeS_calls w base Q es _ (a + ((cnts cntN ns : Nat) : Int)) w5 hQ1 hs5 (by omega) (by unfold cntGr at h1; omega))
  have HB := Aside0.mk (Below.refl w.heap.size w)
  clear hQ0 hQ1 h0 h1
  go_enter Try.func23, Try.ntmps23
  go_wp2_with (first
    | ((with_reducible refine gate_dst (N := 2) rfl ?_); refine bx_ 2 #[.slice A0 ns.length c0, .slice A1 es.length c1, .int .i64 c, .int .i64 d] 31 ?_; intro gb hg w4 hbox hb; have BK := Aside0.mk (hbox); have GW := Aside0.mk (show w.heap.size ≤ gb by rw [hg]; exact Nat.le_refl _); have HS4 := Aside0.mk ((Shaped.refl Q w).below hb); clear hb hbox hg; obtain ⟨hcz5_0, hcz5_1, hcz5_2, hcz5_3, hfz5_0, hfz5_1, hfz5_2, hfz5_3⟩ := blk4 BK)
    | ((with_reducible refine gate_callee (f := 89) rfl ?_); refine goesL_ (some 8) rfl rfl Try.func89 (by kernel_rfl) rfl #[.slice A0 ns.length c0, .int .i64 a] rfl ar_ ?_; (with_reducible refine (HN.out _ HS4.out).mono ?_); rintro e w6 ⟨rfl, hs6⟩; refine ⟨_, rfl, ?_⟩; have HS6 := Aside0.mk (HS4.out.trans hs6); have BK6 := Aside0.mk ((hs6.block gb (Array.getElem?_eq_some_iff.1 BK.out).1 (fun hp => Nat.not_le.2 (HQ.out gb hp) GW.out)).trans BK.out); clear hs6 hcz5_0 hcz5_1 hcz5_2 hcz5_3 hfz5_0 hfz5_1 hfz5_2 hfz5_3; obtain ⟨hcz6_0, hcz6_1, hcz6_2, hcz6_3, hfz6_0, hfz6_1, hfz6_2, hfz6_3⟩ := blk4 BK6)
    | ((with_reducible refine gate_callee (f := 90) rfl ?_); refine goesL_ (some 12) rfl rfl Try.func90 (by kernel_rfl) rfl #[.slice A1 es.length c1, .int .i64 (a + ((cnts cntN ns : Nat) : Int))] rfl ar_ ?_; (with_reducible refine (HE.out _ HS6.out).mono ?_); rintro e w7 ⟨rfl, hs7⟩; refine ⟨_, rfl, ?_⟩; have HS7 := Aside0.mk (HS6.out.trans hs7); clear hs7))
  go_ret
  exact ⟨by unfold cntGr; rw [Int.natCast_add, ← Int.add_assoc]; rfl, HS7.out⟩
end Go.Proofs.Ytcchmhmbjhgfdaa.Mk
