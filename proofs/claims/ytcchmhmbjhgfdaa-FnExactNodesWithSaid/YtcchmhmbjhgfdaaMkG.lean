/- Marks of texts, props, nodes, edges, graphs: what is written, and how many. (printed by wip/gen/mkgen.py) -/
import Derived.Test.YtcchmhmbjhgfdaaMkV
namespace Go.Proofs.Ytcchmhmbjhgfdaa.Mk
open Go.RowKit Go.Proofs.Ytcchmhmbjhgfdaa.G Go.Proofs.YtcchmhmbjhgfdaaW.PrintWords Go.Proofs.YtcchmhmbjhgfdaaW.PrintLast Go.Proofs.YtcchmhmbjhgfdaaW.PrintMore
open Own
set_option linter.unusedVariables false
set_option linter.unusedSimpArgs false
def cnts {α : Type} (f : α → Nat) (l : List α) : Nat := (l.map f).sum
theorem cnts_take {α : Type} (f : α → Nat) {l : List α} {i : Nat} (h : i < l.length) : cnts f (l.take (i + 1)) = cnts f (l.take i) + f l[i] := by
  unfold cnts
  rw [List.take_succ_eq_append_getElem h, List.map_append, List.sum_append]
  simp only [List.map_cons, List.map_nil, List.sum_cons, List.sum_nil, Nat.add_zero]
theorem cnts_take_le {α : Type} (f : α → Nat) (l : List α) (i : Nat) : cnts f (l.take i) ≤ cnts f l := by
  have h : cnts f l = cnts f (l.take i) + cnts f (l.drop i) := by
    unfold cnts
    rw [← List.sum_append, ← List.map_append, List.take_append_drop]
  omega
def one_ : ByteArray → Nat := fun _ => 1
theorem markValueS_calls' (W : World) (base : Nat) (P : Nat → Prop) (xs : List MV) (v : Value) (a : Int) (w : World) (hR : Kd.R k49 49 W base P v xs) (hS : Shaped P W w) (h0 : 0 < a) (h1 : a + cntVs xs ≤ 4611686018427387904) :
    Calls Try.prog 101 #[v, .int .i64 a] w fun e w' => e = .returned (.int .i64 (a + cntVs xs)) ∧ Shaped P w w' := markValueS_calls W base P _ xs v a w (Nat.le_refl _) hR hS h0 h1

theorem markStringS_calls (W : World) (base : Nat) (P : Nat → Prop) (xs : List ByteArray) (v : Value) (a : Int) (w : World) (hR : Kd.R Kd.string 9 W base P v xs) (hS : Shaped P W w) (h0 : 0 < a) (h1 : a + cnts one_ xs ≤ 4611686018427387904) :
    Calls Try.prog 45 #[v, .int .i64 a] w fun e w' => e = .returned (.int .i64 (a + cnts one_ xs)) ∧ Shaped P w w' := by
  obtain ⟨A, c, rfl⟩ := Kd.R_slice hR
  have HR := Aside0.mk hR
  have HS := Aside0.mk hS
  have HA := Aside0.mk h0
  have HZ := Aside0.mk h1
  clear hR hS h0 h1
  go_enter Try.func45, Try.ntmps45
  go_wp2
  go_loopg [1, 5] xs.length (fun kq v1 v5 w' => ∃ (K i : Int), v1 = .int .i64 K ∧ v5 = .int .i64 i ∧ Aside0 (0 ≤ i ∧ i ≤ xs.length ∧ (kq : Int) + i = xs.length ∧ K = a + cnts one_ (xs.take i.toNat)) ∧ Aside0 (Shaped P w w'))
  case atStart => exact ⟨a, 0, rfl, rfl, ⟨by omega, by omega, by omega, by simp [cnts]⟩, ⟨Shaped.refl P w⟩⟩
  case round =>
    try clear p2
    obtain ⟨K, i, rfl, rfl, HI, HS1⟩ := hrel
    by_cases hlt : i < (xs.length : Int)
    · obtain ⟨k1, rfl⟩ : ∃ m, gk = m + 1 := ⟨gk - 1, by have := HI.out; omega⟩
      obtain ⟨gg, cap, cc, ev, hg, hcl, hM, HX⟩ := row_at HR.out ByteArray.empty i HI.out.1 hlt
      have hin : i.toNat < xs.length := by have := HI.out.1; omega
      obtain ⟨x, hx⟩ : ∃ x, x = xs.getD i.toNat ByteArray.empty := ⟨_, rfl⟩
      rw [← hx] at hM
      have hel : x = xs[i.toNat] := by rw [hx, List.getD_eq_getElem?_getD, List.getElem?_eq_getElem hin]; rfl
      obtain rfl : cc = [.string x] := hM
      injection ev with ea _ ec
      subst ea ec
      have GG := Aside0.mk hg
      have HX' := Aside0.mk HX
      have c3b0 : decide (i < (xs.length : Int)) = true := decide_eq_true hlt
      have c4b0 : decide (0 ≤ i) = true := decide_eq_true HI.out.1
      have p6 : (0 ≤ i) = True := eq_true HI.out.1
      have q6 : (i < (xs.length : Int)) = True := eq_true hlt
      have hct := cnts_take one_ hin
      have hle := cnts_take_le one_ xs (i.toNat + 1)
      have HE := Aside0.mk (show K = a + cnts one_ (xs.take i.toNat) ∧ cnts one_ (xs.take (i.toNat + 1)) = cnts one_ (xs.take i.toNat) + (1) ∧ cnts one_ (xs.take (i.toNat + 1)) ≤ cnts one_ xs from ⟨HI.out.2.2.2, by (try rw [hel]); exact hct, hle⟩)
      obtain ⟨kt1, rt1, ht1⟩ := markText_some (K) (by have := HE.out; have := HA.out; have := HZ.out; omega) (by have := HE.out; have := HA.out; have := HZ.out; omega)
      have HT1 := Aside0.mk ht1
      clear ht1
      have W1 := Aside0.mk (show wrap64 (K + 1) = K + 1 by have := HE.out; have := HA.out; have := HZ.out; exact w64 (by omega) (by omega))
      clear HX hcl hg hlt hx hin hel hct hle
      go_wp2_with (first
        | ((with_reducible refine gate_callee (f := 114) rfl ?_); refine goesL_ (some 15) rfl rfl Try.func114 (by kernel_rfl) rfl #[.int .i64 (K)] rfl ar_ ?_; (with_reducible refine (laws_markText.calls kt1 (K) rt1 _ HT1.out).mono ?_); rintro e w2 ⟨rfl, hb⟩; refine ⟨_, rfl, ?_⟩; have HS3 := Aside0.mk (HS1.out.below hb); clear hb; have hxq0 := (HX'.out w2 (HS.out.trans HS3.out)).1 0 _ rfl; have hfq0 : w2.frozen? ⟨gg, i.toNat, none⟩ = false := (by have h_ := (HX'.out w2 (HS.out.trans HS3.out)).2 0; simpa [Kd.string, Kd.scalar] using h_); obtain ⟨uq0, xq0, eq0⟩ := hxq0; obtain ⟨bq0, rfl⟩ := er_string eq0; have hxq0 : w2.cell? ⟨gg, i.toNat, none⟩ = some (.string bq0) := (by have h_ := xq0; simpa [Kd.string, Kd.scalar] using h_); clear xq0 eq0)
        | ((with_reducible refine gate_store (t := 9) (p := 16) rfl ?_); refine store_event (t := 9) (p := 16) (v := ?vo5) (w1 := (w2.setCell ⟨gg, i.toNat, none⟩ (.string rt1))) ?hg ?ho ?hn ?hr ?_; (case ho => rfl); (case hg => rfl); (case hn => rfl); (case hr => first | (go_simp; done) | (go_simp; rfl)); intro w4 hw; have HS5 := Aside0.mk (show Shaped P w w4 by rw [hw]; exact HS3.out.set GG.out hxq0 rfl); clear hxq0 hfq0 hw))
      go_roundg k1
      case measure => omega
      case rel => exact ⟨_, _, rfl, rfl, ⟨by
        have h1 := HI.out
        have h2 := HE.out
        have h3 := W1.out
        have hl : (xs.length : Int) ≤ 9223372036854775807 := by have := (Kd.R_reads HR.out); obtain ⟨_, _, _, _, hC⟩ := this; have := hC.2.1; omega
        have hq : i < (xs.length : Int) := of_eq_true q6
        rw [h3, w64 (x := i + 1) (by omega) (by omega)]
        have e : (i + 1).toNat = i.toNat + 1 := by omega
        rw [e]
        refine ⟨by omega, by omega, by omega, by omega⟩⟩, HS5⟩
    · have c3b0 : decide (i < (xs.length : Int)) = false := decide_eq_false hlt
      have hi : i.toNat = xs.length := by have := HI.out; omega
      have hK : K = a + cnts one_ xs := by have := HI.out.2.2.2; rw [hi, List.take_length] at this; exact this
      subst hK
      clear hi hlt
      go_wp2
      go_ret
      exact ⟨rfl, HS1.out⟩
abbrev MP := S140
def cntP (x : MP) : Nat := 4 + cntVs x.f1.f3
theorem markPropS_calls (W : World) (base : Nat) (P : Nat → Prop) (xs : List MP) (v : Value) (a : Int) (w : World) (hR : Kd.R k140 140 W base P v xs) (hS : Shaped P W w) (h0 : 0 < a) (h1 : a + cnts cntP xs ≤ 4611686018427387904) :
    Calls Try.prog 46 #[v, .int .i64 a] w fun e w' => e = .returned (.int .i64 (a + cnts cntP xs)) ∧ Shaped P w w' := by
  obtain ⟨A, c, rfl⟩ := Kd.R_slice hR
  have HR := Aside0.mk hR
  have HS := Aside0.mk hS
  have HA := Aside0.mk h0
  have HZ := Aside0.mk h1
  clear hR hS h0 h1
  go_enter Try.func46, Try.ntmps46
  go_wp2
  go_loopg [1, 5] xs.length (fun kq v1 v5 w' => ∃ (K i : Int), v1 = .int .i64 K ∧ v5 = .int .i64 i ∧ Aside0 (0 ≤ i ∧ i ≤ xs.length ∧ (kq : Int) + i = xs.length ∧ K = a + cnts cntP (xs.take i.toNat)) ∧ Aside0 (Shaped P w w'))
  case atStart => exact ⟨a, 0, rfl, rfl, ⟨by omega, by omega, by omega, by simp [cnts]⟩, ⟨Shaped.refl P w⟩⟩
  case round =>
    try clear p2
    obtain ⟨K, i, rfl, rfl, HI, HS1⟩ := hrel
    by_cases hlt : i < (xs.length : Int)
    · obtain ⟨k1, rfl⟩ : ∃ m, gk = m + 1 := ⟨gk - 1, by have := HI.out; omega⟩
      obtain ⟨gg, cap, cc, ev, hg, hcl, hM, HX⟩ := row_at HR.out z140 i HI.out.1 hlt
      have hin : i.toNat < xs.length := by have := HI.out.1; omega
      obtain ⟨x, hx⟩ : ∃ x, x = xs.getD i.toNat z140 := ⟨_, rfl⟩
      rw [← hx] at hM
      have hel : x = xs[i.toNat] := by rw [hx, List.getD_eq_getElem?_getD, List.getElem?_eq_getElem hin]; rfl
      obtain ⟨v4, rfl, g4⟩ := k140_openM hM
      obtain ⟨A4, c4, rfl⟩ := Kd.R_slice g4
      have G4 := Aside0.mk g4
      injection ev with ea _ ec
      subst ea ec
      have GG := Aside0.mk hg
      have HX' := Aside0.mk HX
      have c3b0 : decide (i < (xs.length : Int)) = true := decide_eq_true hlt
      have c4b0 : decide (0 ≤ i) = true := decide_eq_true HI.out.1
      have p6 : (0 ≤ i) = True := eq_true HI.out.1
      have q6 : (i < (xs.length : Int)) = True := eq_true hlt
      have hct := cnts_take cntP hin
      have hle := cnts_take_le cntP xs (i.toNat + 1)
      have HE := Aside0.mk (show K = a + cnts cntP (xs.take i.toNat) ∧ cnts cntP (xs.take (i.toNat + 1)) = cnts cntP (xs.take i.toNat) + (4 + cntVs x.f1.f3) ∧ cnts cntP (xs.take (i.toNat + 1)) ≤ cnts cntP xs from ⟨HI.out.2.2.2, by (try rw [hel]); exact hct, hle⟩)
      obtain ⟨kt1, rt1, ht1⟩ := markText_some (K) (by have := HE.out; have := HA.out; have := HZ.out; omega) (by have := HE.out; have := HA.out; have := HZ.out; omega)
      have HT1 := Aside0.mk ht1
      clear ht1
      have W1 := Aside0.mk (show wrap64 (K + 1) = K + 1 by have := HE.out; have := HA.out; have := HZ.out; exact w64 (by omega) (by omega))
      have W2 := Aside0.mk (show wrap64 ((wrap64 (K + 1)) + 1) = (wrap64 (K + 1)) + 1 by have := HE.out; have := HA.out; have := HZ.out; have := W1.out; exact w64 (by omega) (by omega))
      replace W2 := Aside0.mk (show wrap64 ((wrap64 (K + 1)) + 1) = (K + 1) + 1 from (by have h1_ := W2.out; have h2_ := W1.out; rw [h1_, h2_]))
      have W3 := Aside0.mk (show wrap64 ((wrap64 ((wrap64 (K + 1)) + 1)) + 1) = (wrap64 ((wrap64 (K + 1)) + 1)) + 1 by have := HE.out; have := HA.out; have := HZ.out; have := W2.out; exact w64 (by omega) (by omega))
      replace W3 := Aside0.mk (show wrap64 ((wrap64 ((wrap64 (K + 1)) + 1)) + 1) = ((K + 1) + 1) + 1 from (by have h1_ := W3.out; have h2_ := W2.out; rw [h1_, h2_]))
      obtain ⟨kt2, rt2, ht2⟩ := markText_some (wrap64 ((wrap64 ((wrap64 (K + 1)) + 1)) + 1)) (by have := HE.out; have := HA.out; have := HZ.out; have := W3.out; omega) (by have := HE.out; have := HA.out; have := HZ.out; have := W3.out; omega)
      have HT2 := Aside0.mk ht2
      clear ht2
      have W4 := Aside0.mk (show wrap64 ((wrap64 ((wrap64 ((wrap64 (K + 1)) + 1)) + 1)) + 1) = (wrap64 ((wrap64 ((wrap64 (K + 1)) + 1)) + 1)) + 1 by have := HE.out; have := HA.out; have := HZ.out; have := W3.out; exact w64 (by omega) (by omega))
      replace W4 := Aside0.mk (show wrap64 ((wrap64 ((wrap64 ((wrap64 (K + 1)) + 1)) + 1)) + 1) = (((K + 1) + 1) + 1) + 1 from (by have h1_ := W4.out; have h2_ := W3.out; rw [h1_, h2_]))
      have HM3 := Aside0.mk (fun w5 hs5 => markValueS_calls' W base P (x.f1.f3) _ (wrap64 ((wrap64 ((wrap64 ((wrap64 (K + 1)) + 1)) + 1)) + 1)) w5 G4.out hs5 (by have := HE.out; have := HA.out; have := HZ.out; have := W4.out; omega) (by have := HE.out; have := HA.out; have := HZ.out; have := W4.out; omega))
      have W5 := Aside0.mk (show (wrap64 ((wrap64 ((wrap64 ((wrap64 (K + 1)) + 1)) + 1)) + 1)) + ((cntVs x.f1.f3 : Nat) : Int) = ((((K + 1) + 1) + 1) + 1) + ((cntVs x.f1.f3 : Nat) : Int) by rw [W4.out])
      clear HX hM hcl hg hlt hx hin hel hct hle g4
      go_wp2_with (first
        | ((with_reducible refine gate_callee (f := 114) rfl ?_); refine goesL_ (some 15) rfl rfl Try.func114 (by kernel_rfl) rfl #[.int .i64 (K)] rfl ar_ ?_; (with_reducible refine (laws_markText.calls kt1 (K) rt1 _ HT1.out).mono ?_); rintro e w2 ⟨rfl, hb⟩; refine ⟨_, rfl, ?_⟩; have HS3 := Aside0.mk (HS1.out.below hb); clear hb; have hxq0 := (HX'.out w2 (HS.out.trans HS3.out)).1 0 _ rfl; have hfq0 : w2.frozen? ⟨gg, i.toNat * 5, none⟩ = false := (HX'.out w2 (HS.out.trans HS3.out)).2 0; obtain ⟨uq0, xq0, eq0⟩ := hxq0; obtain ⟨bq0, rfl⟩ := er_string eq0; have hxq0 : w2.cell? ⟨gg, i.toNat * 5, none⟩ = some (.string bq0) := xq0; clear xq0 eq0)
        | ((with_reducible refine gate_store (t := 9) (p := 17) rfl ?_); refine store_event (t := 9) (p := 17) (v := ?vo5) (w1 := (w2.setCell ⟨gg, i.toNat * 5, none⟩ (.string rt1))) ?hg ?ho ?hn ?hr ?_; (case ho => rfl); (case hg => rfl); (case hn => rfl); (case hr => first | (go_simp; done) | (go_simp; rfl)); intro w4 hw; have HS5 := Aside0.mk (show Shaped P w w4 by rw [hw]; exact HS3.out.set GG.out hxq0 rfl); clear hxq0 hfq0 hw; have hxq1 := (HX'.out w4 (HS.out.trans HS5.out)).1 1 _ rfl; have hfq1 : w4.frozen? ⟨gg, i.toNat * 5 + 1, none⟩ = false := (HX'.out w4 (HS.out.trans HS5.out)).2 1; obtain ⟨uq1, xq1, eq1⟩ := hxq1; obtain ⟨bq1, rfl⟩ := er_int eq1; have hxq1 : w4.cell? ⟨gg, i.toNat * 5 + 1, none⟩ = some (.int .i64 bq1) := xq1; clear xq1 eq1)
        | ((with_reducible refine gate_store (t := 3) (p := 25) rfl ?_); refine store_event (t := 3) (p := 25) (v := ?vo7) (w1 := (w4.setCell ⟨gg, i.toNat * 5 + 1, none⟩ (.int .i64 (wrap64 (K + 1))))) ?hg ?ho ?hn ?hr ?_; (case ho => rfl); (case hg => rfl); (case hn => rfl); (case hr => first | (go_simp; done) | (go_simp; rfl)); intro w6 hw; have HS7 := Aside0.mk (show Shaped P w w6 by rw [hw]; exact HS5.out.set GG.out hxq1 rfl); clear hxq1 hfq1 hw; have hxq2 := (HX'.out w6 (HS.out.trans HS7.out)).1 2 _ rfl; have hfq2 : w6.frozen? ⟨gg, i.toNat * 5 + 2, none⟩ = false := (HX'.out w6 (HS.out.trans HS7.out)).2 2; obtain ⟨uq2, xq2, eq2⟩ := hxq2; obtain ⟨bq2, rfl⟩ := er_int eq2; have hxq2 : w6.cell? ⟨gg, i.toNat * 5 + 2, none⟩ = some (.int .i64 bq2) := xq2; clear xq2 eq2)
        | ((with_reducible refine gate_store (t := 3) (p := 33) rfl ?_); refine store_event (t := 3) (p := 33) (v := ?vo9) (w1 := (w6.setCell ⟨gg, i.toNat * 5 + 2, none⟩ (.int .i64 (wrap64 ((wrap64 (K + 1)) + 1))))) ?hg ?ho ?hn ?hr ?_; (case ho => rfl); (case hg => rfl); (case hn => rfl); (case hr => first | (go_simp; done) | (go_simp; rfl)); intro w8 hw; have HS9 := Aside0.mk (show Shaped P w w8 by rw [hw]; exact HS7.out.set GG.out hxq2 rfl); clear hxq2 hfq2 hw)
        | ((with_reducible refine gate_callee (f := 114) rfl ?_); refine goesL_ (some 39) rfl rfl Try.func114 (by kernel_rfl) rfl #[.int .i64 (wrap64 ((wrap64 ((wrap64 (K + 1)) + 1)) + 1))] rfl ar_ ?_; (with_reducible refine (laws_markText.calls kt2 (wrap64 ((wrap64 ((wrap64 (K + 1)) + 1)) + 1)) rt2 _ HT2.out).mono ?_); rintro e w10 ⟨rfl, hb⟩; refine ⟨_, rfl, ?_⟩; have HS11 := Aside0.mk (HS9.out.below hb); clear hb; have hxq3 := (HX'.out w10 (HS.out.trans HS11.out)).1 3 _ rfl; have hfq3 : w10.frozen? ⟨gg, i.toNat * 5 + 3, none⟩ = false := (HX'.out w10 (HS.out.trans HS11.out)).2 3; obtain ⟨uq3, xq3, eq3⟩ := hxq3; obtain ⟨bq3, rfl⟩ := er_string eq3; have hxq3 : w10.cell? ⟨gg, i.toNat * 5 + 3, none⟩ = some (.string bq3) := xq3; clear xq3 eq3)
        | ((with_reducible refine gate_store (t := 9) (p := 42) rfl ?_); refine store_event (t := 9) (p := 42) (v := ?vo13) (w1 := (w10.setCell ⟨gg, i.toNat * 5 + 3, none⟩ (.string rt2))) ?hg ?ho ?hn ?hr ?_; (case ho => rfl); (case hg => rfl); (case hn => rfl); (case hr => first | (go_simp; done) | (go_simp; rfl)); intro w12 hw; have HS13 := Aside0.mk (show Shaped P w w12 by rw [hw]; exact HS11.out.set GG.out hxq3 rfl); clear hxq3 hfq3 hw; have hxq4 := (HX'.out w12 (HS.out.trans HS13.out)).1 4 _ rfl; obtain ⟨uq4, xq4, eq4⟩ := hxq4; obtain rfl := er_slice eq4; have hxq4 : w12.cell? ⟨gg, i.toNat * 5 + 4, none⟩ = some (.slice A4 x.f1.f3.length c4) := xq4; clear xq4 eq4)
        | ((with_reducible refine gate_callee (f := 101) rfl ?_); refine goesL_ (some 52) rfl rfl Try.func101 (by kernel_rfl) rfl #[.slice A4 x.f1.f3.length c4, .int .i64 (wrap64 ((wrap64 ((wrap64 ((wrap64 (K + 1)) + 1)) + 1)) + 1))] rfl ar_ ?_; (with_reducible refine (HM3.out _ (HS.out.trans HS13.out)).mono ?_); rintro e w14 ⟨rfl, hs6⟩; refine ⟨_, rfl, ?_⟩; have HS15 := Aside0.mk (HS13.out.trans hs6); clear hs6))
      go_roundg k1
      case measure => omega
      case rel => exact ⟨_, _, rfl, rfl, ⟨by
        have h1 := HI.out
        have h2 := HE.out
        have h3 := W5.out
        have hl : (xs.length : Int) ≤ 9223372036854775807 := by have := (Kd.R_reads HR.out); obtain ⟨_, _, _, _, hC⟩ := this; have := hC.2.1; omega
        have hq : i < (xs.length : Int) := of_eq_true q6
        rw [h3, w64 (x := i + 1) (by omega) (by omega)]
        have e : (i + 1).toNat = i.toNat + 1 := by omega
        rw [e]
        refine ⟨by omega, by omega, by omega, by omega⟩⟩, HS15⟩
    · have c3b0 : decide (i < (xs.length : Int)) = false := decide_eq_false hlt
      have hi : i.toNat = xs.length := by have := HI.out; omega
      have hK : K = a + cnts cntP xs := by have := HI.out.2.2.2; rw [hi, List.take_length] at this; exact this
      subst hK
      clear hi hlt
      go_wp2
      go_ret
      exact ⟨rfl, HS1.out⟩
abbrev MN := S99
def cntN (x : MN) : Nat := 1 + cnts one_ x.f1 + cnts cntP x.f2
theorem markNodeS_calls (W : World) (base : Nat) (P : Nat → Prop) (xs : List MN) (v : Value) (a : Int) (w : World) (hR : Kd.R k99 99 W base P v xs) (hS : Shaped P W w) (h0 : 0 < a) (h1 : a + cnts cntN xs ≤ 4611686018427387904) :
    Calls Try.prog 89 #[v, .int .i64 a] w fun e w' => e = .returned (.int .i64 (a + cnts cntN xs)) ∧ Shaped P w w' := by
  obtain ⟨A, c, rfl⟩ := Kd.R_slice hR
  have HR := Aside0.mk hR
  have HS := Aside0.mk hS
  have HA := Aside0.mk h0
  have HZ := Aside0.mk h1
  clear hR hS h0 h1
  go_enter Try.func89, Try.ntmps89
  go_wp2
  go_loopg [1, 5] xs.length (fun kq v1 v5 w' => ∃ (K i : Int), v1 = .int .i64 K ∧ v5 = .int .i64 i ∧ Aside0 (0 ≤ i ∧ i ≤ xs.length ∧ (kq : Int) + i = xs.length ∧ K = a + cnts cntN (xs.take i.toNat)) ∧ Aside0 (Shaped P w w'))
  case atStart => exact ⟨a, 0, rfl, rfl, ⟨by omega, by omega, by omega, by simp [cnts]⟩, ⟨Shaped.refl P w⟩⟩
  case round =>
    try clear p2
    obtain ⟨K, i, rfl, rfl, HI, HS1⟩ := hrel
    by_cases hlt : i < (xs.length : Int)
    · obtain ⟨k1, rfl⟩ : ∃ m, gk = m + 1 := ⟨gk - 1, by have := HI.out; omega⟩
      obtain ⟨gg, cap, cc, ev, hg, hcl, hM, HX⟩ := row_at HR.out z99 i HI.out.1 hlt
      have hin : i.toNat < xs.length := by have := HI.out.1; omega
      obtain ⟨x, hx⟩ : ∃ x, x = xs.getD i.toNat z99 := ⟨_, rfl⟩
      rw [← hx] at hM
      have hel : x = xs[i.toNat] := by rw [hx, List.getD_eq_getElem?_getD, List.getElem?_eq_getElem hin]; rfl
      obtain ⟨v1, v2, rfl, g1, g2⟩ := k99_openM hM
      obtain ⟨A1, c1, rfl⟩ := Kd.R_slice g1
      have G1 := Aside0.mk g1
      obtain ⟨A2, c2, rfl⟩ := Kd.R_slice g2
      have G2 := Aside0.mk g2
      injection ev with ea _ ec
      subst ea ec
      have GG := Aside0.mk hg
      have HX' := Aside0.mk HX
      have c3b0 : decide (i < (xs.length : Int)) = true := decide_eq_true hlt
      have c4b0 : decide (0 ≤ i) = true := decide_eq_true HI.out.1
      have p6 : (0 ≤ i) = True := eq_true HI.out.1
      have q6 : (i < (xs.length : Int)) = True := eq_true hlt
      have hct := cnts_take cntN hin
      have hle := cnts_take_le cntN xs (i.toNat + 1)
      have HE := Aside0.mk (show K = a + cnts cntN (xs.take i.toNat) ∧ cnts cntN (xs.take (i.toNat + 1)) = cnts cntN (xs.take i.toNat) + (1 + cnts one_ x.f1 + cnts cntP x.f2) ∧ cnts cntN (xs.take (i.toNat + 1)) ≤ cnts cntN xs from ⟨HI.out.2.2.2, by (try rw [hel]); exact hct, hle⟩)
      have W1 := Aside0.mk (show wrap64 (K + 1) = K + 1 by have := HE.out; have := HA.out; have := HZ.out; exact w64 (by omega) (by omega))
      have HM1 := Aside0.mk (fun w5 hs5 => markStringS_calls W base P (x.f1) _ (wrap64 (K + 1)) w5 G1.out hs5 (by have := HE.out; have := HA.out; have := HZ.out; have := W1.out; omega) (by have := HE.out; have := HA.out; have := HZ.out; have := W1.out; omega))
      have W2 := Aside0.mk (show (wrap64 (K + 1)) + ((cnts one_ x.f1 : Nat) : Int) = (K + 1) + ((cnts one_ x.f1 : Nat) : Int) by rw [W1.out])
      have HM2 := Aside0.mk (fun w5 hs5 => markPropS_calls W base P (x.f2) _ ((wrap64 (K + 1)) + ((cnts one_ x.f1 : Nat) : Int)) w5 G2.out hs5 (by have := HE.out; have := HA.out; have := HZ.out; have := W2.out; omega) (by have := HE.out; have := HA.out; have := HZ.out; have := W2.out; omega))
      have W3 := Aside0.mk (show ((wrap64 (K + 1)) + ((cnts one_ x.f1 : Nat) : Int)) + ((cnts cntP x.f2 : Nat) : Int) = ((K + 1) + ((cnts one_ x.f1 : Nat) : Int)) + ((cnts cntP x.f2 : Nat) : Int) by rw [W2.out])
      have hxq0 := (HX'.out wr (HS.out.trans HS1.out)).1 0 _ rfl
      have hfq0 : wr.frozen? ⟨gg, i.toNat * 3, none⟩ = false := (HX'.out wr (HS.out.trans HS1.out)).2 0
      obtain ⟨uq0, xq0, eq0⟩ := hxq0
      obtain ⟨bq0, rfl⟩ := er_int eq0
      have hxq0 : wr.cell? ⟨gg, i.toNat * 3, none⟩ = some (.int .i64 bq0) := xq0
      clear xq0 eq0
      clear HX hM hcl hg hlt hx hin hel hct hle g1 g2
      go_wp2_with (first
        | ((with_reducible refine gate_store (t := 3) (p := 16) rfl ?_); refine store_event (t := 3) (p := 16) (v := ?vo3) (w1 := (wr.setCell ⟨gg, i.toNat * 3, none⟩ (.int .i64 K))) ?hg ?ho ?hn ?hr ?_; (case ho => rfl); (case hg => rfl); (case hn => rfl); (case hr => first | (go_simp; done) | (go_simp; rfl)); intro w2 hw; have HS3 := Aside0.mk (show Shaped P w w2 by rw [hw]; exact HS1.out.set GG.out hxq0 rfl); clear hxq0 hfq0 hw; have hxq1 := (HX'.out w2 (HS.out.trans HS3.out)).1 1 _ rfl; obtain ⟨uq1, xq1, eq1⟩ := hxq1; obtain rfl := er_slice eq1; have hxq1 : w2.cell? ⟨gg, i.toNat * 3 + 1, none⟩ = some (.slice A1 x.f1.length c1) := xq1; clear xq1 eq1)
        | ((with_reducible refine gate_callee (f := 45) rfl ?_); refine goesL_ (some 25) rfl rfl Try.func45 (by kernel_rfl) rfl #[.slice A1 x.f1.length c1, .int .i64 (wrap64 (K + 1))] rfl ar_ ?_; (with_reducible refine (HM1.out _ (HS.out.trans HS3.out)).mono ?_); rintro e w4 ⟨rfl, hs6⟩; refine ⟨_, rfl, ?_⟩; have HS5 := Aside0.mk (HS3.out.trans hs6); clear hs6; have hxq2 := (HX'.out w4 (HS.out.trans HS5.out)).1 2 _ rfl; obtain ⟨uq2, xq2, eq2⟩ := hxq2; obtain rfl := er_slice eq2; have hxq2 : w4.cell? ⟨gg, i.toNat * 3 + 2, none⟩ = some (.slice A2 x.f2.length c2) := xq2; clear xq2 eq2)
        | ((with_reducible refine gate_callee (f := 46) rfl ?_); refine goesL_ (some 32) rfl rfl Try.func46 (by kernel_rfl) rfl #[.slice A2 x.f2.length c2, .int .i64 ((wrap64 (K + 1)) + ((cnts one_ x.f1 : Nat) : Int))] rfl ar_ ?_; (with_reducible refine (HM2.out _ (HS.out.trans HS5.out)).mono ?_); rintro e w6 ⟨rfl, hs6⟩; refine ⟨_, rfl, ?_⟩; have HS7 := Aside0.mk (HS5.out.trans hs6); clear hs6))
      go_roundg k1
      case measure => omega
      case rel => exact ⟨_, _, rfl, rfl, ⟨by
        have h1 := HI.out
        have h2 := HE.out
        have h3 := W3.out
        have hl : (xs.length : Int) ≤ 9223372036854775807 := by have := (Kd.R_reads HR.out); obtain ⟨_, _, _, _, hC⟩ := this; have := hC.2.1; omega
        have hq : i < (xs.length : Int) := of_eq_true q6
        rw [h3, w64 (x := i + 1) (by omega) (by omega)]
        have e : (i + 1).toNat = i.toNat + 1 := by omega
        rw [e]
        refine ⟨by omega, by omega, by omega, by omega⟩⟩, HS7⟩
    · have c3b0 : decide (i < (xs.length : Int)) = false := decide_eq_false hlt
      have hi : i.toNat = xs.length := by have := HI.out; omega
      have hK : K = a + cnts cntN xs := by have := HI.out.2.2.2; rw [hi, List.take_length] at this; exact this
      subst hK
      clear hi hlt
      go_wp2
      go_ret
      exact ⟨rfl, HS1.out⟩
abbrev MG := S104
def cntG (x : MG) : Nat := 4 + cnts cntP x.f4
theorem markEdgeS_calls (W : World) (base : Nat) (P : Nat → Prop) (xs : List MG) (v : Value) (a : Int) (w : World) (hR : Kd.R k104 104 W base P v xs) (hS : Shaped P W w) (h0 : 0 < a) (h1 : a + cnts cntG xs ≤ 4611686018427387904) :
    Calls Try.prog 90 #[v, .int .i64 a] w fun e w' => e = .returned (.int .i64 (a + cnts cntG xs)) ∧ Shaped P w w' := by
  obtain ⟨A, c, rfl⟩ := Kd.R_slice hR
  have HR := Aside0.mk hR
  have HS := Aside0.mk hS
  have HA := Aside0.mk h0
  have HZ := Aside0.mk h1
  clear hR hS h0 h1
  go_enter Try.func90, Try.ntmps90
  go_wp2
  go_loopg [1, 5] xs.length (fun kq v1 v5 w' => ∃ (K i : Int), v1 = .int .i64 K ∧ v5 = .int .i64 i ∧ Aside0 (0 ≤ i ∧ i ≤ xs.length ∧ (kq : Int) + i = xs.length ∧ K = a + cnts cntG (xs.take i.toNat)) ∧ Aside0 (Shaped P w w'))
  case atStart => exact ⟨a, 0, rfl, rfl, ⟨by omega, by omega, by omega, by simp [cnts]⟩, ⟨Shaped.refl P w⟩⟩
  case round =>
    try clear p2
    obtain ⟨K, i, rfl, rfl, HI, HS1⟩ := hrel
    by_cases hlt : i < (xs.length : Int)
    · obtain ⟨k1, rfl⟩ : ∃ m, gk = m + 1 := ⟨gk - 1, by have := HI.out; omega⟩
      obtain ⟨gg, cap, cc, ev, hg, hcl, hM, HX⟩ := row_at HR.out z104 i HI.out.1 hlt
      have hin : i.toNat < xs.length := by have := HI.out.1; omega
      obtain ⟨x, hx⟩ : ∃ x, x = xs.getD i.toNat z104 := ⟨_, rfl⟩
      rw [← hx] at hM
      have hel : x = xs[i.toNat] := by rw [hx, List.getD_eq_getElem?_getD, List.getElem?_eq_getElem hin]; rfl
      obtain ⟨v4, rfl, g4⟩ := k104_openM hM
      obtain ⟨A4, c4, rfl⟩ := Kd.R_slice g4
      have G4 := Aside0.mk g4
      injection ev with ea _ ec
      subst ea ec
      have GG := Aside0.mk hg
      have HX' := Aside0.mk HX
      have c3b0 : decide (i < (xs.length : Int)) = true := decide_eq_true hlt
      have c4b0 : decide (0 ≤ i) = true := decide_eq_true HI.out.1
      have p6 : (0 ≤ i) = True := eq_true HI.out.1
      have q6 : (i < (xs.length : Int)) = True := eq_true hlt
      have hct := cnts_take cntG hin
      have hle := cnts_take_le cntG xs (i.toNat + 1)
      have HE := Aside0.mk (show K = a + cnts cntG (xs.take i.toNat) ∧ cnts cntG (xs.take (i.toNat + 1)) = cnts cntG (xs.take i.toNat) + (4 + cnts cntP x.f4) ∧ cnts cntG (xs.take (i.toNat + 1)) ≤ cnts cntG xs from ⟨HI.out.2.2.2, by (try rw [hel]); exact hct, hle⟩)
      have W1 := Aside0.mk (show wrap64 (K + 1) = K + 1 by have := HE.out; have := HA.out; have := HZ.out; exact w64 (by omega) (by omega))
      obtain ⟨kt1, rt1, ht1⟩ := markText_some (wrap64 (K + 1)) (by have := HE.out; have := HA.out; have := HZ.out; have := W1.out; omega) (by have := HE.out; have := HA.out; have := HZ.out; have := W1.out; omega)
      have HT1 := Aside0.mk ht1
      clear ht1
      have W2 := Aside0.mk (show wrap64 ((wrap64 (K + 1)) + 1) = (wrap64 (K + 1)) + 1 by have := HE.out; have := HA.out; have := HZ.out; have := W1.out; exact w64 (by omega) (by omega))
      replace W2 := Aside0.mk (show wrap64 ((wrap64 (K + 1)) + 1) = (K + 1) + 1 from (by have h1_ := W2.out; have h2_ := W1.out; rw [h1_, h2_]))
      have W3 := Aside0.mk (show wrap64 ((wrap64 ((wrap64 (K + 1)) + 1)) + 1) = (wrap64 ((wrap64 (K + 1)) + 1)) + 1 by have := HE.out; have := HA.out; have := HZ.out; have := W2.out; exact w64 (by omega) (by omega))
      replace W3 := Aside0.mk (show wrap64 ((wrap64 ((wrap64 (K + 1)) + 1)) + 1) = ((K + 1) + 1) + 1 from (by have h1_ := W3.out; have h2_ := W2.out; rw [h1_, h2_]))
      have W4 := Aside0.mk (show wrap64 ((wrap64 ((wrap64 ((wrap64 (K + 1)) + 1)) + 1)) + 1) = (wrap64 ((wrap64 ((wrap64 (K + 1)) + 1)) + 1)) + 1 by have := HE.out; have := HA.out; have := HZ.out; have := W3.out; exact w64 (by omega) (by omega))
      replace W4 := Aside0.mk (show wrap64 ((wrap64 ((wrap64 ((wrap64 (K + 1)) + 1)) + 1)) + 1) = (((K + 1) + 1) + 1) + 1 from (by have h1_ := W4.out; have h2_ := W3.out; rw [h1_, h2_]))
      have HM2 := Aside0.mk (fun w5 hs5 => markPropS_calls W base P (x.f4) _ (wrap64 ((wrap64 ((wrap64 ((wrap64 (K + 1)) + 1)) + 1)) + 1)) w5 G4.out hs5 (by have := HE.out; have := HA.out; have := HZ.out; have := W4.out; omega) (by have := HE.out; have := HA.out; have := HZ.out; have := W4.out; omega))
      have W5 := Aside0.mk (show (wrap64 ((wrap64 ((wrap64 ((wrap64 (K + 1)) + 1)) + 1)) + 1)) + ((cnts cntP x.f4 : Nat) : Int) = ((((K + 1) + 1) + 1) + 1) + ((cnts cntP x.f4 : Nat) : Int) by rw [W4.out])
      have hxq0 := (HX'.out wr (HS.out.trans HS1.out)).1 0 _ rfl
      have hfq0 : wr.frozen? ⟨gg, i.toNat * 5, none⟩ = false := (HX'.out wr (HS.out.trans HS1.out)).2 0
      obtain ⟨uq0, xq0, eq0⟩ := hxq0
      obtain ⟨bq0, rfl⟩ := er_int eq0
      have hxq0 : wr.cell? ⟨gg, i.toNat * 5, none⟩ = some (.int .i64 bq0) := xq0
      clear xq0 eq0
      clear HX hM hcl hg hlt hx hin hel hct hle g4
      go_wp2_with (first
        | ((with_reducible refine gate_store (t := 3) (p := 16) rfl ?_); refine store_event (t := 3) (p := 16) (v := ?vo3) (w1 := (wr.setCell ⟨gg, i.toNat * 5, none⟩ (.int .i64 K))) ?hg ?ho ?hn ?hr ?_; (case ho => rfl); (case hg => rfl); (case hn => rfl); (case hr => first | (go_simp; done) | (go_simp; rfl)); intro w2 hw; have HS3 := Aside0.mk (show Shaped P w w2 by rw [hw]; exact HS1.out.set GG.out hxq0 rfl); clear hxq0 hfq0 hw)
        | ((with_reducible refine gate_callee (f := 114) rfl ?_); refine goesL_ (some 22) rfl rfl Try.func114 (by kernel_rfl) rfl #[.int .i64 (wrap64 (K + 1))] rfl ar_ ?_; (with_reducible refine (laws_markText.calls kt1 (wrap64 (K + 1)) rt1 _ HT1.out).mono ?_); rintro e w4 ⟨rfl, hb⟩; refine ⟨_, rfl, ?_⟩; have HS5 := Aside0.mk (HS3.out.below hb); clear hb; have hxq1 := (HX'.out w4 (HS.out.trans HS5.out)).1 1 _ rfl; have hfq1 : w4.frozen? ⟨gg, i.toNat * 5 + 1, none⟩ = false := (HX'.out w4 (HS.out.trans HS5.out)).2 1; obtain ⟨uq1, xq1, eq1⟩ := hxq1; obtain ⟨bq1, rfl⟩ := er_string eq1; have hxq1 : w4.cell? ⟨gg, i.toNat * 5 + 1, none⟩ = some (.string bq1) := xq1; clear xq1 eq1)
        | ((with_reducible refine gate_store (t := 9) (p := 24) rfl ?_); refine store_event (t := 9) (p := 24) (v := ?vo7) (w1 := (w4.setCell ⟨gg, i.toNat * 5 + 1, none⟩ (.string rt1))) ?hg ?ho ?hn ?hr ?_; (case ho => rfl); (case hg => rfl); (case hn => rfl); (case hr => first | (go_simp; done) | (go_simp; rfl)); intro w6 hw; have HS7 := Aside0.mk (show Shaped P w w6 by rw [hw]; exact HS5.out.set GG.out hxq1 rfl); clear hxq1 hfq1 hw; have hxq2 := (HX'.out w6 (HS.out.trans HS7.out)).1 2 _ rfl; have hfq2 : w6.frozen? ⟨gg, i.toNat * 5 + 2, none⟩ = false := (HX'.out w6 (HS.out.trans HS7.out)).2 2; obtain ⟨uq2, xq2, eq2⟩ := hxq2; obtain ⟨bq2, rfl⟩ := er_int eq2; have hxq2 : w6.cell? ⟨gg, i.toNat * 5 + 2, none⟩ = some (.int .i64 bq2) := xq2; clear xq2 eq2)
        | ((with_reducible refine gate_store (t := 3) (p := 31) rfl ?_); refine store_event (t := 3) (p := 31) (v := ?vo9) (w1 := (w6.setCell ⟨gg, i.toNat * 5 + 2, none⟩ (.int .i64 (wrap64 ((wrap64 (K + 1)) + 1))))) ?hg ?ho ?hn ?hr ?_; (case ho => rfl); (case hg => rfl); (case hn => rfl); (case hr => first | (go_simp; done) | (go_simp; rfl)); intro w8 hw; have HS9 := Aside0.mk (show Shaped P w w8 by rw [hw]; exact HS7.out.set GG.out hxq2 rfl); clear hxq2 hfq2 hw; have hxq3 := (HX'.out w8 (HS.out.trans HS9.out)).1 3 _ rfl; have hfq3 : w8.frozen? ⟨gg, i.toNat * 5 + 3, none⟩ = false := (HX'.out w8 (HS.out.trans HS9.out)).2 3; obtain ⟨uq3, xq3, eq3⟩ := hxq3; obtain ⟨bq3, rfl⟩ := er_int eq3; have hxq3 : w8.cell? ⟨gg, i.toNat * 5 + 3, none⟩ = some (.int .i64 bq3) := xq3; clear xq3 eq3)
        | ((with_reducible refine gate_store (t := 3) (p := 38) rfl ?_); refine store_event (t := 3) (p := 38) (v := ?vo11) (w1 := (w8.setCell ⟨gg, i.toNat * 5 + 3, none⟩ (.int .i64 (wrap64 ((wrap64 ((wrap64 (K + 1)) + 1)) + 1))))) ?hg ?ho ?hn ?hr ?_; (case ho => rfl); (case hg => rfl); (case hn => rfl); (case hr => first | (go_simp; done) | (go_simp; rfl)); intro w10 hw; have HS11 := Aside0.mk (show Shaped P w w10 by rw [hw]; exact HS9.out.set GG.out hxq3 rfl); clear hxq3 hfq3 hw; have hxq4 := (HX'.out w10 (HS.out.trans HS11.out)).1 4 _ rfl; obtain ⟨uq4, xq4, eq4⟩ := hxq4; obtain rfl := er_slice eq4; have hxq4 : w10.cell? ⟨gg, i.toNat * 5 + 4, none⟩ = some (.slice A4 x.f4.length c4) := xq4; clear xq4 eq4)
        | ((with_reducible refine gate_callee (f := 46) rfl ?_); refine goesL_ (some 47) rfl rfl Try.func46 (by kernel_rfl) rfl #[.slice A4 x.f4.length c4, .int .i64 (wrap64 ((wrap64 ((wrap64 ((wrap64 (K + 1)) + 1)) + 1)) + 1))] rfl ar_ ?_; (with_reducible refine (HM2.out _ (HS.out.trans HS11.out)).mono ?_); rintro e w12 ⟨rfl, hs6⟩; refine ⟨_, rfl, ?_⟩; have HS13 := Aside0.mk (HS11.out.trans hs6); clear hs6))
      go_roundg k1
      case measure => omega
      case rel => exact ⟨_, _, rfl, rfl, ⟨by
        have h1 := HI.out
        have h2 := HE.out
        have h3 := W5.out
        have hl : (xs.length : Int) ≤ 9223372036854775807 := by have := (Kd.R_reads HR.out); obtain ⟨_, _, _, _, hC⟩ := this; have := hC.2.1; omega
        have hq : i < (xs.length : Int) := of_eq_true q6
        rw [h3, w64 (x := i + 1) (by omega) (by omega)]
        have e : (i + 1).toNat = i.toNat + 1 := by omega
        rw [e]
        refine ⟨by omega, by omega, by omega, by omega⟩⟩, HS13⟩
    · have c3b0 : decide (i < (xs.length : Int)) = false := decide_eq_false hlt
      have hi : i.toNat = xs.length := by have := HI.out; omega
      have hK : K = a + cnts cntG xs := by have := HI.out.2.2.2; rw [hi, List.take_length] at this; exact this
      subst hK
      clear hi hlt
      go_wp2
      go_ret
      exact ⟨rfl, HS1.out⟩
end Go.Proofs.Ytcchmhmbjhgfdaa.Mk
