import Derived.Test.YtcchmhmbjhgfdaaY8
import Derived.Test.YtcchmhmbjhgfdaaY3
namespace Go.Proofs.Ytcchmhmbjhgfdaa.Mk
open Go.RowKit Go.Proofs.Ytcchmhmbjhgfdaa.G Go.Proofs.YtcchmhmbjhgfdaaW.PrintWords Go.Proofs.YtcchmhmbjhgfdaaW.PrintLast Go.Proofs.YtcchmhmbjhgfdaaW.PrintMore
open Own
set_option linter.unusedVariables false
set_option linter.unusedSimpArgs false
def cnts {α : Type} (f : α → Nat) (l : List α) : Nat := (l.map f).sum
theorem cnts_take {α : Type} (f : α → Nat) {l : List α} {i : Nat} (h : i < l.length) : cnts f (l.take (i + 1)) = cnts f (l.take i) + f l[i] := by
  unfold cnts
  rw [List.take_succ_eq_append_getElem h, List.map_append, List.sum_append]
  simp only [List.map_cons, List.map_nil, List.sum_cons, List.sum_nil, Nat.add_zero]
theorem cnts_take_le {α : Type} (f : α → Nat) (l : List α) (i : Nat) : cnts f (l.take i) ≤ cnts f l := by
  have h : cnts f l = cnts f (l.take i) + cnts f (l.drop i) := by
    unfold cnts
    rw [← List.sum_append, ← List.map_append, List.take_append_drop]
  omega
def one_ : ByteArray → Nat := fun _ => 1
theorem markValueS_calls' (W : World) (base : Nat) (P : Nat → Prop) (xs : List MV) (v : Value) (a : Int) (w : World) (hR : Kd.R k49 49 W base P v xs) (hS : Shaped P W w) (h0 : 0 < a) (h1 : a + cntVs xs ≤ 4611686018427387904) :
    Calls Try.prog 101 #[v, .int .i64 a] w fun e w' => e = .returned (.int .i64 (a + cntVs xs)) ∧ Shaped P w w' := markValueS_calls W base P _ xs v a w (Nat.le_refl _) hR hS h0 h1
theorem markStringS_calls (W : World) (base : Nat) (P : Nat → Prop) (xs : List ByteArray) (v : Value) (a : Int) (w : World) (hR : Kd.R Kd.string 9 W base P v xs) (hS : Shaped P W w) (h0 : 0 < a) (h1 : a + cnts one_ xs ≤ 4611686018427387904) :
    Calls Try.prog 45 #[v, .int .i64 a] w fun e w' => e = .returned (.int .i64 (a + cnts one_ xs)) ∧ Shaped P w w' := by
  obtain ⟨A, c, rfl⟩ := Kd.R_slice hR
  have HR := Aside0.mk hR
  have HS := Aside0.mk hS
  have HA := Aside0.mk h0
  have HZ := Aside0.mk h1
  clear hR hS h0 h1
  go_enter Try.func45, Try.ntmps45
  go_wp2
  go_loopg [1, 5] xs.length (fun kq v1 v5 w' => ∃ (K i : Int), v1 = .int .i64 K ∧ v5 = .int .i64 i ∧ Aside0 (0 ≤ i ∧ i ≤ xs.length ∧ (kq : Int) + i = xs.length ∧ K = a + cnts one_ (xs.take i.toNat)) ∧ Aside0 (Shaped P w w'))
  case atStart => exact ⟨a, 0, rfl, rfl, ⟨by omega, by omega, by omega, by simp [cnts]⟩, ⟨Shaped.refl P w⟩⟩
  case round =>
    try clear p2
    obtain ⟨K, i, rfl, rfl, HI, HS1⟩ := hrel
    by_cases hlt : i < (xs.length : Int)
    · obtain ⟨k1, rfl⟩ : ∃ m, gk = m + 1 := ⟨gk - 1, by have := HI.out; omega⟩
      obtain ⟨gg, cap, cc, ev, hg, hcl, hM, HX⟩ := row_at HR.out ByteArray.empty i HI.out.1 hlt
      have hin : i.toNat < xs.length := by have := HI.out.1; omega
      obtain ⟨x, hx⟩ : ∃ x, x = xs.getD i.toNat ByteArray.empty := ⟨_, rfl⟩
      rw [← hx] at hM
      have hel : x = xs[i.toNat] := by rw [hx, List.getD_eq_getElem?_getD, List.getElem?_eq_getElem hin]; rfl
      obtain rfl : cc = [.string x] := hM
      injection ev with ea _ ec
      subst ea ec
      have GG := Aside0.mk hg
      have HX' := Aside0.mk HX
      have c3b0 : decide (i < (xs.length : Int)) = true := decide_eq_true hlt
      have c4b0 : decide (0 ≤ i) = true := decide_eq_true HI.out.1
      have p6 : (0 ≤ i) = True := eq_true HI.out.1
      have q6 : (i < (xs.length : Int)) = True := eq_true hlt
      have hct := cnts_take one_ hin
      have hle := cnts_take_le one_ xs (i.toNat + 1)
      have HE := Aside0.mk (show K = a + cnts one_ (xs.take i.toNat) ∧ cnts one_ (xs.take (i.toNat + 1)) = cnts one_ (xs.take i.toNat) + (1) ∧ cnts one_ (xs.take (i.toNat + 1)) ≤ cnts one_ xs from ⟨HI.out.2.2.2, by (try rw [hel]); exact hct, hle⟩)
      obtain ⟨kt1, rt1, ht1⟩ := markText_some (K) (by have := HE.out; have := HA.out; have := HZ.out; omega) (by have := HE.out; have := HA.out; have := HZ.out; omega)
      have HT1 := Aside0.mk ht1
      clear ht1
      have W1 := Aside0.mk (show wrap64 (K + 1) = K + 1 by have := HE.out; have := HA.out; have := HZ.out; exact w64 (by omega) (by omega))
      clear HX hcl hg hlt hx hin hel hct hle
      go_wp2_with (first
        | ((with_reducible refine gate_callee (f := 114) rfl ?_); refine goesL_ (some 15) rfl rfl Try.func114 (by kernel_rfl) rfl #[.int .i64 (K)] rfl ar_ ?_; (with_reducible refine (laws_markText.calls kt1 (K) rt1 _ HT1.out).mono ?_); rintro e w2 ⟨rfl, hb⟩; refine ⟨_, rfl, ?_⟩; have HS3 := Aside0.mk (HS1.out.below hb); clear hb; have hxq0 := (HX'.out w2 (HS.out.trans HS3.out)).1 0 _ rfl; have hfq0 : w2.frozen? ⟨gg, i.toNat, none⟩ = false := (by have h_ := (HX'.out w2 (HS.out.trans HS3.out)).2 0; simpa [Kd.string, Kd.scalar] using h_); obtain ⟨uq0, xq0, eq0⟩ := hxq0; obtain ⟨bq0, rfl⟩ := er_string eq0; have hxq0 : w2.cell? ⟨gg, i.toNat, none⟩ = some (.string bq0) := (by have h_ := xq0; simpa [Kd.string, Kd.scalar] using h_); clear xq0 eq0)
        | ((with_reducible refine gate_store (t := 9) (p := 16) rfl ?_); refine store_event (t := 9) (p := 16) (v := ?vo5) (w1 := (w2.setCell ⟨gg, i.toNat, none⟩ (.string rt1))) ?hg ?ho ?hn ?hr ?_; (case ho => rfl); (case hg => rfl); (case hn => rfl); (case hr => first | (go_simp; done) | (go_simp; rfl)); intro w4 hw; have HS5 := Aside0.mk (show Shaped P w w4 by rw [hw]; exact HS3.out.set GG.out hxq0 rfl); clear hxq0 hfq0 hw))
      go_roundg k1
      case measure => omega
      case rel => exact ⟨_, _, rfl, rfl, ⟨by
        have h1 := HI.out
        have h2 := HE.out
        have h3 := W1.out
        have hl : (xs.length : Int) ≤ 9223372036854775807 := by have := (Kd.R_reads HR.out); obtain ⟨_, _, _, _, hC⟩ := this; have := hC.2.1; omega
        have hq : i < (xs.length : Int) := of_eq_true q6
        rw [h3, w64 (x := i + 1) (by omega) (by omega)]
        have e : (i + 1).toNat = i.toNat + 1 := by omega
        rw [e]
        refine ⟨by omega, by omega, by omega, by omega⟩⟩, HS5⟩
    · have c3b0 : decide (i < (xs.length : Int)) = false := decide_eq_false hlt
      have hi : i.toNat = xs.length := by have := HI.out; omega
      have hK : K = a + cnts one_ xs := by have := HI.out.2.2.2; rw [hi, List.take_length] at this; exact this
      subst hK
      clear hi hlt
      go_wp2
      go_ret
      exact ⟨rfl, HS1.out⟩
abbrev MP := S140
def cntP (x : MP) : Nat := 4 + cntVs x.f1.f3
theorem markPropS_calls (W : World) (base : Nat) (P : Nat → Prop) (xs : List MP) (v : Value) (a : Int) (w : World) (hR : Kd.R k140 140 W base P v xs) (hS : Shaped P W w) (h0 : 0 < a) (h1 : a + cnts cntP xs ≤ 4611686018427387904) :
    Calls Try.prog 46 #[v, .int .i64 a] w fun e w' => e = .returned (.int .i64 (a + cnts cntP xs)) ∧ Shaped P w w' := by
  obtain ⟨A, c, rfl⟩ := Kd.R_slice hR
  have HR := Aside0.mk hR
  have HS := Aside0.mk hS
  have HA := Aside0.mk h0
  have HZ := Aside0.mk h1
  clear hR hS h0 h1
  go_enter Try.func46, Try.ntmps46
  go_wp2
  go_loopg [1, 5] xs.length (fun kq v1 v5 w' => ∃ (K i : Int), v1 = .int .i64 K ∧ v5 = .int .i64 i ∧ Aside0 (0 ≤ i ∧ i ≤ xs.length ∧ (kq : Int) + i = xs.length ∧ K = a + cnts cntP (xs.take i.toNat)) ∧ Aside0 (Shaped P w w'))
  case atStart => exact ⟨a, 0, rfl, rfl, ⟨by omega, by omega, by omega, by simp [cnts]⟩, ⟨Shaped.refl P w⟩⟩
  case round =>
    try clear p2
    obtain ⟨K, i, rfl, rfl, HI, HS1⟩ := hrel
    by_cases hlt : i < (xs.length : Int)
    · obtain ⟨k1, rfl⟩ : ∃ m, gk = m + 1 := ⟨gk - 1, by have := HI.out; omega⟩
      obtain ⟨gg, cap, cc, ev, hg, hcl, hM, HX⟩ := row_at HR.out z140 i HI.out.1 hlt
      have hin : i.toNat < xs.length := by have := HI.out.1; omega
      obtain ⟨x, hx⟩ : ∃ x, x = xs.getD i.toNat z140 := ⟨_, rfl⟩
      rw [← hx] at hM
      have hel : x = xs[i.toNat] := by rw [hx, List.getD_eq_getElem?_getD, List.getElem?_eq_getElem hin]; rfl
      obtain ⟨v4, rfl, g4⟩ := k140_openM hM
      obtain ⟨A4, c4, rfl⟩ := Kd.R_slice g4
      have G4 := Aside0.mk g4
      injection ev with ea _ ec
      subst ea ec
      have GG := Aside0.mk hg
      have HX' := Aside0.mk HX
      have c3b0 : decide (i < (xs.length : Int)) = true := decide_eq_true hlt
      have c4b0 : decide (0 ≤ i) = true := decide_eq_true HI.out.1
      have p6 : (0 ≤ i) = True := eq_true HI.out.1
      have q6 : (i < (xs.length : Int)) = True := eq_true hlt
      have hct := cnts_take cntP hin
      have hle := cnts_take_le cntP xs (i.toNat + 1)
      have HE := Aside0.mk (show K = a + cnts cntP (xs.take i.toNat) ∧ cnts cntP (xs.take (i.toNat + 1)) = cnts cntP (xs.take i.toNat) + (4 + cntVs x.f1.f3) ∧ cnts cntP (xs.take (i.toNat + 1)) ≤ cnts cntP xs from ⟨HI.out.2.2.2, by (try rw [hel]); exact hct, hle⟩)
      obtain ⟨kt1, rt1, ht1⟩ := markText_some (K) (by have := HE.out; have := HA.out; have := HZ.out; omega) (by have := HE.out; have := HA.out; have := HZ.out; omega)
      have HT1 := Aside0.mk ht1
      clear ht1
      have W1 := Aside0.mk (show wrap64 (K + 1) = K + 1 by have := HE.out; have := HA.out; have := HZ.out; exact w64 (by omega) (by omega))
      have W2 := Aside0.mk (show wrap64 ((wrap64 (K + 1)) + 1) = (wrap64 (K + 1)) + 1 by have := HE.out; have := HA.out; have := HZ.out; have := W1.out; exact w64 (by omega) (by omega))
      replace W2 := Aside0.mk (show wrap64 ((wrap64 (K + 1)) + 1) = (K + 1) + 1 from (by have h1_ := W2.out; have h2_ := W1.out; rw [h1_, h2_]))
      have W3 := Aside0.mk (show wrap64 ((wrap64 ((wrap64 (K + 1)) + 1)) + 1) = (wrap64 ((wrap64 (K + 1)) + 1)) + 1 by have := HE.out; have := HA.out; have := HZ.out; have := W2.out; exact w64 (by omega) (by omega))
      replace W3 := Aside0.mk (show wrap64 ((wrap64 ((wrap64 (K + 1)) + 1)) + 1) = ((K + 1) + 1) + 1 from (by have h1_ := W3.out; have h2_ := W2.out; rw [h1_, h2_]))
      obtain ⟨kt2, rt2, ht2⟩ := markText_some (wrap64 ((wrap64 ((wrap64 (K + 1)) + 1)) + 1)) (by have := HE.out; have := HA.out; have := HZ.out; have := W3.out; omega) (by have := HE.out; have := HA.out; have := HZ.out; have := W3.out; omega)
      have HT2 := Aside0.mk ht2
      clear ht2
      have W4 := Aside0.mk (show wrap64 ((wrap64 ((wrap64 ((wrap64 (K + 1)) + 1)) + 1)) + 1) = (wrap64 ((wrap64 ((wrap64 (K + 1)) + 1)) + 1)) + 1 by have := HE.out; have := HA.out; have := HZ.out; have := W3.out; exact w64 (by omega) (by omega))
      replace W4 := Aside0.mk (show wrap64 ((wrap64 ((wrap64 ((wrap64 (K + 1)) + 1)) + 1)) + 1) = (((K + 1) + 1) + 1) + 1 from (by have h1_ := W4.out; have h2_ := W3.out; rw [h1_, h2_]))
      have HM3 := Aside0.mk (fun w5 hs5 => markValueS_calls' W base P (x.f1.f3) _ (wrap64 ((wrap64 ((wrap64 ((wrap64 (K + 1)) + 1)) + 1)) + 1)) w5 G4.out hs5 (by have := HE.out; have := HA.out; have := HZ.out; have := W4.out; omega) (by have := HE.out; have := HA.out; have := HZ.out; have := W4.out; omega))
      have W5 := Aside0.mk (show (wrap64 ((wrap64 ((wrap64 ((wrap64 (K + 1)) + 1)) + 1)) + 1)) + ((cntVs x.f1.f3 : Nat) : Int) = ((((K + 1) + 1) + 1) + 1) + ((cntVs x.f1.f3 : Nat) : Int) by rw [W4.out])
      clear HX hM hcl hg hlt hx hin hel hct hle g4
      go_wp2_with (first
        | ((with_reducible refine gate_callee (f := 114) rfl ?_); refine goesL_ (some 15) rfl rfl Try.func114 (by kernel_rfl) rfl #[.int .i64 (K)] rfl ar_ ?_; (with_reducible refine (laws_markText.calls kt1 (K) rt1 _ HT1.out).mono ?_); rintro e w2 ⟨rfl, hb⟩; refine ⟨_, rfl, ?_⟩; have HS3 := Aside0.mk (HS1.out.below hb); clear hb; have hxq0 := (HX'.out w2 (HS.out.trans HS3.out)).1 0 _ rfl; have hfq0 : w2.frozen? ⟨gg, i.toNat * 5, none⟩ = false := (HX'.out w2 (HS.out.trans HS3.out)).2 0; obtain ⟨uq0, xq0, eq0⟩ := hxq0; obtain ⟨bq0, rfl⟩ := er_string eq0; have hxq0 : w2.cell? ⟨gg, i.toNat * 5, none⟩ = some (.string bq0) := xq0; clear xq0 eq0)
        | ((with_reducible refine gate_store (t := 9) (p := 17) rfl ?_); refine store_event (t := 9) (p := 17) (v := ?vo5) (w1 := (w2.setCell ⟨gg, i.toNat * 5, none⟩ (.string rt1))) ?hg ?ho ?hn ?hr ?_; (case ho => rfl); (case hg => rfl); (case hn => rfl); (case hr => first | (go_simp; done) | (go_simp; rfl)); intro w4 hw; have HS5 := Aside0.mk (show Shaped P w w4 by rw [hw]; exact HS3.out.set GG.out hxq0 rfl); clear hxq0 hfq0 hw; have hxq1 := (HX'.out w4 (HS.out.trans HS5.out)).1 1 _ rfl; have hfq1 : w4.frozen? ⟨gg, i.toNat * 5 + 1, none⟩ = false := (HX'.out w4 (HS.out.trans HS5.out)).2 1; obtain ⟨uq1, xq1, eq1⟩ := hxq1; obtain ⟨bq1, rfl⟩ := er_int eq1; have hxq1 : w4.cell? ⟨gg, i.toNat * 5 + 1, none⟩ = some (.int .i64 bq1) := xq1; clear xq1 eq1)
        | ((with_reducible refine gate_store (t := 3) (p := 25) rfl ?_); refine store_event (t := 3) (p := 25) (v := ?vo7) (w1 := (w4.setCell ⟨gg, i.toNat * 5 + 1, none⟩ (.int .i64 (wrap64 (K + 1))))) ?hg ?ho ?hn ?hr ?_; (case ho => rfl); (case hg => rfl); (case hn => rfl); (case hr => first | (go_simp; done) | (go_simp; rfl)); intro w6 hw; have HS7 := Aside0.mk (show Shaped P w w6 by rw [hw]; exact HS5.out.set GG.out hxq1 rfl); clear hxq1 hfq1 hw; have hxq2 := (HX'.out w6 (HS.out.trans HS7.out)).1 2 _ rfl; have hfq2 : w6.frozen? ⟨gg, i.toNat * 5 + 2, none⟩ = false := (HX'.out w6 (HS.out.trans HS7.out)).2 2; obtain ⟨uq2, xq2, eq2⟩ := hxq2; obtain ⟨bq2, rfl⟩ := er_int eq2; have hxq2 : w6.cell? ⟨gg, i.toNat * 5 + 2, none⟩ = some (.int .i64 bq2) := xq2; clear xq2 eq2)
        | ((with_reducible refine gate_store (t := 3) (p := 33) rfl ?_); refine store_event (t := 3) (p := 33) (v := ?vo9) (w1 := (w6.setCell ⟨gg, i.toNat * 5 + 2, none⟩ (.int .i64 (wrap64 ((wrap64 (K + 1)) + 1))))) ?hg ?ho ?hn ?hr ?_; (case ho => rfl); (case hg => rfl); (case hn => rfl); (case hr => first | (go_simp; done) | (go_simp; rfl)); intro w8 hw; have HS9 := Aside0.mk (show Shaped P w w8 by rw [hw]; exact HS7.out.set GG.out hxq2 rfl); clear hxq2 hfq2 hw)
        | ((with_reducible refine gate_callee (f := 114) rfl ?_); refine goesL_ (some 39) rfl rfl Try.func114 (by kernel_rfl) rfl #[.int .i64 (wrap64 ((wrap64 ((wrap64 (K + 1)) + 1)) + 1))] rfl ar_ ?_; (with_reducible refine (laws_markText.calls kt2 (wrap64 ((wrap64 ((wrap64 (K + 1)) + 1)) + 1)) rt2 _ HT2.out).mono ?_); rintro e w10 ⟨rfl, hb⟩; refine ⟨_, rfl, ?_⟩; have HS11 := Aside0.mk (HS9.out.below hb); clear hb; have hxq3 := (HX'.out w10 (HS.out.trans HS11.out)).1 3 _ rfl; have hfq3 : w10.frozen? ⟨gg, i.toNat * 5 + 3, none⟩ = false := (HX'.out w10 (HS.out.trans HS11.out)).2 3; obtain ⟨uq3, xq3, eq3⟩ := hxq3; obtain ⟨bq3, rfl⟩ := er_string eq3; have hxq3 : w10.cell? ⟨gg, i.toNat * 5 + 3, none⟩ = some (.string bq3) := xq3; clear xq3 eq3)
        | ((with_reducible refine gate_store (t := 9) (p := 42) rfl ?_); refine store_event (t := 9) (p := 42) (v := ?vo13) (w1 := (w10.setCell ⟨gg, i.toNat * 5 + 3, none⟩ (.string rt2))) ?hg ?ho ?hn ?hr ?_; (case ho => rfl); (case hg => rfl); (case hn => rfl); (case hr => first | (go_simp; done) | (go_simp; rfl)); intro w12 hw; have HS13 := Aside0.mk (show Shaped P w w12 by rw [hw]; exact HS11.out.set GG.out hxq3 rfl); clear hxq3 hfq3 hw; have hxq4 := (HX'.out w12 (HS.out.trans HS13.out)).1 4 _ rfl; obtain ⟨uq4, xq4, eq4⟩ := hxq4; obtain rfl := er_slice eq4; have hxq4 : w12.cell? ⟨gg, i.toNat * 5 + 4, none⟩ = some (.slice A4 x.f1.f3.length c4) := xq4; clear xq4 eq4)
        | ((with_reducible refine gate_callee (f := 101) rfl ?_); refine goesL_ (some 52) rfl rfl Try.func101 (by kernel_rfl) rfl #[.slice A4 x.f1.f3.length c4, .int .i64 (wrap64 ((wrap64 ((wrap64 ((wrap64 (K + 1)) + 1)) + 1)) + 1))] rfl ar_ ?_; (with_reducible refine (HM3.out _ (HS.out.trans HS13.out)).mono ?_); rintro e w14 ⟨rfl, hs6⟩; refine ⟨_, rfl, ?_⟩; have HS15 := Aside0.mk (HS13.out.trans hs6); clear hs6))
      go_roundg k1
      case measure => omega
      case rel => exact ⟨_, _, rfl, rfl, ⟨by
        have h1 := HI.out
        have h2 := HE.out
        have h3 := W5.out
        have hl : (xs.length : Int) ≤ 9223372036854775807 := by have := (Kd.R_reads HR.out); obtain ⟨_, _, _, _, hC⟩ := this; have := hC.2.1; omega
        have hq : i < (xs.length : Int) := of_eq_true q6
        rw [h3, w64 (x := i + 1) (by omega) (by omega)]
        have e : (i + 1).toNat = i.toNat + 1 := by omega
        rw [e]
        refine ⟨by omega, by omega, by omega, by omega⟩⟩, HS15⟩
    · have c3b0 : decide (i < (xs.length : Int)) = false := decide_eq_false hlt
      have hi : i.toNat = xs.length := by have := HI.out; omega
      have hK : K = a + cnts cntP xs := by have := HI.out.2.2.2; rw [hi, List.take_length] at this; exact this
      subst hK
      clear hi hlt
      go_wp2
      go_ret
      exact ⟨rfl, HS1.out⟩
abbrev MN := S99
def cntN (x : MN) : Nat := 1 + cnts one_ x.f1 + cnts cntP x.f2
theorem markNodeS_calls (W : World) (base : Nat) (P : Nat → Prop) (xs : List MN) (v : Value) (a : Int) (w : World) (hR : Kd.R k99 99 W base P v xs) (hS : Shaped P W w) (h0 : 0 < a) (h1 : a + cnts cntN xs ≤ 4611686018427387904) :
    Calls Try.prog 89 #[v, .int .i64 a] w fun e w' => e = .returned (.int .i64 (a + cnts cntN xs)) ∧ Shaped P w w' := by
  obtain ⟨A, c, rfl⟩ := Kd.R_slice hR
  have HR := Aside0.mk hR
  have HS := Aside0.mk hS
  have HA := Aside0.mk h0
  have HZ := Aside0.mk h1
  clear hR hS h0 h1
  go_enter Try.func89, Try.ntmps89
  go_wp2
  go_loopg [1, 5] xs.length (fun kq v1 v5 w' => ∃ (K i : Int), v1 = .int .i64 K ∧ v5 = .int .i64 i ∧ Aside0 (0 ≤ i ∧ i ≤ xs.length ∧ (kq : Int) + i = xs.length ∧ K = a + cnts cntN (xs.take i.toNat)) ∧ Aside0 (Shaped P w w'))
  case atStart => exact ⟨a, 0, rfl, rfl, ⟨by omega, by omega, by omega, by simp [cnts]⟩, ⟨Shaped.refl P w⟩⟩
  case round =>
    try clear p2
    obtain ⟨K, i, rfl, rfl, HI, HS1⟩ := hrel
    by_cases hlt : i < (xs.length : Int)
    · obtain ⟨k1, rfl⟩ : ∃ m, gk = m + 1 := ⟨gk - 1, by have := HI.out; omega⟩
      obtain ⟨gg, cap, cc, ev, hg, hcl, hM, HX⟩ := row_at HR.out z99 i HI.out.1 hlt
      have hin : i.toNat < xs.length := by have := HI.out.1; omega
      obtain ⟨x, hx⟩ : ∃ x, x = xs.getD i.toNat z99 := ⟨_, rfl⟩
      rw [← hx] at hM
      have hel : x = xs[i.toNat] := by rw [hx, List.getD_eq_getElem?_getD, List.getElem?_eq_getElem hin]; rfl
      obtain ⟨v1, v2, rfl, g1, g2⟩ := k99_openM hM
      obtain ⟨A1, c1, rfl⟩ := Kd.R_slice g1
      have G1 := Aside0.mk g1
      obtain ⟨A2, c2, rfl⟩ := Kd.R_slice g2
      have G2 := Aside0.mk g2
      injection ev with ea _ ec
      subst ea ec
      have GG := Aside0.mk hg
      have HX' := Aside0.mk HX
      have c3b0 : decide (i < (xs.length : Int)) = true := decide_eq_true hlt
      have c4b0 : decide (0 ≤ i) = true := decide_eq_true HI.out.1
      have p6 : (0 ≤ i) = True := eq_true HI.out.1
      have q6 : (i < (xs.length : Int)) = True := eq_true hlt
      have hct := cnts_take cntN hin
      have hle := cnts_take_le cntN xs (i.toNat + 1)
      have HE := Aside0.mk (show K = a + cnts cntN (xs.take i.toNat) ∧ cnts cntN (xs.take (i.toNat + 1)) = cnts cntN (xs.take i.toNat) + (1 + cnts one_ x.f1 + cnts cntP x.f2) ∧ cnts cntN (xs.take (i.toNat + 1)) ≤ cnts cntN xs from ⟨HI.out.2.2.2, by (try rw [hel]); exact hct, hle⟩)
      have W1 := Aside0.mk (show wrap64 (K + 1) = K + 1 by have := HE.out; have := HA.out; have := HZ.out; exact w64 (by omega) (by omega))
      have HM1 := Aside0.mk (fun w5 hs5 => markStringS_calls W base P (x.f1) _ (wrap64 (K + 1)) w5 G1.out hs5 (by have := HE.out; have := HA.out; have := HZ.out; have := W1.out; omega) (by have := HE.out; have := HA.out; have := HZ.out; have := W1.out; omega))
      have W2 := Aside0.mk (show (wrap64 (K + 1)) + ((cnts one_ x.f1 : Nat) : Int) = (K + 1) + ((cnts one_ x.f1 : Nat) : Int) by rw [W1.out])
      have HM2 := Aside0.mk (fun w5 hs5 => markPropS_calls W base P (x.f2) _ ((wrap64 (K + 1)) + ((cnts one_ x.f1 : Nat) : Int)) w5 G2.out hs5 (by have := HE.out; have := HA.out; have := HZ.out; have := W2.out; omega) (by have := HE.out; have := HA.out; have := HZ.out; have := W2.out; omega))
      have W3 := Aside0.mk (show ((wrap64 (K + 1)) + ((cnts one_ x.f1 : Nat) : Int)) + ((cnts cntP x.f2 : Nat) : Int) = ((K + 1) + ((cnts one_ x.f1 : Nat) : Int)) + ((cnts cntP x.f2 : Nat) : Int) by rw [W2.out])
      have hxq0 := (HX'.out wr (HS.out.trans HS1.out)).1 0 _ rfl
      have hfq0 : wr.frozen? ⟨gg, i.toNat * 3, none⟩ = false := (HX'.out wr (HS.out.trans HS1.out)).2 0
      obtain ⟨uq0, xq0, eq0⟩ := hxq0
      obtain ⟨bq0, rfl⟩ := er_int eq0
      have hxq0 : wr.cell? ⟨gg, i.toNat * 3, none⟩ = some (.int .i64 bq0) := xq0
      clear xq0 eq0
      clear HX hM hcl hg hlt hx hin hel hct hle g1 g2
      go_wp2_with (first
        | ((with_reducible refine gate_store (t := 3) (p := 16) rfl ?_); refine store_event (t := 3) (p := 16) (v := ?vo3) (w1 := (wr.setCell ⟨gg, i.toNat * 3, none⟩ (.int .i64 K))) ?hg ?ho ?hn ?hr ?_; (case ho => rfl); (case hg => rfl); (case hn => rfl); (case hr => first | (go_simp; done) | (go_simp; rfl)); intro w2 hw; have HS3 := Aside0.mk (show Shaped P w w2 by rw [hw]; exact HS1.out.set GG.out hxq0 rfl); clear hxq0 hfq0 hw; have hxq1 := (HX'.out w2 (HS.out.trans HS3.out)).1 1 _ rfl; obtain ⟨uq1, xq1, eq1⟩ := hxq1; obtain rfl := er_slice eq1; have hxq1 : w2.cell? ⟨gg, i.toNat * 3 + 1, none⟩ = some (.slice A1 x.f1.length c1) := xq1; clear xq1 eq1)
        | ((with_reducible refine gate_callee (f := 45) rfl ?_); refine goesL_ (some 25) rfl rfl Try.func45 (by kernel_rfl) rfl #[.slice A1 x.f1.length c1, .int .i64 (wrap64 (K + 1))] rfl ar_ ?_; (with_reducible refine (HM1.out _ (HS.out.trans HS3.out)).mono ?_); rintro e w4 ⟨rfl, hs6⟩; refine ⟨_, rfl, ?_⟩; have HS5 := Aside0.mk (HS3.out.trans hs6); clear hs6; have hxq2 := (HX'.out w4 (HS.out.trans HS5.out)).1 2 _ rfl; obtain ⟨uq2, xq2, eq2⟩ := hxq2; obtain rfl := er_slice eq2; have hxq2 : w4.cell? ⟨gg, i.toNat * 3 + 2, none⟩ = some (.slice A2 x.f2.length c2) := xq2; clear xq2 eq2)
        | ((with_reducible refine gate_callee (f := 46) rfl ?_); refine goesL_ (some 32) rfl rfl Try.func46 (by kernel_rfl) rfl #[.slice A2 x.f2.length c2, .int .i64 ((wrap64 (K + 1)) + ((cnts one_ x.f1 : Nat) : Int))] rfl ar_ ?_; (with_reducible refine (HM2.out _ (HS.out.trans HS5.out)).mono ?_); rintro e w6 ⟨rfl, hs6⟩; refine ⟨_, rfl, ?_⟩; have HS7 := Aside0.mk (HS5.out.trans hs6); clear hs6))
      go_roundg k1
      case measure => omega
      case rel => exact ⟨_, _, rfl, rfl, ⟨by
        have h1 := HI.out
        have h2 := HE.out
        have h3 := W3.out
        have hl : (xs.length : Int) ≤ 9223372036854775807 := by have := (Kd.R_reads HR.out); obtain ⟨_, _, _, _, hC⟩ := this; have := hC.2.1; omega
        have hq : i < (xs.length : Int) := of_eq_true q6
        rw [h3, w64 (x := i + 1) (by omega) (by omega)]
        have e : (i + 1).toNat = i.toNat + 1 := by omega
        rw [e]
        refine ⟨by omega, by omega, by omega, by omega⟩⟩, HS7⟩
    · have c3b0 : decide (i < (xs.length : Int)) = false := decide_eq_false hlt
      have hi : i.toNat = xs.length := by have := HI.out; omega
      have hK : K = a + cnts cntN xs := by have := HI.out.2.2.2; rw [hi, List.take_length] at this; exact this
      subst hK
      clear hi hlt
      go_wp2
      go_ret
      exact ⟨rfl, HS1.out⟩
abbrev MG := S104
def cntG (x : MG) : Nat := 4 + cnts cntP x.f4
theorem markEdgeS_calls (W : World) (base : Nat) (P : Nat → Prop) (xs : List MG) (v : Value) (a : Int) (w : World) (hR : Kd.R k104 104 W base P v xs) (hS : Shaped P W w) (h0 : 0 < a) (h1 : a + cnts cntG xs ≤ 4611686018427387904) :
    Calls Try.prog 90 #[v, .int .i64 a] w fun e w' => e = .returned (.int .i64 (a + cnts cntG xs)) ∧ Shaped P w w' := by
  obtain ⟨A, c, rfl⟩ := Kd.R_slice hR
  have HR := Aside0.mk hR
  have HS := Aside0.mk hS
  have HA := Aside0.mk h0
  have HZ := Aside0.mk h1
  clear hR hS h0 h1
  go_enter Try.func90, Try.ntmps90
  go_wp2
  go_loopg [1, 5] xs.length (fun kq v1 v5 w' => ∃ (K i : Int), v1 = .int .i64 K ∧ v5 = .int .i64 i ∧ Aside0 (0 ≤ i ∧ i ≤ xs.length ∧ (kq : Int) + i = xs.length ∧ K = a + cnts cntG (xs.take i.toNat)) ∧ Aside0 (Shaped P w w'))
  case atStart => exact ⟨a, 0, rfl, rfl, ⟨by omega, by omega, by omega, by simp [cnts]⟩, ⟨Shaped.refl P w⟩⟩
  case round =>
    try clear p2
    obtain ⟨K, i, rfl, rfl, HI, HS1⟩ := hrel
    by_cases hlt : i < (xs.length : Int)
    · obtain ⟨k1, rfl⟩ : ∃ m, gk = m + 1 := ⟨gk - 1, by have := HI.out; omega⟩
      obtain ⟨gg, cap, cc, ev, hg, hcl, hM, HX⟩ := row_at HR.out z104 i HI.out.1 hlt
      have hin : i.toNat < xs.length := by have := HI.out.1; omega
      obtain ⟨x, hx⟩ : ∃ x, x = xs.getD i.toNat z104 := ⟨_, rfl⟩
      rw [← hx] at hM
      have hel : x = xs[i.toNat] := by rw [hx, List.getD_eq_getElem?_getD, List.getElem?_eq_getElem hin]; rfl
      obtain ⟨v4, rfl, g4⟩ := k104_openM hM
      obtain ⟨A4, c4, rfl⟩ := Kd.R_slice g4
      have G4 := Aside0.mk g4
      injection ev with ea _ ec
      subst ea ec
      have GG := Aside0.mk hg
      have HX' := Aside0.mk HX
      have c3b0 : decide (i < (xs.length : Int)) = true := decide_eq_true hlt
      have c4b0 : decide (0 ≤ i) = true := decide_eq_true HI.out.1
      have p6 : (0 ≤ i) = True := eq_true HI.out.1
      have q6 : (i < (xs.length : Int)) = True := eq_true hlt
      have hct := cnts_take cntG hin
      have hle := cnts_take_le cntG xs (i.toNat + 1)
      have HE := Aside0.mk (show K = a + cnts cntG (xs.take i.toNat) ∧ cnts cntG (xs.take (i.toNat + 1)) = cnts cntG (xs.take i.toNat) + (4 + cnts cntP x.f4) ∧ cnts cntG (xs.take (i.toNat + 1)) ≤ cnts cntG xs from ⟨HI.out.2.2.2, by (try rw [hel]); exact hct, hle⟩)
      have W1 := Aside0.mk (show wrap64 (K + 1) = K + 1 by have := HE.out; have := HA.out; have := HZ.out; exact w64 (by omega) (by omega))
      obtain ⟨kt1, rt1, ht1⟩ := markText_some (wrap64 (K + 1)) (by have := HE.out; have := HA.out; have := HZ.out; have := W1.out; omega) (by have := HE.out; have := HA.out; have := HZ.out; have := W1.out; omega)
      have HT1 := Aside0.mk ht1
      clear ht1
      have W2 := Aside0.mk (show wrap64 ((wrap64 (K + 1)) + 1) = (wrap64 (K + 1)) + 1 by have := HE.out; have := HA.out; have := HZ.out; have := W1.out; exact w64 (by omega) (by omega))
      replace W2 := Aside0.mk (show wrap64 ((wrap64 (K + 1)) + 1) = (K + 1) + 1 from (by have h1_ := W2.out; have h2_ := W1.out; rw [h1_, h2_]))
      have W3 := Aside0.mk (show wrap64 ((wrap64 ((wrap64 (K + 1)) + 1)) + 1) = (wrap64 ((wrap64 (K + 1)) + 1)) + 1 by have := HE.out; have := HA.out; have := HZ.out; have := W2.out; exact w64 (by omega) (by omega))
      replace W3 := Aside0.mk (show wrap64 ((wrap64 ((wrap64 (K + 1)) + 1)) + 1) = ((K + 1) + 1) + 1 from (by have h1_ := W3.out; have h2_ := W2.out; rw [h1_, h2_]))
      have W4 := Aside0.mk (show wrap64 ((wrap64 ((wrap64 ((wrap64 (K + 1)) + 1)) + 1)) + 1) = (wrap64 ((wrap64 ((wrap64 (K + 1)) + 1)) + 1)) + 1 by have := HE.out; have := HA.out; have := HZ.out; have := W3.out; exact w64 (by omega) (by omega))
      replace W4 := Aside0.mk (show wrap64 ((wrap64 ((wrap64 ((wrap64 (K + 1)) + 1)) + 1)) + 1) = (((K + 1) + 1) + 1) + 1 from (by have h1_ := W4.out; have h2_ := W3.out; rw [h1_, h2_]))
      have HM2 := Aside0.mk (fun w5 hs5 => markPropS_calls W base P (x.f4) _ (wrap64 ((wrap64 ((wrap64 ((wrap64 (K + 1)) + 1)) + 1)) + 1)) w5 G4.out hs5 (by have := HE.out; have := HA.out; have := HZ.out; have := W4.out; omega) (by have := HE.out; have := HA.out; have := HZ.out; have := W4.out; omega))
      have W5 := Aside0.mk (show (wrap64 ((wrap64 ((wrap64 ((wrap64 (K + 1)) + 1)) + 1)) + 1)) + ((cnts cntP x.f4 : Nat) : Int) = ((((K + 1) + 1) + 1) + 1) + ((cnts cntP x.f4 : Nat) : Int) by rw [W4.out])
      have hxq0 := (HX'.out wr (HS.out.trans HS1.out)).1 0 _ rfl
      have hfq0 : wr.frozen? ⟨gg, i.toNat * 5, none⟩ = false := (HX'.out wr (HS.out.trans HS1.out)).2 0
      obtain ⟨uq0, xq0, eq0⟩ := hxq0
      obtain ⟨bq0, rfl⟩ := er_int eq0
      have hxq0 : wr.cell? ⟨gg, i.toNat * 5, none⟩ = some (.int .i64 bq0) := xq0
      clear xq0 eq0
      clear HX hM hcl hg hlt hx hin hel hct hle g4
      go_wp2_with (first
        | ((with_reducible refine gate_store (t := 3) (p := 16) rfl ?_); refine store_event (t := 3) (p := 16) (v := ?vo3) (w1 := (wr.setCell ⟨gg, i.toNat * 5, none⟩ (.int .i64 K))) ?hg ?ho ?hn ?hr ?_; (case ho => rfl); (case hg => rfl); (case hn => rfl); (case hr => first | (go_simp; done) | (go_simp; rfl)); intro w2 hw; have HS3 := Aside0.mk (show Shaped P w w2 by rw [hw]; exact HS1.out.set GG.out hxq0 rfl); clear hxq0 hfq0 hw)
        | ((with_reducible refine gate_callee (f := 114) rfl ?_); refine goesL_ (some 22) rfl rfl Try.func114 (by kernel_rfl) rfl #[.int .i64 (wrap64 (K + 1))] rfl ar_ ?_; (with_reducible refine (laws_markText.calls kt1 (wrap64 (K + 1)) rt1 _ HT1.out).mono ?_); rintro e w4 ⟨rfl, hb⟩; refine ⟨_, rfl, ?_⟩; have HS5 := Aside0.mk (HS3.out.below hb); clear hb; have hxq1 := (HX'.out w4 (HS.out.trans HS5.out)).1 1 _ rfl; have hfq1 : w4.frozen? ⟨gg, i.toNat * 5 + 1, none⟩ = false := (HX'.out w4 (HS.out.trans HS5.out)).2 1; obtain ⟨uq1, xq1, eq1⟩ := hxq1; obtain ⟨bq1, rfl⟩ := er_string eq1; have hxq1 : w4.cell? ⟨gg, i.toNat * 5 + 1, none⟩ = some (.string bq1) := xq1; clear xq1 eq1)
        | ((with_reducible refine gate_store (t := 9) (p := 24) rfl ?_); refine store_event (t := 9) (p := 24) (v := ?vo7) (w1 := (w4.setCell ⟨gg, i.toNat * 5 + 1, none⟩ (.string rt1))) ?hg ?ho ?hn ?hr ?_; (case ho => rfl); (case hg => rfl); (case hn => rfl); (case hr => first | (go_simp; done) | (go_simp; rfl)); intro w6 hw; have HS7 := Aside0.mk (show Shaped P w w6 by rw [hw]; exact HS5.out.set GG.out hxq1 rfl); clear hxq1 hfq1 hw; have hxq2 := (HX'.out w6 (HS.out.trans HS7.out)).1 2 _ rfl; have hfq2 : w6.frozen? ⟨gg, i.toNat * 5 + 2, none⟩ = false := (HX'.out w6 (HS.out.trans HS7.out)).2 2; obtain ⟨uq2, xq2, eq2⟩ := hxq2; obtain ⟨bq2, rfl⟩ := er_int eq2; have hxq2 : w6.cell? ⟨gg, i.toNat * 5 + 2, none⟩ = some (.int .i64 bq2) := xq2; clear xq2 eq2)
        | ((with_reducible refine gate_store (t := 3) (p := 31) rfl ?_); refine store_event (t := 3) (p := 31) (v := ?vo9) (w1 := (w6.setCell ⟨gg, i.toNat * 5 + 2, none⟩ (.int .i64 (wrap64 ((wrap64 (K + 1)) + 1))))) ?hg ?ho ?hn ?hr ?_; (case ho => rfl); (case hg => rfl); (case hn => rfl); (case hr => first | (go_simp; done) | (go_simp; rfl)); intro w8 hw; have HS9 := Aside0.mk (show Shaped P w w8 by rw [hw]; exact HS7.out.set GG.out hxq2 rfl); clear hxq2 hfq2 hw; have hxq3 := (HX'.out w8 (HS.out.trans HS9.out)).1 3 _ rfl; have hfq3 : w8.frozen? ⟨gg, i.toNat * 5 + 3, none⟩ = false := (HX'.out w8 (HS.out.trans HS9.out)).2 3; obtain ⟨uq3, xq3, eq3⟩ := hxq3; obtain ⟨bq3, rfl⟩ := er_int eq3; have hxq3 : w8.cell? ⟨gg, i.toNat * 5 + 3, none⟩ = some (.int .i64 bq3) := xq3; clear xq3 eq3)
        | ((with_reducible refine gate_store (t := 3) (p := 38) rfl ?_); refine store_event (t := 3) (p := 38) (v := ?vo11) (w1 := (w8.setCell ⟨gg, i.toNat * 5 + 3, none⟩ (.int .i64 (wrap64 ((wrap64 ((wrap64 (K + 1)) + 1)) + 1))))) ?hg ?ho ?hn ?hr ?_; (case ho => rfl); (case hg => rfl); (case hn => rfl); (case hr => first | (go_simp; done) | (go_simp; rfl)); intro w10 hw; have HS11 := Aside0.mk (show Shaped P w w10 by rw [hw]; exact HS9.out.set GG.out hxq3 rfl); clear hxq3 hfq3 hw; have hxq4 := (HX'.out w10 (HS.out.trans HS11.out)).1 4 _ rfl; obtain ⟨uq4, xq4, eq4⟩ := hxq4; obtain rfl := er_slice eq4; have hxq4 : w10.cell? ⟨gg, i.toNat * 5 + 4, none⟩ = some (.slice A4 x.f4.length c4) := xq4; clear xq4 eq4)
        | ((with_reducible refine gate_callee (f := 46) rfl ?_); refine goesL_ (some 47) rfl rfl Try.func46 (by kernel_rfl) rfl #[.slice A4 x.f4.length c4, .int .i64 (wrap64 ((wrap64 ((wrap64 ((wrap64 (K + 1)) + 1)) + 1)) + 1))] rfl ar_ ?_; (with_reducible refine (HM2.out _ (HS.out.trans HS11.out)).mono ?_); rintro e w12 ⟨rfl, hs6⟩; refine ⟨_, rfl, ?_⟩; have HS13 := Aside0.mk (HS11.out.trans hs6); clear hs6))
      go_roundg k1
      case measure => omega
      case rel => exact ⟨_, _, rfl, rfl, ⟨by
        have h1 := HI.out
        have h2 := HE.out
        have h3 := W5.out
        have hl : (xs.length : Int) ≤ 9223372036854775807 := by have := (Kd.R_reads HR.out); obtain ⟨_, _, _, _, hC⟩ := this; have := hC.2.1; omega
        have hq : i < (xs.length : Int) := of_eq_true q6
        rw [h3, w64 (x := i + 1) (by omega) (by omega)]
        have e : (i + 1).toNat = i.toNat + 1 := by omega
        rw [e]
        refine ⟨by omega, by omega, by omega, by omega⟩⟩, HS13⟩
    · have c3b0 : decide (i < (xs.length : Int)) = false := decide_eq_false hlt
      have hi : i.toNat = xs.length := by have := HI.out; omega
      have hK : K = a + cnts cntG xs := by have := HI.out.2.2.2; rw [hi, List.take_length] at this; exact this
      subst hK
      clear hi hlt
      go_wp2
      go_ret
      exact ⟨rfl, HS1.out⟩
end Go.Proofs.Ytcchmhmbjhgfdaa.Mk
namespace Go.Proofs.Ytcchmhmbjhgfdaa.Mk
open Go.RowKit Go.Proofs.Ytcchmhmbjhgfdaa.G Go.Proofs.YtcchmhmbjhgfdaaW.PrintWords Go.Proofs.YtcchmhmbjhgfdaaW.PrintLast Go.Proofs.YtcchmhmbjhgfdaaW.PrintMore
open Own
set_option linter.unusedVariables false
set_option linter.unusedSimpArgs false
def cntGr (ns : List MN) (es : List MG) : Nat := cnts cntN ns + cnts cntG es
theorem markGraph_calls (base : Nat) (P : Nat → Prop) (ns : List MN) (es : List MG) (c d : Int) (v0 v1 : Value) (a : Int) (W0 W1 w : World) (hQ0 : Kd.R k99 99 W0 base P v0 ns) (hQ1 : Kd.R k104 104 W1 base P v1 es) (hS0 : Shaped P W0 w) (hS1 : Shaped P W1 w) (hP : ∀ k, P k → k < w.heap.size) (h0 : 0 < a) (h1 : a + cntGr ns es ≤ 4611686018427387904) :
    Calls Try.prog 23 #[.agg #[v0, v1, .int .i64 c, .int .i64 d], .int .i64 a] w fun e w' => e = .returned (.int .i64 (a + cntGr ns es)) ∧ Shaped P w w' := by
  have HQ := Aside0.mk hP
  obtain ⟨A0, c0, rfl⟩ := Kd.R_slice hQ0
  obtain ⟨A1, c1, rfl⟩ := Kd.R_slice hQ1
  have HR0 := Aside0.mk hQ0
  have HR1 := Aside0.mk hQ1
  have HN := Aside0.mk (fun w5 hs5 => markNodeS_calls W0 base P ns _ a w5 hQ0 (hS0.trans hs5) h0 (by unfold cntGr at h1; omega))
  have HE := Aside0.mk (fun w5 hs5 => markEdgeS_calls W1 base P es _ (a + ((cnts cntN ns : Nat) : Int)) w5 hQ1 (hS1.trans hs5) (by omega) (by unfold cntGr at h1; omega))
  have HB := Aside0.mk (Below.refl w.heap.size w)
  clear hQ0 hQ1 h0 h1 hS0 hS1 hP
  go_enter Try.func23, Try.ntmps23
  go_wp2_with (first
    | ((with_reducible refine gate_dst (N := 2) rfl ?_); refine bx_ 2 #[.slice A0 ns.length c0, .slice A1 es.length c1, .int .i64 c, .int .i64 d] 31 ?_; intro gb hg w4 hbox hb; have BK := Aside0.mk (hbox); have GW := Aside0.mk (show w.heap.size ≤ gb by rw [hg]; exact Nat.le_refl _); have HS4 := Aside0.mk ((Shaped.refl P w).below hb); clear hb hbox hg; obtain ⟨hcz5_0, hcz5_1, hcz5_2, hcz5_3, hfz5_0, hfz5_1, hfz5_2, hfz5_3⟩ := blk4 BK)
    | ((with_reducible refine gate_callee (f := 89) rfl ?_); refine goesL_ (some 8) rfl rfl Try.func89 (by kernel_rfl) rfl #[.slice A0 ns.length c0, .int .i64 a] rfl ar_ ?_; (with_reducible refine (HN.out _ HS4.out).mono ?_); rintro e w6 ⟨rfl, hs6⟩; refine ⟨_, rfl, ?_⟩; have HS6 := Aside0.mk (HS4.out.trans hs6); have BK6 := Aside0.mk ((hs6.block gb (Array.getElem?_eq_some_iff.1 BK.out).1 (fun hp => Nat.not_le.2 (HQ.out gb hp) GW.out)).trans BK.out); clear hs6 hcz5_0 hcz5_1 hcz5_2 hcz5_3 hfz5_0 hfz5_1 hfz5_2 hfz5_3; obtain ⟨hcz6_0, hcz6_1, hcz6_2, hcz6_3, hfz6_0, hfz6_1, hfz6_2, hfz6_3⟩ := blk4 BK6)
    | ((with_reducible refine gate_callee (f := 90) rfl ?_); refine goesL_ (some 12) rfl rfl Try.func90 (by kernel_rfl) rfl #[.slice A1 es.length c1, .int .i64 (a + ((cnts cntN ns : Nat) : Int))] rfl ar_ ?_; (with_reducible refine (HE.out _ HS6.out).mono ?_); rintro e w7 ⟨rfl, hs7⟩; refine ⟨_, rfl, ?_⟩; have HS7 := Aside0.mk (HS6.out.trans hs7); clear hs7))
  go_ret
  exact ⟨by unfold cntGr; rw [Int.natCast_add, ← Int.add_assoc]; rfl, HS7.out⟩
end Go.Proofs.Ytcchmhmbjhgfdaa.Mk
namespace Go.Proofs.Ytcchmhmbjhgfdaa.G
open Go.RowKit Go.Proofs.YtcchmhmbjhgfdaaW.PrintWords Go.Proofs.YtcchmhmbjhgfdaaW.PrintLast Go.Proofs.YtcchmhmbjhgfdaaW.PrintMore
attribute [local go_sem] max2_int min2_int max_two min_two max_three min_three max_four min_four Own.str_gtr Own.str_leq Own.str_geq Own.sto_fn   -- for this text's walks alone
open Own
set_option linter.unusedVariables false
set_option linter.unusedSimpArgs false
def laws_markGraph.f (l0_0 : List S99) (l0_1 : List S104) (a0_2 : Int) (a0_3 : Int) (a1 : Int) : Option Int := if 0 < a1 then (if a1 + ((Mk.cntGr l0_0 l0_1 : Nat) : Int) ≤ 4611686018427387904 then some (a1 + ((Mk.cntGr l0_0 l0_1 : Nat) : Int)) else none) else none
theorem laws_markGraph.calls (Ex : List Nat) (A0_0 : Option Addr) (c0_0 : Nat) (l0_0 : List S99) (A0_1 : Option Addr) (c0_1 : Nat) (l0_1 : List S104) (a0_2 : Int) (a0_3 : Int) (a1 : Int) (r : Int) (w0 w : World) (hB : Below w0.heap.size w0 w) (h0 : ∃ ok W, Kd.R k99 99 W w0.heap.size ok (.slice A0_0 l0_0.length c0_0) l0_0 ∧ (∀ k, ok k → k ∉ Ex) ∧ Mk.Over [99, 104, 140, 49, 9] Ex w0 W w) (h1 : ∃ ok W, Kd.R k104 104 W w0.heap.size ok (.slice A0_1 l0_1.length c0_1) l0_1 ∧ (∀ k, ok k → k ∉ Ex) ∧ Mk.Over [99, 104, 140, 49, 9] Ex w0 W w) (h : laws_markGraph.f l0_0 l0_1 a0_2 a0_3 a1 = some r) :
    Calls Try.prog 23 #[.agg #[.slice A0_0 l0_0.length c0_0, .slice A0_1 l0_1.length c0_1, .int .i64 a0_2, .int .i64 a0_3], .int .i64 a1] w fun e w' => e = .returned (.int .i64 r) ∧ Mk.Over [99, 104, 140, 49, 9] Ex w0 w w' := by
  unfold laws_markGraph.f at h; by_cases g0 : 0 < a1; rotate_left
  · rw [if_neg g0] at h; cases h
  rw [if_pos g0] at h; by_cases g1 : a1 + ((Mk.cntGr l0_0 l0_1 : Nat) : Int) ≤ 4611686018427387904
  · rw [if_pos g1] at h; obtain rfl := Option.some.inj h; obtain ⟨W0, h0, k0⟩ := Mk.Over.fits_was (Es := [99, 104, 140, 49, 9]) (by decide) h0; obtain ⟨W1, h1, k1⟩ := Mk.Over.fits_was (Es := [99, 104, 140, 49, 9]) (by decide) h1; refine (Mk.markGraph_calls w0.heap.size _ l0_0 l0_1 a0_2 a0_3 _ _ a1 W0 W1 w h0 h1 k0 k1 (Mk.Over.inside rfl) g0 g1).mono ?_; rintro e w' ⟨rfl, hs⟩; exact ⟨rfl, hs⟩
  rw [if_neg g1] at h; cases h
end Go.Proofs.Ytcchmhmbjhgfdaa.G
namespace Go.Proofs.Ytcchmhmbjhgfdaa.G
open Go.RowKit Go.Proofs.YtcchmhmbjhgfdaaW.PrintWords Go.Proofs.YtcchmhmbjhgfdaaW.PrintLast Go.Proofs.YtcchmhmbjhgfdaaW.PrintMore
attribute [local go_sem] max2_int min2_int max_two min_two max_three min_three max_four min_four Own.str_gtr Own.str_leq Own.str_geq Own.sto_fn   -- for this text's walks alone
open Own
set_option linter.unusedVariables false
set_option linter.unusedSimpArgs false
def laws_markIntS.l0 : Nat → List Int → Int → Int → Option (Int × List Int)
  | 0, _, _, _ => none
  | k + 1, x0, x1, x5 => if x5 < (x0.length : Int) then (if 0 ≤ x5 then (laws_markIntS.l0 k (x0.set (x5 : Int).toNat x1) (wrap64 (x1 + 1)) (wrap64 (x5 + 1))) else (none)) else (some (x1, x0))
def laws_markIntS.f (k : Nat) (l0 : List Int) (a1 : Int) : Option (Int × List Int) := laws_markIntS.l0 k l0 a1 0
set_option maxHeartbeats 8000000 in
set_option maxRecDepth 100000 in
theorem laws_markIntS.calls (k : Nat) (P0_ : Nat → Prop) (u9000_ : Value) (l0 : List Int) (a1 : Int) (r1 : Int) (r2 : List Int) (w0 w : World) (hB : Below w0.heap.size w0 w) (ho0 : Kd.R (Kd.int .i64) 3 w w0.heap.size P0_ u9000_ l0) (h : laws_markIntS.f k l0 a1 = some (r1, r2)) :
    Calls Try.prog 24 #[u9000_, .int .i64 a1] w fun e w' => e = .returned (.int .i64 r1) ∧ Kd.R (Kd.int .i64) 3 w' w0.heap.size (fun k_ => (P0_ k_ ∨ w.heap.size ≤ k_)) u9000_ r2 ∧ Below w0.heap.size w0 w' ∧ Kept w w' (fun k_ => P0_ k_) := by
  have HO0 := Aside0.mk (show Kd.R (Kd.int .i64) 3 w w0.heap.size (fun k_ => (P0_ k_ ∨ w.heap.size ≤ k_)) u9000_ l0 from Kd.R_mono ho0 (fun k_ hk => (.inl hk))); have HK := Aside0.mk (Kept.refl w (fun k_ => P0_ k_)); have HW0 := Aside0.mk hB.size; have HB := Aside0.mk hB; clear hB; have H : (laws_markIntS.l0 k l0 a1 0) = some (r1, r2) := h; clear h; have H' := Aside0.mk H; clear H
  go_enter Try.func24, Try.ntmps24
  go_wp2
  go_loopg [1, 5] k (fun kq v1 v5 w' => ∃ (x0_1 : List Int) (x1_1 : Int) (x5_1 : Int), v1 = .int .i64 x1_1 ∧ v5 = .int .i64 x5_1 ∧ Aside0 (laws_markIntS.l0 kq x0_1 x1_1 x5_1 = some (r1, r2)) ∧ Aside0 (kq ≤ k) ∧ Aside0 (Kd.R (Kd.int .i64) 3 w' w0.heap.size (fun k_ => (P0_ k_ ∨ w.heap.size ≤ k_)) u9000_ x0_1) ∧ Aside0 (Kept w w' (fun k_ => P0_ k_)) ∧ Aside0 (Below w0.heap.size w0 w'))
  case atStart => exact ⟨(l0), (a1), (0), sm_, sm_, H', ⟨Nat.le_refl _⟩, ⟨by (with_reducible repeat (first | apply Kd.R_alloc | apply Kd.R_drewN | apply Kd.R_drew)); exact HO0.out⟩, ⟨by repeat (first | (with_reducible first | exact HK.out | apply Kept.alloc | apply Kept.drewN | apply Kept.drew) | exact HK.out)⟩, ⟨bel_⟩⟩
  case round =>
    clear H'
    try clear c2
    try clear p2
    obtain ⟨x0_1, x1_1, x5_1, rfl, rfl, HA, HK1, HO_0, HK, HB⟩ := hrel
    cases gk with
    | zero => exact absurd HA.out (by simp [laws_markIntS.l0])
    | succ k1 =>
      have H := HA.out; clear HA; simp only [laws_markIntS.l0] at H; by_cases c3 : x5_1 < (x0_1.length : Int); rotate_left; rw [if_neg c3] at H; have c3b0 := df_ c3; clear c3; simp only [Option.some.injEq, Prod.mk.injEq] at H; obtain ⟨rfl, rfl⟩ := H; rotate_right; rw [if_pos c3] at H; have c3b0 := dt_ c3; clear c3; by_cases c4 : 0 ≤ x5_1; rotate_left
      · rw [if_neg c4] at H; exact absurd H (by simp)
      rotate_right; rw [if_pos c4] at H; have c4b0 := dt_ c4; clear c4; obtain ⟨y101, hy101⟩ : ∃ y_ : List Int, y_ = (x0_1.set (x5_1 : Int).toNat x1_1) := ⟨_, rfl⟩
      replace H : (laws_markIntS.l0 k1 y101 (wrap64 (x1_1 + 1)) (wrap64 (x5_1 + 1))) = some (r1, r2) := by first | (rw [hy101]; with_reducible exact H) | (have H2_ := (Option.bind_some _ _).symm.trans H; rw [hy101]; with_reducible exact H2_) | (have H2_ := (Option.bind_some _ _).symm.trans H; with_reducible exact H2_) | with_reducible exact H | (rw [hy101]; exact H) | exact H
      have Ny101 := Aside0.mk hy101; clear hy101; have H' := Aside0.mk H; clear H
      all_goals
        obtain ⟨Ao6, co6, eo6⟩ := Kd.R_slice HO_0.out; subst eo6
      rotate_left
      · go_wp2
        go_ret; exact ⟨by first | rfl | (simp [errW_none, errW_some] <;> rfl) | (simp [*, errW_none, errW_some] <;> rfl), by (with_reducible repeat (first | apply Kd.R_alloc | apply Kd.R_drewN | apply Kd.R_drew)); exact HO_0.out, bel_, by repeat (first | (with_reducible first | exact HK.out | apply Kept.alloc | apply Kept.drewN | apply Kept.drew) | exact HK.out)⟩
      have p5 : 0 ≤ (x5_1 : Int) := od_; have q5 : (x5_1 : Int) < ((x0_1.length : Int) : Int) := od_; obtain ⟨go5, co5, eo5, gb5, gl5, cl5, HG5⟩ := Kd.R_form HO_0.out (by omega)
      (first | cases eo5 | (injection eo5 with ea_ en_ ec_; (first | subst ea_ | (injection ea_ with ea_; subst ea_)); subst ec_; clear en_))
      have GB5 := Aside0.mk gb5; have GG5 := Aside0.mk HG5; clear gb5 gl5 HG5; have HMgo5 := Aside0.mk (show (P0_ go5 ∨ w.heap.size ≤ go5) from (HO_0.out.1 _ rfl)); obtain ⟨hx5_0, hf5_0⟩ := Kd.R_celln 0 HO_0.out (x5_1 : Int) p5 q5; replace p5 := eq_true p5; replace q5 := eq_true q5; have HP7 := Kd.R_putg HO_0.out (x5_1 : Int) x1_1
      go_wp2_with (first | ((with_reducible refine gate_store (t := 3) (p := 15) rfl ?_); refine store_event (t := 3) (p := 15) (v := ?vo_w8) (w1 := (wr.setCell ⟨go5, (x5_1 : Int).toNat, none⟩ (.int .i64 x1_1))) ?hg ?ho ?hn ?hr ?_; (case ho => rfl); (case hg => rfl); (case hn => rfl); (case hr => first | (go_simp; done) | (go_simp; rfl)); intro w8 hw; have hg : wr.grownBy w8 (some go5) := (by rw [hw]; exact HP7.2); have hp_ : Kd.R (Kd.int .i64) 3 w8 w0.heap.size (fun k_ => (P0_ k_ ∨ w.heap.size ≤ k_)) (.slice (some ⟨go5, 0, none⟩) x0_1.length co6) y101 := (by rw [hw, Ny101.out]; exact HP7.1); clear HP7; replace HB := Aside0.mk ((by rw [hw]; exact below_set (HB.out) GB5.out : Below w0.heap.size w0 w8)); replace HK := Aside0.mk (Kept.of_grown (S := (fun k_ => P0_ k_)) hg (by repeat (first | (with_reducible first | exact HK.out | apply Kept.alloc | apply Kept.drewN | apply Kept.drew) | exact HK.out)) (fun k_ e_ => (HO_0.out.1 k_ e_))); replace HO_0 := Aside0.mk (hp_); clear hg hw hp_))
      go_roundg k1
      case measure => have := HK1.out; omega
      case rel => exact ⟨(y101), (wrap64 (x1_1 + 1)), (wrap64 (x5_1 + 1)), sm_, sm_, H', ⟨by have := HK1.out; omega⟩, ⟨by (with_reducible repeat (first | apply Kd.R_alloc | apply Kd.R_drewN | apply Kd.R_drew)); exact HO_0.out⟩, ⟨by repeat (first | (with_reducible first | exact HK.out | apply Kept.alloc | apply Kept.drewN | apply Kept.drew) | exact HK.out)⟩, ⟨bel_⟩⟩
def laws_heldIntS.l0 : Nat → List Int → Int → Int → Option (Int)
  | 0, _, _, _ => none
  | k + 1, x0, x1, x5 => if x5 < (x0.length : Int) then (if 0 ≤ x5 then (if (rd x0 x5) = x1 then (laws_heldIntS.l0 k x0 (wrap64 (x1 + 1)) (wrap64 (x5 + 1))) else (some (-1))) else (none)) else (some x1)
def laws_heldIntS.f (k : Nat) (l0 : List Int) (a1 : Int) : Option (Int) := laws_heldIntS.l0 k l0 a1 0
set_option maxHeartbeats 8000000 in
set_option maxRecDepth 100000 in
theorem laws_heldIntS.calls (k : Nat) (A0 : Option Addr) (c0 : Nat) (l0 : List Int) (a1 : Int) (r : Int) (w : World) (hr0 : Kd.C (Kd.int .i64) w A0 l0.length l0) (hc0 : l0.length ≤ c0) (h : laws_heldIntS.f k l0 a1 = some r) :
    Calls Try.prog 25 #[.slice A0 l0.length c0, .int .i64 a1] w fun e w' => e = .returned (.int .i64 r) ∧ Drawn0 w w' := by
  have HR0 := Aside0.mk hr0; have HC0 := Aside0.mk hc0; clear hr0 hc0; have H : (laws_heldIntS.l0 k l0 a1 0) = some r := h; clear h; have H' := Aside0.mk H; clear H
  go_enter Try.func25, Try.ntmps25
  go_wp2
  go_loopg [1, 5] k (fun kq v1 v5 w' => ∃ (x1_1 : Int) (x5_1 : Int), v1 = .int .i64 x1_1 ∧ v5 = .int .i64 x5_1 ∧ Aside0 (laws_heldIntS.l0 kq l0 x1_1 x5_1 = some r) ∧ Aside0 (kq ≤ k) ∧ Drawn0 w w')
  case atStart => exact ⟨(a1), (0), sm_, sm_, H', ⟨Nat.le_refl _⟩, by repeat (first | exact Drawn0.refl _ | apply Drawn0.step)⟩
  case round =>
    clear H'
    try clear c2
    try clear p2
    obtain ⟨x1_1, x5_1, rfl, rfl, HA, HK1, ⟨m1, rfl⟩⟩ := hrel
    cases gk with
    | zero => exact absurd HA.out (by simp [laws_heldIntS.l0])
    | succ k1 =>
      have H := HA.out; clear HA; simp only [laws_heldIntS.l0] at H; by_cases c3 : x5_1 < (l0.length : Int); rotate_left; rw [if_neg c3] at H; have c3b0 := df_ c3; clear c3; obtain rfl := Option.some.inj H; rotate_right; rw [if_pos c3] at H; have c3b0 := dt_ c3; clear c3; by_cases c4 : 0 ≤ x5_1; rotate_left
      · rw [if_neg c4] at H; exact absurd H (by simp)
      rotate_right; rw [if_pos c4] at H; have c4b0 := dt_ c4; clear c4; by_cases c5 : (rd l0 x5_1) = x1_1; rotate_left; rw [if_neg c5] at H; have c5b0 := bf_ c5; have c5b1 := nt_ c5; obtain rfl := Option.some.inj H; rotate_right; rw [if_pos c5] at H; have c5b0 := bt__ c5; have c5b1 := nf__ c5; clear c5; have H' := Aside0.mk H; clear H; rotate_left 2
      · go_wp2
        go_ret; exact rd_
      all_goals
        have p101 : 0 ≤ (x5_1 : Int) := od_; have q101 : x5_1 < (l0.length : Int) := od_; obtain ⟨ad101, e101, hx101_0⟩ := Kd.at_int HR0.out x5_1 p101 q101
        cases e101
        replace p101 := eq_true p101; replace q101 := eq_true q101
        go_wp2
      rotate_left
      · go_ret; exact rd_
      go_roundg k1
      case measure => have := HK1.out; omega
      case rel => exact ⟨(wrap64 (x1_1 + 1)), (wrap64 (x5_1 + 1)), sm_, sm_, H', ⟨by have := HK1.out; omega⟩, by repeat (first | exact Drawn0.refl _ | apply Drawn0.step)⟩
end Go.Proofs.Ytcchmhmbjhgfdaa.G
namespace Go.Proofs.Ytcchmhmbjhgfdaa.Mk
open Go.RowKit Go.Proofs.Ytcchmhmbjhgfdaa.G Go.Proofs.YtcchmhmbjhgfdaaW.PrintWords Go.Proofs.YtcchmhmbjhgfdaaW.PrintLast Go.Proofs.YtcchmhmbjhgfdaaW.PrintMore
open Own
set_option linter.unusedVariables false
set_option linter.unusedSimpArgs false
theorem markValue_calls (base : Nat) (P : Nat → Prop) (xs : List MV) (c d : Int) (s : ByteArray) (v : Value) (a : Int) (W w : World) (hQ0 : Kd.R k49 49 W base P v xs) (hS : Shaped P W w) (h0 : 0 < a) (h1 : a + cntVs xs ≤ 4611686018427387904) :
    Calls Try.prog 33 #[.agg #[.int .i64 c, .int .i64 d, .string s, v], .int .i64 a] w fun e w' => e = .returned (.int .i64 (a + cntVs xs)) ∧ Shaped P w w' := by
  obtain ⟨A0, c0, rfl⟩ := Kd.R_slice hQ0
  have HN := Aside0.mk (fun w5 hs5 => markValueS_calls W base P (SizeOf.sizeOf xs) xs _ a w5 (Nat.le_refl _) hQ0 (hS.trans hs5) h0 h1)
  have HB := Aside0.mk (Below.refl w.heap.size w)
  clear hQ0 hS h0 h1
  go_enter Try.func33, Try.ntmps33
  go_wp2_with (first
    | ((with_reducible refine gate_dst (N := 2) rfl ?_); refine bx_ 2 #[.int .i64 c, .int .i64 d, .string s, .slice A0 xs.length c0] 49 ?_; intro gb hg w4 hbox hb; have BK := Aside0.mk (hbox); have HS4 := Aside0.mk ((Shaped.refl P w).below hb); clear hb hbox hg; obtain ⟨hcz5_0, hcz5_1, hcz5_2, hcz5_3, hfz5_0, hfz5_1, hfz5_2, hfz5_3⟩ := blk4 BK)
    | ((with_reducible refine gate_callee (f := 101) rfl ?_); refine goesL_ (some 8) rfl rfl Try.func101 (by kernel_rfl) rfl #[.slice A0 xs.length c0, .int .i64 a] rfl ar_ ?_; (with_reducible refine (HN.out _ HS4.out).mono ?_); rintro e w6 ⟨rfl, hs6⟩; refine ⟨_, rfl, ?_⟩; have HS6 := Aside0.mk (HS4.out.trans hs6); clear hs6))
  go_ret
  exact ⟨rfl, HS6.out⟩
end Go.Proofs.Ytcchmhmbjhgfdaa.Mk
namespace Go.Proofs.Ytcchmhmbjhgfdaa.G
open Go.RowKit Go.Proofs.YtcchmhmbjhgfdaaW.PrintWords Go.Proofs.YtcchmhmbjhgfdaaW.PrintLast Go.Proofs.YtcchmhmbjhgfdaaW.PrintMore
attribute [local go_sem] max2_int min2_int max_two min_two max_three min_three max_four min_four Own.str_gtr Own.str_leq Own.str_geq Own.sto_fn   -- for this text's walks alone
open Own
set_option linter.unusedVariables false
set_option linter.unusedSimpArgs false
def laws_markValue.f (a0_0 : Int) (a0_1 : Int) (a0_2 : ByteArray) (l0_3 : List S49) (a1 : Int) : Option Int := if 0 < a1 then (if a1 + ((Mk.cntVs l0_3 : Nat) : Int) ≤ 4611686018427387904 then some (a1 + ((Mk.cntVs l0_3 : Nat) : Int)) else none) else none
theorem laws_markValue.calls (Ex : List Nat) (a0_0 : Int) (a0_1 : Int) (a0_2 : ByteArray) (A0_3 : Option Addr) (c0_3 : Nat) (l0_3 : List S49) (a1 : Int) (r : Int) (w0 w : World) (hB : Below w0.heap.size w0 w) (h0 : ∃ ok W, Kd.R k49 49 W w0.heap.size ok (.slice A0_3 l0_3.length c0_3) l0_3 ∧ (∀ k, ok k → k ∉ Ex) ∧ Mk.Over [99, 104, 140, 49, 9] Ex w0 W w) (h : laws_markValue.f a0_0 a0_1 a0_2 l0_3 a1 = some r) :
    Calls Try.prog 33 #[.agg #[.int .i64 a0_0, .int .i64 a0_1, .string a0_2, .slice A0_3 l0_3.length c0_3], .int .i64 a1] w fun e w' => e = .returned (.int .i64 r) ∧ Mk.Over [99, 104, 140, 49, 9] Ex w0 w w' := by
  unfold laws_markValue.f at h; by_cases g0 : 0 < a1; rotate_left
  · rw [if_neg g0] at h; cases h
  rw [if_pos g0] at h; by_cases g1 : a1 + ((Mk.cntVs l0_3 : Nat) : Int) ≤ 4611686018427387904
  · rw [if_pos g1] at h; obtain rfl := Option.some.inj h; obtain ⟨W0, h0, k0⟩ := Mk.Over.fits_was (Es := [99, 104, 140, 49, 9]) (by decide) h0; refine (Mk.markValue_calls w0.heap.size _ l0_3 a0_0 a0_1 a0_2 _ a1 W0 w h0 k0 g0 g1).mono ?_; rintro e w' ⟨rfl, hs⟩; exact ⟨rfl, hs⟩
  rw [if_neg g1] at h; cases h
end Go.Proofs.Ytcchmhmbjhgfdaa.G
