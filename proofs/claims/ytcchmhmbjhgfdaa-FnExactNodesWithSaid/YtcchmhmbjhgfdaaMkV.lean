/- Marks of values: what is written, and how many. -/
import Derived.Test.YtcchmhmbjhgfdaaMk
import Derived.Test.YtcchmhmbjhgfdaaGx10
namespace Go.Proofs.Ytcchmhmbjhgfdaa.Mk
open Go.RowKit Go.Proofs.Ytcchmhmbjhgfdaa.G Go.Proofs.YtcchmhmbjhgfdaaW.PrintWords Go.Proofs.YtcchmhmbjhgfdaaW.PrintLast Go.Proofs.YtcchmhmbjhgfdaaW.PrintMore
open Own
set_option linter.unusedVariables false
set_option linter.unusedSimpArgs false

abbrev MV := S49
/-- How many marks a value takes, as an element. -/
def cntV : MV → Nat
  | ⟨a, b, c, l⟩ => 3 + (l.attach.map fun x => cntV x.1).sum
termination_by x => SizeOf.sizeOf x
decreasing_by
  have := List.sizeOf_lt_of_mem x.2
  simp
  omega
theorem cntV_eq (x : MV) : cntV x = 3 + (x.f3.map cntV).sum := by
  obtain ⟨a, b, c, l⟩ := x
  rw [cntV]
  simp
def cntVs (l : List MV) : Nat := (l.map cntV).sum
theorem cntVs_take {l : List MV} {i : Nat} (h : i < l.length) : cntVs (l.take (i + 1)) = cntVs (l.take i) + (3 + cntVs l[i].f3) := by
  unfold cntVs
  rw [List.take_succ_eq_append_getElem h, List.map_append, List.sum_append]
  simp only [List.map_cons, List.map_nil, List.sum_cons, List.sum_nil, Nat.add_zero]
  rw [cntV_eq l[i]]
theorem cntVs_take_le (l : List MV) (i : Nat) : cntVs (l.take i) ≤ cntVs l := by
  have h : cntVs l = cntVs (l.take i) + cntVs (l.drop i) := by
    unfold cntVs
    rw [← List.sum_append, ← List.map_append, List.take_append_drop]
  omega
theorem w64 {x : Int} (h0 : -9223372036854775808 ≤ x) (h1 : x ≤ 9223372036854775807) : wrap64 x = x := by unfold wrap64; omega
/-- A mark's text. -/
theorem markText_l0 : ∀ (n : Nat) (a : Int) (s : ByteArray), 0 ≤ a → a ≤ 4611686018427387904 → a < 10 ^ n → s.size + n ≤ 1000 → ∃ r, ∀ k, n < k → laws_markText.l0 k a s = some r := by
  intro n
  induction n with
  | zero =>
    intro a s h0 h2 h1 hs
    refine ⟨(⟨#[109]⟩ : ByteArray) ++ s, fun k hk => ?_⟩
    obtain ⟨k, rfl⟩ : ∃ m, k = m + 1 := ⟨k - 1, by omega⟩
    simp only [laws_markText.l0]
    rw [if_neg (by simp at h1; omega), if_pos (by omega)]
  | succ n ih =>
    intro a s h0 h2 h1 hs
    by_cases h : a > 0
    · have hq : Int.tdiv a 10 = a / 10 := Int.tdiv_eq_ediv_of_nonneg h0
      have hb : ∀ y : List Int, y.length = 1 → (strOfNums y).size = 1 := by
        intro y hy
        obtain ⟨z, rfl⟩ := List.length_eq_one_iff.1 hy
        simp [strOfNums, ByteArray.size]
      have h3 : a / 10 < 10 ^ n := by
        rw [Int.pow_succ] at h1
        omega
      obtain ⟨r, hr⟩ := ih (a / 10) (strOfNums [(wrap64 (48 + (Int.tmod a 10))) % 256] ++ s) (by omega) (by omega) h3 (by rw [ByteArray.size_append, hb _ rfl]; omega)
      refine ⟨r, fun k hk => ?_⟩
      obtain ⟨k, rfl⟩ : ∃ m, k = m + 1 := ⟨k - 1, by omega⟩
      simp only [laws_markText.l0]
      rw [if_pos h, Option.bind_some, if_pos (by rw [hb _ rfl]; omega), hq, w64 (by omega) (by omega)]
      exact hr k (by omega)
    · refine ⟨(⟨#[109]⟩ : ByteArray) ++ s, fun k hk => ?_⟩
      obtain ⟨k, rfl⟩ : ∃ m, k = m + 1 := ⟨k - 1, by omega⟩
      simp only [laws_markText.l0]
      rw [if_neg h, if_pos (by omega)]
theorem markText_some (a : Int) (h0 : 0 < a) (h1 : a ≤ 4611686018427387904) : ∃ k r, laws_markText.f k a = some r := by
  obtain ⟨r, hr⟩ := markText_l0 19 a (⟨#[]⟩ : ByteArray) (by omega) h1 (by omega) (by decide)
  exact ⟨20, r, by unfold laws_markText.f; rw [if_neg (by omega)]; exact hr 20 (by decide)⟩

theorem markValueS_calls (W : World) (base : Nat) (P : Nat → Prop) : ∀ (n : Nat) (xs : List MV) (v : Value) (a : Int) (w : World), SizeOf.sizeOf xs ≤ n → Kd.R k49 49 W base P v xs → Shaped P W w → 0 < a → a + cntVs xs ≤ 4611686018427387904 →
    Calls Try.prog 101 #[v, .int .i64 a] w fun e w' => e = .returned (.int .i64 (a + cntVs xs)) ∧ Shaped P w w' := by
  intro n
  induction n using Nat.strongRecOn with
  | _ n ih =>
  intro xs v a w hn hR hS h0 h1
  obtain ⟨A, c, rfl⟩ := Kd.R_slice hR
  have HR := Aside0.mk hR
  have HS := Aside0.mk hS
  have IH := Aside0.mk ih
  have HN := Aside0.mk hn
  have HA := Aside0.mk h0
  have HZ := Aside0.mk h1
  clear hR hS ih hn h0 h1
  go_enter Try.func101, Try.ntmps101
  go_wp2
  go_loopg [1, 5] xs.length (fun kq v1 v5 w' => ∃ (K i : Int), v1 = .int .i64 K ∧ v5 = .int .i64 i ∧ Aside0 (0 ≤ i ∧ i ≤ xs.length ∧ (kq : Int) + i = xs.length ∧ K = a + cntVs (xs.take i.toNat)) ∧ Aside0 (Shaped P w w'))
  case atStart => exact ⟨a, 0, rfl, rfl, ⟨by omega, by omega, by omega, by simp [cntVs]⟩, ⟨Shaped.refl P w⟩⟩
  case round =>
    try clear p2
    obtain ⟨K, i, rfl, rfl, HI, HS1⟩ := hrel
    by_cases hlt : i < (xs.length : Int)
    · obtain ⟨k1, rfl⟩ : ∃ m, gk = m + 1 := ⟨gk - 1, by have := HI.out; omega⟩
      obtain ⟨gg, cap, cc, ev, hg, hcl, hM, HX⟩ := row_at HR.out z49 i HI.out.1 hlt
      have hin : i.toNat < xs.length := by have := HI.out.1; omega
      obtain ⟨x, hx⟩ : ∃ x, x = xs.getD i.toNat z49 := ⟨_, rfl⟩
      rw [← hx] at hM
      have hel : x = xs[i.toNat] := by rw [hx, List.getD_eq_getElem?_getD, List.getElem?_eq_getElem hin]; rfl
      obtain ⟨v3, rfl, g3⟩ := k49_openM hM
      obtain ⟨A3, c3, rfl⟩ := Kd.R_slice g3
      injection ev with ea _ ec
      subst ea ec
      have GG := Aside0.mk hg
      have G3 := Aside0.mk g3
      have HX' := Aside0.mk HX
      have c3b0 : decide (i < (xs.length : Int)) = true := decide_eq_true hlt
      have c4b0 : decide (0 ≤ i) = true := decide_eq_true HI.out.1
      have p6 : (0 ≤ i) = True := eq_true HI.out.1
      have q6 : (i < (xs.length : Int)) = True := eq_true hlt
      have hcz := (HX wr (HS.out.trans HS1.out)).1
      have hfz := (HX wr (HS.out.trans HS1.out)).2
      obtain ⟨u0, x0, e0⟩ := hcz 0 _ rfl
      obtain ⟨b0, rfl⟩ := er_int e0
      have hx0 : wr.cell? ⟨gg, i.toNat * 4, none⟩ = some (.int .i64 b0) := x0
      have hf0 : wr.frozen? ⟨gg, i.toNat * 4, none⟩ = false := hfz 0
      have hct := cntVs_take hin
      have hle := cntVs_take_le xs (i.toNat + 1)
      have HE := Aside0.mk (show K = a + cntVs (xs.take i.toNat) ∧ cntVs (xs.take (i.toNat + 1)) = cntVs (xs.take i.toNat) + (3 + cntVs x.f3) ∧ cntVs (xs.take (i.toNat + 1)) ≤ cntVs xs from ⟨HI.out.2.2.2, by rw [hel]; exact hct, hle⟩)
      have e3 : wrap64 ((wrap64 ((wrap64 (K + 1)) + 1)) + 1) = K + 3 := by
        have := HE.out; have := HA.out; have := HZ.out
        rw [w64 (x := K + 1) (by omega) (by omega), w64 (x := K + 1 + 1) (by omega) (by omega), w64 (by omega) (by omega)]; omega
      have e2' : wrap64 ((wrap64 (K + 1)) + 1) = K + 2 := by
        have := HE.out; have := HA.out; have := HZ.out
        rw [w64 (x := K + 1) (by omega) (by omega), w64 (by omega) (by omega)]; omega
      obtain ⟨kt, rt, ht⟩ := markText_some (wrap64 ((wrap64 (K + 1)) + 1)) (by have := HE.out; have := HA.out; omega) (by have := HE.out; have := HZ.out; omega)
      have HT := Aside0.mk ht
      have HM := Aside0.mk (fun w5 hs5 => IH.out (SizeOf.sizeOf x.f3) (by have h1 := HN.out; have h2 := List.sizeOf_lt_of_mem (List.getElem_mem hin); rw [hel]; have h3 : SizeOf.sizeOf xs[i.toNat].f3 < SizeOf.sizeOf xs[i.toNat] := (by cases xs[i.toNat]; simp; omega); omega) _ _ (wrap64 ((wrap64 ((wrap64 (K + 1)) + 1)) + 1)) w5 (Nat.le_refl _) G3.out hs5 (by have := HE.out; have := HA.out; omega) (by have := HE.out; have := HZ.out; omega))
      have E3 := Aside0.mk e3
      clear hcz hfz x0 e0 HX hM hcl g3 hg hlt hx hin hel hct hle e3 e2' ht
      go_wp2_with (first
        | ((with_reducible refine gate_store (t := 3) (p := 16) rfl ?_); refine store_event (t := 3) (p := 16) (v := ?vo1) (w1 := (wr.setCell ⟨gg, i.toNat * 4, none⟩ (.int .i64 K))) ?hg ?ho ?hn ?hr ?_; (case ho => rfl); (case hg => rfl); (case hn => rfl); (case hr => first | (go_simp; done) | (go_simp; rfl)); intro w2 hw; have HS2 := Aside0.mk (show Shaped P w w2 by rw [hw]; exact HS1.out.set GG.out hx0 rfl); clear hx0 hf0 hw; have hx1 := (HX'.out w2 (HS.out.trans HS2.out)).1 1 _ rfl; have hf1 : w2.frozen? ⟨gg, i.toNat * 4 + 1, none⟩ = false := (HX'.out w2 (HS.out.trans HS2.out)).2 1; obtain ⟨u1, x1, e1⟩ := hx1; obtain ⟨b1, rfl⟩ := er_int e1; have hx1 : w2.cell? ⟨gg, i.toNat * 4 + 1, none⟩ = some (.int .i64 b1) := x1; clear x1 e1)
        | ((with_reducible refine gate_store (t := 3) (p := 23) rfl ?_); refine store_event (t := 3) (p := 23) (v := ?vo2) (w1 := (w2.setCell ⟨gg, i.toNat * 4 + 1, none⟩ (.int .i64 (wrap64 (K + 1))))) ?hg ?ho ?hn ?hr ?_; (case ho => rfl); (case hg => rfl); (case hn => rfl); (case hr => first | (go_simp; done) | (go_simp; rfl)); intro w3 hw; have HS3 := Aside0.mk (show Shaped P w w3 by rw [hw]; exact HS2.out.set GG.out hx1 rfl); clear hx1 hf1 hw)
        | ((with_reducible refine gate_callee (f := 114) rfl ?_); refine goesL_ (some 29) rfl rfl Try.func114 (by kernel_rfl) rfl #[.int .i64 (wrap64 ((wrap64 (K + 1)) + 1))] rfl ar_ ?_; (with_reducible refine (laws_markText.calls kt (wrap64 ((wrap64 (K + 1)) + 1)) rt _ HT.out).mono ?_); rintro e w4 ⟨rfl, hb⟩; refine ⟨_, rfl, ?_⟩; have HS4 := Aside0.mk (HS3.out.below hb); clear hb; have hx2 := (HX'.out w4 (HS.out.trans HS4.out)).1 2 _ rfl; have hf2 : w4.frozen? ⟨gg, i.toNat * 4 + 2, none⟩ = false := (HX'.out w4 (HS.out.trans HS4.out)).2 2; obtain ⟨u2, x2, e2⟩ := hx2; obtain ⟨b2, rfl⟩ := er_string e2; have hx2 : w4.cell? ⟨gg, i.toNat * 4 + 2, none⟩ = some (.string b2) := x2; clear x2 e2)
        | ((with_reducible refine gate_store (t := 9) (p := 31) rfl ?_); refine store_event (t := 9) (p := 31) (v := ?vo3) (w1 := (w4.setCell ⟨gg, i.toNat * 4 + 2, none⟩ (.string rt))) ?hg ?ho ?hn ?hr ?_; (case ho => rfl); (case hg => rfl); (case hn => rfl); (case hr => first | (go_simp; done) | (go_simp; rfl)); intro w5 hw; have HS5 := Aside0.mk (show Shaped P w w5 by rw [hw]; exact HS4.out.set GG.out hx2 rfl); clear hx2 hf2 hw; have hx3 := (HX'.out w5 (HS.out.trans HS5.out)).1 3 _ rfl; obtain ⟨u3, x3, e3⟩ := hx3; obtain rfl := er_slice e3; have hx3 : w5.cell? ⟨gg, i.toNat * 4 + 3, none⟩ = some (.slice A3 x.f3.length c3) := x3; clear x3 e3)
        | ((with_reducible refine gate_callee (f := 101) rfl ?_); refine goesL_ (some 40) rfl rfl Try.func101 (by kernel_rfl) rfl #[.slice A3 x.f3.length c3, .int .i64 (wrap64 ((wrap64 ((wrap64 (K + 1)) + 1)) + 1))] rfl ar_ ?_; (with_reducible refine (HM.out _ (HS.out.trans HS5.out)).mono ?_); rintro e w6 ⟨rfl, hs6⟩; refine ⟨_, rfl, ?_⟩; have HS6 := Aside0.mk (HS5.out.trans hs6); clear hs6))
      go_roundg k1
      case measure => omega
      case rel => exact ⟨_, _, rfl, rfl, ⟨by
        have h1 := HI.out
        have h2 := HE.out
        have h3 := E3.out
        have hl : (xs.length : Int) ≤ 9223372036854775807 := by have := (Kd.R_reads HR.out); obtain ⟨_, _, _, _, hC⟩ := this; have := hC.2.1; omega
        have hq : i < (xs.length : Int) := of_eq_true q6
        rw [h3, w64 (x := i + 1) (by omega) (by omega)]
        have e : (i + 1).toNat = i.toNat + 1 := by omega
        rw [e]
        refine ⟨by omega, by omega, by omega, by omega⟩⟩, HS6⟩
    · have c3b0 : decide (i < (xs.length : Int)) = false := decide_eq_false hlt
      have hi : i.toNat = xs.length := by have := HI.out; omega
      have hK : K = a + cntVs xs := by have := HI.out.2.2.2; rw [hi, List.take_length] at this; exact this
      subst hK
      clear hi hlt
      go_wp2
      go_ret
      exact ⟨rfl, HS1.out⟩
end Go.Proofs.Ytcchmhmbjhgfdaa.Mk
