/- What is drawn: numbers, texts, values; copies of values. -/
import Derived.Test.YtejikddbdhahaaaPVBase
import Derived.Test.YtejikddbdhahaaaGx10
import Derived.Test.YtejikddbdhahaaaGx11
import Derived.Test.YtejikddbdhahaaaGx12
import Derived.Test.YtejikddbdhahaaaGx13
import Derived.Test.YtejikddbdhahaaaGx14
namespace Go.Proofs.Ytejikddbdhahaaa.Pur
open Go.RowKit Go.Proofs.Ytejikddbdhahaaa.G Go.Proofs.YtejikddbdhahaaaW.PrintWords Go.Proofs.YtejikddbdhahaaaW.PrintLast
set_option linter.unusedVariables false
set_option linter.unusedSimpArgs false

theorem xor_nonneg {x y : Int} (hx : 0 ≤ x) (hx' : x ≤ 9223372036854775807) (hy : 0 ≤ y) (hy' : y ≤ 9223372036854775807) : 0 ≤ Go.bits .xor .i64 x y := by
  have e : ∀ z : Int, 0 ≤ z → z ≤ 9223372036854775807 → (BitVec.ofInt 64 z).toNat < 2 ^ 63 := by
    intro z h h'
    obtain ⟨m, rfl⟩ := Int.eq_ofNat_of_zero_le h
    have : (BitVec.ofInt 64 ((m : Nat) : Int)).toNat = m := by
      rw [BitVec.ofInt_natCast, BitVec.toNat_ofNat, Nat.mod_eq_of_lt (by omega)]
    rw [this]; omega
  have h : (BitVec.ofInt 64 x ^^^ BitVec.ofInt 64 y).toNat < 2 ^ 63 := by
    rw [BitVec.toNat_xor]
    exact Nat.xor_lt_two_pow (e x hx hx') (e y hy hy')
  have : Go.bits .xor .i64 x y = IntKind.i64.wrap ((BitVec.ofInt 64 x ^^^ BitVec.ofInt 64 y).toNat : Int) := rfl
  rw [this, i64_w]
  rw [wrap64_id (by omega) (by omega)]
  omega
/-- Bytes, not many. -/
def Bs (s : List Int) : Prop := s.length ≤ 2000 ∧ ∀ x ∈ s, 0 ≤ x ∧ x ≤ 255
theorem Bs.rd {s : List Int} (h : Bs s) (i : Int) : 0 ≤ rd s i ∧ rd s i ≤ 255 := by
  show 0 ≤ s.getD i.toNat 0 ∧ s.getD i.toNat 0 ≤ 255
  rw [List.getD_eq_getElem?_getD]
  cases e : s[i.toNat]? with
  | none => simp
  | some v => exact h.2 v (List.mem_of_getElem? e)
theorem open_ev {s : List Int} (hb : ∀ x ∈ s, (Lit.int .u8 x).wf = true) : ∃ s', spec_l1Open.f s = some (s', 0) ∧ Bs s' := by
  have hu : ∀ x ∈ s, 0 ≤ x ∧ x ≤ 255 := by
    intro x hx
    have := hb x hx
    simp [Lit.wf] at this
    have m0 : IntKind.u8.min = 0 := rfl
    have m1 : IntKind.u8.max = 255 := rfl
    omega
  by_cases c : (s.length : Int) > 2000
  · refine ⟨s.take 2000, ?_, by rw [List.length_take]; omega, fun x hx => hu x (List.mem_of_mem_take hx)⟩
    unfold spec_l1Open.f
    rw [if_pos c, if_pos (by omega)]
  · refine ⟨s, ?_, by omega, hu⟩
    unfold spec_l1Open.f
    rw [if_neg c]
theorem pick_ev {s : List Int} (hs : Bs s) {p n : Int} (h0 : 0 ≤ p) (h1 : p ≤ 1000000) (hn : 1 ≤ n) (hn' : n ≤ 1000) : ∃ r, Ev (fun k => spec_l1Rd_pick.f k s p n) (r, p + 1) ∧ 0 ≤ r ∧ r < n := by
  have hl := hs.1
  have j : ∃ r, Ev (fun k => spec_l1Rd_pick.j0 k n ((s.length : Int) == 0) s (p + 1)) (r, p + 1) ∧ 0 ≤ r ∧ r < n := by
    by_cases c : s.length = 0
    · refine ⟨0, Ev.succ ?_, by omega, by omega⟩
      simp only [spec_l1Rd_pick.j0]
      exact Ev.pos (by simp [c]) (Ev.some _)
    have cb : ((s.length : Int) == 0) = false := by rw [beq_eq_false_iff_ne]; omega
    have e1 : wrap64 (p + 1 - 1) = p := by rw [wrap64_id (by omega) (by omega)]; omega
    have e2 : wrap64 (wrap64 (p * 7) + 3) = p * 7 + 3 := by rw [wrap64_id (x := p * 7) (by omega) (by omega), wrap64_id (by omega) (by omega)]
    have wr : ∀ i, wrap64 (rd s i) = rd s i := fun i => by have := hs.rd i; rw [wrap64_id (by omega) (by omega)]
    by_cases d : p < (s.length : Int)
    · have := hs.rd p
      refine ⟨Int.tmod (rd s p) n, Ev.succ ?_, Int.tmod_nonneg _ (by omega), Int.tmod_lt_of_pos _ (by omega)⟩
      simp only [spec_l1Rd_pick.j0, cb, e1, wr, Bool.false_eq_true, if_false, if_pos d, if_pos h0, if_neg (show ¬ n = 0 by omega)]
      exact Ev.some _
    · have t1 : 0 ≤ Int.tmod p (s.length : Int) := Int.tmod_nonneg _ (by omega)
      have t2 : Int.tmod p (s.length : Int) < (s.length : Int) := Int.tmod_lt_of_pos _ (by omega)
      have t3 : 0 ≤ Int.tmod (p * 7 + 3) (s.length : Int) := Int.tmod_nonneg _ (by omega)
      have t4 : Int.tmod (p * 7 + 3) (s.length : Int) < (s.length : Int) := Int.tmod_lt_of_pos _ (by omega)
      have q0 : 0 ≤ Int.tdiv p (s.length : Int) := Int.tdiv_nonneg h0 (by omega)
      have q1 : Int.tdiv p (s.length : Int) ≤ p := by rw [Int.tdiv_eq_ediv_of_nonneg h0]; exact Int.ediv_le_self _ h0
      have u := hs.rd (Int.tmod p (s.length : Int))
      have v := hs.rd (Int.tmod (p * 7 + 3) (s.length : Int))
      refine Exists.imp (p := fun r => Ev (fun k => spec_l1Rd_pick.j0 (k + 1) n ((s.length : Int) == 0) s (p + 1)) (r, p + 1) ∧ 0 ≤ r ∧ r < n) (fun r h => ⟨Ev.succ h.1, h.2⟩) ?_
      simp only [spec_l1Rd_pick.j0, cb, e1, e2, wr, Bool.false_eq_true, if_false, if_neg d, if_neg (show ¬ (s.length : Int) = 0 by omega), if_pos t1, if_pos t2, if_pos t3, if_pos t4, if_neg (show ¬ n = 0 by omega)]
      generalize rd s (Int.tmod p (s.length : Int)) = a at u
      generalize rd s (Int.tmod (p * 7 + 3) (s.length : Int)) = b at v
      generalize Int.tdiv p (s.length : Int) = q at q0 q1
      have w1 : wrap64 (a * 131) = a * 131 := wrap64_id (by omega) (by omega)
      have w2 : wrap64 (b * 1117) = b * 1117 := wrap64_id (by omega) (by omega)
      have w3 : wrap64 (a * 131 + b * 1117) = a * 131 + b * 1117 := wrap64_id (by omega) (by omega)
      have w4 : wrap64 (p * 29) = p * 29 := wrap64_id (by omega) (by omega)
      have w5 : wrap64 (a * 131 + b * 1117 + p * 29) = a * 131 + b * 1117 + p * 29 := wrap64_id (by omega) (by omega)
      have w6 : wrap64 q = q := wrap64_id (by omega) (by omega)
      have w7 : wrap64 (q * 53) = q * 53 := wrap64_id (by omega) (by omega)
      have w8 : wrap64 (a * 131 + b * 1117 + p * 29 + q * 53) = a * 131 + b * 1117 + p * 29 + q * 53 := wrap64_id (by omega) (by omega)
      simp only [w1, w2, w3, w4, w5, w6, w7, w8]
      have hz : 0 ≤ a * 131 + b * 1117 + p * 29 + q * 53 ∧ a * 131 + b * 1117 + p * 29 + q * 53 ≤ 1000000000 := by omega
      generalize a * 131 + b * 1117 + p * 29 + q * 53 = z at hz
      have d0 : 0 ≤ Int.tdiv z 64 := Int.tdiv_nonneg (by omega) (by omega)
      have d1 : Int.tdiv z 64 ≤ z := by rw [Int.tdiv_eq_ediv_of_nonneg (by omega)]; omega
      have w9 : wrap64 (Int.tdiv z 64) = Int.tdiv z 64 := wrap64_id (by omega) (by omega)
      rw [w9]
      have hx := xor_nonneg (x := z) (y := Int.tdiv z 64) (by omega) (by omega) d0 (by omega)
      exact ⟨_, Ev.some _, Int.tmod_nonneg _ hx, Int.tmod_lt_of_pos _ (by omega)⟩
  obtain ⟨r, hr, hp⟩ := j
  refine ⟨r, ?_, hp⟩
  unfold spec_l1Rd_pick.f
  rw [wrap64_id (by omega) (by omega)]
  exact Ev.neg (by omega) hr
theorem one_ev {s : List Int} (hs : Bs s) {p : Int} (h0 : 0 ≤ p) (h1 : p ≤ 1000000) (l : List Int) (hl : 1 ≤ l.length) (hl' : l.length ≤ 1000) : ∃ x, Ev (fun k => spec_l1Rd_one.f k s p l) (x, p + 1) := by
  obtain ⟨r, hr, hr0, hr1⟩ := pick_ev hs h0 h1 (n := (l.length : Int)) (by omega) (by omega)
  refine ⟨rd l r, ?_⟩
  · unfold spec_l1Rd_one.f
    exact Ev.bind hr (Ev.pos hr0 (Ev.pos hr1 (Ev.some _)))
theorem of_ev {s : List Int} (hs : Bs s) {p : Int} (h0 : 0 ≤ p) (h1 : p ≤ 1000000) (l : List ByteArray) (hl : 1 ≤ l.length) (hl' : l.length ≤ 1000) (hz : ∀ x ∈ l, x.size ≤ 1048576) : ∃ x, Ev (fun k => spec_l1Rd_of.f k s p l) (x, p + 1) ∧ x.size ≤ 1048576 := by
  obtain ⟨r, hr, hr0, hr1⟩ := pick_ev hs h0 h1 (n := (l.length : Int)) (by omega) (by omega)
  refine ⟨rdOf ByteArray.empty l r, ?_, ?_⟩
  · unfold spec_l1Rd_of.f
    exact Ev.bind hr (Ev.pos hr0 (Ev.pos hr1 (Ev.some _)))
  · show (l.getD r.toNat ByteArray.empty).size ≤ _
    rw [List.getD_eq_getElem?_getD]
    cases e : l[r.toNat]? with
    | none => simp
    | some v => exact hz v (List.mem_of_getElem? e)
theorem many_ev : ∀ (n : Nat) (s acc : ByteArray), acc.size + n * s.size ≤ 1000000 → n ≤ 1000 → ∃ r, Ev (fun k => spec_l1Many.l0 k s (n : Int) acc) r ∧ r.size = acc.size + n * s.size := by
  intro n
  induction n using Nat.strongRecOn with
  | _ n ih =>
    intro s acc hz hn
    by_cases c : n = 0
    · subst c
      refine ⟨acc, Ev.succ ?_, by simp⟩
      simp only [spec_l1Many.l0]
      exact Ev.neg (by omega) (Ev.some _)
    have hs : s.size ≤ n * s.size := Nat.le_mul_of_pos_left _ (by omega)
    have hm : wrap64 (Int.tdiv (n : Int) 2) = ((n / 2 : Nat) : Int) := by
      rw [Int.tdiv_eq_ediv_of_nonneg (by omega), wrap64_id (by omega) (by omega)]; omega
    have ht : Int.tmod (n : Int) 2 = ((n % 2 : Nat) : Int) := by rw [Int.tmod_eq_emod_of_nonneg (by omega)]; omega
    have h2 : (n / 2) * (s ++ s).size = (n / 2) * s.size + (n / 2) * s.size := by rw [ByteArray.size_append, Nat.mul_add]
    by_cases o : n % 2 = 1
    · have e : n * s.size = (n / 2) * s.size + (n / 2) * s.size + s.size := by
        have : n = n / 2 + n / 2 + 1 := by omega
        conv => lhs; rw [this]
        rw [Nat.add_mul, Nat.add_mul, Nat.one_mul]
      obtain ⟨r, hr, hrs⟩ := ih (n / 2) (by omega) (s ++ s) (acc ++ s) (by rw [h2, ByteArray.size_append]; omega) (by omega)
      refine ⟨r, Ev.succ ?_, by rw [hrs, h2, ByteArray.size_append]; omega⟩
      simp only [spec_l1Many.l0, hm, ht]
      exact Ev.pos (by omega) (Ev.pos (by omega) (Ev.pos (by omega) (Ev.pos (by omega) hr)))
    · have e : n * s.size = (n / 2) * s.size + (n / 2) * s.size := by
        have : n = n / 2 + n / 2 := by omega
        conv => lhs; rw [this]
        rw [Nat.add_mul]
      obtain ⟨r, hr, hrs⟩ := ih (n / 2) (by omega) (s ++ s) acc (by rw [h2]; omega) (by omega)
      refine ⟨r, Ev.succ ?_, by rw [hrs, h2]; omega⟩
      simp only [spec_l1Many.l0, hm, ht]
      exact Ev.pos (by omega) (Ev.neg (by omega) (Ev.pos (by omega) hr))
theorem many_ev' (n : Nat) (s : ByteArray) (hz : n * s.size ≤ 1000000) (hn : n ≤ 1000) : ∃ r, Ev (fun k => spec_l1Many.f k s (n : Int)) r ∧ r.size = n * s.size := by
  obtain ⟨r, hr, h⟩ := many_ev n s (⟨#[]⟩ : ByteArray) (by have : (⟨#[]⟩ : ByteArray).size = 0 := rfl
                                                           omega) hn
  refine ⟨r, ?_, by rw [h]; show 0 + _ = _; omega⟩
  unfold spec_l1Many.f
  exact hr
/-- A value drawn from place p on, with at most so many steps. -/
def Drew (f : Nat → Option (Int × Int × ByteArray × List IV × Int)) (p : Int) (B : Nat) : Prop :=
  ∃ (v : IV) (q : Int), Ev f (v.f0, v.f1, v.f2, v.f3, q) ∧ Sm v ∧ p ≤ q ∧ q ≤ p + B
theorem Drew.mk {f : Nat → Option (Int × Int × ByteArray × List IV × Int)} {p : Int} {B : Nat} {a b : Int} {c : ByteArray} {l : List IV} {q : Int} (h : Ev f (a, b, c, l, q)) (hc : c.size ≤ 1048576) (hl : l.length ≤ 1048576) (hs : ∀ x ∈ l, Sm x) (h0 : p ≤ q) (h1 : q ≤ p + B) : Drew f p B :=
  ⟨⟨a, b, c, l⟩, q, h, .mk hc hl hs, h0, h1⟩
theorem growLoop (L : Nat → Int → Int → List IV → Option (Int × Int × ByteArray × List IV × Int)) (F : Nat → Int → Option (Int × Int × ByteArray × List IV × Int)) (c0 c1 : Int) (c2 : ByteArray) (B : Nat) (P : Int)
    (h0 : ∀ k p acc, L (k + 1) 0 p acc = some (c0, c1, c2, acc, p))
    (h1 : ∀ k (m : Nat) p acc, m < 1000 → acc.length < 1000 → L (k + 1) ((m + 1 : Nat) : Int) p acc = (F k p).bind fun b => L k (m : Int) b.2.2.2.2 (acc ++ [(⟨b.1, b.2.1, b.2.2.1, b.2.2.2.1⟩ : IV)]))
    (hF : ∀ p, 0 ≤ p → p ≤ P → Drew (fun k => F k p) p B) :
    ∀ (m : Nat) (p : Int) (acc : List IV), 0 ≤ p → p + m * B ≤ P → acc.length + m ≤ 900 → (∀ x ∈ acc, Sm x) →
      ∃ vs q, Ev (fun k => L k (m : Int) p acc) (c0, c1, c2, vs, q) ∧ vs.length = acc.length + m ∧ (∀ x ∈ vs, Sm x) ∧ p ≤ q ∧ q ≤ p + m * B := by
  intro m
  induction m with
  | zero =>
    intro p acc hp hP ha hs
    refine ⟨acc, p, Ev.succ (Ev.of_eq fun k => h0 k p acc), by omega, hs, by omega, by omega⟩
  | succ m ih =>
    intro p acc hp hP ha hs
    have hB : ((m + 1 : Nat) : Int) * (B : Int) = (m : Int) * (B : Int) + B := by rw [show ((m + 1 : Nat) : Int) = (m : Int) + 1 by omega, Int.add_mul, Int.one_mul]
    rw [hB] at hP
    have hmB : 0 ≤ (m : Int) * (B : Int) := Int.mul_nonneg (by omega) (by omega)
    obtain ⟨v, q, hv, sv, q0, q1⟩ := hF p hp (by omega)
    obtain ⟨vs, q', hvs, hl, hs', r0, r1⟩ := ih q (acc ++ [v]) (by omega) (by omega) (by simp; omega) (fun x hx => by
      rcases List.mem_append.1 hx with h | h
      · exact hs x h
      · rw [List.mem_singleton.1 h]; exact sv)
    refine ⟨vs, q', Ev.succ ?_, by simp at hl; omega, hs', by omega, by rw [hB]; omega⟩
    simp only [h1 _ m p acc (by omega) (by omega)]
    refine Ev.bind hv ?_
    show Ev (fun n => L n (m : Int) q (acc ++ [(⟨v.f0, v.f1, v.f2, v.f3⟩ : IV)])) _
    rw [← iv_eta]
    exact hvs
theorem plain_body {s : List Int} (hs : Bs s) (n : Nat) (hn : n ≤ 3) (p : Int) (h0 : 0 ≤ p) (h1 : p + 10000 * n ≤ 900000) (ih : 1 < n → ∀ p : Int, 0 ≤ p → p + 10000 * ((n - 1 : Nat) : Int) ≤ 900000 → Drew (fun k => spec_l11Plain.f k s p ((n - 1 : Nat) : Int)) p (2 * 8 ^ (n - 1))) : Drew (fun k => spec_l11Plain.f k s p (n : Int)) p (2 * 8 ^ n) := by
  have hB : 2 ≤ 2 * 8 ^ n := by have : 0 < 8 ^ n := Nat.pow_pos (by omega)
                                omega
  obtain ⟨r, hr, r0, r1⟩ := pick_ev hs (p := p) (n := 6) h0 (by omega) (by omega) (by omega)
  have num : ∀ q : Int, 0 ≤ q → q ≤ 950000 → ∃ x, Ev (fun k => spec_l1Rd_one.f k s q ([0, 1, 2, 3, (-1), 7, 1000000000] : List Int)) (x, q + 1) := fun q h h' => one_ev hs h (by omega) _ (by simp) (by simp)
  have j : ∀ b, Drew (fun k => spec_l11Plain.j0 k (n : Int) r b s (p + 1)) p (2 * 8 ^ n) := by
    intro b
    by_cases cb : b = true
    · obtain ⟨t, ht, hts⟩ := many_ev' 16 (⟨#[116]⟩ : ByteArray) (by decide) (by omega)
      have e1 : (⟨#[116]⟩ : ByteArray).size = 1 := rfl
      obtain ⟨x, hx, hxs⟩ := of_ev hs (p := p + 1) (by omega) (by omega) ([(⟨#[]⟩ : ByteArray), (⟨#[97]⟩ : ByteArray), (⟨#[98]⟩ : ByteArray), (⟨#[116, 119, 111, 32, 119, 111, 114, 100, 115]⟩ : ByteArray), t] : List ByteArray) (by simp) (by simp) (fun y hy => by
        simp only [List.mem_cons, List.mem_nil_iff, or_false] at hy
        rcases hy with rfl | rfl | rfl | rfl | rfl
        · exact Nat.le_of_ble_eq_true rfl
        · exact Nat.le_of_ble_eq_true rfl
        · exact Nat.le_of_ble_eq_true rfl
        · exact Nat.le_of_ble_eq_true rfl
        · omega)
      refine Drew.mk (a := 3) (b := 0) (c := x) (l := []) (q := p + 1 + 1) (Ev.succ ?_) hxs (by simp) (by simp) (by omega) (by omega)
      simp only [spec_l11Plain.j0, if_pos cb]
      exact Ev.bind ht (Ev.bind hx (Ev.some _))
    obtain ⟨x, hx⟩ := num (p + 1) (by omega) (by omega)
    have z : (⟨#[]⟩ : ByteArray).size ≤ 1048576 := Nat.le_of_ble_eq_true rfl
    by_cases c3 : r = 3
    · by_cases c4 : (n : Int) > 1
      · obtain ⟨m, hm, m0, m1⟩ := pick_ev hs (p := p + 1) (n := 4) (by omega) (by omega) (by omega) (by omega)
        obtain ⟨m', rfl⟩ := Int.eq_ofNat_of_zero_le m0
        have e : 8 ^ n = 8 * 8 ^ (n - 1) := by
          obtain ⟨n', rfl⟩ : ∃ n', n = n' + 1 := ⟨n - 1, by omega⟩
          rw [Nat.pow_succ, Nat.mul_comm]; rfl
        have hq : 8 ^ (n - 1) ≤ 64 := Nat.pow_le_pow_right (n := 8) (by omega) (show n - 1 ≤ 2 by omega)
        have hm3 : (m' : Int) * ((2 * 8 ^ (n - 1) : Nat) : Int) ≤ 3 * ((2 * 8 ^ (n - 1) : Nat) : Int) := Int.mul_le_mul_of_nonneg_right (by omega) (by omega)
        have hpos : 1 ≤ 8 ^ (n - 1) := Nat.pow_pos (by omega)
        obtain ⟨vs, q, hvs, hl, hsm, q0, q1⟩ := growLoop (fun k m p acc => spec_l11Plain.l0 k (n : Int) m s p 4 0 (⟨#[]⟩ : ByteArray) acc) (fun k p => spec_l11Plain.f k s p (wrap64 ((n : Int) - 1))) 4 0 (⟨#[]⟩ : ByteArray) (2 * 8 ^ (n - 1)) (900000 - 10000 * ((n - 1 : Nat) : Int))
          (fun k p acc => by simp only [spec_l11Plain.l0]; rw [if_neg (by omega)])
          (fun k m p acc hm ha => by
            simp only [spec_l11Plain.l0]
            rw [if_pos (by omega), show wrap64 (((m + 1 : Nat) : Int) - 1) = (m : Int) by rw [wrap64_id (by omega) (by omega)]; omega]
            cases spec_l11Plain.f k s p (wrap64 ((n : Int) - 1)) with
            | none => rfl
            | some b => simp only [Option.bind_some]; rw [if_pos (by omega)])
          (fun p' hp hp' => by
            rw [show wrap64 ((n : Int) - 1) = ((n - 1 : Nat) : Int) by rw [wrap64_id (by omega) (by omega)]; omega]
            exact ih (by omega) p' hp (by omega)) m' (p + 1 + 1) [] (by omega) (by omega) (by simp; omega) (by simp)
        refine Drew.mk (a := 4) (b := 0) (c := (⟨#[]⟩ : ByteArray)) (l := vs) (q := q) (Ev.succ ?_) z (by simp at hl; omega) hsm (by omega) (by omega)
        simp only [spec_l11Plain.j0, if_neg cb, if_pos c3, if_pos c4]
        exact Ev.bind hm hvs
      · refine Drew.mk (a := 2) (b := x) (c := (⟨#[]⟩ : ByteArray)) (l := []) (q := p + 1 + 1) (Ev.succ ?_) z (by simp) (by simp) (by omega) (by omega)
        simp only [spec_l11Plain.j0, if_neg cb, if_pos c3, if_neg c4]
        exact Ev.bind hx (Ev.some _)
    · refine Drew.mk (a := 2) (b := x) (c := (⟨#[]⟩ : ByteArray)) (l := []) (q := p + 1 + 1) (Ev.succ ?_) z (by simp) (by simp) (by omega) (by omega)
      simp only [spec_l11Plain.j0, if_neg cb, if_neg c3]
      exact Ev.bind hx (Ev.some _)
  by_cases c0 : r = 0
  · obtain ⟨m, hm, m0, m1⟩ := pick_ev hs (p := p + 1) (n := 2) (by omega) (by omega) (by omega) (by omega)
    have z : (⟨#[]⟩ : ByteArray).size ≤ 1048576 := Nat.le_of_ble_eq_true rfl
    have hb : ∃ y, spec_l1Bool.f (m == 0) = some (1, y, (⟨#[]⟩ : ByteArray), ([] : List IV)) := by
      unfold spec_l1Bool.f
      by_cases c : (m == 0) = true
      · exact ⟨1, by rw [if_pos c]⟩
      · exact ⟨0, by rw [if_neg c]⟩
    obtain ⟨y, hy⟩ := hb
    refine Drew.mk (a := 1) (b := y) (c := (⟨#[]⟩ : ByteArray)) (l := []) (q := p + 1 + 1) (Ev.succ ?_) z (by simp) (by simp) (by omega) (by omega)
    simp only [spec_l11Plain.f]
    refine Ev.bind hr (Ev.pos c0 (Ev.bind hm ?_))
    simp only [hy, Option.bind_some]
    exact Ev.some _
  · obtain ⟨v, q, hv, sv, q0, q1⟩ := j (if r = 1 then r == 1 else r == 2)
    refine ⟨v, q, Ev.succ ?_, sv, q0, q1⟩
    simp only [spec_l11Plain.f]
    refine Ev.bind hr (Ev.neg c0 (Ev.ite (fun c1 => ?_) (fun c1 => ?_)))
    · rwa [if_pos c1] at hv
    · rwa [if_neg c1] at hv
theorem plain_ev {s : List Int} (hs : Bs s) : ∀ (n : Nat), n ≤ 3 → ∀ p : Int, 0 ≤ p → p + 10000 * n ≤ 900000 → Drew (fun k => spec_l11Plain.f k s p (n : Int)) p (2 * 8 ^ n) := by
  intro n
  induction n with
  | zero =>
    intro hn p h0 h1
    exact plain_body hs 0 (by omega) p h0 h1 (fun h => by omega)
  | succ n ih =>
    intro hn p h0 h1
    exact plain_body hs (n + 1) hn p h0 h1 (fun _ => ih (by omega))
theorem value_body {s : List Int} (hs : Bs s) (n : Nat) (hn : n ≤ 3) (p : Int) (h0 : 0 ≤ p) (h1 : p + 10000 * n ≤ 800000) (ih : 1 < n → ∀ p : Int, 0 ≤ p → p + 10000 * ((n - 1 : Nat) : Int) ≤ 800000 → Drew (fun k => spec_l11Value.f k s p ((n - 1 : Nat) : Int)) p (4 * 8 ^ (n - 1))) : Drew (fun k => spec_l11Value.f k s p (n : Int)) p (4 * 8 ^ n) := by
  have hB : 1 ≤ 8 ^ n := Nat.pow_pos (by omega)
  have z : (⟨#[]⟩ : ByteArray).size ≤ 1048576 := Nat.le_of_ble_eq_true rfl
  obtain ⟨r, hr, r0, r1⟩ := pick_ev hs (p := p) (n := 8) h0 (by omega) (by omega) (by omega)
  obtain ⟨m, hm, m0, m1⟩ := pick_ev hs (p := p + 1) (n := 4) (by omega) (by omega) (by omega) (by omega)
  have pl : Drew (fun k => (spec_l11Plain.f k s (p + 1) (n : Int)).bind fun b => some (b.1, b.2.1, b.2.2.1, b.2.2.2.1, b.2.2.2.2)) p (4 * 8 ^ n) := by
    obtain ⟨v, q, hv, sv, q0, q1⟩ := plain_ev hs n hn (p + 1) (by omega) (by omega)
    exact ⟨v, q, Ev.bind hv (Ev.some _), sv, by omega, by omega⟩
  by_cases c0 : r = 0
  · refine Drew.mk (a := 0) (b := 0) (c := (⟨#[]⟩ : ByteArray)) (l := []) (q := p + 1) (Ev.succ ?_) z (by simp) (by simp) (by omega) (by omega)
    simp only [spec_l11Value.f]
    exact Ev.bind hr (Ev.pos c0 (Ev.some _))
  by_cases c1 : r = 1
  · refine Drew.mk (a := 5) (b := m) (c := (⟨#[]⟩ : ByteArray)) (l := []) (q := p + 1 + 1) (Ev.succ ?_) z (by simp) (by simp) (by omega) (by omega)
    simp only [spec_l11Value.f]
    exact Ev.bind hr (Ev.neg c0 (Ev.pos c1 (Ev.bind hm (Ev.some _))))
  by_cases c2 : r = 2
  · refine Drew.mk (a := 6) (b := m) (c := (⟨#[]⟩ : ByteArray)) (l := []) (q := p + 1 + 1) (Ev.succ ?_) z (by simp) (by simp) (by omega) (by omega)
    simp only [spec_l11Value.f]
    exact Ev.bind hr (Ev.neg c0 (Ev.neg c1 (Ev.pos c2 (Ev.bind hm (Ev.some _)))))
  by_cases c3 : r = 3
  · by_cases c4 : (n : Int) > 1
    · obtain ⟨m', rfl⟩ := Int.eq_ofNat_of_zero_le m0
      have e : 8 ^ n = 8 * 8 ^ (n - 1) := by
        obtain ⟨n', rfl⟩ : ∃ n', n = n' + 1 := ⟨n - 1, by omega⟩
        rw [Nat.pow_succ, Nat.mul_comm]; rfl
      have hq : 8 ^ (n - 1) ≤ 64 := Nat.pow_le_pow_right (n := 8) (by omega) (show n - 1 ≤ 2 by omega)
      have hm3 : (m' : Int) * ((4 * 8 ^ (n - 1) : Nat) : Int) ≤ 3 * ((4 * 8 ^ (n - 1) : Nat) : Int) := Int.mul_le_mul_of_nonneg_right (by omega) (by omega)
      have hpos : 1 ≤ 8 ^ (n - 1) := Nat.pow_pos (by omega)
      obtain ⟨vs, q, hvs, hl, hsm, q0, q1⟩ := growLoop (fun k m p acc => spec_l11Value.l0 k (n : Int) m s p 4 0 (⟨#[]⟩ : ByteArray) acc) (fun k p => spec_l11Value.f k s p (wrap64 ((n : Int) - 1))) 4 0 (⟨#[]⟩ : ByteArray) (4 * 8 ^ (n - 1)) (800000 - 10000 * ((n - 1 : Nat) : Int))
        (fun k p acc => by simp only [spec_l11Value.l0]; rw [if_neg (by omega)])
        (fun k m p acc hm ha => by
          simp only [spec_l11Value.l0]
          rw [if_pos (by omega), show wrap64 (((m + 1 : Nat) : Int) - 1) = (m : Int) by rw [wrap64_id (by omega) (by omega)]; omega]
          cases spec_l11Value.f k s p (wrap64 ((n : Int) - 1)) with
          | none => rfl
          | some b => simp only [Option.bind_some]; rw [if_pos (by omega)])
        (fun p' hp hp' => by
          rw [show wrap64 ((n : Int) - 1) = ((n - 1 : Nat) : Int) by rw [wrap64_id (by omega) (by omega)]; omega]
          exact ih (by omega) p' hp (by omega)) m' (p + 1 + 1) [] (by omega) (by omega) (by simp; omega) (by simp)
      refine Drew.mk (a := 4) (b := 0) (c := (⟨#[]⟩ : ByteArray)) (l := vs) (q := q) (Ev.succ ?_) z (by simp at hl; omega) hsm (by omega) (by omega)
      simp only [spec_l11Value.f]
      exact Ev.bind hr (Ev.neg c0 (Ev.neg c1 (Ev.neg c2 (Ev.pos c3 (Ev.pos c4 (Ev.bind hm hvs))))))
    · obtain ⟨v, q, hv, sv, q0, q1⟩ := pl
      refine ⟨v, q, Ev.succ ?_, sv, q0, q1⟩
      simp only [spec_l11Value.f]
      exact Ev.bind hr (Ev.neg c0 (Ev.neg c1 (Ev.neg c2 (Ev.pos c3 (Ev.neg c4 hv)))))
  · obtain ⟨v, q, hv, sv, q0, q1⟩ := pl
    refine ⟨v, q, Ev.succ ?_, sv, q0, q1⟩
    simp only [spec_l11Value.f]
    exact Ev.bind hr (Ev.neg c0 (Ev.neg c1 (Ev.neg c2 (Ev.neg c3 hv))))
theorem value_ev {s : List Int} (hs : Bs s) : ∀ (n : Nat), n ≤ 3 → ∀ p : Int, 0 ≤ p → p + 10000 * n ≤ 800000 → Drew (fun k => spec_l11Value.f k s p (n : Int)) p (4 * 8 ^ n) := by
  intro n
  induction n with
  | zero =>
    intro hn p h0 h1
    exact value_body hs 0 (by omega) p h0 h1 (fun h => by omega)
  | succ n ih =>
    intro hn p h0 h1
    exact value_body hs (n + 1) hn p h0 h1 (fun _ => ih (by omega))
theorem any_ev {s : List Int} (hs : Bs s) (p : Int) (h0 : 0 ≤ p) (h1 : p ≤ 600000) : Drew (fun k => spec_l11AnyValue.f k s p) p 10000 := by
  have z : (⟨#[]⟩ : ByteArray).size ≤ 1048576 := Nat.le_of_ble_eq_true rfl
  obtain ⟨v, q, hv, sv, q0, q1⟩ := value_ev hs 3 (by omega) p h0 (by omega)
  have e8 : 4 * 8 ^ 3 = 2048 := by decide
  rw [e8] at q1
  obtain ⟨v2, v3, v4⟩ := sv.all
  obtain ⟨r, hr, r0, r1⟩ := pick_ev hs (p := q) (n := 16) (by omega) (by omega) (by omega) (by omega)
  unfold spec_l11AnyValue.f
  by_cases c0 : r = 0
  · obtain ⟨m, hm, m0, m1⟩ := pick_ev hs (p := q + 1) (n := 9) (by omega) (by omega) (by omega) (by omega)
    exact Drew.mk (Ev.bind hv (Ev.bind hr (Ev.pos c0 (Ev.bind hm (Ev.some _))))) v2 v3 v4 (by omega) (by omega)
  by_cases c1 : r = 1
  · obtain ⟨m, hm⟩ := one_ev hs (p := q + 1) (by omega) (by omega) ([1000000001, (-1000000001), (-1)] : List Int) (by simp) (by simp)
    exact Drew.mk (Ev.bind hv (Ev.bind hr (Ev.neg c0 (Ev.pos c1 (Ev.bind hm (Ev.some _)))))) v2 v3 v4 (by omega) (by omega)
  by_cases c2 : r = 2
  · obtain ⟨t, ht, hts⟩ := many_ev' 17 (⟨#[117]⟩ : ByteArray) (by decide) (by omega)
    have e1 : (⟨#[117]⟩ : ByteArray).size = 1 := rfl
    obtain ⟨x, hx, hxs⟩ := of_ev hs (p := q + 1) (by omega) (by omega) ([(⟨#[39]⟩ : ByteArray), (⟨#[10]⟩ : ByteArray), t, (⟨#[120]⟩ : ByteArray)] : List ByteArray) (by simp) (by simp) (fun y hy => by
      simp only [List.mem_cons, List.mem_nil_iff, or_false] at hy
      rcases hy with rfl | rfl | rfl | rfl
      · exact Nat.le_of_ble_eq_true rfl
      · exact Nat.le_of_ble_eq_true rfl
      · omega
      · exact Nat.le_of_ble_eq_true rfl)
    exact Drew.mk (Ev.bind hv (Ev.bind hr (Ev.neg c0 (Ev.neg c1 (Ev.pos c2 (Ev.bind ht (Ev.bind hx (Ev.some _)))))))) hxs v3 v4 (by omega) (by omega)
  by_cases c3 : r = 3
  · refine Drew.mk (Ev.bind hv (Ev.bind hr (Ev.neg c0 (Ev.neg c1 (Ev.neg c2 (Ev.pos c3 (Ev.some _))))))) z (by simp) (fun x hx => ?_) (by omega) (by omega)
    rw [List.mem_singleton.1 hx]
    show Sm ⟨v.f0, v.f1, v.f2, v.f3⟩
    rw [← iv_eta]
    exact sv
  by_cases c4 : r = 4
  · obtain ⟨m, hm, m0, m1⟩ := pick_ev hs (p := q + 1) (n := 2) (by omega) (by omega) (by omega) (by omega)
    obtain ⟨m', hm'⟩ : ∃ m' : Nat, wrap64 (6 + m) = (m' : Int) ∧ m' ≤ 7 := ⟨(6 + m).toNat, by rw [wrap64_id (by omega) (by omega)]; omega, by omega⟩
    have hB : (m' : Int) * ((2 * 8 ^ 1 : Nat) : Int) ≤ 7 * ((2 * 8 ^ 1 : Nat) : Int) := Int.mul_le_mul_of_nonneg_right (by omega) (by omega)
    have e16 : ((2 * 8 ^ 1 : Nat) : Int) = 16 := by decide
    rw [e16] at hB
    obtain ⟨vs, q', hvs, hl, hsm, q2, q3⟩ := growLoop (fun k m p acc => spec_l11AnyValue.l0 k m s p 4 0 (⟨#[]⟩ : ByteArray) acc) (fun k p => spec_l11Plain.f k s p 1) 4 0 (⟨#[]⟩ : ByteArray) (2 * 8 ^ 1) 800000
      (fun k p acc => by simp only [spec_l11AnyValue.l0]; rw [if_neg (by omega)])
      (fun k m p acc hm ha => by
        simp only [spec_l11AnyValue.l0]
        rw [if_pos (by omega), show wrap64 (((m + 1 : Nat) : Int) - 1) = (m : Int) by rw [wrap64_id (by omega) (by omega)]; omega]
        cases spec_l11Plain.f k s p 1 with
        | none => rfl
        | some b => simp only [Option.bind_some]; rw [if_pos (by omega)])
      (fun p' hp hp' => plain_ev hs 1 (by omega) p' hp (by omega)) m' (q + 1 + 1) [] (by omega) (by rw [e16]; omega) (by simp; omega) (by simp)
    rw [e16] at q3
    refine Drew.mk (a := 4) (b := 0) (c := (⟨#[]⟩ : ByteArray)) (l := vs) (q := q') (Ev.bind hv (Ev.bind hr (Ev.neg c0 (Ev.neg c1 (Ev.neg c2 (Ev.neg c3 (Ev.pos c4 (Ev.bind hm ?_)))))))) z (by simp at hl; omega) hsm (by omega) (by omega)
    rw [hm'.1]
    exact hvs
  · exact Drew.mk (Ev.bind hv (Ev.bind hr (Ev.neg c0 (Ev.neg c1 (Ev.neg c2 (Ev.neg c3 (Ev.neg c4 (Ev.some _)))))))) v2 v3 v4 (by omega) (by omega)
theorem copy_ev {v : IV} (sm : Sm v) : Ev (fun k => spec_l1Copy.f k v.f0 v.f1 v.f2 v.f3) (v.f0, v.f1, v.f2, v.f3) := by
  induction sm with
  | @mk x h2 h3 h4 ih =>
    have loop : ∀ (d i : Nat), x.f3.length = i + d → Ev (fun k => spec_l1Copy.l0 k (i : Int) x.f0 x.f1 x.f2 x.f3 x.f0 x.f1 x.f2 (x.f3.take i)) (x.f0, x.f1, x.f2, x.f3) := by
      intro d
      induction d with
      | zero =>
        intro i hi
        refine Ev.succ ?_
        simp only [spec_l1Copy.l0]
        refine Ev.neg (by omega) (Ev.eq (Ev.some _) ?_)
        rw [List.take_of_length_le (by omega)]
      | succ d ihd =>
        intro i hi
        have hlt : i < x.f3.length := by omega
        refine Ev.succ ?_
        simp only [spec_l1Copy.l0, if_pos (show (i : Int) < (x.f3.length : Int) by omega), if_pos (show 0 ≤ (i : Int) by omega), rd_iv hlt, wrap64_succ hlt (show x.f3.length ≤ 9223372036854775807 by omega)]
        refine Ev.bind (ih x.f3[i] (List.getElem_mem hlt)) (Ev.pos (by rw [List.length_take]; omega) ?_)
        refine Ev.eq (r := (x.f0, x.f1, x.f2, x.f3)) ?_ rfl
        have : List.take i x.f3 ++ [x.f3[i]] = List.take (i + 1) x.f3 := by rw [List.take_succ_eq_append_getElem hlt]
        rw [← iv_eta, this]
        exact ihd (i + 1) (by omega)
    refine Ev.succ ?_
    simp only [spec_l1Copy.f]
    exact loop x.f3.length 0 (by omega)
/-- Two values drawn. -/
theorem drawSame_ev {l : List Int} (hb : ∀ x ∈ l, (Lit.int .u8 x).wf = true) : ∃ a b : IV, Ev (fun k => spec_DrawValueSame.f k l) (a.f0, a.f1, a.f2, a.f3, b.f0, b.f1, b.f2, b.f3) ∧ Sm a ∧ Sm b := by
  obtain ⟨s, hs, bs⟩ := open_ev hb
  obtain ⟨a, p, ha, sa, p0, p1⟩ := any_ev bs 0 (by omega) (by omega)
  obtain ⟨r, hr, r0, r1⟩ := pick_ev bs (p := p) (n := 3) (by omega) (by omega) (by omega) (by omega)
  unfold spec_DrawValueSame.f
  simp only [hs, Option.bind_some]
  by_cases c : r = 0
  · exact ⟨a, a, Ev.bind ha (Ev.bind hr (Ev.pos c (Ev.bind (copy_ev sa) (Ev.some _)))), sa, sa⟩
  · obtain ⟨b, q, hb, sb, q0, q1⟩ := any_ev bs (p + 1) (by omega) (by omega)
    exact ⟨a, b, Ev.bind ha (Ev.bind hr (Ev.neg c (Ev.bind hb (Ev.some _)))), sa, sb⟩
end Go.Proofs.Ytejikddbdhahaaa.Pur
