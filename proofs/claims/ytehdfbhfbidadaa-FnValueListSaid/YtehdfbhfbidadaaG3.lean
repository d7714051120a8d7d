/- Texts Dw1, Dw2, Dw3, Dw4, Dr0, Dw5, Dw6, Dw7, Dw8, Dw9, Dv1, Dv2, Dv3, Dv4, Dsp, De1, De2, Dg0, Dg1, Dg2, Dop, Dfind, Da1. -/
import Derived.Test.YtehdfbhfbidadaaG2
import Derived.Test.YtehdfbhfbidadaaVC
import Derived.Test.YtehdfbhfbidadaaG1
/- Draws: the reader of a code. -/
namespace Go.Proofs.Ytehdfbhfbidadaa.V
open Go
set_option linter.unusedVariables false
set_option linter.unusedSimpArgs false
set_option maxHeartbeats 16000000
def u8T (b : List UInt8) : List (List T) := b.map fun c => [.i .u8 (c.toNat : Int)]
def rdT (b : List UInt8) (p : Nat) : T := .bx [.imm (u8T b), .i .i64 (p : Int)]
theorem fin_two {P : Program} {s : St} {rs : List ResultVar} {args outs : List T} {r : T} {xs : List T} (h1 : resK P s rs = some xs) (h2 : rfP s (res1 xs) r) (h3 : taken s args (mats args 0).1 = some outs) (h4 : (rfN (res1 xs) r ++ takenN args (mats args 0).1).Nodup) : fin P rs args r outs .ret s :=
  fin_ret h1 (rfP_ok h2) h3 h4
theorem xor_pos {x y : Int} (hx : 0 ≤ x) (hx' : x < 2 ^ 60) (hy : 0 ≤ y) (hy' : y < 2 ^ 60) : 0 ≤ IntKind.i64.wrap ((BitVec.ofInt IntKind.i64.bits x ^^^ BitVec.ofInt IntKind.i64.bits y).toNat : Int) := by
  obtain ⟨a, rfl⟩ : ∃ a : Nat, x = a := ⟨x.toNat, by omega⟩
  obtain ⟨b, rfl⟩ : ∃ b : Nat, y = b := ⟨y.toNat, by omega⟩
  have e : ∀ c : Nat, (c : Int) < 2 ^ 60 → (BitVec.ofInt IntKind.i64.bits (c : Int)).toNat = c := by
    intro c hc
    simp [IntKind.bits]
    omega
  have hlt : a ^^^ b < 2 ^ 60 := Nat.xor_lt_two_pow (by omega) (by omega)
  rw [BitVec.toNat_xor, e a hx', e b hy']
  generalize a ^^^ b = c at *
  rw [wrap64 (by omega) (by omega)]
  omega
theorem tmod_lt {x n : Int} (hx : 0 ≤ x) (hn : 1 ≤ n) : 0 ≤ x.tmod n ∧ x.tmod n < n := by
  rw [Int.tmod_eq_emod_of_nonneg hx]
  exact ⟨Int.emod_nonneg _ (by omega), Int.emod_lt_of_pos _ (by omega)⟩
theorem wrap_u8 (c : UInt8) : IntKind.i64.wrap (c.toNat : Int) = (c.toNat : Int) := by
  have := c.toNat_lt
  exact wrap64 (by omega) (by omega)
set_option maxRecDepth 20000 in
theorem pick_c (b : List UInt8) (p : Nat) (hp : p ≤ 2 ^ 50) (hb : b.length ≤ 2 ^ 20) (n : Int) : ∃ k : Int, 0 ≤ k ∧ (1 ≤ n → k < n) ∧ Ret Try.prog 77 [rdT b p, .i .i64 n] (.i .i64 k) [rdT b (p + 1), .dead] := by
  have w1 : IntKind.i64.wrap ((p : Int) + 1) = (p : Int) + 1 := wrap64 (by omega) (by omega)
  have w2 : IntKind.i64.wrap (p : Int) = (p : Int) := wrap64 (by omega) (by omega)
  by_cases c1 : n < 1
  · refine ⟨0, by omega, fun h => by omega, ?_⟩
    refine via_spec_l1Rd_pick (by simp) ?_
    simp [pc_spec_l1Rd_pick, rdT, c1, w1]
    exact fin_two (by simp; rfl) (by simp) (by simp) (by simp)
  by_cases c2 : b.length = 0
  · refine ⟨0, by omega, fun h => by omega, ?_⟩
    obtain rfl : b = [] := List.length_eq_zero_iff.1 c2
    refine via_spec_l1Rd_pick (by simp) ?_
    simp [pc_spec_l1Rd_pick, rdT, c1, w1, u8T]
    exact fin_two (by simp; rfl) (by simp) (by simp) (by simp)
  have c2' : b ≠ [] := fun e => c2 (by simp [e])
  have hn0 : n ≠ 0 := by omega
  by_cases c3 : p < b.length
  · obtain ⟨c, hc⟩ : ∃ c, b[p]? = some c := ⟨_, List.getElem?_eq_getElem c3⟩
    have hk := tmod_lt (x := (c.toNat : Int)) (n := n) (by omega) (by omega)
    refine ⟨(c.toNat : Int).tmod n, hk.1, fun _ => hk.2, ?_⟩
    refine via_spec_l1Rd_pick (by simp) ?_
    simp [-getElem?_pos, pc_spec_l1Rd_pick, rdT, c1, c2, c2', c3, hc, w1, w2, u8T, wrap_u8]
    refine need_mk hn0 ?_
    exact fin_two (by simp; rfl) (by simp) (by simp) (by simp)
  · have hL : 0 < b.length := by omega
    obtain ⟨a1, h1⟩ : ∃ c, b[p % b.length]? = some c := ⟨_, List.getElem?_eq_getElem (Nat.mod_lt _ hL)⟩
    obtain ⟨a2, h2⟩ : ∃ c, b[(p * 7 + 3) % b.length]? = some c := ⟨_, List.getElem?_eq_getElem (Nat.mod_lt _ hL)⟩
    have hq : p / b.length ≤ p := Nat.div_le_self _ _
    have b1 := a1.toNat_lt
    have b2 := a2.toNat_lt
    have m1 : ((p : Int)).tmod (b.length : Int) = (p : Int) % (b.length : Int) := Int.tmod_eq_emod_of_nonneg (by omega)
    have m2 : ((p : Int) * 7 + 3).tmod (b.length : Int) = ((p : Int) * 7 + 3) % (b.length : Int) := Int.tmod_eq_emod_of_nonneg (by omega)
    have t1 : ((p : Int) % (b.length : Int)).toNat = p % b.length := by rw [← Int.natCast_emod]; rfl
    have t2 : (((p : Int) * 7 + 3) % (b.length : Int)).toNat = (p * 7 + 3) % b.length := by
      rw [show (p : Int) * 7 + 3 = ((p * 7 + 3 : Nat) : Int) by omega, ← Int.natCast_emod]; rfl
    have z1 : (0 : Int) ≤ (p : Int) % (b.length : Int) := Int.emod_nonneg _ (by omega)
    have z2 : (0 : Int) ≤ ((p : Int) * 7 + 3) % (b.length : Int) := Int.emod_nonneg _ (by omega)
    have w3 : IntKind.i64.wrap ((p : Int) * 7) = (p : Int) * 7 := wrap64 (by omega) (by omega)
    have w4 : IntKind.i64.wrap ((p : Int) * 7 + 3) = (p : Int) * 7 + 3 := wrap64 (by omega) (by omega)
    have w5 : IntKind.i64.wrap ((a1.toNat : Int) * 131) = (a1.toNat : Int) * 131 := wrap64 (by omega) (by omega)
    have w6 : IntKind.i64.wrap ((a2.toNat : Int) * 1117) = (a2.toNat : Int) * 1117 := wrap64 (by omega) (by omega)
    have w7 : IntKind.i64.wrap ((a1.toNat : Int) * 131 + (a2.toNat : Int) * 1117) = (a1.toNat : Int) * 131 + (a2.toNat : Int) * 1117 := wrap64 (by omega) (by omega)
    have w8 : IntKind.i64.wrap ((p : Int) * 29) = (p : Int) * 29 := wrap64 (by omega) (by omega)
    have hlz : (b.length : Int) ≠ 0 := by omega
    have hqe : (p : Int) / (b.length : Int) = ((p / b.length : Nat) : Int) := (Int.natCast_ediv _ _).symm
    have q0 : 0 ≤ (p : Int) / (b.length : Int) := Int.ediv_nonneg (by omega) (by omega)
    have q1 : (p : Int) / (b.length : Int) ≤ p := Int.ediv_le_self _ (by omega)
    clear hqe
    generalize hQ : (p : Int) / (b.length : Int) = q at *
    have w9 : IntKind.i64.wrap ((a1.toNat : Int) * 131 + (a2.toNat : Int) * 1117 + (p : Int) * 29) = (a1.toNat : Int) * 131 + (a2.toNat : Int) * 1117 + (p : Int) * 29 := wrap64 (by omega) (by omega)
    have w10 : IntKind.i64.wrap q = q := wrap64 (by omega) (by omega)
    have w11 : IntKind.i64.wrap (q * 53) = q * 53 := wrap64 (by omega) (by omega)
    have w12 : IntKind.i64.wrap ((a1.toNat : Int) * 131 + (a2.toNat : Int) * 1117 + (p : Int) * 29 + q * 53) = (a1.toNat : Int) * 131 + (a2.toNat : Int) * 1117 + (p : Int) * 29 + q * 53 := wrap64 (by omega) (by omega)
    obtain ⟨x, hx⟩ : ∃ x : Int, x = (a1.toNat : Int) * 131 + (a2.toNat : Int) * 1117 + (p : Int) * 29 + q * 53 := ⟨_, rfl⟩
    have x0 : 0 ≤ x := by omega
    have x1 : x < 2 ^ 60 := by omega
    rw [← hx] at w12
    have e13 : x / 64 ≤ x := by omega
    have e14 : x.tdiv 64 = x / 64 := Int.tdiv_eq_ediv_of_nonneg x0
    have w13 : IntKind.i64.wrap (x / 64) = x / 64 := wrap64 (by omega) (by omega)
    have hk := tmod_lt (x := IntKind.i64.wrap ((BitVec.ofInt IntKind.i64.bits x ^^^ BitVec.ofInt IntKind.i64.bits (x / 64)).toNat : Int)) (n := n) (xor_pos x0 x1 (by omega) (by omega)) (by omega)
    refine ⟨_, hk.1, fun _ => hk.2, ?_⟩
    have hX : ∀ r, r = (IntKind.i64.wrap (((x % 2 ^ IntKind.i64.bits).toNat ^^^ (IntKind.i64.wrap (x.tdiv 64) % 2 ^ IntKind.i64.bits).toNat : Nat) : Int)).tmod n → (IntKind.i64.wrap ((BitVec.ofInt IntKind.i64.bits x ^^^ BitVec.ofInt IntKind.i64.bits (x / 64)).toNat : Int)).tmod n = r := by
      intro r hr
      rw [hr, e14, w13, BitVec.toNat_xor, BitVec.toNat_ofInt, BitVec.toNat_ofInt]
      rfl
    rw [hX _ rfl]
    refine via_spec_l1Rd_pick (by simp) ?_
    simp [-getElem?_pos, pc_spec_l1Rd_pick, rdT, c1, c2, c2', c3, w1, w2, u8T, wrap_u8, m1, m2, t1, t2, z1, z2, w3, w4, w5, w6, w7, w8, w9, w10, w11, w12, h1, h2, hlz, hQ, ← hx]
    refine need_mk hn0 ?_
    exact fin_two (by simp; rfl) (by simp) (by simp) (by simp)
end Go.Proofs.Ytehdfbhfbidadaa.V
/- Draws: one of a list, one of some texts, the small values. -/
namespace Go.Proofs.Ytehdfbhfbidadaa.V
open Go
set_option linter.unusedVariables false
set_option linter.unusedSimpArgs false
set_option maxHeartbeats 16000000
set_option maxRecDepth 20000 in
theorem one_c (b : List UInt8) (p : Nat) (hp : p ≤ 2 ^ 50) (hb : b.length ≤ 2 ^ 20) (xs : List Int) (hx : xs ≠ []) : ∃ x ∈ xs, Ret Try.prog 138 [rdT b p, .imm (xs.map fun x => [.i .i64 x])] (.i .i64 x) [rdT b (p + 1), .dead] := by
  obtain ⟨k, k0, kn, h⟩ := pick_c b p hp hb (xs.length : Int)
  have kl := kn (by have := List.length_pos_iff.2 hx; omega)
  obtain ⟨j, rfl⟩ : ∃ j : Nat, k = j := ⟨k.toNat, by omega⟩
  have hj : j < xs.length := by omega
  refine ⟨xs[j], List.getElem_mem hj, ?_⟩
  refine via_spec_l1Rd_one (by simp) ?_
  simp [pc_spec_l1Rd_one, rdT]
  refine hookH_callX [0] [(0, .arr 2 [[.imm (u8T b), .i .i64 p]])] h (by simp [handedX, handedXA, handedXs, handedX1, T.closed, rdT]) (bk := [(0, .arr 2 [[.imm (u8T b), .i .i64 ((p + 1 : Nat) : Int)]])]) (by simp [backX, backXA, backXs, backX1, T.closed, rdT]) rfl rfl (by simp) (by simp [named]) (by simp [named]) ?_
  simp [dX, hj]
  exact fin_two (by simp; rfl) (by simp [hj]) (by simp) (by simp)
end Go.Proofs.Ytehdfbhfbidadaa.V
/- Draws: one of some texts, many of a text, a bool. -/
namespace Go.Proofs.Ytehdfbhfbidadaa.V
open Go
set_option linter.unusedVariables false
set_option linter.unusedSimpArgs false
set_option maxHeartbeats 16000000
set_option maxRecDepth 20000 in
theorem of_c (b : List UInt8) (p : Nat) (hp : p ≤ 2 ^ 50) (hb : b.length ≤ 2 ^ 20) (xs : List (List UInt8)) (hl : xs.length ≤ 2 ^ 20) (hx : xs ≠ []) : ∃ x ∈ xs, Ret Try.prog 79 [rdT b p, .imm (xs.map fun x => [.s x])] (.s x) [rdT b (p + 1), .dead] := by
  obtain ⟨k, k0, kn, h⟩ := pick_c b p hp hb (xs.length : Int)
  have kl := kn (by have := List.length_pos_iff.2 hx; omega)
  obtain ⟨j, rfl⟩ : ∃ j : Nat, k = j := ⟨k.toNat, by omega⟩
  have hj : j < xs.length := by omega
  refine ⟨xs[j], List.getElem_mem hj, ?_⟩
  refine via_spec_l1Rd_of (by simp) ?_
  simp [pc_spec_l1Rd_of, rdT]
  refine hookH_callX [0] [(0, .arr 2 [[.imm (u8T b), .i .i64 p]])] h (by simp [handedX, handedXA, handedXs, handedX1, T.closed, rdT]) (bk := [(0, .arr 2 [[.imm (u8T b), .i .i64 ((p + 1 : Nat) : Int)]])]) (by simp [backX, backXA, backXs, backX1, T.closed, rdT]) rfl rfl (by simp) (by simp [named]) (by simp [named]) ?_
  simp [dX, hj]
  exact fin_two (by simp; rfl) (by simp [hj]) (by simp) (by simp)
set_option maxRecDepth 20000 in
theorem lBool_c (x : Bool) : Rv Try.prog 121 [.b x] (.agg (sV.O (.mk 1 (if x then 1 else 0) [] []))) := by
  refine via_spec_l1Bool (by simp) ?_
  cases x
  · simp [pc_spec_l1Bool]
    exact fin_val (by simp; rfl) (by simp [sV, VO, VOs]) (by simp)
  · simp [pc_spec_l1Bool]
    exact fin_val (by simp; rfl) (by simp [sV, VO, VOs]) (by simp)
def manyF (m : Nat) (cur out : List UInt8) : List UInt8 :=
  if h : m = 0 then out else manyF (m / 2) (cur ++ cur) (if m % 2 = 1 then out ++ cur else out)
termination_by m
decreasing_by omega
theorem manyF_step {m : Nat} (h : m ≠ 0) (cur out : List UInt8) : manyF m cur out = manyF (m / 2) (cur ++ cur) (if m % 2 = 1 then out ++ cur else out) := by
  rw [manyF]; simp [h]
theorem manyF_zero (cur out : List UInt8) : manyF 0 cur out = out := by
  rw [manyF]; simp
theorem many_len {m c o : Nat} (h : m ≠ 0) : (if m % 2 = 1 then o + c else o) + (m / 2) * (c + c) = o + m * c := by
  have e : m * c = (m / 2) * (c + c) + (m % 2) * c := by
    have : m = 2 * (m / 2) + m % 2 := by omega
    conv => lhs; rw [this]
    generalize m / 2 = a; generalize m % 2 = d
    rw [Nat.add_mul, Nat.mul_add, Nat.mul_assoc]; omega
  rcases Nat.mod_two_eq_zero_or_one m with h0 | h0
  · simp [h0] at e ⊢; omega
  · simp [h0] at e ⊢; omega
theorem manyF_len : ∀ (m : Nat) (cur out : List UInt8), (manyF m cur out).length = out.length + m * cur.length := by
  intro m
  induction m using Nat.strongRecOn with
  | _ m ih =>
    intro cur out
    by_cases h : m = 0
    · subst h; rw [manyF_zero]; simp
    · rw [manyF_step h, ih (m / 2) (by omega)]
      have := many_len (c := cur.length) (o := out.length) h
      rw [List.length_append, ← this]
      split <;> simp
theorem many_c (s : List UInt8) (n : Nat) (hn : n * s.length ≤ 2 ^ 20) (hn2 : n ≤ 2 ^ 20) (hs : s ≠ []) : Rv Try.prog 142 [.s s, .i .i64 n] (.s (manyF n s [])) := by
  refine via_spec_l1Many (by simp) ?_
  simp [pc_spec_l1Many]
  refine W_wk (s' := ⟨[(0, .s s), (1, .i .i64 n), (5, .s [])], [], 0, 0⟩) (Wk.less rfl (by simp) (by simp) (by simp)) ?_
  refine W_while (m := n) (fun m st => ∃ cur out : List UInt8, manyF m cur out = manyF n s [] ∧ out.length + m * cur.length ≤ 2 ^ 20 ∧ m ≤ 2 ^ 20 ∧ cur ≠ [] ∧ st = ⟨[(0, .s cur), (1, .i .i64 m), (5, .s out)], [], 0, 0⟩) ⟨s, [], rfl, by simpa using hn, hn2, hs, rfl⟩ ?_
  rintro m st ⟨cur, out, h1, h2, h3, h4, rfl⟩
  by_cases hm : m = 0
  · subst hm
    rw [manyF_zero] at h1
    simp
    exact fin_val rfl (by simp [h1]) (by simp)
  · have hm' : 0 < m := by omega
    have hcl : cur.length ≤ m * cur.length := Nat.le_mul_of_pos_left _ hm'
    have e1 : (m : Int).tmod 2 = ((m % 2 : Nat) : Int) := by
      rw [Int.tmod_eq_emod_of_nonneg (by omega)]; omega
    have hq : IntKind.i64.wrap ((m : Int) / 2) = ((m / 2 : Nat) : Int) := by
      rw [wrap64 (by omega) (by omega)]; omega
    have hq2 : (m : Int).tdiv 2 = (m : Int) / 2 := Int.tdiv_eq_ediv_of_nonneg (by omega)
    have hl : out.length + cur.length ≤ 9223372036854775807 := by omega
    have hl2 : cur.length + cur.length ≤ 9223372036854775807 := by omega
    have hml := many_len (c := cur.length) (o := out.length) hm
    have hst := manyF_step hm cur out
    have hne : cur ++ cur ≠ [] := by simp [h4]
    rcases Nat.mod_two_eq_zero_or_one m with h0 | h0
    · rw [h0] at e1 hml hst
      simp at e1
      simp at hml hst
      simp [hm', e1, hq, hq2, hl, hl2, h0]
      refine ⟨_, Wk.to (s' := ⟨[(0, .s (cur ++ cur)), (1, .i .i64 ((m / 2 : Nat) : Int)), (5, .s out)], [], 0, 0⟩) rfl (by simp) (by simp) (by simp) (by simp), m / 2, by omega, cur ++ cur, out, by rw [← hst, h1], by simp; omega, by omega, hne, rfl⟩
    · rw [h0] at e1 hml hst
      simp at e1
      simp at hml hst
      simp [hm', e1, hq, hq2, hl, hl2, h0]
      refine ⟨_, Wk.to (s' := ⟨[(0, .s (cur ++ cur)), (1, .i .i64 ((m / 2 : Nat) : Int)), (5, .s (out ++ cur))], [], 0, 0⟩) rfl (by simp) (by simp) (by simp) (by simp), m / 2, by omega, cur ++ cur, out ++ cur, by rw [← hst, h1], by simp; omega, by omega, hne, rfl⟩
end Go.Proofs.Ytehdfbhfbidadaa.V
/- Draws: plain values. -/
namespace Go.Proofs.Ytehdfbhfbidadaa.V
open Go
set_option linter.unusedVariables false
set_option linter.unusedSimpArgs false
set_option maxHeartbeats 16000000
theorem draws {α : Type} {R : Nat → α → Nat → Prop} {C B : Nat} (h : ∀ p, p + C ≤ B → ∃ v p', p ≤ p' ∧ p' ≤ p + C ∧ R p v p') : ∀ n p, p + n * C ≤ B → ∃ (l : List α) (q : Nat → Nat), l.length = n ∧ q 0 = p ∧ (∀ i, i ≤ n → p ≤ q i ∧ q i ≤ p + i * C) ∧ ∀ i v, l[i]? = some v → R (q i) v (q (i + 1)) := by
  intro n
  induction n with
  | zero => intro p _; exact ⟨[], fun _ => p, rfl, rfl, fun i hi => ⟨Nat.le_refl _, Nat.le_add_right _ _⟩, by simp⟩
  | succ n ih =>
    intro p hp
    rw [Nat.succ_mul] at hp
    obtain ⟨v, p', h1, h2, h3⟩ := h p (by omega)
    obtain ⟨l, q, q1, q2, q3, q4⟩ := ih p' (by omega)
    refine ⟨v :: l, fun i => if i = 0 then p else q (i - 1), by simp [q1], by simp, ?_, ?_⟩
    · intro i hi
      rcases i with _ | i
      · simp
      · have := q3 i (by omega)
        simp
        rw [Nat.succ_mul]
        omega
    · intro i w hw
      rcases i with _ | i
      · simp at hw
        subst hw
        simpa [q2] using h3
      · simp at hw
        simpa using q4 i w hw
end Go.Proofs.Ytehdfbhfbidadaa.V
/- Draws: calls with a reader. -/
namespace Go.Proofs.Ytehdfbhfbidadaa.V
open Go
set_option linter.unusedVariables false
set_option linter.unusedSimpArgs false
set_option maxHeartbeats 16000000
def rdB (b : List UInt8) (p : Nat) : Blk := .arr 2 [[.imm (u8T b), .i .i64 (p : Int)]]
theorem im_closed {s : St} {t : T} (h : t.im = true) : argI s t = some t ∧ t.names = [] := by
  cases t <;> simp [T.im] at h <;> simp
theorem handedX_im {s : St} : ∀ {args : List T} {j : Nat}, args.all T.im = true → handedX s [0] (j + 1) args = some args
  | [], j, h => rfl
  | a :: ys, j, h => by
    simp only [List.all_cons, Bool.and_eq_true] at h
    have h1 := handedX_im (s := s) (j := j + 1) h.2
    simp [handedX, (im_closed (s := s) h.1).1, h1]
theorem named_im {bb : Bool} : ∀ {args : List T} {j : Nat}, args.all T.im = true → named [0] bb (j + 1) args = []
  | [], j, h => rfl
  | a :: ys, j, h => by
    simp only [List.all_cons, Bool.and_eq_true] at h
    have h1 := named_im (bb := bb) (j := j + 1) h.2
    simp [named, (im_closed (s := ⟨[], [], 0, 0⟩) h.1).2, h1]
theorem backX_im : ∀ {args xs outs : List T} {j : Nat}, xs.length = args.length → outs.length = args.length → backX [0] (j + 1) args xs outs = some []
  | [], [], [], j, _, _ => rfl
  | a :: ys, x :: xs, o :: os, j, h1, h2 => by
    have := backX_im (args := ys) (xs := xs) (outs := os) (j := j + 1) (by simpa using h1) (by simpa using h2)
    simp [backX, this]
  | [], _ :: _, _, j, h1, h2 => by simp at h1
  | _ :: _, [], _, j, h1, h2 => by simp at h1
  | [], [], _ :: _, j, h1, h2 => by simp at h2
  | _ :: _, _ :: _, [], j, h1, h2 => by simp at h2
theorem hookH_rd {P : Program} {s : St} {n t f : Nat} {c : Call} {args outs : List T} {b : List UInt8} {p p' : Nat} {r : T} {K : T → Δ → List Nat → Prop} (h : Ret P f (rdT b p :: args) r (rdT b p' :: outs)) (hc : c.callee = .value (.func f)) (hok : okCall P f = true)
    (hg : hget s.hp t = some (.arr 2 [[.imm (u8T b), .i .i64 (p : Int)]])) (hx : args.all T.im = true) (ho : outs.length = args.length) (hK : K (mat r n).1 ((t, none) :: (t, some (.arr 2 [[.imm (u8T b), .i .i64 (p' : Int)]])) :: news (mat r n).2) [t]) : @hookH P s n ⟨.call c⟩ (.fn f [] :: .ptr t 0 0 :: args) ⟨K⟩ := by
  refine hookH_callX [0] [(t, .arr 2 [[.imm (u8T b), .i .i64 (p : Int)]])] (xs := rdT b p :: args) h ?_ (bk := [(t, .arr 2 [[.imm (u8T b), .i .i64 (p' : Int)]])]) ?_ hc hok (by simp [hg]) ?_ ?_ ?_
  · simp [handedX, handedXA, handedX1, handed1, T.closed, rdT, handedX_im hx]
  · have := backX_im (args := args) (xs := args) (outs := outs) (j := 0) rfl ho
    simp [backX, backXA, backX1, back1, T.closed, rdT, this]
  · simp [named, named_im hx]
  · simp [named, named_im hx]
  · simpa [dX, named, named_im hx] using hK
/-- The same, with a list of words or numbers that is made for it. -/
theorem hookH_rdl {P : Program} {s : St} {n t t2 m f : Nat} {c : Call} {o : T} {rows : List (List T)} {b : List UInt8} {p p' : Nat} {r : T} {K : T → Δ → List Nat → Prop} (h : Ret P f [rdT b p, .imm rows] r [rdT b p', o]) (hc : c.callee = .value (.func f)) (hok : okCall P f = true)
    (hg : hget s.hp t = some (.arr 2 [[.imm (u8T b), .i .i64 (p : Int)]])) (hg2 : hget s.hp t2 = some (.arr 1 rows)) (hne : t ≠ t2) (hm : m = rows.length) (hcl : cleanR rows = true) (hI : toIr rows = rows) (hK : K (mat r n).1 ((t, none) :: (t2, none) :: (t, some (.arr 2 [[.imm (u8T b), .i .i64 (p' : Int)]])) :: news (mat r n).2) [t, t2]) : @hookH P s n ⟨.call c⟩ [.fn f [], .ptr t 0 0, .ref t2 0 m] ⟨K⟩ := by
  subst hm
  refine hookH_callX [0] [(t, .arr 2 [[.imm (u8T b), .i .i64 (p : Int)]]), (t2, .arr 1 rows)] (xs := [rdT b p, .imm rows]) h ?_ (bk := [(t, .arr 2 [[.imm (u8T b), .i .i64 (p' : Int)]])]) ?_ hc hok (by simp [hg, hg2]) ?_ ?_ ?_
  · simp [handedX, handedXA, handedX1, handed1, T.closed, rdT, hne, hcl, hI]
  · simp [backX, backXA, backX1, back1, T.closed, rdT]
  · simp [named]
  · simp [named, Ne.symm hne]
  · simpa [dX, named] using hK
theorem toIr_s (xs : List Tx) : toIr (xs.map fun x => [T.s x]) = xs.map fun x => [T.s x] := sS.rO xs
theorem toIr_i (xs : List Int) : toIr (xs.map fun x => [T.i .i64 x]) = xs.map fun x => [T.i .i64 x] := sI.rO xs
/-- What a draw comes to. -/
def Drw (f : Nat) (b : List UInt8) (args : List T) (C p : Nat) (ok : T → Prop) : Prop := ∃ r p', p ≤ p' ∧ p' ≤ p + C ∧ ok r ∧ Ret Try.prog f (rdT b p :: args) r (rdT b p' :: args.map fun _ => .dead)
theorem pick_d (b : List UInt8) (hb : b.length ≤ 2 ^ 20) (p : Nat) (hp : p ≤ 2 ^ 50) (n : Int) (hn : 1 ≤ n) : ∃ (k p' : Nat), p ≤ p' ∧ p' ≤ p + 1 ∧ (k : Int) < n ∧ Ret Try.prog 77 [rdT b p, .i .i64 n] (.i .i64 k) [rdT b p', .dead] := by
  obtain ⟨k, k0, k1, h⟩ := pick_c b p hp hb n
  obtain ⟨m, rfl⟩ : ∃ m : Nat, k = m := ⟨k.toNat, by omega⟩
  exact ⟨m, p + 1, by omega, by omega, k1 hn, h⟩
theorem one_d (b : List UInt8) (hb : b.length ≤ 2 ^ 20) (p : Nat) (hp : p ≤ 2 ^ 50) (xs : List Int) (hx : xs ≠ []) : ∃ (x : Int) (p' : Nat), p ≤ p' ∧ p' ≤ p + 1 ∧ x ∈ xs ∧ Ret Try.prog 138 [rdT b p, .imm (xs.map fun x => [.i .i64 x])] (.i .i64 x) [rdT b p', .dead] := by
  obtain ⟨x, h1, h⟩ := one_c b p hp hb xs hx
  exact ⟨x, p + 1, by omega, by omega, h1, h⟩
theorem of_d (b : List UInt8) (hb : b.length ≤ 2 ^ 20) (p : Nat) (hp : p ≤ 2 ^ 50) (xs : List Tx) (hl : xs.length ≤ 2 ^ 20) (hx : xs ≠ []) : ∃ (x : Tx) (p' : Nat), p ≤ p' ∧ p' ≤ p + 1 ∧ x ∈ xs ∧ Ret Try.prog 79 [rdT b p, .imm (xs.map fun x => [.s x])] (.s x) [rdT b p', .dead] := by
  obtain ⟨x, h1, h⟩ := of_c b p hp hb xs hl hx
  exact ⟨x, p + 1, by omega, by omega, h1, h⟩
end Go.Proofs.Ytehdfbhfbidadaa.V
/- Draws: plain values (first branch). -/
namespace Go.Proofs.Ytehdfbhfbidadaa.V
open Go
set_option linter.unusedVariables false
set_option linter.unusedSimpArgs false
set_option maxHeartbeats 16000000
def PlainR (b : List UInt8) (d : Nat) (p : Nat) (v : Vl) (p' : Nat) : Prop := v.fit ∧ v.cnt ≤ 16 * 4 ^ d ∧ Ret Try.prog 143 [rdT b p, .i .i64 d] (.agg (sV.O v)) [rdT b p', .dead]
set_option maxRecDepth 20000 in
theorem plain_0 (b : List UInt8) (hb : b.length ≤ 2 ^ 20) (d p : Nat) (hp : p + 4 ≤ 2 ^ 50) (h : Ret Try.prog 77 [rdT b p, .i .i64 6] (.i .i64 0) [rdT b (p + 1), .dead]) : ∃ v p', p ≤ p' ∧ p' ≤ p + 4 ∧ PlainR b d p v p' := by
  obtain ⟨k, k0, k1, h2⟩ := pick_c b (p + 1) (by omega) hb 2
  refine ⟨.mk 1 (if k = 0 then 1 else 0) [] [], p + 2, by omega, by omega, ?_, ?_, ?_⟩
  · rw [Vl.fit_mk]; refine ⟨by simp [i64], ?_, by simp [ln], by simp [ln], by simp⟩; split <;> simp [i64]
  · simp [Vl.cnt_mk, cl, sums]
  refine via_spec_l11Plain (by simp) ?_
  simp [pc_spec_l11Plain, rdT]
  refine hookH_callX [0] [(0, .arr 2 [[.imm (u8T b), .i .i64 p]])] h (by simp [handedX, handedXA, handedXs, handedX1, T.closed, rdT]) (bk := [(0, .arr 2 [[.imm (u8T b), .i .i64 ((p + 1 : Nat) : Int)]])]) (by simp [backX, backXA, backXs, backX1, T.closed, rdT]) rfl rfl (by simp) (by simp [named]) (by simp [named]) ?_
  simp [dX]
  refine hookH_callX [0] [(0, .arr 2 [[.imm (u8T b), .i .i64 ((p + 1 : Nat) : Int)]])] h2 (by simp [handedX, handedXA, handedXs, handedX1, T.closed, rdT]) (bk := [(0, .arr 2 [[.imm (u8T b), .i .i64 ((p + 1 + 1 : Nat) : Int)]])]) (by simp [backX, backXA, backXs, backX1, T.closed, rdT]) rfl rfl (by simp) (by simp [named]) (by simp [named]) ?_
  simp [dX]
  refine callK_val (by simp) (lBool_c (decide (k = 0))) (by simp [sV, VO, VOs, T.noImm]) ?_
  have e : (p : Int) + 1 + 1 = (p : Int) + 2 := by omega
  simp [sV, VO, VOs, dX, named, e]
  exact fin_ret (by simp; rfl) (rfP_ok (by simp)) (by simp) (by simp)
end Go.Proofs.Ytehdfbhfbidadaa.V
/- Draws: plain values, numbers. -/
namespace Go.Proofs.Ytehdfbhfbidadaa.V
open Go
set_option linter.unusedVariables false
set_option linter.unusedSimpArgs false
set_option maxHeartbeats 16000000
set_option maxRecDepth 20000 in
theorem plain_n (b : List UInt8) (hb : b.length ≤ 2 ^ 20) (d p : Nat) (hp : p + 4 ≤ 2 ^ 50) (k : Int) (hk : 4 ≤ k) (h : Ret Try.prog 77 [rdT b p, .i .i64 6] (.i .i64 k) [rdT b (p + 1), .dead]) : ∃ v p', p ≤ p' ∧ p' ≤ p + 4 ∧ PlainR b d p v p' := by
  obtain ⟨x, hx, h2⟩ := one_c b (p + 1) (by omega) hb [0, 1, 2, 3, -1, 7, 1000000000] (by simp)
  have hx1 : -1 ≤ x ∧ x ≤ 1000000000 := by
    simp at hx
    omega
  refine ⟨.mk 2 x [] [], p + 2, by omega, by omega, ?_, ?_, ?_⟩
  · rw [Vl.fit_mk]; refine ⟨by simp [i64], by simp [i64]; omega, by simp [ln], by simp [ln], by simp⟩
  · simp [Vl.cnt_mk, cl, sums]
  have c0 : ¬ k = 0 := by omega
  have c1 : ¬ k = 1 := by omega
  have c2 : ¬ k = 2 := by omega
  have c3 : ¬ k = 3 := by omega
  refine via_spec_l11Plain (by simp) ?_
  simp [pc_spec_l11Plain, rdT]
  refine hookH_callX [0] [(0, .arr 2 [[.imm (u8T b), .i .i64 p]])] h (by simp [handedX, handedXA, handedXs, handedX1, T.closed, rdT]) (bk := [(0, .arr 2 [[.imm (u8T b), .i .i64 ((p + 1 : Nat) : Int)]])]) (by simp [backX, backXA, backXs, backX1, T.closed, rdT]) rfl rfl (by simp) (by simp [named]) (by simp [named]) ?_
  simp [dX, c0, c1, c2, c3]
  refine hookH_callX [0] [(0, .arr 2 [[.imm (u8T b), .i .i64 ((p + 1 : Nat) : Int)]]), (4, .arr 1 ([0, 1, 2, 3, -1, 7, 1000000000].map fun x => [.i .i64 x]))] h2 (by simp [handedX, handedXA, handedXs, handedX1, T.closed, rdT]) (bk := [(0, .arr 2 [[.imm (u8T b), .i .i64 ((p + 1 + 1 : Nat) : Int)]])]) (by simp [backX, backXA, backXs, backX1, T.closed, rdT]) rfl rfl (by simp [dX, named]) (by simp [named]) (by simp [named]) ?_
  have e : (p : Int) + 1 + 1 = (p : Int) + 2 := by omega
  simp [sV, VO, VOs, dX, named, e]
  exact fin_ret (by simp; rfl) (rfP_ok (by simp)) (by simp) (by simp)
end Go.Proofs.Ytehdfbhfbidadaa.V
/- Draws: plain values, texts. -/
namespace Go.Proofs.Ytehdfbhfbidadaa.V
open Go
set_option linter.unusedVariables false
set_option linter.unusedSimpArgs false
set_option maxHeartbeats 16000000
set_option maxRecDepth 20000 in
theorem plain_t (b : List UInt8) (hb : b.length ≤ 2 ^ 20) (d p : Nat) (hp : p + 4 ≤ 2 ^ 50) (k : Int) (hk : k = 1 ∨ k = 2) (h : Ret Try.prog 77 [rdT b p, .i .i64 6] (.i .i64 k) [rdT b (p + 1), .dead]) : ∃ v p', p ≤ p' ∧ p' ≤ p + 4 ∧ PlainR b d p v p' := by
  have hm := many_c [116] 16 (by simp) (by simp) (by simp)
  have hml := manyF_len 16 [116] []
  generalize manyF 16 [116] [] = tt at hm hml
  obtain ⟨x, hx, h2⟩ := of_c b (p + 1) (by omega) hb [[], [97], [98], [116, 119, 111, 32, 119, 111, 114, 100, 115], tt] (by simp) (by simp)
  have hx1 : x.length ≤ 16 := by
    simp at hx hml
    rcases hx with rfl | rfl | rfl | rfl | rfl <;> first | omega | simp
  have hc : x.length ≤ 16 * 4 ^ d := by
    have : 0 < 4 ^ d := Nat.pow_pos (by omega)
    omega
  refine ⟨.mk 3 0 x [], p + 2, by omega, by omega, ?_, ?_, ?_⟩
  · rw [Vl.fit_mk]; refine ⟨by simp [i64], by simp [i64], by simp [ln]; omega, by simp [ln], by simp⟩
  · simpa [Vl.cnt_mk, cl, sums] using hc
  have e : (p : Int) + 1 + 1 = (p : Int) + 2 := by omega
  refine via_spec_l11Plain (by simp) ?_
  simp [pc_spec_l11Plain, rdT]
  refine hookH_callX [0] [(0, .arr 2 [[.imm (u8T b), .i .i64 p]])] h (by simp [handedX, handedXA, handedXs, handedX1, T.closed, rdT]) (bk := [(0, .arr 2 [[.imm (u8T b), .i .i64 ((p + 1 : Nat) : Int)]])]) (by simp [backX, backXA, backXs, backX1, T.closed, rdT]) rfl rfl (by simp) (by simp [named]) (by simp [named]) ?_
  rcases hk with rfl | rfl
  all_goals
    simp [dX]
    refine callK_val (by simp) hm (by simp [T.noImm]) ?_
    simp [dX]
    refine hookH_callX [0] [(0, .arr 2 [[.imm (u8T b), .i .i64 ((p + 1 : Nat) : Int)]]), (4, .arr 1 ([[], [97], [98], [116, 119, 111, 32, 119, 111, 114, 100, 115], tt].map fun x => [.s x]))] h2 (by simp [handedX, handedXA, handedXs, handedX1, T.closed, rdT]) (bk := [(0, .arr 2 [[.imm (u8T b), .i .i64 ((p + 1 + 1 : Nat) : Int)]])]) (by simp [backX, backXA, backXs, backX1, T.closed, rdT]) rfl rfl (by simp [dX, named]) (by simp [named]) (by simp [named]) ?_
    simp [sV, VO, VOs, dX, named, e]
    exact fin_ret (by simp; rfl) (rfP_ok (by simp)) (by simp) (by simp)
end Go.Proofs.Ytehdfbhfbidadaa.V
/- Draws: plain values, numbers where no list may lie. -/
namespace Go.Proofs.Ytehdfbhfbidadaa.V
open Go
set_option linter.unusedVariables false
set_option linter.unusedSimpArgs false
set_option maxHeartbeats 16000000
set_option maxRecDepth 20000 in
theorem plain_s (b : List UInt8) (hb : b.length ≤ 2 ^ 20) (d p : Nat) (hp : p + 4 ≤ 2 ^ 50) (hd : d ≤ 1) (h : Ret Try.prog 77 [rdT b p, .i .i64 6] (.i .i64 3) [rdT b (p + 1), .dead]) : ∃ v p', p ≤ p' ∧ p' ≤ p + 4 ∧ PlainR b d p v p' := by
  obtain ⟨x, hx, h2⟩ := one_c b (p + 1) (by omega) hb [0, 1, 2, 3, -1, 7, 1000000000] (by simp)
  have hx1 : -1 ≤ x ∧ x ≤ 1000000000 := by
    simp at hx
    omega
  refine ⟨.mk 2 x [] [], p + 2, by omega, by omega, ?_, ?_, ?_⟩
  · rw [Vl.fit_mk]; refine ⟨by simp [i64], by simp [i64]; omega, by simp [ln], by simp [ln], by simp⟩
  · simp [Vl.cnt_mk, cl, sums]
  have cd : ¬ 1 < d := by omega
  have cd' : ¬ (1 : Int) < (d : Int) := by omega
  refine via_spec_l11Plain (by simp) ?_
  simp [pc_spec_l11Plain, rdT]
  refine hookH_callX [0] [(0, .arr 2 [[.imm (u8T b), .i .i64 p]])] h (by simp [handedX, handedXA, handedXs, handedX1, T.closed, rdT]) (bk := [(0, .arr 2 [[.imm (u8T b), .i .i64 ((p + 1 : Nat) : Int)]])]) (by simp [backX, backXA, backXs, backX1, T.closed, rdT]) rfl rfl (by simp) (by simp [named]) (by simp [named]) ?_
  simp [dX, cd, cd']
  refine hookH_callX [0] [(0, .arr 2 [[.imm (u8T b), .i .i64 ((p + 1 : Nat) : Int)]]), (4, .arr 1 ([0, 1, 2, 3, -1, 7, 1000000000].map fun x => [.i .i64 x]))] h2 (by simp [handedX, handedXA, handedXs, handedX1, T.closed, rdT]) (bk := [(0, .arr 2 [[.imm (u8T b), .i .i64 ((p + 1 + 1 : Nat) : Int)]])]) (by simp [backX, backXA, backXs, backX1, T.closed, rdT]) rfl rfl (by simp [dX, named]) (by simp [named]) (by simp [named]) ?_
  have e : (p : Int) + 1 + 1 = (p : Int) + 2 := by omega
  simp [sV, VO, VOs, dX, named, e]
  exact fin_ret (by simp; rfl) (rfP_ok (by simp)) (by simp) (by simp)
end Go.Proofs.Ytehdfbhfbidadaa.V
/- Draws: plain values, lists. -/
namespace Go.Proofs.Ytehdfbhfbidadaa.V
open Go
set_option linter.unusedVariables false
set_option linter.unusedSimpArgs false
set_option maxHeartbeats 16000000
theorem pow4 (d : Nat) : 4 ^ (d + 1) = 4 * 4 ^ d ∧ 1 ≤ 4 ^ d := ⟨by rw [Nat.pow_succ]; omega, Nat.pow_pos (by omega)⟩
theorem sums_bound {α : Type} {c : α → Nat} {B : Nat} {l : List α} (h : ∀ x ∈ l, c x ≤ B) : sums c l ≤ l.length * B := by
  induction l with
  | nil => simp [sums]
  | cons x l ih =>
    have h1 := h x (by simp)
    have h2 := ih (fun y hy => h y (by simp [hy]))
    simp only [sums, List.map_cons, List.sum_cons, List.length_cons, Nat.succ_mul] at h2 ⊢
    omega
theorem list_val {R : Vl → Prop} {B : Nat} {l : List Vl} (hl : l.length ≤ 7) (h1 : ∀ v ∈ l, v.fit) (h2 : ∀ v ∈ l, v.cnt ≤ B) : (Vl.mk 4 0 [] l).fit ∧ (Vl.mk 4 0 [] l).cnt ≤ l.length + l.length * B := by
  constructor
  · rw [Vl.fit_mk]; exact ⟨by simp [i64], by simp [i64], by simp [ln], by simp only [ln]; omega, h1⟩
  · have := sums_bound h2
    simp only [Vl.cnt_mk, cl, List.length_nil]; omega
set_option maxRecDepth 20000 in
theorem plain_l (b : List UInt8) (hb : b.length ≤ 2 ^ 20) (d p : Nat) (hd : d ≤ 8) (hp : p + 4 * 4 ^ (d + 2) ≤ 2 ^ 50) (ih : ∀ p, p + 4 ^ (d + 2) ≤ 2 ^ 50 → ∃ v p', p ≤ p' ∧ p' ≤ p + 4 ^ (d + 2) ∧ PlainR b (d + 1) p v p') (p1 : Nat) (hp1 : p ≤ p1 ∧ p1 ≤ p + 1) (h : Ret Try.prog 77 [rdT b p, .i .i64 6] (.i .i64 3) [rdT b p1, .dead]) : ∃ v p', p ≤ p' ∧ p' ≤ p + 4 ^ (d + 3) ∧ PlainR b (d + 2) p v p' := by
  have e4 : 4 ^ (d + 3) = 4 * 4 ^ (d + 2) := (pow4 (d + 2)).1
  have e5 : 4 ^ (d + 2) = 4 * 4 ^ (d + 1) := (pow4 (d + 1)).1
  have h5 := (pow4 (d + 1)).2
  obtain ⟨k, p2, k0, k1, k2, h2⟩ := pick_d b hb p1 (by omega) 4 (by omega)
  have hn : k ≤ 3 := by omega
  have hn' : k * 4 ^ (d + 2) ≤ 3 * 4 ^ (d + 2) := Nat.mul_le_mul_right _ hn
  obtain ⟨l, q, q1, q2, q3, q4⟩ := draws (B := 2 ^ 50) ih k p2 (by omega)
  have hq := q3 k (by omega)
  have hv := list_val (R := fun _ => True) (l := l) (B := 16 * 4 ^ (d + 1)) (by omega) (fun v hv => by obtain ⟨i, hi⟩ := List.mem_iff_getElem?.1 hv; exact (q4 i v hi).1) (fun v hv => by obtain ⟨i, hi⟩ := List.mem_iff_getElem?.1 hv; exact (q4 i v hi).2.1)
  have hkk : k * (16 * 4 ^ (d + 1)) ≤ 3 * (16 * 4 ^ (d + 1)) := Nat.mul_le_mul_right _ hn
  refine ⟨.mk 4 0 [] l, q k, by omega, by omega, hv.1, by have := hv.2; rw [q1] at this; omega, ?_⟩
  refine via_spec_l11Plain (by simp) ?_
  simp [pc_spec_l11Plain, rdT]
  refine hookH_rd h rfl rfl (by simp) (by simp [T.im]) rfl ?_
  have cd' : (1 : Int) < (d : Int) + 2 := by omega
  simp [cd']
  refine hookH_rd h2 rfl rfl (by simp) (by simp [T.im]) rfl ?_
  simp
  have hcO : ∀ i, cleanR ((l.map sV.O).take i) = true := by intro i; rw [← List.map_take]; exact sV.crO _
  refine W_for (fun i => ⟨[(6, .i .i64 ((k : Int) - i)), (5, .ptr 4 0 0), (4, .ptr 1 0 0), (1, .i .i64 ((d : Int) + 2)), (0, .ptr 0 0 0)], [(0, .arr 2 [[.imm (u8T b), .i .i64 (q i)]]), (1, .arr 4 [[.i .i64 0, .i .i64 0, .s [], .nl]]), (4, .arr 4 [[.i .i64 4, .i .i64 0, .s [], .own 4 ((l.map sV.O).take i)]])], 20, 1⟩) k (fun i => True) ?_ trivial ?_
  · refine Wk.trans (Wk.join (b := 4) (r := 0) (cs := [.i .i64 4, .i .i64 0, .s [], .own 4 []]) rfl rfl (by simp) (by simp)) ?_
    exact Wk.to rfl (by simp) (by simp) (by simp [q2, Blk.names]) (by simp)
  intro i hi _
  rcases Nat.lt_or_ge i k with h1 | h1
  · obtain ⟨x, hx⟩ : ∃ x, l[i]? = some x := ⟨_, List.getElem?_eq_getElem (by omega)⟩
    have hr := (q4 i x hx).2.2
    have c1 : (0 : Int) < (k : Int) - i := by omega
    have w1 : IntKind.i64.wrap ((d : Int) + 2 - 1) = (d : Int) + 1 := by rw [wrap64 (by omega) (by omega)]; omega
    have w2 : IntKind.i64.wrap ((k : Int) - i - 1) = (k : Int) - ((i + 1 : Nat) : Int) := by rw [wrap64 (by omega) (by omega)]; omega
    have hA : (List.take i (l.map sV.O)).length = i := by simp; omega
    have hnew := fill_new sV.O hx
    have hcA := hcO i
    have htt : List.take i (List.take i (l.map sV.O)) = List.take i (l.map sV.O) := by rw [List.take_take]; simp
    have hbig : (i + 1) * 56 ≤ 35184372088832 := by omega
    have hmin : min i l.length = i := by omega
    rw [show ((d + 1 : Nat) : Int) = (d : Int) + 1 by omega] at hr
    obtain ⟨k', n', s', l'⟩ := x
    simp [h1, w1, hmin]
    refine hookH_rd hr rfl rfl (by simp) (by simp [T.im]) rfl ?_
    simp [h1, w1, w2, hmin, htt, hbig]
    generalize List.take i (l.map sV.O) = A at *
    have hg := app1_get hA
    have hs := app1_set hA
    repeat with_reducible refine need_mk (by decide +kernel) ?_
    refine Wk.trans (Wk.join (b := 76) (r := i) (cs := sV.O ⟨k', n', s', l'⟩) rfl (by simp [hg]; rfl) (by simp) (by simp)) ?_
    refine Wk.trans (Wk.join (b := 4) (r := 0) (cs := [.i .i64 4, .i .i64 0, .s [], .own 4 ((l.map sV.O).take (i + 1))]) rfl rfl (by simp [hs, hnew, hA, hcA, List.take_of_length_le]) (by simp)) ?_
    exact Wk.to rfl (by simp) (by simp) (by simp [Blk.names]) (by simp)
  · obtain rfl : i = k := by omega
    have e1 : (l.map sV.O).take i = l.map sV.O := List.take_of_length_le (by simp; omega)
    simp [e1, q1]
    exact fin_ret (by simp; rfl) (rfP_ok (by simp [e1, q1])) (by simp) (by simp)
theorem plain_c (b : List UInt8) (hb : b.length ≤ 2 ^ 20) (d : Nat) (hd : d ≤ 10) : ∀ p, p + 4 ^ (d + 1) ≤ 2 ^ 50 → ∃ v p', p ≤ p' ∧ p' ≤ p + 4 ^ (d + 1) ∧ PlainR b d p v p' := by
  induction d using Nat.strongRecOn with
  | _ d ih =>
    intro p hp
    have h4 : 4 ^ (d + 1) = 4 * 4 ^ d := (pow4 d).1
    have h5 := (pow4 d).2
    obtain ⟨k, k0, k1, h⟩ := pick_c b p (by omega) hb 6
    have k1 := k1 (by omega)
    have key : (∃ v p', p ≤ p' ∧ p' ≤ p + 4 ∧ PlainR b d p v p') → ∃ v p', p ≤ p' ∧ p' ≤ p + 4 ^ (d + 1) ∧ PlainR b d p v p' := fun ⟨v, p', e1, e2, e3⟩ => ⟨v, p', e1, by omega, e3⟩
    rcases (by omega : k = 0 ∨ (k = 1 ∨ k = 2) ∨ k = 3 ∨ 4 ≤ k) with rfl | hk | rfl | hk
    · exact key (plain_0 b hb d p (by omega) h)
    · exact key (plain_t b hb d p (by omega) k hk h)
    · rcases Nat.lt_or_ge 1 d with h1 | h1
      · obtain ⟨e, rfl⟩ : ∃ e, d = e + 2 := ⟨d - 2, by omega⟩
        have h6 : 4 ^ (e + 3) = 4 * 4 ^ (e + 2) := (pow4 (e + 2)).1
        rw [show e + 2 + 1 = e + 3 by omega] at hp ⊢
        exact plain_l b hb e p (by omega) (by omega) (ih (e + 1) (by omega) (by omega)) (p + 1) ⟨by omega, by omega⟩ h
      · exact key (plain_s b hb d p (by omega) (by omega) h)
    · exact key (plain_n b hb d p (by omega) k hk h)
end Go.Proofs.Ytehdfbhfbidadaa.V
/- Draws: values. -/
namespace Go.Proofs.Ytehdfbhfbidadaa.V
open Go
set_option linter.unusedVariables false
set_option linter.unusedSimpArgs false
set_option maxHeartbeats 16000000
def ValueR (b : List UInt8) (d : Nat) (p : Nat) (v : Vl) (p' : Nat) : Prop := v.fit ∧ v.cnt ≤ 16 * 4 ^ d ∧ Ret Try.prog 141 [rdT b p, .i .i64 d] (.agg (sV.O v)) [rdT b p', .dead]
theorem num_val (kd x : Int) (h0 : i64 kd) (h1 : i64 x) (d : Nat) : (Vl.mk kd x [] []).fit ∧ (Vl.mk kd x [] []).cnt ≤ 16 * 4 ^ d := by
  constructor
  · rw [Vl.fit_mk]; exact ⟨h0, h1, by simp [ln], by simp [ln], by simp⟩
  · simp [Vl.cnt_mk, cl, sums]
set_option maxRecDepth 20000 in
theorem value_0 (b : List UInt8) (hb : b.length ≤ 2 ^ 20) (d p p1 : Nat) (h : Ret Try.prog 77 [rdT b p, .i .i64 8] (.i .i64 0) [rdT b p1, .dead]) : ValueR b d p (.mk 0 0 [] []) p1 := by
  obtain ⟨f1, f2⟩ := num_val 0 0 (by simp [i64]) (by simp [i64]) d
  refine ⟨f1, f2, ?_⟩
  refine via_spec_l11Value (by simp) ?_
  simp [pc_spec_l11Value, rdT]
  refine hookH_rd h rfl rfl (by simp) (by simp [T.im]) rfl ?_
  simp
  exact fin_ret (by simp; rfl) (rfP_ok (by simp)) (by simp) (by simp)
set_option maxRecDepth 20000 in
theorem value_n (b : List UInt8) (hb : b.length ≤ 2 ^ 20) (d p p1 p2 k : Nat) (kd : Int) (hk : (k : Int) < 4) (hkd : kd = 1 ∨ kd = 2) (h : Ret Try.prog 77 [rdT b p, .i .i64 8] (.i .i64 kd) [rdT b p1, .dead]) (h2 : Ret Try.prog 77 [rdT b p1, .i .i64 4] (.i .i64 k) [rdT b p2, .dead]) : ValueR b d p (.mk (kd + 4) k [] []) p2 := by
  obtain ⟨f1, f2⟩ := num_val (kd + 4) k (by simp [i64]; omega) (by simp [i64]; omega) d
  refine ⟨f1, f2, ?_⟩
  refine via_spec_l11Value (by simp) ?_
  simp [pc_spec_l11Value, rdT]
  refine hookH_rd h rfl rfl (by simp) (by simp [T.im]) rfl ?_
  rcases hkd with rfl | rfl
  all_goals
    simp
    refine hookH_rd h2 rfl rfl (by simp) (by simp [T.im]) rfl ?_
    simp
    exact fin_ret (by simp; rfl) (rfP_ok (by simp)) (by simp) (by simp)
set_option maxRecDepth 20000 in
theorem value_p (b : List UInt8) (hb : b.length ≤ 2 ^ 20) (d p p1 p2 : Nat) (v : Vl) (k : Int) (hk : 4 ≤ k ∨ (k = 3 ∧ d ≤ 1)) (h : Ret Try.prog 77 [rdT b p, .i .i64 8] (.i .i64 k) [rdT b p1, .dead]) (h2 : PlainR b d p1 v p2) : ValueR b d p v p2 := by
  obtain ⟨f1, f2, h2⟩ := h2
  refine ⟨f1, f2, ?_⟩
  obtain ⟨k', n', s', l'⟩ := v
  refine via_spec_l11Value (by simp) ?_
  simp [pc_spec_l11Value, rdT]
  refine hookH_rd h rfl rfl (by simp) (by simp [T.im]) rfl ?_
  rcases hk with hk | ⟨rfl, hd⟩
  · have c0 : ¬ k = 0 := by omega
    have c1 : ¬ k = 1 := by omega
    have c2 : ¬ k = 2 := by omega
    have c3 : ¬ k = 3 := by omega
    simp [c0, c1, c2, c3]
    refine hookH_rd h2 rfl rfl (by simp) (by simp [T.im]) rfl ?_
    simp
    exact fin_ret (by simp; rfl) (rfP_ok (by simp)) (by simp) (by simp)
  · have cd : ¬ 1 < d := by omega
    have cd' : ¬ (1 : Int) < (d : Int) := by omega
    simp [cd, cd']
    refine hookH_rd h2 rfl rfl (by simp) (by simp [T.im]) rfl ?_
    simp
    exact fin_ret (by simp; rfl) (rfP_ok (by simp)) (by simp) (by simp)
set_option maxRecDepth 20000 in
theorem value_l (b : List UInt8) (hb : b.length ≤ 2 ^ 20) (d p : Nat) (hd : d ≤ 8) (hp : p + 8 * 4 ^ (d + 2) ≤ 2 ^ 50) (ih : ∀ p, p + 2 * 4 ^ (d + 2) ≤ 2 ^ 50 → ∃ v p', p ≤ p' ∧ p' ≤ p + 2 * 4 ^ (d + 2) ∧ ValueR b (d + 1) p v p') (p1 : Nat) (hp1 : p ≤ p1 ∧ p1 ≤ p + 1) (h : Ret Try.prog 77 [rdT b p, .i .i64 8] (.i .i64 3) [rdT b p1, .dead]) : ∃ v p', p ≤ p' ∧ p' ≤ p + 2 * 4 ^ (d + 3) ∧ ValueR b (d + 2) p v p' := by
  have e4 : 4 ^ (d + 3) = 4 * 4 ^ (d + 2) := (pow4 (d + 2)).1
  have e5 : 4 ^ (d + 2) = 4 * 4 ^ (d + 1) := (pow4 (d + 1)).1
  have h5 := (pow4 (d + 1)).2
  obtain ⟨k, p2, k0, k1, k2, h2⟩ := pick_d b hb p1 (by omega) 4 (by omega)
  have hn : k ≤ 3 := by omega
  have hn' : k * (2 * 4 ^ (d + 2)) ≤ 3 * (2 * 4 ^ (d + 2)) := Nat.mul_le_mul_right _ hn
  obtain ⟨l, q, q1, q2, q3, q4⟩ := draws (B := 2 ^ 50) ih k p2 (by omega)
  have hq := q3 k (by omega)
  have hv := list_val (R := fun _ => True) (l := l) (B := 16 * 4 ^ (d + 1)) (by omega) (fun v hv => by obtain ⟨i, hi⟩ := List.mem_iff_getElem?.1 hv; exact (q4 i v hi).1) (fun v hv => by obtain ⟨i, hi⟩ := List.mem_iff_getElem?.1 hv; exact (q4 i v hi).2.1)
  have hkk : k * (16 * 4 ^ (d + 1)) ≤ 3 * (16 * 4 ^ (d + 1)) := Nat.mul_le_mul_right _ hn
  refine ⟨.mk 4 0 [] l, q k, by omega, by omega, hv.1, by have := hv.2; rw [q1] at this; omega, ?_⟩
  refine via_spec_l11Value (by simp) ?_
  simp [pc_spec_l11Value, rdT]
  refine hookH_rd h rfl rfl (by simp) (by simp [T.im]) rfl ?_
  have cd' : (1 : Int) < (d : Int) + 2 := by omega
  simp [cd']
  refine hookH_rd h2 rfl rfl (by simp) (by simp [T.im]) rfl ?_
  simp
  have hcO : ∀ i, cleanR ((l.map sV.O).take i) = true := by intro i; rw [← List.map_take]; exact sV.crO _
  refine W_for (fun i => ⟨[(6, .i .i64 ((k : Int) - i)), (5, .ptr 4 0 0), (4, .ptr 1 0 0), (1, .i .i64 ((d : Int) + 2)), (0, .ptr 0 0 0)], [(0, .arr 2 [[.imm (u8T b), .i .i64 (q i)]]), (1, .arr 4 [[.i .i64 0, .i .i64 0, .s [], .nl]]), (4, .arr 4 [[.i .i64 4, .i .i64 0, .s [], .own 4 ((l.map sV.O).take i)]])], 20, 1⟩) k (fun i => True) ?_ trivial ?_
  · refine Wk.trans (Wk.join (b := 4) (r := 0) (cs := [.i .i64 4, .i .i64 0, .s [], .own 4 []]) rfl rfl (by simp) (by simp)) ?_
    exact Wk.to rfl (by simp) (by simp) (by simp [q2, Blk.names]) (by simp)
  intro i hi _
  rcases Nat.lt_or_ge i k with h1 | h1
  · obtain ⟨x, hx⟩ : ∃ x, l[i]? = some x := ⟨_, List.getElem?_eq_getElem (by omega)⟩
    have hr := (q4 i x hx).2.2
    have w1 : IntKind.i64.wrap ((d : Int) + 2 - 1) = (d : Int) + 1 := by rw [wrap64 (by omega) (by omega)]; omega
    have w2 : IntKind.i64.wrap ((k : Int) - i - 1) = (k : Int) - ((i + 1 : Nat) : Int) := by rw [wrap64 (by omega) (by omega)]; omega
    have hA : (List.take i (l.map sV.O)).length = i := by simp; omega
    have hnew := fill_new sV.O hx
    have hcA := hcO i
    have htt : List.take i (List.take i (l.map sV.O)) = List.take i (l.map sV.O) := by rw [List.take_take]; simp
    have hbig : (i + 1) * 56 ≤ 35184372088832 := by omega
    have hmin : min i l.length = i := by omega
    rw [show ((d + 1 : Nat) : Int) = (d : Int) + 1 by omega] at hr
    obtain ⟨k', n', s', l'⟩ := x
    simp [h1, w1, hmin]
    refine hookH_rd hr rfl rfl (by simp) (by simp [T.im]) rfl ?_
    simp [h1, w1, w2, hmin, htt, hbig]
    generalize List.take i (l.map sV.O) = A at *
    have hg := app1_get hA
    have hs := app1_set hA
    repeat with_reducible refine need_mk (by decide +kernel) ?_
    refine Wk.trans (Wk.join (b := 76) (r := i) (cs := sV.O ⟨k', n', s', l'⟩) rfl (by simp [hg]; rfl) (by simp) (by simp)) ?_
    refine Wk.trans (Wk.join (b := 4) (r := 0) (cs := [.i .i64 4, .i .i64 0, .s [], .own 4 ((l.map sV.O).take (i + 1))]) rfl rfl (by simp [hs, hnew, hA, hcA, List.take_of_length_le]) (by simp)) ?_
    exact Wk.to rfl (by simp) (by simp) (by simp [Blk.names]) (by simp)
  · obtain rfl : i = k := by omega
    have e1 : (l.map sV.O).take i = l.map sV.O := List.take_of_length_le (by simp; omega)
    simp [e1, q1]
    exact fin_ret (by simp; rfl) (rfP_ok (by simp [e1, q1])) (by simp) (by simp)
theorem value_c (b : List UInt8) (hb : b.length ≤ 2 ^ 20) (d : Nat) (hd : d ≤ 10) : ∀ p, p + 2 * 4 ^ (d + 1) ≤ 2 ^ 50 → ∃ v p', p ≤ p' ∧ p' ≤ p + 2 * 4 ^ (d + 1) ∧ ValueR b d p v p' := by
  induction d using Nat.strongRecOn with
  | _ d ih =>
    intro p hp
    have h4 : 4 ^ (d + 1) = 4 * 4 ^ d := (pow4 d).1
    have h5 := (pow4 d).2
    obtain ⟨k, p1, k0, k1, k2, h⟩ := pick_d b hb p (by omega) 8 (by omega)
    have pl : (4 ≤ (k : Int) ∨ ((k : Int) = 3 ∧ d ≤ 1)) → ∃ v p', p ≤ p' ∧ p' ≤ p + 2 * 4 ^ (d + 1) ∧ ValueR b d p v p' := by
      intro hk
      obtain ⟨v, p2, e1, e2, e3⟩ := plain_c b hb d hd p1 (by omega)
      exact ⟨v, p2, by omega, by omega, value_p b hb d p p1 p2 v k hk h e3⟩
    rcases (by omega : k = 0 ∨ ((k : Int) = 1 ∨ (k : Int) = 2) ∨ k = 3 ∨ 4 ≤ k) with rfl | hk | rfl | hk
    · exact ⟨_, p1, by omega, by omega, value_0 b hb d p p1 h⟩
    · obtain ⟨k', p2, k0', k1', k2', h2⟩ := pick_d b hb p1 (by omega) 4 (by omega)
      exact ⟨_, p2, by omega, by omega, value_n b hb d p p1 p2 k' k k2' hk h h2⟩
    · rcases Nat.lt_or_ge 1 d with h1 | h1
      · obtain ⟨e, rfl⟩ : ∃ e, d = e + 2 := ⟨d - 2, by omega⟩
        have h6 : 4 ^ (e + 3) = 4 * 4 ^ (e + 2) := (pow4 (e + 2)).1
        rw [show e + 2 + 1 = e + 3 by omega] at hp ⊢
        exact value_l b hb e p (by omega) (by omega) (ih (e + 1) (by omega) (by omega)) p1 ⟨by omega, by omega⟩ h
      · exact pl (.inr ⟨rfl, by omega⟩)
    · exact pl (.inl (by omega))
end Go.Proofs.Ytehdfbhfbidadaa.V
/- Draws: rounds of a loop; props. -/
namespace Go.Proofs.Ytehdfbhfbidadaa.V
open Go
set_option linter.unusedVariables false
set_option linter.unusedSimpArgs false
set_option maxHeartbeats 16000000
theorem rounds {σ : Type} {R : Nat → σ → Nat → σ → Nat → Prop} {Inv : Nat → σ → Prop} {C B : Nat} : ∀ (n : Nat) (h : ∀ i s p, i < n → Inv i s → p + C ≤ B → ∃ s' p', p ≤ p' ∧ p' ≤ p + C ∧ Inv (i + 1) s' ∧ R i s p s' p') (s0 : σ) (p : Nat), Inv 0 s0 → p + n * C ≤ B →
    ∃ (st : Nat → σ) (q : Nat → Nat), st 0 = s0 ∧ q 0 = p ∧ (∀ i, i ≤ n → p ≤ q i ∧ q i ≤ p + i * C ∧ Inv i (st i)) ∧ ∀ i, i < n → R i (st i) (q i) (st (i + 1)) (q (i + 1)) := by
  intro n
  induction n with
  | zero =>
    intro h s0 p h0 hp
    refine ⟨fun _ => s0, fun _ => p, rfl, rfl, ?_, by intro i hi; omega⟩
    intro i hi
    obtain rfl : i = 0 := by omega
    exact ⟨Nat.le_refl _, Nat.le_add_right _ _, h0⟩
  | succ n ih =>
    intro h s0 p h0 hp
    rw [Nat.succ_mul] at hp
    obtain ⟨st, q, a1, a2, a3, a4⟩ := ih (fun i s p hi => h i s p (by omega)) s0 p h0 (by omega)
    obtain ⟨b1, b2, b3⟩ := a3 n (Nat.le_refl _)
    obtain ⟨s', p', c1, c2, c3, c4⟩ := h n (st n) (q n) (by omega) b3 (by omega)
    have hne : ¬ n + 1 ≤ n := by omega
    refine ⟨fun i => if i ≤ n then st i else s', fun i => if i ≤ n then q i else p', by simp only [Nat.zero_le, if_true]; exact a1, by simp only [Nat.zero_le, if_true]; exact a2, ?_, ?_⟩
    · intro i hi
      rcases Nat.lt_or_ge n i with h1 | h1
      · obtain rfl : i = n + 1 := by omega
        simp only [hne, if_false]
        refine ⟨by omega, ?_, c3⟩
        rw [Nat.succ_mul]; omega
      · simp only [h1, if_true]
        exact a3 i h1
    · intro i hi
      rcases Nat.lt_or_ge i n with h1 | h1
      · have h2 : i ≤ n := by omega
        have h3 : i + 1 ≤ n := by omega
        simp only [h2, h3, if_true]
        exact a4 i h1
      · obtain rfl : i = n := by omega
        simp only [hne, if_false, Nat.le_refl, if_true]
        exact c4
def pnm : List Tx := [[110], [110, 97, 109, 101], [120]]
def PrB (B : Nat) (s : List Pr) : Prop := ∀ x ∈ s, x.fit ∧ x.cnt ≤ B
def PropsR (b : List UInt8) (p : Nat) (s : List Pr) (p' : Nat) : Prop := s.length ≤ 3 ∧ PrB 300 s ∧ Ret Try.prog 178 [rdT b p] (.own 5 (s.map sP.O)) [rdT b p']
set_option maxRecDepth 20000 in
theorem props_d (b : List UInt8) (hb : b.length ≤ 2 ^ 20) (p : Nat) (hp : p + 200 ≤ 2 ^ 50) : ∃ s p', p ≤ p' ∧ p' ≤ p + 200 ∧ PropsR b p s p' := by
  obtain ⟨st, q, a1, a2, a3, a4⟩ := rounds (σ := List Pr) (C := 65) (B := 2 ^ 50) (Inv := fun i s => s.length ≤ i ∧ PrB 300 s)
    (R := fun i s p s' p' => (∃ k : Nat, k ≠ 0 ∧ s' = s ∧ Ret Try.prog 77 [rdT b p, .i .i64 2] (.i .i64 k) [rdT b p', .dead]) ∨ (∃ v p1 nm, pnm[i]? = some nm ∧ s' = s ++ [⟨nm, v⟩] ∧ Ret Try.prog 77 [rdT b p, .i .i64 2] (.i .i64 0) [rdT b p1, .dead] ∧ PlainR b 2 p1 v p')) 3 (by
      intro i s p hi ⟨h1, h2⟩ hp
      obtain ⟨k, p1, k0, k1, k2, h⟩ := pick_d b hb p (by omega) 2 (by omega)
      by_cases hk : k = 0
      · subst hk
        obtain ⟨v, p2, e1, e2, e3⟩ := plain_c b hb 2 (by omega) p1 (by omega)
        obtain ⟨nm, hnm⟩ : ∃ nm, pnm[i]? = some nm := ⟨_, List.getElem?_eq_getElem (by simp [pnm]; omega)⟩
        have hl : nm.length ≤ 4 := by
          have := List.mem_of_getElem? hnm
          simp [pnm] at this
          rcases this with rfl | rfl | rfl <;> simp
        refine ⟨s ++ [⟨nm, v⟩], p2, by omega, by omega, ⟨by simp; omega, ?_⟩, .inr ⟨v, p1, nm, hnm, rfl, h, e3⟩⟩
        intro x hx
        rcases List.mem_append.1 hx with hx | hx
        · exact h2 x hx
        · simp only [List.mem_singleton] at hx
          subst hx
          have := e3.2.1
          refine ⟨⟨by simp only [ln]; omega, e3.1⟩, by simp only [Pr.cnt]; omega⟩
      · exact ⟨s, p1, by omega, by omega, ⟨by omega, h2⟩, .inl ⟨k, hk, rfl, h⟩⟩) [] p ⟨by simp, by simp [PrB]⟩ (by omega)
  have hq := a3 3 (by omega)
  refine ⟨st 3, q 3, by omega, by omega, hq.2.2.1, hq.2.2.2, ?_⟩
  refine via_spec_l11Props (by simp) ?_
  simp [pc_spec_l11Props, rdT]
  refine W_for (fun i => ⟨[(5, .i .i64 i), (3, .ref 1 0 (st i).length), (4, .ref 2 0 3), (0, .ptr 0 0 0)], [(0, .arr 2 [[.imm (u8T b), .i .i64 (q i)]]), (1, .arr 5 ((st i).map sP.O)), (2, .arr 1 (pnm.map sS.O))], 20, 1⟩) 3 (fun i => True) ?_ trivial ?_
  · exact Wk.less rfl (by simp) (by simp [a1]) (by simp [a1, a2, pnm])
  intro i hi _
  rcases Nat.lt_or_ge i 3 with h1 | h1
  · have hw : IntKind.i64.wrap ((i : Int) + 1) = (i : Int) + 1 := wrap1 (by omega)
    have h1' : (i : Int) < 3 := by omega
    have hsl := (a3 i hi).2.2.1
    rcases a4 i h1 with ⟨k, hk, e1, hr⟩ | ⟨v, p1, nm, hnm, e1, hr, hr2⟩
    · simp [h1, h1']
      refine hookH_rd hr rfl rfl (by simp) (by simp [T.im]) rfl ?_
      have hcA := sP.crO (st i)
      simp [h1, h1', hk, hw, e1]
      exact Wk.to rfl (by simp) (by simp) (by simp [Blk.names, namesr_clean hcA, pnm]) (by simp)
    · have hr2 := hr2.2.2
      have hnm' : (pnm.map sS.O)[i]? = some [.s nm] := by rw [List.getElem?_map, hnm]; rfl
      have hb2 : ((st i).length + 1) * 72 ≤ 35184372088832 := by omega
      obtain ⟨k', n', s', l'⟩ := v
      simp [h1, h1']
      refine hookH_rd hr rfl rfl (by simp) (by simp [T.im]) rfl ?_
      simp [-getElem?_pos, h1, h1', hw, hnm']
      refine hookH_rd hr2 rfl rfl (by simp) (by simp [T.im]) rfl ?_
      simp [-getElem?_pos, h1, h1', hw, hnm', hb2, e1]
      generalize hA : st i = A at *
      repeat with_reducible refine need_mk (by decide +kernel) ?_
      have hAl : (A.map sP.O).length = A.length := by simp
      have hg := app1_get hAl
      have hs := app1_set hAl
      have hcB : cleanR (A.map sP.O ++ [[.s nm, .i .i64 k', .i .i64 n', .s s', .own 4 (l'.map sV.O)]]) = true := by
        have := sP.crO (A ++ [⟨nm, ⟨k', n', s', l'⟩⟩])
        rw [List.map_append] at this
        simpa only [List.map_cons, List.map_nil, sP_O, sV_O] using this
      refine Wk.trans (Wk.join (b := 94) (r := A.length) (cs := sP.O ⟨nm, ⟨k', n', s', l'⟩⟩) rfl (by simp [hg]; rfl) (by simp) (by simp)) ?_
      refine Wk.ren (fun t => if t = 1 then 94 else t) rfl (by simp) (by simp) (by simp) ?_ (by simp)
      simp [Blk.rn, Blk.names, namesr_clean hcB, rnr_cl hcB, hs, pnm]
  · obtain rfl : i = 3 := by omega
    simp
    exact fin_ret (by simp; rfl) (rfP_ok (by simp)) (by simp) (by simp)
end Go.Proofs.Ytehdfbhfbidadaa.V
/- Draws: labels, any value. -/
namespace Go.Proofs.Ytehdfbhfbidadaa.V
open Go
set_option linter.unusedVariables false
set_option linter.unusedSimpArgs false
set_option maxHeartbeats 16000000
def LbB (s : List Tx) : Prop := ∀ x ∈ s, x.length ≤ 8
def LabelsR (b : List UInt8) (p : Nat) (s : List Tx) (p' : Nat) : Prop := s.length ≤ 2 ∧ LbB s ∧ Ret Try.prog 177 [rdT b p] (.own 1 (s.map sS.O)) [rdT b p']
set_option maxRecDepth 20000 in
theorem labels_d (b : List UInt8) (hb : b.length ≤ 2 ^ 20) (p : Nat) (hp : p + 2 ≤ 2 ^ 50) : ∃ s p', p ≤ p' ∧ p' ≤ p + 2 ∧ LabelsR b p s p' := by
  obtain ⟨k, p1, k0, k1, k2, h⟩ := pick_d b hb p (by omega) 3 (by omega)
  obtain ⟨j, p2, j0, j1, j2, g⟩ := pick_d b hb p1 (by omega) 3 (by omega)
  refine ⟨(if 0 < k then [[80]] else []) ++ (if j = 0 then [[81]] else []), p2, by omega, by omega, ?_, ?_, ?_⟩
  · split <;> split <;> simp
  · intro x hx
    split at hx <;> split at hx <;> simp at hx <;> (try rcases hx with rfl | rfl) <;> (try subst hx) <;> simp
  refine via_spec_l11Labels (by simp) ?_
  by_cases c1 : 0 < k <;> by_cases c2 : j = 0
  all_goals
    simp [pc_spec_l11Labels, rdT]
    refine hookH_rd h rfl rfl (by simp) (by simp [T.im]) rfl ?_
    simp [c1]
    refine hookH_rd g rfl rfl (by simp) (by simp [T.im]) rfl ?_
    simp [c1, c2]
    exact fin_ret (by simp; rfl) (rfP_ok (by simp [c1, c2])) (by simp) (by simp [c1, c2])
def AnyLabelsR (b : List UInt8) (p : Nat) (s : List Tx) (p' : Nat) : Prop := s.length ≤ 3 ∧ LbB s ∧ Ret Try.prog 140 [rdT b p] (.own 1 (s.map sS.O)) [rdT b p']
set_option maxRecDepth 20000 in
theorem anyLabels_d (b : List UInt8) (hb : b.length ≤ 2 ^ 20) (p : Nat) (hp : p + 4 ≤ 2 ^ 50) : ∃ s p', p ≤ p' ∧ p' ≤ p + 4 ∧ AnyLabelsR b p s p' := by
  obtain ⟨s, p1, s0, s1, s2, s3, h⟩ := labels_d b hb p (by omega)
  obtain ⟨j, p2, j0, j1, j2, g⟩ := pick_d b hb p1 (by omega) 12 (by omega)
  by_cases c : j = 0
  · obtain ⟨x, p3, x0, x1, x2, e⟩ := of_d b hb p2 (by omega) [[], [65], [82], [77, 65, 84, 67, 72]] (by simp) (by simp)
    refine ⟨s ++ [x], p3, by omega, by omega, by simp; omega, ?_, ?_⟩
    · intro y hy
      rcases List.mem_append.1 hy with hy | hy
      · exact s3 y hy
      · simp only [List.mem_singleton] at hy
        subst hy
        simp at x2
        rcases x2 with rfl | rfl | rfl | rfl <;> simp
    refine via_spec_l11AnyLabels (by simp) ?_
    simp [pc_spec_l11AnyLabels, rdT]
    refine hookH_rd h rfl rfl (by simp) (by simp [T.im]) rfl ?_
    simp
    refine hookH_rd g rfl rfl (by simp) (by simp [T.im]) rfl ?_
    have hbb : (s.length + 1) * 16 ≤ 35184372088832 := by omega
    simp [c]
    refine hookH_rdl e rfl rfl (by simp) (by simp) (by simp) (by simp) (by simp) (toIr_s _) ?_
    simp [c, hbb]
    exact fin_ret (by simp; rfl) (rfP_ok (by simp [List.take_of_length_le])) (by simp) (by simp)
  · refine ⟨s, p2, by omega, by omega, by omega, s3, ?_⟩
    refine via_spec_l11AnyLabels (by simp) ?_
    simp [pc_spec_l11AnyLabels, rdT]
    refine hookH_rd h rfl rfl (by simp) (by simp [T.im]) rfl ?_
    simp
    refine hookH_rd g rfl rfl (by simp) (by simp [T.im]) rfl ?_
    simp [c]
    exact fin_ret (by simp; rfl) (rfP_ok (by simp)) (by simp) (by simp)
def AnyValueR (b : List UInt8) (p : Nat) (v : Vl) (p' : Nat) : Prop := v.fit ∧ v.cnt ≤ 2048 ∧ Ret Try.prog 76 [rdT b p] (.agg (sV.O v)) [rdT b p']
theorem Vl.parts {k n : Int} {s : Tx} {l : List Vl} {B : Nat} (h : (Vl.mk k n s l).fit) (hc : (Vl.mk k n s l).cnt ≤ B) (k2 n2 : Int) (s2 : Tx) (hk : i64 k2) (hn : i64 n2) (hs : s2 = s ∨ s2.length ≤ 17) : (Vl.mk k2 n2 s2 l).fit ∧ (Vl.mk k2 n2 s2 l).cnt ≤ B + 17 := by
  rw [Vl.fit_mk] at h
  rw [Vl.cnt_mk] at hc
  constructor
  · rw [Vl.fit_mk]
    refine ⟨hk, hn, ?_, h.2.2.2⟩
    rcases hs with rfl | hs
    · exact h.2.2.1
    · simp only [ln]; omega
  · rw [Vl.cnt_mk]
    rcases hs with rfl | hs <;> omega
set_option maxRecDepth 20000 in
theorem anyValue_4 (b : List UInt8) (hb : b.length ≤ 2 ^ 20) (p p1 p2 : Nat) (v : Vl) (e1 : p ≤ p1 ∧ p1 ≤ p + 512) (e2 : p1 ≤ p2 ∧ p2 ≤ p1 + 1) (hp : p + 700 ≤ 2 ^ 50) (h : Ret Try.prog 141 [rdT b p, .i .i64 3] (.agg (sV.O v)) [rdT b p1, .dead]) (g : Ret Try.prog 77 [rdT b p1, .i .i64 16] (.i .i64 4) [rdT b p2, .dead]) : ∃ v p', p ≤ p' ∧ p' ≤ p + 700 ∧ AnyValueR b p v p' := by
  obtain ⟨x, p3, x0, x1, x2, e⟩ := pick_d b hb p2 (by omega) 2 (by omega)
  obtain ⟨k, hk⟩ : ∃ k : Nat, k = 6 + x := ⟨_, rfl⟩
  obtain ⟨l, q, q1, q2, q3, q4⟩ := draws (B := 2 ^ 50) (plain_c b hb 1 (by omega)) k p3 (by omega)
  have hq := q3 k (by omega)
  obtain ⟨f1, f2⟩ := list_val (R := fun _ => True) (l := l) (B := 16 * 4 ^ 1) (by omega) (fun v hv => by obtain ⟨i, hi⟩ := List.mem_iff_getElem?.1 hv; exact (q4 i v hi).1) (fun v hv => by obtain ⟨i, hi⟩ := List.mem_iff_getElem?.1 hv; exact (q4 i v hi).2.1)
  refine ⟨.mk 4 0 [] l, q k, by omega, by omega, f1, by omega, ?_⟩
  obtain ⟨k', n', s', l'⟩ := v
  refine via_spec_l11AnyValue (by simp) ?_
  simp [pc_spec_l11AnyValue, rdT]
  refine hookH_rd h rfl rfl (by simp) (by simp [T.im]) rfl ?_
  simp
  refine hookH_rd g rfl rfl (by simp) (by simp [T.im]) rfl ?_
  simp
  refine hookH_rd e rfl rfl (by simp) (by simp [T.im]) rfl ?_
  have hw : IntKind.i64.wrap (6 + (x : Int)) = (k : Int) := by rw [wrap64 (by omega) (by omega)]; omega
  simp [hw]
  have hcO : ∀ i, cleanR ((l.map sV.O).take i) = true := by intro i; rw [← List.map_take]; exact sV.crO _
  refine W_for (fun i => ⟨[(4, .i .i64 ((k : Int) - i)), (3, .ptr 5 0 0), (2, .ptr 1 0 0), (0, .ptr 0 0 0)], [(0, .arr 2 [[.imm (u8T b), .i .i64 (q i)]]), (1, .arr 4 [[.i .i64 0, .i .i64 0, .s [], .nl]]), (5, .arr 4 [[.i .i64 4, .i .i64 0, .s [], .own 4 ((l.map sV.O).take i)]])], 20, 1⟩) k (fun i => True) ?_ trivial ?_
  · refine Wk.trans (Wk.join (b := 5) (r := 0) (cs := [.i .i64 4, .i .i64 0, .s [], .own 4 []]) rfl rfl (by simp) (by simp)) ?_
    exact Wk.to rfl (by simp) (by simp) (by simp [q2, Blk.names]) (by simp)
  intro i hi _
  rcases Nat.lt_or_ge i k with h1 | h1
  · obtain ⟨x, hx⟩ : ∃ x, l[i]? = some x := ⟨_, List.getElem?_eq_getElem (by omega)⟩
    have hr := (q4 i x hx).2.2
    have w2 : IntKind.i64.wrap ((k : Int) - i - 1) = (k : Int) - ((i + 1 : Nat) : Int) := by rw [wrap64 (by omega) (by omega)]; omega
    have hA : (List.take i (l.map sV.O)).length = i := by simp; omega
    have hnew := fill_new sV.O hx
    have hcA := hcO i
    have htt : List.take i (List.take i (l.map sV.O)) = List.take i (l.map sV.O) := by rw [List.take_take]; simp
    have hbig : (i + 1) * 56 ≤ 35184372088832 := by omega
    have hmin : min i l.length = i := by omega
    obtain ⟨k', n', s', l'⟩ := x
    simp [h1, hmin]
    refine hookH_rd hr rfl rfl (by simp) (by simp [T.im]) rfl ?_
    simp [h1, w2, hmin, htt, hbig]
    generalize List.take i (l.map sV.O) = A at *
    have hg := app1_get hA
    have hs := app1_set hA
    repeat with_reducible refine need_mk (by decide +kernel) ?_
    refine Wk.trans (Wk.join (b := 60) (r := i) (cs := sV.O ⟨k', n', s', l'⟩) rfl (by simp [hg]; rfl) (by simp) (by simp)) ?_
    refine Wk.trans (Wk.join (b := 5) (r := 0) (cs := [.i .i64 4, .i .i64 0, .s [], .own 4 ((l.map sV.O).take (i + 1))]) rfl rfl (by simp [hs, hnew, hA, hcA, List.take_of_length_le]) (by simp)) ?_
    exact Wk.to rfl (by simp) (by simp) (by simp [Blk.names]) (by simp)
  · obtain rfl : i = k := by omega
    have e1 : (l.map sV.O).take i = l.map sV.O := List.take_of_length_le (by simp; omega)
    simp [e1, q1]
    exact fin_ret (by simp; rfl) (rfP_ok (by simp [e1, q1])) (by simp) (by simp)
set_option maxRecDepth 20000 in
theorem anyValue_d (b : List UInt8) (hb : b.length ≤ 2 ^ 20) (p : Nat) (hp : p + 700 ≤ 2 ^ 50) : ∃ v p', p ≤ p' ∧ p' ≤ p + 700 ∧ AnyValueR b p v p' := by
  obtain ⟨v, p1, s0, s1, v1, v2, h⟩ := value_c b hb 3 (by omega) p (by omega)
  obtain ⟨j, p2, j0, j1, j2, g⟩ := pick_d b hb p1 (by omega) 16 (by omega)
  obtain ⟨k', n', s', l'⟩ := v
  have v3 := v1
  rw [Vl.fit_mk] at v3
  rcases (by omega : j = 0 ∨ j = 1 ∨ j = 2 ∨ j = 3 ∨ j = 4 ∨ 5 ≤ j) with rfl | rfl | rfl | rfl | rfl | hj
  · obtain ⟨x, p3, x0, x1, x2, e⟩ := pick_d b hb p2 (by omega) 9 (by omega)
    obtain ⟨f1, f2⟩ := Vl.parts v1 v2 ((x : Int) - 1) n' s' (by simp only [i64]; omega) v3.2.1 (.inl rfl)
    have hw : IntKind.i64.wrap ((x : Int) - 1) = (x : Int) - 1 := wrap64 (by omega) (by omega)
    refine ⟨_, p3, by omega, by omega, f1, by omega, ?_⟩
    refine via_spec_l11AnyValue (by simp) ?_
    simp [pc_spec_l11AnyValue, rdT]
    refine hookH_rd h rfl rfl (by simp) (by simp [T.im]) rfl ?_
    simp
    refine hookH_rd g rfl rfl (by simp) (by simp [T.im]) rfl ?_
    simp
    refine hookH_rd e rfl rfl (by simp) (by simp [T.im]) rfl ?_
    simp [hw]
    exact fin_ret (by simp; rfl) (rfP_ok (by simp)) (by simp) (by simp)
  · obtain ⟨x, p3, x0, x1, x2, e⟩ := one_d b hb p2 (by omega) [1000000001, -1000000001, -1] (by simp)
    obtain ⟨f1, f2⟩ := Vl.parts v1 v2 k' x s' v3.1 (by simp at x2; simp only [i64]; omega) (.inl rfl)
    refine ⟨_, p3, by omega, by omega, f1, by omega, ?_⟩
    refine via_spec_l11AnyValue (by simp) ?_
    simp [pc_spec_l11AnyValue, rdT]
    refine hookH_rd h rfl rfl (by simp) (by simp [T.im]) rfl ?_
    simp
    refine hookH_rd g rfl rfl (by simp) (by simp [T.im]) rfl ?_
    simp
    refine hookH_rdl e rfl rfl (by simp) (by simp) (by simp) (by simp) (by simp) (toIr_i _) ?_
    simp
    exact fin_ret (by simp; rfl) (rfP_ok (by simp)) (by simp) (by simp)
  · have hm := many_c [117] 17 (by simp) (by simp) (by simp)
    have hml := manyF_len 17 [117] []
    generalize manyF 17 [117] [] = tt at hm hml
    obtain ⟨x, p3, x0, x1, x2, e⟩ := of_d b hb p2 (by omega) [[39], [10], tt, [120]] (by simp) (by simp)
    obtain ⟨f1, f2⟩ := Vl.parts v1 v2 k' n' x v3.1 v3.2.1 (.inr (by simp at x2 hml; rcases x2 with rfl | rfl | rfl | rfl <;> first | omega | simp))
    refine ⟨_, p3, by omega, by omega, f1, by omega, ?_⟩
    refine via_spec_l11AnyValue (by simp) ?_
    simp [pc_spec_l11AnyValue, rdT]
    refine hookH_rd h rfl rfl (by simp) (by simp [T.im]) rfl ?_
    simp
    refine hookH_rd g rfl rfl (by simp) (by simp [T.im]) rfl ?_
    simp
    refine callK_val (by simp) hm (by simp [T.noImm]) ?_
    simp
    refine hookH_rdl e rfl rfl (by simp) (by simp) (by simp) (by simp) (by simp) (toIr_s _) ?_
    simp
    exact fin_ret (by simp; rfl) (rfP_ok (by simp)) (by simp) (by simp)
  · obtain ⟨f1, f2⟩ := list_val (R := fun _ => True) (l := [Vl.mk k' n' s' l']) (B := 16 * 4 ^ 3) (by simp) (by simpa using v1) (by simpa using v2)
    refine ⟨.mk 4 0 [] [.mk k' n' s' l'], p2, by omega, by omega, f1, by simp only [List.length_singleton] at f2; omega, ?_⟩
    refine via_spec_l11AnyValue (by simp) ?_
    simp [pc_spec_l11AnyValue, rdT]
    refine hookH_rd h rfl rfl (by simp) (by simp [T.im]) rfl ?_
    simp
    refine hookH_rd g rfl rfl (by simp) (by simp [T.im]) rfl ?_
    simp
    refine fin_wk (Wk.join (b := 9) (r := 0) (cs := sV.O ⟨k', n', s', l'⟩) rfl rfl (by simp) (by simp)) ?_
    exact fin_ret (by simp; rfl) (rfP_ok (by simp)) (by simp) (by simp)
  · exact anyValue_4 b hb p p1 p2 _ ⟨s0, by omega⟩ ⟨j0, j1⟩ hp h g
  · have c0 : ¬ j = 0 := by omega
    have c1 : ¬ j = 1 := by omega
    have c2 : ¬ j = 2 := by omega
    have c3 : ¬ j = 3 := by omega
    have c4 : ¬ j = 4 := by omega
    have c0' : ¬ (j : Int) = 0 := by omega
    have c1' : ¬ (j : Int) = 1 := by omega
    have c2' : ¬ (j : Int) = 2 := by omega
    have c3' : ¬ (j : Int) = 3 := by omega
    have c4' : ¬ (j : Int) = 4 := by omega
    refine ⟨_, p2, by omega, by omega, v1, by omega, ?_⟩
    refine via_spec_l11AnyValue (by simp) ?_
    simp [pc_spec_l11AnyValue, rdT]
    refine hookH_rd h rfl rfl (by simp) (by simp [T.im]) rfl ?_
    simp
    refine hookH_rd g rfl rfl (by simp) (by simp [T.im]) rfl ?_
    simp [c0, c1, c2, c3, c4, c0', c1', c2', c3', c4']
    exact fin_ret (by simp; rfl) (rfP_ok (by simp)) (by simp) (by simp)
end Go.Proofs.Ytehdfbhfbidadaa.V
/- Draws: any props. -/
namespace Go.Proofs.Ytehdfbhfbidadaa.V
open Go
set_option linter.unusedVariables false
set_option linter.unusedSimpArgs false
set_option maxHeartbeats 16000000
def AnyPropsR (b : List UInt8) (p : Nat) (s : List Pr) (p' : Nat) : Prop := s.length ≤ 5 ∧ PrB 2100 s ∧ Ret Try.prog 139 [rdT b p] (.own 5 (s.map sP.O)) [rdT b p']
theorem PrB.mono {B C : Nat} {s : List Pr} (h : PrB B s) (hc : B ≤ C) : PrB C s := fun x hx => ⟨(h x hx).1, Nat.le_trans (h x hx).2 hc⟩
theorem PrB.app {B : Nat} {s t : List Pr} (h : PrB B s) (ht : PrB B t) : PrB B (s ++ t) := fun x hx => by
  rcases List.mem_append.1 hx with hx | hx
  · exact h x hx
  · exact ht x hx
theorem PrB.one {B C : Nat} {nm : Tx} {v : Vl} (hn : nm.length ≤ 8) (hf : v.fit) (hv : v.cnt ≤ C) (hB : C + 8 ≤ B) : PrB B [⟨nm, v⟩] := fun x hx => by
  simp only [List.mem_singleton] at hx
  subst hx
  exact ⟨⟨by simp only [ln]; omega, hf⟩, by simp only [Pr.cnt]; omega⟩
section
variable {β : Type} {A : List β} {i : Nat} {x y z : β}
theorem app2_get (h : A.length = i) : (A ++ [x, y])[i]? = some x := by rw [List.getElem?_append_right (by omega), h]; simp
theorem app2_get' (h : A.length = i) : (A ++ [x, y])[i + 1]? = some y := by rw [List.getElem?_append_right (by omega), h]; simp
theorem app2_set (h : A.length = i) : (A ++ [x, y]).set i z = A ++ [z, y] := by rw [List.set_append_right _ _ (by omega), h]; simp
theorem app2_set' (h : A.length = i) : (A ++ [x, y]).set (i + 1) z = A ++ [x, z] := by rw [List.set_append_right _ _ (by omega), h]; simp
end
set_option maxRecDepth 20000 in
theorem anyProps_d (b : List UInt8) (hb : b.length ≤ 2 ^ 20) (p : Nat) (hp : p + 950 ≤ 2 ^ 50) : ∃ s p', p ≤ p' ∧ p' ≤ p + 950 ∧ AnyPropsR b p s p' := by
  obtain ⟨s, p1, s0, s1, s2, s3, h⟩ := props_d b hb p (by omega)
  obtain ⟨j, p2, j0, j1, j2, g⟩ := pick_d b hb p1 (by omega) 14 (by omega)
  have s4 := s3.mono (C := 2100) (by omega)
  rcases (by omega : j = 0 ∨ j = 1 ∨ 2 ≤ j) with rfl | rfl | hj
  · obtain ⟨x, p3, x0, x1, x2, e⟩ := of_d b hb p2 (by omega) [[], [97], [122], [120]] (by simp) (by simp)
    obtain ⟨v, p4, v0, v1, v2, v3, hv⟩ := anyValue_d b hb p3 (by omega)
    have hx : x.length ≤ 8 := by simp at x2; rcases x2 with rfl | rfl | rfl | rfl <;> simp
    refine ⟨s ++ [⟨x, v⟩], p4, by omega, by omega, by simp; omega, s4.app (.one hx v2 v3 (by omega)), ?_⟩
    obtain ⟨k', n', s', l'⟩ := v
    have hbb : (s.length + 1) * 72 ≤ 35184372088832 := by omega
    refine via_spec_l11AnyProps (by simp) ?_
    simp [pc_spec_l11AnyProps, rdT]
    refine hookH_rd h rfl rfl (by simp) (by simp [T.im]) rfl ?_
    simp
    refine hookH_rd g rfl rfl (by simp) (by simp [T.im]) rfl ?_
    simp
    refine hookH_rdl e rfl rfl (by simp) (by simp) (by simp) (by simp) (by simp) (toIr_s _) ?_
    simp
    refine hookH_rd hv rfl rfl (by simp) (by simp [T.im]) rfl ?_
    simp [hbb]
    have hAl : (s.map sP.O).length = s.length := by simp
    have hg := app1_get hAl
    have hs := app1_set hAl
    refine fin_wk (Wk.join (b := 14) (r := s.length) (cs := sP.O ⟨x, ⟨k', n', s', l'⟩⟩) rfl (by simp [hg]; rfl) (by simp) (by simp)) ?_
    simp [hs]
    exact fin_ret (by simp; rfl) (rfP_ok (by simp [List.take_of_length_le])) (by simp) (by simp)
  · obtain ⟨v, p3, v0, v1, v2, v3, hv⟩ := plain_c b hb 1 (by omega) p2 (by omega)
    obtain ⟨w, p4, w0, w1, w2, w3, hw⟩ := plain_c b hb 1 (by omega) p3 (by omega)
    refine ⟨s ++ [⟨[121], v⟩, ⟨[122], w⟩], p4, by omega, by omega, by simp; omega, s4.app (PrB.app (s := [_]) (.one (by simp) v2 v3 (by omega)) (.one (by simp) w2 w3 (by omega))), ?_⟩
    obtain ⟨k', n', s', l'⟩ := v
    obtain ⟨k2, n2, t2, l2⟩ := w
    have hbb : (s.length + 2) * 72 ≤ 35184372088832 := by omega
    refine via_spec_l11AnyProps (by simp) ?_
    simp [pc_spec_l11AnyProps, rdT]
    refine hookH_rd h rfl rfl (by simp) (by simp [T.im]) rfl ?_
    simp
    refine hookH_rd g rfl rfl (by simp) (by simp [T.im]) rfl ?_
    simp
    refine hookH_rd hv rfl rfl (by simp) (by simp [T.im]) rfl ?_
    simp
    refine hookH_rd hw rfl rfl (by simp) (by simp [T.im]) rfl ?_
    simp [hbb]
    have hAl : (s.map sP.O).length = s.length := by simp
    refine fin_wk (Wk.join (b := 13) (r := s.length) (cs := sP.O ⟨[121], ⟨k', n', s', l'⟩⟩) rfl (by simp [app2_get hAl]; rfl) (by simp) (by simp)) ?_
    simp [app2_set hAl]
    refine fin_wk (Wk.join (b := 13) (r := s.length + 1) (cs := sP.O ⟨[122], ⟨k2, n2, t2, l2⟩⟩) rfl (by simp [app2_get' hAl]; rfl) (by simp) (by simp)) ?_
    simp [app2_set' hAl]
    exact fin_ret (by simp; rfl) (rfP_ok (by simp [List.take_of_length_le])) (by simp) (by simp)
  · have c0 : ¬ j = 0 := by omega
    have c1 : ¬ j = 1 := by omega
    have c1' : ¬ (j : Int) = 1 := by omega
    refine ⟨s, p2, by omega, by omega, by omega, s4, ?_⟩
    refine via_spec_l11AnyProps (by simp) ?_
    simp [pc_spec_l11AnyProps, rdT]
    refine hookH_rd h rfl rfl (by simp) (by simp [T.im]) rfl ?_
    simp
    refine hookH_rd g rfl rfl (by simp) (by simp [T.im]) rfl ?_
    simp [c0, c1, c1']
    exact fin_ret (by simp; rfl) (rfP_ok (by simp)) (by simp) (by simp)
end Go.Proofs.Ytehdfbhfbidadaa.V
/- What is owned by a cell gets a name: the other way round of a join. -/
namespace Go.Proofs.Ytehdfbhfbidadaa.V
open Go
set_option linter.unusedVariables false
set_option linter.unusedSimpArgs false
theorem Wk.split {s : St} {tk r q M sz : Nat} {rows : List (List T)} {row : List T} (hg : hget s.hp tk = some (.arr sz rows)) (hrow : rows[r]? = some row) (hqm : q + M ≤ row.length) :
    Wk s ⟨s.tm, hap s.hp (drawn tk sz rows r row q M (mats ((row.drop q).take M) s.nx)), s.nx + (drawn tk sz rows r row q M (mats ((row.drop q).take M) s.nx)).length, s.fb⟩ := by
  rintro E a w ⟨⟨ρ, O, F, hR⟩, hE⟩
  obtain ⟨hA, hBR⟩ := hR.hp _ _ hg
  obtain ⟨B, c, et, rs1, rs2, us1, us, us2, F1, Fr, F2, hB, hrest⟩ := hBR.row hrow
  obtain ⟨us, _, _, ρ', _, F', h⟩ := draw_ok (o := { op := .move (.const (.bool true)), dst := none, type := 0, pos := "", after := #[], guard := none }) (n := s.nx) hR (by intro k hk; cases hk) hA hB hg hrow hqm hE (fun t h1 _ h2 => by omega)
  have h2 := h.monoA (A' := (· < s.nx + (drawn tk sz rows r row q M (mats ((row.drop q).take M) s.nx)).length)) (fun t ht => by
    simp only [Aext] at ht
    rcases ht with ht | ht <;> omega)
  exact ⟨⟨ρ', O, F', h2.size, h2.defers, h2.fb, h2.ρ0, h2.O0, h2.Olt, h2.Onew, h2.tm, h2.hp, h2.nodup, h2.apart, h2.mine, h2.keep⟩, by simp only; omega⟩
end Go.Proofs.Ytehdfbhfbidadaa.V
/- Edges dropped by the reference: the graph is handed over. -/
namespace Go.Proofs.Ytehdfbhfbidadaa.V
open Go
set_option linter.unusedVariables false
set_option linter.unusedSimpArgs false
set_option maxHeartbeats 16000000
def xE (id : Int) (e : Eg) : List T := [.i .i64 e.id, .s e.kind, .i .i64 e.frm, .i .i64 e.to, if e.id = id then .own 5 (e.props.map sP.O) else .dead]
theorem xE_cl (id : Int) (m : List Eg) : cleanR (m.map (xE id)) = true := by
  simp only [cleanR, List.all_map, List.all_eq_true]
  intro e _
  simp only [xE, Function.comp]
  split <;> simp
theorem mix_get {β γ : Type} {f g : β → γ} {l : List β} {i : Nat} {x : β} (hx : l[i]? = some x) : ((l.map f).take i ++ (l.map g).drop i)[i]? = some (g x) := by
  have h1 : i < l.length := (List.getElem?_eq_some_iff.1 hx).1
  have hlen : ((l.map f).take i).length = i := by simp; omega
  rw [List.getElem?_append_right (by omega), hlen]; simp [hx]
theorem mix_set {β γ : Type} {f g : β → γ} {l : List β} {i : Nat} {x : β} (hx : l[i]? = some x) (r : γ) : ((l.map f).take i ++ (l.map g).drop i).set i r = (l.map f).take i ++ r :: (l.map g).drop (i + 1) := by
  have h1 : i < l.length := (List.getElem?_eq_some_iff.1 hx).1
  have hlen : ((l.map f).take i).length = i := by simp; omega
  rw [List.drop_eq_getElem_cons (by simpa using h1), List.set_append_right _ _ (by omega), hlen]; simp
theorem mix_get2 {β γ : Type} {f g : β → γ} {l : List β} {i : Nat} {x : β} (hx : l[i]? = some x) (r : γ) : ((l.map f).take i ++ r :: (l.map g).drop (i + 1))[i]? = some r := by
  have h1 : i < l.length := (List.getElem?_eq_some_iff.1 hx).1
  have hlen : ((l.map f).take i).length = i := by simp; omega
  rw [List.getElem?_append_right (by omega), hlen]; simp
theorem mix_set2 {β γ : Type} {f g : β → γ} {l : List β} {i : Nat} {x : β} (hx : l[i]? = some x) (r r' : γ) : ((l.map f).take i ++ r :: (l.map g).drop (i + 1)).set i r' = (l.map f).take i ++ r' :: (l.map g).drop (i + 1) := by
  have h1 : i < l.length := (List.getElem?_eq_some_iff.1 hx).1
  have hlen : ((l.map f).take i).length = i := by simp; omega
  rw [List.set_append_right _ _ (by omega), hlen]; simp
theorem mix_new {β γ : Type} {f g : β → γ} {l : List β} {i : Nat} {x : β} (hx : l[i]? = some x) : (l.map f).take (i + 1) ++ (l.map g).drop (i + 1) = (l.map f).take i ++ f x :: (l.map g).drop (i + 1) := by
  rw [List.take_add_one, List.getElem?_map, hx]; simp
theorem mix_same {β γ : Type} {f g : β → γ} {l : List β} {i : Nat} {x : β} (hx : l[i]? = some x) (h : f x = g x) : (l.map f).take (i + 1) ++ (l.map g).drop (i + 1) = (l.map f).take i ++ (l.map g).drop i := by
  have h1 : i < l.length := (List.getElem?_eq_some_iff.1 hx).1
  rw [mix_new hx, h]
  conv => rhs; rw [List.drop_eq_getElem_cons (by simpa using h1)]
  have : (l.map g)[i]'(by simpa using h1) = g x := by
    obtain ⟨h2, h3⟩ := List.getElem?_eq_some_iff.1 hx
    simp [h3]
  rw [this]
theorem mix_cl {f g : Eg → List T} (hf : ∀ m : List Eg, cleanR (m.map f) = true) (hg : ∀ m : List Eg, cleanR (m.map g) = true) (l : List Eg) (i : Nat) : cleanR ((l.map f).take i ++ (l.map g).drop i) = true := by
  rw [cleanR_append, ← List.map_take, ← List.map_drop, hf, hg]; rfl
set_option maxRecDepth 20000 in
theorem l2DropEdge_e (g : Gr) (hl : g.edges.length ≤ 2 ^ 20) (id : Int) : Ret Try.prog 192 [.agg (sG.O g), .i .i64 id] (.agg (sG.O (gDropE g id))) [.dead, .dead] := by
  obtain ⟨l, es, nn, ne⟩ := g
  simp only [gDropE] at hl ⊢
  refine via_spec_l2DropEdge (by simp) ?_
  simp [pc_spec_l2DropEdge]
  have hcN := sN.crO l
  refine W_for (fun i => ⟨[(6, .i .i64 i), (5, .ref 4 0 ((es.take i).filter (fun e => !decide (e.id = id))).length), (1, .i .i64 id), (2, .ptr 2 0 0), (4, .ptr 3 0 0)], [(0, .arr 3 (l.map sN.O)), (1, .arr 5 ((es.map (xE id)).take i ++ (es.map sE.O).drop i)), (2, .arr 4 [[.ref 0 0 l.length, .ref 1 0 es.length, .i .i64 nn, .i .i64 ne]]), (3, .arr 4 [[.nl, .nl, .i .i64 0, .i .i64 0]]), (4, .arr 5 (((es.take i).filter (fun e => !decide (e.id = id))).map sE.O))], 20, 2⟩) es.length (fun _ => True) ?_ trivial ?_
  · exact Wk.less rfl (by simp) (by simp) (by simp)
  intro i hi _
  rcases Nat.lt_or_ge i es.length with h1 | h1
  · obtain ⟨x, hx⟩ : ∃ x, es[i]? = some x := ⟨_, List.getElem?_eq_getElem h1⟩
    have hw : IntKind.i64.wrap ((i : Int) + 1) = (i : Int) + 1 := wrap1 (by omega)
    have hfl : ((es.take i).filter (fun e => !decide (e.id = id))).length ≤ i := Nat.le_trans (List.length_filter_le _ _) (by simp; omega)
    have htk : es.take (i + 1) = es.take i ++ [x] := by rw [List.take_add_one, hx]; simp
    have hrow := mix_get (f := xE id) (g := sE.O) hx
    have hset := mix_set (f := xE id) (g := sE.O) hx
    have hgt := mix_get2 (f := xE id) (g := sE.O) hx
    have hset2 := mix_set2 (f := xE id) (g := sE.O) hx
    have hnew := mix_new (f := xE id) (g := sE.O) hx
    have hsame := mix_same (f := xE id) (g := sE.O) hx
    have hc0 := mix_cl (xE_cl id) sE.crO es i
    have hc1 := mix_cl (xE_cl id) sE.crO es (i + 1)
    obtain ⟨a, b, c, d, ps⟩ := x
    by_cases h : a = id
    · have hn : (es.take (i + 1)).filter (fun e => !decide (e.id = id)) = (es.take i).filter (fun e => !decide (e.id = id)) := by rw [htk, List.filter_append]; simp [h]
      have hs := hsame (by simp [xE, h])
      rw [hn, hs]
      generalize (es.take i).filter (fun e => !decide (e.id = id)) = A at *
      have hcA := sE.crO A
      simp [-getElem?_pos, hx, hw, h1, h, hrow]
      exact Wk.to rfl (by simp) (by simp) (by simp [Blk.names, namesr_clean hcA, namesr_clean hcN, namesr_clean hc0]) (by simp)
    · have hn : (es.take (i + 1)).filter (fun e => !decide (e.id = id)) = (es.take i).filter (fun e => !decide (e.id = id)) ++ [⟨a, b, c, d, ps⟩] := by rw [htk, List.filter_append]; simp [h]
      rw [hn]
      generalize (es.take i).filter (fun e => !decide (e.id = id)) = A at *
      have hbig : (A.length + 1) * 64 ≤ 35184372088832 := by omega
      simp [-getElem?_pos, hx, hw, h1, h, hrow, hbig, hset]
      have hdE : xE id ⟨a, b, c, d, ps⟩ = [.i .i64 a, .s b, .i .i64 c, .i .i64 d, .dead] := by simp [xE, h]
      rw [hdE] at hnew
      have hA : (A.map sE.O).length = A.length := by simp
      have hg2 := app1_get hA
      have hs3 := app1_set hA
      have hcB : cleanR (A.map sE.O ++ [[.i .i64 a, .s b, .i .i64 c, .i .i64 d, .own 5 (ps.map sP.O)]]) = true := by
        have := sE.crO (A ++ [⟨a, b, c, d, ps⟩])
        rw [List.map_append] at this
        simpa only [List.map_cons, List.map_nil, sE_O] using this
      refine Wk.trans (Wk.join (b := 1) (r := i) (cs := [.i .i64 a, .s b, .i .i64 c, .i .i64 d, .dead]) rfl (by simp [hgt]; rfl) (by simp) (by simp)) ?_
      refine Wk.trans (Wk.join (b := 23) (r := A.length) (cs := [.i .i64 a, .s b, .i .i64 c, .i .i64 d, .own 5 (ps.map sP.O)]) rfl (by simp [hg2]; rfl) (by simp) (by simp)) ?_
      rw [hnew] at hc1 ⊢
      refine Wk.ren (fun t => if t = 4 then 23 else t) rfl (by simp) (by simp; omega) (by simp) ?_ (by simp)
      simp [Blk.rn, Blk.names, namesr_clean hc1, namesr_clean hcB, namesr_clean hcN, rnr_cl hc1, rnr_cl hcB, rnr_cl hcN, hset2, hs3]
  · obtain rfl : i = es.length := by omega
    have e1 : (es.map (xE id)).take es.length = es.map (xE id) := List.take_of_length_le (by simp)
    have e2 : (es.map sE.O).drop es.length = [] := by simp
    have hcA := sE.crO (es.filter (fun e => !decide (e.id = id)))
    simp [e1, e2]
    exact fin_eaten (by simp; rfl) (by simp) (by simp)
end Go.Proofs.Ytehdfbhfbidadaa.V
/- Nodes dropped by the reference: the graph is handed over. -/
namespace Go.Proofs.Ytehdfbhfbidadaa.V
open Go
set_option linter.unusedVariables false
set_option linter.unusedSimpArgs false
set_option maxHeartbeats 16000000
def xN (id : Int) (e : Nd) : List T := [.i .i64 e.id, if e.id = id then .own 1 (e.labels.map sS.O) else .dead, if e.id = id then .own 5 (e.props.map sP.O) else .dead]
theorem xN_cl (id : Int) (m : List Nd) : cleanR (m.map (xN id)) = true := by
  simp only [cleanR, List.all_map, List.all_eq_true]
  intro e _
  simp only [xN, Function.comp]
  split <;> simp
theorem mix_clN {f g : Nd → List T} (hf : ∀ m : List Nd, cleanR (m.map f) = true) (hg : ∀ m : List Nd, cleanR (m.map g) = true) (l : List Nd) (i : Nat) : cleanR ((l.map f).take i ++ (l.map g).drop i) = true := by
  rw [cleanR_append, ← List.map_take, ← List.map_drop, hf, hg]; rfl
set_option maxRecDepth 20000 in
theorem l2DropNode_e (g : Gr) (hl0 : g.nodes.length ≤ 2 ^ 20) (hl : g.edges.length ≤ 2 ^ 20) (id : Int) (det : Bool) : Ret Try.prog 180 [.agg (sG.O g), .i .i64 id, .b det] (.tup [.agg (sG.O (dropN g id det).1), .b (dropN g id det).2]) [.dead, .dead, .dead] := by
  have ok1 : okCall Try.prog 192 = true := by kernel_rfl
  have h1 := l2Edges_c g hl id 0 []
  have hLl : (idsOf id 0 [] g.edges).length ≤ 2 ^ 20 := by
    unfold idsOf
    rw [List.length_map]
    exact Nat.le_trans (List.length_filter_le _ _) hl
  have hdE := fun (es' : List Eg) (h : es'.length ≤ 2 ^ 20) (k : Int) => l2DropEdge_e ⟨g.nodes, es', g.nn, g.ne⟩ h k
  by_cases c1 : idsOf id 0 [] g.edges ≠ [] ∧ det = false
  · have e1 : dropN g id det = (g, false) := by unfold dropN; rw [if_pos c1]
    rw [e1]
    obtain ⟨c1, rfl⟩ := c1
    have c2 : 0 < (idsOf id 0 [] g.edges).length := by cases hq : idsOf id 0 [] g.edges with | nil => exact absurd hq c1 | cons a b => simp
    obtain ⟨l, es, nn, ne⟩ := g
    simp only at h1 c2
    have hcN := sN.crO l
    have hcE := sE.crO es
    refine via_spec_l2DropNode (by simp) ?_
    simp [pc_spec_l2DropNode]
    refine callK_val (by simp) h1 (by simp [T.noImm]) ?_
    simp [c2]
    exact fin_eaten (by simp; rfl) (by simp) (by simp)
  · have e1 : dropN g id det = (gDropN g id, true) := by unfold dropN; rw [if_neg c1]
    rw [e1]
    have e2 : (decide (0 < (idsOf id 0 [] g.edges).length) && !det) = false := by
      cases det with
      | true => simp
      | false =>
        have : idsOf id 0 [] g.edges = [] := by
          cases hq : idsOf id 0 [] g.edges with
          | nil => rfl
          | cons a b => exact absurd ⟨by rw [hq]; simp, rfl⟩ c1
        simp [this]
    obtain ⟨l, es, nn, ne⟩ := g
    simp only [gDropN] at h1 e2 hLl hl hl0 hdE ⊢
    clear e1 c1
    generalize idsOf id 0 [] es = L at *
    have hLc := sI.crO L
    have hcN := sN.crO l
    have hcE := sE.crO es
    refine Ret.ofS Try.func180 ok_spec_l2DropNode rfl rfl (by simp) ?_
    refine WW_seq (WW_of_W ?_)
    simp
    refine WW_seq (WW_of_W ?_)
    simp
    refine callK_val (by simp) h1 (by simp [T.noImm]) ?_
    simp
    refine WW_seq (WW_seq (thn_cut (s2 := ⟨[(21, .b false), (8, .ref 4 0 L.length), (1, .i .i64 id), (3, .ptr 2 0 0), (6, .ptr 3 0 0)], [(10, .arr 3 (l.map sN.O)), (11, .arr 5 (es.map sE.O)), (2, .arr 4 [[.ref 10 0 l.length, .ref 11 0 es.length, .i .i64 nn, .i .i64 ne]]), (3, .arr 4 [[.nl, .nl, .i .i64 0, .i .i64 0]]), (4, .arr 1 (L.map sI.O))], 20, 2⟩) ?_ ?_))
    · have rnm : ∀ s : St, s.fb = 2 → hget s.hp 0 = some (.arr 3 (l.map sN.O)) → hget s.hp 1 = some (.arr 5 (es.map sE.O)) → hget s.hp 2 = some (.arr 4 [[.ref 0 0 l.length, .ref 1 0 es.length, .i .i64 nn, .i .i64 ne]]) → hget s.hp 3 = some (.arr 4 [[.nl, .nl, .i .i64 0, .i .i64 0]]) → hget s.hp 4 = some (.arr 1 (L.map sI.O)) →
          tget s.tm 21 = .b false → tget s.tm 8 = .ref 4 0 L.length → tget s.tm 1 = .i .i64 id → tget s.tm 3 = .ptr 2 0 0 → tget s.tm 6 = .ptr 3 0 0 →
          Wk s ⟨[(21, .b false), (8, .ref 4 0 L.length), (1, .i .i64 id), (3, .ptr 2 0 0), (6, .ptr 3 0 0)], [(10, .arr 3 (l.map sN.O)), (11, .arr 5 (es.map sE.O)), (2, .arr 4 [[.ref 10 0 l.length, .ref 11 0 es.length, .i .i64 nn, .i .i64 ne]]), (3, .arr 4 [[.nl, .nl, .i .i64 0, .i .i64 0]]), (4, .arr 1 (L.map sI.O))], 20, 2⟩ := by
        intro s hs g0 g1 g2 g3 g4 t1 t2 t3 t4 t5
        refine Wk.ren (fun t => if t = 10 then 0 else if t = 11 then 1 else t) hs.symm (by simp [hs]) (by intro t ht; rw [if_neg (by omega), if_neg (by omega)]) (by simp [t1, t2, t3, t4, t5]) ?_ (by simp)
        simp [Blk.rn, Blk.names, rns, g0, g1, g2, g3, g4, namesr_clean hcN, namesr_clean hcE, namesr_clean hLc, rnr_cl hcN, rnr_cl hcE, rnr_cl hLc]
      rcases Nat.lt_or_ge 0 L.length with c2 | c2
      · have hdt : det = true := by simpa [c2] using e2
        simp [c2, hdt]
        exact rnm _ rfl rfl rfl rfl rfl rfl rfl rfl rfl rfl rfl
      · have c3 : ¬ 0 < L.length := by omega
        simp [c3]
        exact rnm _ rfl rfl rfl rfl rfl rfl rfl rfl rfl rfl rfl
    refine WW_of_W ?_
    simp
    refine WW_seq (WW_of_W ?_)
    simp
    refine W_for (fun i => ⟨[(9, .i .i64 i), (8, .ref 4 0 L.length), (1, .i .i64 id), (3, .ptr 2 0 0), (6, .ptr 3 0 0)], [(10, .arr 3 (l.map sN.O)), (11, .arr 5 ((es.filter (fun e => !(L.take i).contains e.id)).map sE.O)), (2, .arr 4 [[.ref 10 0 l.length, .ref 11 0 (es.filter (fun e => !(L.take i).contains e.id)).length, .i .i64 nn, .i .i64 ne]]), (3, .arr 4 [[.nl, .nl, .i .i64 0, .i .i64 0]]), (4, .arr 1 (L.map sI.O))], 20, 2⟩) L.length (fun _ => True) ?_ trivial ?_
    · have e3 : es.filter (fun _ => true) = es := List.filter_eq_self.2 (by simp)
      exact Wk.less rfl (by simp) (by simp) (by simp [e3])
    intro i hi _
    rcases Nat.lt_or_ge i L.length with h3 | h3
    · obtain ⟨x, hx⟩ : ∃ x, L[i]? = some x := ⟨_, List.getElem?_eq_getElem h3⟩
      have hw : IntKind.i64.wrap ((i : Int) + 1) = (i : Int) + 1 := wrap1 (by omega)
      have htk : L.take (i + 1) = L.take i ++ [x] := by rw [List.take_add_one, hx]; simp
      have hE := hdE (es.filter (fun e => !(L.take i).contains e.id)) (Nat.le_trans (List.length_filter_le _ _) hl) x
      have hff : (es.filter (fun e => !(L.take i).contains e.id)).filter (fun e => !decide (e.id = x)) = es.filter (fun e => !(L.take (i + 1)).contains e.id) := by
        rw [List.filter_filter, htk]
        congr 1
        funext e
        by_cases q1 : e.id = x
        · simp [q1]
        · simp [q1]
      simp only [gDropE] at hE
      rw [hff] at hE
      generalize es.filter (fun e => !(L.take i).contains e.id) = E1 at *
      generalize es.filter (fun e => !(L.take (i + 1)).contains e.id) = E2 at *
      have hc1 := sE.crO E1
      have hc2 := sE.crO E2
      simp [-getElem?_pos, hx, hw, h3]
      refine hookH_callX [0] [(10, .arr 3 (l.map sN.O)), (11, .arr 5 (E1.map sE.O))] hE (by simp [handedX, handedXA, handedXs, handedX1, T.closed]) (bk := []) (by simp [backX, backXA, backXs, backX1, T.closed]) rfl ok1 (by simp) (by simp [named]) (by simp [named]) ?_
      simp [-getElem?_pos, hx, hw, h3, dX]
      repeat with_reducible refine need_mk (by decide +kernel) ?_
      refine Wk.ren (fun t => if t = 10 then 60 else if t = 11 then 61 else t) rfl (by simp) (by intro t ht; simp only at ht; rw [if_neg (by omega), if_neg (by omega)]) (by simp) ?_ (by simp)
      simp [Blk.rn, Blk.names, rns, namesr_clean hcN, namesr_clean hc2, namesr_clean hLc, rnr_cl hcN, rnr_cl hc2, rnr_cl hLc]
    · have h4 : ¬ i < L.length := by omega
      rw [List.take_of_length_le h3]
      generalize hE1 : es.filter (fun e => !L.contains e.id) = E1 at *
      have hc1 := sE.crO E1
      simp [h4]
      refine WW_seq (WW_of_W ?_)
      simp
      refine WW_seq (WW_of_W ?_)
      simp
      refine W_for (fun i => ⟨[(11, .i .i64 i), (10, .ref 12 0 ((l.take i).filter (fun n => !decide (n.id = id))).length), (1, .i .i64 id), (3, .ptr 2 0 0), (6, .ptr 3 0 0)], [(10, .arr 3 ((l.map (xN id)).take i ++ (l.map sN.O).drop i)), (11, .arr 5 (E1.map sE.O)), (2, .arr 4 [[.ref 10 0 l.length, .ref 11 0 E1.length, .i .i64 nn, .i .i64 ne]]), (3, .arr 4 [[.nl, .nl, .i .i64 0, .i .i64 0]]), (12, .arr 3 (((l.take i).filter (fun n => !decide (n.id = id))).map sN.O))], 30, 2⟩) l.length (fun _ => True) ?_ trivial ?_
      · refine Wk.ren (fun t => if t = 12 then 20 else t) rfl (by simp) (by intro t ht; simp only at ht; rw [if_neg (by omega)]) (by simp) ?_ (by simp)
        simp [Blk.rn, Blk.names, rns, namesr_clean hcN, namesr_clean hc1, rnr_cl hcN, rnr_cl hc1]
      clear h4 h3 hi i
      intro i hi _
      rcases Nat.lt_or_ge i l.length with h3 | h3
      · obtain ⟨x, hx⟩ : ∃ x, l[i]? = some x := ⟨_, List.getElem?_eq_getElem h3⟩
        have hw : IntKind.i64.wrap ((i : Int) + 1) = (i : Int) + 1 := wrap1 (by omega)
        have hfl : ((l.take i).filter (fun n => !decide (n.id = id))).length ≤ i := Nat.le_trans (List.length_filter_le _ _) (by simp; omega)
        have htk : l.take (i + 1) = l.take i ++ [x] := by rw [List.take_add_one, hx]; simp
        have hrow := mix_get (f := xN id) (g := sN.O) hx
        have hset := mix_set (f := xN id) (g := sN.O) hx
        have hgt := mix_get2 (f := xN id) (g := sN.O) hx
        have hset2 := mix_set2 (f := xN id) (g := sN.O) hx
        have hnew := mix_new (f := xN id) (g := sN.O) hx
        have hsame := mix_same (f := xN id) (g := sN.O) hx
        have hx0 := mix_clN (xN_cl id) sN.crO l i
        have hx1 := mix_clN (xN_cl id) sN.crO l (i + 1)
        obtain ⟨a, lb, ps⟩ := x
        rw [htk, List.filter_append]
        generalize (l.take i).filter (fun n => !decide (n.id = id)) = A at *
        have hcA := sN.crO A
        by_cases c : a = id
        · have hs := hsame (by simp [xN, c])
          rw [hs]
          simp [-getElem?_pos, hx, hw, h3, c, hrow]
          exact Wk.to rfl (by simp) (by simp) (by simp [Blk.names, namesr_clean hcA, namesr_clean hx0, namesr_clean hc1]) (by simp)
        · have hbig : (A.length + 1) * 56 ≤ 35184372088832 := by omega
          have hcB := sN.crO (A ++ [⟨a, lb, ps⟩])
          rw [List.map_append] at hcB
          simp only [List.map_cons, List.map_nil, sN_O] at hcB
          have hdN : xN id ⟨a, lb, ps⟩ = [.i .i64 a, .dead, .dead] := by simp [xN, c]
          rw [hdN] at hnew
          have hA : (A.map sN.O).length = A.length := by simp
          have hg2 := app1_get hA
          have hs3 := app1_set hA
          simp [-getElem?_pos, hx, hw, h3, c, hbig, hrow, hset]
          refine Wk.trans (Wk.join (b := 10) (r := i) (cs := [.i .i64 a, .dead, .dead]) rfl (by simp [hgt]; rfl) (by simp) (by simp)) ?_
          refine Wk.trans (Wk.join (b := 34) (r := A.length) (cs := [.i .i64 a, .own 1 (lb.map sS.O), .own 5 (ps.map sP.O)]) rfl (by simp [hg2]; rfl) (by simp) (by simp)) ?_
          rw [hnew] at hx1 ⊢
          refine Wk.ren (fun t => if t = 12 then 34 else t) rfl (by simp) (by intro t ht; simp only at ht; rw [if_neg (by omega)]) (by simp) ?_ (by simp)
          simp [Blk.rn, Blk.names, rns, namesr_clean hx1, namesr_clean hcB, namesr_clean hc1, rnr_cl hx1, rnr_cl hcB, rnr_cl hc1, hset2, hs3]
      · obtain rfl : i = l.length := by omega
        have e3 : (l.map (xN id)).take l.length = l.map (xN id) := List.take_of_length_le (by simp)
        have e4 : (l.map sN.O).drop l.length = [] := by simp
        have hcA := sN.crO (l.filter (fun n => !decide (n.id = id)))
        simp [e3, e4]
        refine WW_of_W ?_
        simp
        exact fin_eaten (by simp; rfl) (by simp [hcA, ← hE1]) (by simp)
end Go.Proofs.Ytehdfbhfbidadaa.V
/- Draws: how big graphs are that are drawn. -/
namespace Go.Proofs.Ytehdfbhfbidadaa.V
open Go
set_option linter.unusedVariables false
set_option linter.unusedSimpArgs false
set_option maxHeartbeats 16000000
def LsB (s : List Tx) : Prop := s.length ≤ 3 ∧ LbB s
def PsB (s : List Pr) : Prop := s.length ≤ 5 ∧ PrB 2100 s
structure GB (N : Int) (g : Gr) : Prop where
  nl : g.nodes.length ≤ 12
  el : g.edges.length ≤ 17
  nd : ∀ x ∈ g.nodes, i64 x.id ∧ LsB x.labels ∧ PsB x.props
  ed : ∀ x ∈ g.edges, i64 x.id ∧ x.kind.length ≤ 8 ∧ i64 x.frm ∧ i64 x.to ∧ PsB x.props
  nn : -1 ≤ g.nn ∧ g.nn ≤ N
  ne : -1 ≤ g.ne ∧ g.ne ≤ N
theorem LsB.ln {s : List Tx} (h : LsB s) : ln s ∧ ∀ x ∈ s, ln x := ⟨by have := h.1; simp only [V.ln]; omega, fun x hx => by have := h.2 x hx; simp only [V.ln]; omega⟩
theorem PsB.ln {s : List Pr} (h : PsB s) : ln s ∧ ∀ x ∈ s, x.fit := ⟨by have := h.1; simp only [V.ln]; omega, fun x hx => (h.2 x hx).1⟩
theorem PsB.cl {s : List Pr} (h : PsB s) : cl Pr.cnt s ≤ 10505 := by
  have h1 := h.1
  have h2 := sums_bound (c := Pr.cnt) (B := 2100) (l := s) (fun x hx => (h.2 x hx).2)
  have h3 : s.length * 2100 ≤ 5 * 2100 := Nat.mul_le_mul_right _ h1
  unfold V.cl; omega
theorem LsB.cl {s : List Tx} (h : LsB s) : cl List.length s ≤ 27 := by
  have h1 := h.1
  have h2 := sums_bound (c := List.length) (B := 8) (l := s) (fun x hx => h.2 x hx)
  have h3 : s.length * 8 ≤ 3 * 8 := Nat.mul_le_mul_right _ h1
  unfold V.cl; omega
theorem GB.fit {N : Int} {g : Gr} (h : GB N g) (hN : N ≤ 2 ^ 40) : g.fit := by
  have h1 := h.nn
  have h2 := h.ne
  refine ⟨by have := h.nl; simp only [V.ln]; omega, fun x hx => ?_, by have := h.el; simp only [V.ln]; omega, fun x hx => ?_, by simp only [i64]; omega, by simp only [i64]; omega⟩
  · obtain ⟨a1, a2, a3⟩ := h.nd x hx
    exact ⟨a1, a2.ln.1, a2.ln.2, a3.ln.1, a3.ln.2⟩
  · obtain ⟨a1, a2, a3, a4, a5⟩ := h.ed x hx
    exact ⟨a1, by simp only [V.ln]; omega, a3, a4, a5.ln.1, a5.ln.2⟩
theorem GB.cnt {N : Int} {g : Gr} (h : GB N g) : g.cnt ≤ 2 ^ 19 := by
  have h1 := h.nl
  have h2 := h.el
  have h3 := sums_bound (c := Nd.cnt) (B := 10532) (l := g.nodes) (fun x hx => by
    obtain ⟨a1, a2, a3⟩ := h.nd x hx
    have := a2.cl; have := a3.cl
    unfold Nd.cnt; omega)
  have h4 := sums_bound (c := Eg.cnt) (B := 10513) (l := g.edges) (fun x hx => by
    obtain ⟨a1, a2, a3, a4, a5⟩ := h.ed x hx
    have := a5.cl
    unfold Eg.cnt; omega)
  have h5 : g.nodes.length * 10532 ≤ 12 * 10532 := Nat.mul_le_mul_right _ h1
  have h6 : g.edges.length * 10513 ≤ 17 * 10513 := Nat.mul_le_mul_right _ h2
  unfold Gr.cnt V.cl; omega
theorem GB.mono {N M : Int} {g : Gr} (h : GB N g) (hm : N ≤ M) : GB M g := ⟨h.nl, h.el, h.nd, h.ed, by have := h.nn; omega, by have := h.ne; omega⟩
theorem GB.nAdd {N : Int} {g : Gr} (h : GB N g) (hN : N < 2 ^ 40) {lb : List Tx} {ps : List Pr} (hl : LsB lb) (hp : PsB ps) : GB (N + 1) (nAdd g lb ps).1 := by
  unfold V.nAdd
  split
  · rename_i c
    have h1 := h.nn
    refine ⟨by have := c.2.2.1; simp only [gAddN, List.length_append, List.length_singleton]; omega, h.el, fun x hx => ?_, h.ed, by simp only [gAddN]; omega, by have := h.ne; simp only [gAddN]; omega⟩
    rcases List.mem_append.1 hx with hx | hx
    · exact h.nd x hx
    · simp only [List.mem_singleton] at hx
      subst hx
      exact ⟨by simp only [i64]; omega, hl, hp⟩
  · exact h.mono (by omega)
theorem GB.eAdd {N : Int} {g : Gr} (h : GB N g) (hN : N < 2 ^ 40) {kd : Tx} {fr to : Int} {ps : List Pr} (hk : kd.length ≤ 8) (hf : i64 fr) (ht : i64 to) (hp : PsB ps) : GB (N + 1) (eAdd g kd fr to ps).1 := by
  unfold V.eAdd
  split
  · rename_i c
    have h1 := h.ne
    refine ⟨h.nl, by have := c.2.2.2.2.1; simp only [gAddE, List.length_append, List.length_singleton]; omega, h.nd, fun x hx => ?_, by have := h.nn; simp only [gAddE]; omega, by simp only [gAddE]; omega⟩
    rcases List.mem_append.1 hx with hx | hx
    · exact h.ed x hx
    · simp only [List.mem_singleton] at hx
      subst hx
      exact ⟨by simp only [i64]; omega, hk, hf, ht, hp⟩
  · exact h.mono (by omega)
theorem GB.dropN {N : Int} {g : Gr} (h : GB N g) (id : Int) (det : Bool) : GB N (dropN g id det).1 := by
  unfold V.dropN
  split
  · exact h
  · exact ⟨Nat.le_trans (List.length_filter_le _ _) h.nl, Nat.le_trans (List.length_filter_le _ _) h.el, fun x hx => h.nd x (List.mem_filter.1 hx).1, fun x hx => h.ed x (List.mem_filter.1 hx).1, h.nn, h.ne⟩
theorem eAdd_nodes (g : Gr) (kd : Tx) (fr to : Int) (ps : List Pr) : (eAdd g kd fr to ps).1.nodes = g.nodes := by
  unfold V.eAdd
  split <;> rfl
theorem lab_P : LabelsOk [[80]] := by
  refine ⟨?_, by simp⟩
  intro i x h
  rcases i with _ | i
  · simp at h; subst h
    exact ⟨by decide +kernel, fun y h0 => absurd h0 (by omega)⟩
  · simp at h
theorem props_nil : PropsOk [] := ⟨Each.nil, by simp⟩
/-- Nodes are added until there are twelve. -/
noncomputable def fillN : Nat → Gr → Gr
  | 0, g => g
  | n + 1, g => fillN n (nAdd g [[80]] []).1
theorem nAdd_P {g : Gr} (h1 : g.nodes.length < 12) (h2 : g.nn < 1000000000) : (nAdd g [[80]] []).1 = gAddN g [[80]] [] := by
  unfold V.nAdd
  rw [if_pos ⟨lab_P, props_nil, h1, h2⟩]
theorem lsB_P : LsB [[80]] := ⟨by simp, by intro x hx; simp at hx; subst hx; simp⟩
theorem psB_nil : PsB [] := ⟨by simp, by intro x hx; simp at hx⟩
theorem GB.fill {N : Int} : ∀ (n : Nat) {g : Gr}, GB N g → N + n < 2 ^ 40 → GB (N + n) (fillN n g)
  | 0, g, h, _ => by simpa [fillN] using h
  | n + 1, g, h, hN => by
    have h1 := h.nAdd (lb := [[80]]) (ps := []) (by omega) lsB_P psB_nil
    have h2 := GB.fill n h1 (by omega)
    rw [show (N + ((n + 1 : Nat) : Int)) = N + 1 + n by omega]
    exact h2
theorem fillN_succ : ∀ (n : Nat) (g : Gr), fillN (n + 1) g = (nAdd (fillN n g) [[80]] []).1
  | 0, g => rfl
  | n + 1, g => by
    have := fillN_succ n (nAdd g [[80]] []).1
    simp only [fillN] at this ⊢
    exact this
theorem fillN_len {N : Int} (g : Gr) (h : GB N g) : ∀ (n : Nat), g.nodes.length + n ≤ 12 → N + n ≤ 1000 → (fillN n g).nodes.length = g.nodes.length + n
  | 0, _, _ => rfl
  | n + 1, h1, h2 => by
    have ih := fillN_len g h n (by omega) (by omega)
    have hb := (GB.fill n h (by omega)).nn
    rw [fillN_succ, nAdd_P (by omega) (by omega)]
    simp only [gAddN, List.length_append, List.length_singleton]; omega
end Go.Proofs.Ytehdfbhfbidadaa.V
/- Draws: graphs that steps made. -/
namespace Go.Proofs.Ytehdfbhfbidadaa.V
open Go
set_option linter.unusedVariables false
set_option linter.unusedSimpArgs false
set_option maxHeartbeats 16000000
def GraphR (b : List UInt8) (p : Nat) (g : Gr) (p' : Nat) : Prop := GB 100 g ∧ Ret Try.prog 137 [rdT b p] (.agg (sG.O g)) [rdT b p']
def NRound (b : List UInt8) (g : Gr) (p : Nat) (g' : Gr) (p' : Nat) : Prop := GB 100 g ∧ ∃ lb ps pm, LabelsR b p lb pm ∧ PropsR b pm ps p' ∧ g' = (nAdd g lb ps).1
theorem LabelsR.b {b : List UInt8} {p p' : Nat} {s : List Tx} (h : LabelsR b p s p') : LsB s := ⟨by have := h.1; omega, h.2.1⟩
theorem PropsR.b {b : List UInt8} {p p' : Nat} {s : List Pr} (h : PropsR b p s p') : PsB s := ⟨by have := h.1; omega, h.2.1.mono (by omega)⟩
theorem gb_zero : GB 0 zG := ⟨by simp [zG], by simp [zG], by simp [zG], by simp [zG], by simp [zG], by simp [zG]⟩
theorem nrounds (b : List UInt8) (hb : b.length ≤ 2 ^ 20) (n : Nat) (hn : n ≤ 6) (p : Nat) (hp : p + n * 202 ≤ 2 ^ 50) : ∃ (st : Nat → Gr) (q : Nat → Nat), st 0 = zG ∧ q 0 = p ∧ (∀ i, i ≤ n → p ≤ q i ∧ q i ≤ p + i * 202 ∧ GB i (st i)) ∧ ∀ i, i < n → NRound b (st i) (q i) (st (i + 1)) (q (i + 1)) := by
  refine rounds (σ := Gr) (C := 202) (B := 2 ^ 50) (Inv := fun i g => GB i g) (R := fun _ => NRound b) n ?_ zG p gb_zero hp
  intro i g p hi h hp
  obtain ⟨lb, pm, h1, h2, h3⟩ := labels_d b hb p (by omega)
  obtain ⟨ps, p', h4, h5, h6⟩ := props_d b hb pm (by omega)
  exact ⟨_, p', by omega, by omega, h.nAdd (by omega) h3.b h6.b, h.mono (by omega), lb, ps, pm, h3, h6, rfl⟩
/-- A state while a graph is drawn: the reader, what is returned, the graph. -/
def gst (b : List UInt8) (q : Nat) (g : Gr) (tm : List (Nat × T)) : St := ⟨tm ++ [(2, .ptr 1 0 0), (3, .ptr 2 0 0), (0, .ptr 0 0 0)], [(0, .arr 2 [[.imm (u8T b), .i .i64 (q : Int)]]), (1, .arr 4 [[.nl, .nl, .i .i64 0, .i .i64 0]]), (2, .arr 4 [sG.O g])], 10, 1⟩
def ERound (b : List UInt8) (g : Gr) (p : Nat) (g' : Gr) (p' : Nat) : Prop := GB 100 g ∧ g.nodes ≠ [] ∧ ∃ (kd : Tx) (pa : Nat) (fr : Nat) (pb : Nat) (to : Nat) (pc : Nat) (ps : List Pr), kd.length ≤ 8 ∧ (fr : Int) < g.nodes.length ∧ (to : Int) < g.nodes.length ∧
  Ret Try.prog 79 [rdT b p, .imm ([[75], [75], [76]].map fun x => [.s x])] (.s kd) [rdT b pa, .dead] ∧ Ret Try.prog 77 [rdT b pa, .i .i64 g.nodes.length] (.i .i64 fr) [rdT b pb, .dead] ∧ Ret Try.prog 77 [rdT b pb, .i .i64 g.nodes.length] (.i .i64 to) [rdT b pc, .dead] ∧ PropsR b pc ps p' ∧ g' = (eAdd g kd fr to ps).1
theorem erounds (b : List UInt8) (hb : b.length ≤ 2 ^ 20) (m : Nat) (hm : m ≤ 6) (g0 : Gr) (h0 : GB 6 g0) (hn0 : m ≠ 0 → g0.nodes ≠ []) (p : Nat) (hp : p + m * 203 ≤ 2 ^ 50) : ∃ (st : Nat → Gr) (q : Nat → Nat), st 0 = g0 ∧ q 0 = p ∧ (∀ i, i ≤ m → p ≤ q i ∧ q i ≤ p + i * 203 ∧ GB (6 + i) (st i) ∧ (st i).nodes = g0.nodes) ∧ ∀ i, i < m → ERound b (st i) (q i) (st (i + 1)) (q (i + 1)) := by
  have hr := rounds (σ := Gr) (C := 203) (B := 2 ^ 50) (Inv := fun i g => GB (6 + i) g ∧ g.nodes = g0.nodes) (R := fun _ => ERound b) m ?_ g0 p ⟨by simpa using h0, rfl⟩ hp
  · exact hr
  intro i g p hi ⟨h, hn⟩ hp
  have hne : g.nodes ≠ [] := by rw [hn]; exact hn0 (by omega)
  have hpos := List.length_pos_iff.2 hne
  have hnl := h.nl
  obtain ⟨kd, pa, h1, h2, h3, h4⟩ := of_d b hb p (by omega) [[75], [75], [76]] (by simp) (by simp)
  obtain ⟨fr, pb, h5, h6, h7, h8⟩ := pick_d b hb pa (by omega) g.nodes.length (by omega)
  obtain ⟨to, pc, e5, e6, e7, e8⟩ := pick_d b hb pb (by omega) g.nodes.length (by omega)
  obtain ⟨ps, p', e1, e2, e3⟩ := props_d b hb pc (by omega)
  have hk : kd.length ≤ 8 := by simp at h3; rcases h3 with rfl | rfl <;> simp
  refine ⟨_, p', by omega, by omega, ⟨?_, (eAdd_nodes _ _ _ _ _).trans hn⟩, h.mono (by omega), hne, kd, pa, fr, pb, to, pc, ps, hk, h7, e7, h4, h8, e8, e3, rfl⟩
  have := h.eAdd (kd := kd) (fr := fr) (to := to) (ps := ps) (by omega) hk (by simp only [i64]; omega) (by simp only [i64]; omega) e3.b
  rw [show (6 + ((i + 1 : Nat) : Int)) = 6 + i + 1 by omega]
  exact this
/-- The same, the graph's rows by name. -/
def gst2 (b : List UInt8) (q : Nat) (g : Gr) (tm : List (Nat × T)) : St := ⟨tm ++ [(2, .ptr 1 0 0), (3, .ptr 2 0 0), (0, .ptr 0 0 0)], [(0, .arr 2 [[.imm (u8T b), .i .i64 (q : Int)]]), (1, .arr 4 [[.nl, .nl, .i .i64 0, .i .i64 0]]), (2, .arr 4 [[.ref 10 0 g.nodes.length, .ref 11 0 g.edges.length, .i .i64 g.nn, .i .i64 g.ne]]), (10, .arr 3 (g.nodes.map sN.O)), (11, .arr 5 (g.edges.map sE.O))], 20, 1⟩
theorem gst_split (b : List UInt8) (q : Nat) (g : Gr) (tm : List (Nat × T)) (htm : ∀ x ∈ tm ++ [(2, .ptr 1 0 0), (3, .ptr 2 0 0), (0, .ptr 0 0 0)], x.2 = tget (tm ++ [(2, .ptr 1 0 0), (3, .ptr 2 0 0), (0, .ptr 0 0 0)]) x.1) : Wk (gst b q g tm) (gst2 b q g tm) := by
  obtain ⟨l, es, nn, ne⟩ := g
  refine Wk.trans (Wk.split (tk := 2) (r := 0) (q := 0) (M := 4) (sz := 4) (rows := [sG.O ⟨l, es, nn, ne⟩]) (row := sG.O ⟨l, es, nn, ne⟩) (by simp [gst]) rfl (by simp)) ?_
  simp only [gst, gst2]
  exact Wk.less rfl (by simp) htm (by simp)
theorem gst_join (b : List UInt8) (q : Nat) (g : Gr) (tm : List (Nat × T)) (htm : ∀ x ∈ tm ++ [(2, .ptr 1 0 0), (3, .ptr 2 0 0), (0, .ptr 0 0 0)], x.2 = tget (tm ++ [(2, .ptr 1 0 0), (3, .ptr 2 0 0), (0, .ptr 0 0 0)]) x.1 ∧ ∀ y ∈ x.2.names, y < 10) : Wk (gst2 b q g tm) (gst b q g tm) := by
  obtain ⟨l, es, nn, ne⟩ := g
  have hcN := sN.crO l
  have hcE := sE.crO es
  have hc := namess_clean (sG.cO ⟨l, es, nn, ne⟩)
  refine Wk.trans (Wk.join (b := 2) (r := 0) (sz := 4) (rows := [[.ref 10 0 l.length, .ref 11 0 es.length, .i .i64 nn, .i .i64 ne]]) (row := [.ref 10 0 l.length, .ref 11 0 es.length, .i .i64 nn, .i .i64 ne]) (cs := sG.O ⟨l, es, nn, ne⟩) (by simp [gst2]) rfl (by simp [gst2]) (by simp)) ?_
  simp only [gst, gst2]
  exact Wk.to rfl (by simp) htm (by simp [Blk.names]) (by simp)
def D3 (b : List UInt8) (g : Gr) (p : Nat) (g' : Gr) (p' : Nat) : Prop := (g.nodes = [] ∧ g' = g ∧ p' = p) ∨
  (g.nodes ≠ [] ∧ ∃ k : Nat, k ≠ 0 ∧ Ret Try.prog 77 [rdT b p, .i .i64 5] (.i .i64 k) [rdT b p', .dead] ∧ g' = g) ∨
  (g.nodes ≠ [] ∧ ∃ (pa id : Nat), Ret Try.prog 77 [rdT b p, .i .i64 5] (.i .i64 0) [rdT b pa, .dead] ∧ Ret Try.prog 77 [rdT b pa, .i .i64 g.nodes.length] (.i .i64 id) [rdT b p', .dead] ∧ g' = (dropN g id true).1)
theorem d3 (b : List UInt8) (hb : b.length ≤ 2 ^ 20) {N : Int} (g : Gr) (h : GB N g) (p : Nat) (hp : p + 2 ≤ 2 ^ 50) : ∃ g' p', p ≤ p' ∧ p' ≤ p + 2 ∧ GB N g' ∧ D3 b g p g' p' := by
  by_cases e : g.nodes = []
  · exact ⟨g, p, by omega, by omega, h, .inl ⟨e, rfl, rfl⟩⟩
  obtain ⟨k, p1, h1, h2, h3, h4⟩ := pick_d b hb p (by omega) 5 (by omega)
  by_cases hk : k = 0
  · subst hk
    have hpos := List.length_pos_iff.2 e
    obtain ⟨id, p2, e1, e2, e3, e4⟩ := pick_d b hb p1 (by omega) g.nodes.length (by omega)
    exact ⟨_, p2, by omega, by omega, h.dropN id true, .inr (.inr ⟨e, p1, id, h4, e4, rfl⟩)⟩
  · exact ⟨g, p1, by omega, by omega, h, .inr (.inl ⟨e, k, hk, h4, rfl⟩)⟩
def D4 (b : List UInt8) (g : Gr) (p : Nat) (g' : Gr) (p' : Nat) : Prop := (∃ k : Nat, k ≠ 0 ∧ Ret Try.prog 77 [rdT b p, .i .i64 30] (.i .i64 k) [rdT b p', .dead] ∧ g' = g) ∨
  (Ret Try.prog 77 [rdT b p, .i .i64 30] (.i .i64 0) [rdT b p', .dead] ∧ g' = fillN (12 - g.nodes.length) g)
theorem d4 (b : List UInt8) (hb : b.length ≤ 2 ^ 20) {N : Int} (g : Gr) (h : GB N g) (hN : N ≤ 50) (p : Nat) (hp : p + 2 ≤ 2 ^ 50) : ∃ g' p', p ≤ p' ∧ p' ≤ p + 2 ∧ GB 100 g' ∧ D4 b g p g' p' := by
  obtain ⟨k, p1, h1, h2, h3, h4⟩ := pick_d b hb p (by omega) 30 (by omega)
  by_cases hk : k = 0
  · subst hk
    exact ⟨_, p1, by omega, by omega, (GB.fill (12 - g.nodes.length) h (by omega)).mono (by omega), .inr ⟨h4, rfl⟩⟩
  · exact ⟨g, p1, by omega, by omega, h.mono (by omega), .inl ⟨k, hk, h4, rfl⟩⟩
set_option maxRecDepth 20000 in
theorem graph_d (b : List UInt8) (hb : b.length ≤ 2 ^ 20) (p : Nat) (hp : p + 5000 ≤ 2 ^ 50) : ∃ g p', p ≤ p' ∧ p' ≤ p + 5000 ∧ GraphR b p g p' := by
  obtain ⟨n, p1, n0, n1, n2, hn⟩ := pick_d b hb p (by omega) 7 (by omega)
  obtain ⟨st1, q1, a1, a2, a3, a4⟩ := nrounds b hb n (by omega) p1 (by omega)
  have ok1 : okCall Try.prog 176 = true := by kernel_rfl
  have ok2 : okCall Try.prog 179 = true := by kernel_rfl
  have b1 := a3 n (Nat.le_refl _)
  have b2 : n * 202 ≤ 6 * 202 := Nat.mul_le_mul_right _ (by omega)
  obtain ⟨m, p2, m0, m1, m2, hm⟩ := pick_d b hb (q1 n) (by omega) 7 (by omega)
  obtain ⟨m', hm'⟩ : ∃ m', m' = if (st1 n).nodes = [] then 0 else m := ⟨_, rfl⟩
  have hm6 : m' ≤ 6 := by rw [hm']; split <;> omega
  obtain ⟨st2, q2, d1, d2, d3, d4⟩ := erounds b hb m' hm6 (st1 n) (b1.2.2.mono (by omega)) (fun h e => h (by rw [hm', if_pos e])) p2 (by omega)
  have b3 := d3 m' (Nat.le_refl _)
  have b4 : m' * 203 ≤ 6 * 203 := Nat.mul_le_mul_right _ (by omega)
  obtain ⟨G3, p3, g31, g32, g33, g34⟩ := V.d3 b hb (st2 m') b3.2.2.1 (q2 m') (by omega)
  obtain ⟨G4, p4, g41, g42, g43, g44⟩ := V.d4 b hb G3 g33 (by omega) p3 (by omega)
  refine ⟨G4, p4, by omega, by omega, g43, ?_⟩
  have ok3 : okCall Try.prog 180 = true := by kernel_rfl
  refine Ret.ofS Try.func137 ok_spec_l11Graph rfl rfl (by simp) ?_
  refine WW_seq (WW_of_W ?_)
  simp [rdT]
  refine WW_seq (WW_of_W ?_)
  simp
  refine WW_seq (thn_cut (s2 := gst b (q1 n) (st1 n) []) ?_ ?_)
  · simp
    refine hookH_rd hn rfl rfl (by simp) (by simp [T.im]) rfl ?_
    simp
    refine W_for (fun i => gst b (q1 i) (st1 i) [(4, .i .i64 ((n : Int) - i))]) n (fun _ => True) ?_ trivial ?_
    · refine Wk.trans (Wk.join (b := 2) (r := 0) (cs := sG.O zG) rfl rfl (by simp [zG]) (by simp [zG])) ?_
      simp [gst, a1, a2]
      exact Wk.to rfl (by simp) (by simp) (by simp [Blk.names, zG]) (by simp)
    intro i hi _
    rcases Nat.lt_or_ge i n with h1 | h1
    · have w2 : IntKind.i64.wrap ((n : Int) - i - 1) = (n : Int) - ((i + 1 : Nat) : Int) := by rw [wrap64 (by omega) (by omega)]; omega
      obtain ⟨k1, lb, ps, pm, h2, h3, h4⟩ := a4 i h1
      have c1 := k1.nl
      have c2 := k1.nn
      have hA := l2AddNode_c (st1 i) (by simp only [i64]; omega) (by omega) lb h2.b.ln ps h3.b.ln (by have := h3.b.cl; omega)
      rw [h4]
      generalize nAdd (st1 i) lb ps = r at *
      obtain ⟨⟨l', es', nn', ne'⟩, r2⟩ := r
      generalize st1 i = g at *
      obtain ⟨l, es, nn, ne⟩ := g
      have hcN := sN.crO l
      have hcE := sE.crO es
      simp [gst, h1]
      refine hookH_rd h2.2.2 rfl rfl (by simp) (by simp [T.im]) rfl ?_
      simp
      refine hookH_rd h3.2.2 rfl rfl (by simp) (by simp [T.im]) rfl ?_
      simp
      repeat with_reducible refine need_mk (by decide +kernel) ?_
      refine hookH_callX [0] [(10, .arr 3 (l.map sN.O)), (11, .arr 5 (es.map sE.O)), (26, .arr 1 (lb.map sS.O)), (42, .arr 5 (ps.map sP.O))] hA (by simp [handedX, handedXA, handedXs, handedX1, T.closed]) (bk := []) (by simp [backX, backXA, backXs, backX1, T.closed]) rfl ok1 (by simp) (by simp [named]) (by simp [named]) ?_
      simp [dX, w2, h1]
      repeat with_reducible refine need_mk (by decide +kernel) ?_
      refine Wk.trans (Wk.join (b := 2) (r := 0) (cs := sG.O ⟨l', es', nn', ne'⟩) rfl rfl (by simp) (by simp)) ?_
      exact Wk.to rfl (by simp) (by simp) (by simp [Blk.names]) (by simp)
    · obtain rfl : i = n := by omega
      simp [gst]
      exact Wk.to rfl (by simp) (by simp) (by simp [Blk.names, namess_clean (sG.cO (st1 i))]) (by simp)
  clear hn a4
  refine WW_seq (thn_cut (s2 := gst b (q2 m') (st2 m') []) ?_ ?_)
  · simp [gst]
    refine hookH_rd hm rfl rfl (by simp) (by simp [T.im]) rfl ?_
    simp
    refine W_for (fun i => gst2 b (q2 i) (st2 i) [(5, .i .i64 ((m : Int) - i))]) m' (fun _ => True) ?_ trivial ?_
    · rw [d1, d2]
      refine Wk.trans ?_ (gst_split b p2 (st1 n) [(5, .i .i64 ((m : Int) - (0 : Nat)))] (by simp))
      exact Wk.to rfl (by simp [gst]) (by simp [gst]) (by simp [gst, Blk.names, namess_clean (sG.cO (st1 n))]) (by simp [gst])
    intro i hi _
    rcases Nat.lt_or_ge i m' with h1 | h1
    · obtain ⟨k1, k2, kd, pa, fr, pb, to, pc, ps, f1, f2, f3, r1, r2, r3, r4, r5⟩ := d4 i h1
      have hmm : m' = m := by
        by_cases e : (st1 n).nodes = []
        · rw [if_pos e] at hm'; omega
        · rw [if_neg e] at hm'; exact hm'
      have w2 : IntKind.i64.wrap ((m : Int) - i - 1) = (m : Int) - ((i + 1 : Nat) : Int) := by rw [wrap64 (by omega) (by omega)]; omega
      have c1 := k1.nl
      have c2 := k1.ne
      have c3 := k1.el
      have hA := l2AddEdge_c (st2 i) (by simp only [i64]; omega) (by omega) (by omega) kd (by simp only [ln]; omega) fr to ps r4.b.ln (by have := r4.b.cl; omega)
      rw [r5]
      generalize eAdd (st2 i) kd fr to ps = r at *
      obtain ⟨⟨l', es', nn', ne'⟩, r0⟩ := r
      generalize st2 i = g at *
      obtain ⟨l, es, nn, ne⟩ := g
      have hcN := sN.crO l
      have hcE := sE.crO es
      have k3 : 0 < l.length := List.length_pos_iff.2 k2
      have k4 : i < m := by omega
      simp only at f2 f3 r2 r3
      have k5 : (0 : Int) < (m : Int) - i := by omega
      simp [gst2, k3, k4, k5]
      refine hookH_rdl r1 rfl rfl (by simp) (by simp) (by simp) (by simp) (by simp) (toIr_s _) ?_
      simp
      repeat with_reducible refine need_mk (by decide +kernel) ?_
      refine hookH_rd r2 rfl rfl (by simp) (by simp [T.im]) rfl ?_
      simp
      repeat with_reducible refine need_mk (by decide +kernel) ?_
      refine hookH_rd r3 rfl rfl (by simp) (by simp [T.im]) rfl ?_
      simp
      repeat with_reducible refine need_mk (by decide +kernel) ?_
      refine hookH_rd r4.2.2 rfl rfl (by simp) (by simp [T.im]) rfl ?_
      simp
      repeat with_reducible refine need_mk (by decide +kernel) ?_
      refine hookH_callX [0] [(10, .arr 3 (l.map sN.O)), (11, .arr 5 (es.map sE.O)), (140, .arr 5 (ps.map sP.O))] hA (by simp [handedX, handedXA, handedXs, handedX1, T.closed]) (bk := []) (by simp [backX, backXA, backXs, backX1, T.closed]) rfl ok2 (by simp) (by simp [named]) (by simp [named]) ?_
      have hmh : i < m' := by omega
      simp [dX, w2, hmh]
      repeat with_reducible refine need_mk (by decide +kernel) ?_
      have hcN' := sN.crO l'
      have hcE' := sE.crO es'
      refine Wk.ren (fun t => if t = 10 then 148 else if t = 11 then 149 else t) rfl (by simp) (by intro t ht; simp only at ht; rw [if_neg (by omega), if_neg (by omega)]) (by simp) ?_ (by simp)
      simp [Blk.rn, Blk.names, rns, namesr_clean hcN', namesr_clean hcE', rnr_cl hcN', rnr_cl hcE']
    · obtain rfl : i = m' := by omega
      have hg := (d3 i (Nat.le_refl _)).2.2
      refine W_mono (Q := fun e s' => e = .exit 2 ∧ Wk s' (gst b (q2 i) (st2 i) [])) ?_ ?_
      · have fin : ∀ tm, (∀ x ∈ [((2 : Nat), T.ptr 1 0 0), (3, .ptr 2 0 0), (0, .ptr 0 0 0)], x.2 = tget tm x.1) → Wk ⟨tm, (gst2 b (q2 i) (st2 i) []).hp, 20, 1⟩ (gst b (q2 i) (st2 i) []) := by
          intro tm h
          refine Wk.trans (s' := gst2 b (q2 i) (st2 i) []) (Wk.less rfl (by simp [gst2]) (by simpa [gst2] using h) (by simp [gst2])) (gst_join _ _ _ _ (by simp))
        by_cases e : (st1 n).nodes = []
        · have e2 : (st2 i).nodes = [] := hg.2.trans e
          rw [if_pos e] at hm'
          subst hm'
          have k3 : (st2 0).nodes.length = 0 := by rw [e2]; rfl
          have k3 : ¬ 0 < (st2 0).nodes.length := by omega
          clear e2
          generalize st2 0 = g at *
          obtain ⟨l, es, nn, ne⟩ := g
          simp only at k3
          by_cases k4 : 0 < m
          · simp [gst2, k3, k4]
            refine fin _ ?_
            simp
          · simp [gst2, k3, k4]
            refine fin _ ?_
            simp
        · rw [if_neg e] at hm'
          subst hm'
          simp [gst2]
          refine fin _ ?_
          simp
      · rintro e s' ⟨rfl, h⟩
        simp [thn, inb, h]
  clear hm d4
  have b5 := b3.2.2.1
  clear b3 d3 d2 d1
  generalize q2 m' = q2 at *
  generalize st2 m' = G2 at *
  refine WW_seq (WW_wk (gst_split b q2 G2 [] (by simp)) (thn_cut (s2 := gst b p3 G3 []) ?_ ?_))
  · have fin : ∀ tm q' nx, 20 ≤ nx → (∀ x ∈ [((2 : Nat), T.ptr 1 0 0), (3, .ptr 2 0 0), (0, .ptr 0 0 0)], x.2 = tget tm x.1) → Wk ⟨tm, (gst2 b q' G2 []).hp, nx, 1⟩ (gst b q' G2 []) := by
      intro tm q' nx hx h
      have hcN := sN.crO G2.nodes
      have hcE := sE.crO G2.edges
      refine Wk.trans (s' := gst2 b q' G2 []) (Wk.to rfl (by simp [gst2]) (by simpa [gst2] using h) (by simp [gst2, Blk.names, namesr_clean hcN, namesr_clean hcE]) (by simp [gst2])) (gst_join _ _ _ _ (by simp))
    rcases g34 with ⟨e, rfl, rfl⟩ | ⟨e, k, hk, r1, rfl⟩ | ⟨e, pa, id, r1, r2, e3⟩
    · have k3 : ¬ 0 < G3.nodes.length := by rw [e]; simp
      simp [gst2, k3]
      exact fin _ p3 _ (by simp) (by simp)
    · have k3 : 0 < G3.nodes.length := List.length_pos_iff.2 e
      simp [gst2, k3]
      refine hookH_rd r1 rfl rfl (by simp) (by simp [T.im]) rfl ?_
      simp [hk, k3]
      refine Wk.trans (Wk.less (s' := ⟨[(2, .ptr 1 0 0), (3, .ptr 2 0 0), (0, .ptr 0 0 0)], (gst2 b p3 G3 []).hp, 100, 1⟩) rfl (by simp) (by simp) (by simp [gst2])) (fin _ p3 _ (by simp) (by simp))
    · have k3 : 0 < G2.nodes.length := List.length_pos_iff.2 e
      have hle := b5.el
      have hln := b5.nl
      have hA := l2DropNode_e G2 (by omega) (by omega) id true
      rw [e3]
      clear fin
      generalize dropN G2 id true = r at *
      obtain ⟨⟨l', es', nn', ne'⟩, r0⟩ := r
      obtain ⟨l, es, nn, ne⟩ := G2
      simp only at k3 r2 hln hle
      have hcN := sN.crO l
      have hcE := sE.crO es
      have hcN' := sN.crO l'
      have hcE' := sE.crO es'
      simp [gst2, k3]
      refine hookH_rd r1 rfl rfl (by simp) (by simp [T.im]) rfl ?_
      simp [k3]
      refine hookH_rd r2 rfl rfl (by simp) (by simp [T.im]) rfl ?_
      simp [k3]
      repeat with_reducible refine need_mk (by decide +kernel) ?_
      refine hookH_callX [0] [(10, .arr 3 (l.map sN.O)), (11, .arr 5 (es.map sE.O))] hA (by simp [handedX, handedXA, handedXs, handedX1, T.closed]) (bk := []) (by simp [backX, backXA, backXs, backX1, T.closed]) rfl ok3 (by simp) (by simp [named]) (by simp [named]) ?_
      simp [dX]
      repeat with_reducible refine need_mk (by decide +kernel) ?_
      refine Wk.trans (Wk.join (b := 2) (r := 0) (cs := sG.O ⟨l', es', nn', ne'⟩) rfl rfl (by simp) (by simp)) ?_
      exact Wk.to rfl (by simp [gst]) (by simp [gst]) (by simp [gst, Blk.names, namess_clean (sG.cO _)]) (by simp [gst])
  clear g34 b5
  refine WW_seq (thn_cut (s2 := gst b p4 G4 []) ?_ ?_)
  · rcases g44 with ⟨k, hk, r1, rfl⟩ | ⟨r1, e3⟩
    · simp [gst]
      refine hookH_rd r1 rfl rfl (by simp) (by simp [T.im]) rfl ?_
      simp [hk]
      exact Wk.to rfl (by simp) (by simp) (by simp [Blk.names, namess_clean (sG.cO _)]) (by simp)
    · simp [gst]
      refine hookH_rd r1 rfl rfl (by simp) (by simp [T.im]) rfl ?_
      simp
      have hle := g33.nl
      refine W_for (fun i => gst b p4 (fillN i G3) []) (12 - G3.nodes.length) (fun _ => True) ?_ trivial ?_
      · exact Wk.to rfl (by simp [gst]) (by simp [gst]) (by simp [gst, fillN, Blk.names, namess_clean (sG.cO _)]) (by simp [gst])
      intro i hi _
      have hlen := fillN_len G3 g33 i (by omega) (by omega)
      have hgb := (GB.fill i g33 (by omega))
      rcases Nat.lt_or_ge i (12 - G3.nodes.length) with h1 | h1
      · have hA := l2AddNode_c (fillN i G3) (by have := hgb.nn; simp only [i64]; omega) (by omega) [[80]] lsB_P.ln [] psB_nil.ln (by simp [cl, sums])
        have hnn := hgb.nn
        rw [fillN_succ]
        generalize nAdd (fillN i G3) [[80]] [] = r at *
        obtain ⟨⟨l', es', nn', ne'⟩, r0⟩ := r
        generalize fillN i G3 = g at *
        obtain ⟨l, es, nn, ne⟩ := g
        simp only at hlen
        have hcN := sN.crO l
        have hcE := sE.crO es
        have k1 : l.length < 12 := by omega
        have k2 : (l.length : Int) < 12 := by omega
        simp [gst, k1, k2]
        refine hookH_callX [0] [(10, .arr 3 (l.map sN.O)), (12, .arr 5 (es.map sE.O)), (14, .arr 1 [[.s [80]]]), (15, .arr 5 [])] hA (by simp [handedX, handedXA, handedXs, handedX1, T.closed]) (bk := []) (by simp [backX, backXA, backXs, backX1, T.closed]) rfl ok1 (by simp) (by simp [named]) (by simp [named]) ?_
        simp [dX, h1]
        refine Wk.trans (Wk.join (b := 2) (r := 0) (cs := sG.O ⟨l', es', nn', ne'⟩) rfl rfl (by simp) (by simp)) ?_
        exact Wk.to rfl (by simp) (by simp) (by simp [Blk.names]) (by simp)
      · obtain rfl : i = 12 - G3.nodes.length := by omega
        rw [e3]
        generalize fillN (12 - G3.nodes.length) G3 = g at *
        obtain ⟨l, es, nn, ne⟩ := g
        simp only at hlen
        have hcN := sN.crO l
        have k1 : ¬ l.length < 12 := by omega
        have k2 : ¬ (l.length : Int) < 12 := by omega
        simp [gst, k1, k2]
        refine Wk.trans (Wk.join (b := 2) (r := 0) (cs := sG.O ⟨l, es, nn, ne⟩) rfl rfl (by simp) (by simp)) ?_
        exact Wk.to rfl (by simp) (by simp) (by simp [Blk.names]) (by simp)
  · clear g44
    obtain ⟨l, es, nn, ne⟩ := G4
    refine WW_of_W ?_
    simp [gst]
    exact fin_ret (by simp; rfl) (rfP_ok (by simp)) (by simp) (by simp)
end Go.Proofs.Ytehdfbhfbidadaa.V
/- Draws: any graph; the reader made. -/
namespace Go.Proofs.Ytehdfbhfbidadaa.V
open Go
set_option linter.unusedVariables false
set_option linter.unusedSimpArgs false
set_option maxHeartbeats 16000000
def GA (g : Gr) : Prop := g.fit ∧ g.cnt ≤ 600000
theorem GB.ga {N : Int} {g : Gr} (h : GB N g) (hN : N ≤ 2 ^ 40) : GA g := ⟨h.fit hN, by have := h.cnt; omega⟩
def AnyGraphR (b : List UInt8) (p : Nat) (g : Gr) (p' : Nat) : Prop := GA g ∧ Ret Try.prog 75 [rdT b p] (.agg (sG.O g)) [rdT b p']
set_option maxRecDepth 20000 in
theorem anyGraph_d (b : List UInt8) (hb : b.length ≤ 2 ^ 20) (p : Nat) (hp : p + 6000 ≤ 2 ^ 50) : ∃ g p', p ≤ p' ∧ p' ≤ p + 6000 ∧ AnyGraphR b p g p' := by
  obtain ⟨g, p1, g1, g2, g3, hg⟩ := graph_d b hb p (by omega)
  obtain ⟨j, p2, j0, j1, j2, hj⟩ := pick_d b hb p1 (by omega) 16 (by omega)
  have hc := g3.cnt
  have hC := l2Copy_c g (by omega)
  rcases (by omega : j = 0 ∨ j = 1 ∨ (j = 2 ∧ 0 < g.nodes.length) ∨ (j = 2 ∧ g.nodes.length = 0) ∨ 3 ≤ j) with rfl | rfl | ⟨rfl, hl⟩ | ⟨rfl, hl⟩ | hj3
  · obtain ⟨x, p3, x0, x1, x2, e⟩ := one_d b hb p2 (by omega) [0, -1, 1000000000, 3] (by simp)
    obtain ⟨l, es, nn, ne⟩ := g
    have hx : -1 ≤ x ∧ x ≤ 1000000000 := by simp at x2; omega
    have hga : GB 1000000000 ⟨l, es, x, ne⟩ := ⟨g3.nl, g3.el, g3.nd, g3.ed, by simp only; omega, by have := g3.ne; simp only at this ⊢; omega⟩
    refine ⟨_, p3, by omega, by omega, hga.ga (by omega), ?_⟩
    refine via_spec_l11AnyGraph (by simp) ?_
    simp [pc_spec_l11AnyGraph, rdT]
    refine hookH_rd hg rfl rfl (by simp) (by simp [T.im]) rfl ?_
    simp
    refine callK_val (by simp) hC (by simp [T.noImm]) ?_
    simp
    refine hookH_rd hj rfl rfl (by simp) (by simp [T.im]) rfl ?_
    simp
    refine hookH_rdl e rfl rfl (by simp) (by simp) (by simp) (by simp) (by simp) (toIr_i _) ?_
    simp
    exact fin_ret (by simp; rfl) (rfP_ok (by simp)) (by simp) (by simp)
  · obtain ⟨a, p3, x0, x1, x2, e1⟩ := pick_d b hb p2 (by omega) 2 (by omega)
    obtain ⟨fr, p4, y0, y1, y2, e2⟩ := pick_d b hb p3 (by omega) 4 (by omega)
    obtain ⟨to, p5, z0, z1, z2, e3⟩ := pick_d b hb p4 (by omega) 9 (by omega)
    have hf := g3.fit (by omega)
    obtain ⟨l, es, nn, ne⟩ := g
    have hne := g3.ne
    have hel := g3.el
    simp only at hne hel
    have hw : IntKind.i64.wrap (ne - a) = ne - a := wrap64 (by omega) (by omega)
    refine ⟨⟨l, es ++ [⟨ne - a, [75], fr, to, []⟩], nn, ne⟩, p5, by omega, by omega, ⟨⟨hf.1, hf.2.1, by simp only [ln, List.length_append, List.length_singleton]; omega, ?_, hf.2.2.2.2⟩, ?_⟩, ?_⟩
    · intro x hx
      rcases List.mem_append.1 hx with hx | hx
      · exact hf.2.2.2.1 x hx
      · simp only [List.mem_singleton] at hx
        subst hx
        exact ⟨by simp only [i64]; omega, by simp [ln], by simp only [i64]; omega, by simp only [i64]; omega, by simp [ln], by simp⟩
    · simp only [Gr.cnt, cl, sums, List.map_append, List.sum_append, List.length_append, List.length_singleton, List.map_cons, List.map_nil, List.sum_cons, List.sum_nil, Eg.cnt, List.length_nil] at hc ⊢
      omega
    have hbb : (es.length + 1) * 64 ≤ 35184372088832 := by omega
    have hcN := sN.crO l
    have hcE := sE.crO es
    refine via_spec_l11AnyGraph (by simp) ?_
    simp [pc_spec_l11AnyGraph, rdT]
    refine hookH_rd hg rfl rfl (by simp) (by simp [T.im]) rfl ?_
    simp
    refine callK_val (by simp) hC (by simp [T.noImm]) ?_
    simp
    refine hookH_rd hj rfl rfl (by simp) (by simp [T.im]) rfl ?_
    simp
    refine hookH_rd e1 rfl rfl (by simp) (by simp [T.im]) rfl ?_
    simp [hw]
    repeat with_reducible refine need_mk (by decide +kernel) ?_
    refine hookH_rd e2 rfl rfl (by simp) (by simp [T.im]) rfl ?_
    simp
    repeat with_reducible refine need_mk (by decide +kernel) ?_
    refine hookH_rd e3 rfl rfl (by simp) (by simp [T.im]) rfl ?_
    simp [hbb, hw]
    repeat with_reducible refine need_mk (by decide +kernel) ?_
    have hA : (es.map sE.O).length = es.length := by simp
    have hg2 := app1_get hA
    have hs3 := app1_set hA
    refine fin_wk (Wk.join (b := 116) (r := es.length) (cs := sE.O ⟨ne - a, [75], fr, to, []⟩) rfl (by simp [hg2]; rfl) (by simp) (by simp)) ?_
    simp [hs3]
    exact fin_ret (by simp; rfl) (rfP_ok (by simp [List.take_of_length_le])) (by simp) (by simp)
  · obtain ⟨ps, p3, x0, x1, e1⟩ := anyProps_d b hb p2 (by omega)
    obtain ⟨lb, p4, y0, y1, e2⟩ := anyLabels_d b hb p3 (by omega)
    obtain ⟨l, es, nn, ne⟩ := g
    obtain ⟨nd, l, rfl⟩ : ∃ a b, l = a :: b := by cases l with | nil => simp at hl | cons a b => exact ⟨a, b, rfl⟩
    have hnd := g3.nd nd (by simp)
    have hga : GB 100 ⟨⟨nd.id, lb, ps⟩ :: l, es, nn, ne⟩ := ⟨by have := g3.nl; simpa using this, g3.el, fun x hx => by
      rcases List.mem_cons.1 hx with rfl | hx
      · exact ⟨hnd.1, ⟨e2.1, e2.2.1⟩, ⟨e1.1, e1.2.1⟩⟩
      · exact g3.nd x (by simp [hx]), g3.ed, g3.nn, g3.ne⟩
    refine ⟨_, p4, by omega, by omega, hga.ga (by omega), ?_⟩
    have hcN := sN.crO l
    have hcE := sE.crO es
    obtain ⟨id, lb0, ps0⟩ := nd
    have hll : (0 : Int) < (l.length : Int) + 1 := by omega
    refine via_spec_l11AnyGraph (by simp) ?_
    simp [pc_spec_l11AnyGraph, rdT]
    refine hookH_rd hg rfl rfl (by simp) (by simp [T.im]) rfl ?_
    simp
    refine callK_val (by simp) hC (by simp [T.noImm]) ?_
    simp
    refine hookH_rd hj rfl rfl (by simp) (by simp [T.im]) rfl ?_
    simp [hll]
    refine hookH_rd e1.2.2 rfl rfl (by simp) (by simp [T.im]) rfl ?_
    simp [hll]
    repeat with_reducible refine need_mk (by decide +kernel) ?_
    refine hookH_rd e2.2.2 rfl rfl (by simp) (by simp [T.im]) rfl ?_
    simp [hll]
    repeat with_reducible refine need_mk (by decide +kernel) ?_
    refine fin_wk (Wk.join (b := 6) (r := 0) (cs := sN.O ⟨id, lb, ps⟩) rfl rfl (by simp) (by simp)) ?_
    simp
    exact fin_ret (by simp; rfl) (rfP_ok (by simp [List.take_of_length_le])) (by simp) (by simp)
  · refine ⟨g, p2, by omega, by omega, g3.ga (by omega), ?_⟩
    obtain ⟨l, es, nn, ne⟩ := g
    obtain rfl : l = [] := List.length_eq_zero_iff.1 hl
    refine via_spec_l11AnyGraph (by simp) ?_
    simp [pc_spec_l11AnyGraph, rdT]
    refine hookH_rd hg rfl rfl (by simp) (by simp [T.im]) rfl ?_
    simp
    refine callK_val (by simp) hC (by simp [T.noImm]) ?_
    simp
    refine hookH_rd hj rfl rfl (by simp) (by simp [T.im]) rfl ?_
    simp
    exact fin_ret (by simp; rfl) (rfP_ok (by simp)) (by simp) (by simp)
  · have c0 : ¬ j = 0 := by omega
    have c1 : ¬ j = 1 := by omega
    have c2 : ¬ j = 2 := by omega
    have c0' : ¬ (j : Int) = 0 := by omega
    have c1' : ¬ (j : Int) = 1 := by omega
    have c2' : ¬ (j : Int) = 2 := by omega
    refine ⟨g, p2, by omega, by omega, g3.ga (by omega), ?_⟩
    obtain ⟨l, es, nn, ne⟩ := g
    refine via_spec_l11AnyGraph (by simp) ?_
    simp [pc_spec_l11AnyGraph, rdT]
    refine hookH_rd hg rfl rfl (by simp) (by simp [T.im]) rfl ?_
    simp
    refine callK_val (by simp) hC (by simp [T.noImm]) ?_
    simp
    refine hookH_rd hj rfl rfl (by simp) (by simp [T.im]) rfl ?_
    simp [c0, c1, c2, c0', c1', c2']
    exact fin_ret (by simp; rfl) (rfP_ok (by simp)) (by simp) (by simp)
end Go.Proofs.Ytehdfbhfbidadaa.V
/- The reader made. -/
namespace Go.Proofs.Ytehdfbhfbidadaa.V
open Go
set_option linter.unusedVariables false
set_option linter.unusedSimpArgs false
set_option maxHeartbeats 16000000
theorem u8T_len (b : List UInt8) : (u8T b).length = b.length := by simp [u8T]
set_option maxRecDepth 20000 in
theorem open_c (b : List UInt8) : Ret Try.prog 74 [.imm (u8T b)] (rdT (b.take 2000) 0) [.dead] := by
  have hl := u8T_len b
  refine via_spec_l1Open (by simp) ?_
  by_cases c : 2000 < (b.length : Int)
  · have c' : 2000 ≤ b.length := by omega
    have e : (u8T b).take 2000 = u8T (b.take 2000) := by simp [u8T]
    have hr : ∀ r ∈ u8T b, r.length = 1 := by intro r hr; simp [u8T] at hr; obtain ⟨c, _, rfl⟩ := hr; rfl
    simp [pc_spec_l1Open, hl, c, c', e]
    refine need_mk (by omega) (need_mk hr ?_)
    exact fin_ret (ts := [0]) (by simp; rfl) (by simp [rdT]) (by simp) (by simp)
  · have e : b.take 2000 = b := List.take_of_length_le (by omega)
    simp [pc_spec_l1Open, hl, c, e]
    exact fin_ret (ts := [0]) (by simp; rfl) (by simp [rdT]) (by simp) (by simp)
theorem hookH_open {s : St} {n : Nat} {c : Call} {b : List UInt8} {K : T → Δ → List Nat → Prop} (hc : c.callee = .value (.func 74)) (hok : okCall Try.prog 74 = true) (hK : K (.ptr n 0 0) [(n, some (.arr 2 [[.imm (u8T (b.take 2000)), .i .i64 ((0 : Nat) : Int)]]))] []) : @hookH Try.prog s n ⟨.call c⟩ [.fn 74 [], .imm (u8T b)] ⟨K⟩ := by
  refine hookH_callX [] [] (open_c b) (by simp [handedX]) (bk := []) (by simp [backX]) hc hok (by simp) (by simp [named]) (by simp [named]) ?_
  simpa [dX, named, rdT] using hK
theorem take_le (b : List UInt8) : (b.take 2000).length ≤ 2 ^ 20 := by simp; omega
end Go.Proofs.Ytehdfbhfbidadaa.V
/- The draw of what is looked for. -/
namespace Go.Proofs.Ytehdfbhfbidadaa.V
open Go
set_option linter.unusedVariables false
set_option linter.unusedSimpArgs false
set_option maxHeartbeats 8000000
theorem propGet_fit {g : Gr} (h : g.fit) (v : Vl) (nm : Tx) : (propGet g v nm).fit := by
  have hz : zV.fit := by simp [zV, Vl.fit_mk, i64, ln]
  have hp : ∀ ps, propsOf g v = some ps → ∀ p ∈ ps, p.fit := by
    intro ps hp
    unfold propsOf at hp
    split at hp
    · obtain ⟨x, h1, rfl⟩ := Option.map_eq_some_iff.1 hp
      exact (h.2.1 x (List.mem_of_find?_eq_some h1)).2.2.2.2
    · split at hp
      · obtain ⟨x, h1, rfl⟩ := Option.map_eq_some_iff.1 hp
        exact (h.2.2.2.1 x (List.mem_of_find?_eq_some h1)).2.2.2.2.2
      · exact absurd hp (by simp)
  unfold propGet
  cases hq : propsOf g v with
  | none => exact hz
  | some ps =>
    simp only
    unfold getP
    cases hf : ps.find? (fun p => decide (p.name = nm)) with
    | none => exact hz
    | some p => exact (hp ps hq p (List.mem_of_find?_eq_some hf)).2
set_option maxRecDepth 20000 in
theorem DrawFindBy_d (code : List UInt8) : ∃ g lb nm v, GA g ∧ ln lb ∧ ln nm ∧ v.fit ∧ Ri Try.prog 30 [.imm (u8T code)] (.tup [.agg (sG.I g), .s lb, .s nm, .agg (sV.I v)]) := by
  obtain ⟨g, p1, _, _, ga, h⟩ := anyGraph_d (code.take 2000) (take_le _) 0 (by omega)
  obtain ⟨v, p2, _, _, v1, v2, h2⟩ := anyValue_d (code.take 2000) (take_le _) p1 (by omega)
  have hpn : ∀ (w : Vl) (p : Nat), w.fit → p ≤ 2 ^ 21 → ∃ (lb nm : Tx) (p3 p4 : Nat), ln lb ∧ ln nm ∧ Ret Try.prog 79 [rdT (code.take 2000) p, .imm ([[80], [81], []].map fun x => [.s x])] (.s lb) [rdT (code.take 2000) p3, .dead] ∧ Ret Try.prog 79 [rdT (code.take 2000) p3, .imm ([[110], [110, 97, 109, 101]].map fun x => [.s x])] (.s nm) [rdT (code.take 2000) p4, .dead] := by
    intro w p _ hp
    obtain ⟨lb, p3, _, _, k3, h3⟩ := of_d (code.take 2000) (take_le _) p (by omega) [[80], [81], []] (by simp) (by simp)
    obtain ⟨nm, p4, _, _, k4, h4⟩ := of_d (code.take 2000) (take_le _) p3 (by omega) [[110], [110, 97, 109, 101]] (by simp) (by simp)
    refine ⟨lb, nm, p3, p4, ?_, ?_, h3, h4⟩
    · simp at k3; rcases k3 with rfl | rfl | rfl <;> simp [ln]
    · simp at k4; rcases k4 with rfl | rfl <;> simp [ln]
  have hga := ga
  obtain ⟨hgf, hgc⟩ := hga
  have hl1 : ln g.nodes ∧ ln g.edges := by unfold Gr.cnt cl at hgc; unfold ln; omega
  by_cases hg0 : 0 < g.nodes.length
  · obtain ⟨a, p3, _, _, k3, h3⟩ := pick_d (code.take 2000) (take_le _) p2 (by omega) 3 (by omega)
    by_cases ha : 0 < a
    · obtain ⟨b, p4, _, _, k4, h4⟩ := pick_d (code.take 2000) (take_le _) p3 (by omega) g.nodes.length (by omega)
      have hb : b < g.nodes.length := by omega
      obtain ⟨x, hx⟩ : ∃ x, g.nodes[b]? = some x := ⟨_, List.getElem?_eq_getElem hb⟩
      have hget := l2Get_c g hl1 (by omega) (.mk 5 x.id [] []) [110]
      have hvf := propGet_fit hgf (.mk 5 x.id [] []) [110]
      generalize propGet g (.mk 5 x.id [] []) [110] = w at *
      obtain ⟨lb, nm, p5, p6, l5, l6, h5, h6⟩ := hpn w p4 hvf (by omega)
      refine ⟨g, lb, nm, w, ga, l5, l6, hvf, .tup [.agg (sG.O g), .s lb, .s nm, .agg (sV.O w)], ?_, by simp [sG.toO, sV.toO]⟩
      obtain ⟨l, es, nn, ne⟩ := g
      obtain ⟨k, n, s, vl⟩ := v
      obtain ⟨k', n', s', vl'⟩ := w
      obtain ⟨id, ls, ps⟩ := x
      simp only at hg0 hb hx hget h4
      have hg0' : l.length ≠ 0 := by omega
      have hcN := sN.crO l
      have hcE := sE.crO es
      refine via_spec_DrawFindBy (by simp) ?_
      simp [pc_spec_DrawFindBy]
      refine hookH_open rfl rfl ?_
      simp
      refine hookH_rd h rfl rfl (by simp) (by simp [T.im]) rfl ?_
      simp
      refine hookH_rd h2 rfl rfl (by simp) (by simp [T.im]) rfl ?_
      simp [hg0, hg0']
      refine hookH_rd h3 rfl rfl (by simp) (by simp [T.im]) rfl ?_
      simp [ha, hg0, hg0']
      refine hookH_rd h4 rfl rfl (by simp) (by simp [T.im]) rfl ?_
      simp [-getElem?_pos, hx, hb, ha, hg0, hg0']
      repeat with_reducible refine need_mk (by first | decide +kernel | simp) ?_
      refine callK_val (by simp) hget (by simp [T.noImm]) ?_
      simp [-getElem?_pos, hx, hb, ha, hg0, hg0']
      repeat with_reducible refine need_mk (by first | decide +kernel | simp) ?_
      refine hookH_rdl h5 rfl rfl (by simp) (by simp) (by simp) (by simp) (by simp) (toIr_s _) ?_
      simp [-getElem?_pos, hx, hb, ha, hg0, hg0']
      repeat with_reducible refine need_mk (by first | decide +kernel | simp) ?_
      refine hookH_rdl h6 rfl rfl (by simp) (by simp) (by simp) (by simp) (by simp) (toIr_s _) ?_
      simp [-getElem?_pos, hx, hb, ha, hg0, hg0']
      repeat with_reducible refine need_mk (by first | decide +kernel | simp) ?_
      exact fin_own (by simp; rfl) (by simp) (by simp) (by simp)
    · obtain ⟨lb, nm, p5, p6, l5, l6, h5, h6⟩ := hpn v p3 v1 (by omega)
      refine ⟨g, lb, nm, v, ga, l5, l6, v1, .tup [.agg (sG.O g), .s lb, .s nm, .agg (sV.O v)], ?_, by simp [sG.toO, sV.toO]⟩
      obtain ⟨l, es, nn, ne⟩ := g
      obtain ⟨k, n, s, vl⟩ := v
      simp only at hg0
      have hg0' : l.length ≠ 0 := by omega
      refine via_spec_DrawFindBy (by simp) ?_
      simp [pc_spec_DrawFindBy]
      refine hookH_open rfl rfl ?_
      simp
      refine hookH_rd h rfl rfl (by simp) (by simp [T.im]) rfl ?_
      simp
      refine hookH_rd h2 rfl rfl (by simp) (by simp [T.im]) rfl ?_
      simp [hg0, hg0']
      refine hookH_rd h3 rfl rfl (by simp) (by simp [T.im]) rfl ?_
      simp [ha, hg0, hg0']
      repeat with_reducible refine need_mk (by first | decide +kernel | simp) ?_
      refine hookH_rdl h5 rfl rfl (by simp) (by simp) (by simp) (by simp) (by simp) (toIr_s _) ?_
      simp [ha, hg0, hg0']
      repeat with_reducible refine need_mk (by first | decide +kernel | simp) ?_
      refine hookH_rdl h6 rfl rfl (by simp) (by simp) (by simp) (by simp) (by simp) (toIr_s _) ?_
      simp [ha, hg0, hg0']
      repeat with_reducible refine need_mk (by first | decide +kernel | simp) ?_
      exact fin_own (by simp; rfl) (by simp) (by simp) (by simp)
  · obtain ⟨lb, nm, p5, p6, l5, l6, h5, h6⟩ := hpn v p2 v1 (by omega)
    refine ⟨g, lb, nm, v, ga, l5, l6, v1, .tup [.agg (sG.O g), .s lb, .s nm, .agg (sV.O v)], ?_, by simp [sG.toO, sV.toO]⟩
    obtain ⟨l, es, nn, ne⟩ := g
    obtain ⟨k, n, s, vl⟩ := v
    simp only at hg0
    obtain rfl : l = [] := List.eq_nil_of_length_eq_zero (by omega)
    clear hg0
    refine via_spec_DrawFindBy (by simp) ?_
    simp [pc_spec_DrawFindBy]
    refine hookH_open rfl rfl ?_
    simp
    refine hookH_rd h rfl rfl (by simp) (by simp [T.im]) rfl ?_
    simp
    refine hookH_rd h2 rfl rfl (by simp) (by simp [T.im]) rfl ?_
    simp
    repeat with_reducible refine need_mk (by first | decide +kernel | simp) ?_
    refine hookH_rdl h5 rfl rfl (by simp) (by simp) (by simp) (by simp) (by simp) (toIr_s _) ?_
    simp
    repeat with_reducible refine need_mk (by first | decide +kernel | simp) ?_
    refine hookH_rdl h6 rfl rfl (by simp) (by simp) (by simp) (by simp) (by simp) (toIr_s _) ?_
    simp
    repeat with_reducible refine need_mk (by first | decide +kernel | simp) ?_
    exact fin_own (by simp; rfl) (by simp) (by simp) (by simp)
end Go.Proofs.Ytehdfbhfbidadaa.V
/- What laws compare with: equal data are equal. -/
namespace Go.Proofs.Ytehdfbhfbidadaa.V
open Go
set_option linter.unusedVariables false
set_option linter.unusedSimpArgs false
set_option maxHeartbeats 4000000
theorem asValue_c (v : Vl) : v.fit → Rv Try.prog 38 [.agg (sV.I v), .agg (sV.I v)] (.b true) := by
  refine Vl.ind (p := fun v => v.fit → Rv Try.prog 38 [.agg (sV.I v), .agg (sV.I v)] (.b true)) ?_ v
  intro k n s l ih hf
  obtain ⟨_, _, hs, hl, hv⟩ := Vl.fit_mk.1 hf
  refine via_laws_asValue (by simp) ?_
  simp [pc_laws_asValue]
  refine W_for (fun i => ⟨[(5, .i .i64 i), (2, .ptr 0 0 0), (3, .ptr 1 0 0)], [(0, .arr 4 [sV.I (.mk k n s l)]), (1, .arr 4 [sV.I (.mk k n s l)])], 20, 0⟩) l.length (fun i => True) (Wk.less rfl (by simp) (by simp) (by simp)) trivial ?_
  intro i hi _
  rcases Nat.lt_or_ge i l.length with h2 | h2
  · obtain ⟨x, hx⟩ : ∃ x, l[i]? = some x := ⟨_, List.getElem?_eq_getElem h2⟩
    have hw : IntKind.i64.wrap ((i : Int) + 1) = (i : Int) + 1 := wrap1 (by omega)
    have hc := ih x (List.mem_of_getElem? hx) (hv x (List.mem_of_getElem? hx))
    simp [-getElem?_pos, hx, hw, h2]
    refine callK_val (by simp) hc rfl ?_
    simp [-getElem?_pos, hx, hw, h2]
    exact Wk.to rfl (by simp) (by simp) (by simp [Blk.names]) (by simp)
  · have h3 : ¬ i < l.length := by omega
    simp [h3]
    exact fin_val rfl (by simp) (by simp)
theorem asInts_c (l : List Int) (hl : ln l) : Rv Try.prog 32 [.imm (l.map sI.I), .imm (l.map sI.I)] (.b true) := by
  refine via_laws_asInts (by simp) ?_
  simp [pc_laws_asInts]
  refine W_for (fun i => ⟨[(5, .i .i64 i), (0, .imm (l.map sI.I)), (1, .imm (l.map sI.I))], [], 0, 0⟩) l.length (fun i => True) (Wk.less rfl (by simp) (by simp) (by simp)) trivial ?_
  intro i hi _
  rcases Nat.lt_or_ge i l.length with h2 | h2
  · obtain ⟨x, hx⟩ : ∃ x, l[i]? = some x := ⟨_, List.getElem?_eq_getElem h2⟩
    have hw : IntKind.i64.wrap ((i : Int) + 1) = (i : Int) + 1 := wrap1 (by omega)
    simp [-getElem?_pos, hx, hw, h2]
    exact Wk.to rfl (by simp) (by simp) (by simp) (by simp)
  · have h3 : ¬ i < l.length := by omega
    simp [h3]
    exact fin_val rfl (by simp) (by simp)
end Go.Proofs.Ytehdfbhfbidadaa.V
