/- The law FnPropSet of the given program holds of every input (theorem fnPropSet_holds, the last of these texts): part 6 of 8. -/
import Derived.Test.YtehdfbhfbidadaaProg
import Derived.Shelf.RegionOpenPlain
import Derived.WalkKit
import Derived.Lib.Walk
import Derived.Lib.SliceRun
import Derived.Lib.JoinLaws
import Derived.Lib.AppendZeros
import Derived.Lib.AppendZerosOnto
import Derived.Lib.Overlaps
import Derived.Laws.Externs
import Derived.Laws.IdiomCopy
import Derived.Test.YtehdfbhfbidadaaZFnPropSet5
/- Texts Dw1, Dw2, Dw3, Dw4, Dr0, Dw5, Dw6, Dw7, Dw8, Dw9, Dv1, Dv2, Dv3, Dv4, Dsp, De1, De2, Dg0, Dg1, Dg2, Dop, Dfind, Da1. -/
/- Draws: the reader of a code. -/
namespace Go.Proofs.Ytehdfbhfbidadaa.V
open Go
set_option linter.unusedVariables false
set_option linter.unusedSimpArgs false
set_option maxHeartbeats 16000000
def u8T (b : List UInt8) : List (List T) := b.map fun c => [.i .u8 (c.toNat : Int)]
def rdT (b : List UInt8) (p : Nat) : T := .bx [.imm (u8T b), .i .i64 (p : Int)]
theorem fin_two {P : Program} {s : St} {rs : List ResultVar} {args outs : List T} {r : T} {xs : List T} (h1 : resK P s rs = some xs) (h2 : rfP s (res1 xs) r) (h3 : taken s args (mats args 0).1 = some outs) (h4 : (rfN (res1 xs) r ++ takenN args (mats args 0).1).Nodup) : fin P rs args r outs .ret s :=
  fin_ret h1 (rfP_ok h2) h3 h4
theorem xor_pos {x y : Int} (hx : 0 ≤ x) (hx' : x < 2 ^ 60) (hy : 0 ≤ y) (hy' : y < 2 ^ 60) : 0 ≤ IntKind.i64.wrap ((BitVec.ofInt IntKind.i64.bits x ^^^ BitVec.ofInt IntKind.i64.bits y).toNat : Int) := by
  obtain ⟨a, rfl⟩ : ∃ a : Nat, x = a := ⟨x.toNat, by omega⟩
  obtain ⟨b, rfl⟩ : ∃ b : Nat, y = b := ⟨y.toNat, by omega⟩
  have e : ∀ c : Nat, (c : Int) < 2 ^ 60 → (BitVec.ofInt IntKind.i64.bits (c : Int)).toNat = c := by
    intro c hc
    simp [IntKind.bits]
    omega
  have hlt : a ^^^ b < 2 ^ 60 := Nat.xor_lt_two_pow (by omega) (by omega)
  rw [BitVec.toNat_xor, e a hx', e b hy']
  generalize a ^^^ b = c at *
  rw [wrap64 (by omega) (by omega)]
  omega
theorem tmod_lt {x n : Int} (hx : 0 ≤ x) (hn : 1 ≤ n) : 0 ≤ x.tmod n ∧ x.tmod n < n := by
  rw [Int.tmod_eq_emod_of_nonneg hx]
  exact ⟨Int.emod_nonneg _ (by omega), Int.emod_lt_of_pos _ (by omega)⟩
theorem wrap_u8 (c : UInt8) : IntKind.i64.wrap (c.toNat : Int) = (c.toNat : Int) := by
  have := c.toNat_lt
  exact wrap64 (by omega) (by omega)
set_option maxRecDepth 20000 in
theorem pick_c (b : List UInt8) (p : Nat) (hp : p ≤ 2 ^ 50) (hb : b.length ≤ 2 ^ 20) (n : Int) : ∃ k : Int, 0 ≤ k ∧ (1 ≤ n → k < n) ∧ Ret Try.prog 77 [rdT b p, .i .i64 n] (.i .i64 k) [rdT b (p + 1), .dead] := by
  have w1 : IntKind.i64.wrap ((p : Int) + 1) = (p : Int) + 1 := wrap64 (by omega) (by omega)
  have w2 : IntKind.i64.wrap (p : Int) = (p : Int) := wrap64 (by omega) (by omega)
  by_cases c1 : n < 1
  · refine ⟨0, by omega, fun h => by omega, ?_⟩
    refine via_spec_l1Rd_pick (by simp) ?_
    simp [pc_spec_l1Rd_pick, rdT, c1, w1]
    exact fin_two (by simp; rfl) (by simp) (by simp) (by simp)
  by_cases c2 : b.length = 0
  · refine ⟨0, by omega, fun h => by omega, ?_⟩
    obtain rfl : b = [] := List.length_eq_zero_iff.1 c2
    refine via_spec_l1Rd_pick (by simp) ?_
    simp [pc_spec_l1Rd_pick, rdT, c1, w1, u8T]
    exact fin_two (by simp; rfl) (by simp) (by simp) (by simp)
  have c2' : b ≠ [] := fun e => c2 (by simp [e])
  have hn0 : n ≠ 0 := by omega
  by_cases c3 : p < b.length
  · obtain ⟨c, hc⟩ : ∃ c, b[p]? = some c := ⟨_, List.getElem?_eq_getElem c3⟩
    have hk := tmod_lt (x := (c.toNat : Int)) (n := n) (by omega) (by omega)
    refine ⟨(c.toNat : Int).tmod n, hk.1, fun _ => hk.2, ?_⟩
    refine via_spec_l1Rd_pick (by simp) ?_
    simp [-getElem?_pos, pc_spec_l1Rd_pick, rdT, c1, c2, c2', c3, hc, w1, w2, u8T, wrap_u8]
    refine need_mk hn0 ?_
    exact fin_two (by simp; rfl) (by simp) (by simp) (by simp)
  · have hL : 0 < b.length := by omega
    obtain ⟨a1, h1⟩ : ∃ c, b[p % b.length]? = some c := ⟨_, List.getElem?_eq_getElem (Nat.mod_lt _ hL)⟩
    obtain ⟨a2, h2⟩ : ∃ c, b[(p * 7 + 3) % b.length]? = some c := ⟨_, List.getElem?_eq_getElem (Nat.mod_lt _ hL)⟩
    have hq : p / b.length ≤ p := Nat.div_le_self _ _
    have b1 := a1.toNat_lt
    have b2 := a2.toNat_lt
    have m1 : ((p : Int)).tmod (b.length : Int) = (p : Int) % (b.length : Int) := Int.tmod_eq_emod_of_nonneg (by omega)
    have m2 : ((p : Int) * 7 + 3).tmod (b.length : Int) = ((p : Int) * 7 + 3) % (b.length : Int) := Int.tmod_eq_emod_of_nonneg (by omega)
    have t1 : ((p : Int) % (b.length : Int)).toNat = p % b.length := by rw [← Int.natCast_emod]; rfl
    have t2 : (((p : Int) * 7 + 3) % (b.length : Int)).toNat = (p * 7 + 3) % b.length := by
      rw [show (p : Int) * 7 + 3 = ((p * 7 + 3 : Nat) : Int) by omega, ← Int.natCast_emod]; rfl
    have z1 : (0 : Int) ≤ (p : Int) % (b.length : Int) := Int.emod_nonneg _ (by omega)
    have z2 : (0 : Int) ≤ ((p : Int) * 7 + 3) % (b.length : Int) := Int.emod_nonneg _ (by omega)
    have w3 : IntKind.i64.wrap ((p : Int) * 7) = (p : Int) * 7 := wrap64 (by omega) (by omega)
    have w4 : IntKind.i64.wrap ((p : Int) * 7 + 3) = (p : Int) * 7 + 3 := wrap64 (by omega) (by omega)
    have w5 : IntKind.i64.wrap ((a1.toNat : Int) * 131) = (a1.toNat : Int) * 131 := wrap64 (by omega) (by omega)
    have w6 : IntKind.i64.wrap ((a2.toNat : Int) * 1117) = (a2.toNat : Int) * 1117 := wrap64 (by omega) (by omega)
    have w7 : IntKind.i64.wrap ((a1.toNat : Int) * 131 + (a2.toNat : Int) * 1117) = (a1.toNat : Int) * 131 + (a2.toNat : Int) * 1117 := wrap64 (by omega) (by omega)
    have w8 : IntKind.i64.wrap ((p : Int) * 29) = (p : Int) * 29 := wrap64 (by omega) (by omega)
    have hlz : (b.length : Int) ≠ 0 := by omega
    have hqe : (p : Int) / (b.length : Int) = ((p / b.length : Nat) : Int) := (Int.natCast_ediv _ _).symm
    have q0 : 0 ≤ (p : Int) / (b.length : Int) := Int.ediv_nonneg (by omega) (by omega)
    have q1 : (p : Int) / (b.length : Int) ≤ p := Int.ediv_le_self _ (by omega)
    clear hqe
    generalize hQ : (p : Int) / (b.length : Int) = q at *
    have w9 : IntKind.i64.wrap ((a1.toNat : Int) * 131 + (a2.toNat : Int) * 1117 + (p : Int) * 29) = (a1.toNat : Int) * 131 + (a2.toNat : Int) * 1117 + (p : Int) * 29 := wrap64 (by omega) (by omega)
    have w10 : IntKind.i64.wrap q = q := wrap64 (by omega) (by omega)
    have w11 : IntKind.i64.wrap (q * 53) = q * 53 := wrap64 (by omega) (by omega)
    have w12 : IntKind.i64.wrap ((a1.toNat : Int) * 131 + (a2.toNat : Int) * 1117 + (p : Int) * 29 + q * 53) = (a1.toNat : Int) * 131 + (a2.toNat : Int) * 1117 + (p : Int) * 29 + q * 53 := wrap64 (by omega) (by omega)
    obtain ⟨x, hx⟩ : ∃ x : Int, x = (a1.toNat : Int) * 131 + (a2.toNat : Int) * 1117 + (p : Int) * 29 + q * 53 := ⟨_, rfl⟩
    have x0 : 0 ≤ x := by omega
    have x1 : x < 2 ^ 60 := by omega
    rw [← hx] at w12
    have e13 : x / 64 ≤ x := by omega
    have e14 : x.tdiv 64 = x / 64 := Int.tdiv_eq_ediv_of_nonneg x0
    have w13 : IntKind.i64.wrap (x / 64) = x / 64 := wrap64 (by omega) (by omega)
    have hk := tmod_lt (x := IntKind.i64.wrap ((BitVec.ofInt IntKind.i64.bits x ^^^ BitVec.ofInt IntKind.i64.bits (x / 64)).toNat : Int)) (n := n) (xor_pos x0 x1 (by omega) (by omega)) (by omega)
    refine ⟨_, hk.1, fun _ => hk.2, ?_⟩
    have hX : ∀ r, r = (IntKind.i64.wrap (((x % 2 ^ IntKind.i64.bits).toNat ^^^ (IntKind.i64.wrap (x.tdiv 64) % 2 ^ IntKind.i64.bits).toNat : Nat) : Int)).tmod n → (IntKind.i64.wrap ((BitVec.ofInt IntKind.i64.bits x ^^^ BitVec.ofInt IntKind.i64.bits (x / 64)).toNat : Int)).tmod n = r := by
      intro r hr
      rw [hr, e14, w13, BitVec.toNat_xor, BitVec.toNat_ofInt, BitVec.toNat_ofInt]
      rfl
    rw [hX _ rfl]
    refine via_spec_l1Rd_pick (by simp) ?_
    simp [-getElem?_pos, pc_spec_l1Rd_pick, rdT, c1, c2, c2', c3, w1, w2, u8T, wrap_u8, m1, m2, t1, t2, z1, z2, w3, w4, w5, w6, w7, w8, w9, w10, w11, w12, h1, h2, hlz, hQ, ← hx]
    refine need_mk hn0 ?_
    exact fin_two (by simp; rfl) (by simp) (by simp) (by simp)
end Go.Proofs.Ytehdfbhfbidadaa.V
/- Draws: one of a list, one of some texts, the small values. -/
namespace Go.Proofs.Ytehdfbhfbidadaa.V
open Go
set_option linter.unusedVariables false
set_option linter.unusedSimpArgs false
set_option maxHeartbeats 16000000
set_option maxRecDepth 20000 in
theorem one_c (b : List UInt8) (p : Nat) (hp : p ≤ 2 ^ 50) (hb : b.length ≤ 2 ^ 20) (xs : List Int) (hx : xs ≠ []) : ∃ x ∈ xs, Ret Try.prog 138 [rdT b p, .imm (xs.map fun x => [.i .i64 x])] (.i .i64 x) [rdT b (p + 1), .dead] := by
  obtain ⟨k, k0, kn, h⟩ := pick_c b p hp hb (xs.length : Int)
  have kl := kn (by have := List.length_pos_iff.2 hx; omega)
  obtain ⟨j, rfl⟩ : ∃ j : Nat, k = j := ⟨k.toNat, by omega⟩
  have hj : j < xs.length := by omega
  refine ⟨xs[j], List.getElem_mem hj, ?_⟩
  refine via_spec_l1Rd_one (by simp) ?_
  simp [pc_spec_l1Rd_one, rdT]
  refine hookH_callX [0] [(0, .arr 2 [[.imm (u8T b), .i .i64 p]])] h (by simp [handedX, handedXA, handedXs, handedX1, T.closed, rdT]) (bk := [(0, .arr 2 [[.imm (u8T b), .i .i64 ((p + 1 : Nat) : Int)]])]) (by simp [backX, backXA, backXs, backX1, T.closed, rdT]) rfl rfl (by simp) (by simp [named]) (by simp [named]) ?_
  simp [dX, hj]
  exact fin_two (by simp; rfl) (by simp [hj]) (by simp) (by simp)
end Go.Proofs.Ytehdfbhfbidadaa.V
/- Draws: one of some texts, many of a text, a bool. -/
namespace Go.Proofs.Ytehdfbhfbidadaa.V
open Go
set_option linter.unusedVariables false
set_option linter.unusedSimpArgs false
set_option maxHeartbeats 16000000
set_option maxRecDepth 20000 in
theorem of_c (b : List UInt8) (p : Nat) (hp : p ≤ 2 ^ 50) (hb : b.length ≤ 2 ^ 20) (xs : List (List UInt8)) (hl : xs.length ≤ 2 ^ 20) (hx : xs ≠ []) : ∃ x ∈ xs, Ret Try.prog 79 [rdT b p, .imm (xs.map fun x => [.s x])] (.s x) [rdT b (p + 1), .dead] := by
  obtain ⟨k, k0, kn, h⟩ := pick_c b p hp hb (xs.length : Int)
  have kl := kn (by have := List.length_pos_iff.2 hx; omega)
  obtain ⟨j, rfl⟩ : ∃ j : Nat, k = j := ⟨k.toNat, by omega⟩
  have hj : j < xs.length := by omega
  refine ⟨xs[j], List.getElem_mem hj, ?_⟩
  refine via_spec_l1Rd_of (by simp) ?_
  simp [pc_spec_l1Rd_of, rdT]
  refine hookH_callX [0] [(0, .arr 2 [[.imm (u8T b), .i .i64 p]])] h (by simp [handedX, handedXA, handedXs, handedX1, T.closed, rdT]) (bk := [(0, .arr 2 [[.imm (u8T b), .i .i64 ((p + 1 : Nat) : Int)]])]) (by simp [backX, backXA, backXs, backX1, T.closed, rdT]) rfl rfl (by simp) (by simp [named]) (by simp [named]) ?_
  simp [dX, hj]
  exact fin_two (by simp; rfl) (by simp [hj]) (by simp) (by simp)
set_option maxRecDepth 20000 in
theorem lBool_c (x : Bool) : Rv Try.prog 121 [.b x] (.agg (sV.O (.mk 1 (if x then 1 else 0) [] []))) := by
  refine via_spec_l1Bool (by simp) ?_
  cases x
  · simp [pc_spec_l1Bool]
    exact fin_val (by simp; rfl) (by simp [sV, VO, VOs]) (by simp)
  · simp [pc_spec_l1Bool]
    exact fin_val (by simp; rfl) (by simp [sV, VO, VOs]) (by simp)
def manyF (m : Nat) (cur out : List UInt8) : List UInt8 :=
  if h : m = 0 then out else manyF (m / 2) (cur ++ cur) (if m % 2 = 1 then out ++ cur else out)
termination_by m
decreasing_by omega
theorem manyF_step {m : Nat} (h : m ≠ 0) (cur out : List UInt8) : manyF m cur out = manyF (m / 2) (cur ++ cur) (if m % 2 = 1 then out ++ cur else out) := by
  rw [manyF]; simp [h]
theorem manyF_zero (cur out : List UInt8) : manyF 0 cur out = out := by
  rw [manyF]; simp
theorem many_len {m c o : Nat} (h : m ≠ 0) : (if m % 2 = 1 then o + c else o) + (m / 2) * (c + c) = o + m * c := by
  have e : m * c = (m / 2) * (c + c) + (m % 2) * c := by
    have : m = 2 * (m / 2) + m % 2 := by omega
    conv => lhs; rw [this]
    generalize m / 2 = a; generalize m % 2 = d
    rw [Nat.add_mul, Nat.mul_add, Nat.mul_assoc]; omega
  rcases Nat.mod_two_eq_zero_or_one m with h0 | h0
  · simp [h0] at e ⊢; omega
  · simp [h0] at e ⊢; omega
theorem manyF_len : ∀ (m : Nat) (cur out : List UInt8), (manyF m cur out).length = out.length + m * cur.length := by
  intro m
  induction m using Nat.strongRecOn with
  | _ m ih =>
    intro cur out
    by_cases h : m = 0
    · subst h; rw [manyF_zero]; simp
    · rw [manyF_step h, ih (m / 2) (by omega)]
      have := many_len (c := cur.length) (o := out.length) h
      rw [List.length_append, ← this]
      split <;> simp
theorem many_c (s : List UInt8) (n : Nat) (hn : n * s.length ≤ 2 ^ 20) (hn2 : n ≤ 2 ^ 20) (hs : s ≠ []) : Rv Try.prog 142 [.s s, .i .i64 n] (.s (manyF n s [])) := by
  refine via_spec_l1Many (by simp) ?_
  simp [pc_spec_l1Many]
  refine W_wk (s' := ⟨[(0, .s s), (1, .i .i64 n), (5, .s [])], [], 0, 0⟩) (Wk.less rfl (by simp) (by simp) (by simp)) ?_
  refine W_while (m := n) (fun m st => ∃ cur out : List UInt8, manyF m cur out = manyF n s [] ∧ out.length + m * cur.length ≤ 2 ^ 20 ∧ m ≤ 2 ^ 20 ∧ cur ≠ [] ∧ st = ⟨[(0, .s cur), (1, .i .i64 m), (5, .s out)], [], 0, 0⟩) ⟨s, [], rfl, by simpa using hn, hn2, hs, rfl⟩ ?_
  rintro m st ⟨cur, out, h1, h2, h3, h4, rfl⟩
  by_cases hm : m = 0
  · subst hm
    rw [manyF_zero] at h1
    simp
    exact fin_val rfl (by simp [h1]) (by simp)
  · have hm' : 0 < m := by omega
    have hcl : cur.length ≤ m * cur.length := Nat.le_mul_of_pos_left _ hm'
    have e1 : (m : Int).tmod 2 = ((m % 2 : Nat) : Int) := by
      rw [Int.tmod_eq_emod_of_nonneg (by omega)]; omega
    have hq : IntKind.i64.wrap ((m : Int) / 2) = ((m / 2 : Nat) : Int) := by
      rw [wrap64 (by omega) (by omega)]; omega
    have hq2 : (m : Int).tdiv 2 = (m : Int) / 2 := Int.tdiv_eq_ediv_of_nonneg (by omega)
    have hl : out.length + cur.length ≤ 9223372036854775807 := by omega
    have hl2 : cur.length + cur.length ≤ 9223372036854775807 := by omega
    have hml := many_len (c := cur.length) (o := out.length) hm
    have hst := manyF_step hm cur out
    have hne : cur ++ cur ≠ [] := by simp [h4]
    rcases Nat.mod_two_eq_zero_or_one m with h0 | h0
    · rw [h0] at e1 hml hst
      simp at e1
      simp at hml hst
      simp [hm', e1, hq, hq2, hl, hl2, h0]
      refine ⟨_, Wk.to (s' := ⟨[(0, .s (cur ++ cur)), (1, .i .i64 ((m / 2 : Nat) : Int)), (5, .s out)], [], 0, 0⟩) rfl (by simp) (by simp) (by simp) (by simp), m / 2, by omega, cur ++ cur, out, by rw [← hst, h1], by simp; omega, by omega, hne, rfl⟩
    · rw [h0] at e1 hml hst
      simp at e1
      simp at hml hst
      simp [hm', e1, hq, hq2, hl, hl2, h0]
      refine ⟨_, Wk.to (s' := ⟨[(0, .s (cur ++ cur)), (1, .i .i64 ((m / 2 : Nat) : Int)), (5, .s (out ++ cur))], [], 0, 0⟩) rfl (by simp) (by simp) (by simp) (by simp), m / 2, by omega, cur ++ cur, out ++ cur, by rw [← hst, h1], by simp; omega, by omega, hne, rfl⟩
end Go.Proofs.Ytehdfbhfbidadaa.V
/- Draws: plain values. -/
namespace Go.Proofs.Ytehdfbhfbidadaa.V
open Go
set_option linter.unusedVariables false
set_option linter.unusedSimpArgs false
set_option maxHeartbeats 16000000
theorem draws {α : Type} {R : Nat → α → Nat → Prop} {C B : Nat} (h : ∀ p, p + C ≤ B → ∃ v p', p ≤ p' ∧ p' ≤ p + C ∧ R p v p') : ∀ n p, p + n * C ≤ B → ∃ (l : List α) (q : Nat → Nat), l.length = n ∧ q 0 = p ∧ (∀ i, i ≤ n → p ≤ q i ∧ q i ≤ p + i * C) ∧ ∀ i v, l[i]? = some v → R (q i) v (q (i + 1)) := by
  intro n
  induction n with
  | zero => intro p _; exact ⟨[], fun _ => p, rfl, rfl, fun i hi => ⟨Nat.le_refl _, Nat.le_add_right _ _⟩, by simp⟩
  | succ n ih =>
    intro p hp
    rw [Nat.succ_mul] at hp
    obtain ⟨v, p', h1, h2, h3⟩ := h p (by omega)
    obtain ⟨l, q, q1, q2, q3, q4⟩ := ih p' (by omega)
    refine ⟨v :: l, fun i => if i = 0 then p else q (i - 1), by simp [q1], by simp, ?_, ?_⟩
    · intro i hi
      rcases i with _ | i
      · simp
      · have := q3 i (by omega)
        simp
        rw [Nat.succ_mul]
        omega
    · intro i w hw
      rcases i with _ | i
      · simp at hw
        subst hw
        simpa [q2] using h3
      · simp at hw
        simpa using q4 i w hw
end Go.Proofs.Ytehdfbhfbidadaa.V
/- Draws: calls with a reader. -/
namespace Go.Proofs.Ytehdfbhfbidadaa.V
open Go
set_option linter.unusedVariables false
set_option linter.unusedSimpArgs false
set_option maxHeartbeats 16000000
def rdB (b : List UInt8) (p : Nat) : Blk := .arr 2 [[.imm (u8T b), .i .i64 (p : Int)]]
theorem im_closed {s : St} {t : T} (h : t.im = true) : argI s t = some t ∧ t.names = [] := by
  cases t <;> simp [T.im] at h <;> simp
theorem handedX_im {s : St} : ∀ {args : List T} {j : Nat}, args.all T.im = true → handedX s [0] (j + 1) args = some args
  | [], j, h => rfl
  | a :: ys, j, h => by
    simp only [List.all_cons, Bool.and_eq_true] at h
    have h1 := handedX_im (s := s) (j := j + 1) h.2
    simp [handedX, (im_closed (s := s) h.1).1, h1]
theorem named_im {bb : Bool} : ∀ {args : List T} {j : Nat}, args.all T.im = true → named [0] bb (j + 1) args = []
  | [], j, h => rfl
  | a :: ys, j, h => by
    simp only [List.all_cons, Bool.and_eq_true] at h
    have h1 := named_im (bb := bb) (j := j + 1) h.2
    simp [named, (im_closed (s := ⟨[], [], 0, 0⟩) h.1).2, h1]
theorem backX_im : ∀ {args xs outs : List T} {j : Nat}, xs.length = args.length → outs.length = args.length → backX [0] (j + 1) args xs outs = some []
  | [], [], [], j, _, _ => rfl
  | a :: ys, x :: xs, o :: os, j, h1, h2 => by
    have := backX_im (args := ys) (xs := xs) (outs := os) (j := j + 1) (by simpa using h1) (by simpa using h2)
    simp [backX, this]
  | [], _ :: _, _, j, h1, h2 => by simp at h1
  | _ :: _, [], _, j, h1, h2 => by simp at h1
  | [], [], _ :: _, j, h1, h2 => by simp at h2
  | _ :: _, _ :: _, [], j, h1, h2 => by simp at h2
theorem hookH_rd {P : Program} {s : St} {n t f : Nat} {c : Call} {args outs : List T} {b : List UInt8} {p p' : Nat} {r : T} {K : T → Δ → List Nat → Prop} (h : Ret P f (rdT b p :: args) r (rdT b p' :: outs)) (hc : c.callee = .value (.func f)) (hok : okCall P f = true)
    (hg : hget s.hp t = some (.arr 2 [[.imm (u8T b), .i .i64 (p : Int)]])) (hx : args.all T.im = true) (ho : outs.length = args.length) (hK : K (mat r n).1 ((t, none) :: (t, some (.arr 2 [[.imm (u8T b), .i .i64 (p' : Int)]])) :: news (mat r n).2) [t]) : @hookH P s n ⟨.call c⟩ (.fn f [] :: .ptr t 0 0 :: args) ⟨K⟩ := by
  refine hookH_callX [0] [(t, .arr 2 [[.imm (u8T b), .i .i64 (p : Int)]])] (xs := rdT b p :: args) h ?_ (bk := [(t, .arr 2 [[.imm (u8T b), .i .i64 (p' : Int)]])]) ?_ hc hok (by simp [hg]) ?_ ?_ ?_
  · simp [handedX, handedXA, handedX1, handed1, T.closed, rdT, handedX_im hx]
  · have := backX_im (args := args) (xs := args) (outs := outs) (j := 0) rfl ho
    simp [backX, backXA, backX1, back1, T.closed, rdT, this]
  · simp [named, named_im hx]
  · simp [named, named_im hx]
  · simpa [dX, named, named_im hx] using hK
/-- The same, with a list of words or numbers that is made for it. -/
theorem hookH_rdl {P : Program} {s : St} {n t t2 m f : Nat} {c : Call} {o : T} {rows : List (List T)} {b : List UInt8} {p p' : Nat} {r : T} {K : T → Δ → List Nat → Prop} (h : Ret P f [rdT b p, .imm rows] r [rdT b p', o]) (hc : c.callee = .value (.func f)) (hok : okCall P f = true)
    (hg : hget s.hp t = some (.arr 2 [[.imm (u8T b), .i .i64 (p : Int)]])) (hg2 : hget s.hp t2 = some (.arr 1 rows)) (hne : t ≠ t2) (hm : m = rows.length) (hcl : cleanR rows = true) (hI : toIr rows = rows) (hK : K (mat r n).1 ((t, none) :: (t2, none) :: (t, some (.arr 2 [[.imm (u8T b), .i .i64 (p' : Int)]])) :: news (mat r n).2) [t, t2]) : @hookH P s n ⟨.call c⟩ [.fn f [], .ptr t 0 0, .ref t2 0 m] ⟨K⟩ := by
  subst hm
  refine hookH_callX [0] [(t, .arr 2 [[.imm (u8T b), .i .i64 (p : Int)]]), (t2, .arr 1 rows)] (xs := [rdT b p, .imm rows]) h ?_ (bk := [(t, .arr 2 [[.imm (u8T b), .i .i64 (p' : Int)]])]) ?_ hc hok (by simp [hg, hg2]) ?_ ?_ ?_
  · simp [handedX, handedXA, handedX1, handed1, T.closed, rdT, hne, hcl, hI]
  · simp [backX, backXA, backX1, back1, T.closed, rdT]
  · simp [named]
  · simp [named, Ne.symm hne]
  · simpa [dX, named] using hK
theorem toIr_s (xs : List Tx) : toIr (xs.map fun x => [T.s x]) = xs.map fun x => [T.s x] := sS.rO xs
theorem toIr_i (xs : List Int) : toIr (xs.map fun x => [T.i .i64 x]) = xs.map fun x => [T.i .i64 x] := sI.rO xs
/-- What a draw comes to. -/
def Drw (f : Nat) (b : List UInt8) (args : List T) (C p : Nat) (ok : T → Prop) : Prop := ∃ r p', p ≤ p' ∧ p' ≤ p + C ∧ ok r ∧ Ret Try.prog f (rdT b p :: args) r (rdT b p' :: args.map fun _ => .dead)
theorem pick_d (b : List UInt8) (hb : b.length ≤ 2 ^ 20) (p : Nat) (hp : p ≤ 2 ^ 50) (n : Int) (hn : 1 ≤ n) : ∃ (k p' : Nat), p ≤ p' ∧ p' ≤ p + 1 ∧ (k : Int) < n ∧ Ret Try.prog 77 [rdT b p, .i .i64 n] (.i .i64 k) [rdT b p', .dead] := by
  obtain ⟨k, k0, k1, h⟩ := pick_c b p hp hb n
  obtain ⟨m, rfl⟩ : ∃ m : Nat, k = m := ⟨k.toNat, by omega⟩
  exact ⟨m, p + 1, by omega, by omega, k1 hn, h⟩
theorem one_d (b : List UInt8) (hb : b.length ≤ 2 ^ 20) (p : Nat) (hp : p ≤ 2 ^ 50) (xs : List Int) (hx : xs ≠ []) : ∃ (x : Int) (p' : Nat), p ≤ p' ∧ p' ≤ p + 1 ∧ x ∈ xs ∧ Ret Try.prog 138 [rdT b p, .imm (xs.map fun x => [.i .i64 x])] (.i .i64 x) [rdT b p', .dead] := by
  obtain ⟨x, h1, h⟩ := one_c b p hp hb xs hx
  exact ⟨x, p + 1, by omega, by omega, h1, h⟩
theorem of_d (b : List UInt8) (hb : b.length ≤ 2 ^ 20) (p : Nat) (hp : p ≤ 2 ^ 50) (xs : List Tx) (hl : xs.length ≤ 2 ^ 20) (hx : xs ≠ []) : ∃ (x : Tx) (p' : Nat), p ≤ p' ∧ p' ≤ p + 1 ∧ x ∈ xs ∧ Ret Try.prog 79 [rdT b p, .imm (xs.map fun x => [.s x])] (.s x) [rdT b p', .dead] := by
  obtain ⟨x, h1, h⟩ := of_c b p hp hb xs hl hx
  exact ⟨x, p + 1, by omega, by omega, h1, h⟩
end Go.Proofs.Ytehdfbhfbidadaa.V
/- Draws: plain values (first branch). -/
namespace Go.Proofs.Ytehdfbhfbidadaa.V
open Go
set_option linter.unusedVariables false
set_option linter.unusedSimpArgs false
set_option maxHeartbeats 16000000
def PlainR (b : List UInt8) (d : Nat) (p : Nat) (v : Vl) (p' : Nat) : Prop := v.fit ∧ v.cnt ≤ 16 * 4 ^ d ∧ Ret Try.prog 143 [rdT b p, .i .i64 d] (.agg (sV.O v)) [rdT b p', .dead]
set_option maxRecDepth 20000 in
theorem plain_0 (b : List UInt8) (hb : b.length ≤ 2 ^ 20) (d p : Nat) (hp : p + 4 ≤ 2 ^ 50) (h : Ret Try.prog 77 [rdT b p, .i .i64 6] (.i .i64 0) [rdT b (p + 1), .dead]) : ∃ v p', p ≤ p' ∧ p' ≤ p + 4 ∧ PlainR b d p v p' := by
  obtain ⟨k, k0, k1, h2⟩ := pick_c b (p + 1) (by omega) hb 2
  refine ⟨.mk 1 (if k = 0 then 1 else 0) [] [], p + 2, by omega, by omega, ?_, ?_, ?_⟩
  · rw [Vl.fit_mk]; refine ⟨by simp [i64], ?_, by simp [ln], by simp [ln], by simp⟩; split <;> simp [i64]
  · simp [Vl.cnt_mk, cl, sums]
  refine via_spec_l11Plain (by simp) ?_
  simp [pc_spec_l11Plain, rdT]
  refine hookH_callX [0] [(0, .arr 2 [[.imm (u8T b), .i .i64 p]])] h (by simp [handedX, handedXA, handedXs, handedX1, T.closed, rdT]) (bk := [(0, .arr 2 [[.imm (u8T b), .i .i64 ((p + 1 : Nat) : Int)]])]) (by simp [backX, backXA, backXs, backX1, T.closed, rdT]) rfl rfl (by simp) (by simp [named]) (by simp [named]) ?_
  simp [dX]
  refine hookH_callX [0] [(0, .arr 2 [[.imm (u8T b), .i .i64 ((p + 1 : Nat) : Int)]])] h2 (by simp [handedX, handedXA, handedXs, handedX1, T.closed, rdT]) (bk := [(0, .arr 2 [[.imm (u8T b), .i .i64 ((p + 1 + 1 : Nat) : Int)]])]) (by simp [backX, backXA, backXs, backX1, T.closed, rdT]) rfl rfl (by simp) (by simp [named]) (by simp [named]) ?_
  simp [dX]
  refine callK_val (by simp) (lBool_c (decide (k = 0))) (by simp [sV, VO, VOs, T.noImm]) ?_
  have e : (p : Int) + 1 + 1 = (p : Int) + 2 := by omega
  simp [sV, VO, VOs, dX, named, e]
  exact fin_ret (by simp; rfl) (rfP_ok (by simp)) (by simp) (by simp)
end Go.Proofs.Ytehdfbhfbidadaa.V
/- Draws: plain values, numbers. -/
namespace Go.Proofs.Ytehdfbhfbidadaa.V
open Go
set_option linter.unusedVariables false
set_option linter.unusedSimpArgs false
set_option maxHeartbeats 16000000
set_option maxRecDepth 20000 in
theorem plain_n (b : List UInt8) (hb : b.length ≤ 2 ^ 20) (d p : Nat) (hp : p + 4 ≤ 2 ^ 50) (k : Int) (hk : 4 ≤ k) (h : Ret Try.prog 77 [rdT b p, .i .i64 6] (.i .i64 k) [rdT b (p + 1), .dead]) : ∃ v p', p ≤ p' ∧ p' ≤ p + 4 ∧ PlainR b d p v p' := by
  obtain ⟨x, hx, h2⟩ := one_c b (p + 1) (by omega) hb [0, 1, 2, 3, -1, 7, 1000000000] (by simp)
  have hx1 : -1 ≤ x ∧ x ≤ 1000000000 := by
    simp at hx
    omega
  refine ⟨.mk 2 x [] [], p + 2, by omega, by omega, ?_, ?_, ?_⟩
  · rw [Vl.fit_mk]; refine ⟨by simp [i64], by simp [i64]; omega, by simp [ln], by simp [ln], by simp⟩
  · simp [Vl.cnt_mk, cl, sums]
  have c0 : ¬ k = 0 := by omega
  have c1 : ¬ k = 1 := by omega
  have c2 : ¬ k = 2 := by omega
  have c3 : ¬ k = 3 := by omega
  refine via_spec_l11Plain (by simp) ?_
  simp [pc_spec_l11Plain, rdT]
  refine hookH_callX [0] [(0, .arr 2 [[.imm (u8T b), .i .i64 p]])] h (by simp [handedX, handedXA, handedXs, handedX1, T.closed, rdT]) (bk := [(0, .arr 2 [[.imm (u8T b), .i .i64 ((p + 1 : Nat) : Int)]])]) (by simp [backX, backXA, backXs, backX1, T.closed, rdT]) rfl rfl (by simp) (by simp [named]) (by simp [named]) ?_
  simp [dX, c0, c1, c2, c3]
  refine hookH_callX [0] [(0, .arr 2 [[.imm (u8T b), .i .i64 ((p + 1 : Nat) : Int)]]), (4, .arr 1 ([0, 1, 2, 3, -1, 7, 1000000000].map fun x => [.i .i64 x]))] h2 (by simp [handedX, handedXA, handedXs, handedX1, T.closed, rdT]) (bk := [(0, .arr 2 [[.imm (u8T b), .i .i64 ((p + 1 + 1 : Nat) : Int)]])]) (by simp [backX, backXA, backXs, backX1, T.closed, rdT]) rfl rfl (by simp [dX, named]) (by simp [named]) (by simp [named]) ?_
  have e : (p : Int) + 1 + 1 = (p : Int) + 2 := by omega
  simp [sV, VO, VOs, dX, named, e]
  exact fin_ret (by simp; rfl) (rfP_ok (by simp)) (by simp) (by simp)
end Go.Proofs.Ytehdfbhfbidadaa.V
/- Draws: plain values, texts. -/
namespace Go.Proofs.Ytehdfbhfbidadaa.V
open Go
set_option linter.unusedVariables false
set_option linter.unusedSimpArgs false
set_option maxHeartbeats 16000000
set_option maxRecDepth 20000 in
theorem plain_t (b : List UInt8) (hb : b.length ≤ 2 ^ 20) (d p : Nat) (hp : p + 4 ≤ 2 ^ 50) (k : Int) (hk : k = 1 ∨ k = 2) (h : Ret Try.prog 77 [rdT b p, .i .i64 6] (.i .i64 k) [rdT b (p + 1), .dead]) : ∃ v p', p ≤ p' ∧ p' ≤ p + 4 ∧ PlainR b d p v p' := by
  have hm := many_c [116] 16 (by simp) (by simp) (by simp)
  have hml := manyF_len 16 [116] []
  generalize manyF 16 [116] [] = tt at hm hml
  obtain ⟨x, hx, h2⟩ := of_c b (p + 1) (by omega) hb [[], [97], [98], [116, 119, 111, 32, 119, 111, 114, 100, 115], tt] (by simp) (by simp)
  have hx1 : x.length ≤ 16 := by
    simp at hx hml
    rcases hx with rfl | rfl | rfl | rfl | rfl <;> first | omega | simp
  have hc : x.length ≤ 16 * 4 ^ d := by
    have : 0 < 4 ^ d := Nat.pow_pos (by omega)
    omega
  refine ⟨.mk 3 0 x [], p + 2, by omega, by omega, ?_, ?_, ?_⟩
  · rw [Vl.fit_mk]; refine ⟨by simp [i64], by simp [i64], by simp [ln]; omega, by simp [ln], by simp⟩
  · simpa [Vl.cnt_mk, cl, sums] using hc
  have e : (p : Int) + 1 + 1 = (p : Int) + 2 := by omega
  refine via_spec_l11Plain (by simp) ?_
  simp [pc_spec_l11Plain, rdT]
  refine hookH_callX [0] [(0, .arr 2 [[.imm (u8T b), .i .i64 p]])] h (by simp [handedX, handedXA, handedXs, handedX1, T.closed, rdT]) (bk := [(0, .arr 2 [[.imm (u8T b), .i .i64 ((p + 1 : Nat) : Int)]])]) (by simp [backX, backXA, backXs, backX1, T.closed, rdT]) rfl rfl (by simp) (by simp [named]) (by simp [named]) ?_
  rcases hk with rfl | rfl
  all_goals
    simp [dX]
    refine callK_val (by simp) hm (by simp [T.noImm]) ?_
    simp [dX]
    refine hookH_callX [0] [(0, .arr 2 [[.imm (u8T b), .i .i64 ((p + 1 : Nat) : Int)]]), (4, .arr 1 ([[], [97], [98], [116, 119, 111, 32, 119, 111, 114, 100, 115], tt].map fun x => [.s x]))] h2 (by simp [handedX, handedXA, handedXs, handedX1, T.closed, rdT]) (bk := [(0, .arr 2 [[.imm (u8T b), .i .i64 ((p + 1 + 1 : Nat) : Int)]])]) (by simp [backX, backXA, backXs, backX1, T.closed, rdT]) rfl rfl (by simp [dX, named]) (by simp [named]) (by simp [named]) ?_
    simp [sV, VO, VOs, dX, named, e]
    exact fin_ret (by simp; rfl) (rfP_ok (by simp)) (by simp) (by simp)
end Go.Proofs.Ytehdfbhfbidadaa.V
/- Draws: plain values, numbers where no list may lie. -/
namespace Go.Proofs.Ytehdfbhfbidadaa.V
open Go
set_option linter.unusedVariables false
set_option linter.unusedSimpArgs false
set_option maxHeartbeats 16000000
set_option maxRecDepth 20000 in
theorem plain_s (b : List UInt8) (hb : b.length ≤ 2 ^ 20) (d p : Nat) (hp : p + 4 ≤ 2 ^ 50) (hd : d ≤ 1) (h : Ret Try.prog 77 [rdT b p, .i .i64 6] (.i .i64 3) [rdT b (p + 1), .dead]) : ∃ v p', p ≤ p' ∧ p' ≤ p + 4 ∧ PlainR b d p v p' := by
  obtain ⟨x, hx, h2⟩ := one_c b (p + 1) (by omega) hb [0, 1, 2, 3, -1, 7, 1000000000] (by simp)
  have hx1 : -1 ≤ x ∧ x ≤ 1000000000 := by
    simp at hx
    omega
  refine ⟨.mk 2 x [] [], p + 2, by omega, by omega, ?_, ?_, ?_⟩
  · rw [Vl.fit_mk]; refine ⟨by simp [i64], by simp [i64]; omega, by simp [ln], by simp [ln], by simp⟩
  · simp [Vl.cnt_mk, cl, sums]
  have cd : ¬ 1 < d := by omega
  have cd' : ¬ (1 : Int) < (d : Int) := by omega
  refine via_spec_l11Plain (by simp) ?_
  simp [pc_spec_l11Plain, rdT]
  refine hookH_callX [0] [(0, .arr 2 [[.imm (u8T b), .i .i64 p]])] h (by simp [handedX, handedXA, handedXs, handedX1, T.closed, rdT]) (bk := [(0, .arr 2 [[.imm (u8T b), .i .i64 ((p + 1 : Nat) : Int)]])]) (by simp [backX, backXA, backXs, backX1, T.closed, rdT]) rfl rfl (by simp) (by simp [named]) (by simp [named]) ?_
  simp [dX, cd, cd']
  refine hookH_callX [0] [(0, .arr 2 [[.imm (u8T b), .i .i64 ((p + 1 : Nat) : Int)]]), (4, .arr 1 ([0, 1, 2, 3, -1, 7, 1000000000].map fun x => [.i .i64 x]))] h2 (by simp [handedX, handedXA, handedXs, handedX1, T.closed, rdT]) (bk := [(0, .arr 2 [[.imm (u8T b), .i .i64 ((p + 1 + 1 : Nat) : Int)]])]) (by simp [backX, backXA, backXs, backX1, T.closed, rdT]) rfl rfl (by simp [dX, named]) (by simp [named]) (by simp [named]) ?_
  have e : (p : Int) + 1 + 1 = (p : Int) + 2 := by omega
  simp [sV, VO, VOs, dX, named, e]
  exact fin_ret (by simp; rfl) (rfP_ok (by simp)) (by simp) (by simp)
end Go.Proofs.Ytehdfbhfbidadaa.V
/- Draws: plain values, lists. -/
namespace Go.Proofs.Ytehdfbhfbidadaa.V
open Go
set_option linter.unusedVariables false
set_option linter.unusedSimpArgs false
set_option maxHeartbeats 16000000
theorem pow4 (d : Nat) : 4 ^ (d + 1) = 4 * 4 ^ d ∧ 1 ≤ 4 ^ d := ⟨by rw [Nat.pow_succ]; omega, Nat.pow_pos (by omega)⟩
theorem sums_bound {α : Type} {c : α → Nat} {B : Nat} {l : List α} (h : ∀ x ∈ l, c x ≤ B) : sums c l ≤ l.length * B := by
  induction l with
  | nil => simp [sums]
  | cons x l ih =>
    have h1 := h x (by simp)
    have h2 := ih (fun y hy => h y (by simp [hy]))
    simp only [sums, List.map_cons, List.sum_cons, List.length_cons, Nat.succ_mul] at h2 ⊢
    omega
theorem list_val {R : Vl → Prop} {B : Nat} {l : List Vl} (hl : l.length ≤ 7) (h1 : ∀ v ∈ l, v.fit) (h2 : ∀ v ∈ l, v.cnt ≤ B) : (Vl.mk 4 0 [] l).fit ∧ (Vl.mk 4 0 [] l).cnt ≤ l.length + l.length * B := by
  constructor
  · rw [Vl.fit_mk]; exact ⟨by simp [i64], by simp [i64], by simp [ln], by simp only [ln]; omega, h1⟩
  · have := sums_bound h2
    simp only [Vl.cnt_mk, cl, List.length_nil]; omega
set_option maxRecDepth 20000 in
theorem plain_l (b : List UInt8) (hb : b.length ≤ 2 ^ 20) (d p : Nat) (hd : d ≤ 8) (hp : p + 4 * 4 ^ (d + 2) ≤ 2 ^ 50) (ih : ∀ p, p + 4 ^ (d + 2) ≤ 2 ^ 50 → ∃ v p', p ≤ p' ∧ p' ≤ p + 4 ^ (d + 2) ∧ PlainR b (d + 1) p v p') (p1 : Nat) (hp1 : p ≤ p1 ∧ p1 ≤ p + 1) (h : Ret Try.prog 77 [rdT b p, .i .i64 6] (.i .i64 3) [rdT b p1, .dead]) : ∃ v p', p ≤ p' ∧ p' ≤ p + 4 ^ (d + 3) ∧ PlainR b (d + 2) p v p' := by
  have e4 : 4 ^ (d + 3) = 4 * 4 ^ (d + 2) := (pow4 (d + 2)).1
  have e5 : 4 ^ (d + 2) = 4 * 4 ^ (d + 1) := (pow4 (d + 1)).1
  have h5 := (pow4 (d + 1)).2
  obtain ⟨k, p2, k0, k1, k2, h2⟩ := pick_d b hb p1 (by omega) 4 (by omega)
  have hn : k ≤ 3 := by omega
  have hn' : k * 4 ^ (d + 2) ≤ 3 * 4 ^ (d + 2) := Nat.mul_le_mul_right _ hn
  obtain ⟨l, q, q1, q2, q3, q4⟩ := draws (B := 2 ^ 50) ih k p2 (by omega)
  have hq := q3 k (by omega)
  have hv := list_val (R := fun _ => True) (l := l) (B := 16 * 4 ^ (d + 1)) (by omega) (fun v hv => by obtain ⟨i, hi⟩ := List.mem_iff_getElem?.1 hv; exact (q4 i v hi).1) (fun v hv => by obtain ⟨i, hi⟩ := List.mem_iff_getElem?.1 hv; exact (q4 i v hi).2.1)
  have hkk : k * (16 * 4 ^ (d + 1)) ≤ 3 * (16 * 4 ^ (d + 1)) := Nat.mul_le_mul_right _ hn
  refine ⟨.mk 4 0 [] l, q k, by omega, by omega, hv.1, by have := hv.2; rw [q1] at this; omega, ?_⟩
  refine via_spec_l11Plain (by simp) ?_
  simp [pc_spec_l11Plain, rdT]
  refine hookH_rd h rfl rfl (by simp) (by simp [T.im]) rfl ?_
  have cd' : (1 : Int) < (d : Int) + 2 := by omega
  simp [cd']
  refine hookH_rd h2 rfl rfl (by simp) (by simp [T.im]) rfl ?_
  simp
  have hcO : ∀ i, cleanR ((l.map sV.O).take i) = true := by intro i; rw [← List.map_take]; exact sV.crO _
  refine W_for (fun i => ⟨[(6, .i .i64 ((k : Int) - i)), (5, .ptr 4 0 0), (4, .ptr 1 0 0), (1, .i .i64 ((d : Int) + 2)), (0, .ptr 0 0 0)], [(0, .arr 2 [[.imm (u8T b), .i .i64 (q i)]]), (1, .arr 4 [[.i .i64 0, .i .i64 0, .s [], .nl]]), (4, .arr 4 [[.i .i64 4, .i .i64 0, .s [], .own 4 ((l.map sV.O).take i)]])], 20, 1⟩) k (fun i => True) ?_ trivial ?_
  · refine Wk.trans (Wk.join (b := 4) (r := 0) (cs := [.i .i64 4, .i .i64 0, .s [], .own 4 []]) rfl rfl (by simp) (by simp)) ?_
    exact Wk.to rfl (by simp) (by simp) (by simp [q2, Blk.names]) (by simp)
  intro i hi _
  rcases Nat.lt_or_ge i k with h1 | h1
  · obtain ⟨x, hx⟩ : ∃ x, l[i]? = some x := ⟨_, List.getElem?_eq_getElem (by omega)⟩
    have hr := (q4 i x hx).2.2
    have c1 : (0 : Int) < (k : Int) - i := by omega
    have w1 : IntKind.i64.wrap ((d : Int) + 2 - 1) = (d : Int) + 1 := by rw [wrap64 (by omega) (by omega)]; omega
    have w2 : IntKind.i64.wrap ((k : Int) - i - 1) = (k : Int) - ((i + 1 : Nat) : Int) := by rw [wrap64 (by omega) (by omega)]; omega
    have hA : (List.take i (l.map sV.O)).length = i := by simp; omega
    have hnew := fill_new sV.O hx
    have hcA := hcO i
    have htt : List.take i (List.take i (l.map sV.O)) = List.take i (l.map sV.O) := by rw [List.take_take]; simp
    have hbig : (i + 1) * 56 ≤ 35184372088832 := by omega
    have hmin : min i l.length = i := by omega
    rw [show ((d + 1 : Nat) : Int) = (d : Int) + 1 by omega] at hr
    obtain ⟨k', n', s', l'⟩ := x
    simp [h1, w1, hmin]
    refine hookH_rd hr rfl rfl (by simp) (by simp [T.im]) rfl ?_
    simp [h1, w1, w2, hmin, htt, hbig]
    generalize List.take i (l.map sV.O) = A at *
    have hg := app1_get hA
    have hs := app1_set hA
    repeat with_reducible refine need_mk (by decide +kernel) ?_
    refine Wk.trans (Wk.join (b := 76) (r := i) (cs := sV.O ⟨k', n', s', l'⟩) rfl (by simp [hg]; rfl) (by simp) (by simp)) ?_
    refine Wk.trans (Wk.join (b := 4) (r := 0) (cs := [.i .i64 4, .i .i64 0, .s [], .own 4 ((l.map sV.O).take (i + 1))]) rfl rfl (by simp [hs, hnew, hA, hcA, List.take_of_length_le]) (by simp)) ?_
    exact Wk.to rfl (by simp) (by simp) (by simp [Blk.names]) (by simp)
  · obtain rfl : i = k := by omega
    have e1 : (l.map sV.O).take i = l.map sV.O := List.take_of_length_le (by simp; omega)
    simp [e1, q1]
    exact fin_ret (by simp; rfl) (rfP_ok (by simp [e1, q1])) (by simp) (by simp)
theorem plain_c (b : List UInt8) (hb : b.length ≤ 2 ^ 20) (d : Nat) (hd : d ≤ 10) : ∀ p, p + 4 ^ (d + 1) ≤ 2 ^ 50 → ∃ v p', p ≤ p' ∧ p' ≤ p + 4 ^ (d + 1) ∧ PlainR b d p v p' := by
  induction d using Nat.strongRecOn with
  | _ d ih =>
    intro p hp
    have h4 : 4 ^ (d + 1) = 4 * 4 ^ d := (pow4 d).1
    have h5 := (pow4 d).2
    obtain ⟨k, k0, k1, h⟩ := pick_c b p (by omega) hb 6
    have k1 := k1 (by omega)
    have key : (∃ v p', p ≤ p' ∧ p' ≤ p + 4 ∧ PlainR b d p v p') → ∃ v p', p ≤ p' ∧ p' ≤ p + 4 ^ (d + 1) ∧ PlainR b d p v p' := fun ⟨v, p', e1, e2, e3⟩ => ⟨v, p', e1, by omega, e3⟩
    rcases (by omega : k = 0 ∨ (k = 1 ∨ k = 2) ∨ k = 3 ∨ 4 ≤ k) with rfl | hk | rfl | hk
    · exact key (plain_0 b hb d p (by omega) h)
    · exact key (plain_t b hb d p (by omega) k hk h)
    · rcases Nat.lt_or_ge 1 d with h1 | h1
      · obtain ⟨e, rfl⟩ : ∃ e, d = e + 2 := ⟨d - 2, by omega⟩
        have h6 : 4 ^ (e + 3) = 4 * 4 ^ (e + 2) := (pow4 (e + 2)).1
        rw [show e + 2 + 1 = e + 3 by omega] at hp ⊢
        exact plain_l b hb e p (by omega) (by omega) (ih (e + 1) (by omega) (by omega)) (p + 1) ⟨by omega, by omega⟩ h
      · exact key (plain_s b hb d p (by omega) (by omega) h)
    · exact key (plain_n b hb d p (by omega) k hk h)
end Go.Proofs.Ytehdfbhfbidadaa.V
/- Draws: values. -/
namespace Go.Proofs.Ytehdfbhfbidadaa.V
open Go
set_option linter.unusedVariables false
set_option linter.unusedSimpArgs false
set_option maxHeartbeats 16000000
def ValueR (b : List UInt8) (d : Nat) (p : Nat) (v : Vl) (p' : Nat) : Prop := v.fit ∧ v.cnt ≤ 16 * 4 ^ d ∧ Ret Try.prog 141 [rdT b p, .i .i64 d] (.agg (sV.O v)) [rdT b p', .dead]
theorem num_val (kd x : Int) (h0 : i64 kd) (h1 : i64 x) (d : Nat) : (Vl.mk kd x [] []).fit ∧ (Vl.mk kd x [] []).cnt ≤ 16 * 4 ^ d := by
  constructor
  · rw [Vl.fit_mk]; exact ⟨h0, h1, by simp [ln], by simp [ln], by simp⟩
  · simp [Vl.cnt_mk, cl, sums]
set_option maxRecDepth 20000 in
theorem value_0 (b : List UInt8) (hb : b.length ≤ 2 ^ 20) (d p p1 : Nat) (h : Ret Try.prog 77 [rdT b p, .i .i64 8] (.i .i64 0) [rdT b p1, .dead]) : ValueR b d p (.mk 0 0 [] []) p1 := by
  obtain ⟨f1, f2⟩ := num_val 0 0 (by simp [i64]) (by simp [i64]) d
  refine ⟨f1, f2, ?_⟩
  refine via_spec_l11Value (by simp) ?_
  simp [pc_spec_l11Value, rdT]
  refine hookH_rd h rfl rfl (by simp) (by simp [T.im]) rfl ?_
  simp
  exact fin_ret (by simp; rfl) (rfP_ok (by simp)) (by simp) (by simp)
set_option maxRecDepth 20000 in
theorem value_n (b : List UInt8) (hb : b.length ≤ 2 ^ 20) (d p p1 p2 k : Nat) (kd : Int) (hk : (k : Int) < 4) (hkd : kd = 1 ∨ kd = 2) (h : Ret Try.prog 77 [rdT b p, .i .i64 8] (.i .i64 kd) [rdT b p1, .dead]) (h2 : Ret Try.prog 77 [rdT b p1, .i .i64 4] (.i .i64 k) [rdT b p2, .dead]) : ValueR b d p (.mk (kd + 4) k [] []) p2 := by
  obtain ⟨f1, f2⟩ := num_val (kd + 4) k (by simp [i64]; omega) (by simp [i64]; omega) d
  refine ⟨f1, f2, ?_⟩
  refine via_spec_l11Value (by simp) ?_
  simp [pc_spec_l11Value, rdT]
  refine hookH_rd h rfl rfl (by simp) (by simp [T.im]) rfl ?_
  rcases hkd with rfl | rfl
  all_goals
    simp
    refine hookH_rd h2 rfl rfl (by simp) (by simp [T.im]) rfl ?_
    simp
    exact fin_ret (by simp; rfl) (rfP_ok (by simp)) (by simp) (by simp)
set_option maxRecDepth 20000 in
theorem value_p (b : List UInt8) (hb : b.length ≤ 2 ^ 20) (d p p1 p2 : Nat) (v : Vl) (k : Int) (hk : 4 ≤ k ∨ (k = 3 ∧ d ≤ 1)) (h : Ret Try.prog 77 [rdT b p, .i .i64 8] (.i .i64 k) [rdT b p1, .dead]) (h2 : PlainR b d p1 v p2) : ValueR b d p v p2 := by
  obtain ⟨f1, f2, h2⟩ := h2
  refine ⟨f1, f2, ?_⟩
  obtain ⟨k', n', s', l'⟩ := v
  refine via_spec_l11Value (by simp) ?_
  simp [pc_spec_l11Value, rdT]
  refine hookH_rd h rfl rfl (by simp) (by simp [T.im]) rfl ?_
  rcases hk with hk | ⟨rfl, hd⟩
  · have c0 : ¬ k = 0 := by omega
    have c1 : ¬ k = 1 := by omega
    have c2 : ¬ k = 2 := by omega
    have c3 : ¬ k = 3 := by omega
    simp [c0, c1, c2, c3]
    refine hookH_rd h2 rfl rfl (by simp) (by simp [T.im]) rfl ?_
    simp
    exact fin_ret (by simp; rfl) (rfP_ok (by simp)) (by simp) (by simp)
  · have cd : ¬ 1 < d := by omega
    have cd' : ¬ (1 : Int) < (d : Int) := by omega
    simp [cd, cd']
    refine hookH_rd h2 rfl rfl (by simp) (by simp [T.im]) rfl ?_
    simp
    exact fin_ret (by simp; rfl) (rfP_ok (by simp)) (by simp) (by simp)
set_option maxRecDepth 20000 in
theorem value_l (b : List UInt8) (hb : b.length ≤ 2 ^ 20) (d p : Nat) (hd : d ≤ 8) (hp : p + 8 * 4 ^ (d + 2) ≤ 2 ^ 50) (ih : ∀ p, p + 2 * 4 ^ (d + 2) ≤ 2 ^ 50 → ∃ v p', p ≤ p' ∧ p' ≤ p + 2 * 4 ^ (d + 2) ∧ ValueR b (d + 1) p v p') (p1 : Nat) (hp1 : p ≤ p1 ∧ p1 ≤ p + 1) (h : Ret Try.prog 77 [rdT b p, .i .i64 8] (.i .i64 3) [rdT b p1, .dead]) : ∃ v p', p ≤ p' ∧ p' ≤ p + 2 * 4 ^ (d + 3) ∧ ValueR b (d + 2) p v p' := by
  have e4 : 4 ^ (d + 3) = 4 * 4 ^ (d + 2) := (pow4 (d + 2)).1
  have e5 : 4 ^ (d + 2) = 4 * 4 ^ (d + 1) := (pow4 (d + 1)).1
  have h5 := (pow4 (d + 1)).2
  obtain ⟨k, p2, k0, k1, k2, h2⟩ := pick_d b hb p1 (by omega) 4 (by omega)
  have hn : k ≤ 3 := by omega
  have hn' : k * (2 * 4 ^ (d + 2)) ≤ 3 * (2 * 4 ^ (d + 2)) := Nat.mul_le_mul_right _ hn
  obtain ⟨l, q, q1, q2, q3, q4⟩ := draws (B := 2 ^ 50) ih k p2 (by omega)
  have hq := q3 k (by omega)
  have hv := list_val (R := fun _ => True) (l := l) (B := 16 * 4 ^ (d + 1)) (by omega) (fun v hv => by obtain ⟨i, hi⟩ := List.mem_iff_getElem?.1 hv; exact (q4 i v hi).1) (fun v hv => by obtain ⟨i, hi⟩ := List.mem_iff_getElem?.1 hv; exact (q4 i v hi).2.1)
  have hkk : k * (16 * 4 ^ (d + 1)) ≤ 3 * (16 * 4 ^ (d + 1)) := Nat.mul_le_mul_right _ hn
  refine ⟨.mk 4 0 [] l, q k, by omega, by omega, hv.1, by have := hv.2; rw [q1] at this; omega, ?_⟩
  refine via_spec_l11Value (by simp) ?_
  simp [pc_spec_l11Value, rdT]
  refine hookH_rd h rfl rfl (by simp) (by simp [T.im]) rfl ?_
  have cd' : (1 : Int) < (d : Int) + 2 := by omega
  simp [cd']
  refine hookH_rd h2 rfl rfl (by simp) (by simp [T.im]) rfl ?_
  simp
  have hcO : ∀ i, cleanR ((l.map sV.O).take i) = true := by intro i; rw [← List.map_take]; exact sV.crO _
  refine W_for (fun i => ⟨[(6, .i .i64 ((k : Int) - i)), (5, .ptr 4 0 0), (4, .ptr 1 0 0), (1, .i .i64 ((d : Int) + 2)), (0, .ptr 0 0 0)], [(0, .arr 2 [[.imm (u8T b), .i .i64 (q i)]]), (1, .arr 4 [[.i .i64 0, .i .i64 0, .s [], .nl]]), (4, .arr 4 [[.i .i64 4, .i .i64 0, .s [], .own 4 ((l.map sV.O).take i)]])], 20, 1⟩) k (fun i => True) ?_ trivial ?_
  · refine Wk.trans (Wk.join (b := 4) (r := 0) (cs := [.i .i64 4, .i .i64 0, .s [], .own 4 []]) rfl rfl (by simp) (by simp)) ?_
    exact Wk.to rfl (by simp) (by simp) (by simp [q2, Blk.names]) (by simp)
  intro i hi _
  rcases Nat.lt_or_ge i k with h1 | h1
  · obtain ⟨x, hx⟩ : ∃ x, l[i]? = some x := ⟨_, List.getElem?_eq_getElem (by omega)⟩
    have hr := (q4 i x hx).2.2
    have w1 : IntKind.i64.wrap ((d : Int) + 2 - 1) = (d : Int) + 1 := by rw [wrap64 (by omega) (by omega)]; omega
    have w2 : IntKind.i64.wrap ((k : Int) - i - 1) = (k : Int) - ((i + 1 : Nat) : Int) := by rw [wrap64 (by omega) (by omega)]; omega
    have hA : (List.take i (l.map sV.O)).length = i := by simp; omega
    have hnew := fill_new sV.O hx
    have hcA := hcO i
    have htt : List.take i (List.take i (l.map sV.O)) = List.take i (l.map sV.O) := by rw [List.take_take]; simp
    have hbig : (i + 1) * 56 ≤ 35184372088832 := by omega
    have hmin : min i l.length = i := by omega
    rw [show ((d + 1 : Nat) : Int) = (d : Int) + 1 by omega] at hr
    obtain ⟨k', n', s', l'⟩ := x
    simp [h1, w1, hmin]
    refine hookH_rd hr rfl rfl (by simp) (by simp [T.im]) rfl ?_
    simp [h1, w1, w2, hmin, htt, hbig]
    generalize List.take i (l.map sV.O) = A at *
    have hg := app1_get hA
    have hs := app1_set hA
    repeat with_reducible refine need_mk (by decide +kernel) ?_
    refine Wk.trans (Wk.join (b := 76) (r := i) (cs := sV.O ⟨k', n', s', l'⟩) rfl (by simp [hg]; rfl) (by simp) (by simp)) ?_
    refine Wk.trans (Wk.join (b := 4) (r := 0) (cs := [.i .i64 4, .i .i64 0, .s [], .own 4 ((l.map sV.O).take (i + 1))]) rfl rfl (by simp [hs, hnew, hA, hcA, List.take_of_length_le]) (by simp)) ?_
    exact Wk.to rfl (by simp) (by simp) (by simp [Blk.names]) (by simp)
  · obtain rfl : i = k := by omega
    have e1 : (l.map sV.O).take i = l.map sV.O := List.take_of_length_le (by simp; omega)
    simp [e1, q1]
    exact fin_ret (by simp; rfl) (rfP_ok (by simp [e1, q1])) (by simp) (by simp)
theorem value_c (b : List UInt8) (hb : b.length ≤ 2 ^ 20) (d : Nat) (hd : d ≤ 10) : ∀ p, p + 2 * 4 ^ (d + 1) ≤ 2 ^ 50 → ∃ v p', p ≤ p' ∧ p' ≤ p + 2 * 4 ^ (d + 1) ∧ ValueR b d p v p' := by
  induction d using Nat.strongRecOn with
  | _ d ih =>
    intro p hp
    have h4 : 4 ^ (d + 1) = 4 * 4 ^ d := (pow4 d).1
    have h5 := (pow4 d).2
    obtain ⟨k, p1, k0, k1, k2, h⟩ := pick_d b hb p (by omega) 8 (by omega)
    have pl : (4 ≤ (k : Int) ∨ ((k : Int) = 3 ∧ d ≤ 1)) → ∃ v p', p ≤ p' ∧ p' ≤ p + 2 * 4 ^ (d + 1) ∧ ValueR b d p v p' := by
      intro hk
      obtain ⟨v, p2, e1, e2, e3⟩ := plain_c b hb d hd p1 (by omega)
      exact ⟨v, p2, by omega, by omega, value_p b hb d p p1 p2 v k hk h e3⟩
    rcases (by omega : k = 0 ∨ ((k : Int) = 1 ∨ (k : Int) = 2) ∨ k = 3 ∨ 4 ≤ k) with rfl | hk | rfl | hk
    · exact ⟨_, p1, by omega, by omega, value_0 b hb d p p1 h⟩
    · obtain ⟨k', p2, k0', k1', k2', h2⟩ := pick_d b hb p1 (by omega) 4 (by omega)
      exact ⟨_, p2, by omega, by omega, value_n b hb d p p1 p2 k' k k2' hk h h2⟩
    · rcases Nat.lt_or_ge 1 d with h1 | h1
      · obtain ⟨e, rfl⟩ : ∃ e, d = e + 2 := ⟨d - 2, by omega⟩
        have h6 : 4 ^ (e + 3) = 4 * 4 ^ (e + 2) := (pow4 (e + 2)).1
        rw [show e + 2 + 1 = e + 3 by omega] at hp ⊢
        exact value_l b hb e p (by omega) (by omega) (ih (e + 1) (by omega) (by omega)) p1 ⟨by omega, by omega⟩ h
      · exact pl (.inr ⟨rfl, by omega⟩)
    · exact pl (.inl (by omega))
end Go.Proofs.Ytehdfbhfbidadaa.V
/- Draws: rounds of a loop; props. -/
namespace Go.Proofs.Ytehdfbhfbidadaa.V
open Go
set_option linter.unusedVariables false
set_option linter.unusedSimpArgs false
set_option maxHeartbeats 16000000
theorem rounds {σ : Type} {R : Nat → σ → Nat → σ → Nat → Prop} {Inv : Nat → σ → Prop} {C B : Nat} : ∀ (n : Nat) (h : ∀ i s p, i < n → Inv i s → p + C ≤ B → ∃ s' p', p ≤ p' ∧ p' ≤ p + C ∧ Inv (i + 1) s' ∧ R i s p s' p') (s0 : σ) (p : Nat), Inv 0 s0 → p + n * C ≤ B →
    ∃ (st : Nat → σ) (q : Nat → Nat), st 0 = s0 ∧ q 0 = p ∧ (∀ i, i ≤ n → p ≤ q i ∧ q i ≤ p + i * C ∧ Inv i (st i)) ∧ ∀ i, i < n → R i (st i) (q i) (st (i + 1)) (q (i + 1)) := by
  intro n
  induction n with
  | zero =>
    intro h s0 p h0 hp
    refine ⟨fun _ => s0, fun _ => p, rfl, rfl, ?_, by intro i hi; omega⟩
    intro i hi
    obtain rfl : i = 0 := by omega
    exact ⟨Nat.le_refl _, Nat.le_add_right _ _, h0⟩
  | succ n ih =>
    intro h s0 p h0 hp
    rw [Nat.succ_mul] at hp
    obtain ⟨st, q, a1, a2, a3, a4⟩ := ih (fun i s p hi => h i s p (by omega)) s0 p h0 (by omega)
    obtain ⟨b1, b2, b3⟩ := a3 n (Nat.le_refl _)
    obtain ⟨s', p', c1, c2, c3, c4⟩ := h n (st n) (q n) (by omega) b3 (by omega)
    have hne : ¬ n + 1 ≤ n := by omega
    refine ⟨fun i => if i ≤ n then st i else s', fun i => if i ≤ n then q i else p', by simp only [Nat.zero_le, if_true]; exact a1, by simp only [Nat.zero_le, if_true]; exact a2, ?_, ?_⟩
    · intro i hi
      rcases Nat.lt_or_ge n i with h1 | h1
      · obtain rfl : i = n + 1 := by omega
        simp only [hne, if_false]
        refine ⟨by omega, ?_, c3⟩
        rw [Nat.succ_mul]; omega
      · simp only [h1, if_true]
        exact a3 i h1
    · intro i hi
      rcases Nat.lt_or_ge i n with h1 | h1
      · have h2 : i ≤ n := by omega
        have h3 : i + 1 ≤ n := by omega
        simp only [h2, h3, if_true]
        exact a4 i h1
      · obtain rfl : i = n := by omega
        simp only [hne, if_false, Nat.le_refl, if_true]
        exact c4
def pnm : List Tx := [[110], [110, 97, 109, 101], [120]]
def PrB (B : Nat) (s : List Pr) : Prop := ∀ x ∈ s, x.fit ∧ x.cnt ≤ B
def PropsR (b : List UInt8) (p : Nat) (s : List Pr) (p' : Nat) : Prop := s.length ≤ 3 ∧ PrB 300 s ∧ Ret Try.prog 178 [rdT b p] (.own 5 (s.map sP.O)) [rdT b p']
set_option maxRecDepth 20000 in
theorem props_d (b : List UInt8) (hb : b.length ≤ 2 ^ 20) (p : Nat) (hp : p + 200 ≤ 2 ^ 50) : ∃ s p', p ≤ p' ∧ p' ≤ p + 200 ∧ PropsR b p s p' := by
  obtain ⟨st, q, a1, a2, a3, a4⟩ := rounds (σ := List Pr) (C := 65) (B := 2 ^ 50) (Inv := fun i s => s.length ≤ i ∧ PrB 300 s)
    (R := fun i s p s' p' => (∃ k : Nat, k ≠ 0 ∧ s' = s ∧ Ret Try.prog 77 [rdT b p, .i .i64 2] (.i .i64 k) [rdT b p', .dead]) ∨ (∃ v p1 nm, pnm[i]? = some nm ∧ s' = s ++ [⟨nm, v⟩] ∧ Ret Try.prog 77 [rdT b p, .i .i64 2] (.i .i64 0) [rdT b p1, .dead] ∧ PlainR b 2 p1 v p')) 3 (by
      intro i s p hi ⟨h1, h2⟩ hp
      obtain ⟨k, p1, k0, k1, k2, h⟩ := pick_d b hb p (by omega) 2 (by omega)
      by_cases hk : k = 0
      · subst hk
        obtain ⟨v, p2, e1, e2, e3⟩ := plain_c b hb 2 (by omega) p1 (by omega)
        obtain ⟨nm, hnm⟩ : ∃ nm, pnm[i]? = some nm := ⟨_, List.getElem?_eq_getElem (by simp [pnm]; omega)⟩
        have hl : nm.length ≤ 4 := by
          have := List.mem_of_getElem? hnm
          simp [pnm] at this
          rcases this with rfl | rfl | rfl <;> simp
        refine ⟨s ++ [⟨nm, v⟩], p2, by omega, by omega, ⟨by simp; omega, ?_⟩, .inr ⟨v, p1, nm, hnm, rfl, h, e3⟩⟩
        intro x hx
        rcases List.mem_append.1 hx with hx | hx
        · exact h2 x hx
        · simp only [List.mem_singleton] at hx
          subst hx
          have := e3.2.1
          refine ⟨⟨by simp only [ln]; omega, e3.1⟩, by simp only [Pr.cnt]; omega⟩
      · exact ⟨s, p1, by omega, by omega, ⟨by omega, h2⟩, .inl ⟨k, hk, rfl, h⟩⟩) [] p ⟨by simp, by simp [PrB]⟩ (by omega)
  have hq := a3 3 (by omega)
  refine ⟨st 3, q 3, by omega, by omega, hq.2.2.1, hq.2.2.2, ?_⟩
  refine via_spec_l11Props (by simp) ?_
  simp [pc_spec_l11Props, rdT]
  refine W_for (fun i => ⟨[(5, .i .i64 i), (3, .ref 1 0 (st i).length), (4, .ref 2 0 3), (0, .ptr 0 0 0)], [(0, .arr 2 [[.imm (u8T b), .i .i64 (q i)]]), (1, .arr 5 ((st i).map sP.O)), (2, .arr 1 (pnm.map sS.O))], 20, 1⟩) 3 (fun i => True) ?_ trivial ?_
  · exact Wk.less rfl (by simp) (by simp [a1]) (by simp [a1, a2, pnm])
  intro i hi _
  rcases Nat.lt_or_ge i 3 with h1 | h1
  · have hw : IntKind.i64.wrap ((i : Int) + 1) = (i : Int) + 1 := wrap1 (by omega)
    have h1' : (i : Int) < 3 := by omega
    have hsl := (a3 i hi).2.2.1
    rcases a4 i h1 with ⟨k, hk, e1, hr⟩ | ⟨v, p1, nm, hnm, e1, hr, hr2⟩
    · simp [h1, h1']
      refine hookH_rd hr rfl rfl (by simp) (by simp [T.im]) rfl ?_
      have hcA := sP.crO (st i)
      simp [h1, h1', hk, hw, e1]
      exact Wk.to rfl (by simp) (by simp) (by simp [Blk.names, namesr_clean hcA, pnm]) (by simp)
    · have hr2 := hr2.2.2
      have hnm' : (pnm.map sS.O)[i]? = some [.s nm] := by rw [List.getElem?_map, hnm]; rfl
      have hb2 : ((st i).length + 1) * 72 ≤ 35184372088832 := by omega
      obtain ⟨k', n', s', l'⟩ := v
      simp [h1, h1']
      refine hookH_rd hr rfl rfl (by simp) (by simp [T.im]) rfl ?_
      simp [-getElem?_pos, h1, h1', hw, hnm']
      refine hookH_rd hr2 rfl rfl (by simp) (by simp [T.im]) rfl ?_
      simp [-getElem?_pos, h1, h1', hw, hnm', hb2, e1]
      generalize hA : st i = A at *
      repeat with_reducible refine need_mk (by decide +kernel) ?_
      have hAl : (A.map sP.O).length = A.length := by simp
      have hg := app1_get hAl
      have hs := app1_set hAl
      have hcB : cleanR (A.map sP.O ++ [[.s nm, .i .i64 k', .i .i64 n', .s s', .own 4 (l'.map sV.O)]]) = true := by
        have := sP.crO (A ++ [⟨nm, ⟨k', n', s', l'⟩⟩])
        rw [List.map_append] at this
        simpa only [List.map_cons, List.map_nil, sP_O, sV_O] using this
      refine Wk.trans (Wk.join (b := 94) (r := A.length) (cs := sP.O ⟨nm, ⟨k', n', s', l'⟩⟩) rfl (by simp [hg]; rfl) (by simp) (by simp)) ?_
      refine Wk.ren (fun t => if t = 1 then 94 else t) rfl (by simp) (by simp) (by simp) ?_ (by simp)
      simp [Blk.rn, Blk.names, namesr_clean hcB, rnr_cl hcB, hs, pnm]
  · obtain rfl : i = 3 := by omega
    simp
    exact fin_ret (by simp; rfl) (rfP_ok (by simp)) (by simp) (by simp)
end Go.Proofs.Ytehdfbhfbidadaa.V
/- Draws: labels, any value. -/
namespace Go.Proofs.Ytehdfbhfbidadaa.V
open Go
set_option linter.unusedVariables false
set_option linter.unusedSimpArgs false
set_option maxHeartbeats 16000000
def LbB (s : List Tx) : Prop := ∀ x ∈ s, x.length ≤ 8
def LabelsR (b : List UInt8) (p : Nat) (s : List Tx) (p' : Nat) : Prop := s.length ≤ 2 ∧ LbB s ∧ Ret Try.prog 177 [rdT b p] (.own 1 (s.map sS.O)) [rdT b p']
set_option maxRecDepth 20000 in
theorem labels_d (b : List UInt8) (hb : b.length ≤ 2 ^ 20) (p : Nat) (hp : p + 2 ≤ 2 ^ 50) : ∃ s p', p ≤ p' ∧ p' ≤ p + 2 ∧ LabelsR b p s p' := by
  obtain ⟨k, p1, k0, k1, k2, h⟩ := pick_d b hb p (by omega) 3 (by omega)
  obtain ⟨j, p2, j0, j1, j2, g⟩ := pick_d b hb p1 (by omega) 3 (by omega)
  refine ⟨(if 0 < k then [[80]] else []) ++ (if j = 0 then [[81]] else []), p2, by omega, by omega, ?_, ?_, ?_⟩
  · split <;> split <;> simp
  · intro x hx
    split at hx <;> split at hx <;> simp at hx <;> (try rcases hx with rfl | rfl) <;> (try subst hx) <;> simp
  refine via_spec_l11Labels (by simp) ?_
  by_cases c1 : 0 < k <;> by_cases c2 : j = 0
  all_goals
    simp [pc_spec_l11Labels, rdT]
    refine hookH_rd h rfl rfl (by simp) (by simp [T.im]) rfl ?_
    simp [c1]
    refine hookH_rd g rfl rfl (by simp) (by simp [T.im]) rfl ?_
    simp [c1, c2]
    exact fin_ret (by simp; rfl) (rfP_ok (by simp [c1, c2])) (by simp) (by simp [c1, c2])
def AnyLabelsR (b : List UInt8) (p : Nat) (s : List Tx) (p' : Nat) : Prop := s.length ≤ 3 ∧ LbB s ∧ Ret Try.prog 140 [rdT b p] (.own 1 (s.map sS.O)) [rdT b p']
set_option maxRecDepth 20000 in
theorem anyLabels_d (b : List UInt8) (hb : b.length ≤ 2 ^ 20) (p : Nat) (hp : p + 4 ≤ 2 ^ 50) : ∃ s p', p ≤ p' ∧ p' ≤ p + 4 ∧ AnyLabelsR b p s p' := by
  obtain ⟨s, p1, s0, s1, s2, s3, h⟩ := labels_d b hb p (by omega)
  obtain ⟨j, p2, j0, j1, j2, g⟩ := pick_d b hb p1 (by omega) 12 (by omega)
  by_cases c : j = 0
  · obtain ⟨x, p3, x0, x1, x2, e⟩ := of_d b hb p2 (by omega) [[], [65], [82], [77, 65, 84, 67, 72]] (by simp) (by simp)
    refine ⟨s ++ [x], p3, by omega, by omega, by simp; omega, ?_, ?_⟩
    · intro y hy
      rcases List.mem_append.1 hy with hy | hy
      · exact s3 y hy
      · simp only [List.mem_singleton] at hy
        subst hy
        simp at x2
        rcases x2 with rfl | rfl | rfl | rfl <;> simp
    refine via_spec_l11AnyLabels (by simp) ?_
    simp [pc_spec_l11AnyLabels, rdT]
    refine hookH_rd h rfl rfl (by simp) (by simp [T.im]) rfl ?_
    simp
    refine hookH_rd g rfl rfl (by simp) (by simp [T.im]) rfl ?_
    have hbb : (s.length + 1) * 16 ≤ 35184372088832 := by omega
    simp [c]
    refine hookH_rdl e rfl rfl (by simp) (by simp) (by simp) (by simp) (by simp) (toIr_s _) ?_
    simp [c, hbb]
    exact fin_ret (by simp; rfl) (rfP_ok (by simp [List.take_of_length_le])) (by simp) (by simp)
  · refine ⟨s, p2, by omega, by omega, by omega, s3, ?_⟩
    refine via_spec_l11AnyLabels (by simp) ?_
    simp [pc_spec_l11AnyLabels, rdT]
    refine hookH_rd h rfl rfl (by simp) (by simp [T.im]) rfl ?_
    simp
    refine hookH_rd g rfl rfl (by simp) (by simp [T.im]) rfl ?_
    simp [c]
    exact fin_ret (by simp; rfl) (rfP_ok (by simp)) (by simp) (by simp)
def AnyValueR (b : List UInt8) (p : Nat) (v : Vl) (p' : Nat) : Prop := v.fit ∧ v.cnt ≤ 2048 ∧ Ret Try.prog 76 [rdT b p] (.agg (sV.O v)) [rdT b p']
theorem Vl.parts {k n : Int} {s : Tx} {l : List Vl} {B : Nat} (h : (Vl.mk k n s l).fit) (hc : (Vl.mk k n s l).cnt ≤ B) (k2 n2 : Int) (s2 : Tx) (hk : i64 k2) (hn : i64 n2) (hs : s2 = s ∨ s2.length ≤ 17) : (Vl.mk k2 n2 s2 l).fit ∧ (Vl.mk k2 n2 s2 l).cnt ≤ B + 17 := by
  rw [Vl.fit_mk] at h
  rw [Vl.cnt_mk] at hc
  constructor
  · rw [Vl.fit_mk]
    refine ⟨hk, hn, ?_, h.2.2.2⟩
    rcases hs with rfl | hs
    · exact h.2.2.1
    · simp only [ln]; omega
  · rw [Vl.cnt_mk]
    rcases hs with rfl | hs <;> omega
set_option maxRecDepth 20000 in
theorem anyValue_4 (b : List UInt8) (hb : b.length ≤ 2 ^ 20) (p p1 p2 : Nat) (v : Vl) (e1 : p ≤ p1 ∧ p1 ≤ p + 512) (e2 : p1 ≤ p2 ∧ p2 ≤ p1 + 1) (hp : p + 700 ≤ 2 ^ 50) (h : Ret Try.prog 141 [rdT b p, .i .i64 3] (.agg (sV.O v)) [rdT b p1, .dead]) (g : Ret Try.prog 77 [rdT b p1, .i .i64 16] (.i .i64 4) [rdT b p2, .dead]) : ∃ v p', p ≤ p' ∧ p' ≤ p + 700 ∧ AnyValueR b p v p' := by
  obtain ⟨x, p3, x0, x1, x2, e⟩ := pick_d b hb p2 (by omega) 2 (by omega)
  obtain ⟨k, hk⟩ : ∃ k : Nat, k = 6 + x := ⟨_, rfl⟩
  obtain ⟨l, q, q1, q2, q3, q4⟩ := draws (B := 2 ^ 50) (plain_c b hb 1 (by omega)) k p3 (by omega)
  have hq := q3 k (by omega)
  obtain ⟨f1, f2⟩ := list_val (R := fun _ => True) (l := l) (B := 16 * 4 ^ 1) (by omega) (fun v hv => by obtain ⟨i, hi⟩ := List.mem_iff_getElem?.1 hv; exact (q4 i v hi).1) (fun v hv => by obtain ⟨i, hi⟩ := List.mem_iff_getElem?.1 hv; exact (q4 i v hi).2.1)
  refine ⟨.mk 4 0 [] l, q k, by omega, by omega, f1, by omega, ?_⟩
  obtain ⟨k', n', s', l'⟩ := v
  refine via_spec_l11AnyValue (by simp) ?_
  simp [pc_spec_l11AnyValue, rdT]
  refine hookH_rd h rfl rfl (by simp) (by simp [T.im]) rfl ?_
  simp
  refine hookH_rd g rfl rfl (by simp) (by simp [T.im]) rfl ?_
  simp
  refine hookH_rd e rfl rfl (by simp) (by simp [T.im]) rfl ?_
  have hw : IntKind.i64.wrap (6 + (x : Int)) = (k : Int) := by rw [wrap64 (by omega) (by omega)]; omega
  simp [hw]
  have hcO : ∀ i, cleanR ((l.map sV.O).take i) = true := by intro i; rw [← List.map_take]; exact sV.crO _
  refine W_for (fun i => ⟨[(4, .i .i64 ((k : Int) - i)), (3, .ptr 5 0 0), (2, .ptr 1 0 0), (0, .ptr 0 0 0)], [(0, .arr 2 [[.imm (u8T b), .i .i64 (q i)]]), (1, .arr 4 [[.i .i64 0, .i .i64 0, .s [], .nl]]), (5, .arr 4 [[.i .i64 4, .i .i64 0, .s [], .own 4 ((l.map sV.O).take i)]])], 20, 1⟩) k (fun i => True) ?_ trivial ?_
  · refine Wk.trans (Wk.join (b := 5) (r := 0) (cs := [.i .i64 4, .i .i64 0, .s [], .own 4 []]) rfl rfl (by simp) (by simp)) ?_
    exact Wk.to rfl (by simp) (by simp) (by simp [q2, Blk.names]) (by simp)
  intro i hi _
  rcases Nat.lt_or_ge i k with h1 | h1
  · obtain ⟨x, hx⟩ : ∃ x, l[i]? = some x := ⟨_, List.getElem?_eq_getElem (by omega)⟩
    have hr := (q4 i x hx).2.2
    have w2 : IntKind.i64.wrap ((k : Int) - i - 1) = (k : Int) - ((i + 1 : Nat) : Int) := by rw [wrap64 (by omega) (by omega)]; omega
    have hA : (List.take i (l.map sV.O)).length = i := by simp; omega
    have hnew := fill_new sV.O hx
    have hcA := hcO i
    have htt : List.take i (List.take i (l.map sV.O)) = List.take i (l.map sV.O) := by rw [List.take_take]; simp
    have hbig : (i + 1) * 56 ≤ 35184372088832 := by omega
    have hmin : min i l.length = i := by omega
    obtain ⟨k', n', s', l'⟩ := x
    simp [h1, hmin]
    refine hookH_rd hr rfl rfl (by simp) (by simp [T.im]) rfl ?_
    simp [h1, w2, hmin, htt, hbig]
    generalize List.take i (l.map sV.O) = A at *
    have hg := app1_get hA
    have hs := app1_set hA
    repeat with_reducible refine need_mk (by decide +kernel) ?_
    refine Wk.trans (Wk.join (b := 60) (r := i) (cs := sV.O ⟨k', n', s', l'⟩) rfl (by simp [hg]; rfl) (by simp) (by simp)) ?_
    refine Wk.trans (Wk.join (b := 5) (r := 0) (cs := [.i .i64 4, .i .i64 0, .s [], .own 4 ((l.map sV.O).take (i + 1))]) rfl rfl (by simp [hs, hnew, hA, hcA, List.take_of_length_le]) (by simp)) ?_
    exact Wk.to rfl (by simp) (by simp) (by simp [Blk.names]) (by simp)
  · obtain rfl : i = k := by omega
    have e1 : (l.map sV.O).take i = l.map sV.O := List.take_of_length_le (by simp; omega)
    simp [e1, q1]
    exact fin_ret (by simp; rfl) (rfP_ok (by simp [e1, q1])) (by simp) (by simp)
set_option maxRecDepth 20000 in
theorem anyValue_d (b : List UInt8) (hb : b.length ≤ 2 ^ 20) (p : Nat) (hp : p + 700 ≤ 2 ^ 50) : ∃ v p', p ≤ p' ∧ p' ≤ p + 700 ∧ AnyValueR b p v p' := by
  obtain ⟨v, p1, s0, s1, v1, v2, h⟩ := value_c b hb 3 (by omega) p (by omega)
  obtain ⟨j, p2, j0, j1, j2, g⟩ := pick_d b hb p1 (by omega) 16 (by omega)
  obtain ⟨k', n', s', l'⟩ := v
  have v3 := v1
  rw [Vl.fit_mk] at v3
  rcases (by omega : j = 0 ∨ j = 1 ∨ j = 2 ∨ j = 3 ∨ j = 4 ∨ 5 ≤ j) with rfl | rfl | rfl | rfl | rfl | hj
  · obtain ⟨x, p3, x0, x1, x2, e⟩ := pick_d b hb p2 (by omega) 9 (by omega)
    obtain ⟨f1, f2⟩ := Vl.parts v1 v2 ((x : Int) - 1) n' s' (by simp only [i64]; omega) v3.2.1 (.inl rfl)
    have hw : IntKind.i64.wrap ((x : Int) - 1) = (x : Int) - 1 := wrap64 (by omega) (by omega)
    refine ⟨_, p3, by omega, by omega, f1, by omega, ?_⟩
    refine via_spec_l11AnyValue (by simp) ?_
    simp [pc_spec_l11AnyValue, rdT]
    refine hookH_rd h rfl rfl (by simp) (by simp [T.im]) rfl ?_
    simp
    refine hookH_rd g rfl rfl (by simp) (by simp [T.im]) rfl ?_
    simp
    refine hookH_rd e rfl rfl (by simp) (by simp [T.im]) rfl ?_
    simp [hw]
    exact fin_ret (by simp; rfl) (rfP_ok (by simp)) (by simp) (by simp)
  · obtain ⟨x, p3, x0, x1, x2, e⟩ := one_d b hb p2 (by omega) [1000000001, -1000000001, -1] (by simp)
    obtain ⟨f1, f2⟩ := Vl.parts v1 v2 k' x s' v3.1 (by simp at x2; simp only [i64]; omega) (.inl rfl)
    refine ⟨_, p3, by omega, by omega, f1, by omega, ?_⟩
    refine via_spec_l11AnyValue (by simp) ?_
    simp [pc_spec_l11AnyValue, rdT]
    refine hookH_rd h rfl rfl (by simp) (by simp [T.im]) rfl ?_
    simp
    refine hookH_rd g rfl rfl (by simp) (by simp [T.im]) rfl ?_
    simp
    refine hookH_rdl e rfl rfl (by simp) (by simp) (by simp) (by simp) (by simp) (toIr_i _) ?_
    simp
    exact fin_ret (by simp; rfl) (rfP_ok (by simp)) (by simp) (by simp)
  · have hm := many_c [117] 17 (by simp) (by simp) (by simp)
    have hml := manyF_len 17 [117] []
    generalize manyF 17 [117] [] = tt at hm hml
    obtain ⟨x, p3, x0, x1, x2, e⟩ := of_d b hb p2 (by omega) [[39], [10], tt, [120]] (by simp) (by simp)
    obtain ⟨f1, f2⟩ := Vl.parts v1 v2 k' n' x v3.1 v3.2.1 (.inr (by simp at x2 hml; rcases x2 with rfl | rfl | rfl | rfl <;> first | omega | simp))
    refine ⟨_, p3, by omega, by omega, f1, by omega, ?_⟩
    refine via_spec_l11AnyValue (by simp) ?_
    simp [pc_spec_l11AnyValue, rdT]
    refine hookH_rd h rfl rfl (by simp) (by simp [T.im]) rfl ?_
    simp
    refine hookH_rd g rfl rfl (by simp) (by simp [T.im]) rfl ?_
    simp
    refine callK_val (by simp) hm (by simp [T.noImm]) ?_
    simp
    refine hookH_rdl e rfl rfl (by simp) (by simp) (by simp) (by simp) (by simp) (toIr_s _) ?_
    simp
    exact fin_ret (by simp; rfl) (rfP_ok (by simp)) (by simp) (by simp)
  · obtain ⟨f1, f2⟩ := list_val (R := fun _ => True) (l := [Vl.mk k' n' s' l']) (B := 16 * 4 ^ 3) (by simp) (by simpa using v1) (by simpa using v2)
    refine ⟨.mk 4 0 [] [.mk k' n' s' l'], p2, by omega, by omega, f1, by simp only [List.length_singleton] at f2; omega, ?_⟩
    refine via_spec_l11AnyValue (by simp) ?_
    simp [pc_spec_l11AnyValue, rdT]
    refine hookH_rd h rfl rfl (by simp) (by simp [T.im]) rfl ?_
    simp
    refine hookH_rd g rfl rfl (by simp) (by simp [T.im]) rfl ?_
    simp
    refine fin_wk (Wk.join (b := 9) (r := 0) (cs := sV.O ⟨k', n', s', l'⟩) rfl rfl (by simp) (by simp)) ?_
    exact fin_ret (by simp; rfl) (rfP_ok (by simp)) (by simp) (by simp)
  · exact anyValue_4 b hb p p1 p2 _ ⟨s0, by omega⟩ ⟨j0, j1⟩ hp h g
  · have c0 : ¬ j = 0 := by omega
    have c1 : ¬ j = 1 := by omega
    have c2 : ¬ j = 2 := by omega
    have c3 : ¬ j = 3 := by omega
    have c4 : ¬ j = 4 := by omega
    have c0' : ¬ (j : Int) = 0 := by omega
    have c1' : ¬ (j : Int) = 1 := by omega
    have c2' : ¬ (j : Int) = 2 := by omega
    have c3' : ¬ (j : Int) = 3 := by omega
    have c4' : ¬ (j : Int) = 4 := by omega
    refine ⟨_, p2, by omega, by omega, v1, by omega, ?_⟩
    refine via_spec_l11AnyValue (by simp) ?_
    simp [pc_spec_l11AnyValue, rdT]
    refine hookH_rd h rfl rfl (by simp) (by simp [T.im]) rfl ?_
    simp
    refine hookH_rd g rfl rfl (by simp) (by simp [T.im]) rfl ?_
    simp [c0, c1, c2, c3, c4, c0', c1', c2', c3', c4']
    exact fin_ret (by simp; rfl) (rfP_ok (by simp)) (by simp) (by simp)
end Go.Proofs.Ytehdfbhfbidadaa.V
/- Draws: any props. -/
namespace Go.Proofs.Ytehdfbhfbidadaa.V
open Go
set_option linter.unusedVariables false
set_option linter.unusedSimpArgs false
set_option maxHeartbeats 16000000
def AnyPropsR (b : List UInt8) (p : Nat) (s : List Pr) (p' : Nat) : Prop := s.length ≤ 5 ∧ PrB 2100 s ∧ Ret Try.prog 139 [rdT b p] (.own 5 (s.map sP.O)) [rdT b p']
theorem PrB.mono {B C : Nat} {s : List Pr} (h : PrB B s) (hc : B ≤ C) : PrB C s := fun x hx => ⟨(h x hx).1, Nat.le_trans (h x hx).2 hc⟩
theorem PrB.app {B : Nat} {s t : List Pr} (h : PrB B s) (ht : PrB B t) : PrB B (s ++ t) := fun x hx => by
  rcases List.mem_append.1 hx with hx | hx
  · exact h x hx
  · exact ht x hx
theorem PrB.one {B C : Nat} {nm : Tx} {v : Vl} (hn : nm.length ≤ 8) (hf : v.fit) (hv : v.cnt ≤ C) (hB : C + 8 ≤ B) : PrB B [⟨nm, v⟩] := fun x hx => by
  simp only [List.mem_singleton] at hx
  subst hx
  exact ⟨⟨by simp only [ln]; omega, hf⟩, by simp only [Pr.cnt]; omega⟩
section
variable {β : Type} {A : List β} {i : Nat} {x y z : β}
theorem app2_get (h : A.length = i) : (A ++ [x, y])[i]? = some x := by rw [List.getElem?_append_right (by omega), h]; simp
theorem app2_get' (h : A.length = i) : (A ++ [x, y])[i + 1]? = some y := by rw [List.getElem?_append_right (by omega), h]; simp
theorem app2_set (h : A.length = i) : (A ++ [x, y]).set i z = A ++ [z, y] := by rw [List.set_append_right _ _ (by omega), h]; simp
theorem app2_set' (h : A.length = i) : (A ++ [x, y]).set (i + 1) z = A ++ [x, z] := by rw [List.set_append_right _ _ (by omega), h]; simp
end
set_option maxRecDepth 20000 in
theorem anyProps_d (b : List UInt8) (hb : b.length ≤ 2 ^ 20) (p : Nat) (hp : p + 950 ≤ 2 ^ 50) : ∃ s p', p ≤ p' ∧ p' ≤ p + 950 ∧ AnyPropsR b p s p' := by
  obtain ⟨s, p1, s0, s1, s2, s3, h⟩ := props_d b hb p (by omega)
  obtain ⟨j, p2, j0, j1, j2, g⟩ := pick_d b hb p1 (by omega) 14 (by omega)
  have s4 := s3.mono (C := 2100) (by omega)
  rcases (by omega : j = 0 ∨ j = 1 ∨ 2 ≤ j) with rfl | rfl | hj
  · obtain ⟨x, p3, x0, x1, x2, e⟩ := of_d b hb p2 (by omega) [[], [97], [122], [120]] (by simp) (by simp)
    obtain ⟨v, p4, v0, v1, v2, v3, hv⟩ := anyValue_d b hb p3 (by omega)
    have hx : x.length ≤ 8 := by simp at x2; rcases x2 with rfl | rfl | rfl | rfl <;> simp
    refine ⟨s ++ [⟨x, v⟩], p4, by omega, by omega, by simp; omega, s4.app (.one hx v2 v3 (by omega)), ?_⟩
    obtain ⟨k', n', s', l'⟩ := v
    have hbb : (s.length + 1) * 72 ≤ 35184372088832 := by omega
    refine via_spec_l11AnyProps (by simp) ?_
    simp [pc_spec_l11AnyProps, rdT]
    refine hookH_rd h rfl rfl (by simp) (by simp [T.im]) rfl ?_
    simp
    refine hookH_rd g rfl rfl (by simp) (by simp [T.im]) rfl ?_
    simp
    refine hookH_rdl e rfl rfl (by simp) (by simp) (by simp) (by simp) (by simp) (toIr_s _) ?_
    simp
    refine hookH_rd hv rfl rfl (by simp) (by simp [T.im]) rfl ?_
    simp [hbb]
    have hAl : (s.map sP.O).length = s.length := by simp
    have hg := app1_get hAl
    have hs := app1_set hAl
    refine fin_wk (Wk.join (b := 14) (r := s.length) (cs := sP.O ⟨x, ⟨k', n', s', l'⟩⟩) rfl (by simp [hg]; rfl) (by simp) (by simp)) ?_
    simp [hs]
    exact fin_ret (by simp; rfl) (rfP_ok (by simp [List.take_of_length_le])) (by simp) (by simp)
  · obtain ⟨v, p3, v0, v1, v2, v3, hv⟩ := plain_c b hb 1 (by omega) p2 (by omega)
    obtain ⟨w, p4, w0, w1, w2, w3, hw⟩ := plain_c b hb 1 (by omega) p3 (by omega)
    refine ⟨s ++ [⟨[121], v⟩, ⟨[122], w⟩], p4, by omega, by omega, by simp; omega, s4.app (PrB.app (s := [_]) (.one (by simp) v2 v3 (by omega)) (.one (by simp) w2 w3 (by omega))), ?_⟩
    obtain ⟨k', n', s', l'⟩ := v
    obtain ⟨k2, n2, t2, l2⟩ := w
    have hbb : (s.length + 2) * 72 ≤ 35184372088832 := by omega
    refine via_spec_l11AnyProps (by simp) ?_
    simp [pc_spec_l11AnyProps, rdT]
    refine hookH_rd h rfl rfl (by simp) (by simp [T.im]) rfl ?_
    simp
    refine hookH_rd g rfl rfl (by simp) (by simp [T.im]) rfl ?_
    simp
    refine hookH_rd hv rfl rfl (by simp) (by simp [T.im]) rfl ?_
    simp
    refine hookH_rd hw rfl rfl (by simp) (by simp [T.im]) rfl ?_
    simp [hbb]
    have hAl : (s.map sP.O).length = s.length := by simp
    refine fin_wk (Wk.join (b := 13) (r := s.length) (cs := sP.O ⟨[121], ⟨k', n', s', l'⟩⟩) rfl (by simp [app2_get hAl]; rfl) (by simp) (by simp)) ?_
    simp [app2_set hAl]
    refine fin_wk (Wk.join (b := 13) (r := s.length + 1) (cs := sP.O ⟨[122], ⟨k2, n2, t2, l2⟩⟩) rfl (by simp [app2_get' hAl]; rfl) (by simp) (by simp)) ?_
    simp [app2_set' hAl]
    exact fin_ret (by simp; rfl) (rfP_ok (by simp [List.take_of_length_le])) (by simp) (by simp)
  · have c0 : ¬ j = 0 := by omega
    have c1 : ¬ j = 1 := by omega
    have c1' : ¬ (j : Int) = 1 := by omega
    refine ⟨s, p2, by omega, by omega, by omega, s4, ?_⟩
    refine via_spec_l11AnyProps (by simp) ?_
    simp [pc_spec_l11AnyProps, rdT]
    refine hookH_rd h rfl rfl (by simp) (by simp [T.im]) rfl ?_
    simp
    refine hookH_rd g rfl rfl (by simp) (by simp [T.im]) rfl ?_
    simp [c0, c1, c1']
    exact fin_ret (by simp; rfl) (rfP_ok (by simp)) (by simp) (by simp)
end Go.Proofs.Ytehdfbhfbidadaa.V
/- What is owned by a cell gets a name: the other way round of a join. -/
namespace Go.Proofs.Ytehdfbhfbidadaa.V
open Go
set_option linter.unusedVariables false
set_option linter.unusedSimpArgs false
theorem Wk.split {s : St} {tk r q M sz : Nat} {rows : List (List T)} {row : List T} (hg : hget s.hp tk = some (.arr sz rows)) (hrow : rows[r]? = some row) (hqm : q + M ≤ row.length) :
    Wk s ⟨s.tm, hap s.hp (drawn tk sz rows r row q M (mats ((row.drop q).take M) s.nx)), s.nx + (drawn tk sz rows r row q M (mats ((row.drop q).take M) s.nx)).length, s.fb⟩ := by
  rintro E a w ⟨⟨ρ, O, F, hR⟩, hE⟩
  obtain ⟨hA, hBR⟩ := hR.hp _ _ hg
  obtain ⟨B, c, et, rs1, rs2, us1, us, us2, F1, Fr, F2, hB, hrest⟩ := hBR.row hrow
  obtain ⟨us, _, _, ρ', _, F', h⟩ := draw_ok (o := { op := .move (.const (.bool true)), dst := none, type := 0, pos := "", after := #[], guard := none }) (n := s.nx) hR (by intro k hk; cases hk) hA hB hg hrow hqm hE (fun t h1 _ h2 => by omega)
  have h2 := h.monoA (A' := (· < s.nx + (drawn tk sz rows r row q M (mats ((row.drop q).take M) s.nx)).length)) (fun t ht => by
    simp only [Aext] at ht
    rcases ht with ht | ht <;> omega)
  exact ⟨⟨ρ', O, F', h2.size, h2.defers, h2.fb, h2.ρ0, h2.O0, h2.Olt, h2.Onew, h2.tm, h2.hp, h2.nodup, h2.apart, h2.mine, h2.keep⟩, by simp only; omega⟩
end Go.Proofs.Ytehdfbhfbidadaa.V
/- Edges dropped by the reference: the graph is handed over. -/
namespace Go.Proofs.Ytehdfbhfbidadaa.V
open Go
set_option linter.unusedVariables false
set_option linter.unusedSimpArgs false
set_option maxHeartbeats 16000000
def xE (id : Int) (e : Eg) : List T := [.i .i64 e.id, .s e.kind, .i .i64 e.frm, .i .i64 e.to, if e.id = id then .own 5 (e.props.map sP.O) else .dead]
theorem xE_cl (id : Int) (m : List Eg) : cleanR (m.map (xE id)) = true := by
  simp only [cleanR, List.all_map, List.all_eq_true]
  intro e _
  simp only [xE, Function.comp]
  split <;> simp
theorem mix_get {β γ : Type} {f g : β → γ} {l : List β} {i : Nat} {x : β} (hx : l[i]? = some x) : ((l.map f).take i ++ (l.map g).drop i)[i]? = some (g x) := by
  have h1 : i < l.length := (List.getElem?_eq_some_iff.1 hx).1
  have hlen : ((l.map f).take i).length = i := by simp; omega
  rw [List.getElem?_append_right (by omega), hlen]; simp [hx]
theorem mix_set {β γ : Type} {f g : β → γ} {l : List β} {i : Nat} {x : β} (hx : l[i]? = some x) (r : γ) : ((l.map f).take i ++ (l.map g).drop i).set i r = (l.map f).take i ++ r :: (l.map g).drop (i + 1) := by
  have h1 : i < l.length := (List.getElem?_eq_some_iff.1 hx).1
  have hlen : ((l.map f).take i).length = i := by simp; omega
  rw [List.drop_eq_getElem_cons (by simpa using h1), List.set_append_right _ _ (by omega), hlen]; simp
theorem mix_get2 {β γ : Type} {f g : β → γ} {l : List β} {i : Nat} {x : β} (hx : l[i]? = some x) (r : γ) : ((l.map f).take i ++ r :: (l.map g).drop (i + 1))[i]? = some r := by
  have h1 : i < l.length := (List.getElem?_eq_some_iff.1 hx).1
  have hlen : ((l.map f).take i).length = i := by simp; omega
  rw [List.getElem?_append_right (by omega), hlen]; simp
theorem mix_set2 {β γ : Type} {f g : β → γ} {l : List β} {i : Nat} {x : β} (hx : l[i]? = some x) (r r' : γ) : ((l.map f).take i ++ r :: (l.map g).drop (i + 1)).set i r' = (l.map f).take i ++ r' :: (l.map g).drop (i + 1) := by
  have h1 : i < l.length := (List.getElem?_eq_some_iff.1 hx).1
  have hlen : ((l.map f).take i).length = i := by simp; omega
  rw [List.set_append_right _ _ (by omega), hlen]; simp
theorem mix_new {β γ : Type} {f g : β → γ} {l : List β} {i : Nat} {x : β} (hx : l[i]? = some x) : (l.map f).take (i + 1) ++ (l.map g).drop (i + 1) = (l.map f).take i ++ f x :: (l.map g).drop (i + 1) := by
  rw [List.take_add_one, List.getElem?_map, hx]; simp
theorem mix_same {β γ : Type} {f g : β → γ} {l : List β} {i : Nat} {x : β} (hx : l[i]? = some x) (h : f x = g x) : (l.map f).take (i + 1) ++ (l.map g).drop (i + 1) = (l.map f).take i ++ (l.map g).drop i := by
  have h1 : i < l.length := (List.getElem?_eq_some_iff.1 hx).1
  rw [mix_new hx, h]
  conv => rhs; rw [List.drop_eq_getElem_cons (by simpa using h1)]
  have : (l.map g)[i]'(by simpa using h1) = g x := by
    obtain ⟨h2, h3⟩ := List.getElem?_eq_some_iff.1 hx
    simp [h3]
  rw [this]
theorem mix_cl {f g : Eg → List T} (hf : ∀ m : List Eg, cleanR (m.map f) = true) (hg : ∀ m : List Eg, cleanR (m.map g) = true) (l : List Eg) (i : Nat) : cleanR ((l.map f).take i ++ (l.map g).drop i) = true := by
  rw [cleanR_append, ← List.map_take, ← List.map_drop, hf, hg]; rfl
set_option maxRecDepth 20000 in
theorem l2DropEdge_e (g : Gr) (hl : g.edges.length ≤ 2 ^ 20) (id : Int) : Ret Try.prog 192 [.agg (sG.O g), .i .i64 id] (.agg (sG.O (gDropE g id))) [.dead, .dead] := by
  obtain ⟨l, es, nn, ne⟩ := g
  simp only [gDropE] at hl ⊢
  refine via_spec_l2DropEdge (by simp) ?_
  simp [pc_spec_l2DropEdge]
  have hcN := sN.crO l
  refine W_for (fun i => ⟨[(6, .i .i64 i), (5, .ref 4 0 ((es.take i).filter (fun e => !decide (e.id = id))).length), (1, .i .i64 id), (2, .ptr 2 0 0), (4, .ptr 3 0 0)], [(0, .arr 3 (l.map sN.O)), (1, .arr 5 ((es.map (xE id)).take i ++ (es.map sE.O).drop i)), (2, .arr 4 [[.ref 0 0 l.length, .ref 1 0 es.length, .i .i64 nn, .i .i64 ne]]), (3, .arr 4 [[.nl, .nl, .i .i64 0, .i .i64 0]]), (4, .arr 5 (((es.take i).filter (fun e => !decide (e.id = id))).map sE.O))], 20, 2⟩) es.length (fun _ => True) ?_ trivial ?_
  · exact Wk.less rfl (by simp) (by simp) (by simp)
  intro i hi _
  rcases Nat.lt_or_ge i es.length with h1 | h1
  · obtain ⟨x, hx⟩ : ∃ x, es[i]? = some x := ⟨_, List.getElem?_eq_getElem h1⟩
    have hw : IntKind.i64.wrap ((i : Int) + 1) = (i : Int) + 1 := wrap1 (by omega)
    have hfl : ((es.take i).filter (fun e => !decide (e.id = id))).length ≤ i := Nat.le_trans (List.length_filter_le _ _) (by simp; omega)
    have htk : es.take (i + 1) = es.take i ++ [x] := by rw [List.take_add_one, hx]; simp
    have hrow := mix_get (f := xE id) (g := sE.O) hx
    have hset := mix_set (f := xE id) (g := sE.O) hx
    have hgt := mix_get2 (f := xE id) (g := sE.O) hx
    have hset2 := mix_set2 (f := xE id) (g := sE.O) hx
    have hnew := mix_new (f := xE id) (g := sE.O) hx
    have hsame := mix_same (f := xE id) (g := sE.O) hx
    have hc0 := mix_cl (xE_cl id) sE.crO es i
    have hc1 := mix_cl (xE_cl id) sE.crO es (i + 1)
    obtain ⟨a, b, c, d, ps⟩ := x
    by_cases h : a = id
    · have hn : (es.take (i + 1)).filter (fun e => !decide (e.id = id)) = (es.take i).filter (fun e => !decide (e.id = id)) := by rw [htk, List.filter_append]; simp [h]
      have hs := hsame (by simp [xE, h])
      rw [hn, hs]
      generalize (es.take i).filter (fun e => !decide (e.id = id)) = A at *
      have hcA := sE.crO A
      simp [-getElem?_pos, hx, hw, h1, h, hrow]
      exact Wk.to rfl (by simp) (by simp) (by simp [Blk.names, namesr_clean hcA, namesr_clean hcN, namesr_clean hc0]) (by simp)
    · have hn : (es.take (i + 1)).filter (fun e => !decide (e.id = id)) = (es.take i).filter (fun e => !decide (e.id = id)) ++ [⟨a, b, c, d, ps⟩] := by rw [htk, List.filter_append]; simp [h]
      rw [hn]
      generalize (es.take i).filter (fun e => !decide (e.id = id)) = A at *
      have hbig : (A.length + 1) * 64 ≤ 35184372088832 := by omega
      simp [-getElem?_pos, hx, hw, h1, h, hrow, hbig, hset]
      have hdE : xE id ⟨a, b, c, d, ps⟩ = [.i .i64 a, .s b, .i .i64 c, .i .i64 d, .dead] := by simp [xE, h]
      rw [hdE] at hnew
      have hA : (A.map sE.O).length = A.length := by simp
      have hg2 := app1_get hA
      have hs3 := app1_set hA
      have hcB : cleanR (A.map sE.O ++ [[.i .i64 a, .s b, .i .i64 c, .i .i64 d, .own 5 (ps.map sP.O)]]) = true := by
        have := sE.crO (A ++ [⟨a, b, c, d, ps⟩])
        rw [List.map_append] at this
        simpa only [List.map_cons, List.map_nil, sE_O] using this
      refine Wk.trans (Wk.join (b := 1) (r := i) (cs := [.i .i64 a, .s b, .i .i64 c, .i .i64 d, .dead]) rfl (by simp [hgt]; rfl) (by simp) (by simp)) ?_
      refine Wk.trans (Wk.join (b := 23) (r := A.length) (cs := [.i .i64 a, .s b, .i .i64 c, .i .i64 d, .own 5 (ps.map sP.O)]) rfl (by simp [hg2]; rfl) (by simp) (by simp)) ?_
      rw [hnew] at hc1 ⊢
      refine Wk.ren (fun t => if t = 4 then 23 else t) rfl (by simp) (by simp; omega) (by simp) ?_ (by simp)
      simp [Blk.rn, Blk.names, namesr_clean hc1, namesr_clean hcB, namesr_clean hcN, rnr_cl hc1, rnr_cl hcB, rnr_cl hcN, hset2, hs3]
  · obtain rfl : i = es.length := by omega
    have e1 : (es.map (xE id)).take es.length = es.map (xE id) := List.take_of_length_le (by simp)
    have e2 : (es.map sE.O).drop es.length = [] := by simp
    have hcA := sE.crO (es.filter (fun e => !decide (e.id = id)))
    simp [e1, e2]
    exact fin_eaten (by simp; rfl) (by simp) (by simp)
end Go.Proofs.Ytehdfbhfbidadaa.V
/- Nodes dropped by the reference: the graph is handed over. -/
namespace Go.Proofs.Ytehdfbhfbidadaa.V
open Go
set_option linter.unusedVariables false
set_option linter.unusedSimpArgs false
set_option maxHeartbeats 16000000
def xN (id : Int) (e : Nd) : List T := [.i .i64 e.id, if e.id = id then .own 1 (e.labels.map sS.O) else .dead, if e.id = id then .own 5 (e.props.map sP.O) else .dead]
theorem xN_cl (id : Int) (m : List Nd) : cleanR (m.map (xN id)) = true := by
  simp only [cleanR, List.all_map, List.all_eq_true]
  intro e _
  simp only [xN, Function.comp]
  split <;> simp
theorem mix_clN {f g : Nd → List T} (hf : ∀ m : List Nd, cleanR (m.map f) = true) (hg : ∀ m : List Nd, cleanR (m.map g) = true) (l : List Nd) (i : Nat) : cleanR ((l.map f).take i ++ (l.map g).drop i) = true := by
  rw [cleanR_append, ← List.map_take, ← List.map_drop, hf, hg]; rfl
set_option maxRecDepth 20000 in
theorem l2DropNode_e (g : Gr) (hl0 : g.nodes.length ≤ 2 ^ 20) (hl : g.edges.length ≤ 2 ^ 20) (id : Int) (det : Bool) : Ret Try.prog 180 [.agg (sG.O g), .i .i64 id, .b det] (.tup [.agg (sG.O (dropN g id det).1), .b (dropN g id det).2]) [.dead, .dead, .dead] := by
  have ok1 : okCall Try.prog 192 = true := by kernel_rfl
  have h1 := l2Edges_c g hl id 0 []
  have hLl : (idsOf id 0 [] g.edges).length ≤ 2 ^ 20 := by
    unfold idsOf
    rw [List.length_map]
    exact Nat.le_trans (List.length_filter_le _ _) hl
  have hdE := fun (es' : List Eg) (h : es'.length ≤ 2 ^ 20) (k : Int) => l2DropEdge_e ⟨g.nodes, es', g.nn, g.ne⟩ h k
  by_cases c1 : idsOf id 0 [] g.edges ≠ [] ∧ det = false
  · have e1 : dropN g id det = (g, false) := by unfold dropN; rw [if_pos c1]
    rw [e1]
    obtain ⟨c1, rfl⟩ := c1
    have c2 : 0 < (idsOf id 0 [] g.edges).length := by cases hq : idsOf id 0 [] g.edges with | nil => exact absurd hq c1 | cons a b => simp
    obtain ⟨l, es, nn, ne⟩ := g
    simp only at h1 c2
    have hcN := sN.crO l
    have hcE := sE.crO es
    refine via_spec_l2DropNode (by simp) ?_
    simp [pc_spec_l2DropNode]
    refine callK_val (by simp) h1 (by simp [T.noImm]) ?_
    simp [c2]
    exact fin_eaten (by simp; rfl) (by simp) (by simp)
  · have e1 : dropN g id det = (gDropN g id, true) := by unfold dropN; rw [if_neg c1]
    rw [e1]
    have e2 : (decide (0 < (idsOf id 0 [] g.edges).length) && !det) = false := by
      cases det with
      | true => simp
      | false =>
        have : idsOf id 0 [] g.edges = [] := by
          cases hq : idsOf id 0 [] g.edges with
          | nil => rfl
          | cons a b => exact absurd ⟨by rw [hq]; simp, rfl⟩ c1
        simp [this]
    obtain ⟨l, es, nn, ne⟩ := g
    simp only [gDropN] at h1 e2 hLl hl hl0 hdE ⊢
    clear e1 c1
    generalize idsOf id 0 [] es = L at *
    have hLc := sI.crO L
    have hcN := sN.crO l
    have hcE := sE.crO es
    refine Ret.ofS Try.func180 ok_spec_l2DropNode rfl rfl (by simp) ?_
    refine WW_seq (WW_of_W ?_)
    simp
    refine WW_seq (WW_of_W ?_)
    simp
    refine callK_val (by simp) h1 (by simp [T.noImm]) ?_
    simp
    refine WW_seq (WW_seq (thn_cut (s2 := ⟨[(21, .b false), (8, .ref 4 0 L.length), (1, .i .i64 id), (3, .ptr 2 0 0), (6, .ptr 3 0 0)], [(10, .arr 3 (l.map sN.O)), (11, .arr 5 (es.map sE.O)), (2, .arr 4 [[.ref 10 0 l.length, .ref 11 0 es.length, .i .i64 nn, .i .i64 ne]]), (3, .arr 4 [[.nl, .nl, .i .i64 0, .i .i64 0]]), (4, .arr 1 (L.map sI.O))], 20, 2⟩) ?_ ?_))
    · have rnm : ∀ s : St, s.fb = 2 → hget s.hp 0 = some (.arr 3 (l.map sN.O)) → hget s.hp 1 = some (.arr 5 (es.map sE.O)) → hget s.hp 2 = some (.arr 4 [[.ref 0 0 l.length, .ref 1 0 es.length, .i .i64 nn, .i .i64 ne]]) → hget s.hp 3 = some (.arr 4 [[.nl, .nl, .i .i64 0, .i .i64 0]]) → hget s.hp 4 = some (.arr 1 (L.map sI.O)) →
          tget s.tm 21 = .b false → tget s.tm 8 = .ref 4 0 L.length → tget s.tm 1 = .i .i64 id → tget s.tm 3 = .ptr 2 0 0 → tget s.tm 6 = .ptr 3 0 0 →
          Wk s ⟨[(21, .b false), (8, .ref 4 0 L.length), (1, .i .i64 id), (3, .ptr 2 0 0), (6, .ptr 3 0 0)], [(10, .arr 3 (l.map sN.O)), (11, .arr 5 (es.map sE.O)), (2, .arr 4 [[.ref 10 0 l.length, .ref 11 0 es.length, .i .i64 nn, .i .i64 ne]]), (3, .arr 4 [[.nl, .nl, .i .i64 0, .i .i64 0]]), (4, .arr 1 (L.map sI.O))], 20, 2⟩ := by
        intro s hs g0 g1 g2 g3 g4 t1 t2 t3 t4 t5
        refine Wk.ren (fun t => if t = 10 then 0 else if t = 11 then 1 else t) hs.symm (by simp [hs]) (by intro t ht; rw [if_neg (by omega), if_neg (by omega)]) (by simp [t1, t2, t3, t4, t5]) ?_ (by simp)
        simp [Blk.rn, Blk.names, rns, g0, g1, g2, g3, g4, namesr_clean hcN, namesr_clean hcE, namesr_clean hLc, rnr_cl hcN, rnr_cl hcE, rnr_cl hLc]
      rcases Nat.lt_or_ge 0 L.length with c2 | c2
      · have hdt : det = true := by simpa [c2] using e2
        simp [c2, hdt]
        exact rnm _ rfl rfl rfl rfl rfl rfl rfl rfl rfl rfl rfl
      · have c3 : ¬ 0 < L.length := by omega
        simp [c3]
        exact rnm _ rfl rfl rfl rfl rfl rfl rfl rfl rfl rfl rfl
    refine WW_of_W ?_
    simp
    refine WW_seq (WW_of_W ?_)
    simp
    refine W_for (fun i => ⟨[(9, .i .i64 i), (8, .ref 4 0 L.length), (1, .i .i64 id), (3, .ptr 2 0 0), (6, .ptr 3 0 0)], [(10, .arr 3 (l.map sN.O)), (11, .arr 5 ((es.filter (fun e => !(L.take i).contains e.id)).map sE.O)), (2, .arr 4 [[.ref 10 0 l.length, .ref 11 0 (es.filter (fun e => !(L.take i).contains e.id)).length, .i .i64 nn, .i .i64 ne]]), (3, .arr 4 [[.nl, .nl, .i .i64 0, .i .i64 0]]), (4, .arr 1 (L.map sI.O))], 20, 2⟩) L.length (fun _ => True) ?_ trivial ?_
    · have e3 : es.filter (fun _ => true) = es := List.filter_eq_self.2 (by simp)
      exact Wk.less rfl (by simp) (by simp) (by simp [e3])
    intro i hi _
    rcases Nat.lt_or_ge i L.length with h3 | h3
    · obtain ⟨x, hx⟩ : ∃ x, L[i]? = some x := ⟨_, List.getElem?_eq_getElem h3⟩
      have hw : IntKind.i64.wrap ((i : Int) + 1) = (i : Int) + 1 := wrap1 (by omega)
      have htk : L.take (i + 1) = L.take i ++ [x] := by rw [List.take_add_one, hx]; simp
      have hE := hdE (es.filter (fun e => !(L.take i).contains e.id)) (Nat.le_trans (List.length_filter_le _ _) hl) x
      have hff : (es.filter (fun e => !(L.take i).contains e.id)).filter (fun e => !decide (e.id = x)) = es.filter (fun e => !(L.take (i + 1)).contains e.id) := by
        rw [List.filter_filter, htk]
        congr 1
        funext e
        by_cases q1 : e.id = x
        · simp [q1]
        · simp [q1]
      simp only [gDropE] at hE
      rw [hff] at hE
      generalize es.filter (fun e => !(L.take i).contains e.id) = E1 at *
      generalize es.filter (fun e => !(L.take (i + 1)).contains e.id) = E2 at *
      have hc1 := sE.crO E1
      have hc2 := sE.crO E2
      simp [-getElem?_pos, hx, hw, h3]
      refine hookH_callX [0] [(10, .arr 3 (l.map sN.O)), (11, .arr 5 (E1.map sE.O))] hE (by simp [handedX, handedXA, handedXs, handedX1, T.closed]) (bk := []) (by simp [backX, backXA, backXs, backX1, T.closed]) rfl ok1 (by simp) (by simp [named]) (by simp [named]) ?_
      simp [-getElem?_pos, hx, hw, h3, dX]
      repeat with_reducible refine need_mk (by decide +kernel) ?_
      refine Wk.ren (fun t => if t = 10 then 60 else if t = 11 then 61 else t) rfl (by simp) (by intro t ht; simp only at ht; rw [if_neg (by omega), if_neg (by omega)]) (by simp) ?_ (by simp)
      simp [Blk.rn, Blk.names, rns, namesr_clean hcN, namesr_clean hc2, namesr_clean hLc, rnr_cl hcN, rnr_cl hc2, rnr_cl hLc]
    · have h4 : ¬ i < L.length := by omega
      rw [List.take_of_length_le h3]
      generalize hE1 : es.filter (fun e => !L.contains e.id) = E1 at *
      have hc1 := sE.crO E1
      simp [h4]
      refine WW_seq (WW_of_W ?_)
      simp
      refine WW_seq (WW_of_W ?_)
      simp
      refine W_for (fun i => ⟨[(11, .i .i64 i), (10, .ref 12 0 ((l.take i).filter (fun n => !decide (n.id = id))).length), (1, .i .i64 id), (3, .ptr 2 0 0), (6, .ptr 3 0 0)], [(10, .arr 3 ((l.map (xN id)).take i ++ (l.map sN.O).drop i)), (11, .arr 5 (E1.map sE.O)), (2, .arr 4 [[.ref 10 0 l.length, .ref 11 0 E1.length, .i .i64 nn, .i .i64 ne]]), (3, .arr 4 [[.nl, .nl, .i .i64 0, .i .i64 0]]), (12, .arr 3 (((l.take i).filter (fun n => !decide (n.id = id))).map sN.O))], 30, 2⟩) l.length (fun _ => True) ?_ trivial ?_
      · refine Wk.ren (fun t => if t = 12 then 20 else t) rfl (by simp) (by intro t ht; simp only at ht; rw [if_neg (by omega)]) (by simp) ?_ (by simp)
        simp [Blk.rn, Blk.names, rns, namesr_clean hcN, namesr_clean hc1, rnr_cl hcN, rnr_cl hc1]
      clear h4 h3 hi i
      intro i hi _
      rcases Nat.lt_or_ge i l.length with h3 | h3
      · obtain ⟨x, hx⟩ : ∃ x, l[i]? = some x := ⟨_, List.getElem?_eq_getElem h3⟩
        have hw : IntKind.i64.wrap ((i : Int) + 1) = (i : Int) + 1 := wrap1 (by omega)
        have hfl : ((l.take i).filter (fun n => !decide (n.id = id))).length ≤ i := Nat.le_trans (List.length_filter_le _ _) (by simp; omega)
        have htk : l.take (i + 1) = l.take i ++ [x] := by rw [List.take_add_one, hx]; simp
        have hrow := mix_get (f := xN id) (g := sN.O) hx
        have hset := mix_set (f := xN id) (g := sN.O) hx
        have hgt := mix_get2 (f := xN id) (g := sN.O) hx
        have hset2 := mix_set2 (f := xN id) (g := sN.O) hx
        have hnew := mix_new (f := xN id) (g := sN.O) hx
        have hsame := mix_same (f := xN id) (g := sN.O) hx
        have hx0 := mix_clN (xN_cl id) sN.crO l i
        have hx1 := mix_clN (xN_cl id) sN.crO l (i + 1)
        obtain ⟨a, lb, ps⟩ := x
        rw [htk, List.filter_append]
        generalize (l.take i).filter (fun n => !decide (n.id = id)) = A at *
        have hcA := sN.crO A
        by_cases c : a = id
        · have hs := hsame (by simp [xN, c])
          rw [hs]
          simp [-getElem?_pos, hx, hw, h3, c, hrow]
          exact Wk.to rfl (by simp) (by simp) (by simp [Blk.names, namesr_clean hcA, namesr_clean hx0, namesr_clean hc1]) (by simp)
        · have hbig : (A.length + 1) * 56 ≤ 35184372088832 := by omega
          have hcB := sN.crO (A ++ [⟨a, lb, ps⟩])
          rw [List.map_append] at hcB
          simp only [List.map_cons, List.map_nil, sN_O] at hcB
          have hdN : xN id ⟨a, lb, ps⟩ = [.i .i64 a, .dead, .dead] := by simp [xN, c]
          rw [hdN] at hnew
          have hA : (A.map sN.O).length = A.length := by simp
          have hg2 := app1_get hA
          have hs3 := app1_set hA
          simp [-getElem?_pos, hx, hw, h3, c, hbig, hrow, hset]
          refine Wk.trans (Wk.join (b := 10) (r := i) (cs := [.i .i64 a, .dead, .dead]) rfl (by simp [hgt]; rfl) (by simp) (by simp)) ?_
          refine Wk.trans (Wk.join (b := 34) (r := A.length) (cs := [.i .i64 a, .own 1 (lb.map sS.O), .own 5 (ps.map sP.O)]) rfl (by simp [hg2]; rfl) (by simp) (by simp)) ?_
          rw [hnew] at hx1 ⊢
          refine Wk.ren (fun t => if t = 12 then 34 else t) rfl (by simp) (by intro t ht; simp only at ht; rw [if_neg (by omega)]) (by simp) ?_ (by simp)
          simp [Blk.rn, Blk.names, rns, namesr_clean hx1, namesr_clean hcB, namesr_clean hc1, rnr_cl hx1, rnr_cl hcB, rnr_cl hc1, hset2, hs3]
      · obtain rfl : i = l.length := by omega
        have e3 : (l.map (xN id)).take l.length = l.map (xN id) := List.take_of_length_le (by simp)
        have e4 : (l.map sN.O).drop l.length = [] := by simp
        have hcA := sN.crO (l.filter (fun n => !decide (n.id = id)))
        simp [e3, e4]
        refine WW_of_W ?_
        simp
        exact fin_eaten (by simp; rfl) (by simp [hcA, ← hE1]) (by simp)
end Go.Proofs.Ytehdfbhfbidadaa.V
/- Draws: how big graphs are that are drawn. -/
namespace Go.Proofs.Ytehdfbhfbidadaa.V
open Go
set_option linter.unusedVariables false
set_option linter.unusedSimpArgs false
set_option maxHeartbeats 16000000
def LsB (s : List Tx) : Prop := s.length ≤ 3 ∧ LbB s
def PsB (s : List Pr) : Prop := s.length ≤ 5 ∧ PrB 2100 s
structure GB (N : Int) (g : Gr) : Prop where
  nl : g.nodes.length ≤ 12
  el : g.edges.length ≤ 17
  nd : ∀ x ∈ g.nodes, i64 x.id ∧ LsB x.labels ∧ PsB x.props
  ed : ∀ x ∈ g.edges, i64 x.id ∧ x.kind.length ≤ 8 ∧ i64 x.frm ∧ i64 x.to ∧ PsB x.props
  nn : -1 ≤ g.nn ∧ g.nn ≤ N
  ne : -1 ≤ g.ne ∧ g.ne ≤ N
theorem LsB.ln {s : List Tx} (h : LsB s) : ln s ∧ ∀ x ∈ s, ln x := ⟨by have := h.1; simp only [V.ln]; omega, fun x hx => by have := h.2 x hx; simp only [V.ln]; omega⟩
theorem PsB.ln {s : List Pr} (h : PsB s) : ln s ∧ ∀ x ∈ s, x.fit := ⟨by have := h.1; simp only [V.ln]; omega, fun x hx => (h.2 x hx).1⟩
theorem PsB.cl {s : List Pr} (h : PsB s) : cl Pr.cnt s ≤ 10505 := by
  have h1 := h.1
  have h2 := sums_bound (c := Pr.cnt) (B := 2100) (l := s) (fun x hx => (h.2 x hx).2)
  have h3 : s.length * 2100 ≤ 5 * 2100 := Nat.mul_le_mul_right _ h1
  unfold V.cl; omega
theorem LsB.cl {s : List Tx} (h : LsB s) : cl List.length s ≤ 27 := by
  have h1 := h.1
  have h2 := sums_bound (c := List.length) (B := 8) (l := s) (fun x hx => h.2 x hx)
  have h3 : s.length * 8 ≤ 3 * 8 := Nat.mul_le_mul_right _ h1
  unfold V.cl; omega
theorem GB.fit {N : Int} {g : Gr} (h : GB N g) (hN : N ≤ 2 ^ 40) : g.fit := by
  have h1 := h.nn
  have h2 := h.ne
  refine ⟨by have := h.nl; simp only [V.ln]; omega, fun x hx => ?_, by have := h.el; simp only [V.ln]; omega, fun x hx => ?_, by simp only [i64]; omega, by simp only [i64]; omega⟩
  · obtain ⟨a1, a2, a3⟩ := h.nd x hx
    exact ⟨a1, a2.ln.1, a2.ln.2, a3.ln.1, a3.ln.2⟩
  · obtain ⟨a1, a2, a3, a4, a5⟩ := h.ed x hx
    exact ⟨a1, by simp only [V.ln]; omega, a3, a4, a5.ln.1, a5.ln.2⟩
theorem GB.cnt {N : Int} {g : Gr} (h : GB N g) : g.cnt ≤ 2 ^ 19 := by
  have h1 := h.nl
  have h2 := h.el
  have h3 := sums_bound (c := Nd.cnt) (B := 10532) (l := g.nodes) (fun x hx => by
    obtain ⟨a1, a2, a3⟩ := h.nd x hx
    have := a2.cl; have := a3.cl
    unfold Nd.cnt; omega)
  have h4 := sums_bound (c := Eg.cnt) (B := 10513) (l := g.edges) (fun x hx => by
    obtain ⟨a1, a2, a3, a4, a5⟩ := h.ed x hx
    have := a5.cl
    unfold Eg.cnt; omega)
  have h5 : g.nodes.length * 10532 ≤ 12 * 10532 := Nat.mul_le_mul_right _ h1
  have h6 : g.edges.length * 10513 ≤ 17 * 10513 := Nat.mul_le_mul_right _ h2
  unfold Gr.cnt V.cl; omega
theorem GB.mono {N M : Int} {g : Gr} (h : GB N g) (hm : N ≤ M) : GB M g := ⟨h.nl, h.el, h.nd, h.ed, by have := h.nn; omega, by have := h.ne; omega⟩
theorem GB.nAdd {N : Int} {g : Gr} (h : GB N g) (hN : N < 2 ^ 40) {lb : List Tx} {ps : List Pr} (hl : LsB lb) (hp : PsB ps) : GB (N + 1) (nAdd g lb ps).1 := by
  unfold V.nAdd
  split
  · rename_i c
    have h1 := h.nn
    refine ⟨by have := c.2.2.1; simp only [gAddN, List.length_append, List.length_singleton]; omega, h.el, fun x hx => ?_, h.ed, by simp only [gAddN]; omega, by have := h.ne; simp only [gAddN]; omega⟩
    rcases List.mem_append.1 hx with hx | hx
    · exact h.nd x hx
    · simp only [List.mem_singleton] at hx
      subst hx
      exact ⟨by simp only [i64]; omega, hl, hp⟩
  · exact h.mono (by omega)
theorem GB.eAdd {N : Int} {g : Gr} (h : GB N g) (hN : N < 2 ^ 40) {kd : Tx} {fr to : Int} {ps : List Pr} (hk : kd.length ≤ 8) (hf : i64 fr) (ht : i64 to) (hp : PsB ps) : GB (N + 1) (eAdd g kd fr to ps).1 := by
  unfold V.eAdd
  split
  · rename_i c
    have h1 := h.ne
    refine ⟨h.nl, by have := c.2.2.2.2.1; simp only [gAddE, List.length_append, List.length_singleton]; omega, h.nd, fun x hx => ?_, by have := h.nn; simp only [gAddE]; omega, by simp only [gAddE]; omega⟩
    rcases List.mem_append.1 hx with hx | hx
    · exact h.ed x hx
    · simp only [List.mem_singleton] at hx
      subst hx
      exact ⟨by simp only [i64]; omega, hk, hf, ht, hp⟩
  · exact h.mono (by omega)
theorem GB.dropN {N : Int} {g : Gr} (h : GB N g) (id : Int) (det : Bool) : GB N (dropN g id det).1 := by
  unfold V.dropN
  split
  · exact h
  · exact ⟨Nat.le_trans (List.length_filter_le _ _) h.nl, Nat.le_trans (List.length_filter_le _ _) h.el, fun x hx => h.nd x (List.mem_filter.1 hx).1, fun x hx => h.ed x (List.mem_filter.1 hx).1, h.nn, h.ne⟩
theorem eAdd_nodes (g : Gr) (kd : Tx) (fr to : Int) (ps : List Pr) : (eAdd g kd fr to ps).1.nodes = g.nodes := by
  unfold V.eAdd
  split <;> rfl
theorem lab_P : LabelsOk [[80]] := by
  refine ⟨?_, by simp⟩
  intro i x h
  rcases i with _ | i
  · simp at h; subst h
    exact ⟨by decide +kernel, fun y h0 => absurd h0 (by omega)⟩
  · simp at h
theorem props_nil : PropsOk [] := ⟨Each.nil, by simp⟩
/-- Nodes are added until there are twelve. -/
noncomputable def fillN : Nat → Gr → Gr
  | 0, g => g
  | n + 1, g => fillN n (nAdd g [[80]] []).1
theorem nAdd_P {g : Gr} (h1 : g.nodes.length < 12) (h2 : g.nn < 1000000000) : (nAdd g [[80]] []).1 = gAddN g [[80]] [] := by
  unfold V.nAdd
  rw [if_pos ⟨lab_P, props_nil, h1, h2⟩]
theorem lsB_P : LsB [[80]] := ⟨by simp, by intro x hx; simp at hx; subst hx; simp⟩
theorem psB_nil : PsB [] := ⟨by simp, by intro x hx; simp at hx⟩
theorem GB.fill {N : Int} : ∀ (n : Nat) {g : Gr}, GB N g → N + n < 2 ^ 40 → GB (N + n) (fillN n g)
  | 0, g, h, _ => by simpa [fillN] using h
  | n + 1, g, h, hN => by
    have h1 := h.nAdd (lb := [[80]]) (ps := []) (by omega) lsB_P psB_nil
    have h2 := GB.fill n h1 (by omega)
    rw [show (N + ((n + 1 : Nat) : Int)) = N + 1 + n by omega]
    exact h2
theorem fillN_succ : ∀ (n : Nat) (g : Gr), fillN (n + 1) g = (nAdd (fillN n g) [[80]] []).1
  | 0, g => rfl
  | n + 1, g => by
    have := fillN_succ n (nAdd g [[80]] []).1
    simp only [fillN] at this ⊢
    exact this
theorem fillN_len {N : Int} (g : Gr) (h : GB N g) : ∀ (n : Nat), g.nodes.length + n ≤ 12 → N + n ≤ 1000 → (fillN n g).nodes.length = g.nodes.length + n
  | 0, _, _ => rfl
  | n + 1, h1, h2 => by
    have ih := fillN_len g h n (by omega) (by omega)
    have hb := (GB.fill n h (by omega)).nn
    rw [fillN_succ, nAdd_P (by omega) (by omega)]
    simp only [gAddN, List.length_append, List.length_singleton]; omega
end Go.Proofs.Ytehdfbhfbidadaa.V
/- Draws: graphs that steps made. -/
namespace Go.Proofs.Ytehdfbhfbidadaa.V
open Go
set_option linter.unusedVariables false
set_option linter.unusedSimpArgs false
set_option maxHeartbeats 16000000
def GraphR (b : List UInt8) (p : Nat) (g : Gr) (p' : Nat) : Prop := GB 100 g ∧ Ret Try.prog 137 [rdT b p] (.agg (sG.O g)) [rdT b p']
def NRound (b : List UInt8) (g : Gr) (p : Nat) (g' : Gr) (p' : Nat) : Prop := GB 100 g ∧ ∃ lb ps pm, LabelsR b p lb pm ∧ PropsR b pm ps p' ∧ g' = (nAdd g lb ps).1
theorem LabelsR.b {b : List UInt8} {p p' : Nat} {s : List Tx} (h : LabelsR b p s p') : LsB s := ⟨by have := h.1; omega, h.2.1⟩
theorem PropsR.b {b : List UInt8} {p p' : Nat} {s : List Pr} (h : PropsR b p s p') : PsB s := ⟨by have := h.1; omega, h.2.1.mono (by omega)⟩
theorem gb_zero : GB 0 zG := ⟨by simp [zG], by simp [zG], by simp [zG], by simp [zG], by simp [zG], by simp [zG]⟩
theorem nrounds (b : List UInt8) (hb : b.length ≤ 2 ^ 20) (n : Nat) (hn : n ≤ 6) (p : Nat) (hp : p + n * 202 ≤ 2 ^ 50) : ∃ (st : Nat → Gr) (q : Nat → Nat), st 0 = zG ∧ q 0 = p ∧ (∀ i, i ≤ n → p ≤ q i ∧ q i ≤ p + i * 202 ∧ GB i (st i)) ∧ ∀ i, i < n → NRound b (st i) (q i) (st (i + 1)) (q (i + 1)) := by
  refine rounds (σ := Gr) (C := 202) (B := 2 ^ 50) (Inv := fun i g => GB i g) (R := fun _ => NRound b) n ?_ zG p gb_zero hp
  intro i g p hi h hp
  obtain ⟨lb, pm, h1, h2, h3⟩ := labels_d b hb p (by omega)
  obtain ⟨ps, p', h4, h5, h6⟩ := props_d b hb pm (by omega)
  exact ⟨_, p', by omega, by omega, h.nAdd (by omega) h3.b h6.b, h.mono (by omega), lb, ps, pm, h3, h6, rfl⟩
/-- A state while a graph is drawn: the reader, what is returned, the graph. -/
def gst (b : List UInt8) (q : Nat) (g : Gr) (tm : List (Nat × T)) : St := ⟨tm ++ [(2, .ptr 1 0 0), (3, .ptr 2 0 0), (0, .ptr 0 0 0)], [(0, .arr 2 [[.imm (u8T b), .i .i64 (q : Int)]]), (1, .arr 4 [[.nl, .nl, .i .i64 0, .i .i64 0]]), (2, .arr 4 [sG.O g])], 10, 1⟩
def ERound (b : List UInt8) (g : Gr) (p : Nat) (g' : Gr) (p' : Nat) : Prop := GB 100 g ∧ g.nodes ≠ [] ∧ ∃ (kd : Tx) (pa : Nat) (fr : Nat) (pb : Nat) (to : Nat) (pc : Nat) (ps : List Pr), kd.length ≤ 8 ∧ (fr : Int) < g.nodes.length ∧ (to : Int) < g.nodes.length ∧
  Ret Try.prog 79 [rdT b p, .imm ([[75], [75], [76]].map fun x => [.s x])] (.s kd) [rdT b pa, .dead] ∧ Ret Try.prog 77 [rdT b pa, .i .i64 g.nodes.length] (.i .i64 fr) [rdT b pb, .dead] ∧ Ret Try.prog 77 [rdT b pb, .i .i64 g.nodes.length] (.i .i64 to) [rdT b pc, .dead] ∧ PropsR b pc ps p' ∧ g' = (eAdd g kd fr to ps).1
theorem erounds (b : List UInt8) (hb : b.length ≤ 2 ^ 20) (m : Nat) (hm : m ≤ 6) (g0 : Gr) (h0 : GB 6 g0) (hn0 : m ≠ 0 → g0.nodes ≠ []) (p : Nat) (hp : p + m * 203 ≤ 2 ^ 50) : ∃ (st : Nat → Gr) (q : Nat → Nat), st 0 = g0 ∧ q 0 = p ∧ (∀ i, i ≤ m → p ≤ q i ∧ q i ≤ p + i * 203 ∧ GB (6 + i) (st i) ∧ (st i).nodes = g0.nodes) ∧ ∀ i, i < m → ERound b (st i) (q i) (st (i + 1)) (q (i + 1)) := by
  have hr := rounds (σ := Gr) (C := 203) (B := 2 ^ 50) (Inv := fun i g => GB (6 + i) g ∧ g.nodes = g0.nodes) (R := fun _ => ERound b) m ?_ g0 p ⟨by simpa using h0, rfl⟩ hp
  · exact hr
  intro i g p hi ⟨h, hn⟩ hp
  have hne : g.nodes ≠ [] := by rw [hn]; exact hn0 (by omega)
  have hpos := List.length_pos_iff.2 hne
  have hnl := h.nl
  obtain ⟨kd, pa, h1, h2, h3, h4⟩ := of_d b hb p (by omega) [[75], [75], [76]] (by simp) (by simp)
  obtain ⟨fr, pb, h5, h6, h7, h8⟩ := pick_d b hb pa (by omega) g.nodes.length (by omega)
  obtain ⟨to, pc, e5, e6, e7, e8⟩ := pick_d b hb pb (by omega) g.nodes.length (by omega)
  obtain ⟨ps, p', e1, e2, e3⟩ := props_d b hb pc (by omega)
  have hk : kd.length ≤ 8 := by simp at h3; rcases h3 with rfl | rfl <;> simp
  refine ⟨_, p', by omega, by omega, ⟨?_, (eAdd_nodes _ _ _ _ _).trans hn⟩, h.mono (by omega), hne, kd, pa, fr, pb, to, pc, ps, hk, h7, e7, h4, h8, e8, e3, rfl⟩
  have := h.eAdd (kd := kd) (fr := fr) (to := to) (ps := ps) (by omega) hk (by simp only [i64]; omega) (by simp only [i64]; omega) e3.b
  rw [show (6 + ((i + 1 : Nat) : Int)) = 6 + i + 1 by omega]
  exact this
/-- The same, the graph's rows by name. -/
def gst2 (b : List UInt8) (q : Nat) (g : Gr) (tm : List (Nat × T)) : St := ⟨tm ++ [(2, .ptr 1 0 0), (3, .ptr 2 0 0), (0, .ptr 0 0 0)], [(0, .arr 2 [[.imm (u8T b), .i .i64 (q : Int)]]), (1, .arr 4 [[.nl, .nl, .i .i64 0, .i .i64 0]]), (2, .arr 4 [[.ref 10 0 g.nodes.length, .ref 11 0 g.edges.length, .i .i64 g.nn, .i .i64 g.ne]]), (10, .arr 3 (g.nodes.map sN.O)), (11, .arr 5 (g.edges.map sE.O))], 20, 1⟩
theorem gst_split (b : List UInt8) (q : Nat) (g : Gr) (tm : List (Nat × T)) (htm : ∀ x ∈ tm ++ [(2, .ptr 1 0 0), (3, .ptr 2 0 0), (0, .ptr 0 0 0)], x.2 = tget (tm ++ [(2, .ptr 1 0 0), (3, .ptr 2 0 0), (0, .ptr 0 0 0)]) x.1) : Wk (gst b q g tm) (gst2 b q g tm) := by
  obtain ⟨l, es, nn, ne⟩ := g
  refine Wk.trans (Wk.split (tk := 2) (r := 0) (q := 0) (M := 4) (sz := 4) (rows := [sG.O ⟨l, es, nn, ne⟩]) (row := sG.O ⟨l, es, nn, ne⟩) (by simp [gst]) rfl (by simp)) ?_
  simp only [gst, gst2]
  exact Wk.less rfl (by simp) htm (by simp)
theorem gst_join (b : List UInt8) (q : Nat) (g : Gr) (tm : List (Nat × T)) (htm : ∀ x ∈ tm ++ [(2, .ptr 1 0 0), (3, .ptr 2 0 0), (0, .ptr 0 0 0)], x.2 = tget (tm ++ [(2, .ptr 1 0 0), (3, .ptr 2 0 0), (0, .ptr 0 0 0)]) x.1 ∧ ∀ y ∈ x.2.names, y < 10) : Wk (gst2 b q g tm) (gst b q g tm) := by
  obtain ⟨l, es, nn, ne⟩ := g
  have hcN := sN.crO l
  have hcE := sE.crO es
  have hc := namess_clean (sG.cO ⟨l, es, nn, ne⟩)
  refine Wk.trans (Wk.join (b := 2) (r := 0) (sz := 4) (rows := [[.ref 10 0 l.length, .ref 11 0 es.length, .i .i64 nn, .i .i64 ne]]) (row := [.ref 10 0 l.length, .ref 11 0 es.length, .i .i64 nn, .i .i64 ne]) (cs := sG.O ⟨l, es, nn, ne⟩) (by simp [gst2]) rfl (by simp [gst2]) (by simp)) ?_
  simp only [gst, gst2]
  exact Wk.to rfl (by simp) htm (by simp [Blk.names]) (by simp)
def D3 (b : List UInt8) (g : Gr) (p : Nat) (g' : Gr) (p' : Nat) : Prop := (g.nodes = [] ∧ g' = g ∧ p' = p) ∨
  (g.nodes ≠ [] ∧ ∃ k : Nat, k ≠ 0 ∧ Ret Try.prog 77 [rdT b p, .i .i64 5] (.i .i64 k) [rdT b p', .dead] ∧ g' = g) ∨
  (g.nodes ≠ [] ∧ ∃ (pa id : Nat), Ret Try.prog 77 [rdT b p, .i .i64 5] (.i .i64 0) [rdT b pa, .dead] ∧ Ret Try.prog 77 [rdT b pa, .i .i64 g.nodes.length] (.i .i64 id) [rdT b p', .dead] ∧ g' = (dropN g id true).1)
theorem d3 (b : List UInt8) (hb : b.length ≤ 2 ^ 20) {N : Int} (g : Gr) (h : GB N g) (p : Nat) (hp : p + 2 ≤ 2 ^ 50) : ∃ g' p', p ≤ p' ∧ p' ≤ p + 2 ∧ GB N g' ∧ D3 b g p g' p' := by
  by_cases e : g.nodes = []
  · exact ⟨g, p, by omega, by omega, h, .inl ⟨e, rfl, rfl⟩⟩
  obtain ⟨k, p1, h1, h2, h3, h4⟩ := pick_d b hb p (by omega) 5 (by omega)
  by_cases hk : k = 0
  · subst hk
    have hpos := List.length_pos_iff.2 e
    obtain ⟨id, p2, e1, e2, e3, e4⟩ := pick_d b hb p1 (by omega) g.nodes.length (by omega)
    exact ⟨_, p2, by omega, by omega, h.dropN id true, .inr (.inr ⟨e, p1, id, h4, e4, rfl⟩)⟩
  · exact ⟨g, p1, by omega, by omega, h, .inr (.inl ⟨e, k, hk, h4, rfl⟩)⟩
def D4 (b : List UInt8) (g : Gr) (p : Nat) (g' : Gr) (p' : Nat) : Prop := (∃ k : Nat, k ≠ 0 ∧ Ret Try.prog 77 [rdT b p, .i .i64 30] (.i .i64 k) [rdT b p', .dead] ∧ g' = g) ∨
  (Ret Try.prog 77 [rdT b p, .i .i64 30] (.i .i64 0) [rdT b p', .dead] ∧ g' = fillN (12 - g.nodes.length) g)
theorem d4 (b : List UInt8) (hb : b.length ≤ 2 ^ 20) {N : Int} (g : Gr) (h : GB N g) (hN : N ≤ 50) (p : Nat) (hp : p + 2 ≤ 2 ^ 50) : ∃ g' p', p ≤ p' ∧ p' ≤ p + 2 ∧ GB 100 g' ∧ D4 b g p g' p' := by
  obtain ⟨k, p1, h1, h2, h3, h4⟩ := pick_d b hb p (by omega) 30 (by omega)
  by_cases hk : k = 0
  · subst hk
    exact ⟨_, p1, by omega, by omega, (GB.fill (12 - g.nodes.length) h (by omega)).mono (by omega), .inr ⟨h4, rfl⟩⟩
  · exact ⟨g, p1, by omega, by omega, h.mono (by omega), .inl ⟨k, hk, h4, rfl⟩⟩
set_option maxRecDepth 20000 in
theorem graph_d (b : List UInt8) (hb : b.length ≤ 2 ^ 20) (p : Nat) (hp : p + 5000 ≤ 2 ^ 50) : ∃ g p', p ≤ p' ∧ p' ≤ p + 5000 ∧ GraphR b p g p' := by
  obtain ⟨n, p1, n0, n1, n2, hn⟩ := pick_d b hb p (by omega) 7 (by omega)
  obtain ⟨st1, q1, a1, a2, a3, a4⟩ := nrounds b hb n (by omega) p1 (by omega)
  have ok1 : okCall Try.prog 176 = true := by kernel_rfl
  have ok2 : okCall Try.prog 179 = true := by kernel_rfl
  have b1 := a3 n (Nat.le_refl _)
  have b2 : n * 202 ≤ 6 * 202 := Nat.mul_le_mul_right _ (by omega)
  obtain ⟨m, p2, m0, m1, m2, hm⟩ := pick_d b hb (q1 n) (by omega) 7 (by omega)
  obtain ⟨m', hm'⟩ : ∃ m', m' = if (st1 n).nodes = [] then 0 else m := ⟨_, rfl⟩
  have hm6 : m' ≤ 6 := by rw [hm']; split <;> omega
  obtain ⟨st2, q2, d1, d2, d3, d4⟩ := erounds b hb m' hm6 (st1 n) (b1.2.2.mono (by omega)) (fun h e => h (by rw [hm', if_pos e])) p2 (by omega)
  have b3 := d3 m' (Nat.le_refl _)
  have b4 : m' * 203 ≤ 6 * 203 := Nat.mul_le_mul_right _ (by omega)
  obtain ⟨G3, p3, g31, g32, g33, g34⟩ := V.d3 b hb (st2 m') b3.2.2.1 (q2 m') (by omega)
  obtain ⟨G4, p4, g41, g42, g43, g44⟩ := V.d4 b hb G3 g33 (by omega) p3 (by omega)
  refine ⟨G4, p4, by omega, by omega, g43, ?_⟩
  have ok3 : okCall Try.prog 180 = true := by kernel_rfl
  refine Ret.ofS Try.func137 ok_spec_l11Graph rfl rfl (by simp) ?_
  refine WW_seq (WW_of_W ?_)
  simp [rdT]
  refine WW_seq (WW_of_W ?_)
  simp
  refine WW_seq (thn_cut (s2 := gst b (q1 n) (st1 n) []) ?_ ?_)
  · simp
    refine hookH_rd hn rfl rfl (by simp) (by simp [T.im]) rfl ?_
    simp
    refine W_for (fun i => gst b (q1 i) (st1 i) [(4, .i .i64 ((n : Int) - i))]) n (fun _ => True) ?_ trivial ?_
    · refine Wk.trans (Wk.join (b := 2) (r := 0) (cs := sG.O zG) rfl rfl (by simp [zG]) (by simp [zG])) ?_
      simp [gst, a1, a2]
      exact Wk.to rfl (by simp) (by simp) (by simp [Blk.names, zG]) (by simp)
    intro i hi _
    rcases Nat.lt_or_ge i n with h1 | h1
    · have w2 : IntKind.i64.wrap ((n : Int) - i - 1) = (n : Int) - ((i + 1 : Nat) : Int) := by rw [wrap64 (by omega) (by omega)]; omega
      obtain ⟨k1, lb, ps, pm, h2, h3, h4⟩ := a4 i h1
      have c1 := k1.nl
      have c2 := k1.nn
      have hA := l2AddNode_c (st1 i) (by simp only [i64]; omega) (by omega) lb h2.b.ln ps h3.b.ln (by have := h3.b.cl; omega)
      rw [h4]
      generalize nAdd (st1 i) lb ps = r at *
      obtain ⟨⟨l', es', nn', ne'⟩, r2⟩ := r
      generalize st1 i = g at *
      obtain ⟨l, es, nn, ne⟩ := g
      have hcN := sN.crO l
      have hcE := sE.crO es
      simp [gst, h1]
      refine hookH_rd h2.2.2 rfl rfl (by simp) (by simp [T.im]) rfl ?_
      simp
      refine hookH_rd h3.2.2 rfl rfl (by simp) (by simp [T.im]) rfl ?_
      simp
      repeat with_reducible refine need_mk (by decide +kernel) ?_
      refine hookH_callX [0] [(10, .arr 3 (l.map sN.O)), (11, .arr 5 (es.map sE.O)), (26, .arr 1 (lb.map sS.O)), (42, .arr 5 (ps.map sP.O))] hA (by simp [handedX, handedXA, handedXs, handedX1, T.closed]) (bk := []) (by simp [backX, backXA, backXs, backX1, T.closed]) rfl ok1 (by simp) (by simp [named]) (by simp [named]) ?_
      simp [dX, w2, h1]
      repeat with_reducible refine need_mk (by decide +kernel) ?_
      refine Wk.trans (Wk.join (b := 2) (r := 0) (cs := sG.O ⟨l', es', nn', ne'⟩) rfl rfl (by simp) (by simp)) ?_
      exact Wk.to rfl (by simp) (by simp) (by simp [Blk.names]) (by simp)
    · obtain rfl : i = n := by omega
      simp [gst]
      exact Wk.to rfl (by simp) (by simp) (by simp [Blk.names, namess_clean (sG.cO (st1 i))]) (by simp)
  clear hn a4
  refine WW_seq (thn_cut (s2 := gst b (q2 m') (st2 m') []) ?_ ?_)
  · simp [gst]
    refine hookH_rd hm rfl rfl (by simp) (by simp [T.im]) rfl ?_
    simp
    refine W_for (fun i => gst2 b (q2 i) (st2 i) [(5, .i .i64 ((m : Int) - i))]) m' (fun _ => True) ?_ trivial ?_
    · rw [d1, d2]
      refine Wk.trans ?_ (gst_split b p2 (st1 n) [(5, .i .i64 ((m : Int) - (0 : Nat)))] (by simp))
      exact Wk.to rfl (by simp [gst]) (by simp [gst]) (by simp [gst, Blk.names, namess_clean (sG.cO (st1 n))]) (by simp [gst])
    intro i hi _
    rcases Nat.lt_or_ge i m' with h1 | h1
    · obtain ⟨k1, k2, kd, pa, fr, pb, to, pc, ps, f1, f2, f3, r1, r2, r3, r4, r5⟩ := d4 i h1
      have hmm : m' = m := by
        by_cases e : (st1 n).nodes = []
        · rw [if_pos e] at hm'; omega
        · rw [if_neg e] at hm'; exact hm'
      have w2 : IntKind.i64.wrap ((m : Int) - i - 1) = (m : Int) - ((i + 1 : Nat) : Int) := by rw [wrap64 (by omega) (by omega)]; omega
      have c1 := k1.nl
      have c2 := k1.ne
      have c3 := k1.el
      have hA := l2AddEdge_c (st2 i) (by simp only [i64]; omega) (by omega) (by omega) kd (by simp only [ln]; omega) fr to ps r4.b.ln (by have := r4.b.cl; omega)
      rw [r5]
      generalize eAdd (st2 i) kd fr to ps = r at *
      obtain ⟨⟨l', es', nn', ne'⟩, r0⟩ := r
      generalize st2 i = g at *
      obtain ⟨l, es, nn, ne⟩ := g
      have hcN := sN.crO l
      have hcE := sE.crO es
      have k3 : 0 < l.length := List.length_pos_iff.2 k2
      have k4 : i < m := by omega
      simp only at f2 f3 r2 r3
      have k5 : (0 : Int) < (m : Int) - i := by omega
      simp [gst2, k3, k4, k5]
      refine hookH_rdl r1 rfl rfl (by simp) (by simp) (by simp) (by simp) (by simp) (toIr_s _) ?_
      simp
      repeat with_reducible refine need_mk (by decide +kernel) ?_
      refine hookH_rd r2 rfl rfl (by simp) (by simp [T.im]) rfl ?_
      simp
      repeat with_reducible refine need_mk (by decide +kernel) ?_
      refine hookH_rd r3 rfl rfl (by simp) (by simp [T.im]) rfl ?_
      simp
      repeat with_reducible refine need_mk (by decide +kernel) ?_
      refine hookH_rd r4.2.2 rfl rfl (by simp) (by simp [T.im]) rfl ?_
      simp
      repeat with_reducible refine need_mk (by decide +kernel) ?_
      refine hookH_callX [0] [(10, .arr 3 (l.map sN.O)), (11, .arr 5 (es.map sE.O)), (140, .arr 5 (ps.map sP.O))] hA (by simp [handedX, handedXA, handedXs, handedX1, T.closed]) (bk := []) (by simp [backX, backXA, backXs, backX1, T.closed]) rfl ok2 (by simp) (by simp [named]) (by simp [named]) ?_
      have hmh : i < m' := by omega
      simp [dX, w2, hmh]
      repeat with_reducible refine need_mk (by decide +kernel) ?_
      have hcN' := sN.crO l'
      have hcE' := sE.crO es'
      refine Wk.ren (fun t => if t = 10 then 148 else if t = 11 then 149 else t) rfl (by simp) (by intro t ht; simp only at ht; rw [if_neg (by omega), if_neg (by omega)]) (by simp) ?_ (by simp)
      simp [Blk.rn, Blk.names, rns, namesr_clean hcN', namesr_clean hcE', rnr_cl hcN', rnr_cl hcE']
    · obtain rfl : i = m' := by omega
      have hg := (d3 i (Nat.le_refl _)).2.2
      refine W_mono (Q := fun e s' => e = .exit 2 ∧ Wk s' (gst b (q2 i) (st2 i) [])) ?_ ?_
      · have fin : ∀ tm, (∀ x ∈ [((2 : Nat), T.ptr 1 0 0), (3, .ptr 2 0 0), (0, .ptr 0 0 0)], x.2 = tget tm x.1) → Wk ⟨tm, (gst2 b (q2 i) (st2 i) []).hp, 20, 1⟩ (gst b (q2 i) (st2 i) []) := by
          intro tm h
          refine Wk.trans (s' := gst2 b (q2 i) (st2 i) []) (Wk.less rfl (by simp [gst2]) (by simpa [gst2] using h) (by simp [gst2])) (gst_join _ _ _ _ (by simp))
        by_cases e : (st1 n).nodes = []
        · have e2 : (st2 i).nodes = [] := hg.2.trans e
          rw [if_pos e] at hm'
          subst hm'
          have k3 : (st2 0).nodes.length = 0 := by rw [e2]; rfl
          have k3 : ¬ 0 < (st2 0).nodes.length := by omega
          clear e2
          generalize st2 0 = g at *
          obtain ⟨l, es, nn, ne⟩ := g
          simp only at k3
          by_cases k4 : 0 < m
          · simp [gst2, k3, k4]
            refine fin _ ?_
            simp
          · simp [gst2, k3, k4]
            refine fin _ ?_
            simp
        · rw [if_neg e] at hm'
          subst hm'
          simp [gst2]
          refine fin _ ?_
          simp
      · rintro e s' ⟨rfl, h⟩
        simp [thn, inb, h]
  clear hm d4
  have b5 := b3.2.2.1
  clear b3 d3 d2 d1
  generalize q2 m' = q2 at *
  generalize st2 m' = G2 at *
  refine WW_seq (WW_wk (gst_split b q2 G2 [] (by simp)) (thn_cut (s2 := gst b p3 G3 []) ?_ ?_))
  · have fin : ∀ tm q' nx, 20 ≤ nx → (∀ x ∈ [((2 : Nat), T.ptr 1 0 0), (3, .ptr 2 0 0), (0, .ptr 0 0 0)], x.2 = tget tm x.1) → Wk ⟨tm, (gst2 b q' G2 []).hp, nx, 1⟩ (gst b q' G2 []) := by
      intro tm q' nx hx h
      have hcN := sN.crO G2.nodes
      have hcE := sE.crO G2.edges
      refine Wk.trans (s' := gst2 b q' G2 []) (Wk.to rfl (by simp [gst2]) (by simpa [gst2] using h) (by simp [gst2, Blk.names, namesr_clean hcN, namesr_clean hcE]) (by simp [gst2])) (gst_join _ _ _ _ (by simp))
    rcases g34 with ⟨e, rfl, rfl⟩ | ⟨e, k, hk, r1, rfl⟩ | ⟨e, pa, id, r1, r2, e3⟩
    · have k3 : ¬ 0 < G3.nodes.length := by rw [e]; simp
      simp [gst2, k3]
      exact fin _ p3 _ (by simp) (by simp)
    · have k3 : 0 < G3.nodes.length := List.length_pos_iff.2 e
      simp [gst2, k3]
      refine hookH_rd r1 rfl rfl (by simp) (by simp [T.im]) rfl ?_
      simp [hk, k3]
      refine Wk.trans (Wk.less (s' := ⟨[(2, .ptr 1 0 0), (3, .ptr 2 0 0), (0, .ptr 0 0 0)], (gst2 b p3 G3 []).hp, 100, 1⟩) rfl (by simp) (by simp) (by simp [gst2])) (fin _ p3 _ (by simp) (by simp))
    · have k3 : 0 < G2.nodes.length := List.length_pos_iff.2 e
      have hle := b5.el
      have hln := b5.nl
      have hA := l2DropNode_e G2 (by omega) (by omega) id true
      rw [e3]
      clear fin
      generalize dropN G2 id true = r at *
      obtain ⟨⟨l', es', nn', ne'⟩, r0⟩ := r
      obtain ⟨l, es, nn, ne⟩ := G2
      simp only at k3 r2 hln hle
      have hcN := sN.crO l
      have hcE := sE.crO es
      have hcN' := sN.crO l'
      have hcE' := sE.crO es'
      simp [gst2, k3]
      refine hookH_rd r1 rfl rfl (by simp) (by simp [T.im]) rfl ?_
      simp [k3]
      refine hookH_rd r2 rfl rfl (by simp) (by simp [T.im]) rfl ?_
      simp [k3]
      repeat with_reducible refine need_mk (by decide +kernel) ?_
      refine hookH_callX [0] [(10, .arr 3 (l.map sN.O)), (11, .arr 5 (es.map sE.O))] hA (by simp [handedX, handedXA, handedXs, handedX1, T.closed]) (bk := []) (by simp [backX, backXA, backXs, backX1, T.closed]) rfl ok3 (by simp) (by simp [named]) (by simp [named]) ?_
      simp [dX]
      repeat with_reducible refine need_mk (by decide +kernel) ?_
      refine Wk.trans (Wk.join (b := 2) (r := 0) (cs := sG.O ⟨l', es', nn', ne'⟩) rfl rfl (by simp) (by simp)) ?_
      exact Wk.to rfl (by simp [gst]) (by simp [gst]) (by simp [gst, Blk.names, namess_clean (sG.cO _)]) (by simp [gst])
  clear g34 b5
  refine WW_seq (thn_cut (s2 := gst b p4 G4 []) ?_ ?_)
  · rcases g44 with ⟨k, hk, r1, rfl⟩ | ⟨r1, e3⟩
    · simp [gst]
      refine hookH_rd r1 rfl rfl (by simp) (by simp [T.im]) rfl ?_
      simp [hk]
      exact Wk.to rfl (by simp) (by simp) (by simp [Blk.names, namess_clean (sG.cO _)]) (by simp)
    · simp [gst]
      refine hookH_rd r1 rfl rfl (by simp) (by simp [T.im]) rfl ?_
      simp
      have hle := g33.nl
      refine W_for (fun i => gst b p4 (fillN i G3) []) (12 - G3.nodes.length) (fun _ => True) ?_ trivial ?_
      · exact Wk.to rfl (by simp [gst]) (by simp [gst]) (by simp [gst, fillN, Blk.names, namess_clean (sG.cO _)]) (by simp [gst])
      intro i hi _
      have hlen := fillN_len G3 g33 i (by omega) (by omega)
      have hgb := (GB.fill i g33 (by omega))
      rcases Nat.lt_or_ge i (12 - G3.nodes.length) with h1 | h1
      · have hA := l2AddNode_c (fillN i G3) (by have := hgb.nn; simp only [i64]; omega) (by omega) [[80]] lsB_P.ln [] psB_nil.ln (by simp [cl, sums])
        have hnn := hgb.nn
        rw [fillN_succ]
        generalize nAdd (fillN i G3) [[80]] [] = r at *
        obtain ⟨⟨l', es', nn', ne'⟩, r0⟩ := r
        generalize fillN i G3 = g at *
        obtain ⟨l, es, nn, ne⟩ := g
        simp only at hlen
        have hcN := sN.crO l
        have hcE := sE.crO es
        have k1 : l.length < 12 := by omega
        have k2 : (l.length : Int) < 12 := by omega
        simp [gst, k1, k2]
        refine hookH_callX [0] [(10, .arr 3 (l.map sN.O)), (12, .arr 5 (es.map sE.O)), (14, .arr 1 [[.s [80]]]), (15, .arr 5 [])] hA (by simp [handedX, handedXA, handedXs, handedX1, T.closed]) (bk := []) (by simp [backX, backXA, backXs, backX1, T.closed]) rfl ok1 (by simp) (by simp [named]) (by simp [named]) ?_
        simp [dX, h1]
        refine Wk.trans (Wk.join (b := 2) (r := 0) (cs := sG.O ⟨l', es', nn', ne'⟩) rfl rfl (by simp) (by simp)) ?_
        exact Wk.to rfl (by simp) (by simp) (by simp [Blk.names]) (by simp)
      · obtain rfl : i = 12 - G3.nodes.length := by omega
        rw [e3]
        generalize fillN (12 - G3.nodes.length) G3 = g at *
        obtain ⟨l, es, nn, ne⟩ := g
        simp only at hlen
        have hcN := sN.crO l
        have k1 : ¬ l.length < 12 := by omega
        have k2 : ¬ (l.length : Int) < 12 := by omega
        simp [gst, k1, k2]
        refine Wk.trans (Wk.join (b := 2) (r := 0) (cs := sG.O ⟨l, es, nn, ne⟩) rfl rfl (by simp) (by simp)) ?_
        exact Wk.to rfl (by simp) (by simp) (by simp [Blk.names]) (by simp)
  · clear g44
    obtain ⟨l, es, nn, ne⟩ := G4
    refine WW_of_W ?_
    simp [gst]
    exact fin_ret (by simp; rfl) (rfP_ok (by simp)) (by simp) (by simp)
end Go.Proofs.Ytehdfbhfbidadaa.V
/- Draws: any graph; the reader made. -/
namespace Go.Proofs.Ytehdfbhfbidadaa.V
open Go
set_option linter.unusedVariables false
set_option linter.unusedSimpArgs false
set_option maxHeartbeats 16000000
def GA (g : Gr) : Prop := g.fit ∧ g.cnt ≤ 600000
theorem GB.ga {N : Int} {g : Gr} (h : GB N g) (hN : N ≤ 2 ^ 40) : GA g := ⟨h.fit hN, by have := h.cnt; omega⟩
def AnyGraphR (b : List UInt8) (p : Nat) (g : Gr) (p' : Nat) : Prop := GA g ∧ Ret Try.prog 75 [rdT b p] (.agg (sG.O g)) [rdT b p']
set_option maxRecDepth 20000 in
theorem anyGraph_d (b : List UInt8) (hb : b.length ≤ 2 ^ 20) (p : Nat) (hp : p + 6000 ≤ 2 ^ 50) : ∃ g p', p ≤ p' ∧ p' ≤ p + 6000 ∧ AnyGraphR b p g p' := by
  obtain ⟨g, p1, g1, g2, g3, hg⟩ := graph_d b hb p (by omega)
  obtain ⟨j, p2, j0, j1, j2, hj⟩ := pick_d b hb p1 (by omega) 16 (by omega)
  have hc := g3.cnt
  have hC := l2Copy_c g (by omega)
  rcases (by omega : j = 0 ∨ j = 1 ∨ (j = 2 ∧ 0 < g.nodes.length) ∨ (j = 2 ∧ g.nodes.length = 0) ∨ 3 ≤ j) with rfl | rfl | ⟨rfl, hl⟩ | ⟨rfl, hl⟩ | hj3
  · obtain ⟨x, p3, x0, x1, x2, e⟩ := one_d b hb p2 (by omega) [0, -1, 1000000000, 3] (by simp)
    obtain ⟨l, es, nn, ne⟩ := g
    have hx : -1 ≤ x ∧ x ≤ 1000000000 := by simp at x2; omega
    have hga : GB 1000000000 ⟨l, es, x, ne⟩ := ⟨g3.nl, g3.el, g3.nd, g3.ed, by simp only; omega, by have := g3.ne; simp only at this ⊢; omega⟩
    refine ⟨_, p3, by omega, by omega, hga.ga (by omega), ?_⟩
    refine via_spec_l11AnyGraph (by simp) ?_
    simp [pc_spec_l11AnyGraph, rdT]
    refine hookH_rd hg rfl rfl (by simp) (by simp [T.im]) rfl ?_
    simp
    refine callK_val (by simp) hC (by simp [T.noImm]) ?_
    simp
    refine hookH_rd hj rfl rfl (by simp) (by simp [T.im]) rfl ?_
    simp
    refine hookH_rdl e rfl rfl (by simp) (by simp) (by simp) (by simp) (by simp) (toIr_i _) ?_
    simp
    exact fin_ret (by simp; rfl) (rfP_ok (by simp)) (by simp) (by simp)
  · obtain ⟨a, p3, x0, x1, x2, e1⟩ := pick_d b hb p2 (by omega) 2 (by omega)
    obtain ⟨fr, p4, y0, y1, y2, e2⟩ := pick_d b hb p3 (by omega) 4 (by omega)
    obtain ⟨to, p5, z0, z1, z2, e3⟩ := pick_d b hb p4 (by omega) 9 (by omega)
    have hf := g3.fit (by omega)
    obtain ⟨l, es, nn, ne⟩ := g
    have hne := g3.ne
    have hel := g3.el
    simp only at hne hel
    have hw : IntKind.i64.wrap (ne - a) = ne - a := wrap64 (by omega) (by omega)
    refine ⟨⟨l, es ++ [⟨ne - a, [75], fr, to, []⟩], nn, ne⟩, p5, by omega, by omega, ⟨⟨hf.1, hf.2.1, by simp only [ln, List.length_append, List.length_singleton]; omega, ?_, hf.2.2.2.2⟩, ?_⟩, ?_⟩
    · intro x hx
      rcases List.mem_append.1 hx with hx | hx
      · exact hf.2.2.2.1 x hx
      · simp only [List.mem_singleton] at hx
        subst hx
        exact ⟨by simp only [i64]; omega, by simp [ln], by simp only [i64]; omega, by simp only [i64]; omega, by simp [ln], by simp⟩
    · simp only [Gr.cnt, cl, sums, List.map_append, List.sum_append, List.length_append, List.length_singleton, List.map_cons, List.map_nil, List.sum_cons, List.sum_nil, Eg.cnt, List.length_nil] at hc ⊢
      omega
    have hbb : (es.length + 1) * 64 ≤ 35184372088832 := by omega
    have hcN := sN.crO l
    have hcE := sE.crO es
    refine via_spec_l11AnyGraph (by simp) ?_
    simp [pc_spec_l11AnyGraph, rdT]
    refine hookH_rd hg rfl rfl (by simp) (by simp [T.im]) rfl ?_
    simp
    refine callK_val (by simp) hC (by simp [T.noImm]) ?_
    simp
    refine hookH_rd hj rfl rfl (by simp) (by simp [T.im]) rfl ?_
    simp
    refine hookH_rd e1 rfl rfl (by simp) (by simp [T.im]) rfl ?_
    simp [hw]
    repeat with_reducible refine need_mk (by decide +kernel) ?_
    refine hookH_rd e2 rfl rfl (by simp) (by simp [T.im]) rfl ?_
    simp
    repeat with_reducible refine need_mk (by decide +kernel) ?_
    refine hookH_rd e3 rfl rfl (by simp) (by simp [T.im]) rfl ?_
    simp [hbb, hw]
    repeat with_reducible refine need_mk (by decide +kernel) ?_
    have hA : (es.map sE.O).length = es.length := by simp
    have hg2 := app1_get hA
    have hs3 := app1_set hA
    refine fin_wk (Wk.join (b := 116) (r := es.length) (cs := sE.O ⟨ne - a, [75], fr, to, []⟩) rfl (by simp [hg2]; rfl) (by simp) (by simp)) ?_
    simp [hs3]
    exact fin_ret (by simp; rfl) (rfP_ok (by simp [List.take_of_length_le])) (by simp) (by simp)
  · obtain ⟨ps, p3, x0, x1, e1⟩ := anyProps_d b hb p2 (by omega)
    obtain ⟨lb, p4, y0, y1, e2⟩ := anyLabels_d b hb p3 (by omega)
    obtain ⟨l, es, nn, ne⟩ := g
    obtain ⟨nd, l, rfl⟩ : ∃ a b, l = a :: b := by cases l with | nil => simp at hl | cons a b => exact ⟨a, b, rfl⟩
    have hnd := g3.nd nd (by simp)
    have hga : GB 100 ⟨⟨nd.id, lb, ps⟩ :: l, es, nn, ne⟩ := ⟨by have := g3.nl; simpa using this, g3.el, fun x hx => by
      rcases List.mem_cons.1 hx with rfl | hx
      · exact ⟨hnd.1, ⟨e2.1, e2.2.1⟩, ⟨e1.1, e1.2.1⟩⟩
      · exact g3.nd x (by simp [hx]), g3.ed, g3.nn, g3.ne⟩
    refine ⟨_, p4, by omega, by omega, hga.ga (by omega), ?_⟩
    have hcN := sN.crO l
    have hcE := sE.crO es
    obtain ⟨id, lb0, ps0⟩ := nd
    have hll : (0 : Int) < (l.length : Int) + 1 := by omega
    refine via_spec_l11AnyGraph (by simp) ?_
    simp [pc_spec_l11AnyGraph, rdT]
    refine hookH_rd hg rfl rfl (by simp) (by simp [T.im]) rfl ?_
    simp
    refine callK_val (by simp) hC (by simp [T.noImm]) ?_
    simp
    refine hookH_rd hj rfl rfl (by simp) (by simp [T.im]) rfl ?_
    simp [hll]
    refine hookH_rd e1.2.2 rfl rfl (by simp) (by simp [T.im]) rfl ?_
    simp [hll]
    repeat with_reducible refine need_mk (by decide +kernel) ?_
    refine hookH_rd e2.2.2 rfl rfl (by simp) (by simp [T.im]) rfl ?_
    simp [hll]
    repeat with_reducible refine need_mk (by decide +kernel) ?_
    refine fin_wk (Wk.join (b := 6) (r := 0) (cs := sN.O ⟨id, lb, ps⟩) rfl rfl (by simp) (by simp)) ?_
    simp
    exact fin_ret (by simp; rfl) (rfP_ok (by simp [List.take_of_length_le])) (by simp) (by simp)
  · refine ⟨g, p2, by omega, by omega, g3.ga (by omega), ?_⟩
    obtain ⟨l, es, nn, ne⟩ := g
    obtain rfl : l = [] := List.length_eq_zero_iff.1 hl
    refine via_spec_l11AnyGraph (by simp) ?_
    simp [pc_spec_l11AnyGraph, rdT]
    refine hookH_rd hg rfl rfl (by simp) (by simp [T.im]) rfl ?_
    simp
    refine callK_val (by simp) hC (by simp [T.noImm]) ?_
    simp
    refine hookH_rd hj rfl rfl (by simp) (by simp [T.im]) rfl ?_
    simp
    exact fin_ret (by simp; rfl) (rfP_ok (by simp)) (by simp) (by simp)
  · have c0 : ¬ j = 0 := by omega
    have c1 : ¬ j = 1 := by omega
    have c2 : ¬ j = 2 := by omega
    have c0' : ¬ (j : Int) = 0 := by omega
    have c1' : ¬ (j : Int) = 1 := by omega
    have c2' : ¬ (j : Int) = 2 := by omega
    refine ⟨g, p2, by omega, by omega, g3.ga (by omega), ?_⟩
    obtain ⟨l, es, nn, ne⟩ := g
    refine via_spec_l11AnyGraph (by simp) ?_
    simp [pc_spec_l11AnyGraph, rdT]
    refine hookH_rd hg rfl rfl (by simp) (by simp [T.im]) rfl ?_
    simp
    refine callK_val (by simp) hC (by simp [T.noImm]) ?_
    simp
    refine hookH_rd hj rfl rfl (by simp) (by simp [T.im]) rfl ?_
    simp [c0, c1, c2, c0', c1', c2']
    exact fin_ret (by simp; rfl) (rfP_ok (by simp)) (by simp) (by simp)
end Go.Proofs.Ytehdfbhfbidadaa.V
/- The reader made. -/
namespace Go.Proofs.Ytehdfbhfbidadaa.V
open Go
set_option linter.unusedVariables false
set_option linter.unusedSimpArgs false
set_option maxHeartbeats 16000000
theorem u8T_len (b : List UInt8) : (u8T b).length = b.length := by simp [u8T]
set_option maxRecDepth 20000 in
theorem open_c (b : List UInt8) : Ret Try.prog 74 [.imm (u8T b)] (rdT (b.take 2000) 0) [.dead] := by
  have hl := u8T_len b
  refine via_spec_l1Open (by simp) ?_
  by_cases c : 2000 < (b.length : Int)
  · have c' : 2000 ≤ b.length := by omega
    have e : (u8T b).take 2000 = u8T (b.take 2000) := by simp [u8T]
    have hr : ∀ r ∈ u8T b, r.length = 1 := by intro r hr; simp [u8T] at hr; obtain ⟨c, _, rfl⟩ := hr; rfl
    simp [pc_spec_l1Open, hl, c, c', e]
    refine need_mk (by omega) (need_mk hr ?_)
    exact fin_ret (ts := [0]) (by simp; rfl) (by simp [rdT]) (by simp) (by simp)
  · have e : b.take 2000 = b := List.take_of_length_le (by omega)
    simp [pc_spec_l1Open, hl, c, e]
    exact fin_ret (ts := [0]) (by simp; rfl) (by simp [rdT]) (by simp) (by simp)
theorem hookH_open {s : St} {n : Nat} {c : Call} {b : List UInt8} {K : T → Δ → List Nat → Prop} (hc : c.callee = .value (.func 74)) (hok : okCall Try.prog 74 = true) (hK : K (.ptr n 0 0) [(n, some (.arr 2 [[.imm (u8T (b.take 2000)), .i .i64 ((0 : Nat) : Int)]]))] []) : @hookH Try.prog s n ⟨.call c⟩ [.fn 74 [], .imm (u8T b)] ⟨K⟩ := by
  refine hookH_callX [] [] (open_c b) (by simp [handedX]) (bk := []) (by simp [backX]) hc hok (by simp) (by simp [named]) (by simp [named]) ?_
  simpa [dX, named, rdT] using hK
theorem take_le (b : List UInt8) : (b.take 2000).length ≤ 2 ^ 20 := by simp; omega
end Go.Proofs.Ytehdfbhfbidadaa.V
/- The draw of what is looked for. -/
namespace Go.Proofs.Ytehdfbhfbidadaa.V
open Go
set_option linter.unusedVariables false
set_option linter.unusedSimpArgs false
set_option maxHeartbeats 8000000
theorem propGet_fit {g : Gr} (h : g.fit) (v : Vl) (nm : Tx) : (propGet g v nm).fit := by
  have hz : zV.fit := by simp [zV, Vl.fit_mk, i64, ln]
  have hp : ∀ ps, propsOf g v = some ps → ∀ p ∈ ps, p.fit := by
    intro ps hp
    unfold propsOf at hp
    split at hp
    · obtain ⟨x, h1, rfl⟩ := Option.map_eq_some_iff.1 hp
      exact (h.2.1 x (List.mem_of_find?_eq_some h1)).2.2.2.2
    · split at hp
      · obtain ⟨x, h1, rfl⟩ := Option.map_eq_some_iff.1 hp
        exact (h.2.2.2.1 x (List.mem_of_find?_eq_some h1)).2.2.2.2.2
      · exact absurd hp (by simp)
  unfold propGet
  cases hq : propsOf g v with
  | none => exact hz
  | some ps =>
    simp only
    unfold getP
    cases hf : ps.find? (fun p => decide (p.name = nm)) with
    | none => exact hz
    | some p => exact (hp ps hq p (List.mem_of_find?_eq_some hf)).2
end Go.Proofs.Ytehdfbhfbidadaa.V
/- What laws compare with: equal data are equal. -/
namespace Go.Proofs.Ytehdfbhfbidadaa.V
open Go
set_option linter.unusedVariables false
set_option linter.unusedSimpArgs false
set_option maxHeartbeats 4000000
theorem asValue_c (v : Vl) : v.fit → Rv Try.prog 38 [.agg (sV.I v), .agg (sV.I v)] (.b true) := by
  refine Vl.ind (p := fun v => v.fit → Rv Try.prog 38 [.agg (sV.I v), .agg (sV.I v)] (.b true)) ?_ v
  intro k n s l ih hf
  obtain ⟨_, _, hs, hl, hv⟩ := Vl.fit_mk.1 hf
  refine via_laws_asValue (by simp) ?_
  simp [pc_laws_asValue]
  refine W_for (fun i => ⟨[(5, .i .i64 i), (2, .ptr 0 0 0), (3, .ptr 1 0 0)], [(0, .arr 4 [sV.I (.mk k n s l)]), (1, .arr 4 [sV.I (.mk k n s l)])], 20, 0⟩) l.length (fun i => True) (Wk.less rfl (by simp) (by simp) (by simp)) trivial ?_
  intro i hi _
  rcases Nat.lt_or_ge i l.length with h2 | h2
  · obtain ⟨x, hx⟩ : ∃ x, l[i]? = some x := ⟨_, List.getElem?_eq_getElem h2⟩
    have hw : IntKind.i64.wrap ((i : Int) + 1) = (i : Int) + 1 := wrap1 (by omega)
    have hc := ih x (List.mem_of_getElem? hx) (hv x (List.mem_of_getElem? hx))
    simp [-getElem?_pos, hx, hw, h2]
    refine callK_val (by simp) hc rfl ?_
    simp [-getElem?_pos, hx, hw, h2]
    exact Wk.to rfl (by simp) (by simp) (by simp [Blk.names]) (by simp)
  · have h3 : ¬ i < l.length := by omega
    simp [h3]
    exact fin_val rfl (by simp) (by simp)
theorem asTexts_c (l : List Tx) (hl : ln l) : Rv Try.prog 173 [.imm (l.map sS.I), .imm (l.map sS.I)] (.b true) := by
  refine via_laws_asTexts (by simp) ?_
  simp [pc_laws_asTexts]
  refine W_for (fun i => ⟨[(5, .i .i64 i), (0, .imm (l.map sS.I)), (1, .imm (l.map sS.I))], [], 0, 0⟩) l.length (fun i => True) (Wk.less rfl (by simp) (by simp) (by simp)) trivial ?_
  intro i hi _
  rcases Nat.lt_or_ge i l.length with h2 | h2
  · obtain ⟨x, hx⟩ : ∃ x, l[i]? = some x := ⟨_, List.getElem?_eq_getElem h2⟩
    have hw : IntKind.i64.wrap ((i : Int) + 1) = (i : Int) + 1 := wrap1 (by omega)
    simp [-getElem?_pos, hx, hw, h2]
    exact Wk.to rfl (by simp) (by simp) (by simp) (by simp)
  · have h3 : ¬ i < l.length := by omega
    simp [h3]
    exact fin_val rfl (by simp) (by simp)
theorem asProps_c (l : List Pr) (hl : ln l) (hf : ∀ p ∈ l, p.fit) : Rv Try.prog 174 [.imm (l.map sP.I), .imm (l.map sP.I)] (.b true) := by
  refine via_laws_asProps (by simp) ?_
  simp [pc_laws_asProps]
  refine W_for (fun i => ⟨[(5, .i .i64 i), (0, .imm (l.map sP.I)), (1, .imm (l.map sP.I))], [], 0, 0⟩) l.length (fun i => True) (Wk.less rfl (by simp) (by simp) (by simp)) trivial ?_
  intro i hi _
  rcases Nat.lt_or_ge i l.length with h2 | h2
  · obtain ⟨x, hx⟩ : ∃ x, l[i]? = some x := ⟨_, List.getElem?_eq_getElem h2⟩
    have hw : IntKind.i64.wrap ((i : Int) + 1) = (i : Int) + 1 := wrap1 (by omega)
    have hc := asValue_c x.val (hf x (List.mem_of_getElem? hx)).2
    obtain ⟨nm, k', n', s', l'⟩ := x
    simp only at hc
    simp [-getElem?_pos, hx, hw, h2]
    repeat with_reducible refine need_mk (by decide +kernel) ?_
    refine callK_val (by simp) hc rfl ?_
    simp [-getElem?_pos, hx, hw, h2]
    repeat with_reducible refine need_mk (by decide +kernel) ?_
    exact Wk.to rfl (by simp) (by simp) (by simp) (by simp)
  · have h3 : ¬ i < l.length := by omega
    simp [h3]
    exact fin_val rfl (by simp) (by simp)
theorem asNode_c (x : Nd) (hf : x.fit) : Rv Try.prog 113 [.agg (sN.I x), .agg (sN.I x)] (.b true) := by
  obtain ⟨id, lb, ps⟩ := x
  have h1 := asTexts_c lb hf.2.1
  have h2 := asProps_c ps hf.2.2.2.1 hf.2.2.2.2
  refine via_laws_asNode (by simp) ?_
  simp [pc_laws_asNode]
  refine callK_val (by simp) h1 rfl ?_
  simp
  refine callK_val (by simp) h2 rfl ?_
  simp
  exact fin_val rfl (by simp) (by simp)
theorem asEdge_c (x : Eg) (hf : x.fit) : Rv Try.prog 114 [.agg (sE.I x), .agg (sE.I x)] (.b true) := by
  obtain ⟨id, kd, fr, to, ps⟩ := x
  have h2 := asProps_c ps hf.2.2.2.2.1 hf.2.2.2.2.2
  refine via_laws_asEdge (by simp) ?_
  simp [pc_laws_asEdge]
  refine callK_val (by simp) h2 rfl ?_
  simp
  exact fin_val rfl (by simp) (by simp)
theorem asGraph_c (g : Gr) (hf : g.fit) : Rv Try.prog 49 [.agg (sG.I g), .agg (sG.I g)] (.b true) := by
  obtain ⟨l, es, nn, ne⟩ := g
  obtain ⟨f1, f2, f3, f4, _⟩ := hf
  simp only at f1 f2 f3 f4
  refine via_laws_asGraph (by simp) ?_
  simp [pc_laws_asGraph]
  refine W_for (fun i => ⟨[(5, .i .i64 i), (2, .ptr 0 0 0), (3, .ptr 1 0 0)], [(0, .arr 4 [sG.I ⟨l, es, nn, ne⟩]), (1, .arr 4 [sG.I ⟨l, es, nn, ne⟩])], 20, 0⟩) l.length (fun i => True) (Wk.less rfl (by simp) (by simp) (by simp)) trivial ?_
  intro i hi _
  rcases Nat.lt_or_ge i l.length with h2 | h2
  · obtain ⟨x, hx⟩ : ∃ x, l[i]? = some x := ⟨_, List.getElem?_eq_getElem h2⟩
    have hw : IntKind.i64.wrap ((i : Int) + 1) = (i : Int) + 1 := wrap1 (by omega)
    have hc := asNode_c x (f2 x (List.mem_of_getElem? hx))
    obtain ⟨id, lb, ps⟩ := x
    simp [-getElem?_pos, hx, hw, h2]
    refine callK_val (by simp) hc rfl ?_
    simp [-getElem?_pos, hx, hw, h2]
    exact Wk.to rfl (by simp) (by simp) (by simp [Blk.names]) (by simp)
  · have h3 : ¬ i < l.length := by omega
    simp [h3]
    refine W_for (fun i => ⟨[(6, .i .i64 i), (2, .ptr 0 0 0), (3, .ptr 1 0 0)], [(0, .arr 4 [sG.I ⟨l, es, nn, ne⟩]), (1, .arr 4 [sG.I ⟨l, es, nn, ne⟩])], 20, 0⟩) es.length (fun i => True) (Wk.less rfl (by simp) (by simp) (by simp)) trivial ?_
    clear h3 h2 hi i
    intro i hi _
    rcases Nat.lt_or_ge i es.length with h2 | h2
    · obtain ⟨x, hx⟩ : ∃ x, es[i]? = some x := ⟨_, List.getElem?_eq_getElem h2⟩
      have hw : IntKind.i64.wrap ((i : Int) + 1) = (i : Int) + 1 := wrap1 (by omega)
      have hc := asEdge_c x (f4 x (List.mem_of_getElem? hx))
      obtain ⟨id, kd, fr, to, ps⟩ := x
      simp [-getElem?_pos, hx, hw, h2]
      refine callK_val (by simp) hc rfl ?_
      simp [-getElem?_pos, hx, hw, h2]
      exact Wk.to rfl (by simp) (by simp) (by simp [Blk.names]) (by simp)
    · have h3 : ¬ i < es.length := by omega
      simp [h3]
      exact fin_val rfl (by simp) (by simp)
end Go.Proofs.Ytehdfbhfbidadaa.V
/- The draw of a prop to be set. -/
namespace Go.Proofs.Ytehdfbhfbidadaa.V
open Go
set_option linter.unusedVariables false
set_option linter.unusedSimpArgs false
set_option maxHeartbeats 8000000
set_option maxRecDepth 20000 in
theorem thing_d (b : List UInt8) (hb : b.length ≤ 2 ^ 20) (p : Nat) (hp : p + 800 ≤ 2 ^ 50) : ∃ v p', p ≤ p' ∧ p' ≤ p + 800 ∧ v.fit ∧ v.cnt ≤ 2048 ∧ Ret Try.prog 118 [rdT b p] (.agg (sV.O v)) [rdT b p'] := by
  obtain ⟨j, p1, j0, j1, j2, g⟩ := pick_d b hb p (by omega) 8 (by omega)
  by_cases c : j = 0
  · subst c
    obtain ⟨v, p2, s0, s1, v1, v2, h⟩ := anyValue_d b hb p1 (by omega)
    refine ⟨v, p2, by omega, by omega, v1, v2, ?_⟩
    obtain ⟨k', n', s', l'⟩ := v
    refine via_spec_l11Thing (by simp) ?_
    simp [pc_spec_l11Thing, rdT]
    refine hookH_rd g rfl rfl (by simp) (by simp [T.im]) rfl ?_
    simp
    refine hookH_rd h rfl rfl (by simp) (by simp [T.im]) rfl ?_
    simp
    exact fin_ret (by simp; rfl) (rfP_ok (by simp)) (by simp) (by simp)
  · obtain ⟨x, p2, x0, x1, x2, h⟩ := pick_d b hb p1 (by omega) 2 (by omega)
    obtain ⟨y, p3, y0, y1, y2, e⟩ := pick_d b hb p2 (by omega) 5 (by omega)
    have hw : IntKind.i64.wrap (5 + (x : Int)) = 5 + (x : Int) := wrap64 (by omega) (by omega)
    have c' : ¬ (j : Int) = 0 := by omega
    refine ⟨.mk (5 + (x : Int)) y [] [], p3, by omega, by omega, by rw [Vl.fit_mk]; simp only [i64, ln]; refine ⟨by omega, by omega, by simp, by simp, by simp⟩, by rw [Vl.cnt_mk]; simp [cl, sums], ?_⟩
    refine via_spec_l11Thing (by simp) ?_
    simp [pc_spec_l11Thing, rdT]
    refine hookH_rd g rfl rfl (by simp) (by simp [T.im]) rfl ?_
    simp [c, c']
    refine hookH_rd h rfl rfl (by simp) (by simp [T.im]) rfl ?_
    simp
    refine hookH_rd e rfl rfl (by simp) (by simp [T.im]) rfl ?_
    simp [hw]
    exact fin_ret (by simp; rfl) (rfP_ok (by simp)) (by simp) (by simp)
set_option maxRecDepth 20000 in
theorem DrawPropSet_d (code : List UInt8) : ∃ g v nm to, GA g ∧ (v.fit ∧ v.cnt ≤ 2048) ∧ List.length nm ≤ 8 ∧ (to.fit ∧ to.cnt ≤ 2048) ∧ Ri Try.prog 51 [.imm (u8T code)] (.tup [.agg (sG.I g), .agg (sV.I v), .s nm, .agg (sV.I to)]) := by
  obtain ⟨g, p1, _, _, ga, h⟩ := anyGraph_d (code.take 2000) (take_le _) 0 (by omega)
  obtain ⟨v, p2, _, _, v1, v2, h2⟩ := thing_d (code.take 2000) (take_le _) p1 (by omega)
  obtain ⟨x, p3, _, _, h3k, h3⟩ := of_d (code.take 2000) (take_le _) p2 (by omega) [[110], [110, 97, 109, 101], [120], [121], [122], []] (by simp) (by simp)
  obtain ⟨to, p4, _, _, t1, t2, h4⟩ := anyValue_d (code.take 2000) (take_le _) p3 (by omega)
  refine ⟨g, v, x, to, ga, ⟨v1, v2⟩, by simp at h3k; rcases h3k with rfl | rfl | rfl | rfl | rfl | rfl <;> simp, ⟨t1, t2⟩, .tup [.agg (sG.O g), .agg (sV.O v), .s x, .agg (sV.O to)], ?_, by simp [sG.toO, sV.toO]⟩
  obtain ⟨l, es, nn, ne⟩ := g
  obtain ⟨k, n, s, vl⟩ := v
  obtain ⟨k', n', s', vl'⟩ := to
  refine via_spec_DrawPropSet (by simp) ?_
  simp [pc_spec_DrawPropSet]
  refine hookH_open rfl rfl ?_
  simp
  refine hookH_rd h rfl rfl (by simp) (by simp [T.im]) rfl ?_
  simp
  refine hookH_rd h2 rfl rfl (by simp) (by simp [T.im]) rfl ?_
  simp
  refine hookH_rdl h3 rfl rfl (by simp) (by simp) (by simp) (by simp) (by simp) (toIr_s _) ?_
  simp
  refine hookH_rd h4 rfl rfl (by simp) (by simp [T.im]) rfl ?_
  simp
  exact fin_own (by simp; rfl) (by simp) (by simp) (by simp)
end Go.Proofs.Ytehdfbhfbidadaa.V
/- The machine of trees, texts Vin. -/
/- Interfaces: made, asked for their types, called. -/
namespace Go.Proofs.Ytehdfbhfbidadaa.V
open Go
set_option linter.unusedVariables false
set_option linter.unusedSimpArgs false
section
variable {P : Program} {E : Env} {A : Nat → Prop} {ρ : Nat → Option RB} {O : Nat → Prop} {F : Nat → List Nat} {s : St} {a : Act} {w : World} {n : Nat}
/-- The method of a type that is a function of its own. -/
def methOk (P : Program) (t : TypeId) (name : String) (f : Nat) : Bool := match P.info? t with
  | some i => (match i.methods.find? (·.name == name) with | some m => m.path.isEmpty && (match m.func with | some (g, false) => g == f | _ => false) | none => false) && plainTy P t
  | none => false
end
end Go.Proofs.Ytehdfbhfbidadaa.V
/- slices.Insert, run: printed by a program of this claim's writer (wip/gen/insert.py). -/
namespace Go.Proofs.Ytehdfbhfbidadaa.V
open Go Go.Shelf Go.RowKit Go.Lib Go.Proofs
set_option linter.unusedVariables false
set_option linter.unusedSimpArgs false
section
variable {P : Program}
/-- copy, where its run is known. -/
theorem wp_copyI (w : World) {o : Oper} {a : Act} {K : Act → World → Prop} {Q : Exit → Act → World → Prop} (d s : Operand) (t t' : TypeId)
    (ho : o.op = .call { callee := .builtin .copy, args := #[d, s], argTypes := #[t, t'] }) (v u : Value) (hd : a.eval d = v) (hs : a.eval s = u) {v' : Value} {w' : World}
    (hr : (Builtin.copy_ #[t, t'] o.type #[v, u]).run P w = .ok v' w') (h : K (a.put o.dst v') w') : o.wp P a w K Q := by
  unfold Oper.wp execOp
  simp only [ho, resolve, invoke, builtin, Sem.run_bind, Sem.run_pure, Result.andThen_ok, List.map_toArray, List.map_cons, List.map_nil, hd, hs, hr]
  exact h
theorem wpList_copyI (w : World) {ops : Array Oper} {rest : List Oper} {o : Oper} {a : Act} {Q : Exit → Act → World → Prop} (hgd : o.guard = none) (d s : Operand) (t t' : TypeId)
    (ho : o.op = .call { callee := .builtin .copy, args := #[d, s], argTypes := #[t, t'] }) (v u : Value) (hd : a.eval d = v) (hs : a.eval s = u) {v' : Value} {w' : World}
    (hr : (Builtin.copy_ #[t, t'] o.type #[v, u]).run P w = .ok v' w') (h : wpList P ops Q rest (a.put o.dst v') w') : wpList P ops Q (o :: rest) a w :=
  wpList_plain hgd fun _ hK => wp_copyI w d s t t' ho v u hd hs hr (hK _ _ h)
theorem step_copyI {ops : Array Oper} {o : Oper} {a : Act} {w : World} {K : Act → World → Prop} {Q : Exit → Act → World → Prop} {E : Prop}
    (hg : o.guard = none) (d x : Operand) (dT sT : TypeId) (hop : o.op = Op.call { callee := Callee.builtin Builtin.copy, args := #[d, x], argTypes := #[dT, sT] })
    (v u : Value) (hd : a.eval d = v) (hx : a.eval x = u) {v' : Value} {w' : World} (hr : (Builtin.copy_ #[dT, sT] o.type #[v, u]).run P w = .ok v' w') (hK : K (a.put o.dst v') w') :
    if Region.wanted o (yielded ops a.tmps) = true then Oper.wp P o a w K Q else E := by
  have hw : Region.wanted o (yielded ops a.tmps) = true := by simp [Region.wanted, hg]
  rw [if_pos hw]
  unfold Oper.wp
  simp [execOp, hop, resolve, invoke, builtin, hd, hx, hr, Result.andThen]
  exact hK
/-- A copy of rows. -/
theorem run_copyR {tS tE : TypeId} {I : TypeInfo} (ht : P.underlying tS = some (.slice tE)) (hi : P.info? tE = some I) {w : World} {b o m dc m' cq k : Nat} {ty et : TypeId} {q : Option Addr} {news : List Value} {cc : Array Value} (hk : k = min m m') (hl : news.length = k * I.size)
    (hq : (∃ b off, q = some ⟨b, off, none⟩ ∧ (k = 0 ∨ Lies w b off news)) ∨ k = 0) (hb : w.heap[b]? = some (.cells cc et (0, 0))) (hfit : o + news.length ≤ cc.size) (h1 : ∀ v ∈ news, v.oneCell' = true) :
    (Builtin.copy_ #[tS, tS] ty #[.slice (some ⟨b, o, none⟩) m dc, .slice q m' cq]).run P w = .ok (.int .i64 (k : Int)) (w.setRow b (cc.toList.take o ++ news ++ cc.toList.drop (o + news.length)).toArray) := by
  have hf := run_src (P := P) (size := I.size) (m := k) (q := q) (c := cq) hl hq (w' := w) rfl
  have hst := run_storeCells_at P b o et news 0 cc w hb (by omega) h1
  simp only [Nat.add_zero] at hst
  have hkm : min m m' = k := hk.symm
  have hkm' : Nat.min m' m = k := by rw [hk]; exact Nat.min_comm m' m
  have hf' : (Builtin.firstCells I.size (min m m') (.slice q m' cq)).run P w = .ok news.toArray w := by
    rw [← hk]
    have : (Builtin.firstCells I.size k (.slice q m' cq)).run P w = (Builtin.firstCells I.size k (.slice q k cq)).run P w := by
      cases q <;> simp [Builtin.firstCells]
    rw [this]; exact hf
  rw [hkm] at hf'
  simp [Builtin.copy_, run_underlying ht, Builtin.lenOf, sizeOf, typeInfo, hi, hf', hst, goInt, hkm']
end
set_option maxHeartbeats 4000000
set_option maxHeartbeats 4000000
set_option maxRecDepth 100000 in
theorem ins_shift_prop (b off n c i vb voff vc : Nat) (w w1 w2 : World) (hi : i < n) (hroom : n + 1 ≤ c) (hc63 : n + 1 ≤ 9223372036854775807)
    (hov : ∀ lb cb, (callFunc 171 #[.slice (some ⟨vb, voff, none⟩) 1 vc, .slice (some ⟨b, off + (i + 1) * 5, none⟩) lb cb]).run Try.prog w = .ok (.value (.bool false)) w)
    (hcp1 : ∀ ty dc sc, (Builtin.copy_ #[97, 97] ty #[.slice (some ⟨b, off + (i + 1) * 5, none⟩) (n - i) dc, .slice (some ⟨b, off + i * 5, none⟩) (n + 1 - i) sc]).run Try.prog w.drew = .ok (.int .i64 ((n - i : Nat) : Int)) w1)
    (hcp2 : ∀ ty dc, (Builtin.copy_ #[97, 97] ty #[.slice (some ⟨b, off + i * 5, none⟩) (n + 1 - i) dc, .slice (some ⟨vb, voff, none⟩) 1 vc]).run Try.prog w1 = .ok (.int .i64 ((1 : Nat) : Int)) w2) :
    Calls Try.prog 111 #[.slice (some ⟨b, off, none⟩) n c, .int .i64 i, .slice (some ⟨vb, voff, none⟩) 1 vc] w fun e w' => e = .returned (.slice (some ⟨b, off, none⟩) (n + 1) c) ∧ w' = w2 := by
  have hz2 : ¬ ((i : Int) = (n : Int)) := by omega
  have hw1 : IntKind.i64.wrap ((i : Int) + 1) = (i : Int) + 1 := by rw [IntKind.wrap_i64]; omega
  have hw2 : IntKind.i64.wrap ((n : Int) + 1) = (n : Int) + 1 := by rw [IntKind.wrap_i64]; omega
  have hb1 : (0 : Int) ≤ (i : Int) + 1 := by omega
  have hin : i ≤ n := by omega
  have htn : ((i : Int) + 1).toNat = i + 1 := by omega
  have hb2 : ¬ (c = i + 1) := by omega
  have hb3 : (i : Int) ≤ (n : Int) + 1 := by omega
  have hb4 : ¬ (c = i) := by omega
  have hg : ¬ ((c : Int) < (n : Int) + 1) := by omega
  have mixed : Try.prog.follows Departure.mixedOrders = true := by kernel_rfl
  go_enter Try.func111, Try.ntmps111
  go_wp2_with (simp only [hov])
  go_region_law_o (refine step_copyI rfl _ _ 97 97 rfl _ _ (by simp [Act.eval, Act.put]) (by simp [Act.eval, Act.put]) (hcp1 _ _ _) ?_)
  go_wp2_with (at_builtin; refine wpList_copyI _ rfl _ _ 97 97 rfl _ _ rfl rfl (hcp2 _ _) ?_)
  go_ret
  exact ⟨rfl, rfl⟩
set_option maxRecDepth 100000 in
theorem ins_grow_prop (b off n c i vb voff vc N G : Nat) (w w1 w2 w3 : World) (hi : i < n) (hnc : n ≤ c) (hroom : c < n + 1) (hc63 : n + 1 ≤ 9223372036854775807) (hG : n + 1 ≤ G)
    (hrz : ∀ ty, (Builtin.append_ #[97, 3] ty #[.slice (some ⟨b, off, none⟩) i c, .int .i64 ((n + 1 - i : Nat) : Int)]).run Try.prog w = .ok (.slice (some ⟨N, 0, none⟩) (n + 1) G) w1)
    (hcp1 : ∀ ty dc, (Builtin.copy_ #[97, 97] ty #[.slice (some ⟨N, i * 5, none⟩) (n + 1 - i) dc, .slice (some ⟨vb, voff, none⟩) 1 vc]).run Try.prog w1 = .ok (.int .i64 ((1 : Nat) : Int)) w2)
    (hcp2 : ∀ ty dc sc, (Builtin.copy_ #[97, 97] ty #[.slice (some ⟨N, (i + 1) * 5, none⟩) (n - i) dc, .slice (some ⟨b, off + i * 5, none⟩) (n - i) sc]).run Try.prog w2.drew = .ok (.int .i64 ((n - i : Nat) : Int)) w3) :
    Calls Try.prog 111 #[.slice (some ⟨b, off, none⟩) n c, .int .i64 i, .slice (some ⟨vb, voff, none⟩) 1 vc] w fun e w' => e = .returned (.slice (some ⟨N, 0, none⟩) (n + 1) G) ∧ w' = w3 := by
  have hz2 : ¬ ((i : Int) = (n : Int)) := by omega
  have hz3 : (c : Int) < (n : Int) + 1 := by omega
  have hkk : (n : Int) + 1 - (i : Int) = ((n + 1 - i : Nat) : Int) := by omega
  have hw1 : IntKind.i64.wrap ((i : Int) + 1) = (i : Int) + 1 := by rw [IntKind.wrap_i64]; omega
  have hw2 : IntKind.i64.wrap ((n : Int) + 1) = (n : Int) + 1 := by rw [IntKind.wrap_i64]; omega
  have hw3 : IntKind.i64.wrap ((n : Int) + 1 - i) = (n : Int) + 1 - i := by rw [IntKind.wrap_i64]; omega
  rw [← hkk] at hrz
  have hb1 : (0 : Int) ≤ (i : Int) + 1 := by omega
  have hin : i ≤ n := by omega
  have htn : ((i : Int) + 1).toNat = i + 1 := by omega
  have hb3 : (i : Int) ≤ (n : Int) := by omega
  have hGi : ¬ (G = i) := by omega
  have hGim : ¬ (G = i + 1) := by omega
  have hci : ¬ (c = i) := by omega
  clear hkk
  have mixed : Try.prog.follows Departure.mixedOrders = true := by kernel_rfl
  go_enter Try.func111, Try.ntmps111
  go_wp2_with (first
    | (at_builtin; refine Lib.wpList_append_run _ rfl _ _ _ _ rfl _ _ rfl rfl _ _ (hrz _) ?_)
    | (at_builtin; refine wpList_copyI _ rfl _ _ 97 97 rfl _ _ rfl rfl (hcp1 _ _) ?_))
  go_region_law_o (refine step_copyI rfl _ _ 97 97 rfl _ _ (by simp [Act.eval, Act.put]) (by simp [Act.eval, Act.put]) (hcp2 _ _ _) ?_)
  go_wp2
  go_ret
  exact ⟨rfl, rfl⟩
set_option maxRecDepth 100000 in
theorem ins_end_prop (base : Option Addr) (n c vb voff vc : Nat) (w w1 : World) (res : Value) (hnc : n ≤ c) (hnil : base = none → n = 0)
    (hrz : ∀ ty, (Builtin.append_ #[97, 97] ty #[.slice base n c, .slice (some ⟨vb, voff, none⟩) 1 vc]).run Try.prog w = .ok res w1) :
    Calls Try.prog 111 #[.slice base n c, .int .i64 n, .slice (some ⟨vb, voff, none⟩) 1 vc] w fun e w' => e = .returned res ∧ w' = w1 := by
  have mixed : Try.prog.follows Departure.mixedOrders = true := by kernel_rfl
  cases base with
  | none =>
    obtain rfl := hnil rfl
    go_enter Try.func111, Try.ntmps111
    go_wp2_with (at_builtin; refine Lib.wpList_append_run _ rfl _ _ _ _ rfl _ _ rfl rfl _ _ (hrz _) ?_)
    go_ret
    exact ⟨rfl, rfl⟩
  | some base =>
    by_cases hcn : c = n
    · subst hcn
      go_enter Try.func111, Try.ntmps111
      go_wp2_with (at_builtin; refine Lib.wpList_append_run _ rfl _ _ _ _ rfl _ _ rfl rfl _ _ (hrz _) ?_)
      go_ret
      exact ⟨rfl, rfl⟩
    · go_enter Try.func111, Try.ntmps111
      go_wp2_with (at_builtin; refine Lib.wpList_append_run _ rfl _ _ _ _ rfl _ _ rfl rfl _ _ (hrz _) ?_)
      go_ret
      exact ⟨rfl, rfl⟩
end Go.Proofs.Ytehdfbhfbidadaa.V
/- slices.Insert: its contract. -/
namespace Go.Proofs.Ytehdfbhfbidadaa.V
open Go Go.Shelf Go.RowKit Go.Lib Go.Proofs
set_option linter.unusedVariables false
set_option linter.unusedSimpArgs false
set_option maxHeartbeats 4000000
section
variable {w : World} {O : Nat → Prop}
theorem Kr_append : ∀ {xs ys : List (List T)} {vs : List Value} {F : List Nat}, Kr w O (xs ++ ys) vs F ↔ ∃ v1 v2 F1 F2, vs = v1 ++ v2 ∧ F = F1 ++ F2 ∧ Kr w O xs v1 F1 ∧ Kr w O ys v2 F2
  | [], ys, vs, F => by
    simp only [List.nil_append, Kr]
    constructor
    · intro h; exact ⟨[], vs, [], F, rfl, rfl, ⟨rfl, rfl⟩, h⟩
    · rintro ⟨v1, v2, F1, F2, rfl, rfl, ⟨rfl, rfl⟩, h⟩; exact h
  | x :: xs, ys, vs, F => by
    simp only [List.cons_append, Kr]
    constructor
    · rintro ⟨a, b, F1, F2, rfl, rfl, h1, h2⟩
      obtain ⟨v1, v2, G1, G2, rfl, rfl, h3, h4⟩ := Kr_append.1 h2
      exact ⟨a ++ v1, v2, F1 ++ G1, G2, by simp, by simp, ⟨a, v1, F1, G1, rfl, rfl, h1, h3⟩, h4⟩
    · rintro ⟨v1, v2, F1, F2, rfl, rfl, ⟨a, b, G1, G2, rfl, rfl, h1, h2⟩, h3⟩
      exact ⟨a, b ++ v2, G1, G2 ++ F2, by simp, by simp, h1, Kr_append.2 ⟨b, v2, G2, F2, rfl, rfl, h2, h3⟩⟩
theorem Kr_len {sz : Nat} : ∀ {rs : List (List T)} {vs : List Value} {F : List Nat}, (∀ r ∈ rs, r.length = sz) → Kr w O rs vs F → vs.length = rs.length * sz
  | [], vs, F, _, h => by simp only [Kr] at h; simp [h.1]
  | r :: rs, vs, F, hs, h => by
    simp only [Kr] at h
    obtain ⟨v1, v2, F1, F2, rfl, rfl, h1, h2⟩ := h
    have := Kr_len (fun r hr => hs r (by simp [hr])) h2
    rw [List.length_append, Ks.len h1, hs r (by simp), this, List.length_cons, Nat.add_mul]; omega
/-- What takes one cell. -/
def T.on : T → Bool
  | .b _ | .i _ _ | .s _ | .own _ _ | .imm _ => true
  | _ => false
theorem ow_on {cs : List T} (h : cs.all T.ow = true) : cs.all T.on = true := by
  rw [List.all_eq_true] at h ⊢
  intro t ht
  have := h t ht
  cases t <;> simp [T.ow] at this <;> rfl
theorem K_one {t : T} {v : Value} {F : List Nat} (ht : t.on = true) (h : K w O t v F) : v.oneCell' = true := by
  cases t <;> simp [T.on] at ht
  · simp only [K, CI] at h; rw [h.1]; rfl
  · simp only [K, CI] at h; rw [h.1]; rfl
  · simp only [K, CI] at h; rw [h.1]; rfl
  · simp only [K, CI] at h
    obtain ⟨⟨a, cap, rfl, _⟩, _⟩ := h; rfl
  · simp only [K] at h
    rcases h with ⟨_, ⟨q, rfl⟩, _⟩ | ⟨b, o, cap, c, e, cs, F', rfl, _⟩ <;> rfl
theorem Ks_one : ∀ {ts : List T} {vs : List Value} {F : List Nat}, ts.all T.on = true → Ks w O ts vs F → ∀ v ∈ vs, v.oneCell' = true
  | [], vs, F, _, h => by simp only [Ks] at h; simp [h.1]
  | t :: ts, vs, F, ht, h => by
    simp only [List.all_cons, Bool.and_eq_true] at ht
    simp only [Ks] at h
    obtain ⟨v, r, F1, F2, rfl, rfl, h1, h2⟩ := h
    intro x hx
    rcases List.mem_cons.1 hx with rfl | hx
    · exact K_one ht.1 h1
    · exact Ks_one ht.2 h2 x hx
theorem Kr_one : ∀ {rs : List (List T)} {vs : List Value} {F : List Nat}, (∀ r ∈ rs, r.all T.on = true) → Kr w O rs vs F → ∀ v ∈ vs, v.oneCell' = true
  | [], vs, F, _, h => by simp only [Kr] at h; simp [h.1]
  | r :: rs, vs, F, hs, h => by
    simp only [Kr] at h
    obtain ⟨v1, v2, F1, F2, rfl, rfl, h1, h2⟩ := h
    intro x hx
    rcases List.mem_append.1 hx with hx | hx
    · exact Ks_one (hs r (by simp)) h1 x hx
    · exact Kr_one (fun r hr => hs r (by simp [hr])) h2 x hx
end
/-- Cells put at a place. -/
def putC (c : Array Value) (p : Nat) (l : List Value) : Array Value := (c.toList.take p ++ l ++ c.toList.drop (p + l.length)).toArray
theorem putC_size {c : Array Value} {p : Nat} {l : List Value} (h : p + l.length ≤ c.size) : (putC c p l).size = c.size := by
  simp [putC]; omega
theorem putC_get {c : Array Value} {p : Nat} {l : List Value} (h : p + l.length ≤ c.size) (k : Nat) : (putC c p l)[k]? = if p ≤ k ∧ k < p + l.length then l[k - p]? else c[k]? := by
  have hp : (c.toList.take p).length = p := by simp; omega
  unfold putC
  rw [List.getElem?_toArray]
  by_cases h1 : k < p
  · rw [if_neg (by omega), List.append_assoc, List.getElem?_append_left (by omega), List.getElem?_take, if_pos h1]; simp
  · by_cases h2 : k < p + l.length
    · rw [if_pos ⟨by omega, h2⟩, List.append_assoc, List.getElem?_append_right (by omega), hp, List.getElem?_append_left (by omega)]
    · rw [if_neg (by omega), List.getElem?_append_right (by simp; omega), List.getElem?_drop]
      simp only [List.length_append, hp]
      rw [show p + l.length + (k - (p + l.length)) = k by omega]; simp
theorem heap_setRow_ne (w : World) {b k : Nat} (c : Array Value) (h : k ≠ b) : (w.setRow b c).heap[k]? = w.heap[k]? := by
  simp only [World.setRow, Array.getElem?_modify]
  rw [if_neg (fun h' => h h'.symm)]
section
variable {P : Program}
/-- What the run of the function must show, for a kind of rows. -/
structure InsRuns (P : Program) (f sz : Nat) (tS tE tI : TypeId) : Prop where
  shift : ∀ (b off n c i vb voff vc : Nat) (w w1 w2 : World), i < n → n + 1 ≤ c → n + 1 ≤ 9223372036854775807 → vb ≠ b → (∃ e k, w.shape? vb = some (e, k)) → (∃ e k, w.shape? b = some (e, k) ∧ k ≠ 0) → (∀ k, w.frozen? ⟨vb, k, none⟩ = false) →
    (∀ ty dc sc, (Builtin.copy_ #[tS, tS] ty #[.slice (some ⟨b, off + (i + 1) * sz, none⟩) (n - i) dc, .slice (some ⟨b, off + i * sz, none⟩) (n + 1 - i) sc]).run P w.drew = .ok (.int .i64 ((n - i : Nat) : Int)) w1) →
    (∀ ty dc, (Builtin.copy_ #[tS, tS] ty #[.slice (some ⟨b, off + i * sz, none⟩) (n + 1 - i) dc, .slice (some ⟨vb, voff, none⟩) 1 vc]).run P w1 = .ok (.int .i64 ((1 : Nat) : Int)) w2) →
    Calls P f #[.slice (some ⟨b, off, none⟩) n c, .int .i64 i, .slice (some ⟨vb, voff, none⟩) 1 vc] w fun e w' => e = .returned (.slice (some ⟨b, off, none⟩) (n + 1) c) ∧ w' = w2
  grow : ∀ (b off n c i vb voff vc N G : Nat) (w w1 w2 w3 : World), i < n → n ≤ c → c < n + 1 → n + 1 ≤ 9223372036854775807 → n + 1 ≤ G →
    (∀ ty, (Builtin.append_ #[tS, tI] ty #[.slice (some ⟨b, off, none⟩) i c, .int .i64 ((n + 1 - i : Nat) : Int)]).run P w = .ok (.slice (some ⟨N, 0, none⟩) (n + 1) G) w1) →
    (∀ ty dc, (Builtin.copy_ #[tS, tS] ty #[.slice (some ⟨N, i * sz, none⟩) (n + 1 - i) dc, .slice (some ⟨vb, voff, none⟩) 1 vc]).run P w1 = .ok (.int .i64 ((1 : Nat) : Int)) w2) →
    (∀ ty dc sc, (Builtin.copy_ #[tS, tS] ty #[.slice (some ⟨N, (i + 1) * sz, none⟩) (n - i) dc, .slice (some ⟨b, off + i * sz, none⟩) (n - i) sc]).run P w2.drew = .ok (.int .i64 ((n - i : Nat) : Int)) w3) →
    Calls P f #[.slice (some ⟨b, off, none⟩) n c, .int .i64 i, .slice (some ⟨vb, voff, none⟩) 1 vc] w fun e w' => e = .returned (.slice (some ⟨N, 0, none⟩) (n + 1) G) ∧ w' = w3
  tail : ∀ (base : Option Addr) (n c vb voff vc : Nat) (w w1 : World) (res : Value), n ≤ c → (base = none → n = 0) →
    (∀ ty, (Builtin.append_ #[tS, tS] ty #[.slice base n c, .slice (some ⟨vb, voff, none⟩) 1 vc]).run P w = .ok res w1) →
    Calls P f #[.slice base n c, .int .i64 n, .slice (some ⟨vb, voff, none⟩) 1 vc] w fun e w' => e = .returned res ∧ w' = w1
theorem shape_of {w : World} {b : Nat} {c : Array Value} {e : TypeId} {f : Nat × Nat} (h : w.heap[b]? = some (.cells c e f)) : w.shape? b = some (e, c.size) := by
  simp [World.shape?, h]
theorem frozen_of {w : World} {b : Nat} {c : Array Value} {e : TypeId} (h : w.heap[b]? = some (.cells c e (0, 0))) (k : Nat) : w.frozen? ⟨b, k, none⟩ = false := by
  simp [World.frozen?, h]
theorem drew_heap (w : World) : w.drew.heap = w.heap := rfl
theorem zeros_size (z : Array Value) (n : Nat) : (Builtin.zeroCells z n).size = n * z.size := by
  simp [Builtin.zeroCells]
theorem ins_ret {f sz : Nat} {tS tE tI : TypeId} {I : TypeInfo} {z : Value} (h0 : 0 < sz) (ht : P.underlying tS = some (.slice tE)) (htI : P.underlying tI = some (.int .i64)) (hi : P.info? tE = some I) (hz : I.zero = some z) (hsz : I.size = sz) (hzs : z.cells.size = sz) (hby : I.bytes ≤ 1024)
    (hr : InsRuns P f sz tS tE tI) (rows : List (List T)) (row : List T) (i : Nat) (hin : i < rows.length) (hlen : rows.length ≤ 2 ^ 20) (hrl : row.length = sz) (ho : ∀ r ∈ rows, r.all T.on = true) (hor : row.all T.on = true) :
    Ret P f [.own sz rows, .i .i64 (i : Int), .own sz [row]] (.own sz (rows.take i ++ row :: rows.drop i)) [.dead, .dead, .dead] := by
  intro w vs O F hO hK hnd hF
  simp only [Ks, K, CI] at hK
  obtain ⟨v1, r1, F1, F2, rfl, rfl, hv1, v2, r2, F3, F4, rfl, rfl, ⟨rfl, rfl⟩, v3, r3, F5, F6, rfl, rfl, hv3, rfl, rfl⟩ := hK
  simp only [List.nil_append, List.append_nil] at hnd hF
  rcases hv1 with ⟨h, _⟩ | ⟨b, o, cap, cc, e, cs, FA, rfl, hb, hcap, hfit, hrs, rfl, hkr, hlie⟩
  · rw [h] at hin; simp at hin
  rcases hv3 with ⟨h, _⟩ | ⟨vb, vo, vcap, vcc, ve, us, FB, rfl, hvb, hvcap, hvfit, _, rfl, hks, hvlie⟩
  · simp at h
  obtain ⟨ca, cb, FX, FY, rfl, rfl, hka, hkb⟩ := Kr_append.1 (show Kr w O (rows.take i ++ rows.drop i) cs FA by rw [List.take_append_drop]; exact hkr)
  simp only [Kr] at hks
  obtain ⟨us1, us2, FU, FV, rfl, rfl, hku, rfl, rfl⟩ := hks
  simp only [List.append_nil] at *
  have hne : vb ≠ b := by
    rintro rfl
    simp at hnd
  have la : ca.length = i * sz := by
    rw [Kr_len (fun r hr => hrs r (List.mem_of_mem_take hr)) hka, List.length_take, Nat.min_eq_left (by omega)]
  have lb : cb.length = (rows.length - i) * sz := by
    rw [Kr_len (fun r hr => hrs r (List.mem_of_mem_drop hr)) hkb, List.length_drop]
  have lu : us1.length = sz := by rw [Ks.len hku, hrl]
  have onea := Kr_one (fun r hr => ho r (List.mem_of_mem_take hr)) hka
  have oneb := Kr_one (fun r hr => ho r (List.mem_of_mem_drop hr)) hkb
  have oneu := Ks_one hor hku
  have hcb : ∀ (j : Nat) (u : Value), cb[j]? = some u → cc[o + i * sz + j]? = some u := by
    intro j u hj
    have := hlie (ca.length + j) u (by rw [List.getElem?_append_right (by omega), Nat.add_sub_cancel_left]; exact hj)
    rw [la, ← Nat.add_assoc] at this; exact this
  have hca : ∀ (j : Nat) (u : Value), ca[j]? = some u → cc[o + j]? = some u := fun j u hj => hlie j u (by rw [List.getElem?_append_left (getElem?_len hj)]; exact hj)
  have hvu : ∀ (j : Nat) (u : Value), us1[j]? = some u → vcc[vo + j]? = some u := fun j u hj => hvlie j u (by simpa using hj)
  clear hlie hvlie
  have hS : (i + 1) * sz = i * sz + sz := Nat.succ_mul i sz
  have hN : rows.length * sz = i * sz + cb.length := by rw [lb, ← Nat.add_mul]; congr 1; omega
  have hlb' : cb.length = (rows.length - i) * I.size := by rw [hsz]; exact lb
  have hlu' : us1.length = 1 * I.size := by rw [hsz, lu, Nat.one_mul]
  have hvs : vo + sz ≤ vcc.size := by
    have : 1 * sz ≤ vcap * sz := Nat.mul_le_mul_right _ (by simpa using hvcap)
    omega
  have hperm : (b :: (FX ++ FY) ++ (vb :: FU)).Perm (vb :: b :: (FX ++ (FU ++ FY))) := by
    refine List.perm_middle.trans (List.Perm.cons _ ?_)
    simp only [List.cons_append, List.append_assoc]
    exact List.Perm.cons _ (List.Perm.append_left _ List.perm_append_comm)
  have hnd2 := (hperm.nodup_iff).1 hnd
  have hFb := hF b (by simp)
  have hFv := hF vb (by simp)
  have hrest : ∀ x ∈ FX ++ (FU ++ FY), ¬ O x ∧ x < w.heap.size ∧ x ≠ b := by
    intro x hx
    have h1 := hF x (hperm.mem_iff.2 (by simp only [List.mem_cons]; exact .inr (.inr hx)))
    refine ⟨h1.1, h1.2, ?_⟩
    rintro rfl
    have := (List.nodup_cons.1 (List.nodup_cons.1 hnd2).2).1
    exact this hx
  have hlen3 : (rows.take i ++ row :: rows.drop i).length = rows.length + 1 := by simp; omega
  have hrs3 : ∀ r ∈ rows.take i ++ row :: rows.drop i, r.length = sz := by
    intro r hr
    simp only [List.mem_append, List.mem_cons] at hr
    rcases hr with h | rfl | h
    · exact hrs r (List.mem_of_mem_take h)
    · exact hrl
    · exact hrs r (List.mem_of_mem_drop h)
  have hkr3 : ∀ w' : World, (∀ x, O x → w'.heap[x]? = w.heap[x]?) → (∀ x ∈ FX ++ (FU ++ FY), w'.heap[x]? = w.heap[x]?) → Kr w' O (rows.take i ++ row :: rows.drop i) (ca ++ (us1 ++ cb)) (FX ++ (FU ++ FY)) := by
    intro w' h1 h2
    refine Kr_append.2 ⟨ca, us1 ++ cb, FX, FU ++ FY, rfl, rfl, hka.cong (fun _ h => h) h1 (fun x hx => h2 x (by simp [hx])), ?_⟩
    simp only [Kr]
    exact ⟨us1, cb, FU, FY, rfl, rfl, hku.cong (fun _ h => h) h1 (fun x hx => h2 x (by simp [hx])), hkb.cong (fun _ h => h) h1 (fun x hx => h2 x (by simp [hx]))⟩
  have hgone : ∀ w' : World, Ks w' O [T.dead, T.dead, T.dead] [.slice (some ⟨b, o, none⟩) rows.length cap, .int .i64 (i : Int), .slice (some ⟨vb, vo, none⟩) 1 vcap] [] := fun w' => Ks_gone (w := w') (O := O) [(), (), ()] _ rfl
  by_cases hroom : rows.length + 1 ≤ cap
  · have hbig : o + (i * sz + cb.length + sz) ≤ cc.size := by
      have h1 : (rows.length + 1) * sz ≤ cap * sz := Nat.mul_le_mul_right _ hroom
      rw [Nat.succ_mul] at h1; omega
    obtain ⟨c1, hc1⟩ : ∃ c1, c1 = putC cc (o + (i + 1) * sz) cb := ⟨_, rfl⟩
    have s1 : c1.size = cc.size := by rw [hc1]; exact putC_size (by omega)
    obtain ⟨c2, hc2⟩ : ∃ c2, c2 = putC c1 (o + i * sz) us1 := ⟨_, rfl⟩
    have s2 : c2.size = cc.size := by rw [hc2, putC_size (by omega), s1]
    have hb0 : w.drew.heap[b]? = some (.cells cc e (0, 0)) := hb
    have hb1 : (w.drew.setRow b c1).heap[b]? = some (.cells c1 e (0, 0)) := setRow_heap _ _ _ _ _ _ hb0
    have hb2 : ((w.drew.setRow b c1).setRow b c2).heap[b]? = some (.cells c2 e (0, 0)) := setRow_heap _ _ _ _ _ _ hb1
    have hoth : ∀ x, x ≠ b → ((w.drew.setRow b c1).setRow b c2).heap[x]? = w.heap[x]? := fun x hx => by
      rw [heap_setRow_ne _ _ hx, heap_setRow_ne _ _ hx]; rfl
    have hv1 : (w.drew.setRow b c1).heap[vb]? = some (.cells vcc ve (0, 0)) := by rw [heap_setRow_ne _ _ hne]; exact hvb
    refine (hr.shift b o rows.length cap i vb vo vcap w (w.drew.setRow b c1) ((w.drew.setRow b c1).setRow b c2) hin hroom (by omega) hne ⟨_, _, shape_of hvb⟩ ⟨_, _, shape_of hb, by omega⟩ (fun k => frozen_of hvb k) ?_ ?_).mono ?_
    · intro ty dc sc
      rw [hc1]
      refine run_copyR ht hi (w := w.drew) (k := rows.length - i) (news := cb) (by omega) hlb' (.inl ⟨b, o + i * sz, rfl, .inr (Lies.of_block hb0 hcb)⟩) hb0 (by omega) oneb
    · intro ty dc
      rw [hc2]
      refine run_copyR ht hi (w := w.drew.setRow b c1) (k := 1) (news := us1) (by omega) hlu' (.inl ⟨vb, vo, rfl, .inr (Lies.of_block hv1 hvu)⟩) hb1 (by omega) oneu
    · rintro ex w' ⟨rfl, rfl⟩
      have kp : Keep w (b :: (FX ++ FY) ++ (vb :: FU)) ((w.drew.setRow b c1).setRow b c2) :=
        (((Keep.refl w _).trans (Keep.grown (w := w) (w' := w.drew) rfl rfl rfl (Nat.le_refl _) (fun _ _ => rfl)) (by simp)).trans (Keep.row hb0 s1) (by simp)).trans (Keep.row hb1 (by rw [s2, s1])) (by simp)
      refine ⟨_, O, b :: (FX ++ (FU ++ FY)), [], rfl, fun _ h => h, fun x hx => Nat.lt_of_lt_of_le (hO x hx) kp.size, fun x hx => .inl hx, ?_, hgone _, by rw [List.append_nil]; exact (List.nodup_cons.1 hnd2).2, ?_, kp⟩
      · simp only [K]
        refine .inr ⟨b, o, cap, c2, e, ca ++ (us1 ++ cb), FX ++ (FU ++ FY), by rw [hlen3], hb2, by rw [hlen3]; exact hroom, by rw [s2]; exact hfit, hrs3, rfl, ?_, ?_⟩
        · refine hkr3 _ (fun x hx => hoth x ?_) (fun x hx => hoth x (hrest x hx).2.2)
          rintro rfl; exact hFb.1 hx
        · intro j u hj
          rw [hc2, putC_get (by omega), hc1, putC_get (by omega)]
          by_cases j1 : j < i * sz
          · rw [if_neg (by omega), if_neg (by omega)]
            rw [List.getElem?_append_left (by omega)] at hj
            exact hca j u hj
          · rw [List.getElem?_append_right (by omega), la] at hj
            by_cases j2 : j - i * sz < sz
            · rw [if_pos (by omega)]
              rw [List.getElem?_append_left (by omega)] at hj
              rw [← hj]; congr 1; omega
            · rw [List.getElem?_append_right (by omega), lu] at hj
              have := getElem?_len hj
              rw [if_neg (by omega), if_pos (by omega), ← hj]; congr 1; omega
      · intro x hx
        simp only [List.append_nil, List.mem_cons] at hx
        rcases hx with rfl | hx
        · exact ⟨hFb.1, Nat.lt_of_lt_of_le hFb.2 kp.size, .inr (by simp)⟩
        · have h1 := hrest x hx
          exact ⟨h1.1, Nat.lt_of_lt_of_le h1.2.1 kp.size, .inr (hperm.mem_iff.2 (by simp only [List.mem_cons]; exact .inr (.inr hx)))⟩
  · have hby2 : (rows.length + 1) * I.bytes ≤ 140737488355328 := by
      have h1 : (rows.length + 1) * I.bytes ≤ (2 ^ 20 + 1) * 1024 := Nat.mul_le_mul (by omega) hby
      omega
    obtain ⟨N, hN0⟩ : ∃ N, N = w.heap.size := ⟨_, rfl⟩
    obtain ⟨G, hG⟩ : ∃ G, G = grownCap w (rows.length + 1) cap tE := ⟨_, rfl⟩
    have hGe : rows.length + 1 ≤ G := by rw [hG]; exact grownCap_ge w _ _ _
    obtain ⟨R0, hR0⟩ : ∃ R0, R0 = ca.toArray ++ Builtin.zeroCells z.cells (rows.length + 1 - i) ++ Builtin.zeroCells z.cells (G - (rows.length + 1)) := ⟨_, rfl⟩
    have hR0s : R0.size = G * sz := by
      rw [hR0, Array.size_append, Array.size_append, zeros_size, zeros_size, hzs, List.size_toArray, la, ← Nat.add_mul, ← Nat.add_mul]
      congr 1; omega
    have hbig : i * sz + cb.length + sz ≤ R0.size := by
      have h1 : (rows.length + 1) * sz ≤ G * sz := Nat.mul_le_mul_right _ hGe
      rw [Nat.succ_mul] at h1; omega
    obtain ⟨W1, hW1⟩ : ∃ W1, W1 = w.drew.alloc (.cells R0 tE) := ⟨_, rfl⟩
    have hold : (Builtin.firstCells I.size i (.slice (some ⟨b, o, none⟩) i cap)).run P w.drew = .ok ca.toArray w.drew :=
      run_src (P := P) (w := w) (size := I.size) (m := i) (c := cap) (by rw [hsz]; exact la) (.inl ⟨b, o, rfl, .inr (Lies.of_block hb hca)⟩) rfl
    have hik : i + (rows.length + 1 - i) = rows.length + 1 := by omega
    have hkb48 : (rows.length + 1 - i) * I.bytes ≤ 281474976710656 := by
      have h1 : (rows.length + 1 - i) * I.bytes ≤ (rows.length + 1) * I.bytes := Nat.mul_le_mul_right _ (by omega)
      omega
    have hrz : ∀ ty, (Builtin.append_ #[tS, tI] ty #[.slice (some ⟨b, o, none⟩) i cap, .int .i64 ((rows.length + 1 - i : Nat) : Int)]).run P w = .ok (.slice (some ⟨N, 0, none⟩) (rows.length + 1) G) W1 := fun ty => by
      have h := Lib.run_append_grow_zeros w tS tI ty tE I z .i64 .i64 ht htI hi hz (some ⟨b, o, none⟩) i cap ca hold (rows.length + 1 - i) (by omega) (by omega) (by omega) (by omega) hkb48 (by rw [hik]; exact growslice_fits (by omega) hby2)
      rw [hik] at h
      rw [h, hW1, hR0, hG, hN0]
    have hN1 : W1.heap[N]? = some (.cells R0 tE (0, 0)) := by rw [hW1, hN0]; exact Array.getElem?_push_size
    have hold1 : ∀ x, x < w.heap.size → W1.heap[x]? = w.heap[x]? := fun x hx => by rw [hW1]; exact heap_push_old (w := w.drew) hx
    obtain ⟨c1, hc1⟩ : ∃ c1, c1 = putC R0 (i * sz) us1 := ⟨_, rfl⟩
    have s1 : c1.size = R0.size := by rw [hc1]; exact putC_size (by omega)
    obtain ⟨c2, hc2⟩ : ∃ c2, c2 = putC c1 ((i + 1) * sz) cb := ⟨_, rfl⟩
    have s2 : c2.size = R0.size := by rw [hc2, putC_size (by omega), s1]
    have hN2 : (W1.setRow N c1).heap[N]? = some (.cells c1 tE (0, 0)) := setRow_heap _ _ _ _ _ _ hN1
    have hN2d : (W1.setRow N c1).drew.heap[N]? = some (.cells c1 tE (0, 0)) := hN2
    have hN3 : ((W1.setRow N c1).drew.setRow N c2).heap[N]? = some (.cells c2 tE (0, 0)) := setRow_heap _ _ _ _ _ _ hN2d
    have hoth : ∀ x, x < w.heap.size → ((W1.setRow N c1).drew.setRow N c2).heap[x]? = w.heap[x]? := fun x hx => by
      have hxN : x ≠ N := by omega
      rw [heap_setRow_ne _ _ hxN, drew_heap, heap_setRow_ne _ _ hxN]; exact hold1 x hx
    have hv1 : W1.heap[vb]? = some (.cells vcc ve (0, 0)) := by rw [hold1 _ hFv.2]; exact hvb
    have hb1 : (W1.setRow N c1).drew.heap[b]? = some (.cells cc e (0, 0)) := by
      rw [drew_heap, heap_setRow_ne _ _ (by have := hFb.2; omega), hold1 _ hFb.2]; exact hb
    refine (hr.grow b o rows.length cap i vb vo vcap N G w W1 (W1.setRow N c1) ((W1.setRow N c1).drew.setRow N c2) hin hcap (by omega) (by omega) hGe hrz ?_ ?_).mono ?_
    · intro ty dc
      rw [hc1]
      refine run_copyR ht hi (w := W1) (k := 1) (news := us1) (by omega) hlu' (.inl ⟨vb, vo, rfl, .inr (Lies.of_block hv1 hvu)⟩) hN1 (by omega) oneu
    · intro ty dc sc
      rw [hc2]
      refine run_copyR ht hi (w := (W1.setRow N c1).drew) (k := rows.length - i) (news := cb) (by omega) hlb' (.inl ⟨b, o + i * sz, rfl, .inr (Lies.of_block hb1 hcb)⟩) hN2d (by omega) oneb
    · rintro ex w' ⟨rfl, rfl⟩
      have k1 : Keep w [] W1 := by rw [hW1]; exact (Keep.grown (w := w) (w' := w.drew) rfl rfl rfl (Nat.le_refl _) (fun _ _ => rfl)).trans (Keep.alloc w.drew _) (by simp)
      have kp : Keep w (b :: (FX ++ FY) ++ (vb :: FU)) ((W1.setRow N c1).drew.setRow N c2) := by
        have hno : ∀ x ∈ [N], x < w.heap.size → x ∈ (b :: (FX ++ FY) ++ (vb :: FU)) := by
          intro x hx h; simp only [List.mem_singleton] at hx; omega
        have k2 := ((Keep.refl w (b :: (FX ++ FY) ++ (vb :: FU))).trans k1 (by simp)).trans (Keep.row hN1 s1) hno
        have k3 := k2.trans (Keep.grown (w := W1.setRow N c1) (w' := (W1.setRow N c1).drew) rfl rfl rfl (Nat.le_refl _) (fun _ _ => rfl)) (by simp)
        exact k3.trans (Keep.row hN2d (by rw [s2, s1])) hno
      refine ⟨_, O, N :: (FX ++ (FU ++ FY)), [], rfl, fun _ h => h, fun x hx => Nat.lt_of_lt_of_le (hO x hx) kp.size, fun x hx => .inl hx, ?_, hgone _, ?_, ?_, kp⟩
      · simp only [K]
        refine .inr ⟨N, 0, G, c2, tE, ca ++ (us1 ++ cb), FX ++ (FU ++ FY), by rw [hlen3], hN3, by rw [hlen3]; exact hGe, by rw [s2, hR0s]; omega, hrs3, rfl, ?_, ?_⟩
        · exact hkr3 _ (fun x hx => hoth x (hO x hx)) (fun x hx => hoth x (hrest x hx).2.1)
        · intro j u hj
          rw [Nat.zero_add, hc2, putC_get (by omega), hc1, putC_get (by omega)]
          by_cases j1 : j < i * sz
          · rw [if_neg (by omega), if_neg (by omega)]
            rw [List.getElem?_append_left (by omega)] at hj
            rw [hR0, Array.append_assoc, Array.getElem?_append_left (by simp; omega), List.getElem?_toArray]
            exact hj
          · rw [List.getElem?_append_right (by omega), la] at hj
            by_cases j2 : j - i * sz < sz
            · rw [if_neg (by omega), if_pos (by omega)]
              rw [List.getElem?_append_left (by omega)] at hj
              exact hj
            · rw [List.getElem?_append_right (by omega), lu] at hj
              have := getElem?_len hj
              rw [if_pos (by omega), ← hj]; congr 1; omega
      · rw [List.append_nil]
        refine List.nodup_cons.2 ⟨fun h => ?_, (List.nodup_cons.1 (List.nodup_cons.1 hnd2).2).2⟩
        have := (hrest N h).2.1; omega
      · intro x hx
        simp only [List.append_nil, List.mem_cons] at hx
        rcases hx with rfl | hx
        · exact ⟨fun h => by have := hO _ h; omega, lt_of_heap hN3, .inl (by omega)⟩
        · have h1 := hrest x hx
          exact ⟨h1.1, Nat.lt_of_lt_of_le h1.2.1 kp.size, .inr (hperm.mem_iff.2 (by simp only [List.mem_cons]; exact .inr (.inr hx)))⟩
theorem ins_tail {f sz : Nat} {tS tE tI : TypeId} {I : TypeInfo} {z : Value} (h0 : 0 < sz) (ht : P.underlying tS = some (.slice tE)) (hi : P.info? tE = some I) (hz : I.zero = some z) (hsz : I.size = sz) (hzs : z.cells.size = sz) (hby : I.bytes ≤ 1024)
    (hr : InsRuns P f sz tS tE tI) (rows : List (List T)) (row : List T) (hlen : rows.length ≤ 2 ^ 20) (hrl : row.length = sz) (hor : row.all T.on = true) :
    Ret P f [.own sz rows, .i .i64 (rows.length : Int), .own sz [row]] (.own sz (rows ++ [row])) [.dead, .dead, .dead] := by
  intro w vs O F hO hK hnd hF
  simp only [Ks, K, CI] at hK
  obtain ⟨v1, r1, F1, F2, rfl, rfl, hv1, v2, r2, F3, F4, rfl, rfl, ⟨rfl, rfl⟩, v3, r3, F5, F6, rfl, rfl, hv3, rfl, rfl⟩ := hK
  simp only [List.nil_append, List.append_nil] at hnd hF
  rcases hv3 with ⟨h, _⟩ | ⟨vb, vo, vcap, vcc, ve, us, FB, rfl, hvb, hvcap, hvfit, _, rfl, hks, hvlie⟩
  · simp at h
  simp only [Kr] at hks
  obtain ⟨us1, us2, FU, FV, rfl, rfl, hku, rfl, rfl⟩ := hks
  simp only [List.append_nil] at *
  have lu : us1.length = sz := by rw [Ks.len hku, hrl]
  have oneu := Ks_one hor hku
  have hvu : ∀ (j : Nat) (u : Value), us1[j]? = some u → vcc[vo + j]? = some u := fun j u hj => hvlie j u (by simpa using hj)
  have hlu' : us1.length = 1 * I.size := by rw [hsz, lu, Nat.one_mul]
  have hFv := hF vb (by simp)
  have hgone : ∀ (w' : World) (v : Value), Ks w' O [T.dead, T.dead, T.dead] [v, .int .i64 (rows.length : Int), .slice (some ⟨vb, vo, none⟩) 1 vcap] [] := fun w' v => Ks_gone (w := w') (O := O) [(), (), ()] _ rfl
  have hby2 : (rows.length + 1) * I.bytes ≤ 140737488355328 := by
    have h1 : (rows.length + 1) * I.bytes ≤ (2 ^ 20 + 1) * 1024 := Nat.mul_le_mul (by omega) hby
    omega
  -- what it is in a form that serves both kinds of slices
  obtain ⟨base, cap, cs, FA, e1, hcap, hnil, hlc, hkr, hrs, hFA, hlies⟩ : ∃ (base : Option Addr) (cap : Nat) (cs : List Value) (FA : List Nat), v1 = .slice base rows.length cap ∧ rows.length ≤ cap ∧ (base = none → rows.length = 0) ∧ cs.length = rows.length * sz ∧ Kr w O rows cs FA ∧ (∀ r ∈ rows, r.length = sz) ∧ (∀ x ∈ FA, x ∈ F1) ∧
      ((rows.length = 0 ∧ cap = 0 ∧ F1 = []) ∨ ∃ b o cc e, base = some ⟨b, o, none⟩ ∧ w.heap[b]? = some (.cells cc e (0, 0)) ∧ o + cap * sz ≤ cc.size ∧ F1 = b :: FA ∧ ∀ (j : Nat) (u : Value), cs[j]? = some u → cc[o + j]? = some u) := by
    rcases hv1 with ⟨rfl, ⟨q, rfl⟩, rfl⟩ | ⟨b, o, cap, cc, e, cs, FA, rfl, hb, hcap, hfit, hrs, rfl, hkr, hlie⟩
    · exact ⟨q, 0, [], [], rfl, by simp, fun _ => rfl, by simp, by simp [Kr], by simp, by simp, .inl ⟨rfl, rfl, rfl⟩⟩
    · exact ⟨some ⟨b, o, none⟩, cap, cs, FA, rfl, hcap, fun h => by simp at h, Kr_len hrs hkr, hkr, hrs, fun x hx => by simp [hx], .inr ⟨b, o, cc, e, rfl, hb, hfit, rfl, hlie⟩⟩
  subst e1
  clear hv1
  have hlen3 : (rows ++ [row]).length = rows.length + 1 := by simp
  have hrs3 : ∀ r ∈ rows ++ [row], r.length = sz := by
    intro r hr
    simp only [List.mem_append, List.mem_singleton] at hr
    rcases hr with h | rfl
    · exact hrs r h
    · exact hrl
  have hFAd : (FA ++ FU).Nodup := by
    rcases hlies with ⟨h1, _, rfl⟩ | ⟨b, o, cc, e, _, _, _, rfl, _⟩
    · have : FA = [] := by
        cases FA with
        | nil => rfl
        | cons x l => exact absurd (hFA x (by simp)) (by simp)
      subst this
      simp only [List.nil_append, List.nodup_cons] at hnd ⊢
      exact hnd.2
    · have h2 : (FA ++ FU).Sublist (b :: FA ++ vb :: FU) := by
        simp only [List.cons_append]
        exact (List.Sublist.append (List.Sublist.refl FA) (List.sublist_cons_self vb FU)).trans (List.sublist_cons_self b _)
      exact hnd.sublist h2
  have hrest : ∀ x ∈ FA ++ FU, x ∈ F1 ++ vb :: FU := by
    intro x hx
    rcases List.mem_append.1 hx with h | h
    · exact List.mem_append.2 (.inl (hFA x h))
    · exact List.mem_append.2 (.inr (List.mem_cons_of_mem _ h))
  have hkr3 : ∀ w' : World, (∀ x, O x → w'.heap[x]? = w.heap[x]?) → (∀ x ∈ FA ++ FU, w'.heap[x]? = w.heap[x]?) → Kr w' O (rows ++ [row]) (cs ++ us1) (FA ++ FU) := by
    intro w' h1 h2
    refine Kr_append.2 ⟨cs, us1, FA, FU, rfl, rfl, hkr.cong (fun _ h => h) h1 (fun x hx => h2 x (by simp [hx])), ?_⟩
    simp only [Kr]
    exact ⟨us1, [], FU, [], by simp, by simp, hku.cong (fun _ h => h) h1 (fun x hx => h2 x (by simp [hx])), rfl, rfl⟩
  have hsrc : (∃ b off, (some ⟨vb, vo, none⟩ : Option Addr) = some ⟨b, off, none⟩ ∧ (1 = 0 ∨ Lies w b off us1)) ∨ 1 = 0 := .inl ⟨vb, vo, rfl, .inr (Lies.of_block hvb hvu)⟩
  by_cases hroom : rows.length + 1 ≤ cap
  · rcases hlies with ⟨h1, h2, _⟩ | ⟨b, o, cc, e, rfl, hb, hfit, rfl, hlie⟩
    · omega
    have hbig : o + rows.length * sz + us1.length ≤ cc.size := by
      have h1 : (rows.length + 1) * sz ≤ cap * sz := Nat.mul_le_mul_right _ hroom
      rw [Nat.succ_mul] at h1; omega
    have hne : vb ≠ b := by rintro rfl; simp at hnd
    have hFb := hF b (by simp)
    obtain ⟨c1, hc1⟩ : ∃ c1, c1 = putC cc (o + rows.length * sz) us1 := ⟨_, rfl⟩
    have s1 : c1.size = cc.size := by rw [hc1]; exact putC_size hbig
    have hb1 : (w.setRow b c1).heap[b]? = some (.cells c1 e (0, 0)) := setRow_heap _ _ _ _ _ _ hb
    have hnb : ∀ x ∈ FA ++ FU, x ≠ b := by
      rintro x hx rfl
      have h3 := (List.nodup_cons.1 (show (x :: (FA ++ vb :: FU)).Nodup from hnd)).1
      rcases List.mem_append.1 hx with h | h
      · exact h3 (List.mem_append.2 (.inl h))
      · exact h3 (List.mem_append.2 (.inr (List.mem_cons_of_mem _ h)))
    refine (hr.tail _ rows.length cap vb vo vcap w (w.setRow b c1) (.slice (some ⟨b, o, none⟩) (rows.length + 1) cap) hcap hnil (fun ty => ?_)).mono ?_
    · subst hsz
      rw [hc1]
      exact run_app_room ht hi hb hlu' hsrc oneu hroom hbig
    · rintro ex w' ⟨rfl, rfl⟩
      have kp : Keep w (b :: FA ++ vb :: FU) (w.setRow b c1) := (Keep.refl w _).trans (Keep.row hb s1) (by simp)
      refine ⟨_, O, b :: (FA ++ FU), [], rfl, fun _ h => h, fun x hx => Nat.lt_of_lt_of_le (hO x hx) kp.size, fun x hx => .inl hx, ?_, hgone _ _, ?_, ?_, kp⟩
      · simp only [K]
        refine .inr ⟨b, o, cap, c1, e, cs ++ us1, FA ++ FU, by rw [hlen3], hb1, by rw [hlen3]; exact hroom, by rw [s1]; exact hfit, hrs3, rfl, ?_, ?_⟩
        · refine hkr3 _ (fun x hx => heap_setRow_ne _ _ ?_) (fun x hx => heap_setRow_ne _ _ (hnb x hx))
          rintro rfl; exact hFb.1 hx
        · intro j u hj
          rw [hc1, putC_get hbig]
          by_cases j1 : j < cs.length
          · rw [if_neg (by omega)]
            rw [List.getElem?_append_left j1] at hj
            exact hlie j u hj
          · rw [List.getElem?_append_right (by omega)] at hj
            have := getElem?_len hj
            rw [if_pos (by omega), ← hj]; congr 1; omega
      · rw [List.append_nil]
        exact List.nodup_cons.2 ⟨fun h => hnb b h rfl, hFAd⟩
      · intro x hx
        simp only [List.append_nil, List.mem_cons] at hx
        rcases hx with rfl | hx
        · exact ⟨hFb.1, Nat.lt_of_lt_of_le hFb.2 kp.size, .inr (by simp)⟩
        · have h1 := hF x (hrest x hx)
          exact ⟨h1.1, Nat.lt_of_lt_of_le h1.2 kp.size, .inr (hrest x hx)⟩
  · obtain ⟨N, hN0⟩ : ∃ N, N = w.heap.size := ⟨_, rfl⟩
    obtain ⟨G, hG⟩ : ∃ G, G = grownCap w (rows.length + 1) cap tE := ⟨_, rfl⟩
    have hGe : rows.length + 1 ≤ G := by rw [hG]; exact grownCap_ge w _ _ _
    obtain ⟨R0, hR0⟩ : ∃ R0, R0 = (cs ++ us1).toArray ++ Builtin.zeroCells z.cells (G - (rows.length + 1)) := ⟨_, rfl⟩
    have hR0s : R0.size = G * sz := by
      rw [hR0, Array.size_append, zeros_size, hzs, List.size_toArray, List.length_append, hlc, lu, ← Nat.succ_mul, ← Nat.add_mul]
      congr 1; omega
    obtain ⟨W1, hW1⟩ : ∃ W1, W1 = w.drew.alloc (.cells R0 tE) := ⟨_, rfl⟩
    have hN1 : W1.heap[N]? = some (.cells R0 tE (0, 0)) := by rw [hW1, hN0]; exact Array.getElem?_push_size
    have hold1 : ∀ x, x < w.heap.size → W1.heap[x]? = w.heap[x]? := fun x hx => by rw [hW1]; exact heap_push_old (w := w.drew) hx
    have hd : (∃ b off, base = some ⟨b, off, none⟩ ∧ (rows.length = 0 ∨ Lies w b off cs)) ∨ rows.length = 0 := by
      rcases hlies with ⟨h1, _, _⟩ | ⟨b, o, cc, e, h1, hb, hfit, _, hlie⟩
      · exact .inr h1
      · exact .inl ⟨b, o, h1, .inr (Lies.of_block hb hlie)⟩
    refine (hr.tail _ rows.length cap vb vo vcap w W1 (.slice (some ⟨N, 0, none⟩) (rows.length + 1) G) hcap hnil (fun ty => ?_)).mono ?_
    · have h := run_app_grow (P := P) (w := w) (t := tS) (ty := ty) ht hi hz (sCap := cap) (c := vcap) (by rw [hsz]; exact hlc) hd hlu' hsrc (by omega) hby2 (by omega)
      rw [h, hW1, hR0, hG, hN0]
    · rintro ex w' ⟨rfl, e2⟩
      subst w'
      have kp : Keep w (F1 ++ vb :: FU) W1 := by
        have k1 : Keep w [] W1 := by rw [hW1]; exact (Keep.grown (w := w) (w' := w.drew) rfl rfl rfl (Nat.le_refl _) (fun _ _ => rfl)).trans (Keep.alloc w.drew _) (by simp)
        exact (Keep.refl w _).trans k1 (by simp)
      refine ⟨_, O, N :: (FA ++ FU), [], rfl, fun _ h => h, fun x hx => Nat.lt_of_lt_of_le (hO x hx) kp.size, fun x hx => .inl hx, ?_, hgone _ _, ?_, ?_, kp⟩
      · simp only [K]
        refine .inr ⟨N, 0, G, R0, tE, cs ++ us1, FA ++ FU, by rw [hlen3], hN1, by rw [hlen3]; exact hGe, by rw [hR0s]; omega, hrs3, rfl, ?_, ?_⟩
        · exact hkr3 _ (fun x hx => hold1 x (hO x hx)) (fun x hx => hold1 x (hF x (hrest x hx)).2)
        · intro j u hj
          have := getElem?_len hj
          rw [Nat.zero_add, hR0, Array.getElem?_append_left (by simpa using this), List.getElem?_toArray]
          exact hj
      · rw [List.append_nil]
        refine List.nodup_cons.2 ⟨fun h => ?_, hFAd⟩
        have := (hF N (hrest N h)).2; omega
      · intro x hx
        simp only [List.append_nil, List.mem_cons] at hx
        rcases hx with rfl | hx
        · exact ⟨fun h => by have := hO _ h; omega, lt_of_heap hN1, .inl (by omega)⟩
        · have h1 := hF x (hrest x hx)
          exact ⟨h1.1, Nat.lt_of_lt_of_le h1.2 kp.size, .inr (hrest x hx)⟩
end
theorem insRuns_prop : InsRuns Try.prog 111 5 97 126 3 where
  shift := by
    intro b off n c i vb voff vc w w1 w2 h1 h2 h3 hne ⟨e1, k1, hs1⟩ ⟨e2, k2, hs2, hk2⟩ hfz h4 h5
    refine ins_shift_prop b off n c i vb voff vc w w1 w2 h1 h2 h3 (fun lb cb => ?_) h4 h5
    rw [run_callFunc_extern Try.func171 (by kernel_rfl) (by kernel_rfl) (by kernel_rfl) (e := Extern.SlicesOverlaps.overlaps #[97, 97] #[4]) (by kernel_rfl),
      Lib.run_overlaps_apart w 97 4 126 (by kernel_rfl) 5 (fun w => run_szOf (by kernel_rfl)) ⟨vb, voff, none⟩ ⟨b, off + (i + 1) * 5, none⟩ 1 vc lb cb hne e1 e2 k1 k2 hs1 hs2 hk2 (hfz _) (hfz _)]
    rfl
  grow := by
    intro b off n c i vb voff vc N G w w1 w2 w3 h1 h2 h3 h4 h5 a1 a2 a3
    exact ins_grow_prop b off n c i vb voff vc N G w w1 w2 w3 h1 h2 h3 h4 h5 a1 a2 a3
  tail := ins_end_prop
end Go.Proofs.Ytehdfbhfbidadaa.V
/- slices.Insert of texts and of props. -/
namespace Go.Proofs.Ytehdfbhfbidadaa.V
open Go Go.Proofs
set_option linter.unusedVariables false
set_option linter.unusedSimpArgs false
set_option maxHeartbeats 4000000
theorem ins_map {α : Type} (f : α → List T) (l : List α) (x : α) (i : Nat) : (l.map f).take i ++ f x :: (l.map f).drop i = (l.take i ++ x :: l.drop i).map f := by simp [List.map_take, List.map_drop]
def infoOk (P : Program) (t : TypeId) (sz : Nat) : Bool := match P.info? t with
  | some I => (match I.zero with | some z => decide (I.size = sz) && decide (z.cells.size = sz) && decide (I.bytes ≤ 1024) | none => false)
  | none => false
theorem infoOk_of {P : Program} {t : TypeId} {sz : Nat} (h : infoOk P t sz = true) : ∃ I z, P.info? t = some I ∧ I.zero = some z ∧ I.size = sz ∧ z.cells.size = sz ∧ I.bytes ≤ 1024 := by
  unfold infoOk at h
  split at h
  · rename_i I hI
    split at h
    · rename_i z hz
      simp only [Bool.and_eq_true, decide_eq_true_eq] at h
      exact ⟨I, z, hI, hz, h.1.1, h.1.2, h.2⟩
    · exact absurd h (by simp)
  · exact absurd h (by simp)
theorem Insert_prop_end (l : List Pr) (x : Pr) (hl : l.length ≤ 2 ^ 20) : Ret Try.prog 111 [.own 5 (l.map sP.O), .i .i64 (l.length : Int), .own 5 [sP.O x]] (.own 5 ((l ++ [x]).map sP.O)) [.dead, .dead, .dead] := by
  obtain ⟨I, z, h1, h2, h3, h4, h5⟩ := infoOk_of (P := Try.prog) (t := 126) (sz := 5) (by kernel_rfl)
  have := ins_tail (by omega) (by kernel_rfl) h1 h2 h3 h4 h5 insRuns_prop (l.map sP.O) (sP.O x) (by simpa using hl) (sP.lO x) (ow_on (sP.ow x))
  simpa using this
theorem Insert_prop_c (l : List Pr) (x : Pr) (i : Nat) (hi : i ≤ l.length) (hl : l.length ≤ 2 ^ 20) : Ret Try.prog 111 [.own 5 (l.map sP.O), .i .i64 (i : Int), .own 5 [sP.O x]] (.own 5 ((l.take i ++ x :: l.drop i).map sP.O)) [.dead, .dead, .dead] := by
  rcases Nat.lt_or_ge i l.length with h | h
  · obtain ⟨I, z, h1, h2, h3, h4, h5⟩ := infoOk_of (P := Try.prog) (t := 126) (sz := 5) (by kernel_rfl)
    have := ins_ret (by omega) (by kernel_rfl) (by kernel_rfl) h1 h2 h3 h4 h5 insRuns_prop (l.map sP.O) (sP.O x) i (by simpa using h) (by simpa using hl) (sP.lO x) (fun r hr => by obtain ⟨a, _, rfl⟩ := List.mem_map.1 hr; exact ow_on (sP.ow a)) (ow_on (sP.ow x))
    rw [ins_map] at this
    exact this
  · obtain rfl : i = l.length := by omega
    have := Insert_prop_end l x hl
    simpa using this
end Go.Proofs.Ytehdfbhfbidadaa.V
/- Nodes dropped, by the program. -/
namespace Go.Proofs.Ytehdfbhfbidadaa.V
open Go
set_option linter.unusedVariables false
set_option linter.unusedSimpArgs false
set_option maxHeartbeats 16000000
theorem Asc.lt {α : Type} {f : α → Int} {e : Int} {l : List α} (h : Asc f e l) : ∀ (d i : Nat) (x y : α), l[i]? = some x → l[i + d + 1]? = some y → f x < f y
  | 0, i, x, y, hx, hy => by
    have := (h (i + 1) y hy).2.2 x (by omega) (by simpa using hx)
    exact this
  | d + 1, i, x, y, hx, hy => by
    have hlt : i + (d + 1) + 1 < l.length := (List.getElem?_eq_some_iff.1 hy).1
    obtain ⟨z, hz⟩ : ∃ z, l[i + d + 1]? = some z := ⟨_, List.getElem?_eq_getElem (by omega)⟩
    have h1 := Asc.lt h d i x z hx hz
    have h2 := (h (i + (d + 1) + 1) y hy).2.2 z (by omega) (by rw [show i + (d + 1) + 1 - 1 = i + d + 1 by omega]; exact hz)
    omega
theorem Asc.uniq {α : Type} {f : α → Int} {e : Int} {l : List α} (h : Asc f e l) {x y : α} (hx : x ∈ l) (hy : y ∈ l) (he : f x = f y) : x = y := by
  obtain ⟨i, hi⟩ := List.mem_iff_getElem?.1 hx
  obtain ⟨j, hj⟩ := List.mem_iff_getElem?.1 hy
  rcases Nat.lt_trichotomy i j with hlt | rfl | hlt
  · have := h.lt (j - i - 1) i x y hi (by rw [show i + (j - i - 1) + 1 = j by omega]; exact hj)
    omega
  · rw [hi] at hj; exact Option.some.inj hj
  · have := h.lt (i - j - 1) j y x hj (by rw [show j + (i - j - 1) + 1 = i by omega]; exact hi)
    omega
theorem goes0 (id : Int) (e : Eg) : goes id 0 [] e = atN id e := by simp [goes, atN]
theorem drop_edges {g : Gr} (hg : GOk g) (id : Int) : g.edges.filter (fun e => !(idsOf id 0 [] g.edges).contains e.id) = g.edges.filter (fun e => !atN id e) := by
  refine List.filter_congr ?_
  intro e he
  congr 1
  by_cases h : atN id e = true
  · rw [h, List.contains_iff_mem]
    exact List.mem_map.2 ⟨e, List.mem_filter.2 ⟨he, by rw [goes0]; exact h⟩, rfl⟩
  · have h' : atN id e = false := by simpa using h
    rw [h']
    cases hc : (idsOf id 0 [] g.edges).contains e.id with
    | false => rfl
    | true =>
      obtain ⟨e', h1, h2⟩ := List.mem_map.1 (List.contains_iff_mem.1 hc)
      obtain ⟨h3, h4⟩ := List.mem_filter.1 h1
      have := hg.ea.uniq h3 he h2
      subst this
      rw [goes0] at h4
      exact absurd h4 h
end Go.Proofs.Ytehdfbhfbidadaa.V
/- A label of a node is set, by the program. -/
namespace Go.Proofs.Ytehdfbhfbidadaa.V
open Go
set_option linter.unusedVariables false
set_option linter.unusedSimpArgs false
set_option maxHeartbeats 4000000
/-- How many stand ahead of a text in order. -/
def ltLen (lb : Tx) : List Tx → Nat
  | [] => 0
  | x :: l => if Op.bytesLess x lb = true then ltLen lb l + 1 else 0
theorem ltLen_le (lb : Tx) : ∀ l : List Tx, ltLen lb l ≤ l.length
  | [] => Nat.le_refl _
  | x :: l => by
    have := ltLen_le lb l
    unfold ltLen; split <;> simp <;> omega
theorem ltLen_lt {lb : Tx} : ∀ {l : List Tx} {i : Nat} {x : Tx}, i < ltLen lb l → l[i]? = some x → Op.bytesLess x lb = true
  | [], i, x, h, _ => by simp [ltLen] at h
  | y :: l, i, x, h, hx => by
    unfold ltLen at h
    split at h
    · rename_i hy
      cases i with
      | zero => simp at hx; rw [← hx]; exact hy
      | succ i => exact ltLen_lt (l := l) (i := i) (by omega) (by simpa using hx)
    · omega
theorem ltLen_at {lb : Tx} : ∀ {l : List Tx} {x : Tx}, l[ltLen lb l]? = some x → Op.bytesLess x lb = false
  | [], x, hx => by simp at hx
  | y :: l, x, hx => by
    unfold ltLen at hx
    split at hx
    · exact ltLen_at (l := l) (by simpa using hx)
    · rename_i hy
      simp at hx; subst hx; simpa using hy
def insT (lb : Tx) (l : List Tx) : List Tx := l.take (ltLen lb l) ++ lb :: l.drop (ltLen lb l)
def labOut (lb : Tx) (l : List Tx) : List Tx := l.filter (fun x => !decide (x = lb))
def labNext (lb : Tx) (has : Bool) (l : List Tx) : List Tx := if has = true then insT lb (labOut lb l) else labOut lb l
def gSetL (g : Gr) (k : Nat) (n : Nd) (ls : List Tx) : Gr := ⟨g.nodes.set k ⟨n.id, ls, n.props⟩, g.edges, g.nn, g.ne⟩
open Classical in
noncomputable def setL (g : Gr) (k : Nat) (n : Nd) (lb : Tx) (has : Bool) : Gr × Bool := if LabelsOk (labNext lb has n.labels) then (gSetL g k n (labNext lb has n.labels), true) else (g, false)
open Classical in
noncomputable def labelSet (g : Gr) (id : Int) (lb : Tx) (has : Bool) : Gr × Bool :=
  if GOk g then (if posOf Nd.id id g.nodes < 0 ∨ nameOk lb = false then (g, false) else match g.nodes[(posOf Nd.id id g.nodes).toNat]? with | some n => setL g (posOf Nd.id id g.nodes).toNat n lb has | none => (g, false)) else (zG, false)
end Go.Proofs.Ytehdfbhfbidadaa.V
/- Props set: plain words. -/
namespace Go.Proofs.Ytehdfbhfbidadaa.V
open Go
set_option linter.unusedVariables false
set_option linter.unusedSimpArgs false
/-! ### texts in order -/
theorem bytesLess_trans : ∀ {a b c : List UInt8}, Op.bytesLess a b = true → Op.bytesLess b c = true → Op.bytesLess a c = true
  | a, b, [], h1, h2 => by cases b <;> simp [Op.bytesLess] at h2
  | [], b, z :: c, h1, h2 => by simp [Op.bytesLess]
  | x :: a, [], z :: c, h1, h2 => by simp [Op.bytesLess] at h1
  | x :: a, y :: b, z :: c, h1, h2 => by
    simp only [Op.bytesLess, Bool.or_eq_true, decide_eq_true_eq, Bool.and_eq_true, beq_iff_eq] at h1 h2 ⊢
    rcases h1 with h1 | ⟨rfl, h1⟩
    · rcases h2 with h2 | ⟨rfl, h2⟩
      · exact .inl (UInt8.lt_trans h1 h2)
      · exact .inl h1
    · rcases h2 with h2 | ⟨rfl, h2⟩
      · exact .inl h2
      · exact .inr ⟨rfl, bytesLess_trans h1 h2⟩
theorem bytesLess_irr : ∀ l : List UInt8, Op.bytesLess l l = false
  | [] => by simp [Op.bytesLess]
  | a :: l => by simp [Op.bytesLess, bytesLess_irr l]
/-! ### props with one set -/
def nmK (nm : Tx) (ps : List Pr) : Nat := ltLen nm (ps.map Pr.name)
def prOut (nm : Tx) (ps : List Pr) : List Pr := ps.filter (fun p => !decide (p.name = nm))
def prNew (nm : Tx) (to : Vl) : List Pr := if to.k = 0 then [] else [⟨nm, to⟩]
def propNext (nm : Tx) (to : Vl) (ps : List Pr) : List Pr := ps.take (nmK nm ps) ++ (prNew nm to ++ prOut nm (ps.drop (nmK nm ps)))
theorem nmK_le (nm : Tx) (ps : List Pr) : nmK nm ps ≤ ps.length := by
  have := ltLen_le nm (ps.map Pr.name); simpa [nmK] using this
theorem nmK_lt {nm : Tx} {ps : List Pr} {i : Nat} {p : Pr} (h : i < nmK nm ps) (hx : ps[i]? = some p) : Op.bytesLess p.name nm = true :=
  ltLen_lt (l := ps.map Pr.name) h (by simp [hx])
theorem nmK_at {nm : Tx} {ps : List Pr} {p : Pr} (hx : ps[nmK nm ps]? = some p) : Op.bytesLess p.name nm = false :=
  ltLen_at (l := ps.map Pr.name) (by simp only [List.getElem?_map]; rw [show ltLen nm (ps.map Pr.name) = nmK nm ps from rfl, hx]; rfl)
theorem lt_ne {a b : Tx} (h : Op.bytesLess a b = true) : a ≠ b := by
  rintro rfl; rw [bytesLess_irr] at h; exact absurd h (by simp)
theorem prOut_take (nm : Tx) (ps : List Pr) {i : Nat} (hi : i ≤ nmK nm ps) : prOut nm (ps.take i) = ps.take i := by
  unfold prOut
  rw [List.filter_eq_self]
  intro p hp
  obtain ⟨j, hj⟩ := List.mem_iff_getElem?.1 hp
  have hji : j < i := by have := (List.getElem?_eq_some_iff.1 hj).1; simp at this; omega
  rw [List.getElem?_take, if_pos hji] at hj
  have := lt_ne (nmK_lt (nm := nm) (by omega) hj)
  simpa using this
theorem prOut_all (nm : Tx) (ps : List Pr) : prOut nm ps = ps.take (nmK nm ps) ++ prOut nm (ps.drop (nmK nm ps)) := by
  conv => lhs; rw [← List.take_append_drop (nmK nm ps) ps]
  unfold prOut
  rw [List.filter_append]
  congr 1
  exact prOut_take nm ps (Nat.le_refl _)
theorem prOut_len (nm : Tx) (ps : List Pr) : (prOut nm ps).length ≤ ps.length := List.length_filter_le _ _
theorem prOut_succ {nm : Tx} {l : List Pr} {i : Nat} {p : Pr} (hx : l[i]? = some p) : prOut nm (l.take (i + 1)) = if p.name = nm then prOut nm (l.take i) else prOut nm (l.take i) ++ [p] := by
  rw [List.take_add_one, hx]
  unfold prOut
  rw [List.filter_append]
  by_cases h : p.name = nm <;> simp [h]
/-- In ascending props what is behind the place is not ahead of the name. -/
theorem Each.behind {ps : List Pr} {ok : Pr → Bool} (h : Each ok Pr.name ps) {nm : Tx} : ∀ (d : Nat) {p : Pr}, ps[nmK nm ps + d]? = some p → Op.bytesLess p.name nm = false
  | 0, p, hx => nmK_at hx
  | d + 1, p, hx => by
    have hl := (List.getElem?_eq_some_iff.1 hx).1
    obtain ⟨q, hq⟩ : ∃ q, ps[nmK nm ps + d]? = some q := ⟨_, List.getElem?_eq_getElem (by omega)⟩
    have h1 := Each.behind h d hq
    have h2 := (h _ _ hx).2 q (by omega) (by rw [show nmK nm ps + (d + 1) - 1 = nmK nm ps + d by omega]; exact hq)
    cases h3 : Op.bytesLess p.name nm with
    | false => rfl
    | true => rw [bytesLess_trans h2 h3] at h1; exact absurd h1 (by simp)
/-- Where the name is put among those that are left: the same place. -/
theorem nmK_out {ps : List Pr} {ok : Pr → Bool} (h : Each ok Pr.name ps) (nm : Tx) : nmK nm (prOut nm ps) = nmK nm ps := by
  have hA : ∀ p ∈ ps.take (nmK nm ps), Op.bytesLess p.name nm = true := by
    intro p hp
    obtain ⟨j, hj⟩ := List.mem_iff_getElem?.1 hp
    have hji : j < nmK nm ps := by have := (List.getElem?_eq_some_iff.1 hj).1; simp at this; omega
    rw [List.getElem?_take, if_pos hji] at hj
    exact nmK_lt hji hj
  have hB : ∀ p ∈ prOut nm (ps.drop (nmK nm ps)), Op.bytesLess p.name nm = false := by
    intro p hp
    obtain ⟨d, hd⟩ := List.mem_iff_getElem?.1 (List.mem_filter.1 hp).1
    rw [List.getElem?_drop] at hd
    exact h.behind d hd
  have key : ∀ (A B : List Pr), (∀ p ∈ A, Op.bytesLess p.name nm = true) → (∀ p ∈ B, Op.bytesLess p.name nm = false) → nmK nm (A ++ B) = A.length := by
    intro A B
    induction A with
    | nil =>
      intro _ hB
      cases B with
      | nil => rfl
      | cons b B => simp [nmK, ltLen, hB b (by simp)]
    | cons a A ih =>
      intro hA hB
      have := ih (fun p hp => hA p (by simp [hp])) hB
      simp only [nmK, List.map_append] at this
      simp [nmK, ltLen, hA a (by simp), this]
  rw [prOut_all nm ps, key _ _ hA hB, List.length_take]
  have := nmK_le nm ps
  omega
/-- The program's way: those that are left, and the new one put among them. -/
theorem propNext_ins {ps : List Pr} {ok : Pr → Bool} (h : Each ok Pr.name ps) (nm : Tx) (to : Vl) (hk : to.k ≠ 0) : propNext nm to ps = (prOut nm ps).take (nmK nm (prOut nm ps)) ++ ⟨nm, to⟩ :: (prOut nm ps).drop (nmK nm (prOut nm ps)) := by
  have h1 := nmK_le nm ps
  have h2 : (ps.take (nmK nm ps)).length = nmK nm ps := by rw [List.length_take]; omega
  rw [nmK_out h, prOut_all nm ps, List.take_append_of_le_length (by omega), List.drop_append_of_le_length (by omega), List.take_of_length_le (by omega), List.drop_of_length_le (by omega)]
  unfold propNext prNew
  rw [if_neg hk]; rfl
theorem propNext_out {ps : List Pr} (nm : Tx) (to : Vl) (hk : to.k = 0) : propNext nm to ps = prOut nm ps := by
  rw [prOut_all nm ps]; unfold propNext prNew; rw [if_pos hk]; rfl
theorem propNext_len (nm : Tx) (to : Vl) (ps : List Pr) : (propNext nm to ps).length ≤ ps.length + 1 := by
  have h1 := nmK_le nm ps
  have h2 := prOut_len nm (ps.drop (nmK nm ps))
  unfold propNext prNew
  simp only [List.length_append, List.length_take]
  rw [List.length_drop] at h2
  split <;> simp <;> omega
theorem propNext_mem {P : Pr → Prop} {nm : Tx} {to : Vl} {ps : List Pr} (h : ∀ p ∈ ps, P p) (hn : to.k ≠ 0 → P ⟨nm, to⟩) : ∀ p ∈ propNext nm to ps, P p := by
  intro p hp
  unfold propNext prNew at hp
  simp only [List.mem_append] at hp
  rcases hp with hp | hp | hp
  · exact h p (List.mem_of_mem_take hp)
  · split at hp
    · simp at hp
    · rename_i hk
      simp only [List.mem_singleton] at hp
      subst hp; exact hn hk
  · exact h p (List.mem_of_mem_drop (List.mem_filter.1 hp).1)
/-! ### the graph with props set -/
def gSetP (g : Gr) (v : Vl) (ps : List Pr) : Gr :=
  if v.k = 5 then (match g.nodes[(posOf Nd.id v.n g.nodes).toNat]? with | some n => { g with nodes := g.nodes.set (posOf Nd.id v.n g.nodes).toNat { n with props := ps } } | none => g)
  else (match g.edges[(posOf Eg.id v.n g.edges).toNat]? with | some e => { g with edges := g.edges.set (posOf Eg.id v.n g.edges).toNat { e with props := ps } } | none => g)
/-- Nothing. -/
def emptyV (v : Vl) : Bool := decide (v.k = 0) && decide (v.n = 0) && decide (v.s = []) && decide (v.l = [])
def setOk (v : Vl) (nm : Tx) (to : Vl) : Prop := vOk v = true ∧ nameOk nm = true ∧ (sto to = true ∨ emptyV to = true)
open Classical in
noncomputable def propSet (g : Gr) (v : Vl) (nm : Tx) (to : Vl) : Gr × Bool :=
  if GOk g then (if setOk v nm to then (match propsOf g v with | some ps => if PropsOk (propNext nm to ps) then (gSetP g v (propNext nm to ps), true) else (g, false) | none => (g, false)) else (g, false)) else (zG, false)
theorem emptyV_iff {v : Vl} : emptyV v = true ↔ v.k = 0 ∧ vOk v = true := by
  unfold emptyV
  simp only [Bool.and_eq_true, decide_eq_true_eq]
  obtain ⟨k, n, s, l⟩ := v
  by_cases hk : k = 0
  · subst hk
    simp [vOk, okV, and_assoc]
  · simp [hk]
end Go.Proofs.Ytehdfbhfbidadaa.V
/- Props set, by the reference: the list. -/
namespace Go.Proofs.Ytehdfbhfbidadaa.V
open Go
set_option linter.unusedVariables false
set_option linter.unusedSimpArgs false
set_option maxHeartbeats 4000000
/-- What the cells of a block own is shared for good; the block itself stays one's own. -/
theorem Wk.shareIn {s : St} {b sz : Nat} {rows rows2 : List (List T)} (hb : hget s.hp b = some (.arr sz rows)) (hcl : cleanR rows = true) (h2 : toIr rows = rows2) (hl : rows2.length = rows.length) (hs : ∀ r ∈ rows2, r.length = sz) : Wk s { s with hp := hset s.hp b (.arr sz rows2) } := by
  rintro E a w ⟨⟨ρ, O, F, hR⟩, hE⟩
  obtain ⟨hA, hBR⟩ := hR.hp _ _ hb
  have hnd := hR.nodup _ _ hb
  simp only [BR] at hBR
  rcases hBR with ⟨rfl, hF, hn⟩ | ⟨B, hB, hsz, hsr, hcap, cc, et, cs, F', hheap, hfit, hdr, hlie, hF⟩
  · have : rows2 = [] := List.eq_nil_of_length_eq_zero (by simpa using hl)
    subst this
    refine ⟨⟨ρ, O, F, hR.size, hR.defers, hR.fb, hR.ρ0, hR.O0, hR.Olt, hR.Onew, hR.tm, ?_, ?_, ?_, ?_, hR.keep⟩, hE⟩ <;>
    · have he : ∀ x, hget (hset s.hp b (.arr sz [])) x = hget s.hp x := by
        intro x; rw [hget_hset]; split
        · rename_i e; subst e; exact hb.symm
        · rfl
      simp only [he]
      first | exact hR.hp | exact hR.nodup | exact hR.apart | exact hR.mine
  · let O2 : Nat → Prop := fun x => O x ∨ x ∈ F'
    have hO : ∀ x, O x → O2 x := fun x h => .inl h
    have hci : CIr w O2 rows2 cs := by rw [← h2]; exact Dr_toI hO (fun x hx => .inr hx) hdr hcl
    have hFb : ∀ x ∈ F', x ∈ F b := fun x hx => by rw [hF]; exact List.mem_cons_of_mem _ hx
    have hBb : B.b ∉ F' := by rw [hF] at hnd; exact (List.nodup_cons.1 hnd).1
    have hmB := hR.mine _ _ hb B.b (by rw [hF]; simp)
    refine ⟨⟨ρ, O2, fun t => if t = b then [B.b] else F t, hR.size, hR.defers, hR.fb, hR.ρ0, fun x hx => .inl (hR.O0 x hx), ?_, ?_, fun j => (hR.tm j).cong hO (fun _ _ => rfl) (fun _ h => h) (fun _ _ => rfl), ?_, ?_, ?_, ?_, hR.keep⟩, hE⟩
    · rintro x (hx | hx)
      · exact hR.Olt x hx
      · exact (hR.mine _ _ hb x (hFb x hx)).2.1
    · rintro x (hx | hx)
      · exact hR.Onew x hx
      · exact .inr (hR.mine _ _ hb x (hFb x hx)).2.2
    · intro t k hk
      simp only [hget_hset] at hk
      by_cases e : b = t
      · subst e
        rw [if_pos rfl] at hk
        obtain rfl := Option.some.inj hk
        simp only [if_true]
        refine ⟨hA, ?_⟩
        simp only [BR]
        exact .inr ⟨B, hB, hsz, hs, by omega, cc, et, cs, [], hheap, hfit, Dr_of_CIr hci, hlie, rfl⟩
      · rw [if_neg e] at hk
        have e' : t ≠ b := fun h => e h.symm
        rw [if_neg e']
        have h1 := hR.hp t k hk
        exact ⟨h1.1, BR.cong (A' := fun x => x < s.nx) (ρ' := ρ) hO (fun _ _ => rfl) (fun _ h => h) (fun _ _ => rfl) h1.1 (fun _ _ => rfl) h1.2⟩
    · intro t k hk
      simp only [hget_hset] at hk
      by_cases e : b = t
      · subst e; simp
      · rw [if_neg e] at hk
        have e' : t ≠ b := fun h => e h.symm
        rw [if_neg e']
        exact hR.nodup t k hk
    · intro t1 k1 t2 k2 h1 h3 hne x hx
      simp only [hget_hset] at h1 h3
      have hin : ∀ t, (if t = b then [B.b] else F t) ⊆ F t := by
        intro t
        split
        · rename_i e; subst e; rw [hF]; simp
        · exact fun _ h => h
      have g1 : ∃ k, hget s.hp t1 = some k := by
        by_cases e : b = t1
        · exact ⟨_, e ▸ hb⟩
        · rw [if_neg e] at h1; exact ⟨_, h1⟩
      have g2 : ∃ k, hget s.hp t2 = some k := by
        by_cases e : b = t2
        · exact ⟨_, e ▸ hb⟩
        · rw [if_neg e] at h3; exact ⟨_, h3⟩
      obtain ⟨k1', g1⟩ := g1
      obtain ⟨k2', g2⟩ := g2
      exact fun hx2 => hR.apart _ _ _ _ g1 g2 hne x (hin t1 hx) (hin t2 hx2)
    · intro t k hk x hx
      simp only [hget_hset] at hk
      by_cases e : b = t
      · subst e
        simp only [if_true, List.mem_singleton] at hx
        subst hx
        refine ⟨?_, hmB.2.1, hmB.2.2⟩
        rintro (ho | hx)
        · exact hmB.1 ho
        · exact hBb hx
      · rw [if_neg e] at hk
        have e' : t ≠ b := fun h => e h.symm
        rw [if_neg e'] at hx
        obtain ⟨q1, q2, q3⟩ := hR.mine t k hk x hx
        refine ⟨?_, q2, q3⟩
        rintro (ho | hx2)
        · exact q1 ho
        · exact hR.apart _ _ _ _ hk hb e' x hx (hFb x hx2)
end Go.Proofs.Ytehdfbhfbidadaa.V
/- Props set, by the reference: the list that is made. -/
namespace Go.Proofs.Ytehdfbhfbidadaa.V
open Go
set_option linter.unusedVariables false
set_option linter.unusedSimpArgs false
set_option maxHeartbeats 4000000
/-- The list behind some rounds. -/
def putAt (nm : Tx) (to : Vl) (ps : List Pr) (i : Nat) : List Pr := if i ≤ nmK nm ps then ps.take i else ps.take (nmK nm ps) ++ (prNew nm to ++ prOut nm ((ps.drop (nmK nm ps)).take (i - nmK nm ps)))
theorem putAt_0 (nm : Tx) (to : Vl) (ps : List Pr) : putAt nm to ps 0 = [] := by simp [putAt]
theorem putAt_lt {nm : Tx} {to : Vl} {ps : List Pr} {i : Nat} {p : Pr} (hx : ps[i]? = some p) (h : i < nmK nm ps) : putAt nm to ps (i + 1) = putAt nm to ps i ++ [p] := by
  unfold putAt
  rw [if_pos (by omega), if_pos (by omega), List.take_add_one, hx]; rfl
theorem putAt_at {nm : Tx} {to : Vl} {ps : List Pr} {p : Pr} (hx : ps[nmK nm ps]? = some p) : putAt nm to ps (nmK nm ps + 1) = (putAt nm to ps (nmK nm ps) ++ prNew nm to) ++ (if p.name = nm then [] else [p]) := by
  unfold putAt
  rw [if_neg (by omega), if_pos (Nat.le_refl _)]
  have h0 : (ps.drop (nmK nm ps)).take (nmK nm ps + 1 - nmK nm ps) = [p] := by
    rw [show nmK nm ps + 1 - nmK nm ps = 0 + 1 by omega, List.take_add_one, List.getElem?_drop, Nat.add_zero, hx]; simp
  rw [h0]
  unfold prOut
  by_cases h : p.name = nm <;> simp [h]
theorem putAt_gt {nm : Tx} {to : Vl} {ps : List Pr} {i : Nat} {p : Pr} (hx : ps[i]? = some p) (h : nmK nm ps < i) : putAt nm to ps (i + 1) = putAt nm to ps i ++ (if p.name = nm then [] else [p]) := by
  unfold putAt
  rw [if_neg (by omega), if_neg (by omega), show i + 1 - nmK nm ps = (i - nmK nm ps) + 1 by omega]
  have hx' : (ps.drop (nmK nm ps))[i - nmK nm ps]? = some p := by rw [List.getElem?_drop, show nmK nm ps + (i - nmK nm ps) = i by omega]; exact hx
  rw [prOut_succ hx']
  by_cases h : p.name = nm <;> simp [h]
theorem putAt_end (nm : Tx) (to : Vl) (ps : List Pr) : propNext nm to ps = if nmK nm ps < ps.length then putAt nm to ps ps.length else putAt nm to ps ps.length ++ prNew nm to := by
  have h1 := nmK_le nm ps
  unfold putAt propNext
  by_cases h : nmK nm ps < ps.length
  · have e : (ps.drop (nmK nm ps)).take (ps.length - nmK nm ps) = ps.drop (nmK nm ps) := List.take_of_length_le (by simp)
    rw [if_pos h, if_neg (by omega), e]
  · have e : nmK nm ps = ps.length := by omega
    rw [if_neg h, if_pos (by omega), e]
    simp [prOut]
theorem putAt_len (nm : Tx) (to : Vl) (ps : List Pr) (i : Nat) : (putAt nm to ps i).length ≤ i + 1 := by
  unfold putAt
  split
  · simp; omega
  · have h2 := prOut_len nm ((ps.drop (nmK nm ps)).take (i - nmK nm ps))
    have h3 : ((ps.drop (nmK nm ps)).take (i - nmK nm ps)).length ≤ i - nmK nm ps := by simp; omega
    have h4 : (prNew nm to).length ≤ 1 := by unfold prNew; split <;> simp
    simp only [List.length_append, List.length_take]
    omega
theorem sP_pl (l : List Pr) : ∀ r ∈ l.map sP.I, r.length = 5 := by
  intro r hr
  obtain ⟨a, _, rfl⟩ := List.mem_map.1 hr
  exact sP.lI a
theorem cleanI (l : List Pr) : cleanR (l.map sP.I) = true := by
  simp only [cleanR, List.all_map, List.all_eq_true]
  intro p _
  obtain ⟨nm, k, n, s, l⟩ := p
  simp [T.clean]
theorem toIr_I (l : List Pr) : toIr (l.map sP.I) = l.map sP.I := by
  induction l with
  | nil => rfl
  | cons p l ih =>
    obtain ⟨nm, k, n, s, vl⟩ := p
    simp only [List.map_cons, toIr, ih]
    simp [toIs]
theorem toIr_app (a b : List (List T)) : toIr (a ++ b) = toIr a ++ toIr b := by
  induction a with
  | nil => rfl
  | cons r a ih => simp [toIr, ih]
set_option maxRecDepth 20000 in
theorem l2Put_c (ps : List Pr) (hl : ps.length ≤ 2 ^ 20) (nm : Tx) (to : Vl) (hto : to.cnt ≤ 2 ^ 20) : Ri Try.prog 167 [.imm (ps.map sP.I), .s nm, .agg (sV.I to)] (.imm ((propNext nm to ps).map sP.I)) := by
  refine ⟨.own 5 ((propNext nm to ps).map sP.I), ?_, by simp [toIr_I]⟩
  have hcp := l1Copy_c to hto
  have hcI := cleanI
  have hlen := putAt_len nm to ps
  have hgt := fun i p (h : ps[i]? = some p) => putAt_gt (nm := nm) (to := to) h
  have hlt := fun i p (h : ps[i]? = some p) => putAt_lt (nm := nm) (to := to) h
  have hat := fun p (h : ps[nmK nm ps]? = some p) => putAt_at (nm := nm) (to := to) h
  have hend := putAt_end nm to ps
  have h00 := putAt_0 nm to ps
  have hKle := nmK_le nm ps
  have hKlt := fun i p => nmK_lt (nm := nm) (ps := ps) (i := i) (p := p)
  have hKat := fun p => nmK_at (nm := nm) (ps := ps) (p := p)
  have hnew0 : to.k = 0 → prNew nm to = [] := fun h => by unfold prNew; rw [if_pos h]
  have hnew1 : to.k ≠ 0 → prNew nm to = [⟨nm, to⟩] := fun h => by unfold prNew; rw [if_neg h]
  generalize prNew nm to = W at *
  generalize putAt nm to ps = L at *
  generalize propNext nm to ps = R at *
  generalize nmK nm ps = K at *
  obtain ⟨k, n, s, vl⟩ := to
  simp only [Vl.k] at hnew0 hnew1
  refine Ret.ofS Try.func167 ok_spec_l2Put rfl rfl (by simp) ?_
  refine WW_seq (WW_of_W ?_)
  simp
  refine WW_seq (WW_of_W ?_)
  simp
  refine WW_seq (WW_of_W ?_)
  simp
  refine WW_seq (thn_cut (s2 := ⟨[(8, .b (decide (k = 0) || decide (K < ps.length))), (7, .ref 20 0 (L ps.length).length), (0, .imm (ps.map sP.I)), (1, .s nm), (5, .ptr 0 0 0)], [(20, .arr 5 ((L ps.length).map sP.I)), (0, .arr 4 [[.i .i64 k, .i .i64 n, .s s, .imm (vl.map sV.I)]])], 60, 0⟩) ?_ ?_)
  · simp
    refine W_forS (fun i => ⟨[(9, .i .i64 i), (8, .b (decide (k = 0) || decide (K < i))), (7, .ref 20 0 (L i).length), (0, .imm (ps.map sP.I)), (1, .s nm), (5, .ptr 0 0 0)], [(20, .arr 5 ((L i).map sP.I)), (0, .arr 4 [[.i .i64 k, .i .i64 n, .s s, .imm (vl.map sV.I)]])], 60, 0⟩) ps.length (fun _ => True) ?_ trivial ?_
    · refine Wk.ren (fun t => if t = 20 then 1 else t) rfl (by simp) (by simp) (by simp [h00]) ?_ (by simp)
      simp [Blk.rn, Blk.names, h00]
    intro i hi _
    rcases Nat.lt_or_ge i ps.length with q1 | q1
    · obtain ⟨p, hx⟩ : ∃ p, ps[i]? = some p := ⟨_, List.getElem?_eq_getElem q1⟩
      have hw : IntKind.i64.wrap ((i : Int) + 1) = (i : Int) + 1 := wrap1 (by omega)
      obtain ⟨M, hM1, hM2⟩ : ∃ M, M = (if i = K then L i ++ W else L i) ∧ L (i + 1) = M ++ (if p.name = nm then [] else [p]) := by
        refine ⟨_, rfl, ?_⟩
        rcases Nat.lt_trichotomy i K with h | rfl | h
        · have hne := lt_ne (hKlt i p h hx)
          rw [hlt i p hx h, if_neg (show ¬ i = K by omega), if_neg hne]
        · rw [hat p hx, if_pos rfl]
        · rw [hgt i p hx h, if_neg (show ¬ i = K by omega)]
      have hWl : W.length ≤ 1 := by
        by_cases h : k = 0
        · rw [hnew0 h]; simp
        · rw [hnew1 h]; simp
      have hMl : M.length ≤ i + 2 := by
        have := hlen i
        rw [hM1]; split
        · simp; omega
        · omega
      have hLl := hlen i
      have hcM := hcI M
      have hcL := hcI (L i)
      have hbig : (M.length + 1) * 72 ≤ 35184372088832 := by omega
      have hbig2 : ((L i).length + 1) * 72 ≤ 35184372088832 := by omega
      refine WW_seq (WW_of_W ?_)
      simp [q1]
      refine WW_seq (WW_block ?_)
      refine WW_seq (thn_cut (s2 := ⟨[(9, .i .i64 i), (8, .b (decide (k = 0) || decide (K < i + 1))), (7, .ref 20 0 M.length), (0, .imm (ps.map sP.I)), (1, .s nm), (5, .ptr 0 0 0)], [(20, .arr 5 (M.map sP.I)), (0, .arr 4 [[.i .i64 k, .i .i64 n, .s s, .imm (vl.map sV.I)]])], 100, 0⟩) ?_ ?_)
      · obtain ⟨nm', v'⟩ := p
        rcases Nat.lt_trichotomy i K with h | rfl | h
        · have h1 : ¬ K < i := by omega
          have h2 : ¬ K < i + 1 := by omega
          have e : M = L i := by rw [hM1, if_neg (show ¬ i = K by omega)]
          subst e
          have hless := hKlt i _ h hx
          simp only at hless
          by_cases hk : k = 0
          · simp [-getElem?_pos, hx, q1, h1, h2, hk]
            exact Wk.less rfl (by simp) (by simp [h1, h2, hk]) (by simp [h1, h2, hk])
          · simp [-getElem?_pos, hx, q1, h1, h2, hk, hless]
            exact Wk.less rfl (by simp) (by simp [h1, h2, hk]) (by simp [h1, h2, hk])
        · have hge := hKat _ hx
          simp only at hge
          by_cases hk : k = 0
          · have e : M = L i := by rw [hM1, if_pos rfl, hnew0 hk]; simp
            subst e
            simp [-getElem?_pos, hx, q1, hk]
            exact Wk.less rfl (by simp) (by simp [hk]) (by simp [hk])
          · have e : M = L i ++ [⟨nm, .mk k n s vl⟩] := by rw [hM1, if_pos rfl, hnew1 hk]
            simp [-getElem?_pos, hx, q1, hk, hge, hbig2]
            refine callK_val (by simp) hcp (by simp [T.noImm]) ?_
            simp [-getElem?_pos, hx, q1, hk, hge, hbig2]
            have hA : ((L i).map sP.I).length = (L i).length := by simp
            have hg2 := app1_get hA
            have hs3 := app1_set hA
            have hcl2 : cleanR ((L i).map sP.I ++ [[.s nm, .i .i64 k, .i .i64 n, .s s, .own 4 (vl.map sV.O)]]) = true := by
              have := hcI (L i)
              simp only [cleanR, List.all_append, Bool.and_eq_true] at this ⊢
              exact ⟨this, by simp [T.clean]⟩
            have hto2 : toIr ((L i).map sP.I ++ [[.s nm, .i .i64 k, .i .i64 n, .s s, .own 4 (vl.map sV.O)]]) = (M).map sP.I := by
              rw [toIr_app, toIr_I, e]; simp [toIr, toIs, sV.rO]
            refine Wk.trans (Wk.join (b := 62) (r := (L i).length) (cs := [.s nm, .i .i64 k, .i .i64 n, .s s, .own 4 (vl.map sV.O)]) rfl (by simp [hg2]; rfl) (by simp) (by simp)) ?_
            refine Wk.trans (Wk.shareIn (b := 62) (sz := 5) (rows := (L i).map sP.I ++ [[.s nm, .i .i64 k, .i .i64 n, .s s, .own 4 (vl.map sV.O)]]) (rows2 := (M).map sP.I) (by simp [hs3]) hcl2 hto2 (by simp [e]) (sP_pl _)) ?_
            refine Wk.ren (fun t => if t = 20 then 62 else t) rfl (by simp) (by simp) (by simp [hk, e]) ?_ (by simp)
            simp [Blk.rn, Blk.names, namesr_clean hcM, rnr_cl hcM]
        · have h1 : K < i := h
          have h2 : K < i + 1 := by omega
          have e : M = L i := by rw [hM1, if_neg (show ¬ i = K by omega)]
          subst e
          simp [-getElem?_pos, hx, q1, h1, h2]
          exact Wk.less rfl (by simp) (by simp [h1, h2]) (by simp [h1, h2])
      · rw [hM2]
        clear hgt hlt hat hM1 hM2 hKlt hKat
        obtain ⟨nm', v'⟩ := p
        by_cases c : nm' = nm
        · have e : M ++ (if nm' = nm then [] else [⟨nm', v'⟩]) = M := by rw [if_pos c]; simp
          simp only [e]
          refine WW_of_W ?_
          simp [-getElem?_pos, hx, q1, c, hw]
          refine WW_of_W ?_
          simp [hw, q1]
          exact Wk.to rfl (by simp) (by simp) (by simp [Blk.names, namesr_clean hcM]) (by simp)
        · have e : M ++ (if nm' = nm then [] else [(⟨nm', v'⟩ : Pr)]) = M ++ [⟨nm', v'⟩] := by rw [if_neg c]
          simp only [e]
          have hcD := hcI (M ++ [⟨nm', v'⟩])
          rw [List.map_append] at hcD
          obtain ⟨k', n', s', vl'⟩ := v'
          simp only [List.map_cons, List.map_nil, sP_I, sV_I] at hcD
          refine WW_of_W ?_
          simp [-getElem?_pos, hx, q1, c, hw, hbig]
          refine WW_of_W ?_
          simp [hw, q1]
          refine Wk.ren (fun t => if t = 20 then 101 else t) rfl (by simp) (by simp) (by simp) ?_ (by simp)
          simp [Blk.rn, Blk.names, namesr_clean hcD, rnr_cl hcD]
    · obtain rfl : i = ps.length := by omega
      refine WW_seq (WW_of_W ?_)
      simp
      exact Wk.less rfl (by simp) (by simp) (by simp)
  · have hcR := hcI R
    have hcL := hcI (L ps.length)
    have hbig2 : ((L ps.length).length + 1) * 72 ≤ 35184372088832 := by have := hlen ps.length; omega
    refine WW_seq (thn_cut (s2 := ⟨[(7, .ref 20 0 R.length)], [(20, .arr 5 (R.map sP.I))], 100, 0⟩) ?_ ?_)
    · by_cases hK : K < ps.length
      · have e : R = L ps.length := by rw [hend, if_pos hK]
        subst e
        simp [hK]
        exact Wk.less rfl (by simp) (by simp) (by simp)
      · by_cases hk : k = 0
        · have e : R = L ps.length := by rw [hend, if_neg hK, hnew0 hk]; simp
          subst e
          simp [hk]
          exact Wk.less rfl (by simp) (by simp) (by simp)
        · have e : R = L ps.length ++ [⟨nm, .mk k n s vl⟩] := by rw [hend, if_neg hK, hnew1 hk]
          simp [hk, hK, hbig2]
          refine callK_val (by simp) hcp (by simp [T.noImm]) ?_
          simp [hk, hK, hbig2]
          have hA : ((L ps.length).map sP.I).length = (L ps.length).length := by simp
          have hg2 := app1_get hA
          have hs3 := app1_set hA
          have hcl2 : cleanR ((L ps.length).map sP.I ++ [[.s nm, .i .i64 k, .i .i64 n, .s s, .own 4 (vl.map sV.O)]]) = true := by
            have := hcI (L ps.length)
            simp only [cleanR, List.all_append, Bool.and_eq_true] at this ⊢
            exact ⟨this, by simp [T.clean]⟩
          have hto2 : toIr ((L ps.length).map sP.I ++ [[.s nm, .i .i64 k, .i .i64 n, .s s, .own 4 (vl.map sV.O)]]) = (R).map sP.I := by
            rw [toIr_app, toIr_I, e]; simp [toIr, toIs, sV.rO]
          refine Wk.trans (Wk.join (b := 62) (r := (L ps.length).length) (cs := [.s nm, .i .i64 k, .i .i64 n, .s s, .own 4 (vl.map sV.O)]) rfl (by simp [hg2]; rfl) (by simp) (by simp)) ?_
          refine Wk.trans (Wk.shareIn (b := 62) (sz := 5) (rows := (L ps.length).map sP.I ++ [[.s nm, .i .i64 k, .i .i64 n, .s s, .own 4 (vl.map sV.O)]]) (rows2 := (R).map sP.I) (by simp [hs3]) hcl2 hto2 (by simp [e]) (sP_pl _)) ?_
          refine Wk.ren (fun t => if t = 20 then 62 else t) rfl (by simp) (by simp) (by simp [hk, e]) ?_ (by simp)
          simp [Blk.rn, Blk.names, namesr_clean hcR, rnr_cl hcR]
    · refine WW_of_W ?_
      simp
      exact fin_own (by simp; rfl) (by simp [hcR, List.take_of_length_le]) (by simp) (by simp)
end Go.Proofs.Ytehdfbhfbidadaa.V
/- Props set, by the reference: the graph. -/
namespace Go.Proofs.Ytehdfbhfbidadaa.V
open Go
set_option linter.unusedVariables false
set_option linter.unusedSimpArgs false
set_option maxHeartbeats 4000000
theorem im_toI {t : T} (h : t.im = true) : t.toI = t := by cases t <;> simp [T.im] at h <;> simp
theorem ims_toIs : ∀ {ts : List T}, ts.all T.im = true → toIs ts = ts
  | [], _ => rfl
  | t :: ts, h => by
    simp only [List.all_cons, Bool.and_eq_true] at h
    simp only [toIs, im_toI h.1, ims_toIs h.2]
theorem Sh.toII {α : Type} (S : Sh α) (l : List α) : toIr (l.map S.I) = l.map S.I := by
  induction l with
  | nil => rfl
  | cons a l ih => simp only [List.map_cons, toIr, ih, ims_toIs (S.im a)]
theorem Sh.cRI {α : Type} (S : Sh α) (l : List α) : cleanR (l.map S.I) = true := by
  simp only [cleanR, List.all_map, List.all_eq_true]
  intro a _
  rw [Function.comp, List.all_eq_true]
  intro t ht
  have := List.all_eq_true.1 (S.im a) t ht
  cases t <;> simp [T.im] at this <;> rfl
theorem l2Of_v (g : Gr) (hf : ln g.nodes ∧ ln g.edges) (v : Vl) (ps : List Pr) (hp : propsOf g v = some ps) : Vw Try.prog 144 [.agg [.ref 0 0 g.nodes.length, .ref 1 0 g.edges.length, .i .i64 g.nn, .i .i64 g.ne], .agg (sV.I v)] [(0, .arr 3 (g.nodes.map sN.I)), (1, .arr 5 (g.edges.map sE.I))] (.tup [.imm (ps.map sP.I), .b true]) := by
  have hN := sN.toII g.nodes
  have hE := sE.toII g.edges
  have cN := sN.cRI g.nodes
  have cE := sE.cRI g.edges
  have h1 := l2Node_c g hf.1 v.n
  have h2 := l2Edge_c g hf.2 v.n
  obtain ⟨l, es, nn, ne⟩ := g
  obtain ⟨k, n, s, vl⟩ := v
  simp only [Vl.n] at h1 h2
  simp only at hN hE cN cE
  refine see_spec_l2Of 2 (by simp) (by simp) (by simp) (by simp [Blk.cl, cN, cE]) (by simp) ?_
  simp [pc_spec_l2Of]
  refine callK_val (by simp [cN, cE, hN, hE]) h1 rfl ?_
  simp
  refine callK_val (by simp [cN, cE, hN, hE]) h2 rfl ?_
  by_cases k5 : k = 5
  · subst k5
    rcases find_pos (f := Nd.id) (id := n) (l := l) with ⟨i, ⟨a, b, c⟩, q1, q2, q3⟩ | ⟨q1, q3⟩
    · have hp' : propsOf ⟨l, es, nn, ne⟩ (.mk 5 n s vl) = some c := by unfold propsOf; simp only [Vl.k, Vl.n, if_true]; exact congrArg (Option.map Nd.props) q3
      rw [hp'] at hp
      obtain rfl := Option.some.inj hp
      have q4 := (List.getElem?_eq_some_iff.1 q2).1
      simp [-getElem?_pos, q1, q2, q4]
      exact fin_view rfl (by simp) (by simp)
    · have hp' : propsOf ⟨l, es, nn, ne⟩ (.mk 5 n s vl) = none := by unfold propsOf; simp only [Vl.k, Vl.n, if_true]; exact congrArg (Option.map Nd.props) q3
      rw [hp'] at hp; exact absurd hp (by simp)
  · by_cases k6 : k = 6
    · subst k6
      rcases find_pos (f := Eg.id) (id := n) (l := es) with ⟨i, ⟨a, b, c, d, e⟩, q1, q2, q3⟩ | ⟨q1, q3⟩
      · have hp' : propsOf ⟨l, es, nn, ne⟩ (.mk 6 n s vl) = some e := by unfold propsOf; simp only [Vl.k, Vl.n, if_true, show ¬ (6 : Int) = 5 by omega, if_false]; exact congrArg (Option.map Eg.props) q3
        rw [hp'] at hp
        obtain rfl := Option.some.inj hp
        have q4 := (List.getElem?_eq_some_iff.1 q2).1
        simp [-getElem?_pos, q1, q2, q4]
        exact fin_view rfl (by simp) (by simp)
      · have hp' : propsOf ⟨l, es, nn, ne⟩ (.mk 6 n s vl) = none := by unfold propsOf; simp only [Vl.k, Vl.n, if_true, show ¬ (6 : Int) = 5 by omega, if_false]; exact congrArg (Option.map Eg.props) q3
        rw [hp'] at hp; exact absurd hp (by simp)
    · have hp' : propsOf ⟨l, es, nn, ne⟩ (.mk k n s vl) = none := by simp only [propsOf, Vl.k, Vl.n, k5, k6, if_false]
      rw [hp'] at hp; exact absurd hp (by simp)
end Go.Proofs.Ytehdfbhfbidadaa.V
/- Props set, by the reference. -/
namespace Go.Proofs.Ytehdfbhfbidadaa.V
open Go
set_option linter.unusedVariables false
set_option linter.unusedSimpArgs false
set_option maxHeartbeats 4000000
/-- Props of a graph, or none. -/
def psOf (g : Gr) (v : Vl) : List Pr := (propsOf g v).getD []
theorem psOf_facts {g : Gr} (hf : g.fit) (hc : g.cnt ≤ 2 ^ 20) (v : Vl) : (psOf g v).length ≤ 2 ^ 20 ∧ (∀ p ∈ psOf g v, p.fit) ∧ cl Pr.cnt (psOf g v) ≤ 2 ^ 20 := by
  unfold psOf
  cases h : propsOf g v with
  | none => simp [cl, sums]
  | some ps =>
    have h1 := cnt_props h
    have h2 := props_fit hf h
    refine ⟨?_, h2, by simp only [Option.getD_some]; omega⟩
    simp only [Option.getD_some]
    unfold cl at h1; omega
set_option maxRecDepth 20000 in
theorem l2Set_no (g : Gr) (hf : g.fit) (hc : g.cnt ≤ 2 ^ 20) (v : Vl) (nm : Tx) (hnm : ln nm) (to : Vl) (hto : to.fit) (htc : to.cnt ≤ 2 ^ 20)
    (hno : propsOf g v = none ∨ nameOk nm = false ∨ ¬ PropsOk (propNext nm to (psOf g v))) : Ret Try.prog 107 [.agg (sG.O g), .agg (sV.I v), .s nm, .agg (sV.I to)] (.tup [.agg (sG.I g), .b false]) [.dead, .dead, .dead, .dead] := by
  have ok1 : okCall Try.prog 144 = true := by kernel_rfl
  obtain ⟨p1, p2, p3⟩ := psOf_facts hf hc v
  have hO := l2Of_c g ⟨hf.1, hf.2.2.1⟩ v
  have hP := l2Put_c (psOf g v) p1 nm to htc
  have hNl := propNext_len nm to (psOf g v)
  have hNf : ∀ p ∈ propNext nm to (psOf g v), p.fit := propNext_mem p2 (fun _ => ⟨hnm, hto⟩)
  have hQ := l2Props_c (propNext nm to (psOf g v)) (by simp only [ln]; omega) hNf
  have h4 := l2Name_c nm hnm
  have hps : (propsOf g v = none ∧ psOf g v = []) ∨ propsOf g v = some (psOf g v) := by
    unfold psOf; cases propsOf g v <;> simp
  generalize propNext nm to (psOf g v) = L at *
  generalize psOf g v = ps at *
  have hcO : cleanR [sG.O g] = true := sG.crO [g]
  have htO : toIr [sG.O g] = [sG.I g] := sG.rO [g]
  refine Ret.ofS Try.func107 ok_spec_l2Set rfl rfl (by simp) ?_
  obtain ⟨l, es, nn, ne⟩ := g
  obtain ⟨k, n, s, vl⟩ := v
  obtain ⟨k', n', s', vl'⟩ := to
  refine WW_seq (WW_of_W ?_)
  simp
  refine WW_wk (Wk.join (b := 2) (r := 0) (cs := sG.O ⟨l, es, nn, ne⟩) rfl rfl (by simp) (by simp)) ?_
  refine WW_wk (Wk.shareIn (b := 2) (sz := 4) (rows := [sG.O ⟨l, es, nn, ne⟩]) (rows2 := [sG.I ⟨l, es, nn, ne⟩]) (by simp) hcO htO rfl (by simp)) ?_
  refine WW_wk (s' := ⟨[(2, .s nm), (4, .ptr 2 0 0), (5, .ptr 3 0 0), (7, .ptr 4 0 0), (8, .ptr 5 0 0)], [(2, .arr 4 [sG.I ⟨l, es, nn, ne⟩]), (3, .arr 4 [sV.I (.mk k n s vl)]), (4, .arr 4 [sV.I (.mk k' n' s' vl')]), (5, .arr 4 [[.nl, .nl, .i .i64 0, .i .i64 0]])], 20, 2⟩) (Wk.to rfl (by simp) (by simp) (by simp [Blk.names]) (by simp)) ?_
  obtain ⟨th, hth⟩ : ∃ th, th = (propsOf ⟨l, es, nn, ne⟩ (.mk k n s vl)).isSome := ⟨_, rfl⟩
  refine WW_seq (thn_cut (s2 := ⟨[(10, .imm (ps.map sP.I)), (11, .b th), (2, .s nm), (4, .ptr 2 0 0), (5, .ptr 3 0 0), (7, .ptr 4 0 0), (8, .ptr 5 0 0)], [(2, .arr 4 [sG.I ⟨l, es, nn, ne⟩]), (3, .arr 4 [sV.I (.mk k n s vl)]), (4, .arr 4 [sV.I (.mk k' n' s' vl')]), (5, .arr 4 [[.nl, .nl, .i .i64 0, .i .i64 0]])], 40, 2⟩) ?_ ?_)
  · simp
    rcases hps with ⟨hp, rfl⟩ | hp
    · rw [hp] at hO hth
      simp only [Option.isSome] at hO hth
      subst hth
      refine hookH_callX [] [] hO (by simp [handedX, handedXA, handedXs, handedX1, T.closed]) (bk := []) (by simp [backX, backXA, backXs, backX1, T.closed]) rfl ok1 (by simp) (by simp [named]) (by simp [named]) ?_
      simp [dX]
      refine Wk.trans (Wk.share (j := 10) (t := .ref 20 0 0) (x := .imm []) (by simp) (by simp)) ?_
      exact Wk.to rfl (by simp) (by simp) (by simp [Blk.names]) (by simp)
    · rw [hp] at hO hth
      simp only [Option.isSome] at hO hth
      subst hth
      refine hookH_callX [] [] hO (by simp [handedX, handedXA, handedXs, handedX1, T.closed]) (bk := []) (by simp [backX, backXA, backXs, backX1, T.closed]) rfl ok1 (by simp) (by simp [named]) (by simp [named]) ?_
      simp [dX]
      exact Wk.to rfl (by simp) (by simp) (by simp [Blk.names]) (by simp)
  refine WW_seq (WW_of_W ?_)
  simp
  refine callK_ri (by simp) hP ?_
  simp
  have hbad : th = true → nameOk nm = true → ¬ PropsOk L := by
    intro h1 h2
    rcases hno with h | h | h
    · rw [h] at hth; rw [hth] at h1; exact absurd h1 (by simp)
    · rw [h] at h2; exact absurd h2 (by simp)
    · exact h
  refine WW_seq (WW_of_W ?_)
  cases th with
  | false =>
    simp
    exact fin_eat (ts := []) (by simp; rfl) (by simp [rf, rfs]) (by simp)
  | true =>
    cases c2 : nameOk nm with
    | false =>
      rw [c2] at h4
      simp
      refine callK_val (by simp) h4 rfl ?_
      simp
      exact fin_eat (ts := []) (by simp; rfl) (by simp [rf, rfs]) (by simp)
    | true =>
      rw [c2] at h4
      have c3 : ¬ PropsOk L := hbad rfl c2
      simp
      refine callK_val (by simp) h4 rfl ?_
      simp
      refine callK_val (by simp) hQ rfl ?_
      simp [c3]
      exact fin_eat (ts := []) (by simp; rfl) (by simp [rf, rfs]) (by simp)
/-- A graph of one's own with shared parts. -/
def gOI (g : Gr) : T := .agg [.own 3 (g.nodes.map sN.I), .own 5 (g.edges.map sE.I), .i .i64 g.nn, .i .i64 g.ne]
theorem gOI_toI (g : Gr) : (gOI g).toI = .agg (sG.I g) := by
  obtain ⟨l, es, nn, ne⟩ := g
  simp [gOI, toIs, sN.toII, sE.toII]
/-- Where the props of a value are. -/
theorem props_at {g : Gr} {v : Vl} {ps : List Pr} (h : propsOf g v = some ps) : (v.k = 5 ∧ ∃ (i : Nat) (id : Int) (lb : List Tx), posOf Nd.id v.n g.nodes = i ∧ g.nodes[i]? = some ⟨id, lb, ps⟩ ∧ ∀ L, gSetP g v L = { g with nodes := g.nodes.set i ⟨id, lb, L⟩ }) ∨
    (v.k ≠ 5 ∧ v.k = 6 ∧ ∃ (i : Nat) (id : Int) (kd : Tx) (fr to : Int), posOf Eg.id v.n g.edges = i ∧ g.edges[i]? = some ⟨id, kd, fr, to, ps⟩ ∧ ∀ L, gSetP g v L = { g with edges := g.edges.set i ⟨id, kd, fr, to, L⟩ }) := by
  unfold propsOf at h
  split at h
  · rename_i hk
    left
    rcases find_pos (f := Nd.id) (id := v.n) (l := g.nodes) with ⟨i, ⟨a, b, c⟩, q1, q2, q3⟩ | ⟨q1, q3⟩
    · rw [show (fun x : Nd => decide (x.id = v.n)) = (fun x => decide (Nd.id x = v.n)) from rfl, q3] at h
      simp at h
      subst h
      refine ⟨hk, i, a, b, q1, q2, fun L => ?_⟩
      unfold gSetP
      rw [if_pos hk, q1]
      simp only [Int.toNat_natCast, q2]
    · rw [show (fun x : Nd => decide (x.id = v.n)) = (fun x => decide (Nd.id x = v.n)) from rfl, q3] at h
      exact absurd h (by simp)
  · rename_i hk
    split at h
    · rename_i hk6
      right
      rcases find_pos (f := Eg.id) (id := v.n) (l := g.edges) with ⟨i, ⟨a, b, c, d, e⟩, q1, q2, q3⟩ | ⟨q1, q3⟩
      · rw [show (fun x : Eg => decide (x.id = v.n)) = (fun x => decide (Eg.id x = v.n)) from rfl, q3] at h
        simp at h
        subst h
        refine ⟨hk, hk6, i, a, b, c, d, q1, q2, fun L => ?_⟩
        unfold gSetP
        rw [if_neg hk, q1]
        simp only [Int.toNat_natCast, q2]
      · rw [show (fun x : Eg => decide (x.id = v.n)) = (fun x => decide (Eg.id x = v.n)) from rfl, q3] at h
        exact absurd h (by simp)
    · exact absurd h (by simp)
set_option maxRecDepth 20000 in
theorem l2Set_yes (g : Gr) (hf : g.fit) (hc : g.cnt ≤ 2 ^ 20) (v : Vl) (nm : Tx) (hnm : ln nm) (to : Vl) (hto : to.fit) (htc : to.cnt ≤ 2 ^ 20) (ps : List Pr) (hp : propsOf g v = some ps)
    (hn : nameOk nm = true) (hL : PropsOk (propNext nm to ps)) : Ret Try.prog 107 [.agg (sG.O g), .agg (sV.I v), .s nm, .agg (sV.I to)] (.tup [gOI (gSetP g v (propNext nm to ps)), .b true]) [.dead, .dead, .dead, .dead] := by
  have ok1 : okCall Try.prog 144 = true := by kernel_rfl
  obtain ⟨p1, p2, p3⟩ := psOf_facts hf hc v
  have hpe : psOf g v = ps := by unfold psOf; rw [hp]; rfl
  rw [hpe] at p1 p2 p3
  have hO := l2Of_v g ⟨hf.1, hf.2.2.1⟩ v ps hp
  have hP := l2Put_c ps p1 nm to htc
  have hNl := propNext_len nm to ps
  have hNf : ∀ p ∈ propNext nm to ps, p.fit := propNext_mem p2 (fun _ => ⟨hnm, hto⟩)
  have hQ := l2Props_c (propNext nm to ps) (by simp only [ln]; omega) hNf
  have h4 := l2Name_c nm hnm
  rw [hn] at h4
  have hNode := l2Node_c g hf.1 v.n
  have hEdge := l2Edge_c g hf.2.2.1 v.n
  have hat := props_at hp
  generalize propNext nm to ps = L at *
  have tN := sN.toII g.nodes
  have tE := sE.toII g.edges
  have cN := sN.cRI g.nodes
  have cE := sE.cRI g.edges
  have sN' : ∀ r ∈ g.nodes.map sN.I, r.length = 3 := by intro r hr; obtain ⟨a, _, rfl⟩ := List.mem_map.1 hr; exact sN.lI a
  have sE' : ∀ r ∈ g.edges.map sE.I, r.length = 5 := by intro r hr; obtain ⟨a, _, rfl⟩ := List.mem_map.1 hr; exact sE.lI a
  refine Ret.ofS Try.func107 ok_spec_l2Set rfl rfl (by simp) ?_
  obtain ⟨l, es, nn, ne⟩ := g
  obtain ⟨k, n, s, vl⟩ := v
  obtain ⟨k', n', s', vl'⟩ := to
  simp only [sV_I] at tN tE cN cE sN' sE' hO hat
  refine WW_seq (WW_of_W ?_)
  simp
  refine WW_wk (Wk.shareIn (b := 0) (sz := 3) (rows := l.map sN.O) (rows2 := l.map sN.I) rfl (sN.crO l) (sN.rO l) (by simp) sN') ?_
  refine WW_wk (Wk.shareIn (b := 1) (sz := 5) (rows := es.map sE.O) (rows2 := es.map sE.I) (by simp) (sE.crO es) (sE.rO es) (by simp) sE') ?_
  refine WW_wk (s' := ⟨[(2, .s nm), (4, .ptr 2 0 0), (5, .ptr 3 0 0), (7, .ptr 4 0 0), (8, .ptr 5 0 0)], [(0, .arr 3 (l.map sN.I)), (1, .arr 5 (es.map sE.I)), (2, .arr 4 [[.ref 0 0 l.length, .ref 1 0 es.length, .i .i64 nn, .i .i64 ne]]), (3, .arr 4 [sV.I (.mk k n s vl)]), (4, .arr 4 [sV.I (.mk k' n' s' vl')]), (5, .arr 4 [[.nl, .nl, .i .i64 0, .i .i64 0]])], 20, 2⟩) (Wk.to rfl (by simp) (by simp) (by simp [Blk.names, namesr_clean cN, namesr_clean cE]) (by simp)) ?_
  refine WW_seq (WW_of_W ?_)
  simp
  refine hookH_view hO rfl ok1 (by simp) ?_
  simp
  refine WW_seq (WW_of_W ?_)
  simp
  refine callK_ri (by simp) hP ?_
  simp
  refine WW_seq (WW_of_W ?_)
  simp
  refine callK_val (by simp) h4 rfl ?_
  simp
  refine callK_val (by simp) hQ rfl ?_
  simp [hL]
  refine WW_wk (s' := ⟨[(12, .imm (L.map sP.I)), (2, .s nm), (4, .ptr 2 0 0), (5, .ptr 3 0 0), (7, .ptr 4 0 0), (8, .ptr 5 0 0)], [(0, .arr 3 (l.map sN.I)), (1, .arr 5 (es.map sE.I)), (2, .arr 4 [[.ref 0 0 l.length, .ref 1 0 es.length, .i .i64 nn, .i .i64 ne]]), (3, .arr 4 [sV.I (.mk k n s vl)]), (5, .arr 4 [[.nl, .nl, .i .i64 0, .i .i64 0]])], 40, 2⟩) (Wk.to rfl (by simp) (by simp) (by simp [Blk.names, namesr_clean cN, namesr_clean cE]) (by simp)) ?_
  refine WW_of_W ?_
  rcases hat with ⟨hk, i, id, lb, q1, q2, q3⟩ | ⟨hk5, hk, i, id, kd, fr, tt, q1, q2, q3⟩
  · simp only [Vl.k, Vl.n] at hk q1 hNode
    subst hk
    rw [q3]
    rw [q1] at hNode
    have q4 := (List.getElem?_eq_some_iff.1 q2).1
    simp [-getElem?_pos]
    refine callK_val (by simp [cN, cE, tN, tE]) hNode rfl ?_
    simp [-getElem?_pos, q2, q4]
    repeat with_reducible refine need_mk (by decide +kernel) ?_
    have hcS := sN.cRI (l.set i ⟨id, lb, L⟩)
    rw [List.map_set] at hcS
    simp only [sN_I] at hcS
    exact fin_eaten (by simp; rfl) (by simp [gOI, hcS, List.take_of_length_le]) (by simp [gOI])
  · simp only [Vl.k, Vl.n] at hk q1 hEdge
    subst hk
    rw [q3]
    rw [q1] at hEdge
    have q4 := (List.getElem?_eq_some_iff.1 q2).1
    simp [-getElem?_pos]
    refine callK_val (by simp [cN, cE, tN, tE]) hEdge rfl ?_
    simp [-getElem?_pos, q2, q4]
    repeat with_reducible refine need_mk (by decide +kernel) ?_
    have hcS := sE.cRI (es.set i ⟨id, kd, fr, tt, L⟩)
    rw [List.map_set] at hcS
    simp only [sE_I] at hcS
    exact fin_eaten (by simp; rfl) (by simp [gOI, hcS, List.take_of_length_le]) (by simp [gOI])
end Go.Proofs.Ytehdfbhfbidadaa.V
/- Props set, by the reference: all of it. -/
namespace Go.Proofs.Ytehdfbhfbidadaa.V
open Go
set_option linter.unusedVariables false
set_option linter.unusedSimpArgs false
set_option maxHeartbeats 4000000
theorem sto_ok {v : Vl} (h : sto v = true) : vOk v = true := by
  simp only [sto, Bool.and_eq_true] at h; exact h.1
theorem new_mem {nm : Tx} {to : Vl} {ps : List Pr} (hk : to.k ≠ 0) : ⟨nm, to⟩ ∈ propNext nm to ps := by
  unfold propNext prNew
  rw [if_neg hk]; simp
theorem new_sto {nm : Tx} {to : Vl} {ps : List Pr} (h : PropsOk (propNext nm to ps)) (hk : to.k ≠ 0) : sto to = true := by
  obtain ⟨j, hj⟩ := List.mem_iff_getElem?.1 (new_mem (nm := nm) (ps := ps) hk)
  have := (h.1 j _ hj).1
  simp only [prOk, Bool.and_eq_true] at this
  exact this.2
theorem propSet_no {g : Gr} {v : Vl} {nm : Tx} {to : Vl} (hg : GOk g) (hno : ¬ vOk v = true ∨ ¬ vOk to = true ∨ propsOf g v = none ∨ nameOk nm = false ∨ ¬ PropsOk (propNext nm to (psOf g v))) : propSet g v nm to = (g, false) := by
  unfold propSet
  rw [if_pos hg]
  by_cases c : setOk v nm to
  · rw [if_pos c]
    obtain ⟨c1, c2, c3⟩ := c
    cases hp : propsOf g v with
    | none => rfl
    | some ps =>
      have hpe : psOf g v = ps := by unfold psOf; rw [hp]; rfl
      rw [hpe, hp] at hno
      simp only
      rw [if_neg]
      intro h
      rcases hno with h1 | h1 | h1 | h1 | h1
      · exact h1 c1
      · rcases c3 with c3 | c3
        · exact h1 (sto_ok c3)
        · exact h1 (emptyV_iff.1 c3).2
      · exact absurd h1 (by simp)
      · rw [c2] at h1; exact absurd h1 (by simp)
      · exact h1 h
  · rw [if_neg c]
theorem propSet_yes {g : Gr} {v : Vl} {nm : Tx} {to : Vl} (hg : GOk g) (hv : vOk v = true) (hto : vOk to = true) {ps : List Pr} (hp : propsOf g v = some ps) (hn : nameOk nm = true) (hL : PropsOk (propNext nm to ps)) : propSet g v nm to = (gSetP g v (propNext nm to ps), true) := by
  have hs : setOk v nm to := by
    refine ⟨hv, hn, ?_⟩
    by_cases hk : to.k = 0
    · exact .inr (emptyV_iff.2 ⟨hk, hto⟩)
    · exact .inl (new_sto hL hk)
  unfold propSet
  rw [if_pos hg, if_pos hs, hp]
  simp only
  rw [if_pos hL]
set_option maxRecDepth 20000 in
theorem specPropSet_c (g : Gr) (hf : g.fit) (hc : g.cnt ≤ 2 ^ 20) (v : Vl) (hv : v.fit) (nm : Tx) (hnm : ln nm) (to : Vl) (hto : to.fit) (htc : to.cnt ≤ 2 ^ 20) : Ri Try.prog 46 [.agg (sG.I g), .agg (sV.I v), .s nm, .agg (sV.I to)] (.tup [.agg (sG.I (propSet g v nm to).1), .b (propSet g v nm to).2]) := by
  have ok1 : okCall Try.prog 107 = true := by kernel_rfl
  have h1 := specGraphOk_c g hf
  have h2 := l2Copy_c g hc
  have h3 := specValueOk_c v hv
  have h4 := specValueOk_c to hto
  by_cases g1 : GOk g
  · by_cases c1 : vOk v = true
    · by_cases c2 : vOk to = true
      · rw [c1] at h3
        rw [c2] at h4
        by_cases c3 : propsOf g v = none ∨ nameOk nm = false ∨ ¬ PropsOk (propNext nm to (psOf g v))
        · have e := propSet_no (v := v) (nm := nm) (to := to) g1 (.inr (.inr c3))
          have hS := l2Set_no g hf hc v nm hnm to hto htc c3
          rw [e]
          obtain ⟨l, es, nn, ne⟩ := g
          obtain ⟨k, n, s, vl⟩ := v
          obtain ⟨k', n', s', vl'⟩ := to
          refine ⟨.tup [.agg (sG.I ⟨l, es, nn, ne⟩), .b false], ?_, by simp⟩
          refine via_spec_PropSet (by simp) ?_
          simp [pc_spec_PropSet]
          refine callK_val (by simp) h1 rfl ?_
          simp [g1]
          refine callK_val (by simp) h3 rfl ?_
          simp
          refine callK_val (by simp) h4 rfl ?_
          simp
          repeat with_reducible refine need_mk (by decide +kernel) ?_
          refine callK_val (by simp) h2 (by simp [T.noImm]) ?_
          simp
          repeat with_reducible refine need_mk (by decide +kernel) ?_
          refine hookH_callX [0] [(12, .arr 3 (l.map sN.O)), (13, .arr 5 (es.map sE.O))] hS (by simp [handedX, handedXA, handedXs, handedX1, T.closed]) (bk := []) (by simp [backX, backXA, backXs, backX1, T.closed]) rfl ok1 (by simp) (by simp [named]) (by simp [named]) ?_
          simp [dX]
          repeat with_reducible refine need_mk (by decide +kernel) ?_
          exact fin_ret0 (by simp; rfl) (by simp [rf, rfs]) (by simp) (by simp)
        · obtain ⟨ps, hp⟩ : ∃ ps, propsOf g v = some ps := by
            cases h : propsOf g v with
            | none => exact absurd (.inl h) c3
            | some ps => exact ⟨ps, rfl⟩
          have hpe : psOf g v = ps := by unfold psOf; rw [hp]; rfl
          rw [hpe] at c3
          have hn : nameOk nm = true := by cases h : nameOk nm with | true => rfl | false => exact absurd (.inr (.inl h)) c3
          have hL : PropsOk (propNext nm to ps) := by
            by_cases h : PropsOk (propNext nm to ps)
            · exact h
            · exact absurd (.inr (.inr h)) c3
          have e := propSet_yes g1 c1 c2 hp hn hL
          have hS := l2Set_yes g hf hc v nm hnm to hto htc ps hp hn hL
          rw [e]
          refine ⟨.tup [gOI (gSetP g v (propNext nm to ps)), .b true], ?_, by simp [gOI_toI]⟩
          clear e
          generalize gSetP g v (propNext nm to ps) = x at *
          have cN := sN.cRI x.nodes
          have cE := sE.cRI x.edges
          unfold gOI at hS ⊢
          obtain ⟨l', es', nn', ne'⟩ := x
          simp only at cN cE
          obtain ⟨l, es, nn, ne⟩ := g
          obtain ⟨k, n, s, vl⟩ := v
          obtain ⟨k', n', s', vl'⟩ := to
          refine via_spec_PropSet (by simp) ?_
          simp [pc_spec_PropSet]
          refine callK_val (by simp) h1 rfl ?_
          simp [g1]
          refine callK_val (by simp) h3 rfl ?_
          simp
          refine callK_val (by simp) h4 rfl ?_
          simp
          repeat with_reducible refine need_mk (by decide +kernel) ?_
          refine callK_val (by simp) h2 (by simp [T.noImm]) ?_
          simp
          repeat with_reducible refine need_mk (by decide +kernel) ?_
          refine hookH_callX [0] [(12, .arr 3 (l.map sN.O)), (13, .arr 5 (es.map sE.O))] hS (by simp [handedX, handedXA, handedXs, handedX1, T.closed]) (bk := []) (by simp [backX, backXA, backXs, backX1, T.closed]) rfl ok1 (by simp) (by simp [named]) (by simp [named]) ?_
          simp [dX, cN, cE]
          repeat with_reducible refine need_mk (by decide +kernel) ?_
          exact fin_own (by simp; rfl) (by simp [cN, cE]) (by simp) (by simp)
      · have e := propSet_no (v := v) (nm := nm) (to := to) g1 (.inr (.inl c2))
        have c2' : vOk to = false := by simpa using c2
        rw [c1] at h3
        rw [c2'] at h4
        rw [e]
        obtain ⟨l, es, nn, ne⟩ := g
        obtain ⟨k, n, s, vl⟩ := v
        obtain ⟨k', n', s', vl'⟩ := to
        refine ⟨.tup [.agg (sG.O ⟨l, es, nn, ne⟩), .b false], ?_, by simp [sG.toO]⟩
        refine via_spec_PropSet (by simp) ?_
        simp [pc_spec_PropSet]
        refine callK_val (by simp) h1 rfl ?_
        simp [g1]
        refine callK_val (by simp) h3 rfl ?_
        simp
        refine callK_val (by simp) h4 rfl ?_
        simp
        refine callK_val (by simp) h2 (by simp [T.noImm]) ?_
        simp
        exact fin_own (by simp; rfl) (by simp) (by simp) (by simp)
    · have e := propSet_no (v := v) (nm := nm) (to := to) g1 (.inl c1)
      have c1' : vOk v = false := by simpa using c1
      rw [c1'] at h3
      rw [e]
      obtain ⟨l, es, nn, ne⟩ := g
      obtain ⟨k, n, s, vl⟩ := v
      obtain ⟨k', n', s', vl'⟩ := to
      refine ⟨.tup [.agg (sG.O ⟨l, es, nn, ne⟩), .b false], ?_, by simp [sG.toO]⟩
      refine via_spec_PropSet (by simp) ?_
      simp [pc_spec_PropSet]
      refine callK_val (by simp) h1 rfl ?_
      simp [g1]
      refine callK_val (by simp) h3 rfl ?_
      simp
      refine callK_val (by simp) h2 (by simp [T.noImm]) ?_
      simp
      exact fin_own (by simp; rfl) (by simp) (by simp) (by simp)
  · have e : propSet g v nm to = (zG, false) := by unfold propSet; rw [if_neg g1]
    rw [e]
    obtain ⟨l, es, nn, ne⟩ := g
    obtain ⟨k, n, s, vl⟩ := v
    obtain ⟨k', n', s', vl'⟩ := to
    refine ⟨.tup [.agg (sG.O zG), .b false], ?_, by simp [sG.toO]⟩
    refine via_spec_PropSet (by simp) ?_
    simp [pc_spec_PropSet]
    refine callK_val (by simp) h1 rfl ?_
    simp [g1]
    exact fin_own (by simp; rfl) (by simp [zG]) (by simp) (by simp [zG])
end Go.Proofs.Ytehdfbhfbidadaa.V
/- Props set: when it is ok. -/
namespace Go.Proofs.Ytehdfbhfbidadaa.V
open Go
set_option linter.unusedVariables false
set_option linter.unusedSimpArgs false
theorem bytesLess_total : ∀ {a b : List UInt8}, Op.bytesLess a b = false → a ≠ b → Op.bytesLess b a = true
  | [], [], _, h => absurd rfl h
  | [], y :: b, h, _ => by simp [Op.bytesLess] at h
  | x :: a, [], _, _ => by simp [Op.bytesLess]
  | x :: a, y :: b, h, hne => by
    simp only [Op.bytesLess, Bool.or_eq_false_iff, decide_eq_false_iff_not, Bool.and_eq_false_iff, beq_eq_false_iff_ne] at h
    simp only [Op.bytesLess, Bool.or_eq_true, decide_eq_true_eq, Bool.and_eq_true, beq_iff_eq]
    obtain ⟨h1, h2⟩ := h
    by_cases e : x = y
    · subst e
      rcases h2 with h2 | h2
      · exact absurd rfl h2
      · exact .inr ⟨rfl, bytesLess_total h2 (fun e => hne (by rw [e]))⟩
    · left
      rcases UInt8.lt_or_lt_of_ne e with h | h
      · exact absurd h h1
      · exact h
theorem Each_iff {α : Type} {ok : α → Bool} {nm : α → Tx} {l : List α} : Each ok nm l ↔ (∀ x ∈ l, ok x = true) ∧ l.Pairwise (fun x y => Op.bytesLess (nm x) (nm y) = true) := by
  constructor
  · intro h
    refine ⟨fun x hx => ?_, ?_⟩
    · obtain ⟨i, hi⟩ := List.mem_iff_getElem?.1 hx
      exact (h i x hi).1
    · rw [List.pairwise_iff_getElem]
      intro i j hi hj hij
      have key : ∀ (d i : Nat) (x y : α), l[i]? = some x → l[i + d + 1]? = some y → Op.bytesLess (nm x) (nm y) = true := by
        intro d
        induction d with
        | zero => intro i x y hx hy; exact (h (i + 1) y hy).2 x (by omega) (by simpa using hx)
        | succ d ih =>
          intro i x y hx hy
          have hlt : i + (d + 1) + 1 < l.length := (List.getElem?_eq_some_iff.1 hy).1
          obtain ⟨z, hz⟩ : ∃ z, l[i + d + 1]? = some z := ⟨_, List.getElem?_eq_getElem (by omega)⟩
          exact bytesLess_trans (ih i x z hx hz) ((h _ y hy).2 z (by omega) (by rw [show i + (d + 1) + 1 - 1 = i + d + 1 by omega]; exact hz))
      exact key (j - i - 1) i _ _ (List.getElem?_eq_getElem hi) (by rw [show i + (j - i - 1) + 1 = j by omega]; exact List.getElem?_eq_getElem hj)
  · rintro ⟨h1, h2⟩ i x hx
    refine ⟨h1 x (List.mem_of_getElem? hx), fun y h0 hy => ?_⟩
    rw [List.pairwise_iff_getElem] at h2
    obtain ⟨a1, rfl⟩ := List.getElem?_eq_some_iff.1 hx
    obtain ⟨a2, rfl⟩ := List.getElem?_eq_some_iff.1 hy
    exact h2 (i - 1) i a2 a1 (by omega)
/-- The only thing that can go wrong behind the first looks: too many. -/
theorem propNext_ok {ps : List Pr} (h : PropsOk ps) {v to : Vl} {nm : Tx} (hs : setOk v nm to) (hl : (propNext nm to ps).length ≤ 4) : PropsOk (propNext nm to ps) := by
  refine ⟨?_, hl⟩
  have hE := h.1
  obtain ⟨h1, h2⟩ := Each_iff.1 hE
  rw [Each_iff]
  constructor
  · refine propNext_mem h1 (fun hk => ?_)
    simp only [prOk, Bool.and_eq_true]
    refine ⟨hs.2.1, ?_⟩
    rcases hs.2.2 with c | c
    · exact c
    · exact absurd (emptyV_iff.1 c).1 hk
  · have hA : ∀ p ∈ ps.take (nmK nm ps), Op.bytesLess p.name nm = true := by
      intro p hp
      obtain ⟨j, hj⟩ := List.mem_iff_getElem?.1 hp
      have hji : j < nmK nm ps := by have := (List.getElem?_eq_some_iff.1 hj).1; simp at this; omega
      rw [List.getElem?_take, if_pos hji] at hj
      exact nmK_lt hji hj
    have hB : ∀ p ∈ prOut nm (ps.drop (nmK nm ps)), Op.bytesLess nm p.name = true := by
      intro p hp
      obtain ⟨hp1, hp2⟩ := List.mem_filter.1 hp
      obtain ⟨d, hd⟩ := List.mem_iff_getElem?.1 hp1
      rw [List.getElem?_drop] at hd
      exact bytesLess_total (hE.behind d hd) (by simpa using hp2)
    have hP1 : (ps.take (nmK nm ps)).Pairwise (fun x y => Op.bytesLess x.name y.name = true) := h2.sublist (List.take_sublist _ _)
    have hP2 : (prOut nm (ps.drop (nmK nm ps))).Pairwise (fun x y => Op.bytesLess x.name y.name = true) := (h2.sublist (List.drop_sublist _ _)).filter _
    unfold propNext prNew
    rw [List.pairwise_append]
    refine ⟨hP1, ?_, ?_⟩
    · split
      · exact hP2
      · rw [List.singleton_append, List.pairwise_cons]
        exact ⟨fun p hp => hB p hp, hP2⟩
    · intro a ha b hb
      rcases List.mem_append.1 hb with hb | hb
      · split at hb
        · simp at hb
        · simp only [List.mem_singleton] at hb
          subst hb
          exact hA a ha
      · exact bytesLess_trans (hA a ha) (hB b hb)
theorem prOut_full {nm : Tx} : ∀ {ps : List Pr}, (prOut nm ps).length = ps.length → ∀ p ∈ ps, p.name ≠ nm
  | [], _, p, hp => by simp at hp
  | q :: ps, h, p, hp => by
    have hl := prOut_len nm ps
    by_cases e : q.name = nm
    · simp only [prOut] at h hl
      rw [List.filter_cons_of_neg (by simp [e])] at h
      simp at h; omega
    · simp only [prOut] at h
      rw [List.filter_cons_of_pos (by simp [e])] at h
      rcases List.mem_cons.1 hp with rfl | hp
      · exact e
      · exact prOut_full (ps := ps) (by simpa [prOut] using h) p hp
theorem propNext_bad {ps : List Pr} (h : PropsOk ps) {v to : Vl} {nm : Tx} (hs : setOk v nm to) (hno : ¬ PropsOk (propNext nm to ps)) : to.k ≠ 0 ∧ ps.length = 4 ∧ ∀ p ∈ ps, p.name ≠ nm := by
  have hl : ¬ (propNext nm to ps).length ≤ 4 := fun h2 => hno (propNext_ok h hs h2)
  have h4 := h.2
  have ho := prOut_len nm ps
  have hk : to.k ≠ 0 := by
    intro hk
    rw [propNext_out nm to hk] at hl; omega
  have e := propNext_ins h.1 nm to hk
  have e2 : (propNext nm to ps).length = (prOut nm ps).length + 1 := by
    have hK := nmK_le nm (prOut nm ps)
    rw [e]; simp; omega
  exact ⟨hk, by omega, prOut_full (by omega)⟩
end Go.Proofs.Ytehdfbhfbidadaa.V
/- A label of a node is set, by the reference. -/
namespace Go.Proofs.Ytehdfbhfbidadaa.V
open Go
set_option linter.unusedVariables false
set_option linter.unusedSimpArgs false
set_option maxHeartbeats 4000000
end Go.Proofs.Ytehdfbhfbidadaa.V
/- Graphs that are ok stay ok: plain facts. -/
namespace Go.Proofs.Ytehdfbhfbidadaa.V
open Go
set_option linter.unusedVariables false
set_option linter.unusedSimpArgs false
theorem Asc_iff {α : Type} {f : α → Int} {e : Int} {l : List α} : Asc f e l ↔ (∀ x ∈ l, 0 ≤ f x ∧ f x < e) ∧ l.Pairwise (fun x y => f x < f y) := by
  constructor
  · intro h
    refine ⟨fun x hx => ?_, ?_⟩
    · obtain ⟨i, hi⟩ := List.mem_iff_getElem?.1 hx
      exact ⟨(h i x hi).1, (h i x hi).2.1⟩
    · rw [List.pairwise_iff_getElem]
      intro i j hi hj hij
      exact h.lt (j - i - 1) i _ _ (List.getElem?_eq_getElem hi) (by rw [show i + (j - i - 1) + 1 = j by omega]; exact List.getElem?_eq_getElem hj)
  · rintro ⟨h1, h2⟩ i x hx
    refine ⟨(h1 x (List.mem_of_getElem? hx)).1, (h1 x (List.mem_of_getElem? hx)).2, fun y h0 hy => ?_⟩
    rw [List.pairwise_iff_getElem] at h2
    obtain ⟨a1, rfl⟩ := List.getElem?_eq_some_iff.1 hx
    obtain ⟨a2, rfl⟩ := List.getElem?_eq_some_iff.1 hy
    exact h2 (i - 1) i a2 a1 (by omega)
theorem Asc.filter {α : Type} {f : α → Int} {e : Int} {l : List α} (h : Asc f e l) (q : α → Bool) : Asc f e (l.filter q) := by
  rw [Asc_iff] at h ⊢
  exact ⟨fun x hx => h.1 x (List.mem_filter.1 hx).1, h.2.filter q⟩
theorem Asc.snoc {α : Type} {f : α → Int} {e : Int} {l : List α} (h : Asc f e l) {x : α} (h0 : 0 ≤ e) (hx : f x = e) : Asc f (e + 1) (l ++ [x]) := by
  rw [Asc_iff] at h ⊢
  refine ⟨fun y hy => ?_, ?_⟩
  · rcases List.mem_append.1 hy with hy | hy
    · have := h.1 y hy; omega
    · simp only [List.mem_singleton] at hy; subst hy; omega
  · rw [List.pairwise_append]
    refine ⟨h.2, by simp, fun a ha b hb => ?_⟩
    simp only [List.mem_singleton] at hb
    subst hb
    have := h.1 a ha; omega
theorem posOf_pos {α : Type} {f : α → Int} {id : Int} {l : List α} : 0 ≤ posOf f id l ↔ ∃ x ∈ l, f x = id := by
  rcases posOf_cases f id l with ⟨i, x, h1, h2, h3, _⟩ | ⟨h1, h2⟩
  · exact ⟨fun _ => ⟨x, List.mem_of_getElem? h2, h3⟩, fun _ => by omega⟩
  · exact ⟨fun h => by omega, fun ⟨x, hx, he⟩ => absurd he (h2 x hx)⟩
theorem GOk.addN {g : Gr} (h : GOk g) {lb : List Tx} {ps : List Pr} (hc : addNOk g lb ps) : GOk (gAddN g lb ps) := by
  obtain ⟨c1, c2, c3, c4⟩ := hc
  have h1 := h.nn
  refine ⟨by simp only [gAddN]; omega, h.ne, by simp only [gAddN, List.length_append, List.length_singleton]; omega, h.el, h.na.snoc h1.1 rfl, h.ea, ?_, ?_⟩
  · intro x hx
    rcases List.mem_append.1 hx with hx | hx
    · exact h.nok x hx
    · simp only [List.mem_singleton] at hx; subst hx; exact ⟨c1, c2⟩
  · intro e he
    obtain ⟨e1, e2, e3, e4⟩ := h.eok e he
    refine ⟨e1, e2, ?_, ?_⟩
    · obtain ⟨x, hx, q⟩ := posOf_pos.1 e3
      exact posOf_pos.2 ⟨x, List.mem_append.2 (.inl hx), q⟩
    · obtain ⟨x, hx, q⟩ := posOf_pos.1 e4
      exact posOf_pos.2 ⟨x, List.mem_append.2 (.inl hx), q⟩
theorem GOk.dropN {g : Gr} (h : GOk g) (id : Int) : GOk (gDropN g id) := by
  have hE := drop_edges h id
  refine ⟨h.nn, h.ne, Nat.le_trans (List.length_filter_le _ _) h.nl, Nat.le_trans (List.length_filter_le _ _) h.el, h.na.filter _, h.ea.filter _, fun x hx => h.nok x (List.mem_filter.1 hx).1, ?_⟩
  intro e he
  simp only [gDropN] at he
  rw [hE] at he
  obtain ⟨he1, he2⟩ := List.mem_filter.1 he
  obtain ⟨e1, e2, e3, e4⟩ := h.eok e he1
  simp only [atN, Bool.not_or, Bool.and_eq_true, Bool.not_eq_true', decide_eq_false_iff_not] at he2
  refine ⟨e1, e2, ?_, ?_⟩
  · obtain ⟨x, hx, q⟩ := posOf_pos.1 e3
    exact posOf_pos.2 ⟨x, List.mem_filter.2 ⟨hx, by simp; intro hh; exact he2.1 (q.symm.trans hh)⟩, q⟩
  · obtain ⟨x, hx, q⟩ := posOf_pos.1 e4
    exact posOf_pos.2 ⟨x, List.mem_filter.2 ⟨hx, by simp; intro hh; exact he2.2 (q.symm.trans hh)⟩, q⟩
end Go.Proofs.Ytehdfbhfbidadaa.V
/- Sizes of graphs that steps made. -/
namespace Go.Proofs.Ytehdfbhfbidadaa.V
open Go
set_option linter.unusedVariables false
set_option linter.unusedSimpArgs false
set_option maxHeartbeats 4000000
theorem sums_filter {α : Type} (c : α → Nat) (q : α → Bool) (l : List α) : sums c (l.filter q) ≤ sums c l := by
  induction l with
  | nil => exact Nat.le_refl _
  | cons a l ih =>
    simp only [List.filter_cons]
    split <;> (simp only [sums, List.map_cons, List.sum_cons] at ih ⊢; omega)
theorem cl_filter {α : Type} (c : α → Nat) (q : α → Bool) (l : List α) : cl c (l.filter q) ≤ cl c l := by
  have h1 := sums_filter c q l
  have h2 := List.length_filter_le q l
  unfold cl; omega
end Go.Proofs.Ytehdfbhfbidadaa.V
/- Labels set: plain facts. -/
namespace Go.Proofs.Ytehdfbhfbidadaa.V
open Go
set_option linter.unusedVariables false
set_option linter.unusedSimpArgs false
theorem set_same {α : Type} {l : List α} {k : Nat} {x : α} (h : l[k]? = some x) : l.set k x = l := by
  obtain ⟨l1, l2, rfl, hl⟩ := split_at h
  rw [← hl, set_split]
theorem set_map {α β : Type} {f : α → β} {l : List α} {k : Nat} {x y : α} (h : l[k]? = some x) (e : f y = f x) : (l.set k y).map f = l.map f := by
  rw [List.map_set, e]
  exact set_same (by rw [List.getElem?_map, h]; rfl)
theorem Asc.congr {α : Type} {f : α → Int} {e : Int} {l l' : List α} (h : Asc f e l) (hm : l'.map f = l.map f) : Asc f e l' := by
  rw [Asc_iff] at h ⊢
  refine ⟨fun x hx => ?_, ?_⟩
  · have : f x ∈ l.map f := by rw [← hm]; exact List.mem_map.2 ⟨x, hx, rfl⟩
    obtain ⟨y, hy, e⟩ := List.mem_map.1 this
    rw [← e]; exact h.1 y hy
  · have h2 : (l.map f).Pairwise (· < ·) := List.pairwise_map.2 h.2
    rw [← hm] at h2
    exact List.pairwise_map.1 h2
theorem posOf_congr {α : Type} {f : α → Int} {id : Int} {l l' : List α} (hm : l'.map f = l.map f) : posOf f id l' = posOf f id l := by
  have h : ∀ l : List α, posOf f id l = posOf (fun x : Int => x) id (l.map f) := by
    intro l
    unfold posOf
    rw [List.findIdx?_map]
    rfl
  rw [h l', h l, hm]
theorem GOk.setL {g : Gr} (h : GOk g) {k : Nat} {n : Nd} (hn : g.nodes[k]? = some n) {ls : List Tx} (hl : LabelsOk ls) : GOk (gSetL g k n ls) := by
  have hm : (g.nodes.set k ⟨n.id, ls, n.props⟩).map Nd.id = g.nodes.map Nd.id := set_map hn rfl
  refine ⟨h.nn, h.ne, by simp only [gSetL, List.length_set]; exact h.nl, h.el, h.na.congr hm, h.ea, ?_, ?_⟩
  · intro x hx
    rcases List.mem_or_eq_of_mem_set hx with hx | rfl
    · exact h.nok x hx
    · exact ⟨hl, (h.nok n (List.mem_of_getElem? hn)).2⟩
  · intro e he
    obtain ⟨e1, e2, e3, e4⟩ := h.eok e he
    refine ⟨e1, e2, ?_, ?_⟩
    · simp only [gSetL]; rw [posOf_congr hm]; exact e3
    · simp only [gSetL]; rw [posOf_congr hm]; exact e4
/-- What a label that was set comes to. -/
structure SetL (g : Gr) (id : Int) (lb : Tx) (has : Bool) (x : Gr) : Prop where
  ok : GOk x
  again : labelSet x id lb has = (x, true)
  all : idsWith [] x.nodes = idsWith [] g.nodes
  is : id ∈ idsWith lb x.nodes ↔ has = true
theorem cl_set' {α : Type} {c : α → Nat} {l : List α} {k : Nat} {x y : α} (hx : l[k]? = some x) : cl c (l.set k y) + c x = cl c l + c y := by
  obtain ⟨l1, l2, rfl, hl⟩ := split_at hx
  rw [← hl, set_split]
  unfold cl sums
  simp only [List.length_append, List.length_cons, List.map_append, List.map_cons, List.sum_append, List.sum_cons]
  omega
end Go.Proofs.Ytehdfbhfbidadaa.V
/- Props set: plain facts. -/
namespace Go.Proofs.Ytehdfbhfbidadaa.V
open Go
set_option linter.unusedVariables false
set_option linter.unusedSimpArgs false
theorem nmK_app {nm : Tx} : ∀ {A B : List Pr}, (∀ p ∈ A, Op.bytesLess p.name nm = true) → (∀ p ∈ B, Op.bytesLess p.name nm = false) → nmK nm (A ++ B) = A.length
  | [], [], _, _ => rfl
  | [], b :: B, _, hB => by simp [nmK, ltLen, hB b (by simp)]
  | a :: A, B, hA, hB => by
    have := nmK_app (A := A) (B := B) (fun p hp => hA p (by simp [hp])) hB
    simp only [nmK, List.map_append] at this
    simp [nmK, ltLen, hA a (by simp), this]
theorem prOut_none {nm : Tx} {l : List Pr} (h : ∀ p ∈ l, p.name ≠ nm) : prOut nm l = l := by
  unfold prOut
  rw [List.filter_eq_self]
  intro p hp
  simpa using h p hp
theorem prOut_mem {nm : Tx} {l : List Pr} {p : Pr} (h : p ∈ prOut nm l) : p ∈ l ∧ p.name ≠ nm := by
  unfold prOut at h
  obtain ⟨h1, h2⟩ := List.mem_filter.1 h
  exact ⟨h1, by simpa using h2⟩
theorem prNew_name {nm : Tx} {to : Vl} {p : Pr} (h : p ∈ prNew nm to) : p.name = nm := by
  unfold prNew at h
  split at h
  · simp at h
  · simp only [List.mem_singleton] at h; rw [h]
theorem find_none {nm : Tx} {l : List Pr} (h : ∀ p ∈ l, p.name ≠ nm) : l.find? (fun p => decide (p.name = nm)) = none := by
  rw [List.find?_eq_none]
  intro p hp
  simpa using h p hp
section
variable {ps : List Pr} {nm : Tx}
theorem psAhead (ps : List Pr) (nm : Tx) : ∀ p ∈ ps.take (nmK nm ps), Op.bytesLess p.name nm = true := by
  intro p hp
  obtain ⟨j, hj⟩ := List.mem_iff_getElem?.1 hp
  have hji : j < nmK nm ps := by have := (List.getElem?_eq_some_iff.1 hj).1; simp at this; omega
  rw [List.getElem?_take, if_pos hji] at hj
  exact nmK_lt hji hj
theorem psAhead_ne (ps : List Pr) (nm : Tx) : ∀ p ∈ ps.take (nmK nm ps), p.name ≠ nm := by
  intro p hp e
  have := psAhead ps nm p hp
  rw [e, bytesLess_irr] at this
  exact absurd this (by simp)
theorem psBehind {ok : Pr → Bool} (h : Each ok Pr.name ps) : ∀ p ∈ ps.drop (nmK nm ps), Op.bytesLess p.name nm = false := by
  intro p hp
  obtain ⟨d, hd⟩ := List.mem_iff_getElem?.1 hp
  rw [List.getElem?_drop] at hd
  exact h.behind d hd
/-- Of the others nothing changes. -/
theorem getP_other {nm' : Tx} (h : nm' ≠ nm) (to : Vl) : getP (propNext nm to ps) nm' = getP ps nm' := by
  have e1 : (prNew nm to).find? (fun p => decide (p.name = nm')) = none := find_none (fun p hp e => h (by rw [← e, prNew_name hp]))
  have e2 : (prOut nm (ps.drop (nmK nm ps))).find? (fun p => decide (p.name = nm')) = (ps.drop (nmK nm ps)).find? (fun p => decide (p.name = nm')) := by
    unfold prOut
    rw [List.find?_filter]
    congr 1
    funext p
    by_cases q : p.name = nm'
    · have : ¬ p.name = nm := fun e => h (by rw [← q, e])
      simp [q, h]
    · simp [q]
  unfold getP
  have e3 : ps.find? (fun p => decide (p.name = nm')) = (ps.take (nmK nm ps) ++ ps.drop (nmK nm ps)).find? (fun p => decide (p.name = nm')) := by rw [List.take_append_drop]
  rw [e3]
  unfold propNext
  rw [List.find?_append, List.find?_append, List.find?_append, e1, e2]
  simp
theorem getP_set (to : Vl) : getP (propNext nm to ps) nm = if to.k = 0 then zV else to := by
  unfold getP propNext
  rw [List.find?_append, List.find?_append, find_none (psAhead_ne ps nm), find_none (fun p hp => (prOut_mem hp).2)]
  unfold prNew
  by_cases h : to.k = 0
  · rw [if_pos h, if_pos h]; rfl
  · rw [if_neg h, if_neg h]; simp
/-- What was is set again. -/
theorem propNext_back (h : PropsOk ps) (to : Vl) : propNext nm (getP ps nm) (propNext nm to ps) = ps := by
  have hE := h.1
  obtain ⟨h1, h2⟩ := Each_iff.1 hE
  have hB := psBehind (nm := nm) hE
  have hA := psAhead ps nm
  have hA2 := psAhead_ne ps nm
  have hK : nmK nm (propNext nm to ps) = (ps.take (nmK nm ps)).length := by
    unfold propNext
    refine nmK_app hA ?_
    intro p hp
    rcases List.mem_append.1 hp with hp | hp
    · rw [prNew_name hp, bytesLess_irr]
    · exact hB p (prOut_mem hp).1
  have hP2 : (ps.drop (nmK nm ps)).Pairwise (fun x y => Op.bytesLess x.name y.name = true) := h2.sublist (List.drop_sublist _ _)
  have hm : ∀ p ∈ ps.drop (nmK nm ps), prOk p = true := fun p hp => h1 p (List.mem_of_mem_drop hp)
  have hg : getP ps nm = (((ps.drop (nmK nm ps)).find? (fun p => decide (p.name = nm))).map Pr.val).getD zV := by
    unfold getP
    have e3 : ps.find? (fun p => decide (p.name = nm)) = (ps.take (nmK nm ps) ++ ps.drop (nmK nm ps)).find? (fun p => decide (p.name = nm)) := by rw [List.take_append_drop]
    rw [e3, List.find?_append, find_none hA2]
    simp
  have e0 : ps = ps.take (nmK nm ps) ++ ps.drop (nmK nm ps) := (List.take_append_drop _ _).symm
  have e1 : propNext nm (getP ps nm) (propNext nm to ps) = ps.take (nmK nm ps) ++ (prNew nm (getP ps nm) ++ prOut nm (ps.drop (nmK nm ps))) := by
    have hT : (propNext nm to ps).take (nmK nm (propNext nm to ps)) = ps.take (nmK nm ps) := by
      rw [hK]; unfold propNext; rw [List.take_left]
    have hD : (propNext nm to ps).drop (nmK nm (propNext nm to ps)) = prNew nm to ++ prOut nm (ps.drop (nmK nm ps)) := by
      rw [hK]; unfold propNext; rw [List.drop_left]
    have hO : prOut nm (prNew nm to ++ prOut nm (ps.drop (nmK nm ps))) = prOut nm (ps.drop (nmK nm ps)) := by
      have q1 : prOut nm (prNew nm to) = [] := by
        unfold prOut; rw [List.filter_eq_nil_iff]; intro p hp; simp [prNew_name hp]
      have q2 : prOut nm (prOut nm (ps.drop (nmK nm ps))) = prOut nm (ps.drop (nmK nm ps)) := prOut_none (fun p hp => (prOut_mem hp).2)
      rw [show prOut nm (prNew nm to ++ prOut nm (ps.drop (nmK nm ps))) = prOut nm (prNew nm to) ++ prOut nm (prOut nm (ps.drop (nmK nm ps))) from List.filter_append .., q1, q2]; rfl
    rw [show propNext nm (getP ps nm) (propNext nm to ps) = (propNext nm to ps).take (nmK nm (propNext nm to ps)) ++ (prNew nm (getP ps nm) ++ prOut nm ((propNext nm to ps).drop (nmK nm (propNext nm to ps)))) from rfl, hT, hD, hO]
  rw [e1, hg]
  conv => rhs; rw [e0]
  congr 1
  generalize ps.drop (nmK nm ps) = D at *
  cases D with
  | nil => simp [prNew, prOut, zV, Vl.k]
  | cons d D =>
    obtain ⟨d1, d2⟩ := List.pairwise_cons.1 hP2
    have hne : ∀ p ∈ D, p.name ≠ nm := by
      intro p hp e
      have h3 := d1 p hp
      rw [e] at h3
      have h4 := hB d (by simp)
      rw [h3] at h4
      exact absurd h4 (by simp)
    by_cases q : d.name = nm
    · have hk : d.val.k ≠ 0 := by
        have := hm d (by simp)
        simp only [prOk, Bool.and_eq_true] at this
        intro e
        have hs := this.2
        obtain ⟨dn, k, n, s, l⟩ := d
        simp only [Vl.k] at e
        subst e
        simp [sto, Vl.plain] at hs
      have e5 : (⟨nm, d.val⟩ : Pr) = d := by rw [← q]
      have e6 : prOut nm (d :: D) = D := by
        have := prOut_none hne
        unfold prOut at this ⊢
        rw [List.filter_cons_of_neg (by simp [q]), this]
      have e7 : prNew nm d.val = [d] := by unfold prNew; rw [if_neg hk, e5]
      rw [e6, List.find?_cons_of_pos (by simp [q])]
      show prNew nm d.val ++ D = _
      rw [e7]; rfl
    · have hall : ∀ p ∈ d :: D, p.name ≠ nm := by
        intro p hp
        rcases List.mem_cons.1 hp with rfl | hp
        · exact q
        · exact hne p hp
      rw [find_none hall, prOut_none hall]
      simp [prNew, zV, Vl.k]
end
/-! ### graphs -/
theorem GOk.setP {g : Gr} (h : GOk g) {v : Vl} {ps L : List Pr} (hp : propsOf g v = some ps) (hL : PropsOk L) : GOk (gSetP g v L) := by
  rcases props_at hp with ⟨hk, i, id, lb, q1, q2, q3⟩ | ⟨hk5, hk, i, id, kd, fr, tt, q1, q2, q3⟩
  · rw [q3]
    have hm : (g.nodes.set i ⟨id, lb, L⟩).map Nd.id = g.nodes.map Nd.id := set_map q2 rfl
    refine ⟨h.nn, h.ne, by simp only [List.length_set]; exact h.nl, h.el, h.na.congr hm, h.ea, ?_, ?_⟩
    · intro x hx
      rcases List.mem_or_eq_of_mem_set hx with hx | rfl
      · exact h.nok x hx
      · exact ⟨(h.nok _ (List.mem_of_getElem? q2)).1, hL⟩
    · intro e he
      obtain ⟨e1, e2, e3, e4⟩ := h.eok e he
      refine ⟨e1, e2, ?_, ?_⟩
      · simp only; rw [posOf_congr hm]; exact e3
      · simp only; rw [posOf_congr hm]; exact e4
  · rw [q3]
    have hm : (g.edges.set i ⟨id, kd, fr, tt, L⟩).map Eg.id = g.edges.map Eg.id := set_map q2 rfl
    refine ⟨h.nn, h.ne, h.nl, by simp only [List.length_set]; exact h.el, h.na, h.ea.congr hm, h.nok, ?_⟩
    intro e he
    rcases List.mem_or_eq_of_mem_set he with he | rfl
    · exact h.eok e he
    · obtain ⟨e1, e2, e3, e4⟩ := h.eok _ (List.mem_of_getElem? q2)
      exact ⟨e1, hL, e3, e4⟩
theorem propsOf_set {g : Gr} {v : Vl} {ps : List Pr} (hp : propsOf g v = some ps) (L : List Pr) : propsOf (gSetP g v L) v = some L := by
  rcases props_at hp with ⟨hk, i, id, lb, q1, q2, q3⟩ | ⟨hk5, hk, i, id, kd, fr, tt, q1, q2, q3⟩
  · rw [q3]
    have hm : (g.nodes.set i ⟨id, lb, L⟩).map Nd.id = g.nodes.map Nd.id := set_map q2 rfl
    have hl := (List.getElem?_eq_some_iff.1 q2).1
    unfold propsOf
    rw [if_pos hk]
    simp only
    rcases find_pos (f := Nd.id) (id := v.n) (l := g.nodes.set i ⟨id, lb, L⟩) with ⟨j, x, h1, h2, h3⟩ | ⟨h1, h3⟩
    · rw [posOf_congr hm, q1] at h1
      obtain rfl : i = j := by omega
      rw [List.getElem?_set_self hl] at h2
      obtain rfl := Option.some.inj h2
      rw [show (fun x : Nd => decide (x.id = v.n)) = (fun x => decide (Nd.id x = v.n)) from rfl, h3]; rfl
    · rw [posOf_congr hm, q1] at h1; omega
  · rw [q3]
    have hm : (g.edges.set i ⟨id, kd, fr, tt, L⟩).map Eg.id = g.edges.map Eg.id := set_map q2 rfl
    have hl := (List.getElem?_eq_some_iff.1 q2).1
    unfold propsOf
    rw [if_neg hk5, if_pos hk]
    simp only
    rcases find_pos (f := Eg.id) (id := v.n) (l := g.edges.set i ⟨id, kd, fr, tt, L⟩) with ⟨j, x, h1, h2, h3⟩ | ⟨h1, h3⟩
    · rw [posOf_congr hm, q1] at h1
      obtain rfl : i = j := by omega
      rw [List.getElem?_set_self hl] at h2
      obtain rfl := Option.some.inj h2
      rw [show (fun x : Eg => decide (x.id = v.n)) = (fun x => decide (Eg.id x = v.n)) from rfl, h3]; rfl
    · rw [posOf_congr hm, q1] at h1; omega
theorem gSetP_back {g : Gr} {v : Vl} {ps : List Pr} (hp : propsOf g v = some ps) (L : List Pr) : gSetP (gSetP g v L) v ps = g := by
  rcases props_at hp with ⟨hk, i, id, lb, q1, q2, q3⟩ | ⟨hk5, hk, i, id, kd, fr, tt, q1, q2, q3⟩
  · rw [q3]
    have hm : (g.nodes.set i ⟨id, lb, L⟩).map Nd.id = g.nodes.map Nd.id := set_map q2 rfl
    have hl := (List.getElem?_eq_some_iff.1 q2).1
    unfold gSetP
    rw [if_pos hk]
    simp only [posOf_congr hm, q1, Int.toNat_natCast, List.getElem?_set_self hl, List.set_set, set_same q2]
  · rw [q3]
    have hm : (g.edges.set i ⟨id, kd, fr, tt, L⟩).map Eg.id = g.edges.map Eg.id := set_map q2 rfl
    have hl := (List.getElem?_eq_some_iff.1 q2).1
    unfold gSetP
    rw [if_neg hk5]
    simp only [posOf_congr hm, q1, Int.toNat_natCast, List.getElem?_set_self hl, List.set_set, set_same q2]
/-- What a prop that was set comes to. -/
structure SetP (g : Gr) (v : Vl) (nm : Tx) (to : Vl) (x : Gr) : Prop where
  ok : GOk x
  vok : vOk v = true
  other : ∀ nm', nm' ≠ nm → propGet x v nm' = propGet g v nm'
  get : propGet x v nm = to
  back : propSet x v nm (propGet g v nm) = (g, true)
theorem getP_sto {ps : List Pr} (h : PropsOk ps) (nm : Tx) : sto (getP ps nm) = true ∨ emptyV (getP ps nm) = true := by
  unfold getP
  cases q : ps.find? (fun p => decide (p.name = nm)) with
  | none => right; simp [emptyV, zV, Vl.k, Vl.n, Vl.s, Vl.l]
  | some p =>
    left
    have h1 := (Each_iff.1 h.1).1 p (List.mem_of_find?_eq_some q)
    simp only [prOk, Bool.and_eq_true] at h1
    exact h1.2
theorem propSet_no' {g : Gr} (h : GOk g) {v : Vl} {nm : Tx} {to : Vl} (h2 : (propSet g v nm to).2 = false) : (propSet g v nm to).1 = g := by
  unfold propSet at h2 ⊢
  rw [if_pos h] at h2 ⊢
  by_cases c : setOk v nm to
  · rw [if_pos c] at h2 ⊢
    cases q : propsOf g v with
    | none => rfl
    | some ps =>
      rw [q] at h2
      simp only at h2 ⊢
      by_cases c2 : PropsOk (propNext nm to ps)
      · rw [if_pos c2] at h2; exact absurd h2 (by simp)
      · rw [if_neg c2]
  · rw [if_neg c]
theorem propSet_yes' {g : Gr} (h : GOk g) {v : Vl} {nm : Tx} {to : Vl} (h2 : (propSet g v nm to).2 = true) : SetP g v nm to (propSet g v nm to).1 := by
  by_cases c : setOk v nm to
  case neg =>
    unfold propSet at h2
    rw [if_pos h, if_neg c] at h2
    exact absurd h2 (by simp)
  cases q : propsOf g v with
  | none =>
    unfold propSet at h2
    rw [if_pos h, if_pos c, q] at h2
    exact absurd h2 (by simp)
  | some ps =>
    by_cases c2 : PropsOk (propNext nm to ps)
    case neg =>
      unfold propSet at h2
      rw [if_pos h, if_pos c, q] at h2
      simp only at h2
      rw [if_neg c2] at h2
      exact absurd h2 (by simp)
    have e : propSet g v nm to = (gSetP g v (propNext nm to ps), true) := by
      unfold propSet; rw [if_pos h, if_pos c, q]; simp only; rw [if_pos c2]
    rw [e]
    have hps := props_ok h q
    have hok := h.setP q c2
    have hx := propsOf_set q (propNext nm to ps)
    have hbk := propNext_back (nm := nm) hps to
    refine ⟨hok, c.1, ?_, ?_, ?_⟩
    · intro nm' hn
      simp only [propGet, hx, q]
      exact getP_other hn to
    · simp only [propGet, hx]
      rw [getP_set]
      by_cases hk : to.k = 0
      · rw [if_pos hk]
        have he : emptyV to = true := by
          rcases c.2.2 with c3 | c3
          · obtain ⟨k, n, s, l⟩ := to
            simp only [Vl.k] at hk
            subst hk
            simp [sto, Vl.plain] at c3
          · exact c3
        obtain ⟨k, n, s, l⟩ := to
        simp only [emptyV, Bool.and_eq_true] at he
        obtain ⟨⟨⟨e1, e2⟩, e3⟩, e4⟩ := he
        have f1 : k = 0 := of_decide_eq_true e1
        have f2 : n = 0 := of_decide_eq_true e2
        have f3 : s = [] := of_decide_eq_true e3
        have f4 : l = [] := of_decide_eq_true e4
        subst f1 f2 f3 f4
        rfl
      · rw [if_neg hk]
    · have hs : setOk v nm (getP ps nm) := ⟨c.1, c.2.1, getP_sto hps nm⟩
      have hw : propGet g v nm = getP ps nm := by simp only [propGet, q]
      rw [hw]
      unfold propSet
      rw [if_pos hok, if_pos hs, hx]
      simp only
      rw [hbk, if_pos hps, gSetP_back q]
theorem propSet_fit {g : Gr} (h : g.fit) {v : Vl} {nm : Tx} (hnm : ln nm) {to : Vl} (hto : to.fit) : (propSet g v nm to).1.fit := by
  have hz : zG.fit := ⟨by simp [zG, ln], by simp [zG], by simp [zG, ln], by simp [zG], by simp [zG, i64], by simp [zG, i64]⟩
  unfold propSet
  split
  · split
    · split
      · rename_i ps hp
        split
        · rename_i hl
          have hf : ∀ p ∈ propNext nm to ps, p.fit := propNext_mem (props_fit h hp) (fun _ => ⟨hnm, hto⟩)
          have hln : ln (propNext nm to ps) := by have := hl.2; simp only [ln]; omega
          rcases props_at hp with ⟨hk, i, id, lb, q1, q2, q3⟩ | ⟨hk5, hk, i, id, kd, fr, tt, q1, q2, q3⟩
          · rw [q3]
            have h1 := h.2.1 _ (List.mem_of_getElem? q2)
            refine ⟨by simp only [ln, List.length_set]; exact h.1, fun x hx => ?_, h.2.2.1, h.2.2.2.1, h.2.2.2.2.1, h.2.2.2.2.2⟩
            rcases List.mem_or_eq_of_mem_set hx with hx | rfl
            · exact h.2.1 x hx
            · exact ⟨h1.1, h1.2.1, h1.2.2.1, hln, hf⟩
          · rw [q3]
            have h1 := h.2.2.2.1 _ (List.mem_of_getElem? q2)
            refine ⟨h.1, h.2.1, by simp only [ln, List.length_set]; exact h.2.2.1, fun x hx => ?_, h.2.2.2.2.1, h.2.2.2.2.2⟩
            rcases List.mem_or_eq_of_mem_set hx with hx | rfl
            · exact h.2.2.2.1 x hx
            · exact ⟨h1.1, h1.2.1, h1.2.2.1, h1.2.2.2.1, hln, hf⟩
        · exact h
      · exact h
    · exact h
  · exact hz
theorem propNext_cnt' (nm : Tx) (to : Vl) (ps : List Pr) : cl Pr.cnt (propNext nm to ps) ≤ cl Pr.cnt ps + nm.length + to.cnt + 1 := by
  have h1 : cl Pr.cnt (prOut nm (ps.drop (nmK nm ps))) ≤ cl Pr.cnt (ps.drop (nmK nm ps)) := cl_filter Pr.cnt (fun x => !decide (x.name = nm)) _
  have h2 : cl Pr.cnt (ps.take (nmK nm ps) ++ ps.drop (nmK nm ps)) = cl Pr.cnt ps := by rw [List.take_append_drop]
  have h3 : cl Pr.cnt (prNew nm to) ≤ nm.length + to.cnt + 1 := by
    unfold prNew
    split
    · simp [cl, sums]
    · simp [cl, sums, Pr.cnt]; omega
  unfold propNext
  unfold cl sums at h1 h2 h3 ⊢
  simp only [List.length_append, List.map_append, List.sum_append] at h2 ⊢
  omega
theorem propSet_cnt' (g : Gr) (v : Vl) (nm : Tx) (to : Vl) : (propSet g v nm to).1.cnt ≤ g.cnt + to.cnt + 9 := by
  have h0 : zG.cnt = 0 := rfl
  unfold propSet
  split
  · split
    · rename_i h
      have hn : nm.length ≤ 8 := nameOk_len h.2.1
      split
      · rename_i ps hp
        split
        · have h2 := propNext_cnt' nm to ps
          simp only
          rcases props_at hp with ⟨hk, i, id, lb, q1, q2, q3⟩ | ⟨hk5, hk, i, id, kd, fr, tt, q1, q2, q3⟩
          · rw [q3]
            have h4 := cl_set' (c := Nd.cnt) (y := ⟨id, lb, propNext nm to ps⟩) q2
            simp only [Gr.cnt, Nd.cnt] at h4 ⊢
            omega
          · rw [q3]
            have h4 := cl_set' (c := Eg.cnt) (y := ⟨id, kd, fr, tt, propNext nm to ps⟩) q2
            simp only [Gr.cnt, Eg.cnt] at h4 ⊢
            omega
        · simp only; omega
      · simp only; omega
    · simp only; omega
  · simp only [h0]; omega
end Go.Proofs.Ytehdfbhfbidadaa.V
