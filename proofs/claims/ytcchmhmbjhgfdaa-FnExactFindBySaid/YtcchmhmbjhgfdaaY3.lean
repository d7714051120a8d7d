import Derived.Test.YtcchmhmbjhgfdaaProg
import Derived.Below
import Derived.Deep.Draws
import Derived.Deep.AppendLies
import Derived.Maps.AppendAt
import Derived.OwnWalk
import Derived.Laws.BytesArg
import Derived.Laws.MakeOwn
import Derived.Laws.OwnMore
import Derived.Deep.OwnRows
import Derived.Tactics
import Derived.Lib.ConvBytes
import Derived.Laws.Slices
import Derived.WalkKit
import Derived.KernelRfl
import Derived.RowKit3
import Derived.Deep.LoopGhost
import Derived.Deep.QuietTactic
import Derived.BigQuiet
import Derived.WideLaws
import Derived.Deep.DeepCutAuto
import Derived.Deep.CutBlock
import Derived.Deep.RegionHeld3
import Derived.Laws.Rows
import Derived.Lib.AppendStr
import Derived.ArgAppend
import Derived.Laws.IdiomCopy
import Derived.OrdersHeld
import Derived.Laws.BitsLemmas
import Derived.RowKit
import Derived.Test.YtcchmhmbjhgfdaaY1
import Derived.Test.YtcchmhmbjhgfdaaY2
namespace Go.Proofs.Ytcchmhmbjhgfdaa.G
open Go.RowKit Go.Proofs.YtcchmhmbjhgfdaaW.PrintWords Go.Proofs.YtcchmhmbjhgfdaaW.PrintLast Go.Proofs.YtcchmhmbjhgfdaaW.PrintMore
attribute [local go_sem] max2_int min2_int max_two min_two max_three min_three max_four min_four Own.str_gtr Own.str_leq Own.str_geq Own.sto_fn   -- for this text's walks alone
open Own
set_option linter.unusedVariables false
set_option linter.unusedSimpArgs false
def errW : Option Int → Value
  | none => .nilIface
  | some c => .iface 0 (.int .i64 c)
theorem errW_none : errW none = .nilIface := rfl
theorem errW_some (c : Int) : errW (some c) = .iface 0 (.int .i64 c) := rfl
theorem info3 : (Try.prog.info? 3).map (fun i => (i.zero, i.size, i.bytes)) = some (some (.int .i64 0), 1, 8) := by kernel_rfl
theorem info9 : (Try.prog.info? 9).map (fun i => (i.zero, i.size, i.bytes)) = some (some (.string ⟨#[]⟩), 1, 16) := by kernel_rfl
theorem info49 : (Try.prog.info? 49).map (fun i => (i.zero, i.size, i.bytes)) = some (some (.agg #[(.int .i64 0), (.int .i64 0), (.string ⟨#[]⟩), (.slice none 0 0)]), 4, 56) := by kernel_rfl
theorem info99 : (Try.prog.info? 99).map (fun i => (i.zero, i.size, i.bytes)) = some (some (.agg #[(.int .i64 0), (.slice none 0 0), (.slice none 0 0)]), 3, 56) := by kernel_rfl
theorem info104 : (Try.prog.info? 104).map (fun i => (i.zero, i.size, i.bytes)) = some (some (.agg #[(.int .i64 0), (.string ⟨#[]⟩), (.int .i64 0), (.int .i64 0), (.slice none 0 0)]), 5, 64) := by kernel_rfl
theorem info140 : (Try.prog.info? 140).map (fun i => (i.zero, i.size, i.bytes)) = some (some (.agg #[(.string ⟨#[]⟩), (.int .i64 0), (.int .i64 0), (.string ⟨#[]⟩), (.slice none 0 0)]), 5, 72) := by kernel_rfl
structure S45 where
  f0 : Int
  f1 : Int
  f2 : ByteArray
  f3 : (List S45)
def z45 : S45 := ⟨(0 : Int), (0 : Int), (⟨#[]⟩ : ByteArray), ([] : List S45)⟩
def F45 (d : Kd S45) : Kd S45 := Kd.iso (Kd.pair (Kd.int .i64) (Kd.pair (Kd.int .i64) (Kd.pair Kd.string (Kd.slice 45 d)))) (fun x : S45 => (x.f0, x.f1, x.f2, x.f3))
theorem mono45 : Kd.Mono F45 := Kd.mono_iso _ (Kd.mono_pair (Kd.mono_const _) (Kd.mono_pair (Kd.mono_const _) (Kd.mono_pair (Kd.mono_const _) (Kd.mono_slice 45 Kd.mono_id))))
theorem sub45 : Kd.Sub F45 [45] := Kd.sub_iso _ (Kd.sub_pair (Kd.sub_const _ (by decide)) (Kd.sub_pair (Kd.sub_const _ (by decide)) (Kd.sub_pair (Kd.sub_const _ (by decide)) (Kd.sub_slice 45 (by decide) Kd.sub_id))))
theorem sz45 : ∀ n, (Kd.upto F45 4 [45] n).sz = 4 := Kd.upto_sz (fun _ => rfl)
def k45 : Kd S45 := Kd.fix F45 4 [45] sz45 (Kd.upto_E sub45)
theorem k45_open {w : World} {x : S45} {cs : List Value} (h : k45.K w x cs) : ∃ A3 c3, cs = [.int .i64 x.f0, .int .i64 x.f1, .string x.f2, .slice A3 x.f3.length c3] ∧ x.f3.length ≤ c3 ∧ k45.C w A3 x.f3.length x.f3 := by
  obtain ⟨n, h⟩ := h
  cases n with
  | zero => exact h.elim
  | succ n =>
    obtain ⟨_, _, rfl, rfl, ⟨_, _, rfl, rfl, ⟨_, _, rfl, rfl, ⟨A3, c3, rfl, l3, g3⟩⟩⟩⟩ := h; exact ⟨A3, c3, rfl, l3, Kd.fix_C g3⟩
theorem k45_mk (w : World) (x : S45) {A3 : Option Addr} {c3 : Nat} (l3 : x.f3.length ≤ c3) (g3 : k45.C w A3 x.f3.length x.f3) : k45.K w x [.int .i64 x.f0, .int .i64 x.f1, .string x.f2, .slice A3 x.f3.length c3] := by
  obtain ⟨n3, q3⟩ := Kd.fix_C_back mono45 g3; have r3 := Kd.upto_C_le mono45 sz45 (show n3 ≤ n3 by omega) q3; exact ⟨n3 + 1, ⟨[.int .i64 x.f0], [.int .i64 x.f1, .string x.f2, .slice A3 x.f3.length c3], rfl, rfl, ⟨[.int .i64 x.f1], [.string x.f2, .slice A3 x.f3.length c3], rfl, rfl, ⟨[.string x.f2], [.slice A3 x.f3.length c3], rfl, rfl, ⟨A3, c3, rfl, l3, r3⟩⟩⟩⟩⟩
theorem k45_mkM (w : World) (base : Nat) (ok : Nat → Prop) (x : S45) {v3 : Value} (g3 : k45.R 45 w base ok v3 x.f3) : k45.M w base ok x [.int .i64 x.f0, .int .i64 x.f1, .string x.f2, v3] := by
  obtain ⟨n3, q3⟩ := Kd.fix_R_back mono45 g3; have r3 := Kd.upto_R_le mono45 sz45 (show n3 ≤ n3 by omega) q3; exact ⟨n3 + 1, ⟨[.int .i64 x.f0], [.int .i64 x.f1, .string x.f2, v3], rfl, rfl, ⟨[.int .i64 x.f1], [.string x.f2, v3], rfl, rfl, ⟨[.string x.f2], [v3], rfl, rfl, ⟨v3, rfl, r3⟩⟩⟩⟩⟩
def rd_T45 (xs : List S45) (i : Int) : S45 := xs.getD i.toNat z45
theorem at_T45 {w : World} {A : Option Addr} {n : Nat} {xs : List S45} (h : Kd.C k45 w A n xs) (i : Int) (h0 : 0 ≤ i) (h1 : i < n) : ∃ ad A3 c3, A = some ad ∧ w.cell? (ad.add (i.toNat * 4)) = some (.int .i64 (rd_T45 xs i).f0) ∧ w.cell? ⟨(ad.add (i.toNat * 4)).block, (ad.add (i.toNat * 4)).off + 1, none⟩ = some (.int .i64 (rd_T45 xs i).f1) ∧ w.cell? ⟨(ad.add (i.toNat * 4)).block, (ad.add (i.toNat * 4)).off + 2, none⟩ = some (.string (rd_T45 xs i).f2) ∧ w.cell? ⟨(ad.add (i.toNat * 4)).block, (ad.add (i.toNat * 4)).off + 3, none⟩ = some (.slice A3 (rd_T45 xs i).f3.length c3) ∧ (rd_T45 xs i).f3.length ≤ c3 ∧ k45.C w A3 (rd_T45 xs i).f3.length (rd_T45 xs i).f3 := by
  obtain ⟨ad, c, e, _, hK, hc0⟩ := Kd.C_get h z45 i h0 h1; have hc : ∀ j u, c[j]? = some u → w.cell? (ad.add (i.toNat * 4 + j)) = some u := hc0; obtain ⟨A3, c3, rfl, l3, g3⟩ := k45_open hK; exact ⟨ad, A3, c3, e, hc 0 _ rfl, by rw [← add_field _ _ 1 (by omega)]; exact hc 1 _ rfl, by rw [← add_field _ _ 2 (by omega)]; exact hc 2 _ rfl, by rw [← add_field _ _ 3 (by omega)]; exact hc 3 _ rfl, l3, g3⟩
structure S136 where
  f0 : ByteArray
  f1 : S45
def z136 : S136 := ⟨(⟨#[]⟩ : ByteArray), z45⟩
def k136 : Kd S136 := Kd.iso (Kd.pair Kd.string k45) (fun x : S136 => (x.f0, x.f1))
theorem k136_open {w : World} {x : S136} {cs : List Value} (h : k136.K w x cs) : ∃ A4 c4, cs = [.string x.f0, .int .i64 x.f1.f0, .int .i64 x.f1.f1, .string x.f1.f2, .slice A4 x.f1.f3.length c4] ∧ x.f1.f3.length ≤ c4 ∧ k45.C w A4 x.f1.f3.length x.f1.f3 := by
  obtain ⟨_, _, rfl, rfl, s1⟩ := h; obtain ⟨A4, c4, rfl, l4, g4⟩ := k45_open s1; exact ⟨A4, c4, rfl, l4, g4⟩
theorem k136_mk (w : World) (x : S136) {A4 : Option Addr} {c4 : Nat} (l4 : x.f1.f3.length ≤ c4) (g4 : k45.C w A4 x.f1.f3.length x.f1.f3) : k136.K w x [.string x.f0, .int .i64 x.f1.f0, .int .i64 x.f1.f1, .string x.f1.f2, .slice A4 x.f1.f3.length c4] := ⟨[.string x.f0], [.int .i64 x.f1.f0, .int .i64 x.f1.f1, .string x.f1.f2, .slice A4 x.f1.f3.length c4], rfl, rfl, (k45_mk w x.f1 l4 g4)⟩
def rd_T136 (xs : List S136) (i : Int) : S136 := xs.getD i.toNat z136
theorem at_T136 {w : World} {A : Option Addr} {n : Nat} {xs : List S136} (h : Kd.C k136 w A n xs) (i : Int) (h0 : 0 ≤ i) (h1 : i < n) : ∃ ad A4 c4, A = some ad ∧ w.cell? (ad.add (i.toNat * 5)) = some (.string (rd_T136 xs i).f0) ∧ w.cell? ⟨(ad.add (i.toNat * 5)).block, (ad.add (i.toNat * 5)).off + 1, none⟩ = some (.int .i64 (rd_T136 xs i).f1.f0) ∧ w.cell? ⟨(ad.add (i.toNat * 5)).block, (ad.add (i.toNat * 5)).off + 2, none⟩ = some (.int .i64 (rd_T136 xs i).f1.f1) ∧ w.cell? ⟨(ad.add (i.toNat * 5)).block, (ad.add (i.toNat * 5)).off + 3, none⟩ = some (.string (rd_T136 xs i).f1.f2) ∧ w.cell? ⟨(ad.add (i.toNat * 5)).block, (ad.add (i.toNat * 5)).off + 4, none⟩ = some (.slice A4 (rd_T136 xs i).f1.f3.length c4) ∧ (rd_T136 xs i).f1.f3.length ≤ c4 ∧ k45.C w A4 (rd_T136 xs i).f1.f3.length (rd_T136 xs i).f1.f3 := by
  obtain ⟨ad, c, e, _, hK, hc0⟩ := Kd.C_get h z136 i h0 h1; have hc : ∀ j u, c[j]? = some u → w.cell? (ad.add (i.toNat * 5 + j)) = some u := hc0; obtain ⟨A4, c4, rfl, l4, g4⟩ := k136_open hK; exact ⟨ad, A4, c4, e, hc 0 _ rfl, by rw [← add_field _ _ 1 (by omega)]; exact hc 1 _ rfl, by rw [← add_field _ _ 2 (by omega)]; exact hc 2 _ rfl, by rw [← add_field _ _ 3 (by omega)]; exact hc 3 _ rfl, by rw [← add_field _ _ 4 (by omega)]; exact hc 4 _ rfl, l4, g4⟩
structure S170 where
  f0 : Int
  f1 : (List ByteArray)
  f2 : (List S136)
def z170 : S170 := ⟨(0 : Int), ([] : List ByteArray), ([] : List S136)⟩
def k170 : Kd S170 := Kd.iso (Kd.pair (Kd.int .i64) (Kd.pair (Kd.slice 9 Kd.string) (Kd.slice 136 k136))) (fun x : S170 => (x.f0, x.f1, x.f2))
theorem k170_open {w : World} {x : S170} {cs : List Value} (h : k170.K w x cs) : ∃ A1 c1 A2 c2, cs = [.int .i64 x.f0, .slice A1 x.f1.length c1, .slice A2 x.f2.length c2] ∧ x.f1.length ≤ c1 ∧ Kd.string.C w A1 x.f1.length x.f1 ∧ x.f2.length ≤ c2 ∧ k136.C w A2 x.f2.length x.f2 := by
  obtain ⟨_, _, rfl, rfl, ⟨_, _, rfl, ⟨A1, c1, rfl, l1, g1⟩, ⟨A2, c2, rfl, l2, g2⟩⟩⟩ := h; exact ⟨A1, c1, A2, c2, rfl, l1, g1, l2, g2⟩
theorem k170_mk (w : World) (x : S170) {A1 : Option Addr} {c1 : Nat} (l1 : x.f1.length ≤ c1) (g1 : Kd.string.C w A1 x.f1.length x.f1) {A2 : Option Addr} {c2 : Nat} (l2 : x.f2.length ≤ c2) (g2 : k136.C w A2 x.f2.length x.f2) : k170.K w x [.int .i64 x.f0, .slice A1 x.f1.length c1, .slice A2 x.f2.length c2] := ⟨[.int .i64 x.f0], [.slice A1 x.f1.length c1, .slice A2 x.f2.length c2], rfl, rfl, ⟨[.slice A1 x.f1.length c1], [.slice A2 x.f2.length c2], rfl, ⟨A1, c1, rfl, l1, g1⟩, ⟨A2, c2, rfl, l2, g2⟩⟩⟩
def rd_T170 (xs : List S170) (i : Int) : S170 := xs.getD i.toNat z170
theorem at_T170 {w : World} {A : Option Addr} {n : Nat} {xs : List S170} (h : Kd.C k170 w A n xs) (i : Int) (h0 : 0 ≤ i) (h1 : i < n) : ∃ ad A1 c1 A2 c2, A = some ad ∧ w.cell? (ad.add (i.toNat * 3)) = some (.int .i64 (rd_T170 xs i).f0) ∧ w.cell? ⟨(ad.add (i.toNat * 3)).block, (ad.add (i.toNat * 3)).off + 1, none⟩ = some (.slice A1 (rd_T170 xs i).f1.length c1) ∧ w.cell? ⟨(ad.add (i.toNat * 3)).block, (ad.add (i.toNat * 3)).off + 2, none⟩ = some (.slice A2 (rd_T170 xs i).f2.length c2) ∧ (rd_T170 xs i).f1.length ≤ c1 ∧ Kd.string.C w A1 (rd_T170 xs i).f1.length (rd_T170 xs i).f1 ∧ (rd_T170 xs i).f2.length ≤ c2 ∧ k136.C w A2 (rd_T170 xs i).f2.length (rd_T170 xs i).f2 := by
  obtain ⟨ad, c, e, _, hK, hc0⟩ := Kd.C_get h z170 i h0 h1; have hc : ∀ j u, c[j]? = some u → w.cell? (ad.add (i.toNat * 3 + j)) = some u := hc0; obtain ⟨A1, c1, A2, c2, rfl, l1, g1, l2, g2⟩ := k170_open hK; exact ⟨ad, A1, c1, A2, c2, e, hc 0 _ rfl, by rw [← add_field _ _ 1 (by omega)]; exact hc 1 _ rfl, by rw [← add_field _ _ 2 (by omega)]; exact hc 2 _ rfl, l1, g1, l2, g2⟩
structure S173 where
  f0 : Int
  f1 : ByteArray
  f2 : Int
  f3 : Int
  f4 : (List S136)
def z173 : S173 := ⟨(0 : Int), (⟨#[]⟩ : ByteArray), (0 : Int), (0 : Int), ([] : List S136)⟩
def k173 : Kd S173 := Kd.iso (Kd.pair (Kd.int .i64) (Kd.pair Kd.string (Kd.pair (Kd.int .i64) (Kd.pair (Kd.int .i64) (Kd.slice 136 k136))))) (fun x : S173 => (x.f0, x.f1, x.f2, x.f3, x.f4))
theorem k173_open {w : World} {x : S173} {cs : List Value} (h : k173.K w x cs) : ∃ A4 c4, cs = [.int .i64 x.f0, .string x.f1, .int .i64 x.f2, .int .i64 x.f3, .slice A4 x.f4.length c4] ∧ x.f4.length ≤ c4 ∧ k136.C w A4 x.f4.length x.f4 := by
  obtain ⟨_, _, rfl, rfl, ⟨_, _, rfl, rfl, ⟨_, _, rfl, rfl, ⟨_, _, rfl, rfl, ⟨A4, c4, rfl, l4, g4⟩⟩⟩⟩⟩ := h; exact ⟨A4, c4, rfl, l4, g4⟩
theorem k173_mk (w : World) (x : S173) {A4 : Option Addr} {c4 : Nat} (l4 : x.f4.length ≤ c4) (g4 : k136.C w A4 x.f4.length x.f4) : k173.K w x [.int .i64 x.f0, .string x.f1, .int .i64 x.f2, .int .i64 x.f3, .slice A4 x.f4.length c4] := ⟨[.int .i64 x.f0], [.string x.f1, .int .i64 x.f2, .int .i64 x.f3, .slice A4 x.f4.length c4], rfl, rfl, ⟨[.string x.f1], [.int .i64 x.f2, .int .i64 x.f3, .slice A4 x.f4.length c4], rfl, rfl, ⟨[.int .i64 x.f2], [.int .i64 x.f3, .slice A4 x.f4.length c4], rfl, rfl, ⟨[.int .i64 x.f3], [.slice A4 x.f4.length c4], rfl, rfl, ⟨A4, c4, rfl, l4, g4⟩⟩⟩⟩⟩
def rd_T173 (xs : List S173) (i : Int) : S173 := xs.getD i.toNat z173
theorem at_T173 {w : World} {A : Option Addr} {n : Nat} {xs : List S173} (h : Kd.C k173 w A n xs) (i : Int) (h0 : 0 ≤ i) (h1 : i < n) : ∃ ad A4 c4, A = some ad ∧ w.cell? (ad.add (i.toNat * 5)) = some (.int .i64 (rd_T173 xs i).f0) ∧ w.cell? ⟨(ad.add (i.toNat * 5)).block, (ad.add (i.toNat * 5)).off + 1, none⟩ = some (.string (rd_T173 xs i).f1) ∧ w.cell? ⟨(ad.add (i.toNat * 5)).block, (ad.add (i.toNat * 5)).off + 2, none⟩ = some (.int .i64 (rd_T173 xs i).f2) ∧ w.cell? ⟨(ad.add (i.toNat * 5)).block, (ad.add (i.toNat * 5)).off + 3, none⟩ = some (.int .i64 (rd_T173 xs i).f3) ∧ w.cell? ⟨(ad.add (i.toNat * 5)).block, (ad.add (i.toNat * 5)).off + 4, none⟩ = some (.slice A4 (rd_T173 xs i).f4.length c4) ∧ (rd_T173 xs i).f4.length ≤ c4 ∧ k136.C w A4 (rd_T173 xs i).f4.length (rd_T173 xs i).f4 := by
  obtain ⟨ad, c, e, _, hK, hc0⟩ := Kd.C_get h z173 i h0 h1; have hc : ∀ j u, c[j]? = some u → w.cell? (ad.add (i.toNat * 5 + j)) = some u := hc0; obtain ⟨A4, c4, rfl, l4, g4⟩ := k173_open hK; exact ⟨ad, A4, c4, e, hc 0 _ rfl, by rw [← add_field _ _ 1 (by omega)]; exact hc 1 _ rfl, by rw [← add_field _ _ 2 (by omega)]; exact hc 2 _ rfl, by rw [← add_field _ _ 3 (by omega)]; exact hc 3 _ rfl, by rw [← add_field _ _ 4 (by omega)]; exact hc 4 _ rfl, l4, g4⟩
structure S49 where
  f0 : Int
  f1 : Int
  f2 : ByteArray
  f3 : (List S49)
def z49 : S49 := ⟨(0 : Int), (0 : Int), (⟨#[]⟩ : ByteArray), ([] : List S49)⟩
def F49 (d : Kd S49) : Kd S49 := Kd.iso (Kd.pair (Kd.int .i64) (Kd.pair (Kd.int .i64) (Kd.pair Kd.string (Kd.slice 49 d)))) (fun x : S49 => (x.f0, x.f1, x.f2, x.f3))
theorem mono49 : Kd.Mono F49 := Kd.mono_iso _ (Kd.mono_pair (Kd.mono_const _) (Kd.mono_pair (Kd.mono_const _) (Kd.mono_pair (Kd.mono_const _) (Kd.mono_slice 49 Kd.mono_id))))
theorem sub49 : Kd.Sub F49 [49] := Kd.sub_iso _ (Kd.sub_pair (Kd.sub_const _ (by decide)) (Kd.sub_pair (Kd.sub_const _ (by decide)) (Kd.sub_pair (Kd.sub_const _ (by decide)) (Kd.sub_slice 49 (by decide) Kd.sub_id))))
theorem sz49 : ∀ n, (Kd.upto F49 4 [49] n).sz = 4 := Kd.upto_sz (fun _ => rfl)
def k49 : Kd S49 := Kd.fix F49 4 [49] sz49 (Kd.upto_E sub49)
theorem k49_heap : Kd.Heap k49 := Kd.heap_fix (fun _ h_ => Kd.heap_iso _ (Kd.heap_pair (Kd.heap_int .i64) (Kd.heap_pair (Kd.heap_int .i64) (Kd.heap_pair Kd.heap_string (Kd.heap_slice 49 h_)))))
theorem k49_open {w : World} {x : S49} {cs : List Value} (h : k49.K w x cs) : ∃ A3 c3, cs = [.int .i64 x.f0, .int .i64 x.f1, .string x.f2, .slice A3 x.f3.length c3] ∧ x.f3.length ≤ c3 ∧ k49.C w A3 x.f3.length x.f3 := by
  obtain ⟨n, h⟩ := h
  cases n with
  | zero => exact h.elim
  | succ n =>
    obtain ⟨_, _, rfl, rfl, ⟨_, _, rfl, rfl, ⟨_, _, rfl, rfl, ⟨A3, c3, rfl, l3, g3⟩⟩⟩⟩ := h; exact ⟨A3, c3, rfl, l3, Kd.fix_C g3⟩
theorem k49_openM {w : World} {base : Nat} {ok : Nat → Prop} {x : S49} {cs : List Value} (h : k49.M w base ok x cs) : ∃ v3, cs = [.int .i64 x.f0, .int .i64 x.f1, .string x.f2, v3] ∧ k49.R 49 w base ok v3 x.f3 := by
  obtain ⟨n, h⟩ := h
  cases n with
  | zero => exact h.elim
  | succ n =>
    obtain ⟨_, _, rfl, rfl, ⟨_, _, rfl, rfl, ⟨_, _, rfl, rfl, ⟨v3, rfl, g3⟩⟩⟩⟩ := h; exact ⟨v3, rfl, Kd.fix_R g3⟩
theorem k49_mkM (w : World) (base : Nat) (ok : Nat → Prop) (x : S49) {v3 : Value} (g3 : k49.R 49 w base ok v3 x.f3) : k49.M w base ok x [.int .i64 x.f0, .int .i64 x.f1, .string x.f2, v3] := by
  obtain ⟨n3, q3⟩ := Kd.fix_R_back mono49 g3; have r3 := Kd.upto_R_le mono49 sz49 (show n3 ≤ n3 by omega) q3; exact ⟨n3 + 1, ⟨[.int .i64 x.f0], [.int .i64 x.f1, .string x.f2, v3], rfl, rfl, ⟨[.int .i64 x.f1], [.string x.f2, v3], rfl, rfl, ⟨[.string x.f2], [v3], rfl, rfl, ⟨v3, rfl, r3⟩⟩⟩⟩⟩
def rd_T49 (xs : List S49) (i : Int) : S49 := xs.getD i.toNat z49
theorem at_T49 {w : World} {A : Option Addr} {n : Nat} {xs : List S49} (h : Kd.C k49 w A n xs) (i : Int) (h0 : 0 ≤ i) (h1 : i < n) : ∃ ad A3 c3, A = some ad ∧ w.cell? (ad.add (i.toNat * 4)) = some (.int .i64 (rd_T49 xs i).f0) ∧ w.cell? ⟨(ad.add (i.toNat * 4)).block, (ad.add (i.toNat * 4)).off + 1, none⟩ = some (.int .i64 (rd_T49 xs i).f1) ∧ w.cell? ⟨(ad.add (i.toNat * 4)).block, (ad.add (i.toNat * 4)).off + 2, none⟩ = some (.string (rd_T49 xs i).f2) ∧ w.cell? ⟨(ad.add (i.toNat * 4)).block, (ad.add (i.toNat * 4)).off + 3, none⟩ = some (.slice A3 (rd_T49 xs i).f3.length c3) ∧ (rd_T49 xs i).f3.length ≤ c3 ∧ k49.C w A3 (rd_T49 xs i).f3.length (rd_T49 xs i).f3 := by
  obtain ⟨ad, c, e, _, hK, hc0⟩ := Kd.C_get h z49 i h0 h1; have hc : ∀ j u, c[j]? = some u → w.cell? (ad.add (i.toNat * 4 + j)) = some u := hc0; obtain ⟨A3, c3, rfl, l3, g3⟩ := k49_open hK; exact ⟨ad, A3, c3, e, hc 0 _ rfl, by rw [← add_field _ _ 1 (by omega)]; exact hc 1 _ rfl, by rw [← add_field _ _ 2 (by omega)]; exact hc 2 _ rfl, by rw [← add_field _ _ 3 (by omega)]; exact hc 3 _ rfl, l3, g3⟩
structure S140 where
  f0 : ByteArray
  f1 : S49
def z140 : S140 := ⟨(⟨#[]⟩ : ByteArray), z49⟩
def k140 : Kd S140 := Kd.iso (Kd.pair Kd.string k49) (fun x : S140 => (x.f0, x.f1))
theorem k140_heap : Kd.Heap k140 := Kd.heap_iso _ (Kd.heap_pair Kd.heap_string k49_heap)
theorem k140_open {w : World} {x : S140} {cs : List Value} (h : k140.K w x cs) : ∃ A4 c4, cs = [.string x.f0, .int .i64 x.f1.f0, .int .i64 x.f1.f1, .string x.f1.f2, .slice A4 x.f1.f3.length c4] ∧ x.f1.f3.length ≤ c4 ∧ k49.C w A4 x.f1.f3.length x.f1.f3 := by
  obtain ⟨_, _, rfl, rfl, s1⟩ := h; obtain ⟨A4, c4, rfl, l4, g4⟩ := k49_open s1; exact ⟨A4, c4, rfl, l4, g4⟩
theorem k140_openM {w : World} {base : Nat} {ok : Nat → Prop} {x : S140} {cs : List Value} (h : k140.M w base ok x cs) : ∃ v4, cs = [.string x.f0, .int .i64 x.f1.f0, .int .i64 x.f1.f1, .string x.f1.f2, v4] ∧ k49.R 49 w base ok v4 x.f1.f3 := by
  obtain ⟨_, _, rfl, rfl, s1⟩ := h; obtain ⟨v4, rfl, g4⟩ := k49_openM s1; exact ⟨v4, rfl, g4⟩
theorem k140_mkM (w : World) (base : Nat) (ok : Nat → Prop) (x : S140) {v4 : Value} (g4 : k49.R 49 w base ok v4 x.f1.f3) : k140.M w base ok x [.string x.f0, .int .i64 x.f1.f0, .int .i64 x.f1.f1, .string x.f1.f2, v4] := ⟨[.string x.f0], [.int .i64 x.f1.f0, .int .i64 x.f1.f1, .string x.f1.f2, v4], rfl, rfl, (k49_mkM w base ok x.f1 g4)⟩
theorem k140_openF {W : World} {ok : Nat → Prop} {x : S140} {cs : List Value} (h : Kd.FK k140 W ok x cs) : ∃ A4 c4, cs = [.string x.f0, .int .i64 x.f1.f0, .int .i64 x.f1.f1, .string x.f1.f2, .slice A4 x.f1.f3.length c4] ∧ x.f1.f3.length ≤ c4 ∧ Kd.F k49 W ok A4 x.f1.f3.length x.f1.f3 := by
  obtain ⟨A4, c4, rfl, l4, _⟩ := k140_open (Kd.FK_now h); exact ⟨A4, c4, rfl, l4, (fun W' hW => by obtain ⟨A4_, c4_, he, l4_, g4_⟩ := k140_open (h W' hW); injection (Option.some.inj (show some (Value.slice A4 x.f1.f3.length c4) = some (Value.slice A4_ x.f1.f3.length c4_) from congrArg (fun l => l[4]?) he)) with ha_ _ _; rw [ha_]; exact g4_)⟩
def rd_T140 (xs : List S140) (i : Int) : S140 := xs.getD i.toNat z140
theorem at_T140 {w : World} {A : Option Addr} {n : Nat} {xs : List S140} (h : Kd.C k140 w A n xs) (i : Int) (h0 : 0 ≤ i) (h1 : i < n) : ∃ ad A4 c4, A = some ad ∧ w.cell? (ad.add (i.toNat * 5)) = some (.string (rd_T140 xs i).f0) ∧ w.cell? ⟨(ad.add (i.toNat * 5)).block, (ad.add (i.toNat * 5)).off + 1, none⟩ = some (.int .i64 (rd_T140 xs i).f1.f0) ∧ w.cell? ⟨(ad.add (i.toNat * 5)).block, (ad.add (i.toNat * 5)).off + 2, none⟩ = some (.int .i64 (rd_T140 xs i).f1.f1) ∧ w.cell? ⟨(ad.add (i.toNat * 5)).block, (ad.add (i.toNat * 5)).off + 3, none⟩ = some (.string (rd_T140 xs i).f1.f2) ∧ w.cell? ⟨(ad.add (i.toNat * 5)).block, (ad.add (i.toNat * 5)).off + 4, none⟩ = some (.slice A4 (rd_T140 xs i).f1.f3.length c4) ∧ (rd_T140 xs i).f1.f3.length ≤ c4 ∧ k49.C w A4 (rd_T140 xs i).f1.f3.length (rd_T140 xs i).f1.f3 := by
  obtain ⟨ad, c, e, _, hK, hc0⟩ := Kd.C_get h z140 i h0 h1; have hc : ∀ j u, c[j]? = some u → w.cell? (ad.add (i.toNat * 5 + j)) = some u := hc0; obtain ⟨A4, c4, rfl, l4, g4⟩ := k140_open hK; exact ⟨ad, A4, c4, e, hc 0 _ rfl, by rw [← add_field _ _ 1 (by omega)]; exact hc 1 _ rfl, by rw [← add_field _ _ 2 (by omega)]; exact hc 2 _ rfl, by rw [← add_field _ _ 3 (by omega)]; exact hc 3 _ rfl, by rw [← add_field _ _ 4 (by omega)]; exact hc 4 _ rfl, l4, g4⟩
structure S99 where
  f0 : Int
  f1 : (List ByteArray)
  f2 : (List S140)
def z99 : S99 := ⟨(0 : Int), ([] : List ByteArray), ([] : List S140)⟩
def k99 : Kd S99 := Kd.iso (Kd.pair (Kd.int .i64) (Kd.pair (Kd.slice 9 Kd.string) (Kd.slice 140 k140))) (fun x : S99 => (x.f0, x.f1, x.f2))
theorem k99_heap : Kd.Heap k99 := Kd.heap_iso _ (Kd.heap_pair (Kd.heap_int .i64) (Kd.heap_pair (Kd.heap_slice 9 Kd.heap_string) (Kd.heap_slice 140 k140_heap)))
theorem k99_open {w : World} {x : S99} {cs : List Value} (h : k99.K w x cs) : ∃ A1 c1 A2 c2, cs = [.int .i64 x.f0, .slice A1 x.f1.length c1, .slice A2 x.f2.length c2] ∧ x.f1.length ≤ c1 ∧ Kd.string.C w A1 x.f1.length x.f1 ∧ x.f2.length ≤ c2 ∧ k140.C w A2 x.f2.length x.f2 := by
  obtain ⟨_, _, rfl, rfl, ⟨_, _, rfl, ⟨A1, c1, rfl, l1, g1⟩, ⟨A2, c2, rfl, l2, g2⟩⟩⟩ := h; exact ⟨A1, c1, A2, c2, rfl, l1, g1, l2, g2⟩
theorem k99_openM {w : World} {base : Nat} {ok : Nat → Prop} {x : S99} {cs : List Value} (h : k99.M w base ok x cs) : ∃ v1 v2, cs = [.int .i64 x.f0, v1, v2] ∧ Kd.string.R 9 w base ok v1 x.f1 ∧ k140.R 140 w base ok v2 x.f2 := by
  obtain ⟨_, _, rfl, rfl, ⟨_, _, rfl, ⟨v1, rfl, g1⟩, ⟨v2, rfl, g2⟩⟩⟩ := h; exact ⟨v1, v2, rfl, g1, g2⟩
theorem k99_mkM (w : World) (base : Nat) (ok : Nat → Prop) (x : S99) {v1 : Value} (g1 : Kd.string.R 9 w base ok v1 x.f1) {v2 : Value} (g2 : k140.R 140 w base ok v2 x.f2) : k99.M w base ok x [.int .i64 x.f0, v1, v2] := ⟨[.int .i64 x.f0], [v1, v2], rfl, rfl, ⟨[v1], [v2], rfl, ⟨v1, rfl, g1⟩, ⟨v2, rfl, g2⟩⟩⟩
theorem k99_openF {W : World} {ok : Nat → Prop} {x : S99} {cs : List Value} (h : Kd.FK k99 W ok x cs) : ∃ A1 c1 A2 c2, cs = [.int .i64 x.f0, .slice A1 x.f1.length c1, .slice A2 x.f2.length c2] ∧ x.f1.length ≤ c1 ∧ Kd.F Kd.string W ok A1 x.f1.length x.f1 ∧ x.f2.length ≤ c2 ∧ Kd.F k140 W ok A2 x.f2.length x.f2 := by
  obtain ⟨A1, c1, A2, c2, rfl, l1, _, l2, _⟩ := k99_open (Kd.FK_now h); exact ⟨A1, c1, A2, c2, rfl, l1, (fun W' hW => by obtain ⟨A1_, c1_, A2_, c2_, he, l1_, g1_, l2_, g2_⟩ := k99_open (h W' hW); injection (Option.some.inj (show some (Value.slice A1 x.f1.length c1) = some (Value.slice A1_ x.f1.length c1_) from congrArg (fun l => l[1]?) he)) with ha_ _ _; rw [ha_]; exact g1_), l2, (fun W' hW => by obtain ⟨A1_, c1_, A2_, c2_, he, l1_, g1_, l2_, g2_⟩ := k99_open (h W' hW); injection (Option.some.inj (show some (Value.slice A2 x.f2.length c2) = some (Value.slice A2_ x.f2.length c2_) from congrArg (fun l => l[2]?) he)) with ha_ _ _; rw [ha_]; exact g2_)⟩
def rd_T99 (xs : List S99) (i : Int) : S99 := xs.getD i.toNat z99
theorem at_T99 {w : World} {A : Option Addr} {n : Nat} {xs : List S99} (h : Kd.C k99 w A n xs) (i : Int) (h0 : 0 ≤ i) (h1 : i < n) : ∃ ad A1 c1 A2 c2, A = some ad ∧ w.cell? (ad.add (i.toNat * 3)) = some (.int .i64 (rd_T99 xs i).f0) ∧ w.cell? ⟨(ad.add (i.toNat * 3)).block, (ad.add (i.toNat * 3)).off + 1, none⟩ = some (.slice A1 (rd_T99 xs i).f1.length c1) ∧ w.cell? ⟨(ad.add (i.toNat * 3)).block, (ad.add (i.toNat * 3)).off + 2, none⟩ = some (.slice A2 (rd_T99 xs i).f2.length c2) ∧ (rd_T99 xs i).f1.length ≤ c1 ∧ Kd.string.C w A1 (rd_T99 xs i).f1.length (rd_T99 xs i).f1 ∧ (rd_T99 xs i).f2.length ≤ c2 ∧ k140.C w A2 (rd_T99 xs i).f2.length (rd_T99 xs i).f2 := by
  obtain ⟨ad, c, e, _, hK, hc0⟩ := Kd.C_get h z99 i h0 h1; have hc : ∀ j u, c[j]? = some u → w.cell? (ad.add (i.toNat * 3 + j)) = some u := hc0; obtain ⟨A1, c1, A2, c2, rfl, l1, g1, l2, g2⟩ := k99_open hK; exact ⟨ad, A1, c1, A2, c2, e, hc 0 _ rfl, by rw [← add_field _ _ 1 (by omega)]; exact hc 1 _ rfl, by rw [← add_field _ _ 2 (by omega)]; exact hc 2 _ rfl, l1, g1, l2, g2⟩
structure S104 where
  f0 : Int
  f1 : ByteArray
  f2 : Int
  f3 : Int
  f4 : (List S140)
def z104 : S104 := ⟨(0 : Int), (⟨#[]⟩ : ByteArray), (0 : Int), (0 : Int), ([] : List S140)⟩
def k104 : Kd S104 := Kd.iso (Kd.pair (Kd.int .i64) (Kd.pair Kd.string (Kd.pair (Kd.int .i64) (Kd.pair (Kd.int .i64) (Kd.slice 140 k140))))) (fun x : S104 => (x.f0, x.f1, x.f2, x.f3, x.f4))
theorem k104_heap : Kd.Heap k104 := Kd.heap_iso _ (Kd.heap_pair (Kd.heap_int .i64) (Kd.heap_pair Kd.heap_string (Kd.heap_pair (Kd.heap_int .i64) (Kd.heap_pair (Kd.heap_int .i64) (Kd.heap_slice 140 k140_heap)))))
theorem k104_open {w : World} {x : S104} {cs : List Value} (h : k104.K w x cs) : ∃ A4 c4, cs = [.int .i64 x.f0, .string x.f1, .int .i64 x.f2, .int .i64 x.f3, .slice A4 x.f4.length c4] ∧ x.f4.length ≤ c4 ∧ k140.C w A4 x.f4.length x.f4 := by
  obtain ⟨_, _, rfl, rfl, ⟨_, _, rfl, rfl, ⟨_, _, rfl, rfl, ⟨_, _, rfl, rfl, ⟨A4, c4, rfl, l4, g4⟩⟩⟩⟩⟩ := h; exact ⟨A4, c4, rfl, l4, g4⟩
theorem k104_openM {w : World} {base : Nat} {ok : Nat → Prop} {x : S104} {cs : List Value} (h : k104.M w base ok x cs) : ∃ v4, cs = [.int .i64 x.f0, .string x.f1, .int .i64 x.f2, .int .i64 x.f3, v4] ∧ k140.R 140 w base ok v4 x.f4 := by
  obtain ⟨_, _, rfl, rfl, ⟨_, _, rfl, rfl, ⟨_, _, rfl, rfl, ⟨_, _, rfl, rfl, ⟨v4, rfl, g4⟩⟩⟩⟩⟩ := h; exact ⟨v4, rfl, g4⟩
theorem k104_mkM (w : World) (base : Nat) (ok : Nat → Prop) (x : S104) {v4 : Value} (g4 : k140.R 140 w base ok v4 x.f4) : k104.M w base ok x [.int .i64 x.f0, .string x.f1, .int .i64 x.f2, .int .i64 x.f3, v4] := ⟨[.int .i64 x.f0], [.string x.f1, .int .i64 x.f2, .int .i64 x.f3, v4], rfl, rfl, ⟨[.string x.f1], [.int .i64 x.f2, .int .i64 x.f3, v4], rfl, rfl, ⟨[.int .i64 x.f2], [.int .i64 x.f3, v4], rfl, rfl, ⟨[.int .i64 x.f3], [v4], rfl, rfl, ⟨v4, rfl, g4⟩⟩⟩⟩⟩
theorem k104_openF {W : World} {ok : Nat → Prop} {x : S104} {cs : List Value} (h : Kd.FK k104 W ok x cs) : ∃ A4 c4, cs = [.int .i64 x.f0, .string x.f1, .int .i64 x.f2, .int .i64 x.f3, .slice A4 x.f4.length c4] ∧ x.f4.length ≤ c4 ∧ Kd.F k140 W ok A4 x.f4.length x.f4 := by
  obtain ⟨A4, c4, rfl, l4, _⟩ := k104_open (Kd.FK_now h); exact ⟨A4, c4, rfl, l4, (fun W' hW => by obtain ⟨A4_, c4_, he, l4_, g4_⟩ := k104_open (h W' hW); injection (Option.some.inj (show some (Value.slice A4 x.f4.length c4) = some (Value.slice A4_ x.f4.length c4_) from congrArg (fun l => l[4]?) he)) with ha_ _ _; rw [ha_]; exact g4_)⟩
def rd_T104 (xs : List S104) (i : Int) : S104 := xs.getD i.toNat z104
theorem at_T104 {w : World} {A : Option Addr} {n : Nat} {xs : List S104} (h : Kd.C k104 w A n xs) (i : Int) (h0 : 0 ≤ i) (h1 : i < n) : ∃ ad A4 c4, A = some ad ∧ w.cell? (ad.add (i.toNat * 5)) = some (.int .i64 (rd_T104 xs i).f0) ∧ w.cell? ⟨(ad.add (i.toNat * 5)).block, (ad.add (i.toNat * 5)).off + 1, none⟩ = some (.string (rd_T104 xs i).f1) ∧ w.cell? ⟨(ad.add (i.toNat * 5)).block, (ad.add (i.toNat * 5)).off + 2, none⟩ = some (.int .i64 (rd_T104 xs i).f2) ∧ w.cell? ⟨(ad.add (i.toNat * 5)).block, (ad.add (i.toNat * 5)).off + 3, none⟩ = some (.int .i64 (rd_T104 xs i).f3) ∧ w.cell? ⟨(ad.add (i.toNat * 5)).block, (ad.add (i.toNat * 5)).off + 4, none⟩ = some (.slice A4 (rd_T104 xs i).f4.length c4) ∧ (rd_T104 xs i).f4.length ≤ c4 ∧ k140.C w A4 (rd_T104 xs i).f4.length (rd_T104 xs i).f4 := by
  obtain ⟨ad, c, e, _, hK, hc0⟩ := Kd.C_get h z104 i h0 h1; have hc : ∀ j u, c[j]? = some u → w.cell? (ad.add (i.toNat * 5 + j)) = some u := hc0; obtain ⟨A4, c4, rfl, l4, g4⟩ := k104_open hK; exact ⟨ad, A4, c4, e, hc 0 _ rfl, by rw [← add_field _ _ 1 (by omega)]; exact hc 1 _ rfl, by rw [← add_field _ _ 2 (by omega)]; exact hc 2 _ rfl, by rw [← add_field _ _ 3 (by omega)]; exact hc 3 _ rfl, by rw [← add_field _ _ 4 (by omega)]; exact hc 4 _ rfl, l4, g4⟩
structure S25 where
  f0 : (List S170)
  f1 : (List S173)
  f2 : Int
  f3 : Int
def k25 : Kd S25 := Kd.iso (Kd.pair (Kd.slice 170 k170) (Kd.pair (Kd.slice 173 k173) (Kd.pair (Kd.int .i64) (Kd.int .i64)))) (fun x : S25 => (x.f0, x.f1, x.f2, x.f3))
theorem k25_open {w : World} {x : S25} {cs : List Value} (h : k25.K w x cs) : ∃ A0 c0 A1 c1, cs = [.slice A0 x.f0.length c0, .slice A1 x.f1.length c1, .int .i64 x.f2, .int .i64 x.f3] ∧ x.f0.length ≤ c0 ∧ k170.C w A0 x.f0.length x.f0 ∧ x.f1.length ≤ c1 ∧ k173.C w A1 x.f1.length x.f1 := by
  obtain ⟨_, _, rfl, ⟨A0, c0, rfl, l0, g0⟩, ⟨_, _, rfl, ⟨A1, c1, rfl, l1, g1⟩, ⟨_, _, rfl, rfl, rfl⟩⟩⟩ := h; exact ⟨A0, c0, A1, c1, rfl, l0, g0, l1, g1⟩
theorem k25_mk (w : World) (x : S25) {A0 : Option Addr} {c0 : Nat} (l0 : x.f0.length ≤ c0) (g0 : k170.C w A0 x.f0.length x.f0) {A1 : Option Addr} {c1 : Nat} (l1 : x.f1.length ≤ c1) (g1 : k173.C w A1 x.f1.length x.f1) : k25.K w x [.slice A0 x.f0.length c0, .slice A1 x.f1.length c1, .int .i64 x.f2, .int .i64 x.f3] := ⟨[.slice A0 x.f0.length c0], [.slice A1 x.f1.length c1, .int .i64 x.f2, .int .i64 x.f3], rfl, ⟨A0, c0, rfl, l0, g0⟩, ⟨[.slice A1 x.f1.length c1], [.int .i64 x.f2, .int .i64 x.f3], rfl, ⟨A1, c1, rfl, l1, g1⟩, ⟨[.int .i64 x.f2], [.int .i64 x.f3], rfl, rfl, rfl⟩⟩⟩
end Go.Proofs.Ytcchmhmbjhgfdaa.G
namespace Go.Proofs.Ytcchmhmbjhgfdaa.G
open Go.RowKit Go.Proofs.YtcchmhmbjhgfdaaW.PrintWords Go.Proofs.YtcchmhmbjhgfdaaW.PrintLast Go.Proofs.YtcchmhmbjhgfdaaW.PrintMore
attribute [local go_sem] max2_int min2_int max_two min_two max_three min_three max_four min_four Own.str_gtr Own.str_leq Own.str_geq Own.sto_fn   -- for this text's walks alone
open Own
set_option linter.unusedVariables false
set_option linter.unusedSimpArgs false
open Opn
inductive Ok45 : S45 → Prop
  | mk {x : S45} (h0 : (Lit.int .i64 x.f0).wf = true) (h1 : (Lit.int .i64 x.f1).wf = true) (h2 : x.f2.size ≤ maxLen) (h3 : x.f3.length ≤ maxLen) (h4 : ∀ y_ ∈ x.f3, Ok45 y_) : Ok45 x
theorem Ok45.all {x : S45} (h : Ok45 x) : ((Lit.int .i64 x.f0).wf = true) ∧ ((Lit.int .i64 x.f1).wf = true) ∧ (x.f2.size ≤ maxLen) ∧ (x.f3.length ≤ maxLen) ∧ (∀ y_ ∈ x.f3, Ok45 y_) := by
  cases h with
  | mk h0 h1 h2 h3 h4 => exact ⟨h0, h1, h2, h3, h4⟩
theorem open45 : ∀ n, OpensAt Try.prog n 45 k45 Ok45 := by
  intro n
  induction n using Nat.strongRecOn with
  | _ n ih =>
  intro H enc w cs x h
  obtain ⟨m, rfl, hl, hf⟩ := fields_of Try.underlying45 h; obtain ⟨y0, g0⟩ := hf 0 _ rfl; obtain ⟨y1, g1⟩ := hf 1 _ rfl; obtain ⟨y2, g2⟩ := hf 2 _ rfl; obtain ⟨y3, g3⟩ := hf 3 _ rfl; rw [show Try.prog.cellsOf 45 = 4 from by kernel_rfl] at hl; obtain ⟨c0, r0, rfl, hl0⟩ := len_cons hl; obtain ⟨c1, r1, rfl, hl1⟩ := len_cons hl0; obtain ⟨c2, r2, rfl, hl2⟩ := len_cons hl1; obtain ⟨c3, r3, rfl, hl3⟩ := len_cons hl2; obtain rfl := List.eq_nil_of_length_eq_zero hl3; replace g0 : DataW.trod enc Try.prog w 0 (fun _ => true) true m 3 ((([c0, c1, c2, c3] : List Value).drop 0).take (Try.prog.cellsOf 3)) = some y0 := g0; rw [show Try.prog.cellsOf 3 = 1 from by kernel_rfl] at g0; replace g0 : DataW.trod enc Try.prog w 0 (fun _ => true) true m 3 [c0] = some y0 := g0; replace g1 : DataW.trod enc Try.prog w 0 (fun _ => true) true m 3 ((([c0, c1, c2, c3] : List Value).drop 1).take (Try.prog.cellsOf 3)) = some y1 := g1; rw [show Try.prog.cellsOf 3 = 1 from by kernel_rfl] at g1; replace g1 : DataW.trod enc Try.prog w 0 (fun _ => true) true m 3 [c1] = some y1 := g1; replace g2 : DataW.trod enc Try.prog w 0 (fun _ => true) true m 9 ((([c0, c1, c2, c3] : List Value).drop 2).take (Try.prog.cellsOf 9)) = some y2 := g2; rw [show Try.prog.cellsOf 9 = 1 from by kernel_rfl] at g2; replace g2 : DataW.trod enc Try.prog w 0 (fun _ => true) true m 9 [c2] = some y2 := g2
  replace g3 : DataW.trod enc Try.prog w 0 (fun _ => true) true m 43 ((([c0, c1, c2, c3] : List Value).drop 3).take (Try.prog.cellsOf 43)) = some y3 := g3; rw [show Try.prog.cellsOf 43 = 1 from by kernel_rfl] at g3; replace g3 : DataW.trod enc Try.prog w 0 (fun _ => true) true m 43 [c3] = some y3 := g3; obtain ⟨z0, K0, q0⟩ := (op_int (n := m) Try.underlying3) H enc w _ _ g0; have e0 := K0; replace e0 : [c0] = _ := e0; simp only [List.cons.injEq, and_true] at e0; obtain rfl := e0; obtain ⟨z1, K1, q1⟩ := (op_int (n := m) Try.underlying3) H enc w _ _ g1; have e1 := K1; replace e1 : [c1] = _ := e1; simp only [List.cons.injEq, and_true] at e1; obtain rfl := e1; obtain ⟨z2, K2, q2⟩ := (op_string (n := m) Try.underlying9) H enc w _ _ g2; have e2 := K2; replace e2 : [c2] = _ := e2; simp only [List.cons.injEq, and_true] at e2; obtain rfl := e2; obtain ⟨z3, K3, q3⟩ := op_slice (n := m) Try.underlying43 (show Try.prog.cellsOf 45 = k45.sz from by kernel_rfl) (fun m_ hm_ => ih m_ (by omega)) H enc w _ _ g3; obtain ⟨A3, C3, e3, l3, G3⟩ := K3; replace e3 : [c3] = _ := e3; simp only [List.cons.injEq, and_true] at e3; obtain rfl := e3; exact ⟨(⟨z0, z1, z2, z3⟩ : S45), k45_mk w (⟨z0, z1, z2, z3⟩ : S45) l3 G3, Ok45.mk q0 q1 q2 q3.1 q3.2⟩
end Go.Proofs.Ytcchmhmbjhgfdaa.G
namespace Go.Proofs.Ytcchmhmbjhgfdaa.G
open Go.RowKit Go.Proofs.YtcchmhmbjhgfdaaW.PrintWords Go.Proofs.YtcchmhmbjhgfdaaW.PrintLast Go.Proofs.YtcchmhmbjhgfdaaW.PrintMore
attribute [local go_sem] max2_int min2_int max_two min_two max_three min_three max_four min_four Own.str_gtr Own.str_leq Own.str_geq Own.sto_fn   -- for this text's walks alone
open Own
set_option linter.unusedVariables false
set_option linter.unusedSimpArgs false
open Opn
inductive Ok136 : S136 → Prop
  | mk {x : S136} (h0 : x.f0.size ≤ maxLen) (h1 : Ok45 x.f1) : Ok136 x
theorem Ok136.all {x : S136} (h : Ok136 x) : (x.f0.size ≤ maxLen) ∧ (Ok45 x.f1) := by
  cases h with
  | mk h0 h1 => exact ⟨h0, h1⟩
theorem open136 : ∀ n, OpensAt Try.prog n 136 k136 Ok136 := by
  intro n
  induction n using Nat.strongRecOn with
  | _ n _ =>
  intro H enc w cs x h
  obtain ⟨m, rfl, hl, hf⟩ := fields_of Try.underlying136 h; obtain ⟨y0, g0⟩ := hf 0 _ rfl; obtain ⟨y1, g1⟩ := hf 1 _ rfl; rw [show Try.prog.cellsOf 136 = 5 from by kernel_rfl] at hl; obtain ⟨c0, r0, rfl, hl0⟩ := len_cons hl; obtain ⟨c1, r1, rfl, hl1⟩ := len_cons hl0; obtain ⟨c2, r2, rfl, hl2⟩ := len_cons hl1; obtain ⟨c3, r3, rfl, hl3⟩ := len_cons hl2; obtain ⟨c4, r4, rfl, hl4⟩ := len_cons hl3; obtain rfl := List.eq_nil_of_length_eq_zero hl4; replace g0 : DataW.trod enc Try.prog w 0 (fun _ => true) true m 9 ((([c0, c1, c2, c3, c4] : List Value).drop 0).take (Try.prog.cellsOf 9)) = some y0 := g0; rw [show Try.prog.cellsOf 9 = 1 from by kernel_rfl] at g0; replace g0 : DataW.trod enc Try.prog w 0 (fun _ => true) true m 9 [c0] = some y0 := g0; replace g1 : DataW.trod enc Try.prog w 0 (fun _ => true) true m 45 ((([c0, c1, c2, c3, c4] : List Value).drop 1).take (Try.prog.cellsOf 45)) = some y1 := g1; rw [show Try.prog.cellsOf 45 = 4 from by kernel_rfl] at g1; replace g1 : DataW.trod enc Try.prog w 0 (fun _ => true) true m 45 [c1, c2, c3, c4] = some y1 := g1; obtain ⟨z0, K0, q0⟩ := (op_string (n := m) Try.underlying9) H enc w _ _ g0; have e0 := K0; replace e0 : [c0] = _ := e0; simp only [List.cons.injEq, and_true] at e0; obtain rfl := e0; obtain ⟨z1, K1, q1⟩ := open45 m H enc w _ _ g1; obtain ⟨A1_3, C1_3, e1, l4, G4⟩ := k45_open K1; replace e1 : [c1, c2, c3, c4] = _ := e1; simp only [List.cons.injEq, and_true] at e1; obtain ⟨rfl, rfl, rfl, rfl⟩ := e1
  exact ⟨(⟨z0, z1⟩ : S136), k136_mk w (⟨z0, z1⟩ : S136) l4 G4, Ok136.mk q0 q1⟩
end Go.Proofs.Ytcchmhmbjhgfdaa.G
namespace Go.Proofs.Ytcchmhmbjhgfdaa.G
open Go.RowKit Go.Proofs.YtcchmhmbjhgfdaaW.PrintWords Go.Proofs.YtcchmhmbjhgfdaaW.PrintLast Go.Proofs.YtcchmhmbjhgfdaaW.PrintMore
attribute [local go_sem] max2_int min2_int max_two min_two max_three min_three max_four min_four Own.str_gtr Own.str_leq Own.str_geq Own.sto_fn   -- for this text's walks alone
open Own
set_option linter.unusedVariables false
set_option linter.unusedSimpArgs false
open Opn
inductive Ok170 : S170 → Prop
  | mk {x : S170} (h0 : (Lit.int .i64 x.f0).wf = true) (h1 : x.f1.length ≤ maxLen) (h2 : ∀ y_ ∈ x.f1, y_.size ≤ maxLen) (h3 : x.f2.length ≤ maxLen) (h4 : ∀ y_ ∈ x.f2, Ok136 y_) : Ok170 x
theorem Ok170.all {x : S170} (h : Ok170 x) : ((Lit.int .i64 x.f0).wf = true) ∧ (x.f1.length ≤ maxLen) ∧ (∀ y_ ∈ x.f1, y_.size ≤ maxLen) ∧ (x.f2.length ≤ maxLen) ∧ (∀ y_ ∈ x.f2, Ok136 y_) := by
  cases h with
  | mk h0 h1 h2 h3 h4 => exact ⟨h0, h1, h2, h3, h4⟩
theorem open170 : ∀ n, OpensAt Try.prog n 170 k170 Ok170 := by
  intro n
  induction n using Nat.strongRecOn with
  | _ n _ =>
  intro H enc w cs x h
  obtain ⟨m, rfl, hl, hf⟩ := fields_of Try.underlying170 h; obtain ⟨y0, g0⟩ := hf 0 _ rfl; obtain ⟨y1, g1⟩ := hf 1 _ rfl; obtain ⟨y2, g2⟩ := hf 2 _ rfl; rw [show Try.prog.cellsOf 170 = 3 from by kernel_rfl] at hl; obtain ⟨c0, r0, rfl, hl0⟩ := len_cons hl; obtain ⟨c1, r1, rfl, hl1⟩ := len_cons hl0; obtain ⟨c2, r2, rfl, hl2⟩ := len_cons hl1; obtain rfl := List.eq_nil_of_length_eq_zero hl2; replace g0 : DataW.trod enc Try.prog w 0 (fun _ => true) true m 3 ((([c0, c1, c2] : List Value).drop 0).take (Try.prog.cellsOf 3)) = some y0 := g0; rw [show Try.prog.cellsOf 3 = 1 from by kernel_rfl] at g0; replace g0 : DataW.trod enc Try.prog w 0 (fun _ => true) true m 3 [c0] = some y0 := g0; replace g1 : DataW.trod enc Try.prog w 0 (fun _ => true) true m 57 ((([c0, c1, c2] : List Value).drop 1).take (Try.prog.cellsOf 57)) = some y1 := g1; rw [show Try.prog.cellsOf 57 = 1 from by kernel_rfl] at g1; replace g1 : DataW.trod enc Try.prog w 0 (fun _ => true) true m 57 [c1] = some y1 := g1; replace g2 : DataW.trod enc Try.prog w 0 (fun _ => true) true m 58 ((([c0, c1, c2] : List Value).drop 2).take (Try.prog.cellsOf 58)) = some y2 := g2; rw [show Try.prog.cellsOf 58 = 1 from by kernel_rfl] at g2; replace g2 : DataW.trod enc Try.prog w 0 (fun _ => true) true m 58 [c2] = some y2 := g2; obtain ⟨z0, K0, q0⟩ := (op_int (n := m) Try.underlying3) H enc w _ _ g0; have e0 := K0; replace e0 : [c0] = _ := e0; simp only [List.cons.injEq, and_true] at e0; obtain rfl := e0
  obtain ⟨z1, K1, q1⟩ := op_slice (n := m) Try.underlying57 (show Try.prog.cellsOf 9 = Kd.string.sz from by kernel_rfl) (fun m_ hm_ => op_string Try.underlying9) H enc w _ _ g1; obtain ⟨A1, C1, e1, l1, G1⟩ := K1; replace e1 : [c1] = _ := e1; simp only [List.cons.injEq, and_true] at e1; obtain rfl := e1; obtain ⟨z2, K2, q2⟩ := op_slice (n := m) Try.underlying58 (show Try.prog.cellsOf 136 = k136.sz from by kernel_rfl) (fun m_ hm_ => open136 m_) H enc w _ _ g2; obtain ⟨A2, C2, e2, l2, G2⟩ := K2; replace e2 : [c2] = _ := e2; simp only [List.cons.injEq, and_true] at e2; obtain rfl := e2; exact ⟨(⟨z0, z1, z2⟩ : S170), k170_mk w (⟨z0, z1, z2⟩ : S170) l1 G1 l2 G2, Ok170.mk q0 q1.1 q1.2 q2.1 q2.2⟩
end Go.Proofs.Ytcchmhmbjhgfdaa.G
namespace Go.Proofs.Ytcchmhmbjhgfdaa.G
open Go.RowKit Go.Proofs.YtcchmhmbjhgfdaaW.PrintWords Go.Proofs.YtcchmhmbjhgfdaaW.PrintLast Go.Proofs.YtcchmhmbjhgfdaaW.PrintMore
attribute [local go_sem] max2_int min2_int max_two min_two max_three min_three max_four min_four Own.str_gtr Own.str_leq Own.str_geq Own.sto_fn   -- for this text's walks alone
open Own
set_option linter.unusedVariables false
set_option linter.unusedSimpArgs false
open Opn
inductive Ok173 : S173 → Prop
  | mk {x : S173} (h0 : (Lit.int .i64 x.f0).wf = true) (h1 : x.f1.size ≤ maxLen) (h2 : (Lit.int .i64 x.f2).wf = true) (h3 : (Lit.int .i64 x.f3).wf = true) (h4 : x.f4.length ≤ maxLen) (h5 : ∀ y_ ∈ x.f4, Ok136 y_) : Ok173 x
theorem Ok173.all {x : S173} (h : Ok173 x) : ((Lit.int .i64 x.f0).wf = true) ∧ (x.f1.size ≤ maxLen) ∧ ((Lit.int .i64 x.f2).wf = true) ∧ ((Lit.int .i64 x.f3).wf = true) ∧ (x.f4.length ≤ maxLen) ∧ (∀ y_ ∈ x.f4, Ok136 y_) := by
  cases h with
  | mk h0 h1 h2 h3 h4 h5 => exact ⟨h0, h1, h2, h3, h4, h5⟩
theorem open173 : ∀ n, OpensAt Try.prog n 173 k173 Ok173 := by
  intro n
  induction n using Nat.strongRecOn with
  | _ n _ =>
  intro H enc w cs x h
  obtain ⟨m, rfl, hl, hf⟩ := fields_of Try.underlying173 h; obtain ⟨y0, g0⟩ := hf 0 _ rfl; obtain ⟨y1, g1⟩ := hf 1 _ rfl; obtain ⟨y2, g2⟩ := hf 2 _ rfl; obtain ⟨y3, g3⟩ := hf 3 _ rfl; obtain ⟨y4, g4⟩ := hf 4 _ rfl; rw [show Try.prog.cellsOf 173 = 5 from by kernel_rfl] at hl; obtain ⟨c0, r0, rfl, hl0⟩ := len_cons hl; obtain ⟨c1, r1, rfl, hl1⟩ := len_cons hl0; obtain ⟨c2, r2, rfl, hl2⟩ := len_cons hl1; obtain ⟨c3, r3, rfl, hl3⟩ := len_cons hl2; obtain ⟨c4, r4, rfl, hl4⟩ := len_cons hl3; obtain rfl := List.eq_nil_of_length_eq_zero hl4; replace g0 : DataW.trod enc Try.prog w 0 (fun _ => true) true m 3 ((([c0, c1, c2, c3, c4] : List Value).drop 0).take (Try.prog.cellsOf 3)) = some y0 := g0; rw [show Try.prog.cellsOf 3 = 1 from by kernel_rfl] at g0; replace g0 : DataW.trod enc Try.prog w 0 (fun _ => true) true m 3 [c0] = some y0 := g0; replace g1 : DataW.trod enc Try.prog w 0 (fun _ => true) true m 9 ((([c0, c1, c2, c3, c4] : List Value).drop 1).take (Try.prog.cellsOf 9)) = some y1 := g1; rw [show Try.prog.cellsOf 9 = 1 from by kernel_rfl] at g1; replace g1 : DataW.trod enc Try.prog w 0 (fun _ => true) true m 9 [c1] = some y1 := g1; replace g2 : DataW.trod enc Try.prog w 0 (fun _ => true) true m 3 ((([c0, c1, c2, c3, c4] : List Value).drop 2).take (Try.prog.cellsOf 3)) = some y2 := g2; rw [show Try.prog.cellsOf 3 = 1 from by kernel_rfl] at g2; replace g2 : DataW.trod enc Try.prog w 0 (fun _ => true) true m 3 [c2] = some y2 := g2
  replace g3 : DataW.trod enc Try.prog w 0 (fun _ => true) true m 3 ((([c0, c1, c2, c3, c4] : List Value).drop 3).take (Try.prog.cellsOf 3)) = some y3 := g3; rw [show Try.prog.cellsOf 3 = 1 from by kernel_rfl] at g3; replace g3 : DataW.trod enc Try.prog w 0 (fun _ => true) true m 3 [c3] = some y3 := g3; replace g4 : DataW.trod enc Try.prog w 0 (fun _ => true) true m 58 ((([c0, c1, c2, c3, c4] : List Value).drop 4).take (Try.prog.cellsOf 58)) = some y4 := g4; rw [show Try.prog.cellsOf 58 = 1 from by kernel_rfl] at g4; replace g4 : DataW.trod enc Try.prog w 0 (fun _ => true) true m 58 [c4] = some y4 := g4; obtain ⟨z0, K0, q0⟩ := (op_int (n := m) Try.underlying3) H enc w _ _ g0; have e0 := K0; replace e0 : [c0] = _ := e0; simp only [List.cons.injEq, and_true] at e0; obtain rfl := e0; obtain ⟨z1, K1, q1⟩ := (op_string (n := m) Try.underlying9) H enc w _ _ g1; have e1 := K1; replace e1 : [c1] = _ := e1; simp only [List.cons.injEq, and_true] at e1; obtain rfl := e1; obtain ⟨z2, K2, q2⟩ := (op_int (n := m) Try.underlying3) H enc w _ _ g2; have e2 := K2; replace e2 : [c2] = _ := e2; simp only [List.cons.injEq, and_true] at e2; obtain rfl := e2; obtain ⟨z3, K3, q3⟩ := (op_int (n := m) Try.underlying3) H enc w _ _ g3; have e3 := K3; replace e3 : [c3] = _ := e3; simp only [List.cons.injEq, and_true] at e3; obtain rfl := e3; obtain ⟨z4, K4, q4⟩ := op_slice (n := m) Try.underlying58 (show Try.prog.cellsOf 136 = k136.sz from by kernel_rfl) (fun m_ hm_ => open136 m_) H enc w _ _ g4
  obtain ⟨A4, C4, e4, l4, G4⟩ := K4; replace e4 : [c4] = _ := e4; simp only [List.cons.injEq, and_true] at e4; obtain rfl := e4; exact ⟨(⟨z0, z1, z2, z3, z4⟩ : S173), k173_mk w (⟨z0, z1, z2, z3, z4⟩ : S173) l4 G4, Ok173.mk q0 q1 q2 q3 q4.1 q4.2⟩
end Go.Proofs.Ytcchmhmbjhgfdaa.G
namespace Go.Proofs.Ytcchmhmbjhgfdaa.G
open Go.RowKit Go.Proofs.YtcchmhmbjhgfdaaW.PrintWords Go.Proofs.YtcchmhmbjhgfdaaW.PrintLast Go.Proofs.YtcchmhmbjhgfdaaW.PrintMore
attribute [local go_sem] max2_int min2_int max_two min_two max_three min_three max_four min_four Own.str_gtr Own.str_leq Own.str_geq Own.sto_fn   -- for this text's walks alone
open Own
set_option linter.unusedVariables false
set_option linter.unusedSimpArgs false
open Opn
inductive Ok25 : S25 → Prop
  | mk {x : S25} (h0 : x.f0.length ≤ maxLen) (h1 : ∀ y_ ∈ x.f0, Ok170 y_) (h2 : x.f1.length ≤ maxLen) (h3 : ∀ y_ ∈ x.f1, Ok173 y_) (h4 : (Lit.int .i64 x.f2).wf = true) (h5 : (Lit.int .i64 x.f3).wf = true) : Ok25 x
theorem Ok25.all {x : S25} (h : Ok25 x) : (x.f0.length ≤ maxLen) ∧ (∀ y_ ∈ x.f0, Ok170 y_) ∧ (x.f1.length ≤ maxLen) ∧ (∀ y_ ∈ x.f1, Ok173 y_) ∧ ((Lit.int .i64 x.f2).wf = true) ∧ ((Lit.int .i64 x.f3).wf = true) := by
  cases h with
  | mk h0 h1 h2 h3 h4 h5 => exact ⟨h0, h1, h2, h3, h4, h5⟩
theorem open25 : ∀ n, OpensAt Try.prog n 25 k25 Ok25 := by
  intro n
  induction n using Nat.strongRecOn with
  | _ n _ =>
  intro H enc w cs x h
  obtain ⟨m, rfl, hl, hf⟩ := fields_of Try.underlying25 h; obtain ⟨y0, g0⟩ := hf 0 _ rfl; obtain ⟨y1, g1⟩ := hf 1 _ rfl; obtain ⟨y2, g2⟩ := hf 2 _ rfl; obtain ⟨y3, g3⟩ := hf 3 _ rfl; rw [show Try.prog.cellsOf 25 = 4 from by kernel_rfl] at hl; obtain ⟨c0, r0, rfl, hl0⟩ := len_cons hl; obtain ⟨c1, r1, rfl, hl1⟩ := len_cons hl0; obtain ⟨c2, r2, rfl, hl2⟩ := len_cons hl1; obtain ⟨c3, r3, rfl, hl3⟩ := len_cons hl2; obtain rfl := List.eq_nil_of_length_eq_zero hl3; replace g0 : DataW.trod enc Try.prog w 0 (fun _ => true) true m 22 ((([c0, c1, c2, c3] : List Value).drop 0).take (Try.prog.cellsOf 22)) = some y0 := g0; rw [show Try.prog.cellsOf 22 = 1 from by kernel_rfl] at g0; replace g0 : DataW.trod enc Try.prog w 0 (fun _ => true) true m 22 [c0] = some y0 := g0; replace g1 : DataW.trod enc Try.prog w 0 (fun _ => true) true m 23 ((([c0, c1, c2, c3] : List Value).drop 1).take (Try.prog.cellsOf 23)) = some y1 := g1; rw [show Try.prog.cellsOf 23 = 1 from by kernel_rfl] at g1; replace g1 : DataW.trod enc Try.prog w 0 (fun _ => true) true m 23 [c1] = some y1 := g1; replace g2 : DataW.trod enc Try.prog w 0 (fun _ => true) true m 3 ((([c0, c1, c2, c3] : List Value).drop 2).take (Try.prog.cellsOf 3)) = some y2 := g2; rw [show Try.prog.cellsOf 3 = 1 from by kernel_rfl] at g2; replace g2 : DataW.trod enc Try.prog w 0 (fun _ => true) true m 3 [c2] = some y2 := g2
  replace g3 : DataW.trod enc Try.prog w 0 (fun _ => true) true m 3 ((([c0, c1, c2, c3] : List Value).drop 3).take (Try.prog.cellsOf 3)) = some y3 := g3; rw [show Try.prog.cellsOf 3 = 1 from by kernel_rfl] at g3; replace g3 : DataW.trod enc Try.prog w 0 (fun _ => true) true m 3 [c3] = some y3 := g3; obtain ⟨z0, K0, q0⟩ := op_slice (n := m) Try.underlying22 (show Try.prog.cellsOf 170 = k170.sz from by kernel_rfl) (fun m_ hm_ => open170 m_) H enc w _ _ g0; obtain ⟨A0, C0, e0, l0, G0⟩ := K0; replace e0 : [c0] = _ := e0; simp only [List.cons.injEq, and_true] at e0; obtain rfl := e0; obtain ⟨z1, K1, q1⟩ := op_slice (n := m) Try.underlying23 (show Try.prog.cellsOf 173 = k173.sz from by kernel_rfl) (fun m_ hm_ => open173 m_) H enc w _ _ g1; obtain ⟨A1, C1, e1, l1, G1⟩ := K1; replace e1 : [c1] = _ := e1; simp only [List.cons.injEq, and_true] at e1; obtain rfl := e1; obtain ⟨z2, K2, q2⟩ := (op_int (n := m) Try.underlying3) H enc w _ _ g2; have e2 := K2; replace e2 : [c2] = _ := e2; simp only [List.cons.injEq, and_true] at e2; obtain rfl := e2; obtain ⟨z3, K3, q3⟩ := (op_int (n := m) Try.underlying3) H enc w _ _ g3; have e3 := K3; replace e3 : [c3] = _ := e3; simp only [List.cons.injEq, and_true] at e3; obtain rfl := e3; exact ⟨(⟨z0, z1, z2, z3⟩ : S25), k25_mk w (⟨z0, z1, z2, z3⟩ : S25) l0 G0 l1 G1, Ok25.mk q0.1 q0.2 q1.1 q1.2 q2 q3⟩
end Go.Proofs.Ytcchmhmbjhgfdaa.G
