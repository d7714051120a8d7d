-- Printed by a program of this claim's writer (wip/gen), out of the translation. Lean checks it.
import Derived.Test.YtcchmhmbjhgfdaaGx0
import Derived.Test.YtcchmhmbjhgfdaaGx2
namespace Go.Proofs.Ytcchmhmbjhgfdaa.G
open Go.RowKit Go.Proofs.YtcchmhmbjhgfdaaW.PrintWords Go.Proofs.YtcchmhmbjhgfdaaW.PrintLast Go.Proofs.YtcchmhmbjhgfdaaW.PrintMore
attribute [local go_sem] max2_int min2_int max_two min_two max_three min_three max_four min_four Own.str_gtr Own.str_leq Own.str_geq Own.sto_fn   -- for this text's walks alone
open Own
set_option linter.unusedVariables false
set_option linter.unusedSimpArgs false

/-! ### spec_l2Letter: function 150 -/
def spec_l2Letter.f (a0 : Int) : Option (Bool) := if a0 ≥ 97 then (if a0 ≤ 122 then (some true) else (if a0 ≥ 65 then (some (decide (a0 ≤ 90))) else (some false))) else (if a0 ≥ 65 then (some (decide (a0 ≤ 90))) else (some false))
set_option maxHeartbeats 8000000 in
set_option maxRecDepth 100000 in
theorem spec_l2Letter.calls (a0 : Int) (r : Bool) (w : World) (h : spec_l2Letter.f a0 = some r) :
    Calls Try.prog 150 #[.int .u8 a0] w fun e w' => e = .returned (.bool r) ∧ Drawn0 w w' := by
  have H : (if a0 ≥ 97 then (if a0 ≤ 122 then (some true) else (if a0 ≥ 65 then (some (decide (a0 ≤ 90))) else (some false))) else (if a0 ≥ 65 then (some (decide (a0 ≤ 90))) else (some false))) = some r := h
  clear h
  by_cases c2 : a0 ≥ 97
  rotate_left
  · rw [if_neg c2] at H
    have c2b0 : decide (97 ≤ a0) = false := decide_eq_false c2
    clear c2
    by_cases c5 : a0 ≥ 65
    · rw [if_pos c5] at H
      have c5b0 : decide (65 ≤ a0) = true := decide_eq_true c5
      clear c5
      obtain rfl := Option.some.inj H
      go_enter Try.func150, Try.ntmps150
      go_wp2
      go_ret
      exact rd_
    rw [if_neg c5] at H
    have c5b0 : decide (65 ≤ a0) = false := decide_eq_false c5
    clear c5
    obtain rfl := Option.some.inj H
    go_enter Try.func150, Try.ntmps150
    go_wp2
    go_ret
    exact rd_
  rw [if_pos c2] at H
  have c2b0 : decide (97 ≤ a0) = true := decide_eq_true c2
  clear c2
  by_cases c3 : a0 ≤ 122
  · rw [if_pos c3] at H
    have c3b0 : decide (a0 ≤ 122) = true := decide_eq_true c3
    clear c3
    obtain rfl := Option.some.inj H
    go_enter Try.func150, Try.ntmps150
    go_wp2
    go_ret
    exact rd_
  rw [if_neg c3] at H
  have c3b0 : decide (a0 ≤ 122) = false := decide_eq_false c3
  clear c3
  by_cases c4 : a0 ≥ 65
  · rw [if_pos c4] at H
    have c4b0 : decide (65 ≤ a0) = true := decide_eq_true c4
    clear c4
    obtain rfl := Option.some.inj H
    go_enter Try.func150, Try.ntmps150
    go_wp2
    go_ret
    exact rd_
  rw [if_neg c4] at H
  have c4b0 : decide (65 ≤ a0) = false := decide_eq_false c4
  clear c4
  obtain rfl := Option.some.inj H
  go_enter Try.func150, Try.ntmps150
  go_wp2
  go_ret
  exact rd_

/-! ### spec_l2Kept: function 151 -/
def spec_l2Kept.l0 : Nat → ByteArray → List ByteArray → Int → Option (Bool)
  | 0, _, _, _ => none
  | k + 1, x0, x3, x4 => if x4 < (x3.length : Int) then (if 0 ≤ x4 then (if (rdOf ByteArray.empty x3 x4).toList = x0.toList then (some true) else (spec_l2Kept.l0 k x0 x3 (wrap64 (x4 + 1)))) else (none)) else (some false)
def spec_l2Kept.f (k : Nat) (a0 : ByteArray) : Option (Bool) := spec_l2Kept.l0 k a0 (([(⟨#[77, 65, 84, 67, 72]⟩ : ByteArray), (⟨#[79, 80, 84, 73, 79, 78, 65, 76]⟩ : ByteArray), (⟨#[87, 72, 69, 82, 69]⟩ : ByteArray), (⟨#[85, 78, 87, 73, 78, 68]⟩ : ByteArray), (⟨#[87, 73, 84, 72]⟩ : ByteArray), (⟨#[82, 69, 84, 85, 82, 78]⟩ : ByteArray), (⟨#[67, 82, 69, 65, 84, 69]⟩ : ByteArray), (⟨#[83, 69, 84]⟩ : ByteArray), (⟨#[68, 69, 76, 69, 84, 69]⟩ : ByteArray), (⟨#[68, 69, 84, 65, 67, 72]⟩ : ByteArray), (⟨#[65, 83]⟩ : ByteArray), (⟨#[65, 78, 68]⟩ : ByteArray), (⟨#[79, 82]⟩ : ByteArray), (⟨#[78, 79, 84]⟩ : ByteArray), (⟨#[73, 83]⟩ : ByteArray), (⟨#[78, 85, 76, 76]⟩ : ByteArray), (⟨#[73, 78]⟩ : ByteArray), (⟨#[68, 73, 83, 84, 73, 78, 67, 84]⟩ : ByteArray), (⟨#[79, 82, 68, 69, 82]⟩ : ByteArray), (⟨#[66, 89]⟩ : ByteArray), (⟨#[68, 69, 83, 67]⟩ : ByteArray), (⟨#[83, 75, 73, 80]⟩ : ByteArray), (⟨#[76, 73, 77, 73, 84]⟩ : ByteArray), (⟨#[110, 117, 108, 108]⟩ : ByteArray), (⟨#[116, 114, 117, 101]⟩ : ByteArray), (⟨#[102, 97, 108, 115, 101]⟩ : ByteArray), (⟨#[99, 111, 117, 110, 116]⟩ : ByteArray), (⟨#[115, 117, 109]⟩ : ByteArray), (⟨#[115, 105, 122, 101]⟩ : ByteArray)] : List ByteArray)) 0
set_option maxHeartbeats 8000000 in
set_option maxRecDepth 100000 in
theorem spec_l2Kept.calls (k : Nat) (a0 : ByteArray) (r : Bool) (w : World) (h : spec_l2Kept.f k a0 = some r) :
    Calls Try.prog 151 #[.string a0] w fun e w' => e = .returned (.bool r) ∧ Below w.heap.size w w' := by
  have HB := Aside0.mk (Below.refl w.heap.size w)
  have H : (spec_l2Kept.l0 k a0 (([(⟨#[77, 65, 84, 67, 72]⟩ : ByteArray), (⟨#[79, 80, 84, 73, 79, 78, 65, 76]⟩ : ByteArray), (⟨#[87, 72, 69, 82, 69]⟩ : ByteArray), (⟨#[85, 78, 87, 73, 78, 68]⟩ : ByteArray), (⟨#[87, 73, 84, 72]⟩ : ByteArray), (⟨#[82, 69, 84, 85, 82, 78]⟩ : ByteArray), (⟨#[67, 82, 69, 65, 84, 69]⟩ : ByteArray), (⟨#[83, 69, 84]⟩ : ByteArray), (⟨#[68, 69, 76, 69, 84, 69]⟩ : ByteArray), (⟨#[68, 69, 84, 65, 67, 72]⟩ : ByteArray), (⟨#[65, 83]⟩ : ByteArray), (⟨#[65, 78, 68]⟩ : ByteArray), (⟨#[79, 82]⟩ : ByteArray), (⟨#[78, 79, 84]⟩ : ByteArray), (⟨#[73, 83]⟩ : ByteArray), (⟨#[78, 85, 76, 76]⟩ : ByteArray), (⟨#[73, 78]⟩ : ByteArray), (⟨#[68, 73, 83, 84, 73, 78, 67, 84]⟩ : ByteArray), (⟨#[79, 82, 68, 69, 82]⟩ : ByteArray), (⟨#[66, 89]⟩ : ByteArray), (⟨#[68, 69, 83, 67]⟩ : ByteArray), (⟨#[83, 75, 73, 80]⟩ : ByteArray), (⟨#[76, 73, 77, 73, 84]⟩ : ByteArray), (⟨#[110, 117, 108, 108]⟩ : ByteArray), (⟨#[116, 114, 117, 101]⟩ : ByteArray), (⟨#[102, 97, 108, 115, 101]⟩ : ByteArray), (⟨#[99, 111, 117, 110, 116]⟩ : ByteArray), (⟨#[115, 117, 109]⟩ : ByteArray), (⟨#[115, 105, 122, 101]⟩ : ByteArray)] : List ByteArray)) 0) = some r := h
  clear h
  obtain ⟨y122, hy122⟩ : ∃ y_ : List ByteArray, y_ = (([(⟨#[77, 65, 84, 67, 72]⟩ : ByteArray), (⟨#[79, 80, 84, 73, 79, 78, 65, 76]⟩ : ByteArray), (⟨#[87, 72, 69, 82, 69]⟩ : ByteArray), (⟨#[85, 78, 87, 73, 78, 68]⟩ : ByteArray), (⟨#[87, 73, 84, 72]⟩ : ByteArray), (⟨#[82, 69, 84, 85, 82, 78]⟩ : ByteArray), (⟨#[67, 82, 69, 65, 84, 69]⟩ : ByteArray), (⟨#[83, 69, 84]⟩ : ByteArray), (⟨#[68, 69, 76, 69, 84, 69]⟩ : ByteArray), (⟨#[68, 69, 84, 65, 67, 72]⟩ : ByteArray), (⟨#[65, 83]⟩ : ByteArray), (⟨#[65, 78, 68]⟩ : ByteArray), (⟨#[79, 82]⟩ : ByteArray), (⟨#[78, 79, 84]⟩ : ByteArray), (⟨#[73, 83]⟩ : ByteArray), (⟨#[78, 85, 76, 76]⟩ : ByteArray), (⟨#[73, 78]⟩ : ByteArray), (⟨#[68, 73, 83, 84, 73, 78, 67, 84]⟩ : ByteArray), (⟨#[79, 82, 68, 69, 82]⟩ : ByteArray), (⟨#[66, 89]⟩ : ByteArray), (⟨#[68, 69, 83, 67]⟩ : ByteArray), (⟨#[83, 75, 73, 80]⟩ : ByteArray), (⟨#[76, 73, 77, 73, 84]⟩ : ByteArray), (⟨#[110, 117, 108, 108]⟩ : ByteArray), (⟨#[116, 114, 117, 101]⟩ : ByteArray), (⟨#[102, 97, 108, 115, 101]⟩ : ByteArray), (⟨#[99, 111, 117, 110, 116]⟩ : ByteArray), (⟨#[115, 117, 109]⟩ : ByteArray), (⟨#[115, 105, 122, 101]⟩ : ByteArray)] : List ByteArray)) := ⟨_, rfl⟩
  replace H : (spec_l2Kept.l0 k a0 y122 0) = some r := by first | (rw [hy122]; with_reducible exact H) | (have H2_ := (Option.bind_some _ _).symm.trans H; rw [hy122]; with_reducible exact H2_) | (have H2_ := (Option.bind_some _ _).symm.trans H; with_reducible exact H2_) | with_reducible exact H | (rw [hy122]; exact H) | exact H
  have Ny122 := Aside0.mk hy122
  clear hy122
  have H' := Aside0.mk H
  clear H
  go_enter Try.func151, Try.ntmps151
  go_wp2_with (first | ((with_reducible refine gate_dst (N := 5) rfl ?_); refine Kd.R_lit Kd.string _ 9 ?hg (N := 5) ?hd (xs := ([(⟨#[77, 65, 84, 67, 72]⟩ : ByteArray), (⟨#[79, 80, 84, 73, 79, 78, 65, 76]⟩ : ByteArray), (⟨#[87, 72, 69, 82, 69]⟩ : ByteArray), (⟨#[85, 78, 87, 73, 78, 68]⟩ : ByteArray), (⟨#[87, 73, 84, 72]⟩ : ByteArray), (⟨#[82, 69, 84, 85, 82, 78]⟩ : ByteArray), (⟨#[67, 82, 69, 65, 84, 69]⟩ : ByteArray), (⟨#[83, 69, 84]⟩ : ByteArray), (⟨#[68, 69, 76, 69, 84, 69]⟩ : ByteArray), (⟨#[68, 69, 84, 65, 67, 72]⟩ : ByteArray), (⟨#[65, 83]⟩ : ByteArray), (⟨#[65, 78, 68]⟩ : ByteArray), (⟨#[79, 82]⟩ : ByteArray), (⟨#[78, 79, 84]⟩ : ByteArray), (⟨#[73, 83]⟩ : ByteArray), (⟨#[78, 85, 76, 76]⟩ : ByteArray), (⟨#[73, 78]⟩ : ByteArray), (⟨#[68, 73, 83, 84, 73, 78, 67, 84]⟩ : ByteArray), (⟨#[79, 82, 68, 69, 82]⟩ : ByteArray), (⟨#[66, 89]⟩ : ByteArray), (⟨#[68, 69, 83, 67]⟩ : ByteArray), (⟨#[83, 75, 73, 80]⟩ : ByteArray), (⟨#[76, 73, 77, 73, 84]⟩ : ByteArray), (⟨#[110, 117, 108, 108]⟩ : ByteArray), (⟨#[116, 114, 117, 101]⟩ : ByteArray), (⟨#[102, 97, 108, 115, 101]⟩ : ByteArray), (⟨#[99, 111, 117, 110, 116]⟩ : ByteArray), (⟨#[115, 117, 109]⟩ : ByteArray), (⟨#[115, 105, 122, 101]⟩ : ByteArray)] : List ByteArray)) (inner := [.string (⟨#[77, 65, 84, 67, 72]⟩ : ByteArray), .string (⟨#[79, 80, 84, 73, 79, 78, 65, 76]⟩ : ByteArray), .string (⟨#[87, 72, 69, 82, 69]⟩ : ByteArray), .string (⟨#[85, 78, 87, 73, 78, 68]⟩ : ByteArray), .string (⟨#[87, 73, 84, 72]⟩ : ByteArray), .string (⟨#[82, 69, 84, 85, 82, 78]⟩ : ByteArray), .string (⟨#[67, 82, 69, 65, 84, 69]⟩ : ByteArray), .string (⟨#[83, 69, 84]⟩ : ByteArray), .string (⟨#[68, 69, 76, 69, 84, 69]⟩ : ByteArray), .string (⟨#[68, 69, 84, 65, 67, 72]⟩ : ByteArray), .string (⟨#[65, 83]⟩ : ByteArray), .string (⟨#[65, 78, 68]⟩ : ByteArray), .string (⟨#[79, 82]⟩ : ByteArray), .string (⟨#[78, 79, 84]⟩ : ByteArray), .string (⟨#[73, 83]⟩ : ByteArray), .string (⟨#[78, 85, 76, 76]⟩ : ByteArray), .string (⟨#[73, 78]⟩ : ByteArray), .string (⟨#[68, 73, 83, 84, 73, 78, 67, 84]⟩ : ByteArray), .string (⟨#[79, 82, 68, 69, 82]⟩ : ByteArray), .string (⟨#[66, 89]⟩ : ByteArray), .string (⟨#[68, 69, 83, 67]⟩ : ByteArray), .string (⟨#[83, 75, 73, 80]⟩ : ByteArray), .string (⟨#[76, 73, 77, 73, 84]⟩ : ByteArray), .string (⟨#[110, 117, 108, 108]⟩ : ByteArray), .string (⟨#[116, 114, 117, 101]⟩ : ByteArray), .string (⟨#[102, 97, 108, 115, 101]⟩ : ByteArray), .string (⟨#[99, 111, 117, 110, 116]⟩ : ByteArray), .string (⟨#[115, 117, 109]⟩ : ByteArray), .string (⟨#[115, 105, 122, 101]⟩ : ByteArray)]) (ok := fun _ => True) (okp := fun _ => True) ?hr ?hp (fun _ hk => hk) trivial (Below.refl _ _) (Nat.le_refl _) (by simp) ?_; (case hd => rfl); (case hg => rfl); (case hr => first | (go_simp; done) | (go_simp; rfl)); (case hp => exact (Reps.one (show Kd.M Kd.string _ _ _ (⟨#[77, 65, 84, 67, 72]⟩ : ByteArray) [.string (⟨#[77, 65, 84, 67, 72]⟩ : ByteArray)] from rfl) (Reps.one (show Kd.M Kd.string _ _ _ (⟨#[79, 80, 84, 73, 79, 78, 65, 76]⟩ : ByteArray) [.string (⟨#[79, 80, 84, 73, 79, 78, 65, 76]⟩ : ByteArray)] from rfl) (Reps.one (show Kd.M Kd.string _ _ _ (⟨#[87, 72, 69, 82, 69]⟩ : ByteArray) [.string (⟨#[87, 72, 69, 82, 69]⟩ : ByteArray)] from rfl) (Reps.one (show Kd.M Kd.string _ _ _ (⟨#[85, 78, 87, 73, 78, 68]⟩ : ByteArray) [.string (⟨#[85, 78, 87, 73, 78, 68]⟩ : ByteArray)] from rfl) (Reps.one (show Kd.M Kd.string _ _ _ (⟨#[87, 73, 84, 72]⟩ : ByteArray) [.string (⟨#[87, 73, 84, 72]⟩ : ByteArray)] from rfl) (Reps.one (show Kd.M Kd.string _ _ _ (⟨#[82, 69, 84, 85, 82, 78]⟩ : ByteArray) [.string (⟨#[82, 69, 84, 85, 82, 78]⟩ : ByteArray)] from rfl) (Reps.one (show Kd.M Kd.string _ _ _ (⟨#[67, 82, 69, 65, 84, 69]⟩ : ByteArray) [.string (⟨#[67, 82, 69, 65, 84, 69]⟩ : ByteArray)] from rfl) (Reps.one (show Kd.M Kd.string _ _ _ (⟨#[83, 69, 84]⟩ : ByteArray) [.string (⟨#[83, 69, 84]⟩ : ByteArray)] from rfl) (Reps.one (show Kd.M Kd.string _ _ _ (⟨#[68, 69, 76, 69, 84, 69]⟩ : ByteArray) [.string (⟨#[68, 69, 76, 69, 84, 69]⟩ : ByteArray)] from rfl) (Reps.one (show Kd.M Kd.string _ _ _ (⟨#[68, 69, 84, 65, 67, 72]⟩ : ByteArray) [.string (⟨#[68, 69, 84, 65, 67, 72]⟩ : ByteArray)] from rfl) (Reps.one (show Kd.M Kd.string _ _ _ (⟨#[65, 83]⟩ : ByteArray) [.string (⟨#[65, 83]⟩ : ByteArray)] from rfl) (Reps.one (show Kd.M Kd.string _ _ _ (⟨#[65, 78, 68]⟩ : ByteArray) [.string (⟨#[65, 78, 68]⟩ : ByteArray)] from rfl) (Reps.one (show Kd.M Kd.string _ _ _ (⟨#[79, 82]⟩ : ByteArray) [.string (⟨#[79, 82]⟩ : ByteArray)] from rfl) (Reps.one (show Kd.M Kd.string _ _ _ (⟨#[78, 79, 84]⟩ : ByteArray) [.string (⟨#[78, 79, 84]⟩ : ByteArray)] from rfl) (Reps.one (show Kd.M Kd.string _ _ _ (⟨#[73, 83]⟩ : ByteArray) [.string (⟨#[73, 83]⟩ : ByteArray)] from rfl) (Reps.one (show Kd.M Kd.string _ _ _ (⟨#[78, 85, 76, 76]⟩ : ByteArray) [.string (⟨#[78, 85, 76, 76]⟩ : ByteArray)] from rfl) (Reps.one (show Kd.M Kd.string _ _ _ (⟨#[73, 78]⟩ : ByteArray) [.string (⟨#[73, 78]⟩ : ByteArray)] from rfl) (Reps.one (show Kd.M Kd.string _ _ _ (⟨#[68, 73, 83, 84, 73, 78, 67, 84]⟩ : ByteArray) [.string (⟨#[68, 73, 83, 84, 73, 78, 67, 84]⟩ : ByteArray)] from rfl) (Reps.one (show Kd.M Kd.string _ _ _ (⟨#[79, 82, 68, 69, 82]⟩ : ByteArray) [.string (⟨#[79, 82, 68, 69, 82]⟩ : ByteArray)] from rfl) (Reps.one (show Kd.M Kd.string _ _ _ (⟨#[66, 89]⟩ : ByteArray) [.string (⟨#[66, 89]⟩ : ByteArray)] from rfl) (Reps.one (show Kd.M Kd.string _ _ _ (⟨#[68, 69, 83, 67]⟩ : ByteArray) [.string (⟨#[68, 69, 83, 67]⟩ : ByteArray)] from rfl) (Reps.one (show Kd.M Kd.string _ _ _ (⟨#[83, 75, 73, 80]⟩ : ByteArray) [.string (⟨#[83, 75, 73, 80]⟩ : ByteArray)] from rfl) (Reps.one (show Kd.M Kd.string _ _ _ (⟨#[76, 73, 77, 73, 84]⟩ : ByteArray) [.string (⟨#[76, 73, 77, 73, 84]⟩ : ByteArray)] from rfl) (Reps.one (show Kd.M Kd.string _ _ _ (⟨#[110, 117, 108, 108]⟩ : ByteArray) [.string (⟨#[110, 117, 108, 108]⟩ : ByteArray)] from rfl) (Reps.one (show Kd.M Kd.string _ _ _ (⟨#[116, 114, 117, 101]⟩ : ByteArray) [.string (⟨#[116, 114, 117, 101]⟩ : ByteArray)] from rfl) (Reps.one (show Kd.M Kd.string _ _ _ (⟨#[102, 97, 108, 115, 101]⟩ : ByteArray) [.string (⟨#[102, 97, 108, 115, 101]⟩ : ByteArray)] from rfl) (Reps.one (show Kd.M Kd.string _ _ _ (⟨#[99, 111, 117, 110, 116]⟩ : ByteArray) [.string (⟨#[99, 111, 117, 110, 116]⟩ : ByteArray)] from rfl) (Reps.one (show Kd.M Kd.string _ _ _ (⟨#[115, 117, 109]⟩ : ByteArray) [.string (⟨#[115, 117, 109]⟩ : ByteArray)] from rfl) (Reps.one (show Kd.M Kd.string _ _ _ (⟨#[115, 105, 122, 101]⟩ : ByteArray) [.string (⟨#[115, 105, 122, 101]⟩ : ByteArray)] from rfl) (Reps.none _ _))))))))))))))))))))))))))))))); intro v123 w2 ho3 hb hg_ hnew_; clear hg_ hnew_; (first | rw [← Ny122.out] at ho3 | (simp only [Int.reduceToNat] at ho3; rw [← Ny122.out] at ho3)); have HO124 := Aside0.mk (Kd.R_lower ho3 (below_size (bel_))); replace HB := bs_ hb; clear hb ho3))
  go_loopg [4] k (fun kq v4 w' => ∃ (x4_1 : Int), v4 = .int .i64 x4_1 ∧ Aside0 (spec_l2Kept.l0 kq a0 y122 x4_1 = some r) ∧ Aside0 (kq ≤ k) ∧ Aside0 (Kd.R Kd.string 9 w' w.heap.size (fun _ => True) v123 y122) ∧ Aside0 (Below w.heap.size w w'))
  case atStart => exact ⟨(0), sm_, H', ⟨Nat.le_refl _⟩, ⟨by (with_reducible repeat (first | apply Kd.R_alloc | apply Kd.R_drewN | apply Kd.R_drew)); exact HO124.out⟩, ⟨bel_⟩⟩
  case round =>
    clear H'
    try clear c1
    try clear p2
    obtain ⟨x4_1, rfl, HA, HK1, HO_3, HB⟩ := hrel
    cases gk with
    | zero => exact absurd HA.out (by simp [spec_l2Kept.l0])
    | succ k1 =>
      have H := HA.out
      clear HA
      simp only [spec_l2Kept.l0] at H
      by_cases c4 : x4_1 < (y122.length : Int)
      rotate_left
      · rw [if_neg c4] at H
        have c4b0 : decide (x4_1 < (y122.length : Int)) = false := decide_eq_false c4
        clear c4
        obtain rfl := Option.some.inj H
        obtain ⟨Ao9, co9, eo9⟩ := Kd.R_slice HO_3.out
        subst eo9
        go_wp2
        go_ret
        exact re_
      rw [if_pos c4] at H
      have c4b0 : decide (x4_1 < (y122.length : Int)) = true := decide_eq_true c4
      clear c4
      by_cases c5 : 0 ≤ x4_1
      rotate_left
      · rw [if_neg c5] at H
        exact absurd H (by simp)
      rw [if_pos c5] at H
      have c5b0 : decide (0 ≤ x4_1) = true := decide_eq_true c5
      clear c5
      by_cases c6 : (rdOf ByteArray.empty y122 x4_1).toList = a0.toList
      · rw [if_pos c6] at H
        have c6b0 : ((rdOf ByteArray.empty y122 x4_1).toList == a0.toList) = true := beq_iff_eq.mpr c6
        have c6b1 : ((rdOf ByteArray.empty y122 x4_1).toList != a0.toList) = false := bne_eq_false_iff_eq.mpr c6
        clear c6
        obtain rfl := Option.some.inj H
        obtain ⟨Ao7, co7, eo7⟩ := Kd.R_slice HO_3.out
        subst eo7
        have p125 : 0 ≤ (x4_1 : Int) := od_
        have q125 : x4_1 < (y122.length : Int) := od_
        obtain ⟨ad125, e125, hx125_0⟩ := Kd.at_string (Kd.R_reads' HO_3.out).2.2 x4_1 p125 q125
        cases e125
        replace p125 := eq_true p125
        replace q125 := eq_true q125
        go_wp2
        go_ret
        exact re_
      rw [if_neg c6] at H
      have c6b0 : ((rdOf ByteArray.empty y122 x4_1).toList == a0.toList) = false := beq_eq_false_iff_ne.mpr c6
      have c6b1 : ((rdOf ByteArray.empty y122 x4_1).toList != a0.toList) = true := bne_iff_ne.mpr c6
      have H' := Aside0.mk H
      clear H
      obtain ⟨Ao8, co8, eo8⟩ := Kd.R_slice HO_3.out
      subst eo8
      have p125 : 0 ≤ (x4_1 : Int) := od_
      have q125 : x4_1 < (y122.length : Int) := od_
      obtain ⟨ad125, e125, hx125_0⟩ := Kd.at_string (Kd.R_reads' HO_3.out).2.2 x4_1 p125 q125
      cases e125
      replace p125 := eq_true p125
      replace q125 := eq_true q125
      go_wp2
      go_roundg k1
      case measure => have := HK1.out; omega
      case rel => exact ⟨(wrap64 (x4_1 + 1)), sm_, H', ⟨by have := HK1.out; omega⟩, ⟨by (with_reducible repeat (first | apply Kd.R_alloc | apply Kd.R_drewN | apply Kd.R_drew)); exact HO_3.out⟩, ⟨bel_⟩⟩

/-! ### spec_l2Name: function 72 -/
def spec_l2Name.l0 : Nat → ByteArray → Int → Option (Bool)
  | 0, _, _ => none
  | k + 1, x0, x3 => if x3 < (x0.size : Int) then (if 0 ≤ x3 then ((spec_l2Letter.f (bt x0 x3)).bind fun t126 => (if t126 = true then (spec_l2Name.l0 k x0 (wrap64 (x3 + 1))) else (if x3 = 0 then (some false) else (if (bt x0 x3) < 48 then (some false) else (if (bt x0 x3) > 57 then (some false) else (spec_l2Name.l0 k x0 (wrap64 (x3 + 1)))))))) else (none)) else ((spec_l1In.f (x0.size : Int) 1 8).bind fun t127 => (if t127 = true then ((spec_l2Kept.f k x0).bind fun t128 => (some (!t128))) else (some false)))
def spec_l2Name.f (k : Nat) (a0 : ByteArray) : Option (Bool) := spec_l2Name.l0 k a0 0
set_option maxHeartbeats 8000000 in
set_option maxRecDepth 100000 in
theorem spec_l2Name.calls (k : Nat) (a0 : ByteArray) (r : Bool) (w : World) (h : spec_l2Name.f k a0 = some r) :
    Calls Try.prog 72 #[.string a0] w fun e w' => e = .returned (.bool r) ∧ Below w.heap.size w w' := by
  have HB := Aside0.mk (Below.refl w.heap.size w)
  have H : (spec_l2Name.l0 k a0 0) = some r := h
  clear h
  have H' := Aside0.mk H
  clear H
  go_enter Try.func72, Try.ntmps72
  go_wp2
  go_loopg [3] k (fun kq v3 w' => ∃ (x3_1 : Int), v3 = .int .i64 x3_1 ∧ Aside0 (spec_l2Name.l0 kq a0 x3_1 = some r) ∧ Aside0 (kq ≤ k) ∧ Aside0 (Below w.heap.size w w'))
  case atStart => exact ⟨(0), sm_, H', ⟨Nat.le_refl _⟩, ⟨bel_⟩⟩
  case round =>
    clear H'
    obtain ⟨x3_1, rfl, HA, HK1, HB⟩ := hrel
    cases gk with
    | zero => exact absurd HA.out (by simp [spec_l2Name.l0])
    | succ k1 =>
      have H := HA.out
      clear HA
      simp only [spec_l2Name.l0] at H
      by_cases c2 : x3_1 < (a0.size : Int)
      rotate_left
      · rw [if_neg c2] at H
        have c2b0 : decide (x3_1 < (a0.size : Int)) = false := decide_eq_false c2
        clear c2
        replace H := Option.bind_eq_some_iff.mp H
        obtain ⟨t127, A120, H⟩ := H
        replace H : (if t127 = true then ((spec_l2Kept.f k1 a0).bind fun t128 => (some (!t128))) else (some false)) = some r := H
        have A12 := Aside0.mk A120
        clear A120
        by_cases c13 : t127 = true
        · subst c13
          have H1 : ((spec_l2Kept.f k1 a0).bind fun t128 => (some (!t128))) = some r := by rw [if_pos rfl] at H; exact H
          clear H
          have H := H1
          clear H1
          replace H := Option.bind_eq_some_iff.mp H
          obtain ⟨t128, A140, H⟩ := H
          replace H : (some (!t128)) = some r := H
          have A14 := Aside0.mk A140
          clear A140
          obtain rfl := Option.some.inj H
          go_wp2_with (first | ((with_reducible refine gate_callee (f := 69) rfl ?_); refine goesL_ (some 33) rfl rfl Try.func69 (by kernel_rfl) rfl #[.int .i64 (a0.size : Int), .int .i64 1, .int .i64 8] rfl ar_ ?_; (with_reducible refine (spec_l1In.calls (a0.size : Int) 1 8 true _ A12.out).mono ?_); rintro e w' ⟨rfl, ⟨nd, rfl⟩⟩; refine ⟨_, rfl, ?_⟩) | (go_at_call 151; (with_reducible refine (spec_l2Kept.calls k1 a0 t128 _ A14.out).mono ?_); rintro e w15 ⟨rfl, hb⟩; replace HB := bs_ hb; (try clear hb); (try clear hb2); (try clear hk); (try clear hi)))
          go_ret
          exact re_
        replace c13 := Bool.eq_false_iff.mpr c13
        subst c13
        have H1 : (some false) = some r := by rw [if_neg (show ¬ (false = true) by decide)] at H; exact H
        clear H
        have H := H1
        clear H1
        obtain rfl := Option.some.inj H
        go_wp2_with (first | ((with_reducible refine gate_callee (f := 69) rfl ?_); refine goesL_ (some 33) rfl rfl Try.func69 (by kernel_rfl) rfl #[.int .i64 (a0.size : Int), .int .i64 1, .int .i64 8] rfl ar_ ?_; (with_reducible refine (spec_l1In.calls (a0.size : Int) 1 8 false _ A12.out).mono ?_); rintro e w' ⟨rfl, ⟨nd, rfl⟩⟩; refine ⟨_, rfl, ?_⟩))
        go_ret
        exact re_
      rw [if_pos c2] at H
      have c2b0 : decide (x3_1 < (a0.size : Int)) = true := decide_eq_true c2
      clear c2
      by_cases c3 : 0 ≤ x3_1
      rotate_left
      · rw [if_neg c3] at H
        exact absurd H (by simp)
      rw [if_pos c3] at H
      have c3b0 : decide (0 ≤ x3_1) = true := decide_eq_true c3
      clear c3
      replace H := Option.bind_eq_some_iff.mp H
      obtain ⟨t126, A50, H⟩ := H
      replace H : (if t126 = true then (spec_l2Name.l0 k1 a0 (wrap64 (x3_1 + 1))) else (if x3_1 = 0 then (some false) else (if (bt a0 x3_1) < 48 then (some false) else (if (bt a0 x3_1) > 57 then (some false) else (spec_l2Name.l0 k1 a0 (wrap64 (x3_1 + 1))))))) = some r := H
      have A5 := Aside0.mk A50
      clear A50
      by_cases c6 : t126 = true
      · subst c6
        have H1 : (spec_l2Name.l0 k1 a0 (wrap64 (x3_1 + 1))) = some r := by rw [if_pos rfl] at H; exact H
        clear H
        have H := H1
        clear H1
        have H' := Aside0.mk H
        clear H
        have p4 : 0 ≤ (x3_1 : Int) := od_
        have q4 : x3_1 < (a0.size : Int) := od_
        have hx4 := bt_at a0 x3_1
        replace p4 := eq_true p4
        replace q4 := eq_true q4
        go_wp2_with (first | ((with_reducible refine gate_callee (f := 150) rfl ?_); refine goesL_ (some 13) rfl rfl Try.func150 (by kernel_rfl) rfl #[.int .u8 (bt a0 x3_1)] rfl ar_ ?_; (with_reducible refine (spec_l2Letter.calls (bt a0 x3_1) true _ A5.out).mono ?_); rintro e w' ⟨rfl, ⟨nd, rfl⟩⟩; refine ⟨_, rfl, ?_⟩))
        go_roundg k1
        case measure => have := HK1.out; omega
        case rel => exact ⟨(wrap64 (x3_1 + 1)), sm_, H', ⟨by have := HK1.out; omega⟩, ⟨bel_⟩⟩
      replace c6 := Bool.eq_false_iff.mpr c6
      subst c6
      have H1 : (if x3_1 = 0 then (some false) else (if (bt a0 x3_1) < 48 then (some false) else (if (bt a0 x3_1) > 57 then (some false) else (spec_l2Name.l0 k1 a0 (wrap64 (x3_1 + 1)))))) = some r := by rw [if_neg (show ¬ (false = true) by decide)] at H; exact H
      clear H
      have H := H1
      clear H1
      by_cases c7 : x3_1 = 0
      · rw [if_pos c7] at H
        have c7b0 : (x3_1 == 0) = true := beq_iff_eq.mpr c7
        have c7b1 : (x3_1 != 0) = false := bne_eq_false_iff_eq.mpr c7
        clear c7
        obtain rfl := Option.some.inj H
        have p4 : 0 ≤ (x3_1 : Int) := od_
        have q4 : x3_1 < (a0.size : Int) := od_
        have hx4 := bt_at a0 x3_1
        replace p4 := eq_true p4
        replace q4 := eq_true q4
        go_wp2_with (first | ((with_reducible refine gate_callee (f := 150) rfl ?_); refine goesL_ (some 13) rfl rfl Try.func150 (by kernel_rfl) rfl #[.int .u8 (bt a0 x3_1)] rfl ar_ ?_; (with_reducible refine (spec_l2Letter.calls (bt a0 x3_1) false _ A5.out).mono ?_); rintro e w' ⟨rfl, ⟨nd, rfl⟩⟩; refine ⟨_, rfl, ?_⟩))
        go_ret
        exact re_
      rw [if_neg c7] at H
      have c7b0 : (x3_1 == 0) = false := beq_eq_false_iff_ne.mpr c7
      have c7b1 : (x3_1 != 0) = true := bne_iff_ne.mpr c7
      by_cases c9 : (bt a0 x3_1) < 48
      · rw [if_pos c9] at H
        have c9b0 : decide ((bt a0 x3_1) < 48) = true := decide_eq_true c9
        clear c9
        obtain rfl := Option.some.inj H
        have p4 : 0 ≤ (x3_1 : Int) := od_
        have q4 : x3_1 < (a0.size : Int) := od_
        have hx4 := bt_at a0 x3_1
        replace p4 := eq_true p4
        replace q4 := eq_true q4
        go_wp2_with (first | ((with_reducible refine gate_callee (f := 150) rfl ?_); refine goesL_ (some 13) rfl rfl Try.func150 (by kernel_rfl) rfl #[.int .u8 (bt a0 x3_1)] rfl ar_ ?_; (with_reducible refine (spec_l2Letter.calls (bt a0 x3_1) false _ A5.out).mono ?_); rintro e w' ⟨rfl, ⟨nd, rfl⟩⟩; refine ⟨_, rfl, ?_⟩; have p8 : 0 ≤ (x3_1 : Int) := od_; have q8 : x3_1 < (a0.size : Int) := od_; have hx8 := bt_at a0 x3_1; replace p8 := eq_true p8; replace q8 := eq_true q8))
        go_ret
        exact re_
      rw [if_neg c9] at H
      have c9b0 : decide ((bt a0 x3_1) < 48) = false := decide_eq_false c9
      clear c9
      by_cases c11 : (bt a0 x3_1) > 57
      · rw [if_pos c11] at H
        have c11b0 : decide (57 < (bt a0 x3_1)) = true := decide_eq_true c11
        clear c11
        obtain rfl := Option.some.inj H
        have p4 : 0 ≤ (x3_1 : Int) := od_
        have q4 : x3_1 < (a0.size : Int) := od_
        have hx4 := bt_at a0 x3_1
        replace p4 := eq_true p4
        replace q4 := eq_true q4
        go_wp2_with (first | ((with_reducible refine gate_callee (f := 150) rfl ?_); refine goesL_ (some 13) rfl rfl Try.func150 (by kernel_rfl) rfl #[.int .u8 (bt a0 x3_1)] rfl ar_ ?_; (with_reducible refine (spec_l2Letter.calls (bt a0 x3_1) false _ A5.out).mono ?_); rintro e w' ⟨rfl, ⟨nd, rfl⟩⟩; refine ⟨_, rfl, ?_⟩; have p8 : 0 ≤ (x3_1 : Int) := od_; have q8 : x3_1 < (a0.size : Int) := od_; have hx8 := bt_at a0 x3_1; replace p8 := eq_true p8; replace q8 := eq_true q8; have p10 : 0 ≤ (x3_1 : Int) := od_; have q10 : x3_1 < (a0.size : Int) := od_; have hx10 := bt_at a0 x3_1; replace p10 := eq_true p10; replace q10 := eq_true q10))
        go_ret
        exact re_
      rw [if_neg c11] at H
      have c11b0 : decide (57 < (bt a0 x3_1)) = false := decide_eq_false c11
      clear c11
      have H' := Aside0.mk H
      clear H
      have p4 : 0 ≤ (x3_1 : Int) := od_
      have q4 : x3_1 < (a0.size : Int) := od_
      have hx4 := bt_at a0 x3_1
      replace p4 := eq_true p4
      replace q4 := eq_true q4
      go_wp2_with (first | ((with_reducible refine gate_callee (f := 150) rfl ?_); refine goesL_ (some 13) rfl rfl Try.func150 (by kernel_rfl) rfl #[.int .u8 (bt a0 x3_1)] rfl ar_ ?_; (with_reducible refine (spec_l2Letter.calls (bt a0 x3_1) false _ A5.out).mono ?_); rintro e w' ⟨rfl, ⟨nd, rfl⟩⟩; refine ⟨_, rfl, ?_⟩; have p8 : 0 ≤ (x3_1 : Int) := od_; have q8 : x3_1 < (a0.size : Int) := od_; have hx8 := bt_at a0 x3_1; replace p8 := eq_true p8; replace q8 := eq_true q8; have p10 : 0 ≤ (x3_1 : Int) := od_; have q10 : x3_1 < (a0.size : Int) := od_; have hx10 := bt_at a0 x3_1; replace p10 := eq_true p10; replace q10 := eq_true q10))
      go_roundg k1
      case measure => have := HK1.out; omega
      case rel => exact ⟨(wrap64 (x3_1 + 1)), sm_, H', ⟨by have := HK1.out; omega⟩, ⟨bel_⟩⟩

end Go.Proofs.Ytcchmhmbjhgfdaa.G
