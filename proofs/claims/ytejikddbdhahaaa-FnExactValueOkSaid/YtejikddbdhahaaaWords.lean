/- Small words of my own for the walks: strings compared by '>', '<=' and '>='. -/
import Derived.Test.YtejikddbdhahaaaWMore
import Derived.Test.YtejikddbdhahaaaWWords

namespace Go.Proofs.Ytejikddbdhahaaa.Own
open Go.RowKit Go.Proofs.YtejikddbdhahaaaW.PrintWords

theorem less_total (a b : List UInt8) : (!(Op.bytesLess a b || a == b)) = Op.bytesLess b a := by
  induction a generalizing b with
  | nil => cases b <;> simp [Op.bytesLess]
  | cons x xs ih =>
    cases b with
    | nil => simp [Op.bytesLess]
    | cons y ys =>
      have h := ih ys
      rcases Nat.lt_trichotomy x.toNat y.toNat with hlt | heq | hgt
      · have h1 : x < y := UInt8.lt_iff_toNat_lt.2 hlt
        have h2 : ¬ y < x := fun h => by have := UInt8.lt_iff_toNat_lt.1 h; omega
        have h3 : ¬ y = x := fun h => by subst h; omega
        simp [Op.bytesLess, h1, h2, h3]
      · have h1 : x = y := UInt8.toNat_inj.1 heq
        subst h1
        simpa [Op.bytesLess] using h
      · have h1 : y < x := UInt8.lt_iff_toNat_lt.2 hgt
        have h2 : ¬ x < y := fun h => by have := UInt8.lt_iff_toNat_lt.1 h; omega
        have h3 : ¬ x = y := fun h => by subst h; omega
        simp [Op.bytesLess, h1, h2, h3]
theorem str_gtr (t : TypeId) (a b : ByteArray) : binOp .gtr t (.string a) (.string b) = pure (.bool (Op.bytesLess b.toList a.toList)) := by
  rw [← less_total]; simp [binOp, Op.stringOp]
theorem str_leq (t : TypeId) (a b : ByteArray) : binOp .leq t (.string a) (.string b) = pure (.bool !(Op.bytesLess b.toList a.toList)) := by
  rw [← less_total a.toList b.toList, Bool.not_not]; simp [binOp, Op.stringOp]
theorem str_geq (t : TypeId) (a b : ByteArray) : binOp .geq t (.string a) (.string b) = pure (.bool !(Op.bytesLess a.toList b.toList)) := by simp [binOp, Op.stringOp]
end Go.Proofs.Ytejikddbdhahaaa.Own
