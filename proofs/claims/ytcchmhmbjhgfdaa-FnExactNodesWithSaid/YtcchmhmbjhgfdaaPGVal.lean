/- Graphs of the program: what is small. -/
import Derived.Test.YtcchmhmbjhgfdaaPVBase
namespace Go.Proofs.Ytcchmhmbjhgfdaa.Pur
open Go.RowKit Go.Proofs.Ytcchmhmbjhgfdaa.G Go.Proofs.YtcchmhmbjhgfdaaW.PrintWords Go.Proofs.YtcchmhmbjhgfdaaW.PrintLast
set_option linter.unusedVariables false

abbrev IP := S140
abbrev IN := S99
abbrev IG := S104
theorem rd_ip {l : List IP} {i : Nat} (h : i < l.length) : rd_T140 l (i : Int) = l[i] := getD_nat h
theorem rd_in {l : List IN} {i : Nat} (h : i < l.length) : rd_T99 l (i : Int) = l[i] := getD_nat h
theorem rd_ig {l : List IG} {i : Nat} (h : i < l.length) : rd_T104 l (i : Int) = l[i] := getD_nat h
theorem rd_st {l : List ByteArray} {i : Nat} (h : i < l.length) : rdOf ByteArray.empty l (i : Int) = l[i] := getD_nat h
def Few {α : Type} (P : α → Prop) (l : List α) : Prop := l.length ≤ 1048576 ∧ ∀ x ∈ l, P x
def SmT (s : ByteArray) : Prop := s.size ≤ 1048576
def SmP (x : IP) : Prop := SmT x.f0 ∧ Sm x.f1
def SmN (x : IN) : Prop := Few SmT x.f1 ∧ Few SmP x.f2
def SmG (x : IG) : Prop := SmT x.f1 ∧ Few SmP x.f4
theorem Few.map {α β : Type} {P : α → Prop} {Q : β → Prop} {l : List α} {c : α → β} (h : Few P l) (e : ∀ x, P x → Q (c x)) : Few Q (l.map c) :=
  ⟨by simpa using h.1, fun y hy => by obtain ⟨x, hx, rfl⟩ := List.mem_map.1 hy; exact e x (h.2 x hx)⟩
end Go.Proofs.Ytcchmhmbjhgfdaa.Pur
