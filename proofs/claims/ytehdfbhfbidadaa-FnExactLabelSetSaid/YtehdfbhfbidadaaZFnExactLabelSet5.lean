/- The law FnExactLabelSet of the given program holds of every input (theorem fnExactLabelSet_holds, the last of these texts): part 5 of 6. -/
import Derived.Below
import Derived.Carry
import Derived.Test.YtehdfbhfbidadaaZFnExactLabelSet4
/- The functions' code, as the machine of trees has it: printed by a program of this claim's writer (wip/gen/pcode.py), held by Lean. -/
namespace Go.Proofs.Ytehdfbhfbidadaa.V
open Go
@[simp] theorem shp_47 : shp Try.prog 47 = some (some 4) := by kernel_rfl
@[simp] theorem shp_99 : shp Try.prog 99 = some (some 3) := by kernel_rfl
@[simp] theorem shp_106 : shp Try.prog 106 = some (some 5) := by kernel_rfl
@[simp] theorem shp_126 : shp Try.prog 126 = some (some 5) := by kernel_rfl
@[simp] theorem shp_150 : shp Try.prog 150 = some (some 5) := by kernel_rfl
def pc_laws_eqEdge : PC :=
  .seq (.reg [⟨(some 2), .box 5 (.t 0), none, []⟩, ⟨(some 3), .box 5 (.t 1), none, []⟩, ⟨(some 4), .mv (.c (.b false)), none, []⟩] false) (.seq (.seq (.reg [⟨(some 5), .fa 0 (.t 2), none, []⟩, ⟨(some 6), .load none (.t 5), none, []⟩, ⟨(some 7), .fa 0 (.t 3), none, []⟩, ⟨(some 8), .load none (.t 7), none, []⟩, ⟨(some 9), .bin .neq (.t 6) (.t 8), none, []⟩] false) (.cond (.t 9) (.seq (.reg [⟨(some 4), .mv (.c (.b false)), none, []⟩] false) (.ret)) (.skip))) (.seq (.seq (.reg [⟨(some 10), .fa 1 (.t 2), none, []⟩, ⟨(some 11), .load none (.t 10), none, []⟩, ⟨(some 12), .fa 1 (.t 3), none, []⟩, ⟨(some 13), .load none (.t 12), none, []⟩, ⟨(some 14), .bin .neq (.t 11) (.t 13), none, []⟩] false) (.cond (.t 14) (.seq (.reg [⟨(some 4), .mv (.c (.b false)), none, []⟩] false) (.ret)) (.skip))) (.seq (.seq (.reg [⟨(some 15), .fa 2 (.t 2), none, []⟩, ⟨(some 16), .load none (.t 15), none, []⟩, ⟨(some 17), .fa 2 (.t 3), none, []⟩, ⟨(some 18), .load none (.t 17), none, []⟩, ⟨(some 19), .bin .neq (.t 16) (.t 18), none, []⟩] false) (.cond (.t 19) (.seq (.reg [⟨(some 4), .mv (.c (.b false)), none, []⟩] false) (.ret)) (.skip))) (.seq (.seq (.reg [⟨(some 20), .fa 3 (.t 2), none, []⟩, ⟨(some 21), .load none (.t 20), none, []⟩, ⟨(some 22), .fa 3 (.t 3), none, []⟩, ⟨(some 23), .load none (.t 22), none, []⟩, ⟨(some 24), .bin .neq (.t 21) (.t 23), none, []⟩] false) (.cond (.t 24) (.seq (.reg [⟨(some 4), .mv (.c (.b false)), none, []⟩] false) (.ret)) (.skip))) (.seq (.seq (.reg [⟨(some 25), .fa 4 (.t 2), none, []⟩, ⟨(some 26), .load none (.t 25), none, []⟩, ⟨(some 27), .fa 4 (.t 3), none, []⟩, ⟨(some 28), .load none (.t 27), none, []⟩, ⟨(some 29), .call (.ev [] .own) 189 [(.t 26), (.t 28)], none, []⟩, ⟨(some 30), .un .not (.t 29), none, []⟩] false) (.cond (.t 30) (.seq (.reg [⟨(some 4), .mv (.c (.b false)), none, []⟩] false) (.ret)) (.skip))) (.seq (.reg [⟨(some 4), .mv (.c (.b true)), none, []⟩] false) (.ret)))))))
theorem ok_laws_eqEdge : (Try.f162.body).bind (comp Try.prog modes Try.f162.ntmps) = some pc_laws_eqEdge := by kernel_rfl
theorem via_laws_eqEdge {args outs : List T} {r : T} (ha : args.length ≤ 31) (h : W Try.prog modes 31 pc_laws_eqEdge (enter args) (fin Try.prog [.tmp 4] args r outs)) : Ret Try.prog 162 args r outs := Ret.of Try.func162 ok_laws_eqEdge rfl rfl ha h
def pc_laws_eqEdgeS : PC :=
  .seq (.reg [⟨(some 4), .mv (.c (.b false)), none, []⟩] false) (.seq (.seq (.reg [⟨(some 6), .mv (.t 0), none, []⟩, ⟨(some 7), .len (.t 6), none, []⟩, ⟨(some 8), .mv (.t 1), none, []⟩, ⟨(some 9), .len (.t 8), none, []⟩, ⟨(some 10), .bin .neq (.t 7) (.t 9), none, []⟩] false) (.cond (.t 10) (.seq (.reg [⟨(some 4), .mv (.c (.b false)), none, []⟩] false) (.ret)) (.skip))) (.seq (.seq (.reg [⟨(some 5), .mv (.c (.i .i64 0)), none, []⟩] false) (.block 0 (.loop (.seq (.seq (.reg [⟨(some 11), .mv (.t 5), none, []⟩, ⟨(some 12), .mv (.t 0), none, []⟩, ⟨(some 13), .len (.t 12), none, []⟩, ⟨(some 14), .bin .lss (.t 11) (.t 13), none, []⟩] false) (.cond (.t 14) (.skip) (.exit 0))) (.seq (.block 1 (.seq (.reg [⟨(some 17), .mv (.t 0), none, []⟩, ⟨(some 18), .mv (.t 5), none, []⟩, ⟨(some 19), .ia 5 (.t 17) (.t 18), none, [0, 1]⟩, ⟨(some 20), .load (some 5) (.t 19), none, [2]⟩, ⟨(some 21), .mv (.t 1), none, []⟩, ⟨(some 22), .mv (.t 5), none, []⟩, ⟨(some 23), .ia 5 (.t 21) (.t 22), none, [4, 5]⟩, ⟨(some 24), .load (some 5) (.t 23), none, [6]⟩, ⟨(some 25), .call (.ev [] .own) 162 [(.t 20), (.t 24)], none, [3, 7]⟩, ⟨(some 26), .un .not (.t 25), none, [8]⟩] true) (.cond (.t 26) (.seq (.reg [⟨(some 4), .mv (.c (.b false)), none, []⟩] false) (.ret)) (.skip)))) (.reg [⟨(some 15), .mv (.t 5), none, []⟩, ⟨(some 16), .bin .add (.t 15) (.c (.i .i64 1)), none, []⟩, ⟨(some 5), .mv (.t 16), none, []⟩] false)))))) (.seq (.reg [⟨(some 4), .mv (.c (.b true)), none, []⟩] false) (.ret))))
theorem ok_laws_eqEdgeS : (Try.f102.body).bind (comp Try.prog modes Try.f102.ntmps) = some pc_laws_eqEdgeS := by kernel_rfl
theorem via_laws_eqEdgeS {args outs : List T} {r : T} (ha : args.length ≤ 27) (h : W Try.prog modes 27 pc_laws_eqEdgeS (enter args) (fin Try.prog [.tmp 4] args r outs)) : Ret Try.prog 102 args r outs := Ret.of Try.func102 ok_laws_eqEdgeS rfl rfl ha h
def pc_laws_eqGraph : PC :=
  .seq (.reg [⟨(some 2), .box 4 (.t 0), none, []⟩, ⟨(some 3), .box 4 (.t 1), none, []⟩, ⟨(some 4), .mv (.c (.b false)), none, []⟩] false) (.seq (.seq (.reg [⟨(some 5), .fa 0 (.t 2), none, []⟩, ⟨(some 6), .load none (.t 5), none, []⟩, ⟨(some 7), .fa 0 (.t 3), none, []⟩, ⟨(some 8), .load none (.t 7), none, []⟩, ⟨(some 9), .call (.ev [] .own) 101 [(.t 6), (.t 8)], none, []⟩, ⟨(some 10), .un .not (.t 9), none, []⟩] false) (.cond (.t 10) (.seq (.reg [⟨(some 4), .mv (.c (.b false)), none, []⟩] false) (.ret)) (.skip))) (.seq (.seq (.reg [⟨(some 11), .fa 1 (.t 2), none, []⟩, ⟨(some 12), .load none (.t 11), none, []⟩, ⟨(some 13), .fa 1 (.t 3), none, []⟩, ⟨(some 14), .load none (.t 13), none, []⟩, ⟨(some 15), .call (.ev [] .own) 102 [(.t 12), (.t 14)], none, []⟩, ⟨(some 16), .un .not (.t 15), none, []⟩] false) (.cond (.t 16) (.seq (.reg [⟨(some 4), .mv (.c (.b false)), none, []⟩] false) (.ret)) (.skip))) (.seq (.seq (.reg [⟨(some 17), .fa 2 (.t 2), none, []⟩, ⟨(some 18), .load none (.t 17), none, []⟩, ⟨(some 19), .fa 2 (.t 3), none, []⟩, ⟨(some 20), .load none (.t 19), none, []⟩, ⟨(some 21), .bin .neq (.t 18) (.t 20), none, []⟩] false) (.cond (.t 21) (.seq (.reg [⟨(some 4), .mv (.c (.b false)), none, []⟩] false) (.ret)) (.skip))) (.seq (.seq (.reg [⟨(some 22), .fa 3 (.t 2), none, []⟩, ⟨(some 23), .load none (.t 22), none, []⟩, ⟨(some 24), .fa 3 (.t 3), none, []⟩, ⟨(some 25), .load none (.t 24), none, []⟩, ⟨(some 26), .bin .neq (.t 23) (.t 25), none, []⟩] false) (.cond (.t 26) (.seq (.reg [⟨(some 4), .mv (.c (.b false)), none, []⟩] false) (.ret)) (.skip))) (.seq (.reg [⟨(some 4), .mv (.c (.b true)), none, []⟩] false) (.ret))))))
theorem ok_laws_eqGraph : (Try.f43.body).bind (comp Try.prog modes Try.f43.ntmps) = some pc_laws_eqGraph := by kernel_rfl
theorem via_laws_eqGraph {args outs : List T} {r : T} (ha : args.length ≤ 27) (h : W Try.prog modes 27 pc_laws_eqGraph (enter args) (fin Try.prog [.tmp 4] args r outs)) : Ret Try.prog 43 args r outs := Ret.of Try.func43 ok_laws_eqGraph rfl rfl ha h
def pc_laws_eqNode : PC :=
  .seq (.reg [⟨(some 2), .box 3 (.t 0), none, []⟩, ⟨(some 3), .box 3 (.t 1), none, []⟩, ⟨(some 4), .mv (.c (.b false)), none, []⟩] false) (.seq (.seq (.reg [⟨(some 5), .fa 0 (.t 2), none, []⟩, ⟨(some 6), .load none (.t 5), none, []⟩, ⟨(some 7), .fa 0 (.t 3), none, []⟩, ⟨(some 8), .load none (.t 7), none, []⟩, ⟨(some 9), .bin .neq (.t 6) (.t 8), none, []⟩] false) (.cond (.t 9) (.seq (.reg [⟨(some 4), .mv (.c (.b false)), none, []⟩] false) (.ret)) (.skip))) (.seq (.seq (.reg [⟨(some 10), .fa 1 (.t 2), none, []⟩, ⟨(some 11), .load none (.t 10), none, []⟩, ⟨(some 12), .fa 1 (.t 3), none, []⟩, ⟨(some 13), .load none (.t 12), none, []⟩, ⟨(some 14), .call (.ev [] .own) 188 [(.t 11), (.t 13)], none, []⟩, ⟨(some 15), .un .not (.t 14), none, []⟩] false) (.cond (.t 15) (.seq (.reg [⟨(some 4), .mv (.c (.b false)), none, []⟩] false) (.ret)) (.skip))) (.seq (.seq (.reg [⟨(some 16), .fa 2 (.t 2), none, []⟩, ⟨(some 17), .load none (.t 16), none, []⟩, ⟨(some 18), .fa 2 (.t 3), none, []⟩, ⟨(some 19), .load none (.t 18), none, []⟩, ⟨(some 20), .call (.ev [] .own) 189 [(.t 17), (.t 19)], none, []⟩, ⟨(some 21), .un .not (.t 20), none, []⟩] false) (.cond (.t 21) (.seq (.reg [⟨(some 4), .mv (.c (.b false)), none, []⟩] false) (.ret)) (.skip))) (.seq (.reg [⟨(some 4), .mv (.c (.b true)), none, []⟩] false) (.ret)))))
theorem ok_laws_eqNode : (Try.f161.body).bind (comp Try.prog modes Try.f161.ntmps) = some pc_laws_eqNode := by kernel_rfl
theorem via_laws_eqNode {args outs : List T} {r : T} (ha : args.length ≤ 22) (h : W Try.prog modes 22 pc_laws_eqNode (enter args) (fin Try.prog [.tmp 4] args r outs)) : Ret Try.prog 161 args r outs := Ret.of Try.func161 ok_laws_eqNode rfl rfl ha h
def pc_laws_eqNodeS : PC :=
  .seq (.reg [⟨(some 4), .mv (.c (.b false)), none, []⟩] false) (.seq (.seq (.reg [⟨(some 6), .mv (.t 0), none, []⟩, ⟨(some 7), .len (.t 6), none, []⟩, ⟨(some 8), .mv (.t 1), none, []⟩, ⟨(some 9), .len (.t 8), none, []⟩, ⟨(some 10), .bin .neq (.t 7) (.t 9), none, []⟩] false) (.cond (.t 10) (.seq (.reg [⟨(some 4), .mv (.c (.b false)), none, []⟩] false) (.ret)) (.skip))) (.seq (.seq (.reg [⟨(some 5), .mv (.c (.i .i64 0)), none, []⟩] false) (.block 0 (.loop (.seq (.seq (.reg [⟨(some 11), .mv (.t 5), none, []⟩, ⟨(some 12), .mv (.t 0), none, []⟩, ⟨(some 13), .len (.t 12), none, []⟩, ⟨(some 14), .bin .lss (.t 11) (.t 13), none, []⟩] false) (.cond (.t 14) (.skip) (.exit 0))) (.seq (.block 1 (.seq (.reg [⟨(some 17), .mv (.t 0), none, []⟩, ⟨(some 18), .mv (.t 5), none, []⟩, ⟨(some 19), .ia 3 (.t 17) (.t 18), none, [0, 1]⟩, ⟨(some 20), .load (some 3) (.t 19), none, [2]⟩, ⟨(some 21), .mv (.t 1), none, []⟩, ⟨(some 22), .mv (.t 5), none, []⟩, ⟨(some 23), .ia 3 (.t 21) (.t 22), none, [4, 5]⟩, ⟨(some 24), .load (some 3) (.t 23), none, [6]⟩, ⟨(some 25), .call (.ev [] .own) 161 [(.t 20), (.t 24)], none, [3, 7]⟩, ⟨(some 26), .un .not (.t 25), none, [8]⟩] true) (.cond (.t 26) (.seq (.reg [⟨(some 4), .mv (.c (.b false)), none, []⟩] false) (.ret)) (.skip)))) (.reg [⟨(some 15), .mv (.t 5), none, []⟩, ⟨(some 16), .bin .add (.t 15) (.c (.i .i64 1)), none, []⟩, ⟨(some 5), .mv (.t 16), none, []⟩] false)))))) (.seq (.reg [⟨(some 4), .mv (.c (.b true)), none, []⟩] false) (.ret))))
theorem ok_laws_eqNodeS : (Try.f101.body).bind (comp Try.prog modes Try.f101.ntmps) = some pc_laws_eqNodeS := by kernel_rfl
theorem via_laws_eqNodeS {args outs : List T} {r : T} (ha : args.length ≤ 27) (h : W Try.prog modes 27 pc_laws_eqNodeS (enter args) (fin Try.prog [.tmp 4] args r outs)) : Ret Try.prog 101 args r outs := Ret.of Try.func101 ok_laws_eqNodeS rfl rfl ha h
def pc_laws_eqProp : PC :=
  .seq (.reg [⟨(some 2), .box 5 (.t 0), none, []⟩, ⟨(some 3), .box 5 (.t 1), none, []⟩, ⟨(some 4), .mv (.c (.b false)), none, []⟩] false) (.seq (.seq (.reg [⟨(some 5), .fa 0 (.t 2), none, []⟩, ⟨(some 6), .load none (.t 5), none, []⟩, ⟨(some 7), .fa 0 (.t 3), none, []⟩, ⟨(some 8), .load none (.t 7), none, []⟩, ⟨(some 9), .bin .neq (.t 6) (.t 8), none, []⟩] false) (.cond (.t 9) (.seq (.reg [⟨(some 4), .mv (.c (.b false)), none, []⟩] false) (.ret)) (.skip))) (.seq (.seq (.reg [⟨(some 10), .fa 1 (.t 2), none, []⟩, ⟨(some 11), .load (some 4) (.t 10), none, []⟩, ⟨(some 12), .fa 1 (.t 3), none, []⟩, ⟨(some 13), .load (some 4) (.t 12), none, []⟩, ⟨(some 14), .call (.ev [] .own) 18 [(.t 11), (.t 13)], none, []⟩, ⟨(some 15), .un .not (.t 14), none, []⟩] false) (.cond (.t 15) (.seq (.reg [⟨(some 4), .mv (.c (.b false)), none, []⟩] false) (.ret)) (.skip))) (.seq (.reg [⟨(some 4), .mv (.c (.b true)), none, []⟩] false) (.ret))))
theorem ok_laws_eqProp : (Try.f196.body).bind (comp Try.prog modes Try.f196.ntmps) = some pc_laws_eqProp := by kernel_rfl
theorem via_laws_eqProp {args outs : List T} {r : T} (ha : args.length ≤ 16) (h : W Try.prog modes 16 pc_laws_eqProp (enter args) (fin Try.prog [.tmp 4] args r outs)) : Ret Try.prog 196 args r outs := Ret.of Try.func196 ok_laws_eqProp rfl rfl ha h
def pc_laws_eqPropS : PC :=
  .seq (.reg [⟨(some 4), .mv (.c (.b false)), none, []⟩] false) (.seq (.seq (.reg [⟨(some 6), .mv (.t 0), none, []⟩, ⟨(some 7), .len (.t 6), none, []⟩, ⟨(some 8), .mv (.t 1), none, []⟩, ⟨(some 9), .len (.t 8), none, []⟩, ⟨(some 10), .bin .neq (.t 7) (.t 9), none, []⟩] false) (.cond (.t 10) (.seq (.reg [⟨(some 4), .mv (.c (.b false)), none, []⟩] false) (.ret)) (.skip))) (.seq (.seq (.reg [⟨(some 5), .mv (.c (.i .i64 0)), none, []⟩] false) (.block 0 (.loop (.seq (.seq (.reg [⟨(some 11), .mv (.t 5), none, []⟩, ⟨(some 12), .mv (.t 0), none, []⟩, ⟨(some 13), .len (.t 12), none, []⟩, ⟨(some 14), .bin .lss (.t 11) (.t 13), none, []⟩] false) (.cond (.t 14) (.skip) (.exit 0))) (.seq (.block 1 (.seq (.reg [⟨(some 17), .mv (.t 0), none, []⟩, ⟨(some 18), .mv (.t 5), none, []⟩, ⟨(some 19), .ia 5 (.t 17) (.t 18), none, [0, 1]⟩, ⟨(some 20), .load (some 5) (.t 19), none, [2]⟩, ⟨(some 21), .mv (.t 1), none, []⟩, ⟨(some 22), .mv (.t 5), none, []⟩, ⟨(some 23), .ia 5 (.t 21) (.t 22), none, [4, 5]⟩, ⟨(some 24), .load (some 5) (.t 23), none, [6]⟩, ⟨(some 25), .call (.ev [] .own) 196 [(.t 20), (.t 24)], none, [3, 7]⟩, ⟨(some 26), .un .not (.t 25), none, [8]⟩] true) (.cond (.t 26) (.seq (.reg [⟨(some 4), .mv (.c (.b false)), none, []⟩] false) (.ret)) (.skip)))) (.reg [⟨(some 15), .mv (.t 5), none, []⟩, ⟨(some 16), .bin .add (.t 15) (.c (.i .i64 1)), none, []⟩, ⟨(some 5), .mv (.t 16), none, []⟩] false)))))) (.seq (.reg [⟨(some 4), .mv (.c (.b true)), none, []⟩] false) (.ret))))
theorem ok_laws_eqPropS : (Try.f189.body).bind (comp Try.prog modes Try.f189.ntmps) = some pc_laws_eqPropS := by kernel_rfl
theorem via_laws_eqPropS {args outs : List T} {r : T} (ha : args.length ≤ 27) (h : W Try.prog modes 27 pc_laws_eqPropS (enter args) (fin Try.prog [.tmp 4] args r outs)) : Ret Try.prog 189 args r outs := Ret.of Try.func189 ok_laws_eqPropS rfl rfl ha h
def pc_laws_eqStringS : PC :=
  .seq (.reg [⟨(some 4), .mv (.c (.b false)), none, []⟩] false) (.seq (.seq (.reg [⟨(some 6), .mv (.t 0), none, []⟩, ⟨(some 7), .len (.t 6), none, []⟩, ⟨(some 8), .mv (.t 1), none, []⟩, ⟨(some 9), .len (.t 8), none, []⟩, ⟨(some 10), .bin .neq (.t 7) (.t 9), none, []⟩] false) (.cond (.t 10) (.seq (.reg [⟨(some 4), .mv (.c (.b false)), none, []⟩] false) (.ret)) (.skip))) (.seq (.seq (.reg [⟨(some 5), .mv (.c (.i .i64 0)), none, []⟩] false) (.block 0 (.loop (.seq (.seq (.reg [⟨(some 11), .mv (.t 5), none, []⟩, ⟨(some 12), .mv (.t 0), none, []⟩, ⟨(some 13), .len (.t 12), none, []⟩, ⟨(some 14), .bin .lss (.t 11) (.t 13), none, []⟩] false) (.cond (.t 14) (.skip) (.exit 0))) (.seq (.block 1 (.seq (.reg [⟨(some 17), .mv (.t 0), none, []⟩, ⟨(some 18), .mv (.t 5), none, []⟩, ⟨(some 19), .ia 1 (.t 17) (.t 18), none, [0, 1]⟩, ⟨(some 20), .load none (.t 19), none, [2]⟩, ⟨(some 21), .mv (.t 1), none, []⟩, ⟨(some 22), .mv (.t 5), none, []⟩, ⟨(some 23), .ia 1 (.t 21) (.t 22), none, [4, 5]⟩, ⟨(some 24), .load none (.t 23), none, [6]⟩, ⟨(some 25), .bin .neq (.t 20) (.t 24), none, [3, 7]⟩] true) (.cond (.t 25) (.seq (.reg [⟨(some 4), .mv (.c (.b false)), none, []⟩] false) (.ret)) (.skip)))) (.reg [⟨(some 15), .mv (.t 5), none, []⟩, ⟨(some 16), .bin .add (.t 15) (.c (.i .i64 1)), none, []⟩, ⟨(some 5), .mv (.t 16), none, []⟩] false)))))) (.seq (.reg [⟨(some 4), .mv (.c (.b true)), none, []⟩] false) (.ret))))
theorem ok_laws_eqStringS : (Try.f188.body).bind (comp Try.prog modes Try.f188.ntmps) = some pc_laws_eqStringS := by kernel_rfl
theorem via_laws_eqStringS {args outs : List T} {r : T} (ha : args.length ≤ 26) (h : W Try.prog modes 26 pc_laws_eqStringS (enter args) (fin Try.prog [.tmp 4] args r outs)) : Ret Try.prog 188 args r outs := Ret.of Try.func188 ok_laws_eqStringS rfl rfl ha h
def pc_laws_eqValue : PC :=
  .seq (.reg [⟨(some 2), .box 4 (.t 0), none, []⟩, ⟨(some 3), .box 4 (.t 1), none, []⟩, ⟨(some 4), .mv (.c (.b false)), none, []⟩] false) (.seq (.seq (.reg [⟨(some 5), .fa 0 (.t 2), none, []⟩, ⟨(some 6), .load none (.t 5), none, []⟩, ⟨(some 7), .fa 0 (.t 3), none, []⟩, ⟨(some 8), .load none (.t 7), none, []⟩, ⟨(some 9), .bin .neq (.t 6) (.t 8), none, []⟩] false) (.cond (.t 9) (.seq (.reg [⟨(some 4), .mv (.c (.b false)), none, []⟩] false) (.ret)) (.skip))) (.seq (.seq (.reg [⟨(some 10), .fa 1 (.t 2), none, []⟩, ⟨(some 11), .load none (.t 10), none, []⟩, ⟨(some 12), .fa 1 (.t 3), none, []⟩, ⟨(some 13), .load none (.t 12), none, []⟩, ⟨(some 14), .bin .neq (.t 11) (.t 13), none, []⟩] false) (.cond (.t 14) (.seq (.reg [⟨(some 4), .mv (.c (.b false)), none, []⟩] false) (.ret)) (.skip))) (.seq (.seq (.reg [⟨(some 15), .fa 2 (.t 2), none, []⟩, ⟨(some 16), .load none (.t 15), none, []⟩, ⟨(some 17), .fa 2 (.t 3), none, []⟩, ⟨(some 18), .load none (.t 17), none, []⟩, ⟨(some 19), .bin .neq (.t 16) (.t 18), none, []⟩] false) (.cond (.t 19) (.seq (.reg [⟨(some 4), .mv (.c (.b false)), none, []⟩] false) (.ret)) (.skip))) (.seq (.seq (.reg [⟨(some 20), .fa 3 (.t 2), none, []⟩, ⟨(some 21), .load none (.t 20), none, []⟩, ⟨(some 22), .fa 3 (.t 3), none, []⟩, ⟨(some 23), .load none (.t 22), none, []⟩, ⟨(some 24), .call (.ev [] .own) 60 [(.t 21), (.t 23)], none, []⟩, ⟨(some 25), .un .not (.t 24), none, []⟩] false) (.cond (.t 25) (.seq (.reg [⟨(some 4), .mv (.c (.b false)), none, []⟩] false) (.ret)) (.skip))) (.seq (.reg [⟨(some 4), .mv (.c (.b true)), none, []⟩] false) (.ret))))))
theorem ok_laws_eqValue : (Try.f18.body).bind (comp Try.prog modes Try.f18.ntmps) = some pc_laws_eqValue := by kernel_rfl
theorem via_laws_eqValue {args outs : List T} {r : T} (ha : args.length ≤ 26) (h : W Try.prog modes 26 pc_laws_eqValue (enter args) (fin Try.prog [.tmp 4] args r outs)) : Ret Try.prog 18 args r outs := Ret.of Try.func18 ok_laws_eqValue rfl rfl ha h
def pc_laws_eqValueS : PC :=
  .seq (.reg [⟨(some 4), .mv (.c (.b false)), none, []⟩] false) (.seq (.seq (.reg [⟨(some 6), .mv (.t 0), none, []⟩, ⟨(some 7), .len (.t 6), none, []⟩, ⟨(some 8), .mv (.t 1), none, []⟩, ⟨(some 9), .len (.t 8), none, []⟩, ⟨(some 10), .bin .neq (.t 7) (.t 9), none, []⟩] false) (.cond (.t 10) (.seq (.reg [⟨(some 4), .mv (.c (.b false)), none, []⟩] false) (.ret)) (.skip))) (.seq (.seq (.reg [⟨(some 5), .mv (.c (.i .i64 0)), none, []⟩] false) (.block 0 (.loop (.seq (.seq (.reg [⟨(some 11), .mv (.t 5), none, []⟩, ⟨(some 12), .mv (.t 0), none, []⟩, ⟨(some 13), .len (.t 12), none, []⟩, ⟨(some 14), .bin .lss (.t 11) (.t 13), none, []⟩] false) (.cond (.t 14) (.skip) (.exit 0))) (.seq (.block 1 (.seq (.reg [⟨(some 17), .mv (.t 0), none, []⟩, ⟨(some 18), .mv (.t 5), none, []⟩, ⟨(some 19), .ia 4 (.t 17) (.t 18), none, [0, 1]⟩, ⟨(some 20), .load (some 4) (.t 19), none, [2]⟩, ⟨(some 21), .mv (.t 1), none, []⟩, ⟨(some 22), .mv (.t 5), none, []⟩, ⟨(some 23), .ia 4 (.t 21) (.t 22), none, [4, 5]⟩, ⟨(some 24), .load (some 4) (.t 23), none, [6]⟩, ⟨(some 25), .call (.ev [] .own) 18 [(.t 20), (.t 24)], none, [3, 7]⟩, ⟨(some 26), .un .not (.t 25), none, [8]⟩] true) (.cond (.t 26) (.seq (.reg [⟨(some 4), .mv (.c (.b false)), none, []⟩] false) (.ret)) (.skip)))) (.reg [⟨(some 15), .mv (.t 5), none, []⟩, ⟨(some 16), .bin .add (.t 15) (.c (.i .i64 1)), none, []⟩, ⟨(some 5), .mv (.t 16), none, []⟩] false)))))) (.seq (.reg [⟨(some 4), .mv (.c (.b true)), none, []⟩] false) (.ret))))
theorem ok_laws_eqValueS : (Try.f60.body).bind (comp Try.prog modes Try.f60.ntmps) = some pc_laws_eqValueS := by kernel_rfl
theorem via_laws_eqValueS {args outs : List T} {r : T} (ha : args.length ≤ 27) (h : W Try.prog modes 27 pc_laws_eqValueS (enter args) (fin Try.prog [.tmp 4] args r outs)) : Ret Try.prog 60 args r outs := Ret.of Try.func60 ok_laws_eqValueS rfl rfl ha h
def pc_laws_heldEdgeS : PC :=
  .seq (.reg [⟨(some 4), .mv (.c (.i .i64 0)), none, []⟩] false) (.seq (.seq (.reg [⟨(some 5), .mv (.c (.i .i64 0)), none, []⟩] false) (.block 0 (.loop (.seq (.seq (.reg [⟨(some 6), .mv (.t 5), none, []⟩, ⟨(some 7), .mv (.t 0), none, []⟩, ⟨(some 8), .len (.t 7), none, []⟩, ⟨(some 9), .bin .lss (.t 6) (.t 8), none, []⟩] false) (.cond (.t 9) (.skip) (.exit 0))) (.seq (.block 1 (.seq (.seq (.reg [⟨(some 12), .mv (.t 0), none, []⟩, ⟨(some 13), .mv (.t 5), none, []⟩, ⟨(some 14), .ia 5 (.t 12) (.t 13), none, []⟩, ⟨(some 15), .fa 0 (.t 14), none, []⟩, ⟨(some 16), .load none (.t 15), none, []⟩, ⟨(some 17), .mv (.t 1), none, []⟩, ⟨(some 18), .bin .neq (.t 16) (.t 17), none, []⟩] false) (.cond (.t 18) (.seq (.reg [⟨(some 4), .mv (.c (.i .i64 (-1))), none, []⟩] false) (.ret)) (.skip))) (.seq (.reg [⟨(some 19), .mv (.t 1), none, []⟩, ⟨(some 20), .bin .add (.t 19) (.c (.i .i64 1)), none, []⟩, ⟨(some 1), .mv (.t 20), none, []⟩] false) (.seq (.seq (.reg [⟨(some 21), .mv (.t 0), none, []⟩, ⟨(some 22), .mv (.t 5), none, []⟩, ⟨(some 23), .ia 5 (.t 21) (.t 22), none, [0, 1]⟩, ⟨(some 24), .fa 1 (.t 23), none, [2]⟩, ⟨(some 25), .load none (.t 24), none, [3]⟩, ⟨(some 26), .mv (.t 1), none, []⟩, ⟨(some 27), .call (.ev [] .own) 124 [(.t 26)], none, [5]⟩, ⟨(some 28), .bin .neq (.t 25) (.t 27), none, [4, 6]⟩] true) (.cond (.t 28) (.seq (.reg [⟨(some 4), .mv (.c (.i .i64 (-1))), none, []⟩] false) (.ret)) (.skip))) (.seq (.reg [⟨(some 29), .mv (.t 1), none, []⟩, ⟨(some 30), .bin .add (.t 29) (.c (.i .i64 1)), none, []⟩, ⟨(some 1), .mv (.t 30), none, []⟩] false) (.seq (.seq (.reg [⟨(some 31), .mv (.t 0), none, []⟩, ⟨(some 32), .mv (.t 5), none, []⟩, ⟨(some 33), .ia 5 (.t 31) (.t 32), none, []⟩, ⟨(some 34), .fa 2 (.t 33), none, []⟩, ⟨(some 35), .load none (.t 34), none, []⟩, ⟨(some 36), .mv (.t 1), none, []⟩, ⟨(some 37), .bin .neq (.t 35) (.t 36), none, []⟩] false) (.cond (.t 37) (.seq (.reg [⟨(some 4), .mv (.c (.i .i64 (-1))), none, []⟩] false) (.ret)) (.skip))) (.seq (.reg [⟨(some 38), .mv (.t 1), none, []⟩, ⟨(some 39), .bin .add (.t 38) (.c (.i .i64 1)), none, []⟩, ⟨(some 1), .mv (.t 39), none, []⟩] false) (.seq (.seq (.reg [⟨(some 40), .mv (.t 0), none, []⟩, ⟨(some 41), .mv (.t 5), none, []⟩, ⟨(some 42), .ia 5 (.t 40) (.t 41), none, []⟩, ⟨(some 43), .fa 3 (.t 42), none, []⟩, ⟨(some 44), .load none (.t 43), none, []⟩, ⟨(some 45), .mv (.t 1), none, []⟩, ⟨(some 46), .bin .neq (.t 44) (.t 45), none, []⟩] false) (.cond (.t 46) (.seq (.reg [⟨(some 4), .mv (.c (.i .i64 (-1))), none, []⟩] false) (.ret)) (.skip))) (.seq (.reg [⟨(some 47), .mv (.t 1), none, []⟩, ⟨(some 48), .bin .add (.t 47) (.c (.i .i64 1)), none, []⟩, ⟨(some 1), .mv (.t 48), none, []⟩] false) (.seq (.reg [⟨(some 49), .mv (.t 0), none, []⟩, ⟨(some 50), .mv (.t 5), none, []⟩, ⟨(some 51), .ia 5 (.t 49) (.t 50), none, []⟩, ⟨(some 52), .fa 4 (.t 51), none, []⟩, ⟨(some 53), .load none (.t 52), none, []⟩, ⟨(some 54), .mv (.t 1), none, []⟩, ⟨(some 55), .call (.ev [] .own) 166 [(.t 53), (.t 54)], none, []⟩, ⟨(some 1), .mv (.t 55), none, []⟩] false) (.seq (.reg [⟨(some 56), .mv (.t 1), none, []⟩, ⟨(some 57), .bin .lss (.t 56) (.c (.i .i64 0)), none, []⟩] false) (.cond (.t 57) (.seq (.reg [⟨(some 4), .mv (.c (.i .i64 (-1))), none, []⟩] false) (.ret)) (.skip))))))))))))) (.reg [⟨(some 10), .mv (.t 5), none, []⟩, ⟨(some 11), .bin .add (.t 10) (.c (.i .i64 1)), none, []⟩, ⟨(some 5), .mv (.t 11), none, []⟩] false)))))) (.seq (.reg [⟨(some 58), .mv (.t 1), none, []⟩, ⟨(some 4), .mv (.t 58), none, []⟩] false) (.ret)))
theorem ok_laws_heldEdgeS : (Try.f106.body).bind (comp Try.prog modes Try.f106.ntmps) = some pc_laws_heldEdgeS := by kernel_rfl
theorem via_laws_heldEdgeS {args outs : List T} {r : T} (ha : args.length ≤ 59) (h : W Try.prog modes 59 pc_laws_heldEdgeS (enter args) (fin Try.prog [.tmp 4] args r outs)) : Ret Try.prog 106 args r outs := Ret.of Try.func106 ok_laws_heldEdgeS rfl rfl ha h
def pc_laws_heldGraph : PC :=
  .seq (.reg [⟨(some 2), .box 4 (.t 0), none, []⟩, ⟨(some 4), .mv (.c (.i .i64 0)), none, []⟩] false) (.seq (.reg [⟨(some 5), .fa 0 (.t 2), none, []⟩, ⟨(some 6), .load none (.t 5), none, []⟩, ⟨(some 7), .mv (.t 1), none, []⟩, ⟨(some 8), .call (.ev [] .own) 105 [(.t 6), (.t 7)], none, []⟩, ⟨(some 1), .mv (.t 8), none, []⟩] false) (.seq (.seq (.reg [⟨(some 9), .mv (.t 1), none, []⟩, ⟨(some 10), .bin .lss (.t 9) (.c (.i .i64 0)), none, []⟩] false) (.cond (.t 10) (.seq (.reg [⟨(some 4), .mv (.c (.i .i64 (-1))), none, []⟩] false) (.ret)) (.skip))) (.seq (.reg [⟨(some 11), .fa 1 (.t 2), none, []⟩, ⟨(some 12), .load none (.t 11), none, []⟩, ⟨(some 13), .mv (.t 1), none, []⟩, ⟨(some 14), .call (.ev [] .own) 106 [(.t 12), (.t 13)], none, []⟩, ⟨(some 1), .mv (.t 14), none, []⟩] false) (.seq (.seq (.reg [⟨(some 15), .mv (.t 1), none, []⟩, ⟨(some 16), .bin .lss (.t 15) (.c (.i .i64 0)), none, []⟩] false) (.cond (.t 16) (.seq (.reg [⟨(some 4), .mv (.c (.i .i64 (-1))), none, []⟩] false) (.ret)) (.skip))) (.seq (.reg [⟨(some 17), .mv (.t 1), none, []⟩, ⟨(some 4), .mv (.t 17), none, []⟩] false) (.ret))))))
theorem ok_laws_heldGraph : (Try.f45.body).bind (comp Try.prog modes Try.f45.ntmps) = some pc_laws_heldGraph := by kernel_rfl
theorem via_laws_heldGraph {args outs : List T} {r : T} (ha : args.length ≤ 18) (h : W Try.prog modes 18 pc_laws_heldGraph (enter args) (fin Try.prog [.tmp 4] args r outs)) : Ret Try.prog 45 args r outs := Ret.of Try.func45 ok_laws_heldGraph rfl rfl ha h
def pc_laws_heldNodeS : PC :=
  .seq (.reg [⟨(some 4), .mv (.c (.i .i64 0)), none, []⟩] false) (.seq (.seq (.reg [⟨(some 5), .mv (.c (.i .i64 0)), none, []⟩] false) (.block 0 (.loop (.seq (.seq (.reg [⟨(some 6), .mv (.t 5), none, []⟩, ⟨(some 7), .mv (.t 0), none, []⟩, ⟨(some 8), .len (.t 7), none, []⟩, ⟨(some 9), .bin .lss (.t 6) (.t 8), none, []⟩] false) (.cond (.t 9) (.skip) (.exit 0))) (.seq (.block 1 (.seq (.seq (.reg [⟨(some 12), .mv (.t 0), none, []⟩, ⟨(some 13), .mv (.t 5), none, []⟩, ⟨(some 14), .ia 3 (.t 12) (.t 13), none, []⟩, ⟨(some 15), .fa 0 (.t 14), none, []⟩, ⟨(some 16), .load none (.t 15), none, []⟩, ⟨(some 17), .mv (.t 1), none, []⟩, ⟨(some 18), .bin .neq (.t 16) (.t 17), none, []⟩] false) (.cond (.t 18) (.seq (.reg [⟨(some 4), .mv (.c (.i .i64 (-1))), none, []⟩] false) (.ret)) (.skip))) (.seq (.reg [⟨(some 19), .mv (.t 1), none, []⟩, ⟨(some 20), .bin .add (.t 19) (.c (.i .i64 1)), none, []⟩, ⟨(some 1), .mv (.t 20), none, []⟩] false) (.seq (.reg [⟨(some 21), .mv (.t 0), none, []⟩, ⟨(some 22), .mv (.t 5), none, []⟩, ⟨(some 23), .ia 3 (.t 21) (.t 22), none, []⟩, ⟨(some 24), .fa 1 (.t 23), none, []⟩, ⟨(some 25), .load none (.t 24), none, []⟩, ⟨(some 26), .mv (.t 1), none, []⟩, ⟨(some 27), .call (.ev [] .own) 165 [(.t 25), (.t 26)], none, []⟩, ⟨(some 1), .mv (.t 27), none, []⟩] false) (.seq (.seq (.reg [⟨(some 28), .mv (.t 1), none, []⟩, ⟨(some 29), .bin .lss (.t 28) (.c (.i .i64 0)), none, []⟩] false) (.cond (.t 29) (.seq (.reg [⟨(some 4), .mv (.c (.i .i64 (-1))), none, []⟩] false) (.ret)) (.skip))) (.seq (.reg [⟨(some 30), .mv (.t 0), none, []⟩, ⟨(some 31), .mv (.t 5), none, []⟩, ⟨(some 32), .ia 3 (.t 30) (.t 31), none, []⟩, ⟨(some 33), .fa 2 (.t 32), none, []⟩, ⟨(some 34), .load none (.t 33), none, []⟩, ⟨(some 35), .mv (.t 1), none, []⟩, ⟨(some 36), .call (.ev [] .own) 166 [(.t 34), (.t 35)], none, []⟩, ⟨(some 1), .mv (.t 36), none, []⟩] false) (.seq (.reg [⟨(some 37), .mv (.t 1), none, []⟩, ⟨(some 38), .bin .lss (.t 37) (.c (.i .i64 0)), none, []⟩] false) (.cond (.t 38) (.seq (.reg [⟨(some 4), .mv (.c (.i .i64 (-1))), none, []⟩] false) (.ret)) (.skip))))))))) (.reg [⟨(some 10), .mv (.t 5), none, []⟩, ⟨(some 11), .bin .add (.t 10) (.c (.i .i64 1)), none, []⟩, ⟨(some 5), .mv (.t 11), none, []⟩] false)))))) (.seq (.reg [⟨(some 39), .mv (.t 1), none, []⟩, ⟨(some 4), .mv (.t 39), none, []⟩] false) (.ret)))
theorem ok_laws_heldNodeS : (Try.f105.body).bind (comp Try.prog modes Try.f105.ntmps) = some pc_laws_heldNodeS := by kernel_rfl
theorem via_laws_heldNodeS {args outs : List T} {r : T} (ha : args.length ≤ 40) (h : W Try.prog modes 40 pc_laws_heldNodeS (enter args) (fin Try.prog [.tmp 4] args r outs)) : Ret Try.prog 105 args r outs := Ret.of Try.func105 ok_laws_heldNodeS rfl rfl ha h
def pc_laws_heldPropS : PC :=
  .seq (.reg [⟨(some 4), .mv (.c (.i .i64 0)), none, []⟩] false) (.seq (.seq (.reg [⟨(some 5), .mv (.c (.i .i64 0)), none, []⟩] false) (.block 0 (.loop (.seq (.seq (.reg [⟨(some 6), .mv (.t 5), none, []⟩, ⟨(some 7), .mv (.t 0), none, []⟩, ⟨(some 8), .len (.t 7), none, []⟩, ⟨(some 9), .bin .lss (.t 6) (.t 8), none, []⟩] false) (.cond (.t 9) (.skip) (.exit 0))) (.seq (.block 1 (.seq (.seq (.reg [⟨(some 12), .mv (.t 0), none, []⟩, ⟨(some 13), .mv (.t 5), none, []⟩, ⟨(some 14), .ia 5 (.t 12) (.t 13), none, [0, 1]⟩, ⟨(some 15), .fa 0 (.t 14), none, [2]⟩, ⟨(some 16), .load none (.t 15), none, [3]⟩, ⟨(some 17), .mv (.t 1), none, []⟩, ⟨(some 18), .call (.ev [] .own) 124 [(.t 17)], none, [5]⟩, ⟨(some 19), .bin .neq (.t 16) (.t 18), none, [4, 6]⟩] true) (.cond (.t 19) (.seq (.reg [⟨(some 4), .mv (.c (.i .i64 (-1))), none, []⟩] false) (.ret)) (.skip))) (.seq (.reg [⟨(some 20), .mv (.t 1), none, []⟩, ⟨(some 21), .bin .add (.t 20) (.c (.i .i64 1)), none, []⟩, ⟨(some 1), .mv (.t 21), none, []⟩] false) (.seq (.seq (.reg [⟨(some 22), .mv (.t 0), none, []⟩, ⟨(some 23), .mv (.t 5), none, []⟩, ⟨(some 24), .ia 5 (.t 22) (.t 23), none, []⟩, ⟨(some 25), .fa 1 (.t 24), none, []⟩, ⟨(some 26), .fa 0 (.t 25), none, []⟩, ⟨(some 27), .load none (.t 26), none, []⟩, ⟨(some 28), .mv (.t 1), none, []⟩, ⟨(some 29), .bin .neq (.t 27) (.t 28), none, []⟩] false) (.cond (.t 29) (.seq (.reg [⟨(some 4), .mv (.c (.i .i64 (-1))), none, []⟩] false) (.ret)) (.skip))) (.seq (.reg [⟨(some 30), .mv (.t 1), none, []⟩, ⟨(some 31), .bin .add (.t 30) (.c (.i .i64 1)), none, []⟩, ⟨(some 1), .mv (.t 31), none, []⟩] false) (.seq (.seq (.reg [⟨(some 32), .mv (.t 0), none, []⟩, ⟨(some 33), .mv (.t 5), none, []⟩, ⟨(some 34), .ia 5 (.t 32) (.t 33), none, []⟩, ⟨(some 35), .fa 1 (.t 34), none, []⟩, ⟨(some 36), .fa 1 (.t 35), none, []⟩, ⟨(some 37), .load none (.t 36), none, []⟩, ⟨(some 38), .mv (.t 1), none, []⟩, ⟨(some 39), .bin .neq (.t 37) (.t 38), none, []⟩] false) (.cond (.t 39) (.seq (.reg [⟨(some 4), .mv (.c (.i .i64 (-1))), none, []⟩] false) (.ret)) (.skip))) (.seq (.reg [⟨(some 40), .mv (.t 1), none, []⟩, ⟨(some 41), .bin .add (.t 40) (.c (.i .i64 1)), none, []⟩, ⟨(some 1), .mv (.t 41), none, []⟩] false) (.seq (.seq (.reg [⟨(some 42), .mv (.t 0), none, []⟩, ⟨(some 43), .mv (.t 5), none, []⟩, ⟨(some 44), .ia 5 (.t 42) (.t 43), none, [0, 1]⟩, ⟨(some 45), .fa 1 (.t 44), none, [2]⟩, ⟨(some 46), .fa 2 (.t 45), none, [3]⟩, ⟨(some 47), .load none (.t 46), none, [4]⟩, ⟨(some 48), .mv (.t 1), none, []⟩, ⟨(some 49), .call (.ev [] .own) 124 [(.t 48)], none, [6]⟩, ⟨(some 50), .bin .neq (.t 47) (.t 49), none, [5, 7]⟩] true) (.cond (.t 50) (.seq (.reg [⟨(some 4), .mv (.c (.i .i64 (-1))), none, []⟩] false) (.ret)) (.skip))) (.seq (.reg [⟨(some 51), .mv (.t 1), none, []⟩, ⟨(some 52), .bin .add (.t 51) (.c (.i .i64 1)), none, []⟩, ⟨(some 1), .mv (.t 52), none, []⟩] false) (.seq (.reg [⟨(some 53), .mv (.t 0), none, []⟩, ⟨(some 54), .mv (.t 5), none, []⟩, ⟨(some 55), .ia 5 (.t 53) (.t 54), none, []⟩, ⟨(some 56), .fa 1 (.t 55), none, []⟩, ⟨(some 57), .fa 3 (.t 56), none, []⟩, ⟨(some 58), .load none (.t 57), none, []⟩, ⟨(some 59), .mv (.t 1), none, []⟩, ⟨(some 60), .call (.ev [] .own) 62 [(.t 58), (.t 59)], none, []⟩, ⟨(some 1), .mv (.t 60), none, []⟩] false) (.seq (.reg [⟨(some 61), .mv (.t 1), none, []⟩, ⟨(some 62), .bin .lss (.t 61) (.c (.i .i64 0)), none, []⟩] false) (.cond (.t 62) (.seq (.reg [⟨(some 4), .mv (.c (.i .i64 (-1))), none, []⟩] false) (.ret)) (.skip))))))))))))) (.reg [⟨(some 10), .mv (.t 5), none, []⟩, ⟨(some 11), .bin .add (.t 10) (.c (.i .i64 1)), none, []⟩, ⟨(some 5), .mv (.t 11), none, []⟩] false)))))) (.seq (.reg [⟨(some 63), .mv (.t 1), none, []⟩, ⟨(some 4), .mv (.t 63), none, []⟩] false) (.ret)))
theorem ok_laws_heldPropS : (Try.f166.body).bind (comp Try.prog modes Try.f166.ntmps) = some pc_laws_heldPropS := by kernel_rfl
theorem via_laws_heldPropS {args outs : List T} {r : T} (ha : args.length ≤ 64) (h : W Try.prog modes 64 pc_laws_heldPropS (enter args) (fin Try.prog [.tmp 4] args r outs)) : Ret Try.prog 166 args r outs := Ret.of Try.func166 ok_laws_heldPropS rfl rfl ha h
def pc_laws_heldStringS : PC :=
  .seq (.reg [⟨(some 4), .mv (.c (.i .i64 0)), none, []⟩] false) (.seq (.seq (.reg [⟨(some 5), .mv (.c (.i .i64 0)), none, []⟩] false) (.block 0 (.loop (.seq (.seq (.reg [⟨(some 6), .mv (.t 5), none, []⟩, ⟨(some 7), .mv (.t 0), none, []⟩, ⟨(some 8), .len (.t 7), none, []⟩, ⟨(some 9), .bin .lss (.t 6) (.t 8), none, []⟩] false) (.cond (.t 9) (.skip) (.exit 0))) (.seq (.block 1 (.seq (.seq (.reg [⟨(some 12), .mv (.t 0), none, []⟩, ⟨(some 13), .mv (.t 5), none, []⟩, ⟨(some 14), .ia 1 (.t 12) (.t 13), none, [0, 1]⟩, ⟨(some 15), .load none (.t 14), none, [2]⟩, ⟨(some 16), .mv (.t 1), none, []⟩, ⟨(some 17), .call (.ev [] .own) 124 [(.t 16)], none, [4]⟩, ⟨(some 18), .bin .neq (.t 15) (.t 17), none, [3, 5]⟩] true) (.cond (.t 18) (.seq (.reg [⟨(some 4), .mv (.c (.i .i64 (-1))), none, []⟩] false) (.ret)) (.skip))) (.reg [⟨(some 19), .mv (.t 1), none, []⟩, ⟨(some 20), .bin .add (.t 19) (.c (.i .i64 1)), none, []⟩, ⟨(some 1), .mv (.t 20), none, []⟩] false))) (.reg [⟨(some 10), .mv (.t 5), none, []⟩, ⟨(some 11), .bin .add (.t 10) (.c (.i .i64 1)), none, []⟩, ⟨(some 5), .mv (.t 11), none, []⟩] false)))))) (.seq (.reg [⟨(some 21), .mv (.t 1), none, []⟩, ⟨(some 4), .mv (.t 21), none, []⟩] false) (.ret)))
theorem ok_laws_heldStringS : (Try.f165.body).bind (comp Try.prog modes Try.f165.ntmps) = some pc_laws_heldStringS := by kernel_rfl
theorem via_laws_heldStringS {args outs : List T} {r : T} (ha : args.length ≤ 22) (h : W Try.prog modes 22 pc_laws_heldStringS (enter args) (fin Try.prog [.tmp 4] args r outs)) : Ret Try.prog 165 args r outs := Ret.of Try.func165 ok_laws_heldStringS rfl rfl ha h
def pc_laws_heldValueS : PC :=
  .seq (.reg [⟨(some 4), .mv (.c (.i .i64 0)), none, []⟩] false) (.seq (.seq (.reg [⟨(some 5), .mv (.c (.i .i64 0)), none, []⟩] false) (.block 0 (.loop (.seq (.seq (.reg [⟨(some 6), .mv (.t 5), none, []⟩, ⟨(some 7), .mv (.t 0), none, []⟩, ⟨(some 8), .len (.t 7), none, []⟩, ⟨(some 9), .bin .lss (.t 6) (.t 8), none, []⟩] false) (.cond (.t 9) (.skip) (.exit 0))) (.seq (.block 1 (.seq (.seq (.reg [⟨(some 12), .mv (.t 0), none, []⟩, ⟨(some 13), .mv (.t 5), none, []⟩, ⟨(some 14), .ia 4 (.t 12) (.t 13), none, []⟩, ⟨(some 15), .fa 0 (.t 14), none, []⟩, ⟨(some 16), .load none (.t 15), none, []⟩, ⟨(some 17), .mv (.t 1), none, []⟩, ⟨(some 18), .bin .neq (.t 16) (.t 17), none, []⟩] false) (.cond (.t 18) (.seq (.reg [⟨(some 4), .mv (.c (.i .i64 (-1))), none, []⟩] false) (.ret)) (.skip))) (.seq (.reg [⟨(some 19), .mv (.t 1), none, []⟩, ⟨(some 20), .bin .add (.t 19) (.c (.i .i64 1)), none, []⟩, ⟨(some 1), .mv (.t 20), none, []⟩] false) (.seq (.seq (.reg [⟨(some 21), .mv (.t 0), none, []⟩, ⟨(some 22), .mv (.t 5), none, []⟩, ⟨(some 23), .ia 4 (.t 21) (.t 22), none, []⟩, ⟨(some 24), .fa 1 (.t 23), none, []⟩, ⟨(some 25), .load none (.t 24), none, []⟩, ⟨(some 26), .mv (.t 1), none, []⟩, ⟨(some 27), .bin .neq (.t 25) (.t 26), none, []⟩] false) (.cond (.t 27) (.seq (.reg [⟨(some 4), .mv (.c (.i .i64 (-1))), none, []⟩] false) (.ret)) (.skip))) (.seq (.reg [⟨(some 28), .mv (.t 1), none, []⟩, ⟨(some 29), .bin .add (.t 28) (.c (.i .i64 1)), none, []⟩, ⟨(some 1), .mv (.t 29), none, []⟩] false) (.seq (.seq (.reg [⟨(some 30), .mv (.t 0), none, []⟩, ⟨(some 31), .mv (.t 5), none, []⟩, ⟨(some 32), .ia 4 (.t 30) (.t 31), none, [0, 1]⟩, ⟨(some 33), .fa 2 (.t 32), none, [2]⟩, ⟨(some 34), .load none (.t 33), none, [3]⟩, ⟨(some 35), .mv (.t 1), none, []⟩, ⟨(some 36), .call (.ev [] .own) 124 [(.t 35)], none, [5]⟩, ⟨(some 37), .bin .neq (.t 34) (.t 36), none, [4, 6]⟩] true) (.cond (.t 37) (.seq (.reg [⟨(some 4), .mv (.c (.i .i64 (-1))), none, []⟩] false) (.ret)) (.skip))) (.seq (.reg [⟨(some 38), .mv (.t 1), none, []⟩, ⟨(some 39), .bin .add (.t 38) (.c (.i .i64 1)), none, []⟩, ⟨(some 1), .mv (.t 39), none, []⟩] false) (.seq (.reg [⟨(some 40), .mv (.t 0), none, []⟩, ⟨(some 41), .mv (.t 5), none, []⟩, ⟨(some 42), .ia 4 (.t 40) (.t 41), none, []⟩, ⟨(some 43), .fa 3 (.t 42), none, []⟩, ⟨(some 44), .load none (.t 43), none, []⟩, ⟨(some 45), .mv (.t 1), none, []⟩, ⟨(some 46), .call (.ev [] .own) 62 [(.t 44), (.t 45)], none, []⟩, ⟨(some 1), .mv (.t 46), none, []⟩] false) (.seq (.reg [⟨(some 47), .mv (.t 1), none, []⟩, ⟨(some 48), .bin .lss (.t 47) (.c (.i .i64 0)), none, []⟩] false) (.cond (.t 48) (.seq (.reg [⟨(some 4), .mv (.c (.i .i64 (-1))), none, []⟩] false) (.ret)) (.skip))))))))))) (.reg [⟨(some 10), .mv (.t 5), none, []⟩, ⟨(some 11), .bin .add (.t 10) (.c (.i .i64 1)), none, []⟩, ⟨(some 5), .mv (.t 11), none, []⟩] false)))))) (.seq (.reg [⟨(some 49), .mv (.t 1), none, []⟩, ⟨(some 4), .mv (.t 49), none, []⟩] false) (.ret)))
theorem ok_laws_heldValueS : (Try.f62.body).bind (comp Try.prog modes Try.f62.ntmps) = some pc_laws_heldValueS := by kernel_rfl
theorem via_laws_heldValueS {args outs : List T} {r : T} (ha : args.length ≤ 50) (h : W Try.prog modes 50 pc_laws_heldValueS (enter args) (fin Try.prog [.tmp 4] args r outs)) : Ret Try.prog 62 args r outs := Ret.of Try.func62 ok_laws_heldValueS rfl rfl ha h
def pc_laws_markEdgeS : PC :=
  .seq (.reg [⟨(some 4), .mv (.c (.i .i64 0)), none, []⟩] false) (.seq (.seq (.reg [⟨(some 5), .mv (.c (.i .i64 0)), none, []⟩] false) (.block 0 (.loop (.seq (.seq (.reg [⟨(some 6), .mv (.t 5), none, []⟩, ⟨(some 7), .mv (.t 0), none, []⟩, ⟨(some 8), .len (.t 7), none, []⟩, ⟨(some 9), .bin .lss (.t 6) (.t 8), none, []⟩] false) (.cond (.t 9) (.skip) (.exit 0))) (.seq (.block 1 (.seq (.reg [⟨(some 12), .mv (.t 0), none, []⟩, ⟨(some 13), .mv (.t 5), none, []⟩, ⟨(some 14), .mv (.t 1), none, []⟩, ⟨(some 15), .ia 5 (.t 12) (.t 13), none, []⟩, ⟨(some 16), .fa 0 (.t 15), none, []⟩, ⟨none, .store none (.t 16) (.t 14), none, []⟩] false) (.seq (.reg [⟨(some 17), .mv (.t 1), none, []⟩, ⟨(some 18), .bin .add (.t 17) (.c (.i .i64 1)), none, []⟩, ⟨(some 1), .mv (.t 18), none, []⟩] false) (.seq (.reg [⟨(some 19), .mv (.t 0), none, []⟩, ⟨(some 20), .mv (.t 5), none, []⟩, ⟨(some 21), .mv (.t 1), none, []⟩, ⟨(some 22), .call (.ev [] .own) 124 [(.t 21)], none, []⟩, ⟨(some 23), .ia 5 (.t 19) (.t 20), none, []⟩, ⟨(some 24), .fa 1 (.t 23), none, []⟩, ⟨none, .store none (.t 24) (.t 22), none, []⟩] false) (.seq (.reg [⟨(some 25), .mv (.t 1), none, []⟩, ⟨(some 26), .bin .add (.t 25) (.c (.i .i64 1)), none, []⟩, ⟨(some 1), .mv (.t 26), none, []⟩] false) (.seq (.reg [⟨(some 27), .mv (.t 0), none, []⟩, ⟨(some 28), .mv (.t 5), none, []⟩, ⟨(some 29), .mv (.t 1), none, []⟩, ⟨(some 30), .ia 5 (.t 27) (.t 28), none, []⟩, ⟨(some 31), .fa 2 (.t 30), none, []⟩, ⟨none, .store none (.t 31) (.t 29), none, []⟩] false) (.seq (.reg [⟨(some 32), .mv (.t 1), none, []⟩, ⟨(some 33), .bin .add (.t 32) (.c (.i .i64 1)), none, []⟩, ⟨(some 1), .mv (.t 33), none, []⟩] false) (.seq (.reg [⟨(some 34), .mv (.t 0), none, []⟩, ⟨(some 35), .mv (.t 5), none, []⟩, ⟨(some 36), .mv (.t 1), none, []⟩, ⟨(some 37), .ia 5 (.t 34) (.t 35), none, []⟩, ⟨(some 38), .fa 3 (.t 37), none, []⟩, ⟨none, .store none (.t 38) (.t 36), none, []⟩] false) (.seq (.reg [⟨(some 39), .mv (.t 1), none, []⟩, ⟨(some 40), .bin .add (.t 39) (.c (.i .i64 1)), none, []⟩, ⟨(some 1), .mv (.t 40), none, []⟩] false) (.reg [⟨(some 41), .mv (.t 0), none, []⟩, ⟨(some 42), .mv (.t 5), none, []⟩, ⟨(some 43), .ia 5 (.t 41) (.t 42), none, []⟩, ⟨(some 44), .fa 4 (.t 43), none, []⟩, ⟨(some 45), .load none (.t 44), none, []⟩, ⟨(some 46), .mv (.t 1), none, []⟩, ⟨(some 47), .call (.ev [0] .own) 164 [(.t 45), (.t 46)], none, []⟩, ⟨(some 1), .mv (.t 47), none, []⟩] false)))))))))) (.reg [⟨(some 10), .mv (.t 5), none, []⟩, ⟨(some 11), .bin .add (.t 10) (.c (.i .i64 1)), none, []⟩, ⟨(some 5), .mv (.t 11), none, []⟩] false)))))) (.seq (.reg [⟨(some 48), .mv (.t 1), none, []⟩, ⟨(some 4), .mv (.t 48), none, []⟩] false) (.ret)))
theorem ok_laws_markEdgeS : (Try.f104.body).bind (comp Try.prog modes Try.f104.ntmps) = some pc_laws_markEdgeS := by kernel_rfl
theorem via_laws_markEdgeS {args outs : List T} {r : T} (ha : args.length ≤ 49) (h : W Try.prog modes 49 pc_laws_markEdgeS (enter args) (fin Try.prog [.tmp 4] args r outs)) : Ret Try.prog 104 args r outs := Ret.of Try.func104 ok_laws_markEdgeS rfl rfl ha h
def pc_laws_markGraph : PC :=
  .seq (.reg [⟨(some 2), .box 4 (.t 0), none, []⟩, ⟨(some 4), .mv (.c (.i .i64 0)), none, []⟩] false) (.seq (.reg [⟨(some 5), .fa 0 (.t 2), none, []⟩, ⟨(some 6), .load none (.t 5), none, []⟩, ⟨(some 7), .mv (.t 1), none, []⟩, ⟨(some 8), .call (.ev [0] .own) 103 [(.t 6), (.t 7)], none, []⟩, ⟨(some 1), .mv (.t 8), none, []⟩] false) (.seq (.reg [⟨(some 9), .fa 1 (.t 2), none, []⟩, ⟨(some 10), .load none (.t 9), none, []⟩, ⟨(some 11), .mv (.t 1), none, []⟩, ⟨(some 12), .call (.ev [0] .own) 104 [(.t 10), (.t 11)], none, []⟩, ⟨(some 1), .mv (.t 12), none, []⟩] false) (.seq (.reg [⟨(some 13), .mv (.t 1), none, []⟩, ⟨(some 4), .mv (.t 13), none, []⟩] false) (.ret))))
theorem ok_laws_markGraph : (Try.f44.body).bind (comp Try.prog modes Try.f44.ntmps) = some pc_laws_markGraph := by kernel_rfl
theorem via_laws_markGraph {args outs : List T} {r : T} (ha : args.length ≤ 14) (h : W Try.prog modes 14 pc_laws_markGraph (enter args) (fin Try.prog [.tmp 4] args r outs)) : Ret Try.prog 44 args r outs := Ret.of Try.func44 ok_laws_markGraph rfl rfl ha h
def pc_laws_markNodeS : PC :=
  .seq (.reg [⟨(some 4), .mv (.c (.i .i64 0)), none, []⟩] false) (.seq (.seq (.reg [⟨(some 5), .mv (.c (.i .i64 0)), none, []⟩] false) (.block 0 (.loop (.seq (.seq (.reg [⟨(some 6), .mv (.t 5), none, []⟩, ⟨(some 7), .mv (.t 0), none, []⟩, ⟨(some 8), .len (.t 7), none, []⟩, ⟨(some 9), .bin .lss (.t 6) (.t 8), none, []⟩] false) (.cond (.t 9) (.skip) (.exit 0))) (.seq (.block 1 (.seq (.reg [⟨(some 12), .mv (.t 0), none, []⟩, ⟨(some 13), .mv (.t 5), none, []⟩, ⟨(some 14), .mv (.t 1), none, []⟩, ⟨(some 15), .ia 3 (.t 12) (.t 13), none, []⟩, ⟨(some 16), .fa 0 (.t 15), none, []⟩, ⟨none, .store none (.t 16) (.t 14), none, []⟩] false) (.seq (.reg [⟨(some 17), .mv (.t 1), none, []⟩, ⟨(some 18), .bin .add (.t 17) (.c (.i .i64 1)), none, []⟩, ⟨(some 1), .mv (.t 18), none, []⟩] false) (.seq (.reg [⟨(some 19), .mv (.t 0), none, []⟩, ⟨(some 20), .mv (.t 5), none, []⟩, ⟨(some 21), .ia 3 (.t 19) (.t 20), none, []⟩, ⟨(some 22), .fa 1 (.t 21), none, []⟩, ⟨(some 23), .load none (.t 22), none, []⟩, ⟨(some 24), .mv (.t 1), none, []⟩, ⟨(some 25), .call (.ev [0] .own) 163 [(.t 23), (.t 24)], none, []⟩, ⟨(some 1), .mv (.t 25), none, []⟩] false) (.reg [⟨(some 26), .mv (.t 0), none, []⟩, ⟨(some 27), .mv (.t 5), none, []⟩, ⟨(some 28), .ia 3 (.t 26) (.t 27), none, []⟩, ⟨(some 29), .fa 2 (.t 28), none, []⟩, ⟨(some 30), .load none (.t 29), none, []⟩, ⟨(some 31), .mv (.t 1), none, []⟩, ⟨(some 32), .call (.ev [0] .own) 164 [(.t 30), (.t 31)], none, []⟩, ⟨(some 1), .mv (.t 32), none, []⟩] false))))) (.reg [⟨(some 10), .mv (.t 5), none, []⟩, ⟨(some 11), .bin .add (.t 10) (.c (.i .i64 1)), none, []⟩, ⟨(some 5), .mv (.t 11), none, []⟩] false)))))) (.seq (.reg [⟨(some 33), .mv (.t 1), none, []⟩, ⟨(some 4), .mv (.t 33), none, []⟩] false) (.ret)))
theorem ok_laws_markNodeS : (Try.f103.body).bind (comp Try.prog modes Try.f103.ntmps) = some pc_laws_markNodeS := by kernel_rfl
theorem via_laws_markNodeS {args outs : List T} {r : T} (ha : args.length ≤ 34) (h : W Try.prog modes 34 pc_laws_markNodeS (enter args) (fin Try.prog [.tmp 4] args r outs)) : Ret Try.prog 103 args r outs := Ret.of Try.func103 ok_laws_markNodeS rfl rfl ha h
def pc_laws_markPropS : PC :=
  .seq (.reg [⟨(some 4), .mv (.c (.i .i64 0)), none, []⟩] false) (.seq (.seq (.reg [⟨(some 5), .mv (.c (.i .i64 0)), none, []⟩] false) (.block 0 (.loop (.seq (.seq (.reg [⟨(some 6), .mv (.t 5), none, []⟩, ⟨(some 7), .mv (.t 0), none, []⟩, ⟨(some 8), .len (.t 7), none, []⟩, ⟨(some 9), .bin .lss (.t 6) (.t 8), none, []⟩] false) (.cond (.t 9) (.skip) (.exit 0))) (.seq (.block 1 (.seq (.reg [⟨(some 12), .mv (.t 0), none, []⟩, ⟨(some 13), .mv (.t 5), none, []⟩, ⟨(some 14), .mv (.t 1), none, []⟩, ⟨(some 15), .call (.ev [] .own) 124 [(.t 14)], none, []⟩, ⟨(some 16), .ia 5 (.t 12) (.t 13), none, []⟩, ⟨(some 17), .fa 0 (.t 16), none, []⟩, ⟨none, .store none (.t 17) (.t 15), none, []⟩] false) (.seq (.reg [⟨(some 18), .mv (.t 1), none, []⟩, ⟨(some 19), .bin .add (.t 18) (.c (.i .i64 1)), none, []⟩, ⟨(some 1), .mv (.t 19), none, []⟩] false) (.seq (.reg [⟨(some 20), .mv (.t 0), none, []⟩, ⟨(some 21), .mv (.t 5), none, []⟩, ⟨(some 22), .mv (.t 1), none, []⟩, ⟨(some 23), .ia 5 (.t 20) (.t 21), none, []⟩, ⟨(some 24), .fa 1 (.t 23), none, []⟩, ⟨(some 25), .fa 0 (.t 24), none, []⟩, ⟨none, .store none (.t 25) (.t 22), none, []⟩] false) (.seq (.reg [⟨(some 26), .mv (.t 1), none, []⟩, ⟨(some 27), .bin .add (.t 26) (.c (.i .i64 1)), none, []⟩, ⟨(some 1), .mv (.t 27), none, []⟩] false) (.seq (.reg [⟨(some 28), .mv (.t 0), none, []⟩, ⟨(some 29), .mv (.t 5), none, []⟩, ⟨(some 30), .mv (.t 1), none, []⟩, ⟨(some 31), .ia 5 (.t 28) (.t 29), none, []⟩, ⟨(some 32), .fa 1 (.t 31), none, []⟩, ⟨(some 33), .fa 1 (.t 32), none, []⟩, ⟨none, .store none (.t 33) (.t 30), none, []⟩] false) (.seq (.reg [⟨(some 34), .mv (.t 1), none, []⟩, ⟨(some 35), .bin .add (.t 34) (.c (.i .i64 1)), none, []⟩, ⟨(some 1), .mv (.t 35), none, []⟩] false) (.seq (.reg [⟨(some 36), .mv (.t 0), none, []⟩, ⟨(some 37), .mv (.t 5), none, []⟩, ⟨(some 38), .mv (.t 1), none, []⟩, ⟨(some 39), .call (.ev [] .own) 124 [(.t 38)], none, []⟩, ⟨(some 40), .ia 5 (.t 36) (.t 37), none, []⟩, ⟨(some 41), .fa 1 (.t 40), none, []⟩, ⟨(some 42), .fa 2 (.t 41), none, []⟩, ⟨none, .store none (.t 42) (.t 39), none, []⟩] false) (.seq (.reg [⟨(some 43), .mv (.t 1), none, []⟩, ⟨(some 44), .bin .add (.t 43) (.c (.i .i64 1)), none, []⟩, ⟨(some 1), .mv (.t 44), none, []⟩] false) (.reg [⟨(some 45), .mv (.t 0), none, []⟩, ⟨(some 46), .mv (.t 5), none, []⟩, ⟨(some 47), .ia 5 (.t 45) (.t 46), none, []⟩, ⟨(some 48), .fa 1 (.t 47), none, []⟩, ⟨(some 49), .fa 3 (.t 48), none, []⟩, ⟨(some 50), .load none (.t 49), none, []⟩, ⟨(some 51), .mv (.t 1), none, []⟩, ⟨(some 52), .call (.ev [0] .own) 61 [(.t 50), (.t 51)], none, []⟩, ⟨(some 1), .mv (.t 52), none, []⟩] false)))))))))) (.reg [⟨(some 10), .mv (.t 5), none, []⟩, ⟨(some 11), .bin .add (.t 10) (.c (.i .i64 1)), none, []⟩, ⟨(some 5), .mv (.t 11), none, []⟩] false)))))) (.seq (.reg [⟨(some 53), .mv (.t 1), none, []⟩, ⟨(some 4), .mv (.t 53), none, []⟩] false) (.ret)))
theorem ok_laws_markPropS : (Try.f164.body).bind (comp Try.prog modes Try.f164.ntmps) = some pc_laws_markPropS := by kernel_rfl
theorem via_laws_markPropS {args outs : List T} {r : T} (ha : args.length ≤ 54) (h : W Try.prog modes 54 pc_laws_markPropS (enter args) (fin Try.prog [.tmp 4] args r outs)) : Ret Try.prog 164 args r outs := Ret.of Try.func164 ok_laws_markPropS rfl rfl ha h
def pc_laws_markStringS : PC :=
  .seq (.reg [⟨(some 4), .mv (.c (.i .i64 0)), none, []⟩] false) (.seq (.seq (.reg [⟨(some 5), .mv (.c (.i .i64 0)), none, []⟩] false) (.block 0 (.loop (.seq (.seq (.reg [⟨(some 6), .mv (.t 5), none, []⟩, ⟨(some 7), .mv (.t 0), none, []⟩, ⟨(some 8), .len (.t 7), none, []⟩, ⟨(some 9), .bin .lss (.t 6) (.t 8), none, []⟩] false) (.cond (.t 9) (.skip) (.exit 0))) (.seq (.block 1 (.seq (.reg [⟨(some 12), .mv (.t 0), none, []⟩, ⟨(some 13), .mv (.t 5), none, []⟩, ⟨(some 14), .mv (.t 1), none, []⟩, ⟨(some 15), .call (.ev [] .own) 124 [(.t 14)], none, []⟩, ⟨(some 16), .ia 1 (.t 12) (.t 13), none, []⟩, ⟨none, .store none (.t 16) (.t 15), none, []⟩] false) (.reg [⟨(some 17), .mv (.t 1), none, []⟩, ⟨(some 18), .bin .add (.t 17) (.c (.i .i64 1)), none, []⟩, ⟨(some 1), .mv (.t 18), none, []⟩] false))) (.reg [⟨(some 10), .mv (.t 5), none, []⟩, ⟨(some 11), .bin .add (.t 10) (.c (.i .i64 1)), none, []⟩, ⟨(some 5), .mv (.t 11), none, []⟩] false)))))) (.seq (.reg [⟨(some 19), .mv (.t 1), none, []⟩, ⟨(some 4), .mv (.t 19), none, []⟩] false) (.ret)))
theorem ok_laws_markStringS : (Try.f163.body).bind (comp Try.prog modes Try.f163.ntmps) = some pc_laws_markStringS := by kernel_rfl
theorem via_laws_markStringS {args outs : List T} {r : T} (ha : args.length ≤ 20) (h : W Try.prog modes 20 pc_laws_markStringS (enter args) (fin Try.prog [.tmp 4] args r outs)) : Ret Try.prog 163 args r outs := Ret.of Try.func163 ok_laws_markStringS rfl rfl ha h
def pc_laws_markText : PC :=
  .seq (.reg [⟨(some 2), .mv (.c (.s [])), none, []⟩] false) (.seq (.seq (.reg [⟨(some 4), .mv (.t 0), none, []⟩, ⟨(some 5), .bin .leq (.t 4) (.c (.i .i64 0)), none, []⟩] false) (.cond (.t 5) (.seq (.reg [⟨(some 2), .mv (.c (.s [109, 48])), none, []⟩] false) (.ret)) (.skip))) (.seq (.reg [⟨(some 3), .mv (.c (.s [])), none, []⟩] false) (.seq (.block 0 (.loop (.seq (.seq (.reg [⟨(some 6), .mv (.t 0), none, []⟩, ⟨(some 7), .bin .gtr (.t 6) (.c (.i .i64 0)), none, []⟩] false) (.cond (.t 7) (.skip) (.exit 0))) (.block 1 (.seq (.reg [⟨(some 8), .mv (.t 0), none, []⟩, ⟨(some 9), .bin .rem (.t 8) (.c (.i .i64 10)), none, []⟩, ⟨(some 10), .bin .add (.c (.i .i64 48)) (.t 9), none, []⟩, ⟨(some 11), .conv .u8 (.t 10), none, []⟩, ⟨(some 12), .mksl 1 [(.t 11)], none, []⟩, ⟨(some 13), .tostr (.t 12), none, []⟩, ⟨(some 14), .mv (.t 3), none, []⟩, ⟨(some 15), .bin .add (.t 13) (.t 14), none, []⟩, ⟨(some 3), .mv (.t 15), none, []⟩] false) (.reg [⟨(some 16), .mv (.t 0), none, []⟩, ⟨(some 17), .bin .quo (.t 16) (.c (.i .i64 10)), none, []⟩, ⟨(some 0), .mv (.t 17), none, []⟩] false)))))) (.seq (.reg [⟨(some 18), .mv (.t 3), none, []⟩, ⟨(some 19), .bin .add (.c (.s [109])) (.t 18), none, []⟩, ⟨(some 2), .mv (.t 19), none, []⟩] false) (.ret)))))
theorem ok_laws_markText : (Try.f124.body).bind (comp Try.prog modes Try.f124.ntmps) = some pc_laws_markText := by kernel_rfl
theorem via_laws_markText {args outs : List T} {r : T} (ha : args.length ≤ 20) (h : W Try.prog modes 20 pc_laws_markText (enter args) (fin Try.prog [.tmp 2] args r outs)) : Ret Try.prog 124 args r outs := Ret.of Try.func124 ok_laws_markText rfl rfl ha h
def pc_laws_markValueS : PC :=
  .seq (.reg [⟨(some 4), .mv (.c (.i .i64 0)), none, []⟩] false) (.seq (.seq (.reg [⟨(some 5), .mv (.c (.i .i64 0)), none, []⟩] false) (.block 0 (.loop (.seq (.seq (.reg [⟨(some 6), .mv (.t 5), none, []⟩, ⟨(some 7), .mv (.t 0), none, []⟩, ⟨(some 8), .len (.t 7), none, []⟩, ⟨(some 9), .bin .lss (.t 6) (.t 8), none, []⟩] false) (.cond (.t 9) (.skip) (.exit 0))) (.seq (.block 1 (.seq (.reg [⟨(some 12), .mv (.t 0), none, []⟩, ⟨(some 13), .mv (.t 5), none, []⟩, ⟨(some 14), .mv (.t 1), none, []⟩, ⟨(some 15), .ia 4 (.t 12) (.t 13), none, []⟩, ⟨(some 16), .fa 0 (.t 15), none, []⟩, ⟨none, .store none (.t 16) (.t 14), none, []⟩] false) (.seq (.reg [⟨(some 17), .mv (.t 1), none, []⟩, ⟨(some 18), .bin .add (.t 17) (.c (.i .i64 1)), none, []⟩, ⟨(some 1), .mv (.t 18), none, []⟩] false) (.seq (.reg [⟨(some 19), .mv (.t 0), none, []⟩, ⟨(some 20), .mv (.t 5), none, []⟩, ⟨(some 21), .mv (.t 1), none, []⟩, ⟨(some 22), .ia 4 (.t 19) (.t 20), none, []⟩, ⟨(some 23), .fa 1 (.t 22), none, []⟩, ⟨none, .store none (.t 23) (.t 21), none, []⟩] false) (.seq (.reg [⟨(some 24), .mv (.t 1), none, []⟩, ⟨(some 25), .bin .add (.t 24) (.c (.i .i64 1)), none, []⟩, ⟨(some 1), .mv (.t 25), none, []⟩] false) (.seq (.reg [⟨(some 26), .mv (.t 0), none, []⟩, ⟨(some 27), .mv (.t 5), none, []⟩, ⟨(some 28), .mv (.t 1), none, []⟩, ⟨(some 29), .call (.ev [] .own) 124 [(.t 28)], none, []⟩, ⟨(some 30), .ia 4 (.t 26) (.t 27), none, []⟩, ⟨(some 31), .fa 2 (.t 30), none, []⟩, ⟨none, .store none (.t 31) (.t 29), none, []⟩] false) (.seq (.reg [⟨(some 32), .mv (.t 1), none, []⟩, ⟨(some 33), .bin .add (.t 32) (.c (.i .i64 1)), none, []⟩, ⟨(some 1), .mv (.t 33), none, []⟩] false) (.reg [⟨(some 34), .mv (.t 0), none, []⟩, ⟨(some 35), .mv (.t 5), none, []⟩, ⟨(some 36), .ia 4 (.t 34) (.t 35), none, []⟩, ⟨(some 37), .fa 3 (.t 36), none, []⟩, ⟨(some 38), .load none (.t 37), none, []⟩, ⟨(some 39), .mv (.t 1), none, []⟩, ⟨(some 40), .call (.ev [0] .own) 61 [(.t 38), (.t 39)], none, []⟩, ⟨(some 1), .mv (.t 40), none, []⟩] false)))))))) (.reg [⟨(some 10), .mv (.t 5), none, []⟩, ⟨(some 11), .bin .add (.t 10) (.c (.i .i64 1)), none, []⟩, ⟨(some 5), .mv (.t 11), none, []⟩] false)))))) (.seq (.reg [⟨(some 41), .mv (.t 1), none, []⟩, ⟨(some 4), .mv (.t 41), none, []⟩] false) (.ret)))
theorem ok_laws_markValueS : (Try.f61.body).bind (comp Try.prog modes Try.f61.ntmps) = some pc_laws_markValueS := by kernel_rfl
theorem via_laws_markValueS {args outs : List T} {r : T} (ha : args.length ≤ 42) (h : W Try.prog modes 42 pc_laws_markValueS (enter args) (fin Try.prog [.tmp 4] args r outs)) : Ret Try.prog 61 args r outs := Ret.of Try.func61 ok_laws_markValueS rfl rfl ha h
def pc_laws_szEdge : PC :=
  .seq (.reg [⟨(some 2), .box 5 (.t 0), none, []⟩, ⟨(some 4), .mv (.c (.i .i64 0)), none, []⟩] false) (.seq (.reg [⟨(some 5), .mv (.t 1), none, []⟩, ⟨(some 6), .fa 1 (.t 2), none, []⟩, ⟨(some 7), .load none (.t 6), none, []⟩, ⟨(some 8), .lens (.t 7), none, []⟩, ⟨(some 9), .bin .sub (.t 5) (.t 8), none, []⟩, ⟨(some 1), .mv (.t 9), none, []⟩] false) (.seq (.seq (.reg [⟨(some 10), .mv (.t 1), none, []⟩, ⟨(some 11), .bin .lss (.t 10) (.c (.i .i64 0)), none, []⟩] false) (.cond (.t 11) (.seq (.reg [⟨(some 4), .mv (.c (.i .i64 (-1))), none, []⟩] false) (.ret)) (.skip))) (.seq (.reg [⟨(some 12), .fa 4 (.t 2), none, []⟩, ⟨(some 13), .load none (.t 12), none, []⟩, ⟨(some 14), .mv (.t 1), none, []⟩, ⟨(some 15), .call (.ev [] .own) 184 [(.t 13), (.t 14)], none, []⟩, ⟨(some 1), .mv (.t 15), none, []⟩] false) (.seq (.seq (.reg [⟨(some 16), .mv (.t 1), none, []⟩, ⟨(some 17), .bin .lss (.t 16) (.c (.i .i64 0)), none, []⟩] false) (.cond (.t 17) (.seq (.reg [⟨(some 4), .mv (.c (.i .i64 (-1))), none, []⟩] false) (.ret)) (.skip))) (.seq (.reg [⟨(some 18), .mv (.t 1), none, []⟩, ⟨(some 4), .mv (.t 18), none, []⟩] false) (.ret))))))
theorem ok_laws_szEdge : (Try.f152.body).bind (comp Try.prog modes Try.f152.ntmps) = some pc_laws_szEdge := by kernel_rfl
theorem via_laws_szEdge {args outs : List T} {r : T} (ha : args.length ≤ 19) (h : W Try.prog modes 19 pc_laws_szEdge (enter args) (fin Try.prog [.tmp 4] args r outs)) : Ret Try.prog 152 args r outs := Ret.of Try.func152 ok_laws_szEdge rfl rfl ha h
def pc_laws_szEdgeS : PC :=
  .seq (.reg [⟨(some 4), .mv (.c (.i .i64 0)), none, []⟩] false) (.seq (.reg [⟨(some 6), .mv (.t 1), none, []⟩, ⟨(some 7), .mv (.t 0), none, []⟩, ⟨(some 8), .len (.t 7), none, []⟩, ⟨(some 9), .bin .sub (.t 6) (.t 8), none, []⟩, ⟨(some 1), .mv (.t 9), none, []⟩] false) (.seq (.seq (.reg [⟨(some 10), .mv (.t 1), none, []⟩, ⟨(some 11), .bin .lss (.t 10) (.c (.i .i64 0)), none, []⟩] false) (.cond (.t 11) (.seq (.reg [⟨(some 4), .mv (.c (.i .i64 (-1))), none, []⟩] false) (.ret)) (.skip))) (.seq (.seq (.reg [⟨(some 5), .mv (.c (.i .i64 0)), none, []⟩] false) (.block 0 (.loop (.seq (.seq (.reg [⟨(some 12), .mv (.t 5), none, []⟩, ⟨(some 13), .mv (.t 0), none, []⟩, ⟨(some 14), .len (.t 13), none, []⟩, ⟨(some 15), .bin .lss (.t 12) (.t 14), none, []⟩] false) (.cond (.t 15) (.skip) (.exit 0))) (.seq (.block 1 (.seq (.reg [⟨(some 18), .mv (.t 0), none, []⟩, ⟨(some 19), .mv (.t 5), none, []⟩, ⟨(some 20), .ia 5 (.t 18) (.t 19), none, []⟩, ⟨(some 21), .load (some 5) (.t 20), none, []⟩, ⟨(some 22), .mv (.t 1), none, []⟩, ⟨(some 23), .call (.ev [] .own) 152 [(.t 21), (.t 22)], none, []⟩, ⟨(some 1), .mv (.t 23), none, []⟩] false) (.seq (.reg [⟨(some 24), .mv (.t 1), none, []⟩, ⟨(some 25), .bin .lss (.t 24) (.c (.i .i64 0)), none, []⟩] false) (.cond (.t 25) (.seq (.reg [⟨(some 4), .mv (.c (.i .i64 (-1))), none, []⟩] false) (.ret)) (.skip))))) (.reg [⟨(some 16), .mv (.t 5), none, []⟩, ⟨(some 17), .bin .add (.t 16) (.c (.i .i64 1)), none, []⟩, ⟨(some 5), .mv (.t 17), none, []⟩] false)))))) (.seq (.reg [⟨(some 26), .mv (.t 1), none, []⟩, ⟨(some 4), .mv (.t 26), none, []⟩] false) (.ret)))))
theorem ok_laws_szEdgeS : (Try.f91.body).bind (comp Try.prog modes Try.f91.ntmps) = some pc_laws_szEdgeS := by kernel_rfl
theorem via_laws_szEdgeS {args outs : List T} {r : T} (ha : args.length ≤ 27) (h : W Try.prog modes 27 pc_laws_szEdgeS (enter args) (fin Try.prog [.tmp 4] args r outs)) : Ret Try.prog 91 args r outs := Ret.of Try.func91 ok_laws_szEdgeS rfl rfl ha h
def pc_laws_szGraph : PC :=
  .seq (.reg [⟨(some 2), .box 4 (.t 0), none, []⟩, ⟨(some 4), .mv (.c (.i .i64 0)), none, []⟩] false) (.seq (.reg [⟨(some 5), .fa 0 (.t 2), none, []⟩, ⟨(some 6), .load none (.t 5), none, []⟩, ⟨(some 7), .mv (.t 1), none, []⟩, ⟨(some 8), .call (.ev [] .own) 90 [(.t 6), (.t 7)], none, []⟩, ⟨(some 1), .mv (.t 8), none, []⟩] false) (.seq (.seq (.reg [⟨(some 9), .mv (.t 1), none, []⟩, ⟨(some 10), .bin .lss (.t 9) (.c (.i .i64 0)), none, []⟩] false) (.cond (.t 10) (.seq (.reg [⟨(some 4), .mv (.c (.i .i64 (-1))), none, []⟩] false) (.ret)) (.skip))) (.seq (.reg [⟨(some 11), .fa 1 (.t 2), none, []⟩, ⟨(some 12), .load none (.t 11), none, []⟩, ⟨(some 13), .mv (.t 1), none, []⟩, ⟨(some 14), .call (.ev [] .own) 91 [(.t 12), (.t 13)], none, []⟩, ⟨(some 1), .mv (.t 14), none, []⟩] false) (.seq (.seq (.reg [⟨(some 15), .mv (.t 1), none, []⟩, ⟨(some 16), .bin .lss (.t 15) (.c (.i .i64 0)), none, []⟩] false) (.cond (.t 16) (.seq (.reg [⟨(some 4), .mv (.c (.i .i64 (-1))), none, []⟩] false) (.ret)) (.skip))) (.seq (.reg [⟨(some 17), .mv (.t 1), none, []⟩, ⟨(some 4), .mv (.t 17), none, []⟩] false) (.ret))))))
theorem ok_laws_szGraph : (Try.f39.body).bind (comp Try.prog modes Try.f39.ntmps) = some pc_laws_szGraph := by kernel_rfl
theorem via_laws_szGraph {args outs : List T} {r : T} (ha : args.length ≤ 18) (h : W Try.prog modes 18 pc_laws_szGraph (enter args) (fin Try.prog [.tmp 4] args r outs)) : Ret Try.prog 39 args r outs := Ret.of Try.func39 ok_laws_szGraph rfl rfl ha h
def pc_laws_szNode : PC :=
  .seq (.reg [⟨(some 2), .box 3 (.t 0), none, []⟩, ⟨(some 4), .mv (.c (.i .i64 0)), none, []⟩] false) (.seq (.reg [⟨(some 5), .fa 1 (.t 2), none, []⟩, ⟨(some 6), .load none (.t 5), none, []⟩, ⟨(some 7), .mv (.t 1), none, []⟩, ⟨(some 8), .call (.ev [] .own) 183 [(.t 6), (.t 7)], none, []⟩, ⟨(some 1), .mv (.t 8), none, []⟩] false) (.seq (.seq (.reg [⟨(some 9), .mv (.t 1), none, []⟩, ⟨(some 10), .bin .lss (.t 9) (.c (.i .i64 0)), none, []⟩] false) (.cond (.t 10) (.seq (.reg [⟨(some 4), .mv (.c (.i .i64 (-1))), none, []⟩] false) (.ret)) (.skip))) (.seq (.reg [⟨(some 11), .fa 2 (.t 2), none, []⟩, ⟨(some 12), .load none (.t 11), none, []⟩, ⟨(some 13), .mv (.t 1), none, []⟩, ⟨(some 14), .call (.ev [] .own) 184 [(.t 12), (.t 13)], none, []⟩, ⟨(some 1), .mv (.t 14), none, []⟩] false) (.seq (.seq (.reg [⟨(some 15), .mv (.t 1), none, []⟩, ⟨(some 16), .bin .lss (.t 15) (.c (.i .i64 0)), none, []⟩] false) (.cond (.t 16) (.seq (.reg [⟨(some 4), .mv (.c (.i .i64 (-1))), none, []⟩] false) (.ret)) (.skip))) (.seq (.reg [⟨(some 17), .mv (.t 1), none, []⟩, ⟨(some 4), .mv (.t 17), none, []⟩] false) (.ret))))))
theorem ok_laws_szNode : (Try.f151.body).bind (comp Try.prog modes Try.f151.ntmps) = some pc_laws_szNode := by kernel_rfl
theorem via_laws_szNode {args outs : List T} {r : T} (ha : args.length ≤ 18) (h : W Try.prog modes 18 pc_laws_szNode (enter args) (fin Try.prog [.tmp 4] args r outs)) : Ret Try.prog 151 args r outs := Ret.of Try.func151 ok_laws_szNode rfl rfl ha h
def pc_laws_szNodeS : PC :=
  .seq (.reg [⟨(some 4), .mv (.c (.i .i64 0)), none, []⟩] false) (.seq (.reg [⟨(some 6), .mv (.t 1), none, []⟩, ⟨(some 7), .mv (.t 0), none, []⟩, ⟨(some 8), .len (.t 7), none, []⟩, ⟨(some 9), .bin .sub (.t 6) (.t 8), none, []⟩, ⟨(some 1), .mv (.t 9), none, []⟩] false) (.seq (.seq (.reg [⟨(some 10), .mv (.t 1), none, []⟩, ⟨(some 11), .bin .lss (.t 10) (.c (.i .i64 0)), none, []⟩] false) (.cond (.t 11) (.seq (.reg [⟨(some 4), .mv (.c (.i .i64 (-1))), none, []⟩] false) (.ret)) (.skip))) (.seq (.seq (.reg [⟨(some 5), .mv (.c (.i .i64 0)), none, []⟩] false) (.block 0 (.loop (.seq (.seq (.reg [⟨(some 12), .mv (.t 5), none, []⟩, ⟨(some 13), .mv (.t 0), none, []⟩, ⟨(some 14), .len (.t 13), none, []⟩, ⟨(some 15), .bin .lss (.t 12) (.t 14), none, []⟩] false) (.cond (.t 15) (.skip) (.exit 0))) (.seq (.block 1 (.seq (.reg [⟨(some 18), .mv (.t 0), none, []⟩, ⟨(some 19), .mv (.t 5), none, []⟩, ⟨(some 20), .ia 3 (.t 18) (.t 19), none, []⟩, ⟨(some 21), .load (some 3) (.t 20), none, []⟩, ⟨(some 22), .mv (.t 1), none, []⟩, ⟨(some 23), .call (.ev [] .own) 151 [(.t 21), (.t 22)], none, []⟩, ⟨(some 1), .mv (.t 23), none, []⟩] false) (.seq (.reg [⟨(some 24), .mv (.t 1), none, []⟩, ⟨(some 25), .bin .lss (.t 24) (.c (.i .i64 0)), none, []⟩] false) (.cond (.t 25) (.seq (.reg [⟨(some 4), .mv (.c (.i .i64 (-1))), none, []⟩] false) (.ret)) (.skip))))) (.reg [⟨(some 16), .mv (.t 5), none, []⟩, ⟨(some 17), .bin .add (.t 16) (.c (.i .i64 1)), none, []⟩, ⟨(some 5), .mv (.t 17), none, []⟩] false)))))) (.seq (.reg [⟨(some 26), .mv (.t 1), none, []⟩, ⟨(some 4), .mv (.t 26), none, []⟩] false) (.ret)))))
theorem ok_laws_szNodeS : (Try.f90.body).bind (comp Try.prog modes Try.f90.ntmps) = some pc_laws_szNodeS := by kernel_rfl
theorem via_laws_szNodeS {args outs : List T} {r : T} (ha : args.length ≤ 27) (h : W Try.prog modes 27 pc_laws_szNodeS (enter args) (fin Try.prog [.tmp 4] args r outs)) : Ret Try.prog 90 args r outs := Ret.of Try.func90 ok_laws_szNodeS rfl rfl ha h
def pc_laws_szProp : PC :=
  .seq (.reg [⟨(some 2), .box 5 (.t 0), none, []⟩, ⟨(some 4), .mv (.c (.i .i64 0)), none, []⟩] false) (.seq (.reg [⟨(some 5), .mv (.t 1), none, []⟩, ⟨(some 6), .fa 0 (.t 2), none, []⟩, ⟨(some 7), .load none (.t 6), none, []⟩, ⟨(some 8), .lens (.t 7), none, []⟩, ⟨(some 9), .bin .sub (.t 5) (.t 8), none, []⟩, ⟨(some 1), .mv (.t 9), none, []⟩] false) (.seq (.seq (.reg [⟨(some 10), .mv (.t 1), none, []⟩, ⟨(some 11), .bin .lss (.t 10) (.c (.i .i64 0)), none, []⟩] false) (.cond (.t 11) (.seq (.reg [⟨(some 4), .mv (.c (.i .i64 (-1))), none, []⟩] false) (.ret)) (.skip))) (.seq (.reg [⟨(some 12), .fa 1 (.t 2), none, []⟩, ⟨(some 13), .load (some 4) (.t 12), none, []⟩, ⟨(some 14), .mv (.t 1), none, []⟩, ⟨(some 15), .call (.ev [] .own) 14 [(.t 13), (.t 14)], none, []⟩, ⟨(some 1), .mv (.t 15), none, []⟩] false) (.seq (.seq (.reg [⟨(some 16), .mv (.t 1), none, []⟩, ⟨(some 17), .bin .lss (.t 16) (.c (.i .i64 0)), none, []⟩] false) (.cond (.t 17) (.seq (.reg [⟨(some 4), .mv (.c (.i .i64 (-1))), none, []⟩] false) (.ret)) (.skip))) (.seq (.reg [⟨(some 18), .mv (.t 1), none, []⟩, ⟨(some 4), .mv (.t 18), none, []⟩] false) (.ret))))))
theorem ok_laws_szProp : (Try.f193.body).bind (comp Try.prog modes Try.f193.ntmps) = some pc_laws_szProp := by kernel_rfl
theorem via_laws_szProp {args outs : List T} {r : T} (ha : args.length ≤ 19) (h : W Try.prog modes 19 pc_laws_szProp (enter args) (fin Try.prog [.tmp 4] args r outs)) : Ret Try.prog 193 args r outs := Ret.of Try.func193 ok_laws_szProp rfl rfl ha h
def pc_laws_szPropS : PC :=
  .seq (.reg [⟨(some 4), .mv (.c (.i .i64 0)), none, []⟩] false) (.seq (.reg [⟨(some 6), .mv (.t 1), none, []⟩, ⟨(some 7), .mv (.t 0), none, []⟩, ⟨(some 8), .len (.t 7), none, []⟩, ⟨(some 9), .bin .sub (.t 6) (.t 8), none, []⟩, ⟨(some 1), .mv (.t 9), none, []⟩] false) (.seq (.seq (.reg [⟨(some 10), .mv (.t 1), none, []⟩, ⟨(some 11), .bin .lss (.t 10) (.c (.i .i64 0)), none, []⟩] false) (.cond (.t 11) (.seq (.reg [⟨(some 4), .mv (.c (.i .i64 (-1))), none, []⟩] false) (.ret)) (.skip))) (.seq (.seq (.reg [⟨(some 5), .mv (.c (.i .i64 0)), none, []⟩] false) (.block 0 (.loop (.seq (.seq (.reg [⟨(some 12), .mv (.t 5), none, []⟩, ⟨(some 13), .mv (.t 0), none, []⟩, ⟨(some 14), .len (.t 13), none, []⟩, ⟨(some 15), .bin .lss (.t 12) (.t 14), none, []⟩] false) (.cond (.t 15) (.skip) (.exit 0))) (.seq (.block 1 (.seq (.reg [⟨(some 18), .mv (.t 0), none, []⟩, ⟨(some 19), .mv (.t 5), none, []⟩, ⟨(some 20), .ia 5 (.t 18) (.t 19), none, []⟩, ⟨(some 21), .load (some 5) (.t 20), none, []⟩, ⟨(some 22), .mv (.t 1), none, []⟩, ⟨(some 23), .call (.ev [] .own) 193 [(.t 21), (.t 22)], none, []⟩, ⟨(some 1), .mv (.t 23), none, []⟩] false) (.seq (.reg [⟨(some 24), .mv (.t 1), none, []⟩, ⟨(some 25), .bin .lss (.t 24) (.c (.i .i64 0)), none, []⟩] false) (.cond (.t 25) (.seq (.reg [⟨(some 4), .mv (.c (.i .i64 (-1))), none, []⟩] false) (.ret)) (.skip))))) (.reg [⟨(some 16), .mv (.t 5), none, []⟩, ⟨(some 17), .bin .add (.t 16) (.c (.i .i64 1)), none, []⟩, ⟨(some 5), .mv (.t 17), none, []⟩] false)))))) (.seq (.reg [⟨(some 26), .mv (.t 1), none, []⟩, ⟨(some 4), .mv (.t 26), none, []⟩] false) (.ret)))))
theorem ok_laws_szPropS : (Try.f184.body).bind (comp Try.prog modes Try.f184.ntmps) = some pc_laws_szPropS := by kernel_rfl
theorem via_laws_szPropS {args outs : List T} {r : T} (ha : args.length ≤ 27) (h : W Try.prog modes 27 pc_laws_szPropS (enter args) (fin Try.prog [.tmp 4] args r outs)) : Ret Try.prog 184 args r outs := Ret.of Try.func184 ok_laws_szPropS rfl rfl ha h
def pc_laws_szStringS : PC :=
  .seq (.reg [⟨(some 4), .mv (.c (.i .i64 0)), none, []⟩] false) (.seq (.reg [⟨(some 6), .mv (.t 1), none, []⟩, ⟨(some 7), .mv (.t 0), none, []⟩, ⟨(some 8), .len (.t 7), none, []⟩, ⟨(some 9), .bin .sub (.t 6) (.t 8), none, []⟩, ⟨(some 1), .mv (.t 9), none, []⟩] false) (.seq (.seq (.reg [⟨(some 10), .mv (.t 1), none, []⟩, ⟨(some 11), .bin .lss (.t 10) (.c (.i .i64 0)), none, []⟩] false) (.cond (.t 11) (.seq (.reg [⟨(some 4), .mv (.c (.i .i64 (-1))), none, []⟩] false) (.ret)) (.skip))) (.seq (.seq (.reg [⟨(some 5), .mv (.c (.i .i64 0)), none, []⟩] false) (.block 0 (.loop (.seq (.seq (.reg [⟨(some 12), .mv (.t 5), none, []⟩, ⟨(some 13), .mv (.t 0), none, []⟩, ⟨(some 14), .len (.t 13), none, []⟩, ⟨(some 15), .bin .lss (.t 12) (.t 14), none, []⟩] false) (.cond (.t 15) (.skip) (.exit 0))) (.seq (.block 1 (.seq (.reg [⟨(some 18), .mv (.t 1), none, []⟩, ⟨(some 19), .mv (.t 0), none, []⟩, ⟨(some 20), .mv (.t 5), none, []⟩, ⟨(some 21), .ia 1 (.t 19) (.t 20), none, []⟩, ⟨(some 22), .load none (.t 21), none, []⟩, ⟨(some 23), .lens (.t 22), none, []⟩, ⟨(some 24), .bin .sub (.t 18) (.t 23), none, []⟩, ⟨(some 1), .mv (.t 24), none, []⟩] false) (.seq (.reg [⟨(some 25), .mv (.t 1), none, []⟩, ⟨(some 26), .bin .lss (.t 25) (.c (.i .i64 0)), none, []⟩] false) (.cond (.t 26) (.seq (.reg [⟨(some 4), .mv (.c (.i .i64 (-1))), none, []⟩] false) (.ret)) (.skip))))) (.reg [⟨(some 16), .mv (.t 5), none, []⟩, ⟨(some 17), .bin .add (.t 16) (.c (.i .i64 1)), none, []⟩, ⟨(some 5), .mv (.t 17), none, []⟩] false)))))) (.seq (.reg [⟨(some 27), .mv (.t 1), none, []⟩, ⟨(some 4), .mv (.t 27), none, []⟩] false) (.ret)))))
theorem ok_laws_szStringS : (Try.f183.body).bind (comp Try.prog modes Try.f183.ntmps) = some pc_laws_szStringS := by kernel_rfl
theorem via_laws_szStringS {args outs : List T} {r : T} (ha : args.length ≤ 28) (h : W Try.prog modes 28 pc_laws_szStringS (enter args) (fin Try.prog [.tmp 4] args r outs)) : Ret Try.prog 183 args r outs := Ret.of Try.func183 ok_laws_szStringS rfl rfl ha h
def pc_laws_szValue : PC :=
  .seq (.reg [⟨(some 2), .box 4 (.t 0), none, []⟩, ⟨(some 4), .mv (.c (.i .i64 0)), none, []⟩] false) (.seq (.reg [⟨(some 5), .mv (.t 1), none, []⟩, ⟨(some 6), .fa 2 (.t 2), none, []⟩, ⟨(some 7), .load none (.t 6), none, []⟩, ⟨(some 8), .lens (.t 7), none, []⟩, ⟨(some 9), .bin .sub (.t 5) (.t 8), none, []⟩, ⟨(some 1), .mv (.t 9), none, []⟩] false) (.seq (.seq (.reg [⟨(some 10), .mv (.t 1), none, []⟩, ⟨(some 11), .bin .lss (.t 10) (.c (.i .i64 0)), none, []⟩] false) (.cond (.t 11) (.seq (.reg [⟨(some 4), .mv (.c (.i .i64 (-1))), none, []⟩] false) (.ret)) (.skip))) (.seq (.reg [⟨(some 12), .fa 3 (.t 2), none, []⟩, ⟨(some 13), .load none (.t 12), none, []⟩, ⟨(some 14), .mv (.t 1), none, []⟩, ⟨(some 15), .call (.ev [] .own) 56 [(.t 13), (.t 14)], none, []⟩, ⟨(some 1), .mv (.t 15), none, []⟩] false) (.seq (.seq (.reg [⟨(some 16), .mv (.t 1), none, []⟩, ⟨(some 17), .bin .lss (.t 16) (.c (.i .i64 0)), none, []⟩] false) (.cond (.t 17) (.seq (.reg [⟨(some 4), .mv (.c (.i .i64 (-1))), none, []⟩] false) (.ret)) (.skip))) (.seq (.reg [⟨(some 18), .mv (.t 1), none, []⟩, ⟨(some 4), .mv (.t 18), none, []⟩] false) (.ret))))))
theorem ok_laws_szValue : (Try.f14.body).bind (comp Try.prog modes Try.f14.ntmps) = some pc_laws_szValue := by kernel_rfl
theorem via_laws_szValue {args outs : List T} {r : T} (ha : args.length ≤ 19) (h : W Try.prog modes 19 pc_laws_szValue (enter args) (fin Try.prog [.tmp 4] args r outs)) : Ret Try.prog 14 args r outs := Ret.of Try.func14 ok_laws_szValue rfl rfl ha h
def pc_laws_szValueS : PC :=
  .seq (.reg [⟨(some 4), .mv (.c (.i .i64 0)), none, []⟩] false) (.seq (.reg [⟨(some 6), .mv (.t 1), none, []⟩, ⟨(some 7), .mv (.t 0), none, []⟩, ⟨(some 8), .len (.t 7), none, []⟩, ⟨(some 9), .bin .sub (.t 6) (.t 8), none, []⟩, ⟨(some 1), .mv (.t 9), none, []⟩] false) (.seq (.seq (.reg [⟨(some 10), .mv (.t 1), none, []⟩, ⟨(some 11), .bin .lss (.t 10) (.c (.i .i64 0)), none, []⟩] false) (.cond (.t 11) (.seq (.reg [⟨(some 4), .mv (.c (.i .i64 (-1))), none, []⟩] false) (.ret)) (.skip))) (.seq (.seq (.reg [⟨(some 5), .mv (.c (.i .i64 0)), none, []⟩] false) (.block 0 (.loop (.seq (.seq (.reg [⟨(some 12), .mv (.t 5), none, []⟩, ⟨(some 13), .mv (.t 0), none, []⟩, ⟨(some 14), .len (.t 13), none, []⟩, ⟨(some 15), .bin .lss (.t 12) (.t 14), none, []⟩] false) (.cond (.t 15) (.skip) (.exit 0))) (.seq (.block 1 (.seq (.reg [⟨(some 18), .mv (.t 0), none, []⟩, ⟨(some 19), .mv (.t 5), none, []⟩, ⟨(some 20), .ia 4 (.t 18) (.t 19), none, []⟩, ⟨(some 21), .load (some 4) (.t 20), none, []⟩, ⟨(some 22), .mv (.t 1), none, []⟩, ⟨(some 23), .call (.ev [] .own) 14 [(.t 21), (.t 22)], none, []⟩, ⟨(some 1), .mv (.t 23), none, []⟩] false) (.seq (.reg [⟨(some 24), .mv (.t 1), none, []⟩, ⟨(some 25), .bin .lss (.t 24) (.c (.i .i64 0)), none, []⟩] false) (.cond (.t 25) (.seq (.reg [⟨(some 4), .mv (.c (.i .i64 (-1))), none, []⟩] false) (.ret)) (.skip))))) (.reg [⟨(some 16), .mv (.t 5), none, []⟩, ⟨(some 17), .bin .add (.t 16) (.c (.i .i64 1)), none, []⟩, ⟨(some 5), .mv (.t 17), none, []⟩] false)))))) (.seq (.reg [⟨(some 26), .mv (.t 1), none, []⟩, ⟨(some 4), .mv (.t 26), none, []⟩] false) (.ret)))))
theorem ok_laws_szValueS : (Try.f56.body).bind (comp Try.prog modes Try.f56.ntmps) = some pc_laws_szValueS := by kernel_rfl
theorem via_laws_szValueS {args outs : List T} {r : T} (ha : args.length ≤ 27) (h : W Try.prog modes 27 pc_laws_szValueS (enter args) (fin Try.prog [.tmp 4] args r outs)) : Ret Try.prog 56 args r outs := Ret.of Try.func56 ok_laws_szValueS rfl rfl ha h
def pc_laws_toEdge : PC :=
  .seq (.reg [⟨(some 1), .box 5 (.t 0), none, []⟩, ⟨(some 2), .alloc [.i .i64 0, .s [], .i .i64 0, .i .i64 0, .nl], none, []⟩] false) (.seq (.reg [⟨(some 3), .alloc [.i .i64 0, .s [], .i .i64 0, .i .i64 0, .nl], none, []⟩] false) (.seq (.reg [⟨(some 4), .fa 0 (.t 1), none, []⟩, ⟨(some 5), .load none (.t 4), none, []⟩, ⟨(some 6), .fa 0 (.t 3), none, []⟩, ⟨none, .store none (.t 6) (.t 5), none, []⟩] false) (.seq (.reg [⟨(some 7), .fa 1 (.t 1), none, []⟩, ⟨(some 8), .load none (.t 7), none, []⟩, ⟨(some 9), .fa 1 (.t 3), none, []⟩, ⟨none, .store none (.t 9) (.t 8), none, []⟩] false) (.seq (.reg [⟨(some 10), .fa 2 (.t 1), none, []⟩, ⟨(some 11), .load none (.t 10), none, []⟩, ⟨(some 12), .fa 2 (.t 3), none, []⟩, ⟨none, .store none (.t 12) (.t 11), none, []⟩] false) (.seq (.reg [⟨(some 13), .fa 3 (.t 1), none, []⟩, ⟨(some 14), .load none (.t 13), none, []⟩, ⟨(some 15), .fa 3 (.t 3), none, []⟩, ⟨none, .store none (.t 15) (.t 14), none, []⟩] false) (.seq (.reg [⟨(some 16), .fa 4 (.t 1), none, []⟩, ⟨(some 17), .load none (.t 16), none, []⟩, ⟨(some 18), .call (.ev [] .own) 186 [(.t 17)], none, []⟩, ⟨(some 19), .fa 4 (.t 3), none, []⟩, ⟨none, .store none (.t 19) (.t 18), none, []⟩] false) (.seq (.reg [⟨(some 20), .load (some 5) (.t 3), none, []⟩, ⟨none, .store (some 5) (.t 2) (.t 20), none, []⟩] false) (.ret))))))))
theorem ok_laws_toEdge : (Try.f155.body).bind (comp Try.prog modes Try.f155.ntmps) = some pc_laws_toEdge := by kernel_rfl
theorem via_laws_toEdge {args outs : List T} {r : T} (ha : args.length ≤ 21) (h : W Try.prog modes 21 pc_laws_toEdge (enter args) (fin Try.prog [.cell 2 106] args r outs)) : Ret Try.prog 155 args r outs := Ret.of Try.func155 ok_laws_toEdge rfl rfl ha h
def pc_laws_toEdgeS : PC :=
  .seq (.reg [⟨(some 2), .mv (.c (.nl)), none, []⟩] false) (.seq (.reg [⟨(some 5), .mv (.t 0), none, []⟩, ⟨(some 6), .len (.t 5), none, []⟩, ⟨(some 7), .make 5 64 [.i .i64 0, .s [], .i .i64 0, .i .i64 0, .nl] (.t 6), none, []⟩, ⟨(some 3), .mv (.t 7), none, []⟩] false) (.seq (.seq (.reg [⟨(some 4), .mv (.c (.i .i64 0)), none, []⟩] false) (.block 0 (.loop (.seq (.seq (.reg [⟨(some 8), .mv (.t 4), none, []⟩, ⟨(some 9), .mv (.t 0), none, []⟩, ⟨(some 10), .len (.t 9), none, []⟩, ⟨(some 11), .bin .lss (.t 8) (.t 10), none, []⟩] false) (.cond (.t 11) (.skip) (.exit 0))) (.seq (.block 1 (.reg [⟨(some 14), .mv (.t 3), none, []⟩, ⟨(some 15), .mv (.t 4), none, []⟩, ⟨(some 16), .mv (.t 0), none, []⟩, ⟨(some 17), .mv (.t 4), none, []⟩, ⟨(some 18), .ia 5 (.t 16) (.t 17), none, []⟩, ⟨(some 19), .load (some 5) (.t 18), none, []⟩, ⟨(some 20), .call (.ev [] .own) 155 [(.t 19)], none, []⟩, ⟨(some 21), .ia 5 (.t 14) (.t 15), none, []⟩, ⟨none, .store (some 5) (.t 21) (.t 20), none, []⟩] false)) (.reg [⟨(some 12), .mv (.t 4), none, []⟩, ⟨(some 13), .bin .add (.t 12) (.c (.i .i64 1)), none, []⟩, ⟨(some 4), .mv (.t 13), none, []⟩] false)))))) (.seq (.reg [⟨(some 22), .mv (.t 3), none, []⟩, ⟨(some 2), .mv (.t 22), none, []⟩] false) (.ret))))
theorem ok_laws_toEdgeS : (Try.f95.body).bind (comp Try.prog modes Try.f95.ntmps) = some pc_laws_toEdgeS := by kernel_rfl
theorem via_laws_toEdgeS {args outs : List T} {r : T} (ha : args.length ≤ 23) (h : W Try.prog modes 23 pc_laws_toEdgeS (enter args) (fin Try.prog [.tmp 2] args r outs)) : Ret Try.prog 95 args r outs := Ret.of Try.func95 ok_laws_toEdgeS rfl rfl ha h
def pc_laws_toGraph : PC :=
  .seq (.reg [⟨(some 1), .box 4 (.t 0), none, []⟩, ⟨(some 2), .alloc [.nl, .nl, .i .i64 0, .i .i64 0], none, []⟩] false) (.seq (.reg [⟨(some 3), .alloc [.nl, .nl, .i .i64 0, .i .i64 0], none, []⟩] false) (.seq (.reg [⟨(some 4), .fa 0 (.t 1), none, []⟩, ⟨(some 5), .load none (.t 4), none, []⟩, ⟨(some 6), .call (.ev [] .own) 94 [(.t 5)], none, []⟩, ⟨(some 7), .fa 0 (.t 3), none, []⟩, ⟨none, .store none (.t 7) (.t 6), none, []⟩] false) (.seq (.reg [⟨(some 8), .fa 1 (.t 1), none, []⟩, ⟨(some 9), .load none (.t 8), none, []⟩, ⟨(some 10), .call (.ev [] .own) 95 [(.t 9)], none, []⟩, ⟨(some 11), .fa 1 (.t 3), none, []⟩, ⟨none, .store none (.t 11) (.t 10), none, []⟩] false) (.seq (.reg [⟨(some 12), .fa 2 (.t 1), none, []⟩, ⟨(some 13), .load none (.t 12), none, []⟩, ⟨(some 14), .fa 2 (.t 3), none, []⟩, ⟨none, .store none (.t 14) (.t 13), none, []⟩] false) (.seq (.reg [⟨(some 15), .fa 3 (.t 1), none, []⟩, ⟨(some 16), .load none (.t 15), none, []⟩, ⟨(some 17), .fa 3 (.t 3), none, []⟩, ⟨none, .store none (.t 17) (.t 16), none, []⟩] false) (.seq (.reg [⟨(some 18), .load (some 4) (.t 3), none, []⟩, ⟨none, .store (some 4) (.t 2) (.t 18), none, []⟩] false) (.ret)))))))
theorem ok_laws_toGraph : (Try.f41.body).bind (comp Try.prog modes Try.f41.ntmps) = some pc_laws_toGraph := by kernel_rfl
theorem via_laws_toGraph {args outs : List T} {r : T} (ha : args.length ≤ 19) (h : W Try.prog modes 19 pc_laws_toGraph (enter args) (fin Try.prog [.cell 2 54] args r outs)) : Ret Try.prog 41 args r outs := Ret.of Try.func41 ok_laws_toGraph rfl rfl ha h
def pc_laws_toNode : PC :=
  .seq (.reg [⟨(some 1), .box 3 (.t 0), none, []⟩, ⟨(some 2), .alloc [.i .i64 0, .nl, .nl], none, []⟩] false) (.seq (.reg [⟨(some 3), .alloc [.i .i64 0, .nl, .nl], none, []⟩] false) (.seq (.reg [⟨(some 4), .fa 0 (.t 1), none, []⟩, ⟨(some 5), .load none (.t 4), none, []⟩, ⟨(some 6), .fa 0 (.t 3), none, []⟩, ⟨none, .store none (.t 6) (.t 5), none, []⟩] false) (.seq (.reg [⟨(some 7), .fa 1 (.t 1), none, []⟩, ⟨(some 8), .load none (.t 7), none, []⟩, ⟨(some 9), .call (.ev [] .own) 185 [(.t 8)], none, []⟩, ⟨(some 10), .fa 1 (.t 3), none, []⟩, ⟨none, .store none (.t 10) (.t 9), none, []⟩] false) (.seq (.reg [⟨(some 11), .fa 2 (.t 1), none, []⟩, ⟨(some 12), .load none (.t 11), none, []⟩, ⟨(some 13), .call (.ev [] .own) 186 [(.t 12)], none, []⟩, ⟨(some 14), .fa 2 (.t 3), none, []⟩, ⟨none, .store none (.t 14) (.t 13), none, []⟩] false) (.seq (.reg [⟨(some 15), .load (some 3) (.t 3), none, []⟩, ⟨none, .store (some 3) (.t 2) (.t 15), none, []⟩] false) (.ret))))))
theorem ok_laws_toNode : (Try.f154.body).bind (comp Try.prog modes Try.f154.ntmps) = some pc_laws_toNode := by kernel_rfl
theorem via_laws_toNode {args outs : List T} {r : T} (ha : args.length ≤ 16) (h : W Try.prog modes 16 pc_laws_toNode (enter args) (fin Try.prog [.cell 2 99] args r outs)) : Ret Try.prog 154 args r outs := Ret.of Try.func154 ok_laws_toNode rfl rfl ha h
def pc_laws_toNodeS : PC :=
  .seq (.reg [⟨(some 2), .mv (.c (.nl)), none, []⟩] false) (.seq (.reg [⟨(some 5), .mv (.t 0), none, []⟩, ⟨(some 6), .len (.t 5), none, []⟩, ⟨(some 7), .make 3 56 [.i .i64 0, .nl, .nl] (.t 6), none, []⟩, ⟨(some 3), .mv (.t 7), none, []⟩] false) (.seq (.seq (.reg [⟨(some 4), .mv (.c (.i .i64 0)), none, []⟩] false) (.block 0 (.loop (.seq (.seq (.reg [⟨(some 8), .mv (.t 4), none, []⟩, ⟨(some 9), .mv (.t 0), none, []⟩, ⟨(some 10), .len (.t 9), none, []⟩, ⟨(some 11), .bin .lss (.t 8) (.t 10), none, []⟩] false) (.cond (.t 11) (.skip) (.exit 0))) (.seq (.block 1 (.reg [⟨(some 14), .mv (.t 3), none, []⟩, ⟨(some 15), .mv (.t 4), none, []⟩, ⟨(some 16), .mv (.t 0), none, []⟩, ⟨(some 17), .mv (.t 4), none, []⟩, ⟨(some 18), .ia 3 (.t 16) (.t 17), none, []⟩, ⟨(some 19), .load (some 3) (.t 18), none, []⟩, ⟨(some 20), .call (.ev [] .own) 154 [(.t 19)], none, []⟩, ⟨(some 21), .ia 3 (.t 14) (.t 15), none, []⟩, ⟨none, .store (some 3) (.t 21) (.t 20), none, []⟩] false)) (.reg [⟨(some 12), .mv (.t 4), none, []⟩, ⟨(some 13), .bin .add (.t 12) (.c (.i .i64 1)), none, []⟩, ⟨(some 4), .mv (.t 13), none, []⟩] false)))))) (.seq (.reg [⟨(some 22), .mv (.t 3), none, []⟩, ⟨(some 2), .mv (.t 22), none, []⟩] false) (.ret))))
theorem ok_laws_toNodeS : (Try.f94.body).bind (comp Try.prog modes Try.f94.ntmps) = some pc_laws_toNodeS := by kernel_rfl
theorem via_laws_toNodeS {args outs : List T} {r : T} (ha : args.length ≤ 23) (h : W Try.prog modes 23 pc_laws_toNodeS (enter args) (fin Try.prog [.tmp 2] args r outs)) : Ret Try.prog 94 args r outs := Ret.of Try.func94 ok_laws_toNodeS rfl rfl ha h
def pc_laws_toProp : PC :=
  .seq (.reg [⟨(some 1), .box 5 (.t 0), none, []⟩, ⟨(some 2), .alloc [.s [], .i .i64 0, .i .i64 0, .s [], .nl], none, []⟩] false) (.seq (.reg [⟨(some 3), .alloc [.s [], .i .i64 0, .i .i64 0, .s [], .nl], none, []⟩] false) (.seq (.reg [⟨(some 4), .fa 0 (.t 1), none, []⟩, ⟨(some 5), .load none (.t 4), none, []⟩, ⟨(some 6), .fa 0 (.t 3), none, []⟩, ⟨none, .store none (.t 6) (.t 5), none, []⟩] false) (.seq (.reg [⟨(some 7), .fa 1 (.t 1), none, []⟩, ⟨(some 8), .load (some 4) (.t 7), none, []⟩, ⟨(some 9), .call (.ev [] .own) 16 [(.t 8)], none, []⟩, ⟨(some 10), .fa 1 (.t 3), none, []⟩, ⟨none, .store (some 4) (.t 10) (.t 9), none, []⟩] false) (.seq (.reg [⟨(some 11), .load (some 5) (.t 3), none, []⟩, ⟨none, .store (some 5) (.t 2) (.t 11), none, []⟩] false) (.ret)))))
theorem ok_laws_toProp : (Try.f194.body).bind (comp Try.prog modes Try.f194.ntmps) = some pc_laws_toProp := by kernel_rfl
theorem via_laws_toProp {args outs : List T} {r : T} (ha : args.length ≤ 12) (h : W Try.prog modes 12 pc_laws_toProp (enter args) (fin Try.prog [.cell 2 126] args r outs)) : Ret Try.prog 194 args r outs := Ret.of Try.func194 ok_laws_toProp rfl rfl ha h
def pc_laws_toPropS : PC :=
  .seq (.reg [⟨(some 2), .mv (.c (.nl)), none, []⟩] false) (.seq (.reg [⟨(some 5), .mv (.t 0), none, []⟩, ⟨(some 6), .len (.t 5), none, []⟩, ⟨(some 7), .make 5 72 [.s [], .i .i64 0, .i .i64 0, .s [], .nl] (.t 6), none, []⟩, ⟨(some 3), .mv (.t 7), none, []⟩] false) (.seq (.seq (.reg [⟨(some 4), .mv (.c (.i .i64 0)), none, []⟩] false) (.block 0 (.loop (.seq (.seq (.reg [⟨(some 8), .mv (.t 4), none, []⟩, ⟨(some 9), .mv (.t 0), none, []⟩, ⟨(some 10), .len (.t 9), none, []⟩, ⟨(some 11), .bin .lss (.t 8) (.t 10), none, []⟩] false) (.cond (.t 11) (.skip) (.exit 0))) (.seq (.block 1 (.reg [⟨(some 14), .mv (.t 3), none, []⟩, ⟨(some 15), .mv (.t 4), none, []⟩, ⟨(some 16), .mv (.t 0), none, []⟩, ⟨(some 17), .mv (.t 4), none, []⟩, ⟨(some 18), .ia 5 (.t 16) (.t 17), none, []⟩, ⟨(some 19), .load (some 5) (.t 18), none, []⟩, ⟨(some 20), .call (.ev [] .own) 194 [(.t 19)], none, []⟩, ⟨(some 21), .ia 5 (.t 14) (.t 15), none, []⟩, ⟨none, .store (some 5) (.t 21) (.t 20), none, []⟩] false)) (.reg [⟨(some 12), .mv (.t 4), none, []⟩, ⟨(some 13), .bin .add (.t 12) (.c (.i .i64 1)), none, []⟩, ⟨(some 4), .mv (.t 13), none, []⟩] false)))))) (.seq (.reg [⟨(some 22), .mv (.t 3), none, []⟩, ⟨(some 2), .mv (.t 22), none, []⟩] false) (.ret))))
theorem ok_laws_toPropS : (Try.f186.body).bind (comp Try.prog modes Try.f186.ntmps) = some pc_laws_toPropS := by kernel_rfl
theorem via_laws_toPropS {args outs : List T} {r : T} (ha : args.length ≤ 23) (h : W Try.prog modes 23 pc_laws_toPropS (enter args) (fin Try.prog [.tmp 2] args r outs)) : Ret Try.prog 186 args r outs := Ret.of Try.func186 ok_laws_toPropS rfl rfl ha h
def pc_laws_toStringS : PC :=
  .seq (.reg [⟨(some 2), .mv (.c (.nl)), none, []⟩] false) (.seq (.reg [⟨(some 5), .mv (.t 0), none, []⟩, ⟨(some 6), .len (.t 5), none, []⟩, ⟨(some 7), .make 1 16 [.s []] (.t 6), none, []⟩, ⟨(some 3), .mv (.t 7), none, []⟩] false) (.seq (.seq (.reg [⟨(some 4), .mv (.c (.i .i64 0)), none, []⟩] false) (.block 0 (.loop (.seq (.seq (.reg [⟨(some 8), .mv (.t 4), none, []⟩, ⟨(some 9), .mv (.t 0), none, []⟩, ⟨(some 10), .len (.t 9), none, []⟩, ⟨(some 11), .bin .lss (.t 8) (.t 10), none, []⟩] false) (.cond (.t 11) (.skip) (.exit 0))) (.seq (.block 1 (.reg [⟨(some 14), .mv (.t 3), none, []⟩, ⟨(some 15), .mv (.t 4), none, []⟩, ⟨(some 16), .mv (.t 0), none, []⟩, ⟨(some 17), .mv (.t 4), none, []⟩, ⟨(some 18), .ia 1 (.t 16) (.t 17), none, []⟩, ⟨(some 19), .load none (.t 18), none, []⟩, ⟨(some 20), .ia 1 (.t 14) (.t 15), none, []⟩, ⟨none, .store none (.t 20) (.t 19), none, []⟩] false)) (.reg [⟨(some 12), .mv (.t 4), none, []⟩, ⟨(some 13), .bin .add (.t 12) (.c (.i .i64 1)), none, []⟩, ⟨(some 4), .mv (.t 13), none, []⟩] false)))))) (.seq (.reg [⟨(some 21), .mv (.t 3), none, []⟩, ⟨(some 2), .mv (.t 21), none, []⟩] false) (.ret))))
theorem ok_laws_toStringS : (Try.f185.body).bind (comp Try.prog modes Try.f185.ntmps) = some pc_laws_toStringS := by kernel_rfl
theorem via_laws_toStringS {args outs : List T} {r : T} (ha : args.length ≤ 22) (h : W Try.prog modes 22 pc_laws_toStringS (enter args) (fin Try.prog [.tmp 2] args r outs)) : Ret Try.prog 185 args r outs := Ret.of Try.func185 ok_laws_toStringS rfl rfl ha h
def pc_laws_toValue : PC :=
  .seq (.reg [⟨(some 1), .box 4 (.t 0), none, []⟩, ⟨(some 2), .alloc [.i .i64 0, .i .i64 0, .s [], .nl], none, []⟩] false) (.seq (.reg [⟨(some 3), .alloc [.i .i64 0, .i .i64 0, .s [], .nl], none, []⟩] false) (.seq (.reg [⟨(some 4), .fa 0 (.t 1), none, []⟩, ⟨(some 5), .load none (.t 4), none, []⟩, ⟨(some 6), .fa 0 (.t 3), none, []⟩, ⟨none, .store none (.t 6) (.t 5), none, []⟩] false) (.seq (.reg [⟨(some 7), .fa 1 (.t 1), none, []⟩, ⟨(some 8), .load none (.t 7), none, []⟩, ⟨(some 9), .fa 1 (.t 3), none, []⟩, ⟨none, .store none (.t 9) (.t 8), none, []⟩] false) (.seq (.reg [⟨(some 10), .fa 2 (.t 1), none, []⟩, ⟨(some 11), .load none (.t 10), none, []⟩, ⟨(some 12), .fa 2 (.t 3), none, []⟩, ⟨none, .store none (.t 12) (.t 11), none, []⟩] false) (.seq (.reg [⟨(some 13), .fa 3 (.t 1), none, []⟩, ⟨(some 14), .load none (.t 13), none, []⟩, ⟨(some 15), .call (.ev [] .own) 58 [(.t 14)], none, []⟩, ⟨(some 16), .fa 3 (.t 3), none, []⟩, ⟨none, .store none (.t 16) (.t 15), none, []⟩] false) (.seq (.reg [⟨(some 17), .load (some 4) (.t 3), none, []⟩, ⟨none, .store (some 4) (.t 2) (.t 17), none, []⟩] false) (.ret)))))))
theorem ok_laws_toValue : (Try.f16.body).bind (comp Try.prog modes Try.f16.ntmps) = some pc_laws_toValue := by kernel_rfl
theorem via_laws_toValue {args outs : List T} {r : T} (ha : args.length ≤ 18) (h : W Try.prog modes 18 pc_laws_toValue (enter args) (fin Try.prog [.cell 2 28] args r outs)) : Ret Try.prog 16 args r outs := Ret.of Try.func16 ok_laws_toValue rfl rfl ha h
def pc_laws_toValueS : PC :=
  .seq (.reg [⟨(some 2), .mv (.c (.nl)), none, []⟩] false) (.seq (.reg [⟨(some 5), .mv (.t 0), none, []⟩, ⟨(some 6), .len (.t 5), none, []⟩, ⟨(some 7), .make 4 56 [.i .i64 0, .i .i64 0, .s [], .nl] (.t 6), none, []⟩, ⟨(some 3), .mv (.t 7), none, []⟩] false) (.seq (.seq (.reg [⟨(some 4), .mv (.c (.i .i64 0)), none, []⟩] false) (.block 0 (.loop (.seq (.seq (.reg [⟨(some 8), .mv (.t 4), none, []⟩, ⟨(some 9), .mv (.t 0), none, []⟩, ⟨(some 10), .len (.t 9), none, []⟩, ⟨(some 11), .bin .lss (.t 8) (.t 10), none, []⟩] false) (.cond (.t 11) (.skip) (.exit 0))) (.seq (.block 1 (.reg [⟨(some 14), .mv (.t 3), none, []⟩, ⟨(some 15), .mv (.t 4), none, []⟩, ⟨(some 16), .mv (.t 0), none, []⟩, ⟨(some 17), .mv (.t 4), none, []⟩, ⟨(some 18), .ia 4 (.t 16) (.t 17), none, []⟩, ⟨(some 19), .load (some 4) (.t 18), none, []⟩, ⟨(some 20), .call (.ev [] .own) 16 [(.t 19)], none, []⟩, ⟨(some 21), .ia 4 (.t 14) (.t 15), none, []⟩, ⟨none, .store (some 4) (.t 21) (.t 20), none, []⟩] false)) (.reg [⟨(some 12), .mv (.t 4), none, []⟩, ⟨(some 13), .bin .add (.t 12) (.c (.i .i64 1)), none, []⟩, ⟨(some 4), .mv (.t 13), none, []⟩] false)))))) (.seq (.reg [⟨(some 22), .mv (.t 3), none, []⟩, ⟨(some 2), .mv (.t 22), none, []⟩] false) (.ret))))
theorem ok_laws_toValueS : (Try.f58.body).bind (comp Try.prog modes Try.f58.ntmps) = some pc_laws_toValueS := by kernel_rfl
theorem via_laws_toValueS {args outs : List T} {r : T} (ha : args.length ≤ 23) (h : W Try.prog modes 23 pc_laws_toValueS (enter args) (fin Try.prog [.tmp 2] args r outs)) : Ret Try.prog 58 args r outs := Ret.of Try.func58 ok_laws_toValueS rfl rfl ha h
end Go.Proofs.Ytehdfbhfbidadaa.V
/- Sizes, copies, comparison of what came in. -/
namespace Go.Proofs.Ytehdfbhfbidadaa.V
open Go
set_option linter.unusedVariables false
set_option linter.unusedSimpArgs false
set_option maxHeartbeats 2000000
/-! ### sizes -/
theorem szValueS_of (l : List Vl) (hl : ln l) (h : ∀ v ∈ l, ∀ x : Int, 0 ≤ x → x < 2 ^ 62 → Rv Try.prog 14 [.agg (sV.I v), .i .i64 x] (.i .i64 (left x v.cnt))) (x : Int) (h0 : 0 ≤ x) (h1 : x < 2 ^ 62) :
    Rv Try.prog 56 [.imm (l.map sV.I), .i .i64 x] (.i .i64 (left x (cl Vl.cnt l))) := via_laws_szValueS (by simp) (szS_gen sV Vl.cnt l hl x h0 h1 h)
theorem szValue_c (v : Vl) : v.fit → ∀ x : Int, 0 ≤ x → x < 2 ^ 62 → Rv Try.prog 14 [.agg (sV.I v), .i .i64 x] (.i .i64 (left x v.cnt)) := by
  refine Vl.ind (p := fun v => v.fit → ∀ x : Int, 0 ≤ x → x < 2 ^ 62 → Rv Try.prog 14 [.agg (sV.I v), .i .i64 x] (.i .i64 (left x v.cnt))) ?_ v
  intro k n s l ih hf x h0 h1
  obtain ⟨_, _, hs, hl, hv⟩ := Vl.fit_mk.1 hf
  refine via_laws_szValue (by simp) ?_
  have hw := wsub h0 h1 hs
  rw [Vl.cnt_mk]
  by_cases hc : x - s.length < 0
  · simp [pc_laws_szValue, hw, hc]
    exact fin_val rfl (by simp [left_neg (show x - ((s.length + cl Vl.cnt l : Nat) : Int) < 0 by omega)]) (by simp)
  · simp [pc_laws_szValue, hw, hc]
    refine callK_val (by simp) (szValueS_of l hl (fun v hm => ih v hm (hv v hm)) (x - s.length) (by omega) (by omega)) rfl ?_
    by_cases h2 : x - s.length - cl Vl.cnt l < 0
    · simp [left_neg h2, hw]
      exact fin_val rfl (by simp [left_neg (show x - ((s.length + cl Vl.cnt l : Nat) : Int) < 0 by omega)]) (by simp)
    · simp [left_pos h2, h2, hw]
      exact fin_val rfl (by simp [left_pos (show ¬ x - ((s.length + cl Vl.cnt l : Nat) : Int) < 0 by omega)]; omega) (by simp)
theorem szProp_c (p : Pr) (hf : p.fit) (x : Int) (h0 : 0 ≤ x) (h1 : x < 2 ^ 62) : Rv Try.prog 193 [.agg (sP.I p), .i .i64 x] (.i .i64 (left x p.cnt)) := by
  obtain ⟨s, v⟩ := p
  obtain ⟨hs, hv⟩ := hf
  simp only [Pr.cnt] at hs hv ⊢
  refine via_laws_szProp (by simp) ?_
  have hw := wsub h0 h1 hs
  by_cases hc : x - s.length < 0
  · simp [pc_laws_szProp, hw, hc]
    exact fin_val rfl (by simp [left_neg (show x - ((s.length + v.cnt : Nat) : Int) < 0 by omega)]) (by simp)
  · simp [pc_laws_szProp, hw, hc]
    refine callK_val (by simp) (szValue_c v hv (x - s.length) (by omega) (by omega)) rfl ?_
    by_cases h2 : x - s.length - v.cnt < 0
    · simp [left_neg h2, hw]
      exact fin_val rfl (by simp [left_neg (show x - ((s.length + v.cnt : Nat) : Int) < 0 by omega)]) (by simp)
    · simp [left_pos h2, h2, hw]
      exact fin_val rfl (by simp [left_pos (show ¬ x - ((s.length + v.cnt : Nat) : Int) < 0 by omega)]; omega) (by simp)
theorem szPropS_c (l : List Pr) (hl : ln l) (h : ∀ v ∈ l, v.fit) (x : Int) (h0 : 0 ≤ x) (h1 : x < 2 ^ 62) : Rv Try.prog 184 [.imm (l.map sP.I), .i .i64 x] (.i .i64 (left x (cl Pr.cnt l))) :=
  via_laws_szPropS (by simp) (szS_gen sP Pr.cnt l hl x h0 h1 (fun v hv => szProp_c v (h v hv)))
theorem szStringS_c (l : List Tx) (hl : ln l) (h : ∀ v ∈ l, ln v) (x : Int) (h0 : 0 ≤ x) (h1 : x < 2 ^ 62) : Rv Try.prog 183 [.imm (l.map sS.I), .i .i64 x] (.i .i64 (left x (cl List.length l))) := by
  refine via_laws_szStringS (by simp) ?_
  unfold cl
  have hw := wsub h0 h1 hl
  by_cases hc : x - l.length < 0
  · simp [pc_laws_szStringS, hw, hc]
    exact fin_val rfl (by simp [left_neg (show x - ((l.length + sums List.length l : Nat) : Int) < 0 by omega)]) (by simp)
  · simp [pc_laws_szStringS, hw, hc]
    refine W_for (fun i => ⟨[(5, .i .i64 i), (1, .i .i64 (x - l.length - sums List.length (l.take i))), (0, .imm (l.map sS.I))], [], 0, 0⟩) l.length (fun i => 0 ≤ x - l.length - sums List.length (l.take i)) (Wk.less rfl (by simp) (by simp [sums]) (by simp)) (by simp [sums]; omega) ?_
    intro i hi hv
    rcases Nat.lt_or_ge i l.length with h2 | h2
    · obtain ⟨v, hx⟩ : ∃ v, l[i]? = some v := ⟨_, List.getElem?_eq_getElem h2⟩
      have hw2 : IntKind.i64.wrap ((i : Int) + 1) = (i : Int) + 1 := wrap1 (by omega)
      have hst := sums_take (c := List.length) hx
      have hle := sums_le (c := List.length) (l := l) (i + 1)
      have hw3 := wsub hv (by omega) (h v (List.mem_of_getElem? hx))
      by_cases h3 : x - l.length - sums List.length (l.take i) - v.length < 0
      · simp [-getElem?_pos, hx, hw2, h2, hw3, h3]
        exact fin_val rfl (by simp [left_neg (show x - ((l.length + sums List.length l : Nat) : Int) < 0 by omega)]) (by simp)
      · simp [-getElem?_pos, hx, hw2, h2, hw3, h3]
        exact ⟨by omega, Wk.to rfl (by simp) (by simp; omega) (by simp) (by simp)⟩
    · have h4 : ¬ i < l.length := by omega
      simp [h4]
      rw [List.take_of_length_le h2] at hv
      exact fin_val rfl (by simp [left_pos (show ¬ x - ((l.length + sums List.length l : Nat) : Int) < 0 by omega), List.take_of_length_le h2]; omega) (by simp)
theorem szNode_c (a : Nd) (hf : a.fit) (x : Int) (h0 : 0 ≤ x) (h1 : x < 2 ^ 62) : Rv Try.prog 151 [.agg (sN.I a), .i .i64 x] (.i .i64 (left x a.cnt)) := by
  obtain ⟨i, l, p⟩ := a
  obtain ⟨_, hl, hl', hp, hp'⟩ := hf
  simp only [Nd.cnt] at hl hl' hp hp' ⊢
  refine via_laws_szNode (by simp) ?_
  simp [pc_laws_szNode]
  refine callK_val (by simp) (szStringS_c l hl hl' x h0 h1) rfl ?_
  by_cases hc : x - cl List.length l < 0
  · simp [left_neg hc]
    exact fin_val rfl (by simp [left_neg (show x - ((cl List.length l + cl Pr.cnt p : Nat) : Int) < 0 by omega)]) (by simp)
  · simp [left_pos hc, hc]
    refine callK_val (by simp) (szPropS_c p hp hp' (x - cl List.length l) (by omega) (by omega)) rfl ?_
    by_cases h2 : x - cl List.length l - cl Pr.cnt p < 0
    · simp [left_neg h2]
      exact fin_val rfl (by simp [left_neg (show x - ((cl List.length l + cl Pr.cnt p : Nat) : Int) < 0 by omega)]) (by simp)
    · simp [left_pos h2, h2]
      exact fin_val rfl (by simp [left_pos (show ¬ x - ((cl List.length l + cl Pr.cnt p : Nat) : Int) < 0 by omega)]; omega) (by simp)
theorem szNodeS_c (l : List Nd) (hl : ln l) (h : ∀ v ∈ l, v.fit) (x : Int) (h0 : 0 ≤ x) (h1 : x < 2 ^ 62) : Rv Try.prog 90 [.imm (l.map sN.I), .i .i64 x] (.i .i64 (left x (cl Nd.cnt l))) :=
  via_laws_szNodeS (by simp) (szS_gen sN Nd.cnt l hl x h0 h1 (fun v hv => szNode_c v (h v hv)))
theorem szEdge_c (a : Eg) (hf : a.fit) (x : Int) (h0 : 0 ≤ x) (h1 : x < 2 ^ 62) : Rv Try.prog 152 [.agg (sE.I a), .i .i64 x] (.i .i64 (left x a.cnt)) := by
  obtain ⟨i, s, f, t, p⟩ := a
  obtain ⟨_, hs, _, _, hp, hp'⟩ := hf
  simp only [Eg.cnt] at hs hp hp' ⊢
  refine via_laws_szEdge (by simp) ?_
  have hw := wsub h0 h1 hs
  by_cases hc : x - s.length < 0
  · simp [pc_laws_szEdge, hw, hc]
    exact fin_val rfl (by simp [left_neg (show x - ((s.length + cl Pr.cnt p : Nat) : Int) < 0 by omega)]) (by simp)
  · simp [pc_laws_szEdge, hw, hc]
    refine callK_val (by simp) (szPropS_c p hp hp' (x - s.length) (by omega) (by omega)) rfl ?_
    by_cases h2 : x - s.length - cl Pr.cnt p < 0
    · simp [left_neg h2, hw]
      exact fin_val rfl (by simp [left_neg (show x - ((s.length + cl Pr.cnt p : Nat) : Int) < 0 by omega)]) (by simp)
    · simp [left_pos h2, h2, hw]
      exact fin_val rfl (by simp [left_pos (show ¬ x - ((s.length + cl Pr.cnt p : Nat) : Int) < 0 by omega)]; omega) (by simp)
theorem szEdgeS_c (l : List Eg) (hl : ln l) (h : ∀ v ∈ l, v.fit) (x : Int) (h0 : 0 ≤ x) (h1 : x < 2 ^ 62) : Rv Try.prog 91 [.imm (l.map sE.I), .i .i64 x] (.i .i64 (left x (cl Eg.cnt l))) :=
  via_laws_szEdgeS (by simp) (szS_gen sE Eg.cnt l hl x h0 h1 (fun v hv => szEdge_c v (h v hv)))
theorem szGraph_c (a : Gr) (hf : a.fit) (x : Int) (h0 : 0 ≤ x) (h1 : x < 2 ^ 62) : Rv Try.prog 39 [.agg (sG.I a), .i .i64 x] (.i .i64 (left x a.cnt)) := by
  obtain ⟨l, p, i, j⟩ := a
  obtain ⟨hl, hl', hp, hp', _, _⟩ := hf
  simp only [Gr.cnt] at hl hl' hp hp' ⊢
  refine via_laws_szGraph (by simp) ?_
  simp [pc_laws_szGraph]
  refine callK_val (by simp) (szNodeS_c l hl hl' x h0 h1) rfl ?_
  by_cases hc : x - cl Nd.cnt l < 0
  · simp [left_neg hc]
    exact fin_val rfl (by simp [left_neg (show x - ((cl Nd.cnt l + cl Eg.cnt p : Nat) : Int) < 0 by omega)]) (by simp)
  · simp [left_pos hc, hc]
    refine callK_val (by simp) (szEdgeS_c p hp hp' (x - cl Nd.cnt l) (by omega) (by omega)) rfl ?_
    by_cases h2 : x - cl Nd.cnt l - cl Eg.cnt p < 0
    · simp [left_neg h2]
      exact fin_val rfl (by simp [left_neg (show x - ((cl Nd.cnt l + cl Eg.cnt p : Nat) : Int) < 0 by omega)]) (by simp)
    · simp [left_pos h2, h2]
      exact fin_val rfl (by simp [left_pos (show ¬ x - ((cl Nd.cnt l + cl Eg.cnt p : Nat) : Int) < 0 by omega)]; omega) (by simp)
/-! ### equal data -/
theorem eqValue_c (v : Vl) : v.cnt ≤ 2 ^ 22 → Rv Try.prog 18 [.agg (sV.I v), .agg (sV.I v)] (.b true) := by
  refine Vl.ind (p := fun v => v.cnt ≤ 2 ^ 22 → Rv Try.prog 18 [.agg (sV.I v), .agg (sV.I v)] (.b true)) ?_ v
  intro k n s l ih hc
  rw [Vl.cnt_mk] at hc
  unfold cl at hc
  refine via_laws_eqValue (by simp) ?_
  simp [pc_laws_eqValue]
  refine callK_val (by simp) (r := .b true) (via_laws_eqValueS (by simp) (eqS_gen sV l (by omega) (fun v hv => ih v hv (by have := sums_mem (c := Vl.cnt) hv; omega)))) rfl ?_
  simp
  exact fin_val rfl (by simp) (by simp)
theorem eqProp_c (p : Pr) (hc : p.cnt ≤ 2 ^ 22) : Rv Try.prog 196 [.agg (sP.I p), .agg (sP.I p)] (.b true) := by
  obtain ⟨s, v⟩ := p
  simp only [Pr.cnt] at hc
  refine via_laws_eqProp (by simp) ?_
  simp [pc_laws_eqProp]
  refine callK_val (by simp) (eqValue_c v (by omega)) rfl ?_
  simp
  exact fin_val rfl (by simp) (by simp)
theorem eqPropS_c (l : List Pr) (hc : cl Pr.cnt l ≤ 2 ^ 22) : Rv Try.prog 189 [.imm (l.map sP.I), .imm (l.map sP.I)] (.b true) := by
  unfold cl at hc
  exact via_laws_eqPropS (by simp) (eqS_gen sP l (by omega) (fun v hv => eqProp_c v (by have := sums_mem (c := Pr.cnt) hv; omega)))
theorem eqStringS_c (l : List Tx) (hc : cl List.length l ≤ 2 ^ 22) : Rv Try.prog 188 [.imm (l.map sS.I), .imm (l.map sS.I)] (.b true) := by
  unfold cl at hc
  refine via_laws_eqStringS (by simp) ?_
  simp [pc_laws_eqStringS]
  refine W_for (fun i => ⟨[(5, .i .i64 i), (0, .imm (l.map sS.I)), (1, .imm (l.map sS.I))], [], 0, 0⟩) l.length (fun i => True) (Wk.less rfl (by simp) (by simp) (by simp)) trivial ?_
  intro i hi _
  rcases Nat.lt_or_ge i l.length with h1 | h1
  · obtain ⟨x, hx⟩ : ∃ x, l[i]? = some x := ⟨_, List.getElem?_eq_getElem h1⟩
    have hw : IntKind.i64.wrap ((i : Int) + 1) = (i : Int) + 1 := wrap1 (by omega)
    simp [-getElem?_pos, hx, hw, h1]
    exact Wk.to rfl (by simp) (by simp) (by simp) (by simp)
  · have h2 : ¬ i < l.length := by omega
    simp [h2]
    exact fin_val rfl (by simp) (by simp)
theorem eqNode_c (a : Nd) (hc : a.cnt ≤ 2 ^ 22) : Rv Try.prog 161 [.agg (sN.I a), .agg (sN.I a)] (.b true) := by
  obtain ⟨i, l, p⟩ := a
  simp only [Nd.cnt] at hc
  refine via_laws_eqNode (by simp) ?_
  simp [pc_laws_eqNode]
  refine callK_val (by simp) (eqStringS_c l (by omega)) rfl ?_
  simp
  refine callK_val (by simp) (eqPropS_c p (by omega)) rfl ?_
  simp
  exact fin_val rfl (by simp) (by simp)
theorem eqNodeS_c (l : List Nd) (hc : cl Nd.cnt l ≤ 2 ^ 22) : Rv Try.prog 101 [.imm (l.map sN.I), .imm (l.map sN.I)] (.b true) := by
  unfold cl at hc
  exact via_laws_eqNodeS (by simp) (eqS_gen sN l (by omega) (fun v hv => eqNode_c v (by have := sums_mem (c := Nd.cnt) hv; omega)))
theorem eqEdge_c (a : Eg) (hc : a.cnt ≤ 2 ^ 22) : Rv Try.prog 162 [.agg (sE.I a), .agg (sE.I a)] (.b true) := by
  obtain ⟨i, k, f, t, p⟩ := a
  simp only [Eg.cnt] at hc
  refine via_laws_eqEdge (by simp) ?_
  simp [pc_laws_eqEdge]
  refine callK_val (by simp) (eqPropS_c p (by omega)) rfl ?_
  simp
  exact fin_val rfl (by simp) (by simp)
theorem eqEdgeS_c (l : List Eg) (hc : cl Eg.cnt l ≤ 2 ^ 22) : Rv Try.prog 102 [.imm (l.map sE.I), .imm (l.map sE.I)] (.b true) := by
  unfold cl at hc
  exact via_laws_eqEdgeS (by simp) (eqS_gen sE l (by omega) (fun v hv => eqEdge_c v (by have := sums_mem (c := Eg.cnt) hv; omega)))
theorem eqGraph_c (a : Gr) (hc : a.cnt ≤ 2 ^ 22) : Rv Try.prog 43 [.agg (sG.I a), .agg (sG.I a)] (.b true) := by
  obtain ⟨l, p, i, j⟩ := a
  simp only [Gr.cnt] at hc
  refine via_laws_eqGraph (by simp) ?_
  simp [pc_laws_eqGraph]
  refine callK_val (by simp) (eqNodeS_c l (by omega)) rfl ?_
  simp
  refine callK_val (by simp) (eqEdgeS_c p (by omega)) rfl ?_
  simp
  exact fin_val rfl (by simp) (by simp)
end Go.Proofs.Ytehdfbhfbidadaa.V
/- Copies of what came in. -/
namespace Go.Proofs.Ytehdfbhfbidadaa.V
open Go
set_option linter.unusedVariables false
set_option linter.unusedSimpArgs false
set_option maxHeartbeats 2000000
theorem toValueS_of (l : List Vl) (hl : l.length ≤ 2 ^ 20) (h : ∀ v ∈ l, Rv Try.prog 16 [.agg (sV.I v)] (.agg (sV.O v))) : Rv Try.prog 58 [.imm (l.map sV.I)] (.own 4 (l.map sV.O)) :=
  via_laws_toValueS (by simp) (toS_gen sV (by rfl) (by rfl) (by omega) l hl h)
theorem toValue_c (v : Vl) : v.cnt ≤ 2 ^ 20 → Rv Try.prog 16 [.agg (sV.I v)] (.agg (sV.O v)) := by
  refine Vl.ind (p := fun v => v.cnt ≤ 2 ^ 20 → Rv Try.prog 16 [.agg (sV.I v)] (.agg (sV.O v))) ?_ v
  intro k n s l ih hc
  rw [Vl.cnt_mk] at hc
  unfold cl at hc
  refine via_laws_toValue (by simp) ?_
  simp [pc_laws_toValue]
  refine callK_val (by simp) (toValueS_of l (by omega) (fun v hv => ih v hv (by have := sums_mem (c := Vl.cnt) hv; omega))) (by simp [T.noImm]) ?_
  simp
  exact fin_own (by simp; rfl) (by simp) (by simp) (by simp)
theorem toProp_c (p : Pr) (hc : p.cnt ≤ 2 ^ 20) : Rv Try.prog 194 [.agg (sP.I p)] (.agg (sP.O p)) := by
  obtain ⟨s, v⟩ := p
  simp only [Pr.cnt] at hc
  refine via_laws_toProp (by simp) ?_
  simp [pc_laws_toProp]
  refine callK_val (by simp) (toValue_c v (by omega)) (by simp [T.noImm]) ?_
  obtain ⟨k, n, s', l⟩ := v
  simp
  exact fin_own (by simp; rfl) (by simp) (by simp) (by simp)
theorem toPropS_c (l : List Pr) (hc : cl Pr.cnt l ≤ 2 ^ 20) : Rv Try.prog 186 [.imm (l.map sP.I)] (.own 5 (l.map sP.O)) := by
  unfold cl at hc
  exact via_laws_toPropS (by simp) (toS_gen sP (by rfl) (by rfl) (by omega) l (by omega) (fun v hv => toProp_c v (by have := sums_mem (c := Pr.cnt) hv; omega)))
theorem toStringS_c (l : List Tx) (hl : cl List.length l ≤ 2 ^ 20) : Rv Try.prog 185 [.imm (l.map sS.I)] (.own 1 (l.map sS.O)) := by
  unfold cl at hl
  refine via_laws_toStringS (by simp) ?_
  have hb1 : (l.length : Int) * 16 ≤ 35184372088832 := by omega
  have hb2 : (l.length : Int) ≤ 35184372088832 := by omega
  simp [pc_laws_toStringS, hb1, hb2]
  refine W_for (fun i => ⟨[(4, .i .i64 i), (3, .ref 0 0 l.length), (0, .imm (l.map sS.I))], [(0, .arr 1 ((l.map sS.O).take i ++ List.replicate (l.length - i) [.s []]))], 1, 0⟩) l.length (fun i => True) (Wk.less rfl (by simp) (by simp) (by simp)) trivial ?_
  intro i hi _
  rcases Nat.lt_or_ge i l.length with h2 | h2
  · obtain ⟨v, hx⟩ : ∃ v, l[i]? = some v := ⟨_, List.getElem?_eq_getElem h2⟩
    have hw2 : IntKind.i64.wrap ((i : Int) + 1) = (i : Int) + 1 := wrap1 (by omega)
    have hrow := fill_row sS.O l (z := [.s []]) h2
    have hset := fill_set sS.O l (z := [.s []]) h2
    have hnew := fill_new sS.O hx
    simp [-getElem?_pos, hx, hw2, h2, hrow, hset]
    refine Wk.to1 rfl (by simp) (by simp) (by simp [hnew]) ?_ (by omega)
    exact fill_clean sS (by rfl) _ _
  · have h4 : ¬ i < l.length := by omega
    have h5 : l.length - i = 0 := by omega
    simp [h4]
    have e : (l.map sS.O).take i = l.map sS.O := List.take_of_length_le (by simp; omega)
    have e2 : (l.map sS.O).take l.length = l.map sS.O := List.take_of_length_le (by simp)
    exact fin_own (by simp; rfl) (by simp [e, e2, h5]) (by simp) (by simp)
theorem toNode_c (a : Nd) (hc : a.cnt ≤ 2 ^ 20) : Rv Try.prog 154 [.agg (sN.I a)] (.agg (sN.O a)) := by
  obtain ⟨i, l, p⟩ := a
  simp only [Nd.cnt] at hc
  refine via_laws_toNode (by simp) ?_
  simp [pc_laws_toNode]
  refine callK_val (by simp) (toStringS_c l (by omega)) (by simp [T.noImm]) ?_
  simp
  refine callK_val (by simp) (toPropS_c p (by omega)) (by simp [T.noImm]) ?_
  simp
  exact fin_own (by simp; rfl) (by simp) (by simp) (by simp)
theorem toNodeS_c (l : List Nd) (hc : cl Nd.cnt l ≤ 2 ^ 20) : Rv Try.prog 94 [.imm (l.map sN.I)] (.own 3 (l.map sN.O)) := by
  unfold cl at hc
  exact via_laws_toNodeS (by simp) (toS_gen sN (by rfl) (by rfl) (by omega) l (by omega) (fun v hv => toNode_c v (by have := sums_mem (c := Nd.cnt) hv; omega)))
theorem toEdge_c (a : Eg) (hc : a.cnt ≤ 2 ^ 20) : Rv Try.prog 155 [.agg (sE.I a)] (.agg (sE.O a)) := by
  obtain ⟨i, k, f, t, p⟩ := a
  simp only [Eg.cnt] at hc
  refine via_laws_toEdge (by simp) ?_
  simp [pc_laws_toEdge]
  refine callK_val (by simp) (toPropS_c p (by omega)) (by simp [T.noImm]) ?_
  simp
  exact fin_own (by simp; rfl) (by simp) (by simp) (by simp)
theorem toEdgeS_c (l : List Eg) (hc : cl Eg.cnt l ≤ 2 ^ 20) : Rv Try.prog 95 [.imm (l.map sE.I)] (.own 5 (l.map sE.O)) := by
  unfold cl at hc
  exact via_laws_toEdgeS (by simp) (toS_gen sE (by rfl) (by rfl) (by omega) l (by omega) (fun v hv => toEdge_c v (by have := sums_mem (c := Eg.cnt) hv; omega)))
theorem toGraph_c (a : Gr) (hc : a.cnt ≤ 2 ^ 20) : Rv Try.prog 41 [.agg (sG.I a)] (.agg (sG.O a)) := by
  obtain ⟨l, p, i, j⟩ := a
  simp only [Gr.cnt] at hc
  refine via_laws_toGraph (by simp) ?_
  simp [pc_laws_toGraph]
  refine callK_val (by simp) (toNodeS_c l (by omega)) (by simp [T.noImm]) ?_
  simp
  refine callK_val (by simp) (toEdgeS_c p (by omega)) (by simp [T.noImm]) ?_
  simp
  exact fin_own (by simp; rfl) (by simp) (by simp) (by simp)
end Go.Proofs.Ytehdfbhfbidadaa.V
/- Marks: what they write, and that it is held. -/
namespace Go.Proofs.Ytehdfbhfbidadaa.V
open Go
set_option linter.unusedVariables false
set_option linter.unusedSimpArgs false
set_option maxHeartbeats 4000000
/-! ### texts of numbers -/
def dg (n : Nat) : Tx := if h : n = 0 then [] else dg (n / 10) ++ [UInt8.ofNat (48 + n % 10)]
termination_by n
decreasing_by omega
def mt (k : Int) : Tx := 109 :: (if k ≤ 0 then [48] else dg k.toNat)
theorem dg_step {n : Nat} (h : n ≠ 0) : dg n = dg (n / 10) ++ [UInt8.ofNat (48 + n % 10)] := by
  rw [dg]; simp [h]
theorem markText_c (k : Int) (h : k < 2 ^ 60) : Rv Try.prog 124 [.i .i64 k] (.s (mt k)) := by
  refine via_laws_markText (by simp) ?_
  by_cases h0 : k ≤ 0
  · simp [pc_laws_markText, h0]
    exact fin_val rfl (by simp [mt, h0]) (by simp)
  · simp [pc_laws_markText, h0]
    obtain ⟨n, rfl⟩ : ∃ n : Nat, k = n := ⟨k.toNat, by omega⟩
    refine W_wk (s' := ⟨[(0, .i .i64 n), (3, .s [])], [], 0, 0⟩) (Wk.less rfl (by simp) (by simp) (by simp)) ?_
    refine W_while (m := n) (fun m s => ∃ out : Tx, dg n = dg m ++ out ∧ out.length + m ≤ n ∧ s = ⟨[(0, .i .i64 m), (3, .s out)], [], 0, 0⟩) ⟨[], by simp, by simp, rfl⟩ ?_
    rintro m s ⟨out, h1, h2, rfl⟩
    by_cases hm : m = 0
    · subst hm
      have e0 : dg 0 = [] := by rw [dg]; simp
      have hl : 1 + out.length ≤ 9223372036854775807 := by omega
      simp [hl]
      have hn : ¬ (n : Int) ≤ 0 := by omega
      have hn2 : ¬ n = 0 := by omega
      exact fin_val rfl (by simp [mt, hn2, h1, e0]) (by simp)
    · have hm' : 0 < m := by omega
      have hc : IntKind.u8.wrap (IntKind.i64.wrap (48 + (m : Int).tmod 10)) = ((UInt8.ofNat (48 + m % 10)).toNat : Int) := by
        have e1 : (m : Int).tmod 10 = ((m % 10 : Nat) : Int) := by rw [Int.tmod_eq_emod_of_nonneg (by omega)]; omega
        rw [e1, wrap64 (by omega) (by omega)]
        unfold IntKind.wrap
        simp [IntKind.bits, IntKind.signed] <;> omega
      have hq : IntKind.i64.wrap ((m : Int) / 10) = ((m / 10 : Nat) : Int) := by
        rw [wrap64 (by omega) (by omega)]; omega
      have hl : 1 + out.length ≤ 9223372036854775807 := by omega
      simp [hm', hc, hq, need_mk]
      refine ⟨[UInt8.ofNat (48 + m % 10)], by simp, ?_⟩
      simp [hl]
      refine ⟨_, Wk.to (s' := ⟨[(0, .i .i64 ((m / 10 : Nat) : Int)), (3, .s (UInt8.ofNat (48 + m % 10) :: out))], [], 0, 0⟩) rfl (by simp) (by simp) (by simp) (by simp), m / 10, by omega, UInt8.ofNat (48 + m % 10) :: out, ?_, by simp; omega, rfl⟩
      rw [h1, dg_step hm]; simp
/-! ### element by element -/
section
variable {α : Type} (m : Int → α → α × Int)
def mkL : Int → List α → List α × Int
  | k, [] => ([], k)
  | k, a :: l => ((m k a).1 :: (mkL (m k a).2 l).1, (mkL (m k a).2 l).2)
theorem mkL_append : ∀ (l l' : List α) (k : Int), mkL m k (l ++ l') = ((mkL m k l).1 ++ (mkL m (mkL m k l).2 l').1, (mkL m (mkL m k l).2 l').2)
  | [], l', k => by simp [mkL]
  | a :: l, l', k => by simp [mkL, mkL_append l l']
theorem mkL_len : ∀ (l : List α) (k : Int), (mkL m k l).1.length = l.length
  | [], k => rfl
  | a :: l, k => by simp [mkL, mkL_len l]
/-- The number ahead of an element. -/
def kAt (k : Int) (l : List α) (i : Nat) : Int := (mkL m k (l.take i)).2
/-- The elements ahead, marked. -/
def pAt (k : Int) (l : List α) (i : Nat) : List α := (mkL m k (l.take i)).1
theorem pAt_len {k : Int} {l : List α} {i : Nat} (h : i ≤ l.length) : (pAt m k l i).length = i := by
  unfold pAt; rw [mkL_len]; simp; omega
variable {m}
theorem kAt_succ {k : Int} {l : List α} {i : Nat} {x : α} (h : l[i]? = some x) : kAt m k l (i + 1) = (m (kAt m k l i) x).2 := by
  unfold kAt; rw [List.take_add_one, h, mkL_append]; simp [mkL]
theorem pAt_succ {k : Int} {l : List α} {i : Nat} {x : α} (h : l[i]? = some x) : pAt m k l (i + 1) = pAt m k l i ++ [(m (kAt m k l i) x).1] := by
  unfold pAt kAt; rw [List.take_add_one, h, mkL_append]; simp [mkL]
theorem mkL_get {k : Int} {l : List α} {i : Nat} {x : α} (h : l[i]? = some x) : (mkL m k l).1[i]? = some (m (kAt m k l i) x).1 := by
  have hi : i < l.length := (List.getElem?_eq_some_iff.1 h).1
  have e : l = l.take (i + 1) ++ l.drop (i + 1) := (List.take_append_drop _ _).symm
  have h2 : (mkL m k l).1 = pAt m k l (i + 1) ++ (mkL m (kAt m k l (i + 1)) (l.drop (i + 1))).1 := by
    conv => lhs; rw [e]
    rw [mkL_append]; rfl
  rw [h2, pAt_succ h, List.append_assoc, List.getElem?_append_right (by rw [pAt_len m (by omega)]; exact Nat.le_refl _), pAt_len m (by omega)]
  simp
theorem drop_eq {l : List α} {i : Nat} {x : α} (h : l[i]? = some x) : l.drop i = x :: l.drop (i + 1) := by
  have hi := (List.getElem?_eq_some_iff.1 h)
  obtain ⟨h1, h2⟩ := hi
  rw [List.drop_eq_getElem_cons h1, h2]
theorem kAt_all {k : Int} {l : List α} {i : Nat} (h : l.length ≤ i) : kAt m k l i = (mkL m k l).2 := by unfold kAt; rw [List.take_of_length_le h]
theorem pAt_all {k : Int} {l : List α} {i : Nat} (h : l.length ≤ i) : pAt m k l i = (mkL m k l).1 := by unfold pAt; rw [List.take_of_length_le h]
/-- How far marks go. -/
def Far (m : Int → α → α × Int) (c : α → Nat) : Prop := ∀ k a, k ≤ (m k a).2 ∧ (m k a).2 ≤ k + 8 * (1 + c a)
theorem Far.list {c : α → Nat} {l : List α} (h : ∀ a ∈ l, ∀ k, k ≤ (m k a).2 ∧ (m k a).2 ≤ k + 8 * (1 + c a)) (k : Int) : k ≤ (mkL m k l).2 ∧ (mkL m k l).2 ≤ k + 8 * cl c l := by
  unfold cl
  induction l generalizing k with
  | nil => simp [mkL, sums]
  | cons a l ih =>
    have h1 := h a (by simp) k
    have h2 := ih (fun a ha => h a (by simp [ha])) (m k a).2
    simp only [mkL, List.length_cons, sums, List.map_cons, List.sum_cons] at h2 ⊢
    omega
theorem cl_split {c : α → Nat} {l : List α} {i : Nat} {x : α} (h : l[i]? = some x) : cl c (l.take i) + (1 + c x) ≤ cl c l := by
  have hi : i < l.length := (List.getElem?_eq_some_iff.1 h).1
  have h1 := sums_take (c := c) h
  have h2 := sums_le (c := c) (l := l) (i + 1)
  unfold cl
  simp only [List.length_take]
  omega
theorem Far.at {c : α → Nat} {l : List α} (h : ∀ a ∈ l, ∀ k, k ≤ (m k a).2 ∧ (m k a).2 ≤ k + 8 * (1 + c a)) {k : Int} {i : Nat} {x : α} (hx : l[i]? = some x) : k ≤ kAt m k l i ∧ kAt m k l i + 8 * (1 + c x) ≤ k + 8 * cl c l := by
  have h1 := Far.list (m := m) (c := c) (l := l.take i) (fun a ha => h a (List.mem_of_mem_take ha)) k
  have h2 := cl_split (c := c) hx
  unfold kAt
  omega
end
/-! ### texts -/
def mkStr (k : Int) (_ : Tx) : Tx × Int := (mt k, k + 1)
theorem far_str : ∀ (l : List Tx), ∀ a ∈ l, ∀ k, k ≤ (mkStr k a).2 ∧ (mkStr k a).2 ≤ k + 8 * (1 + List.length a) := by
  intro l a _ k; simp only [mkStr]; omega
theorem markStringS_c (l : List Tx) (k : Int) (h0 : 0 ≤ k) (h : k + 8 * cl List.length l ≤ 2 ^ 50) : Ret Try.prog 163 [.own 1 (l.map sS.O), .i .i64 k] (.i .i64 (mkL mkStr k l).2) [.own 1 ((mkL mkStr k l).1.map sS.O), .dead] := by
  have hll : l.length ≤ cl List.length l := by unfold cl; omega
  refine via_laws_markStringS (by simp) ?_
  simp [pc_laws_markStringS]
  refine W_for (fun i => ⟨[(5, .i .i64 i), (1, .i .i64 (kAt mkStr k l i)), (0, .ref 0 0 l.length)], [(0, .arr 1 ((pAt mkStr k l i ++ l.drop i).map sS.O))], 1, 1⟩) l.length (fun i => True) (Wk.less rfl (by simp) (by simp [kAt, mkL]) (by simp [pAt, mkL])) trivial ?_
  intro i hi _
  rcases Nat.lt_or_ge i l.length with h1 | h1
  · obtain ⟨x, hx⟩ : ∃ x, l[i]? = some x := ⟨_, List.getElem?_eq_getElem h1⟩
    have hw : IntKind.i64.wrap ((i : Int) + 1) = (i : Int) + 1 := wrap1 (by omega)
    have hf := Far.at (far_str l) hx (k := k)
    have hk1 := kAt_succ (m := mkStr) (k := k) hx
    have hp1 := pAt_succ (m := mkStr) (k := k) hx
    have hpl := pAt_len mkStr (k := k) hi
    generalize kAt mkStr k l i = q at *
    generalize hP : pAt mkStr k l i = p at *
    have hw2 : IntKind.i64.wrap (q + 1) = q + 1 := wrap64 (by omega) (by omega)
    rw [drop_eq hx]
    have hg : ((p.map sS.O) ++ [.s x] :: (l.drop (i + 1)).map sS.O)[i]? = some [.s x] := by rw [List.getElem?_append_right (by simp; omega)]; simp [hpl]
    have hs : ∀ r, ((p.map sS.O) ++ [.s x] :: (l.drop (i + 1)).map sS.O).set i r = (p.map sS.O) ++ r :: (l.drop (i + 1)).map sS.O := fun r => by rw [List.set_append_right _ _ (by simp; omega)]; simp [hpl]
    simp [-List.map_drop, -getElem?_pos, hx, hw, h1]
    refine callK_val (by simp) (markText_c q (by omega)) rfl ?_
    simp [-List.map_drop, -getElem?_pos, hx, hw, h1, hw2, hg, hs]
    refine Wk.to1 rfl (by simp) (by simp [hk1, mkStr]) (by simp [hp1, mkStr]) (by simp [-List.map_drop]) (by omega)
  · have h2 : ¬ i < l.length := by omega
    simp [h2]
    have e : List.drop i (l.map sS.O) = [] := List.drop_of_length_le (by simp; omega)
    refine fin_ret (ts := []) rfl (by simp [kAt_all h1]) (by simp [pAt_all h1, e, mkL_len]) (by simp)
theorem heldStringS_c (l : List Tx) (k : Int) (h0 : 0 ≤ k) (h : k + 8 * cl List.length l ≤ 2 ^ 50) : Rv Try.prog 165 [.imm ((mkL mkStr k l).1.map sS.I), .i .i64 k] (.i .i64 (mkL mkStr k l).2) := by
  have hll : l.length ≤ cl List.length l := by unfold cl; omega
  refine via_laws_heldStringS (by simp) ?_
  simp [pc_laws_heldStringS]
  have hml := mkL_len (m := mkStr) l k
  refine W_for (fun i => ⟨[(5, .i .i64 i), (1, .i .i64 (kAt mkStr k l i)), (0, .imm ((mkL mkStr k l).1.map sS.I))], [], 0, 0⟩) l.length (fun i => True) (Wk.less rfl (by simp) (by simp [kAt, mkL]) (by simp)) trivial ?_
  intro i hi _
  rcases Nat.lt_or_ge i l.length with h1 | h1
  · obtain ⟨x, hx⟩ : ∃ x, l[i]? = some x := ⟨_, List.getElem?_eq_getElem h1⟩
    have hw : IntKind.i64.wrap ((i : Int) + 1) = (i : Int) + 1 := wrap1 (by omega)
    have hf := Far.at (far_str l) hx (k := k)
    have hk1 := kAt_succ (m := mkStr) (k := k) hx
    have hg := mkL_get (m := mkStr) (k := k) hx
    generalize kAt mkStr k l i = q at *
    have hw2 : IntKind.i64.wrap (q + 1) = q + 1 := wrap64 (by omega) (by omega)
    simp [-getElem?_pos, hml, hw, h1, hg, mkStr]
    refine callK_val (by simp) (markText_c q (by omega)) rfl ?_
    simp [-getElem?_pos, hml, hw, h1, hw2, hg, mkStr]
    exact Wk.to rfl (by simp) (by simp [hk1, mkStr]) (by simp) (by simp)
  · have h2 : ¬ i < l.length := by omega
    simp [h2, hml]
    exact fin_val rfl (by simp [kAt_all h1]) (by simp)
/-! ### values -/
mutual
def mkV (k : Int) : Vl → Vl × Int
  | .mk _ _ _ l => (.mk k (k + 1) (mt (k + 2)) (mkVs (k + 3) l).1, (mkVs (k + 3) l).2)
def mkVs (k : Int) : List Vl → List Vl × Int
  | [] => ([], k)
  | v :: l => ((mkV k v).1 :: (mkVs (mkV k v).2 l).1, (mkVs (mkV k v).2 l).2)
end
theorem mkVs_eq : ∀ (l : List Vl) (k : Int), mkVs k l = mkL mkV k l
  | [], k => by simp [mkVs, mkL]
  | v :: l, k => by simp [mkVs, mkL, mkVs_eq l]
theorem mkV_mk (k a b : Int) (s : Tx) (l : List Vl) : mkV k (.mk a b s l) = (.mk k (k + 1) (mt (k + 2)) (mkL mkV (k + 3) l).1, (mkL mkV (k + 3) l).2) := by rw [mkV, mkVs_eq]
theorem far_val (v : Vl) : ∀ k, k ≤ (mkV k v).2 ∧ (mkV k v).2 ≤ k + 8 * (1 + v.cnt) := by
  refine Vl.ind (p := fun v => ∀ k, k ≤ (mkV k v).2 ∧ (mkV k v).2 ≤ k + 8 * (1 + v.cnt)) ?_ v
  intro a b s l ih k
  rw [mkV_mk, Vl.cnt_mk]
  have := Far.list (m := mkV) (c := Vl.cnt) ih (k + 3)
  simp only
  omega
theorem markValueS_of (l : List Vl) (ih : ∀ v ∈ l, ∀ k : Int, 0 ≤ k → k + 8 * cl Vl.cnt v.l ≤ 2 ^ 50 → Ret Try.prog 61 [.own 4 (v.l.map sV.O), .i .i64 k] (.i .i64 (mkL mkV k v.l).2) [.own 4 ((mkL mkV k v.l).1.map sV.O), .dead])
    (k : Int) (h0 : 0 ≤ k) (h : k + 8 * cl Vl.cnt l ≤ 2 ^ 50) : Ret Try.prog 61 [.own 4 (l.map sV.O), .i .i64 k] (.i .i64 (mkL mkV k l).2) [.own 4 ((mkL mkV k l).1.map sV.O), .dead] := by
  have hll : l.length ≤ cl Vl.cnt l := by unfold cl; omega
  refine via_laws_markValueS (by simp) ?_
  simp [pc_laws_markValueS]
  refine W_for (fun i => ⟨[(5, .i .i64 i), (1, .i .i64 (kAt mkV k l i)), (0, .ref 0 0 l.length)], [(0, .arr 4 ((pAt mkV k l i).map sV.O ++ (l.map sV.O).drop i))], 1, 1⟩) l.length (fun i => True) (Wk.less rfl (by simp) (by simp [kAt, mkL]) (by simp [pAt, mkL])) trivial ?_
  intro i hi _
  rcases Nat.lt_or_ge i l.length with h1 | h1
  · obtain ⟨x, hx⟩ : ∃ x, l[i]? = some x := ⟨_, List.getElem?_eq_getElem h1⟩
    have ihx := ih x (List.mem_of_getElem? hx)
    have hw : IntKind.i64.wrap ((i : Int) + 1) = (i : Int) + 1 := wrap1 (by omega)
    have hf := Far.at (c := Vl.cnt) (fun v _ => far_val v) hx (k := k)
    have hk1 := kAt_succ (m := mkV) (k := k) hx
    have hp1 := pAt_succ (m := mkV) (k := k) hx
    have hpl := pAt_len mkV (k := k) hi
    generalize kAt mkV k l i = q at *
    generalize hP : pAt mkV k l i = p at *
    have hw1 : IntKind.i64.wrap (q + 1) = q + 1 := wrap64 (by omega) (by omega)
    have hw2 : IntKind.i64.wrap (q + 1 + 1) = q + 2 := by rw [wrap64 (by omega) (by omega)]; omega
    have hw3 : IntKind.i64.wrap (q + 2 + 1) = q + 3 := by rw [wrap64 (by omega) (by omega)]; omega
    rw [drop_eq (l := l.map sV.O) (x := sV.O x) (by simp [hx])]
    have hg : ∀ r, ((p.map sV.O) ++ r :: (l.map sV.O).drop (i + 1))[i]? = some r := fun r => by rw [List.getElem?_append_right (by simp; omega)]; simp [hpl]
    have hs : ∀ r r', ((p.map sV.O) ++ r :: (l.map sV.O).drop (i + 1)).set i r' = (p.map sV.O) ++ r' :: (l.map sV.O).drop (i + 1) := fun r r' => by rw [List.set_append_right _ _ (by simp; omega)]; simp [hpl]
    obtain ⟨a, b, s, l'⟩ := x
    rw [Vl.cnt_mk] at hf
    rw [mkV_mk] at hk1 hp1
    generalize hB : (l.map sV.O).drop (i + 1) = B at *
    simp [-getElem?_pos, hw, h1, hg, hs, hw1, hw2, hw3]
    refine callK_val (by simp) (markText_c (q + 2) (by omega)) rfl ?_
    simp [-getElem?_pos, hw, h1, hg, hs, hw1, hw2, hw3]
    have hml := mkL_len (m := mkV) l' (q + 3)
    refine callK_mut (by simp) (ihx (q + 3) (by omega) (by simp only [Vl.l]; omega)) (bk := [(4, .arr 4 ((mkL mkV (q + 3) l').1.map sV.O))]) (by simp [hml]) (by simp) (by simp) rfl (by simp [T.noImm]) ?_
    simp [-getElem?_pos, hw, h1, hg, hs, hw1, hw2, hw3]
    refine Wk.trans (Wk.join (b := 0) (r := i) (row := [.i .i64 q, .i .i64 (q + 1), .s (mt (q + 2)), .ref 4 0 l'.length]) (cs := sV.O (.mk q (q + 1) (mt (q + 2)) (mkL mkV (q + 3) l').1)) rfl (by simp [hg]) (by simp [hml, take_map_eq hml]) (by simp)) ?_
    refine Wk.to1 rfl (by simp) (by simp [hk1]) (by simp [hs, hp1]) ?_ (by omega)
    have := Sh.crO sV (l.drop (i + 1))
    rw [List.map_drop, hB] at this
    simp [this]
  · have h2 : ¬ i < l.length := by omega
    have e : List.drop i (l.map sV.O) = [] := List.drop_of_length_le (by simp; omega)
    simp [h2, e]
    refine fin_ret (ts := []) rfl (by simp [kAt_all h1]) (by simp [pAt_all h1, e, mkL_len]) (by simp)
theorem markValueS_c (l : List Vl) (k : Int) (h0 : 0 ≤ k) (h : k + 8 * cl Vl.cnt l ≤ 2 ^ 50) : Ret Try.prog 61 [.own 4 (l.map sV.O), .i .i64 k] (.i .i64 (mkL mkV k l).2) [.own 4 ((mkL mkV k l).1.map sV.O), .dead] := by
  have key : ∀ v : Vl, ∀ k : Int, 0 ≤ k → k + 8 * cl Vl.cnt v.l ≤ 2 ^ 50 → Ret Try.prog 61 [.own 4 (v.l.map sV.O), .i .i64 k] (.i .i64 (mkL mkV k v.l).2) [.own 4 ((mkL mkV k v.l).1.map sV.O), .dead] := by
    intro v
    refine Vl.ind (p := fun v => ∀ k : Int, 0 ≤ k → k + 8 * cl Vl.cnt v.l ≤ 2 ^ 50 → Ret Try.prog 61 [.own 4 (v.l.map sV.O), .i .i64 k] (.i .i64 (mkL mkV k v.l).2) [.own 4 ((mkL mkV k v.l).1.map sV.O), .dead]) ?_ v
    intro a b s l ih k h0 h
    exact markValueS_of l ih k h0 h
  exact key (.mk 0 0 [] l) k h0 h
theorem heldValueS_of (l : List Vl) (ih : ∀ v ∈ l, ∀ k : Int, 0 ≤ k → k + 8 * cl Vl.cnt v.l ≤ 2 ^ 50 → Rv Try.prog 62 [.imm ((mkL mkV k v.l).1.map sV.I), .i .i64 k] (.i .i64 (mkL mkV k v.l).2))
    (k : Int) (h0 : 0 ≤ k) (h : k + 8 * cl Vl.cnt l ≤ 2 ^ 50) : Rv Try.prog 62 [.imm ((mkL mkV k l).1.map sV.I), .i .i64 k] (.i .i64 (mkL mkV k l).2) := by
  have hll : l.length ≤ cl Vl.cnt l := by unfold cl; omega
  refine via_laws_heldValueS (by simp) ?_
  simp [pc_laws_heldValueS]
  have hml := mkL_len (m := mkV) l k
  refine W_for (fun i => ⟨[(5, .i .i64 i), (1, .i .i64 (kAt mkV k l i)), (0, .imm ((mkL mkV k l).1.map sV.I))], [], 0, 0⟩) l.length (fun i => True) (Wk.less rfl (by simp) (by simp [kAt, mkL]) (by simp)) trivial ?_
  intro i hi _
  rcases Nat.lt_or_ge i l.length with h1 | h1
  · obtain ⟨x, hx⟩ : ∃ x, l[i]? = some x := ⟨_, List.getElem?_eq_getElem h1⟩
    have ihx := ih x (List.mem_of_getElem? hx)
    have hw : IntKind.i64.wrap ((i : Int) + 1) = (i : Int) + 1 := wrap1 (by omega)
    have hf := Far.at (c := Vl.cnt) (fun v _ => far_val v) hx (k := k)
    have hk1 := kAt_succ (m := mkV) (k := k) hx
    have hg := mkL_get (m := mkV) (k := k) hx
    generalize kAt mkV k l i = q at *
    have hw1 : IntKind.i64.wrap (q + 1) = q + 1 := wrap64 (by omega) (by omega)
    have hw2 : IntKind.i64.wrap (q + 1 + 1) = q + 2 := by rw [wrap64 (by omega) (by omega)]; omega
    have hw3 : IntKind.i64.wrap (q + 2 + 1) = q + 3 := by rw [wrap64 (by omega) (by omega)]; omega
    obtain ⟨a, b, s, l'⟩ := x
    rw [Vl.cnt_mk] at hf
    rw [mkV_mk] at hk1 hg
    have hf2 := Far.list (m := mkV) (c := Vl.cnt) (l := l') (fun v _ => far_val v) (q + 3)
    have hneg : ¬ (mkL mkV (q + 3) l').2 < 0 := by omega
    generalize hR : (mkL mkV k l).1 = R at *
    simp [-getElem?_pos, hml, hw, h1, hg, hw1, hw2, hw3]
    refine callK_val (by simp) (markText_c (q + 2) (by omega)) rfl ?_
    simp [-getElem?_pos, hml, hw, h1, hg, hw1, hw2, hw3]
    refine callK_val (by simp) (ihx (q + 3) (by omega) (by simp only [Vl.l]; omega)) rfl ?_
    simp [-getElem?_pos, hml, hw, h1, hg, hw1, hw2, hw3, hneg]
    exact Wk.to rfl (by simp) (by simp [hk1]) (by simp) (by simp)
  · have h2 : ¬ i < l.length := by omega
    simp [h2, hml]
    exact fin_val rfl (by simp [kAt_all h1]) (by simp)
theorem heldValueS_c (l : List Vl) (k : Int) (h0 : 0 ≤ k) (h : k + 8 * cl Vl.cnt l ≤ 2 ^ 50) : Rv Try.prog 62 [.imm ((mkL mkV k l).1.map sV.I), .i .i64 k] (.i .i64 (mkL mkV k l).2) := by
  have key : ∀ v : Vl, ∀ k : Int, 0 ≤ k → k + 8 * cl Vl.cnt v.l ≤ 2 ^ 50 → Rv Try.prog 62 [.imm ((mkL mkV k v.l).1.map sV.I), .i .i64 k] (.i .i64 (mkL mkV k v.l).2) := by
    intro v
    refine Vl.ind (p := fun v => ∀ k : Int, 0 ≤ k → k + 8 * cl Vl.cnt v.l ≤ 2 ^ 50 → Rv Try.prog 62 [.imm ((mkL mkV k v.l).1.map sV.I), .i .i64 k] (.i .i64 (mkL mkV k v.l).2)) ?_ v
    intro a b s l ih k h0 h
    exact heldValueS_of l ih k h0 h
  exact key (.mk 0 0 [] l) k h0 h
end Go.Proofs.Ytehdfbhfbidadaa.V
/- Marks of props, nodes, edges: printed by a program of this claim's writer (wip/gen/marks.py). -/
namespace Go.Proofs.Ytehdfbhfbidadaa.V
open Go
set_option linter.unusedVariables false
set_option linter.unusedSimpArgs false
set_option maxHeartbeats 4000000
theorem far_strv (x : Tx) : ∀ k, k ≤ (mkStr k x).2 ∧ (mkStr k x).2 ≤ k + 8 * (1 + List.length x) := far_str [x] x (by simp)
def mkP (k : Int) : Pr → Pr × Int
  | ⟨nm, .mk a b s l1⟩ => (⟨(mt k), .mk (k + 1) (k + 2) (mt (k + 3)) (mkL mkV (k + 4) l1).1⟩, (mkL mkV (k + 4) l1).2)
theorem far_prop (x : Pr) : ∀ k, k ≤ (mkP k x).2 ∧ (mkP k x).2 ≤ k + 8 * (1 + Pr.cnt x) := by
  intro k
  obtain ⟨nm, ⟨a, b, s, l1⟩⟩ := x
  simp only [mkP, Pr.cnt, Vl.cnt_mk]
  have h_l1 := Far.list (m := mkV) (c := Vl.cnt) (l := l1) (fun v _ => far_val v) (k + 4)
  omega
theorem markPropS_c (l : List Pr) (k : Int) (h0 : 0 ≤ k) (h : k + 8 * cl Pr.cnt l ≤ 2 ^ 50) : Ret Try.prog 164 [.own 5 (l.map sP.O), .i .i64 k] (.i .i64 (mkL mkP k l).2) [.own 5 ((mkL mkP k l).1.map sP.O), .dead] := by
  have hll : l.length ≤ cl Pr.cnt l := by unfold cl; omega
  refine via_laws_markPropS (by simp) ?_
  simp [pc_laws_markPropS]
  refine W_for (fun i => ⟨[(5, .i .i64 i), (1, .i .i64 (kAt mkP k l i)), (0, .ref 0 0 l.length)], [(0, .arr 5 ((pAt mkP k l i).map sP.O ++ (l.map sP.O).drop i))], 1, 1⟩) l.length (fun i => True) (Wk.less rfl (by simp) (by simp [kAt, mkL]) (by simp [pAt, mkL])) trivial ?_
  intro i hi _
  rcases Nat.lt_or_ge i l.length with h1 | h1
  · obtain ⟨x, hx⟩ : ∃ x, l[i]? = some x := ⟨_, List.getElem?_eq_getElem h1⟩
    have hw : IntKind.i64.wrap ((i : Int) + 1) = (i : Int) + 1 := wrap1 (by omega)
    have hf := Far.at (c := Pr.cnt) (fun v _ => far_prop v) hx (k := k)
    have hk1 := kAt_succ (m := mkP) (k := k) hx
    have hp1 := pAt_succ (m := mkP) (k := k) hx
    have hpl := pAt_len mkP (k := k) hi
    generalize kAt mkP k l i = q at *
    generalize hP : pAt mkP k l i = p at *
    rw [drop_eq (l := l.map sP.O) (x := sP.O x) (by simp [hx])]
    have hg : ∀ r, ((p.map sP.O) ++ r :: (l.map sP.O).drop (i + 1))[i]? = some r := fun r => by rw [List.getElem?_append_right (by simp; omega)]; simp [hpl]
    have hs : ∀ r r', ((p.map sP.O) ++ r :: (l.map sP.O).drop (i + 1)).set i r' = (p.map sP.O) ++ r' :: (l.map sP.O).drop (i + 1) := fun r r' => by rw [List.set_append_right _ _ (by simp; omega)]; simp [hpl]
    have hcB := sP.crO (l.drop (i + 1))
    rw [List.map_drop] at hcB
    generalize hB : (l.map sP.O).drop (i + 1) = B at *
    obtain ⟨nm, ⟨a, b, s, l1⟩⟩ := x
    simp only [Pr.cnt, Vl.cnt_mk] at hf
    simp only [mkP] at hk1 hp1
    have hc_l1 := markValueS_c l1 (q + 4)
    have hw0 : IntKind.i64.wrap (q + 1) = q + 1 := by rw [wrap64 (by omega) (by omega)]
    have hw1 : IntKind.i64.wrap (q + 1 + 1) = q + 2 := by rw [wrap64 (by omega) (by omega)]; omega
    have hw2 : IntKind.i64.wrap (q + 2 + 1) = q + 3 := by rw [wrap64 (by omega) (by omega)]; omega
    have hw3 : IntKind.i64.wrap (q + 3 + 1) = q + 4 := by rw [wrap64 (by omega) (by omega)]; omega
    have hf_l1 := Far.list (m := mkV) (c := Vl.cnt) (l := l1) (fun v _ => far_val v) (q + 4)
    have hml_l1 := mkL_len (m := mkV) l1 (q + 4)
    generalize hK_l1 : (mkL mkV (q + 4) l1).2 = k1 at *
    generalize hM_l1 : (mkL mkV (q + 4) l1).1 = ml1 at *
    have hneg_l1 : ¬ k1 < 0 := by omega
    simp [-getElem?_pos, hw, h1, hg, hw0, hw1, hw2, hw3, hs]
    refine callK_val (by simp) (markText_c q (by omega)) rfl ?_
    simp [-getElem?_pos, hw, h1, hg, hw0, hw1, hw2, hw3, hs]
    refine callK_val (by simp) (markText_c (q + 3) (by omega)) rfl ?_
    simp [-getElem?_pos, hw, h1, hg, hw0, hw1, hw2, hw3, hs]
    refine callK_mut (by simp) (hc_l1 (by omega) (by omega)) (by simp [hml_l1]; rfl) (by simp) (by simp) rfl (by simp [T.noImm]) ?_
    simp [-getElem?_pos, hw, h1, hg, hw0, hw1, hw2, hw3, hs]
    refine Wk.trans (Wk.join (b := 0) (r := i) (cs := sP.O ⟨(mt q), .mk (q + 1) (q + 2) (mt (q + 3)) ml1⟩) rfl (by simp [hg]; rfl) (by simp [hml_l1, take_map_eq hml_l1]) (by simp)) ?_
    exact Wk.to1 rfl (by simp) (by simp [hk1]) (by simp [hs, hp1]) (by simp [hcB]) (by omega)
  · have h2 : ¬ i < l.length := by omega
    have e : List.drop i (l.map sP.O) = [] := List.drop_of_length_le (by simp; omega)
    simp [h2, e]
    refine fin_ret (ts := []) rfl (by simp [kAt_all h1]) (by simp [pAt_all h1, e, mkL_len]) (by simp)
theorem heldPropS_c (l : List Pr) (k : Int) (h0 : 0 ≤ k) (h : k + 8 * cl Pr.cnt l ≤ 2 ^ 50) : Rv Try.prog 166 [.imm ((mkL mkP k l).1.map sP.I), .i .i64 k] (.i .i64 (mkL mkP k l).2) := by
  have hll : l.length ≤ cl Pr.cnt l := by unfold cl; omega
  refine via_laws_heldPropS (by simp) ?_
  simp [pc_laws_heldPropS]
  have hml := mkL_len (m := mkP) l k
  refine W_for (fun i => ⟨[(5, .i .i64 i), (1, .i .i64 (kAt mkP k l i)), (0, .imm ((mkL mkP k l).1.map sP.I))], [], 0, 0⟩) l.length (fun i => True) (Wk.less rfl (by simp) (by simp [kAt, mkL]) (by simp)) trivial ?_
  intro i hi _
  rcases Nat.lt_or_ge i l.length with h1 | h1
  · obtain ⟨x, hx⟩ : ∃ x, l[i]? = some x := ⟨_, List.getElem?_eq_getElem h1⟩
    have hw : IntKind.i64.wrap ((i : Int) + 1) = (i : Int) + 1 := wrap1 (by omega)
    have hf := Far.at (c := Pr.cnt) (fun v _ => far_prop v) hx (k := k)
    have hk1 := kAt_succ (m := mkP) (k := k) hx
    have hg := mkL_get (m := mkP) (k := k) hx
    generalize kAt mkP k l i = q at *
    generalize hR : (mkL mkP k l).1 = R at *
    obtain ⟨nm, ⟨a, b, s, l1⟩⟩ := x
    simp only [Pr.cnt, Vl.cnt_mk] at hf
    simp only [mkP] at hk1 hg
    have hc_l1 := heldValueS_c l1 (q + 4)
    have hw0 : IntKind.i64.wrap (q + 1) = q + 1 := by rw [wrap64 (by omega) (by omega)]
    have hw1 : IntKind.i64.wrap (q + 1 + 1) = q + 2 := by rw [wrap64 (by omega) (by omega)]; omega
    have hw2 : IntKind.i64.wrap (q + 2 + 1) = q + 3 := by rw [wrap64 (by omega) (by omega)]; omega
    have hw3 : IntKind.i64.wrap (q + 3 + 1) = q + 4 := by rw [wrap64 (by omega) (by omega)]; omega
    have hf_l1 := Far.list (m := mkV) (c := Vl.cnt) (l := l1) (fun v _ => far_val v) (q + 4)
    have hml_l1 := mkL_len (m := mkV) l1 (q + 4)
    generalize hK_l1 : (mkL mkV (q + 4) l1).2 = k1 at *
    generalize hM_l1 : (mkL mkV (q + 4) l1).1 = ml1 at *
    have hneg_l1 : ¬ k1 < 0 := by omega
    simp [-getElem?_pos, hw, h1, hg, hw0, hw1, hw2, hw3, hml, hneg_l1]
    refine callK_val (by simp) (markText_c q (by omega)) rfl ?_
    simp [-getElem?_pos, hw, h1, hg, hw0, hw1, hw2, hw3, hml, hneg_l1]
    refine callK_val (by simp) (markText_c (q + 3) (by omega)) rfl ?_
    simp [-getElem?_pos, hw, h1, hg, hw0, hw1, hw2, hw3, hml, hneg_l1]
    refine callK_val (by simp) (hc_l1 (by omega) (by omega)) rfl ?_
    simp [-getElem?_pos, hw, h1, hg, hw0, hw1, hw2, hw3, hml, hneg_l1]
    exact Wk.to rfl (by simp) (by simp [hk1]) (by simp) (by simp)
  · have h2 : ¬ i < l.length := by omega
    simp [h2, hml]
    exact fin_val rfl (by simp [kAt_all h1]) (by simp)
def mkN (k : Int) : Nd → Nd × Int
  | ⟨a, l1, l2⟩ => (⟨k, (mkL mkStr (k + 1) l1).1, (mkL mkP ((mkL mkStr (k + 1) l1).2) l2).1⟩, (mkL mkP ((mkL mkStr (k + 1) l1).2) l2).2)
theorem far_node (x : Nd) : ∀ k, k ≤ (mkN k x).2 ∧ (mkN k x).2 ≤ k + 8 * (1 + Nd.cnt x) := by
  intro k
  obtain ⟨a, l1, l2⟩ := x
  simp only [mkN, Nd.cnt]
  have h_l1 := Far.list (m := mkStr) (c := List.length) (l := l1) (fun v _ => far_strv v) (k + 1)
  have h_l2 := Far.list (m := mkP) (c := Pr.cnt) (l := l2) (fun v _ => far_prop v) ((mkL mkStr (k + 1) l1).2)
  omega
theorem markNodeS_c (l : List Nd) (k : Int) (h0 : 0 ≤ k) (h : k + 8 * cl Nd.cnt l ≤ 2 ^ 50) : Ret Try.prog 103 [.own 3 (l.map sN.O), .i .i64 k] (.i .i64 (mkL mkN k l).2) [.own 3 ((mkL mkN k l).1.map sN.O), .dead] := by
  have hll : l.length ≤ cl Nd.cnt l := by unfold cl; omega
  refine via_laws_markNodeS (by simp) ?_
  simp [pc_laws_markNodeS]
  refine W_for (fun i => ⟨[(5, .i .i64 i), (1, .i .i64 (kAt mkN k l i)), (0, .ref 0 0 l.length)], [(0, .arr 3 ((pAt mkN k l i).map sN.O ++ (l.map sN.O).drop i))], 1, 1⟩) l.length (fun i => True) (Wk.less rfl (by simp) (by simp [kAt, mkL]) (by simp [pAt, mkL])) trivial ?_
  intro i hi _
  rcases Nat.lt_or_ge i l.length with h1 | h1
  · obtain ⟨x, hx⟩ : ∃ x, l[i]? = some x := ⟨_, List.getElem?_eq_getElem h1⟩
    have hw : IntKind.i64.wrap ((i : Int) + 1) = (i : Int) + 1 := wrap1 (by omega)
    have hf := Far.at (c := Nd.cnt) (fun v _ => far_node v) hx (k := k)
    have hk1 := kAt_succ (m := mkN) (k := k) hx
    have hp1 := pAt_succ (m := mkN) (k := k) hx
    have hpl := pAt_len mkN (k := k) hi
    generalize kAt mkN k l i = q at *
    generalize hP : pAt mkN k l i = p at *
    rw [drop_eq (l := l.map sN.O) (x := sN.O x) (by simp [hx])]
    have hg : ∀ r, ((p.map sN.O) ++ r :: (l.map sN.O).drop (i + 1))[i]? = some r := fun r => by rw [List.getElem?_append_right (by simp; omega)]; simp [hpl]
    have hs : ∀ r r', ((p.map sN.O) ++ r :: (l.map sN.O).drop (i + 1)).set i r' = (p.map sN.O) ++ r' :: (l.map sN.O).drop (i + 1) := fun r r' => by rw [List.set_append_right _ _ (by simp; omega)]; simp [hpl]
    have hcB := sN.crO (l.drop (i + 1))
    rw [List.map_drop] at hcB
    generalize hB : (l.map sN.O).drop (i + 1) = B at *
    obtain ⟨a, l1, l2⟩ := x
    simp only [Nd.cnt] at hf
    simp only [mkN] at hk1 hp1
    have hc_l1 := markStringS_c l1 (q + 1)
    have hc_l2 := markPropS_c l2 ((mkL mkStr (q + 1) l1).2)
    have hw0 : IntKind.i64.wrap (q + 1) = q + 1 := by rw [wrap64 (by omega) (by omega)]
    have hf_l1 := Far.list (m := mkStr) (c := List.length) (l := l1) (fun v _ => far_strv v) (q + 1)
    have hml_l1 := mkL_len (m := mkStr) l1 (q + 1)
    generalize hK_l1 : (mkL mkStr (q + 1) l1).2 = k1 at *
    generalize hM_l1 : (mkL mkStr (q + 1) l1).1 = ml1 at *
    have hneg_l1 : ¬ k1 < 0 := by omega
    have hf_l2 := Far.list (m := mkP) (c := Pr.cnt) (l := l2) (fun v _ => far_prop v) k1
    have hml_l2 := mkL_len (m := mkP) l2 k1
    generalize hK_l2 : (mkL mkP k1 l2).2 = k2 at *
    generalize hM_l2 : (mkL mkP k1 l2).1 = ml2 at *
    have hneg_l2 : ¬ k2 < 0 := by omega
    simp [-getElem?_pos, hw, h1, hg, hw0, hs]
    refine callK_mut (by simp) (hc_l1 (by omega) (by omega)) (by simp [hml_l1]; rfl) (by simp) (by simp) rfl (by simp [T.noImm]) ?_
    simp [-getElem?_pos, hw, h1, hg, hw0, hs]
    refine callK_mut (by simp) (hc_l2 (by omega) (by omega)) (by simp [hml_l2]; rfl) (by simp) (by simp) rfl (by simp [T.noImm]) ?_
    simp [-getElem?_pos, hw, h1, hg, hw0, hs]
    refine Wk.trans (Wk.join (b := 0) (r := i) (cs := sN.O ⟨q, ml1, ml2⟩) rfl (by simp [hg]; rfl) (by simp [hml_l1, take_map_eq hml_l1, hml_l2, take_map_eq hml_l2]) (by simp)) ?_
    exact Wk.to1 rfl (by simp) (by simp [hk1]) (by simp [hs, hp1]) (by simp [hcB]) (by omega)
  · have h2 : ¬ i < l.length := by omega
    have e : List.drop i (l.map sN.O) = [] := List.drop_of_length_le (by simp; omega)
    simp [h2, e]
    refine fin_ret (ts := []) rfl (by simp [kAt_all h1]) (by simp [pAt_all h1, e, mkL_len]) (by simp)
theorem heldNodeS_c (l : List Nd) (k : Int) (h0 : 0 ≤ k) (h : k + 8 * cl Nd.cnt l ≤ 2 ^ 50) : Rv Try.prog 105 [.imm ((mkL mkN k l).1.map sN.I), .i .i64 k] (.i .i64 (mkL mkN k l).2) := by
  have hll : l.length ≤ cl Nd.cnt l := by unfold cl; omega
  refine via_laws_heldNodeS (by simp) ?_
  simp [pc_laws_heldNodeS]
  have hml := mkL_len (m := mkN) l k
  refine W_for (fun i => ⟨[(5, .i .i64 i), (1, .i .i64 (kAt mkN k l i)), (0, .imm ((mkL mkN k l).1.map sN.I))], [], 0, 0⟩) l.length (fun i => True) (Wk.less rfl (by simp) (by simp [kAt, mkL]) (by simp)) trivial ?_
  intro i hi _
  rcases Nat.lt_or_ge i l.length with h1 | h1
  · obtain ⟨x, hx⟩ : ∃ x, l[i]? = some x := ⟨_, List.getElem?_eq_getElem h1⟩
    have hw : IntKind.i64.wrap ((i : Int) + 1) = (i : Int) + 1 := wrap1 (by omega)
    have hf := Far.at (c := Nd.cnt) (fun v _ => far_node v) hx (k := k)
    have hk1 := kAt_succ (m := mkN) (k := k) hx
    have hg := mkL_get (m := mkN) (k := k) hx
    generalize kAt mkN k l i = q at *
    generalize hR : (mkL mkN k l).1 = R at *
    obtain ⟨a, l1, l2⟩ := x
    simp only [Nd.cnt] at hf
    simp only [mkN] at hk1 hg
    have hc_l1 := heldStringS_c l1 (q + 1)
    have hc_l2 := heldPropS_c l2 ((mkL mkStr (q + 1) l1).2)
    have hw0 : IntKind.i64.wrap (q + 1) = q + 1 := by rw [wrap64 (by omega) (by omega)]
    have hf_l1 := Far.list (m := mkStr) (c := List.length) (l := l1) (fun v _ => far_strv v) (q + 1)
    have hml_l1 := mkL_len (m := mkStr) l1 (q + 1)
    generalize hK_l1 : (mkL mkStr (q + 1) l1).2 = k1 at *
    generalize hM_l1 : (mkL mkStr (q + 1) l1).1 = ml1 at *
    have hneg_l1 : ¬ k1 < 0 := by omega
    have hf_l2 := Far.list (m := mkP) (c := Pr.cnt) (l := l2) (fun v _ => far_prop v) k1
    have hml_l2 := mkL_len (m := mkP) l2 k1
    generalize hK_l2 : (mkL mkP k1 l2).2 = k2 at *
    generalize hM_l2 : (mkL mkP k1 l2).1 = ml2 at *
    have hneg_l2 : ¬ k2 < 0 := by omega
    simp [-getElem?_pos, hw, h1, hg, hw0, hml, hneg_l1, hneg_l2]
    refine callK_val (by simp) (hc_l1 (by omega) (by omega)) rfl ?_
    simp [-getElem?_pos, hw, h1, hg, hw0, hml, hneg_l1, hneg_l2]
    refine callK_val (by simp) (hc_l2 (by omega) (by omega)) rfl ?_
    simp [-getElem?_pos, hw, h1, hg, hw0, hml, hneg_l1, hneg_l2]
    exact Wk.to rfl (by simp) (by simp [hk1]) (by simp) (by simp)
  · have h2 : ¬ i < l.length := by omega
    simp [h2, hml]
    exact fin_val rfl (by simp [kAt_all h1]) (by simp)
def mkE (k : Int) : Eg → Eg × Int
  | ⟨a, s, b, c, l1⟩ => (⟨k, (mt (k + 1)), (k + 2), (k + 3), (mkL mkP (k + 4) l1).1⟩, (mkL mkP (k + 4) l1).2)
theorem far_edge (x : Eg) : ∀ k, k ≤ (mkE k x).2 ∧ (mkE k x).2 ≤ k + 8 * (1 + Eg.cnt x) := by
  intro k
  obtain ⟨a, s, b, c, l1⟩ := x
  simp only [mkE, Eg.cnt]
  have h_l1 := Far.list (m := mkP) (c := Pr.cnt) (l := l1) (fun v _ => far_prop v) (k + 4)
  omega
theorem markEdgeS_c (l : List Eg) (k : Int) (h0 : 0 ≤ k) (h : k + 8 * cl Eg.cnt l ≤ 2 ^ 50) : Ret Try.prog 104 [.own 5 (l.map sE.O), .i .i64 k] (.i .i64 (mkL mkE k l).2) [.own 5 ((mkL mkE k l).1.map sE.O), .dead] := by
  have hll : l.length ≤ cl Eg.cnt l := by unfold cl; omega
  refine via_laws_markEdgeS (by simp) ?_
  simp [pc_laws_markEdgeS]
  refine W_for (fun i => ⟨[(5, .i .i64 i), (1, .i .i64 (kAt mkE k l i)), (0, .ref 0 0 l.length)], [(0, .arr 5 ((pAt mkE k l i).map sE.O ++ (l.map sE.O).drop i))], 1, 1⟩) l.length (fun i => True) (Wk.less rfl (by simp) (by simp [kAt, mkL]) (by simp [pAt, mkL])) trivial ?_
  intro i hi _
  rcases Nat.lt_or_ge i l.length with h1 | h1
  · obtain ⟨x, hx⟩ : ∃ x, l[i]? = some x := ⟨_, List.getElem?_eq_getElem h1⟩
    have hw : IntKind.i64.wrap ((i : Int) + 1) = (i : Int) + 1 := wrap1 (by omega)
    have hf := Far.at (c := Eg.cnt) (fun v _ => far_edge v) hx (k := k)
    have hk1 := kAt_succ (m := mkE) (k := k) hx
    have hp1 := pAt_succ (m := mkE) (k := k) hx
    have hpl := pAt_len mkE (k := k) hi
    generalize kAt mkE k l i = q at *
    generalize hP : pAt mkE k l i = p at *
    rw [drop_eq (l := l.map sE.O) (x := sE.O x) (by simp [hx])]
    have hg : ∀ r, ((p.map sE.O) ++ r :: (l.map sE.O).drop (i + 1))[i]? = some r := fun r => by rw [List.getElem?_append_right (by simp; omega)]; simp [hpl]
    have hs : ∀ r r', ((p.map sE.O) ++ r :: (l.map sE.O).drop (i + 1)).set i r' = (p.map sE.O) ++ r' :: (l.map sE.O).drop (i + 1) := fun r r' => by rw [List.set_append_right _ _ (by simp; omega)]; simp [hpl]
    have hcB := sE.crO (l.drop (i + 1))
    rw [List.map_drop] at hcB
    generalize hB : (l.map sE.O).drop (i + 1) = B at *
    obtain ⟨a, s, b, c, l1⟩ := x
    simp only [Eg.cnt] at hf
    simp only [mkE] at hk1 hp1
    have hc_l1 := markPropS_c l1 (q + 4)
    have hw0 : IntKind.i64.wrap (q + 1) = q + 1 := by rw [wrap64 (by omega) (by omega)]
    have hw1 : IntKind.i64.wrap (q + 1 + 1) = q + 2 := by rw [wrap64 (by omega) (by omega)]; omega
    have hw2 : IntKind.i64.wrap (q + 2 + 1) = q + 3 := by rw [wrap64 (by omega) (by omega)]; omega
    have hw3 : IntKind.i64.wrap (q + 3 + 1) = q + 4 := by rw [wrap64 (by omega) (by omega)]; omega
    have hf_l1 := Far.list (m := mkP) (c := Pr.cnt) (l := l1) (fun v _ => far_prop v) (q + 4)
    have hml_l1 := mkL_len (m := mkP) l1 (q + 4)
    generalize hK_l1 : (mkL mkP (q + 4) l1).2 = k1 at *
    generalize hM_l1 : (mkL mkP (q + 4) l1).1 = ml1 at *
    have hneg_l1 : ¬ k1 < 0 := by omega
    simp [-getElem?_pos, hw, h1, hg, hw0, hw1, hw2, hw3, hs]
    refine callK_val (by simp) (markText_c (q + 1) (by omega)) rfl ?_
    simp [-getElem?_pos, hw, h1, hg, hw0, hw1, hw2, hw3, hs]
    refine callK_mut (by simp) (hc_l1 (by omega) (by omega)) (by simp [hml_l1]; rfl) (by simp) (by simp) rfl (by simp [T.noImm]) ?_
    simp [-getElem?_pos, hw, h1, hg, hw0, hw1, hw2, hw3, hs]
    refine Wk.trans (Wk.join (b := 0) (r := i) (cs := sE.O ⟨q, (mt (q + 1)), (q + 2), (q + 3), ml1⟩) rfl (by simp [hg]; rfl) (by simp [hml_l1, take_map_eq hml_l1]) (by simp)) ?_
    exact Wk.to1 rfl (by simp) (by simp [hk1]) (by simp [hs, hp1]) (by simp [hcB]) (by omega)
  · have h2 : ¬ i < l.length := by omega
    have e : List.drop i (l.map sE.O) = [] := List.drop_of_length_le (by simp; omega)
    simp [h2, e]
    refine fin_ret (ts := []) rfl (by simp [kAt_all h1]) (by simp [pAt_all h1, e, mkL_len]) (by simp)
theorem heldEdgeS_c (l : List Eg) (k : Int) (h0 : 0 ≤ k) (h : k + 8 * cl Eg.cnt l ≤ 2 ^ 50) : Rv Try.prog 106 [.imm ((mkL mkE k l).1.map sE.I), .i .i64 k] (.i .i64 (mkL mkE k l).2) := by
  have hll : l.length ≤ cl Eg.cnt l := by unfold cl; omega
  refine via_laws_heldEdgeS (by simp) ?_
  simp [pc_laws_heldEdgeS]
  have hml := mkL_len (m := mkE) l k
  refine W_for (fun i => ⟨[(5, .i .i64 i), (1, .i .i64 (kAt mkE k l i)), (0, .imm ((mkL mkE k l).1.map sE.I))], [], 0, 0⟩) l.length (fun i => True) (Wk.less rfl (by simp) (by simp [kAt, mkL]) (by simp)) trivial ?_
  intro i hi _
  rcases Nat.lt_or_ge i l.length with h1 | h1
  · obtain ⟨x, hx⟩ : ∃ x, l[i]? = some x := ⟨_, List.getElem?_eq_getElem h1⟩
    have hw : IntKind.i64.wrap ((i : Int) + 1) = (i : Int) + 1 := wrap1 (by omega)
    have hf := Far.at (c := Eg.cnt) (fun v _ => far_edge v) hx (k := k)
    have hk1 := kAt_succ (m := mkE) (k := k) hx
    have hg := mkL_get (m := mkE) (k := k) hx
    generalize kAt mkE k l i = q at *
    generalize hR : (mkL mkE k l).1 = R at *
    obtain ⟨a, s, b, c, l1⟩ := x
    simp only [Eg.cnt] at hf
    simp only [mkE] at hk1 hg
    have hc_l1 := heldPropS_c l1 (q + 4)
    have hw0 : IntKind.i64.wrap (q + 1) = q + 1 := by rw [wrap64 (by omega) (by omega)]
    have hw1 : IntKind.i64.wrap (q + 1 + 1) = q + 2 := by rw [wrap64 (by omega) (by omega)]; omega
    have hw2 : IntKind.i64.wrap (q + 2 + 1) = q + 3 := by rw [wrap64 (by omega) (by omega)]; omega
    have hw3 : IntKind.i64.wrap (q + 3 + 1) = q + 4 := by rw [wrap64 (by omega) (by omega)]; omega
    have hf_l1 := Far.list (m := mkP) (c := Pr.cnt) (l := l1) (fun v _ => far_prop v) (q + 4)
    have hml_l1 := mkL_len (m := mkP) l1 (q + 4)
    generalize hK_l1 : (mkL mkP (q + 4) l1).2 = k1 at *
    generalize hM_l1 : (mkL mkP (q + 4) l1).1 = ml1 at *
    have hneg_l1 : ¬ k1 < 0 := by omega
    simp [-getElem?_pos, hw, h1, hg, hw0, hw1, hw2, hw3, hml, hneg_l1]
    refine callK_val (by simp) (markText_c (q + 1) (by omega)) rfl ?_
    simp [-getElem?_pos, hw, h1, hg, hw0, hw1, hw2, hw3, hml, hneg_l1]
    refine callK_val (by simp) (hc_l1 (by omega) (by omega)) rfl ?_
    simp [-getElem?_pos, hw, h1, hg, hw0, hw1, hw2, hw3, hml, hneg_l1]
    exact Wk.to rfl (by simp) (by simp [hk1]) (by simp) (by simp)
  · have h2 : ¬ i < l.length := by omega
    simp [h2, hml]
    exact fin_val rfl (by simp [kAt_all h1]) (by simp)
end Go.Proofs.Ytehdfbhfbidadaa.V
/- Marks of graphs, values, numbers. -/
namespace Go.Proofs.Ytehdfbhfbidadaa.V
open Go
set_option linter.unusedVariables false
set_option linter.unusedSimpArgs false
set_option maxHeartbeats 4000000
def mkG (k : Int) : Gr → Gr × Int
  | ⟨a, b, c, d⟩ => (⟨(mkL mkN k a).1, (mkL mkE (mkL mkN k a).2 b).1, c, d⟩, (mkL mkE (mkL mkN k a).2 b).2)
theorem markGraph_c (g : Gr) (k : Int) (h0 : 0 ≤ k) (h : k + 8 * g.cnt ≤ 2 ^ 50) : Ret Try.prog 44 [.agg (sG.O g), .i .i64 k] (.i .i64 (mkG k g).2) [.agg [.own 3 ((mkG k g).1.nodes.map sN.O), .own 5 ((mkG k g).1.edges.map sE.O), .dead, .dead], .dead] := by
  obtain ⟨a, b, c, d⟩ := g
  simp only [Gr.cnt] at h
  have hf1 := Far.list (m := mkN) (c := Nd.cnt) (l := a) (fun v _ => far_node v) k
  have h1 := markNodeS_c a k h0 (by omega)
  have h2 := markEdgeS_c b (mkL mkN k a).2 (by omega) (by omega)
  have hm1 := mkL_len (m := mkN) a k
  have hm2 := mkL_len (m := mkE) b (mkL mkN k a).2
  refine via_laws_markGraph (by simp) ?_
  simp [pc_laws_markGraph, mkG]
  refine callK_mut (by simp) h1 (by simp [hm1]; rfl) (by simp) (by simp) rfl (by simp [T.noImm]) ?_
  simp
  refine callK_mut (by simp) h2 (by simp [hm2]; rfl) (by simp) (by simp) rfl (by simp [T.noImm]) ?_
  simp
  refine fin_ret (ts := []) rfl (by simp) (by simp [hm1, hm2]) (by simp)
theorem heldGraph_c (g : Gr) (k : Int) (h0 : 0 ≤ k) (h : k + 8 * g.cnt ≤ 2 ^ 50) : Rv Try.prog 45 [.agg (sG.I (mkG k g).1), .i .i64 k] (.i .i64 (mkG k g).2) := by
  obtain ⟨a, b, c, d⟩ := g
  simp only [Gr.cnt] at h
  have hf1 := Far.list (m := mkN) (c := Nd.cnt) (l := a) (fun v _ => far_node v) k
  have hf2 := Far.list (m := mkE) (c := Eg.cnt) (l := b) (fun v _ => far_edge v) (mkL mkN k a).2
  have n1 : ¬ (mkL mkN k a).2 < 0 := by omega
  have n2 : ¬ (mkL mkE (mkL mkN k a).2 b).2 < 0 := by omega
  refine via_laws_heldGraph (by simp) ?_
  simp [pc_laws_heldGraph, mkG]
  refine callK_val (by simp) (heldNodeS_c a k h0 (by omega)) rfl ?_
  simp [n1]
  refine callK_val (by simp) (heldEdgeS_c b (mkL mkN k a).2 (by omega) (by omega)) rfl ?_
  simp [n2]
  exact fin_val rfl (by simp) (by simp)
/-! ### numbers -/
def mkI (k : Int) (_ : Int) : Int × Int := (k, k + 1)
end Go.Proofs.Ytehdfbhfbidadaa.V
/- How far marks go; sizes of parts. -/
namespace Go.Proofs.Ytehdfbhfbidadaa.V
open Go
set_option linter.unusedVariables false
theorem mkG_far (g : Gr) (k : Int) : k ≤ (mkG k g).2 ∧ (mkG k g).2 ≤ k + 8 * g.cnt := by
  obtain ⟨a, b, c, d⟩ := g
  have h1 := Far.list (m := mkN) (c := Nd.cnt) (l := a) (fun v _ => far_node v) k
  have h2 := Far.list (m := mkE) (c := Eg.cnt) (l := b) (fun v _ => far_edge v) (mkL mkN k a).2
  simp only [mkG, Gr.cnt]
  omega
theorem cl_cons {α : Type} {c : α → Nat} {a : α} {l : List α} : cl c (a :: l) = 1 + c a + cl c l := by
  simp only [cl, sums, List.length_cons, List.map_cons, List.sum_cons]; omega
theorem cl_append {α : Type} {c : α → Nat} {l l' : List α} : cl c (l ++ l') = cl c l + cl c l' := by
  simp only [cl, sums, List.length_append, List.map_append, List.sum_append]; omega
theorem cl_filter {α : Type} {c : α → Nat} {q : α → Bool} {l : List α} : cl c (l.filter q) ≤ cl c l := by
  induction l with
  | nil => simp
  | cons a l ih =>
    rw [cl_cons]
    by_cases h : q a = true
    · rw [List.filter_cons_of_pos h, cl_cons]; omega
    · rw [List.filter_cons_of_neg h]; omega
end Go.Proofs.Ytehdfbhfbidadaa.V
/- Graphs that are ok stay ok: plain facts. -/
namespace Go.Proofs.Ytehdfbhfbidadaa.V
open Go
set_option linter.unusedVariables false
set_option linter.unusedSimpArgs false
theorem Asc_iff {α : Type} {f : α → Int} {e : Int} {l : List α} : Asc f e l ↔ (∀ x ∈ l, 0 ≤ f x ∧ f x < e) ∧ l.Pairwise (fun x y => f x < f y) := by
  constructor
  · intro h
    refine ⟨fun x hx => ?_, ?_⟩
    · obtain ⟨i, hi⟩ := List.mem_iff_getElem?.1 hx
      exact ⟨(h i x hi).1, (h i x hi).2.1⟩
    · rw [List.pairwise_iff_getElem]
      intro i j hi hj hij
      exact h.lt (j - i - 1) i _ _ (List.getElem?_eq_getElem hi) (by rw [show i + (j - i - 1) + 1 = j by omega]; exact List.getElem?_eq_getElem hj)
  · rintro ⟨h1, h2⟩ i x hx
    refine ⟨(h1 x (List.mem_of_getElem? hx)).1, (h1 x (List.mem_of_getElem? hx)).2, fun y h0 hy => ?_⟩
    rw [List.pairwise_iff_getElem] at h2
    obtain ⟨a1, rfl⟩ := List.getElem?_eq_some_iff.1 hx
    obtain ⟨a2, rfl⟩ := List.getElem?_eq_some_iff.1 hy
    exact h2 (i - 1) i a2 a1 (by omega)
theorem Asc.filter {α : Type} {f : α → Int} {e : Int} {l : List α} (h : Asc f e l) (q : α → Bool) : Asc f e (l.filter q) := by
  rw [Asc_iff] at h ⊢
  exact ⟨fun x hx => h.1 x (List.mem_filter.1 hx).1, h.2.filter q⟩
theorem Asc.snoc {α : Type} {f : α → Int} {e : Int} {l : List α} (h : Asc f e l) {x : α} (h0 : 0 ≤ e) (hx : f x = e) : Asc f (e + 1) (l ++ [x]) := by
  rw [Asc_iff] at h ⊢
  refine ⟨fun y hy => ?_, ?_⟩
  · rcases List.mem_append.1 hy with hy | hy
    · have := h.1 y hy; omega
    · simp only [List.mem_singleton] at hy; subst hy; omega
  · rw [List.pairwise_append]
    refine ⟨h.2, by simp, fun a ha b hb => ?_⟩
    simp only [List.mem_singleton] at hb
    subst hb
    have := h.1 a ha; omega
theorem posOf_pos {α : Type} {f : α → Int} {id : Int} {l : List α} : 0 ≤ posOf f id l ↔ ∃ x ∈ l, f x = id := by
  rcases posOf_cases f id l with ⟨i, x, h1, h2, h3, _⟩ | ⟨h1, h2⟩
  · exact ⟨fun _ => ⟨x, List.mem_of_getElem? h2, h3⟩, fun _ => by omega⟩
  · exact ⟨fun h => by omega, fun ⟨x, hx, he⟩ => absurd he (h2 x hx)⟩
theorem GOk.addN {g : Gr} (h : GOk g) {lb : List Tx} {ps : List Pr} (hc : addNOk g lb ps) : GOk (gAddN g lb ps) := by
  obtain ⟨c1, c2, c3, c4⟩ := hc
  have h1 := h.nn
  refine ⟨by simp only [gAddN]; omega, h.ne, by simp only [gAddN, List.length_append, List.length_singleton]; omega, h.el, h.na.snoc h1.1 rfl, h.ea, ?_, ?_⟩
  · intro x hx
    rcases List.mem_append.1 hx with hx | hx
    · exact h.nok x hx
    · simp only [List.mem_singleton] at hx; subst hx; exact ⟨c1, c2⟩
  · intro e he
    obtain ⟨e1, e2, e3, e4⟩ := h.eok e he
    refine ⟨e1, e2, ?_, ?_⟩
    · obtain ⟨x, hx, q⟩ := posOf_pos.1 e3
      exact posOf_pos.2 ⟨x, List.mem_append.2 (.inl hx), q⟩
    · obtain ⟨x, hx, q⟩ := posOf_pos.1 e4
      exact posOf_pos.2 ⟨x, List.mem_append.2 (.inl hx), q⟩
theorem GOk.dropN {g : Gr} (h : GOk g) (id : Int) : GOk (gDropN g id) := by
  have hE := drop_edges h id
  refine ⟨h.nn, h.ne, Nat.le_trans (List.length_filter_le _ _) h.nl, Nat.le_trans (List.length_filter_le _ _) h.el, h.na.filter _, h.ea.filter _, fun x hx => h.nok x (List.mem_filter.1 hx).1, ?_⟩
  intro e he
  simp only [gDropN] at he
  rw [hE] at he
  obtain ⟨he1, he2⟩ := List.mem_filter.1 he
  obtain ⟨e1, e2, e3, e4⟩ := h.eok e he1
  simp only [atN, Bool.not_or, Bool.and_eq_true, Bool.not_eq_true', decide_eq_false_iff_not] at he2
  refine ⟨e1, e2, ?_, ?_⟩
  · obtain ⟨x, hx, q⟩ := posOf_pos.1 e3
    exact posOf_pos.2 ⟨x, List.mem_filter.2 ⟨hx, by simp; intro hh; exact he2.1 (q.symm.trans hh)⟩, q⟩
  · obtain ⟨x, hx, q⟩ := posOf_pos.1 e4
    exact posOf_pos.2 ⟨x, List.mem_filter.2 ⟨hx, by simp; intro hh; exact he2.2 (q.symm.trans hh)⟩, q⟩
end Go.Proofs.Ytehdfbhfbidadaa.V
/- The functions' code, as the machine of trees has it: printed by a program of this claim's writer (wip/gen/pcode.py), held by Lean. -/
namespace Go.Proofs.Ytehdfbhfbidadaa.V
open Go
def pc_laws_FnExactLabelSet : PC :=
  .seq (.reg [⟨(some 4), .box 4 (.t 0), none, []⟩, ⟨(some 8), .mv (.c (.b false)), none, []⟩] false) (.seq (.seq (.reg [⟨(some 20), .mv (.t 2), none, []⟩, ⟨(some 21), .lens (.t 20), none, []⟩, ⟨(some 22), .bin .gtr (.t 21) (.c (.i .i64 1048576)), none, []⟩] false) (.cond (.t 22) (.seq (.reg [⟨(some 8), .mv (.c (.b true)), none, []⟩] false) (.ret)) (.skip))) (.seq (.reg [⟨(some 9), .mv (.c (.i .i64 1048576)), none, []⟩] false) (.seq (.reg [⟨(some 23), .load (some 4) (.t 4), none, []⟩, ⟨(some 24), .mv (.t 9), none, []⟩, ⟨(some 25), .call (.ev [] .own) 39 [(.t 23), (.t 24)], none, []⟩, ⟨(some 9), .mv (.t 25), none, []⟩] false) (.seq (.seq (.reg [⟨(some 26), .mv (.t 9), none, []⟩, ⟨(some 27), .bin .lss (.t 26) (.c (.i .i64 0)), none, []⟩] false) (.cond (.t 27) (.seq (.reg [⟨(some 8), .mv (.c (.b true)), none, []⟩] false) (.ret)) (.skip))) (.seq (.reg [⟨(some 29), .load (some 4) (.t 4), none, []⟩, ⟨(some 30), .call (.ev [] .own) 41 [(.t 29)], none, []⟩, ⟨(some 31), .mv (.t 1), none, []⟩, ⟨(some 32), .mv (.t 2), none, []⟩, ⟨(some 33), .mv (.t 3), none, []⟩, ⟨(some 34), .call (.ev [] .imm) 40 [(.t 30), (.t 31), (.t 32), (.t 33)], none, []⟩, ⟨(some 28), .mv (.t 34), none, []⟩, ⟨(some 35), .ext 0 (.t 28), none, []⟩, ⟨(some 36), .ext 1 (.t 28), none, []⟩, ⟨(some 10), .alloc [.nl, .nl, .i .i64 0, .i .i64 0], none, []⟩, ⟨none, .store (some 4) (.t 10) (.t 35), none, []⟩, ⟨(some 11), .mv (.t 36), none, []⟩] false) (.seq (.reg [⟨(some 37), .load (some 4) (.t 4), none, []⟩, ⟨(some 38), .call (.ev [] .own) 41 [(.t 37)], none, []⟩, ⟨(some 12), .alloc [.nl, .nl, .i .i64 0, .i .i64 0], none, []⟩, ⟨none, .store (some 4) (.t 12) (.t 38), none, []⟩] false) (.seq (.reg [⟨(some 40), .load (some 4) (.t 12), none, []⟩, ⟨(some 41), .mv (.t 1), none, []⟩, ⟨(some 42), .mv (.t 2), none, []⟩, ⟨(some 43), .mv (.t 3), none, []⟩, ⟨(some 44), .call (.ev [] .own) 42 [(.t 40), (.t 41), (.t 42), (.t 43)], none, []⟩, ⟨(some 39), .mv (.t 44), none, []⟩, ⟨(some 45), .ext 0 (.t 39), none, []⟩, ⟨(some 46), .ext 1 (.t 39), none, []⟩, ⟨(some 13), .alloc [.nl, .nl, .i .i64 0, .i .i64 0], none, []⟩, ⟨none, .store (some 4) (.t 13) (.t 45), none, []⟩, ⟨(some 14), .mv (.t 46), none, []⟩] false) (.seq (.seq (.reg [⟨(some 47), .load (some 4) (.t 13), none, []⟩, ⟨(some 48), .load (some 4) (.t 10), none, []⟩, ⟨(some 49), .call (.ev [] .own) 43 [(.t 47), (.t 48)], none, []⟩, ⟨(some 50), .un .not (.t 49), none, []⟩, ⟨(some 51), .mv (.t 50), none, []⟩, ⟨(some 52), .mv (.t 14), (some (51, false)), []⟩, ⟨(some 53), .mv (.t 11), (some (51, false)), []⟩, ⟨(some 54), .beq .neq (.t 52) (.t 53), (some (51, false)), []⟩, ⟨(some 55), .pick (.t 51) (.c (.b true)) (.t 54), none, []⟩] false) (.cond (.t 55) (.seq (.reg [⟨(some 8), .mv (.c (.b false)), none, []⟩] false) (.ret)) (.skip))) (.seq (.seq (.reg [⟨(some 56), .load (some 4) (.t 12), none, []⟩, ⟨(some 57), .load (some 4) (.t 4), none, []⟩, ⟨(some 58), .call (.ev [] .own) 41 [(.t 57)], none, [1]⟩, ⟨(some 59), .call (.ev [] .own) 43 [(.t 56), (.t 58)], none, [0, 2, 2]⟩, ⟨(some 60), .un .not (.t 59), none, [3]⟩] true) (.cond (.t 60) (.seq (.reg [⟨(some 8), .mv (.c (.b false)), none, []⟩] false) (.ret)) (.skip))) (.seq (.reg [⟨(some 15), .mv (.c (.i .i64 1)), none, []⟩] false) (.seq (.reg [⟨(some 61), .load (some 4) (.t 12), none, []⟩, ⟨(some 62), .mv (.t 15), none, []⟩, ⟨(some 63), .call (.ev [0] .own) 44 [(.t 61), (.t 62)], none, []⟩, ⟨(some 15), .mv (.t 63), none, []⟩] false) (.seq (.seq (.reg [⟨(some 64), .mv (.t 15), none, []⟩, ⟨(some 65), .bin .lss (.t 64) (.c (.i .i64 0)), none, []⟩, ⟨(some 66), .mv (.t 65), none, []⟩, ⟨(some 67), .load (some 4) (.t 13), (some (66, false)), []⟩, ⟨(some 68), .load (some 4) (.t 10), (some (66, false)), []⟩, ⟨(some 69), .call (.ev [] .own) 43 [(.t 67), (.t 68)], (some (66, false)), []⟩, ⟨(some 70), .un .not (.t 69), (some (66, false)), []⟩, ⟨(some 71), .pick (.t 66) (.c (.b true)) (.t 70), none, []⟩, ⟨(some 72), .mv (.t 71), none, []⟩, ⟨(some 73), .mv (.t 14), (some (72, false)), []⟩, ⟨(some 74), .mv (.t 11), (some (72, false)), []⟩, ⟨(some 75), .beq .neq (.t 73) (.t 74), (some (72, false)), []⟩, ⟨(some 76), .pick (.t 72) (.c (.b true)) (.t 75), none, []⟩] false) (.cond (.t 76) (.seq (.reg [⟨(some 8), .mv (.c (.b false)), none, []⟩] false) (.ret)) (.skip))) (.seq (.reg [⟨(some 16), .mv (.c (.i .i64 1)), none, []⟩] false) (.seq (.reg [⟨(some 77), .load (some 4) (.t 13), none, []⟩, ⟨(some 78), .mv (.t 16), none, []⟩, ⟨(some 79), .call (.ev [0] .own) 44 [(.t 77), (.t 78)], none, []⟩, ⟨(some 16), .mv (.t 79), none, []⟩] false) (.seq (.reg [⟨(some 17), .mv (.c (.i .i64 1)), none, []⟩] false) (.seq (.reg [⟨(some 80), .load (some 4) (.t 13), none, []⟩, ⟨(some 81), .mv (.t 17), none, []⟩, ⟨(some 82), .call (.ev [] .own) 45 [(.t 80), (.t 81)], none, []⟩, ⟨(some 17), .mv (.t 82), none, []⟩] false) (.seq (.seq (.reg [⟨(some 83), .mv (.t 17), none, []⟩, ⟨(some 84), .bin .lss (.t 83) (.c (.i .i64 0)), none, []⟩] false) (.cond (.t 84) (.seq (.reg [⟨(some 8), .mv (.c (.b false)), none, []⟩] false) (.ret)) (.skip))) (.seq (.seq (.reg [⟨(some 85), .mv (.t 17), none, []⟩, ⟨(some 86), .mv (.t 16), none, []⟩, ⟨(some 87), .bin .neq (.t 85) (.t 86), none, []⟩] false) (.cond (.t 87) (.seq (.reg [⟨(some 8), .mv (.c (.b false)), none, []⟩] false) (.ret)) (.skip))) (.seq (.reg [⟨(some 89), .load (some 4) (.t 4), none, []⟩, ⟨(some 90), .call (.ev [] .own) 41 [(.t 89)], none, []⟩, ⟨(some 91), .mv (.t 1), none, []⟩, ⟨(some 92), .mv (.t 2), none, []⟩, ⟨(some 93), .mv (.t 3), none, []⟩, ⟨(some 94), .call (.ev [] .own) 42 [(.t 90), (.t 91), (.t 92), (.t 93)], none, []⟩, ⟨(some 88), .mv (.t 94), none, []⟩, ⟨(some 95), .ext 0 (.t 88), none, []⟩, ⟨(some 96), .ext 1 (.t 88), none, []⟩, ⟨(some 18), .alloc [.nl, .nl, .i .i64 0, .i .i64 0], none, []⟩, ⟨none, .store (some 4) (.t 18) (.t 95), none, []⟩, ⟨(some 19), .mv (.t 96), none, []⟩] false) (.seq (.seq (.reg [⟨(some 97), .load (some 4) (.t 18), none, []⟩, ⟨(some 98), .load (some 4) (.t 10), none, []⟩, ⟨(some 99), .call (.ev [] .own) 43 [(.t 97), (.t 98)], none, []⟩, ⟨(some 100), .un .not (.t 99), none, []⟩, ⟨(some 101), .mv (.t 100), none, []⟩, ⟨(some 102), .mv (.t 19), (some (101, false)), []⟩, ⟨(some 103), .mv (.t 11), (some (101, false)), []⟩, ⟨(some 104), .beq .neq (.t 102) (.t 103), (some (101, false)), []⟩, ⟨(some 105), .pick (.t 101) (.c (.b true)) (.t 104), none, []⟩] false) (.cond (.t 105) (.seq (.reg [⟨(some 8), .mv (.c (.b false)), none, []⟩] false) (.ret)) (.skip))) (.seq (.reg [⟨(some 17), .mv (.c (.i .i64 1)), none, []⟩] false) (.seq (.reg [⟨(some 106), .load (some 4) (.t 13), none, []⟩, ⟨(some 107), .mv (.t 17), none, []⟩, ⟨(some 108), .call (.ev [] .own) 45 [(.t 106), (.t 107)], none, []⟩, ⟨(some 17), .mv (.t 108), none, []⟩] false) (.seq (.seq (.reg [⟨(some 109), .mv (.t 17), none, []⟩, ⟨(some 110), .bin .lss (.t 109) (.c (.i .i64 0)), none, []⟩] false) (.cond (.t 110) (.seq (.reg [⟨(some 8), .mv (.c (.b false)), none, []⟩] false) (.ret)) (.skip))) (.seq (.seq (.reg [⟨(some 111), .mv (.t 17), none, []⟩, ⟨(some 112), .mv (.t 16), none, []⟩, ⟨(some 113), .bin .neq (.t 111) (.t 112), none, []⟩] false) (.cond (.t 113) (.seq (.reg [⟨(some 8), .mv (.c (.b false)), none, []⟩] false) (.ret)) (.skip))) (.seq (.reg [⟨(some 8), .mv (.c (.b true)), none, []⟩] false) (.ret))))))))))))))))))))))))))
theorem ok_laws_FnExactLabelSet : (Try.f8.body).bind (comp Try.prog modes Try.f8.ntmps) = some pc_laws_FnExactLabelSet := by kernel_rfl
theorem via_laws_FnExactLabelSet {args outs : List T} {r : T} (ha : args.length ≤ 114) (h : W Try.prog modes 114 pc_laws_FnExactLabelSet (enter args) (fin Try.prog [.tmp 8] args r outs)) : Ret Try.prog 8 args r outs := Ret.of Try.func8 ok_laws_FnExactLabelSet rfl rfl ha h
end Go.Proofs.Ytehdfbhfbidadaa.V
/- The law FnExactLabelSet holds of trees: printed by a program of this claim's writer (wip/gen/exlaw.py). -/
namespace Go.Proofs.Ytehdfbhfbidadaa.V
open Go
set_option linter.unusedVariables false
set_option linter.unusedSimpArgs false
set_option maxHeartbeats 32000000
theorem cl_set {α : Type} {c : α → Nat} {l : List α} {k : Nat} {x y : α} (hx : l[k]? = some x) : cl c (l.set k y) + c x = cl c l + c y := by
  obtain ⟨l1, l2, rfl, hl⟩ := split_at hx
  rw [← hl, set_split]
  unfold cl sums
  simp only [List.length_append, List.length_cons, List.map_append, List.map_cons, List.sum_append, List.sum_cons]
  omega
theorem labNext_cnt (lb : Tx) (has : Bool) (l : List Tx) : cl List.length (labNext lb has l) ≤ cl List.length l + lb.length + 1 := by
  have h1 : cl List.length (labOut lb l) ≤ cl List.length l := cl_filter (c := List.length) (q := fun x => !decide (x = lb)) (l := l)
  unfold labNext
  split
  · unfold insT
    have h2 : cl List.length ((labOut lb l).take (ltLen lb (labOut lb l))) + cl List.length ((labOut lb l).drop (ltLen lb (labOut lb l))) = cl List.length (labOut lb l) := by
      rw [← cl_append, List.take_append_drop]
    rw [cl_append, cl_cons]; omega
  · omega
theorem labelSet_cnt (g : Gr) (id : Int) (lb : Tx) (has : Bool) : (labelSet g id lb has).1.cnt ≤ g.cnt + 8 + 1 := by
  have h0 : zG.cnt = 0 := rfl
  unfold labelSet
  split
  · split
    · simp only; omega
    · rename_i h
      have hn : lb.length ≤ 8 := nameOk_len (by cases q : nameOk lb with | true => rfl | false => exact absurd (.inr q) h)
      split
      · rename_i n hn2
        unfold setL
        split
        · have h3 := labNext_cnt lb has n.labels
          have h4 := cl_set (c := Nd.cnt) (y := ⟨n.id, labNext lb has n.labels, n.props⟩) hn2
          simp only [gSetL, Gr.cnt, Nd.cnt] at h4 ⊢
          omega
        · simp only; omega
      · simp only; omega
  · simp only [h0]; omega
theorem specLabelSet_i (g : Gr) (hf : g.fit) (hc : g.cnt ≤ 2 ^ 20) (id : Int) (lb : Tx) (hlb : ln lb) (has : Bool) : Ri Try.prog 40 [.agg (sG.I g), .i .i64 id, .s lb, .b has] (.tup [.agg (sG.I (labelSet g id lb has).1), .b (labelSet g id lb has).2]) :=
  ⟨_, specLabelSet_c g hf hc id lb hlb has, by simp [sG.toO]⟩
theorem FnExactLabelSet_t (g : Gr) (hg : g.fit) (id : Int) (hid : i64 id) (lb : Tx) (hlb : ln lb) (has : Bool) : Rv Try.prog 8 [.agg (sG.I g), .i .i64 id, .s lb, .b has] (.b true) := by
  by_cases hs0 : 1048576 < (lb.length : Int)
  · obtain ⟨l_g, es_g, nn_g, ne_g⟩ := g
    refine via_laws_FnExactLabelSet (by simp) ?_
    simp [pc_laws_FnExactLabelSet, hs0]
    exact fin_val rfl (by simp) (by simp)
  have sz0 := szGraph_c g hg 1048576 (by omega) (by omega)
  by_cases hc0 : (1048576 : Int) - (g.cnt : Nat) < 0
  · rw [left_neg hc0] at sz0
    obtain ⟨l_g, es_g, nn_g, ne_g⟩ := g
    refine via_laws_FnExactLabelSet (by simp) ?_
    simp [pc_laws_FnExactLabelSet, hs0]
    refine callK_val (by simp) sz0 rfl ?_
    simp [hs0]
    exact fin_val rfl (by simp) (by simp)
  rw [left_pos hc0] at sz0
  have hcg : g.cnt ≤ 2 ^ 20 := by omega
  have tog := toGraph_c g (by omega)
  obtain ⟨r0, hr0⟩ : ∃ r, r = (labelSet g id lb has).1 := ⟨_, rfl⟩
  have hrc0 : r0.cnt ≤ 2 ^ 22 := by
    rw [hr0]; have := labelSet_cnt g id lb has; omega
  obtain ⟨r1, hr1⟩ : ∃ r, r = (labelSet g id lb has).2 := ⟨_, rfl⟩
  have sp := (specLabelSet_i g hg hcg id lb hlb has)
  have im := LabelSet_c g hg hcg id lb hlb has
  rw [← hr0, ← hr1] at sp im
  have eqr0 := eqGraph_c r0 (by omega)
  have eqg := eqGraph_c g (by omega)
  have mkg := markGraph_c g 1 (by omega) (by omega)
  have fag := mkG_far g 1
  have mlg1 : (mkG 1 g).1.nodes.length = g.nodes.length := by cases g; simp [mkG, mkL_len]
  have mlg2 : (mkG 1 g).1.edges.length = g.edges.length := by cases g; simp [mkG, mkL_len]
  obtain ⟨q0, hq0⟩ : ∃ q, q = (mkG 1 g).2 := ⟨_, rfl⟩
  rw [← hq0] at mkg fag
  have negq0 : ¬ q0 < 0 := by omega
  have mkr0 := markGraph_c r0 1 (by omega) (by omega)
  have hdr0 := heldGraph_c r0 1 (by omega) (by omega)
  have far0 := mkG_far r0 1
  have mlr01 : (mkG 1 r0).1.nodes.length = r0.nodes.length := by cases r0; simp [mkG, mkL_len]
  have mlr02 : (mkG 1 r0).1.edges.length = r0.edges.length := by cases r0; simp [mkG, mkL_len]
  obtain ⟨p0, hp0⟩ : ∃ q, q = (mkG 1 r0).2 := ⟨_, rfl⟩
  have mgr0 : (mkG 1 r0).1 = ⟨(mkG 1 r0).1.nodes, (mkG 1 r0).1.edges, r0.nn, r0.ne⟩ := by cases r0; rfl
  rw [mgr0] at hdr0
  clear mgr0
  rw [← hp0] at mkr0 far0 hdr0
  have negp0 : ¬ p0 < 0 := by omega
  clear hq0
  clear hp0
  generalize hg0 : (mkG 1 g).1.nodes = gm0 at *
  generalize hg1 : (mkG 1 g).1.edges = gm1 at *
  generalize hg2 : (mkG 1 r0).1.nodes = gm2 at *
  generalize hg3 : (mkG 1 r0).1.edges = gm3 at *
  clear hr0 hr1
  obtain ⟨l_g, es_g, nn_g, ne_g⟩ := g
  obtain ⟨l_r0, es_r0, nn_r0, ne_r0⟩ := r0
  try simp only [Gr.nodes, Gr.edges] at mlg1 mlg2 mlr01 mlr02 mkg mkr0 hdr0
  refine via_laws_FnExactLabelSet (by simp) ?_
  simp [pc_laws_FnExactLabelSet, hs0]
  refine callK_val (by simp) sz0 (by simp [T.noImm]) ?_
  simp [hs0, hc0, negq0, negp0]
  repeat with_reducible refine need_mk (by decide +kernel) ?_
  refine callK_val (by simp) tog (by simp [T.noImm]) ?_
  simp [hs0, hc0, negq0, negp0]
  repeat with_reducible refine need_mk (by decide +kernel) ?_
  refine callK_ri (by simp) sp ?_
  simp [hs0, hc0, negq0, negp0]
  repeat with_reducible refine need_mk (by decide +kernel) ?_
  refine callK_val (by simp) tog (by simp [T.noImm]) ?_
  simp [hs0, hc0, negq0, negp0]
  repeat with_reducible refine need_mk (by decide +kernel) ?_
  refine callK_val (by simp) im (by simp [T.noImm]) ?_
  simp [hs0, hc0, negq0, negp0]
  repeat with_reducible refine need_mk (by decide +kernel) ?_
  refine callK_val (by simp) eqr0 (by simp [T.noImm]) ?_
  simp [hs0, hc0, negq0, negp0]
  repeat with_reducible refine need_mk (by decide +kernel) ?_
  refine callK_val (by simp) tog (by simp [T.noImm]) ?_
  simp [hs0, hc0, negq0, negp0]
  repeat with_reducible refine need_mk (by decide +kernel) ?_
  refine callK_val (by simp) eqg (by simp [T.noImm]) ?_
  simp [hs0, hc0, negq0, negp0]
  repeat with_reducible refine need_mk (by decide +kernel) ?_
  refine callK_mut (by simp) mkg (by simp [mlg1, mlg2]; rfl) (by simp) (by simp) rfl (by simp [T.noImm]) ?_
  simp [hs0, hc0, negq0, negp0]
  repeat with_reducible refine need_mk (by decide +kernel) ?_
  refine callK_val (by simp) eqr0 (by simp [T.noImm]) ?_
  simp [hs0, hc0, negq0, negp0]
  repeat with_reducible refine need_mk (by decide +kernel) ?_
  refine callK_mut (by simp) mkr0 (by simp [mlr01, mlr02]; rfl) (by simp) (by simp) rfl (by simp [T.noImm]) ?_
  simp [hs0, hc0, negq0, negp0]
  repeat with_reducible refine need_mk (by decide +kernel) ?_
  refine callK_val (by simp [mlr01, mlr02, take_map_eq mlr01, take_map_eq mlr02]) hdr0 (by simp [T.noImm]) ?_
  simp [hs0, hc0, negq0, negp0]
  repeat with_reducible refine need_mk (by decide +kernel) ?_
  refine callK_val (by simp) tog (by simp [T.noImm]) ?_
  simp [hs0, hc0, negq0, negp0]
  repeat with_reducible refine need_mk (by decide +kernel) ?_
  refine callK_val (by simp) im (by simp [T.noImm]) ?_
  simp [hs0, hc0, negq0, negp0]
  repeat with_reducible refine need_mk (by decide +kernel) ?_
  refine callK_val (by simp) eqr0 (by simp [T.noImm]) ?_
  simp [hs0, hc0, negq0, negp0]
  repeat with_reducible refine need_mk (by decide +kernel) ?_
  refine callK_val (by simp [mlr01, mlr02, take_map_eq mlr01, take_map_eq mlr02]) hdr0 (by simp [T.noImm]) ?_
  simp [hs0, hc0, negq0, negp0]
  repeat refine need_mk (by decide +kernel) ?_
  exact fin_val rfl (by simp) (by simp)
end Go.Proofs.Ytehdfbhfbidadaa.V
/- Arguments that came in, as kinds of data. -/
namespace Go.Proofs.Ytehdfbhfbidadaa.V
open Go Go.RowKit
set_option linter.unusedVariables false
set_option linter.unusedSimpArgs false
theorem wf_i64 {y : Int} (h : (Lit.int .i64 y).wf = true) : i64 y := by
  simp [Lit.wf, IntKind.min, IntKind.max, IntKind.signed, IntKind.bits] at h
  exact ⟨by omega, by omega⟩
theorem op_int (n : Nat) : OpensT Try.prog n 3 (fun ts => ∃ y, ts = [.i .i64 y] ∧ i64 y) :=
  ot_mono (ot_int Try.underlying3) fun ts ⟨y, h1, h2⟩ => ⟨y, h1, wf_i64 h2⟩
theorem op_string (n : Nat) : OpensT Try.prog n 9 (fun ts => ∃ y : Tx, ts = [.s y] ∧ ln y) :=
  ot_mono (ot_string Try.underlying9) fun ts ⟨y, h1, h2⟩ => ⟨y, h1, by simpa [maxLen] using h2⟩
theorem op_list {α : Type} {f : α → List T} {p : α → Prop} {n : Nat} {t e : TypeId} {sz : Nat} (ht : Try.prog.underlying t = some (.slice e)) (hc : Try.prog.cellsOf e = sz) (h0 : 0 < sz) (he : ∀ m, m < n → OpensT Try.prog m e (fun ts => ∃ a, ts = f a ∧ p a)) :
    OpensT Try.prog n t (fun ts => ∃ l : List α, ts = [.imm (l.map f)] ∧ ln l ∧ ∀ a ∈ l, p a) :=
  ot_mono (ot_slice ht hc h0 he) fun ts ⟨rows, h1, h2, h3⟩ => by
    obtain ⟨l, rfl, hl⟩ := rows_list fun r hr => (h3 r hr).1
    exact ⟨l, h1, by simpa [maxLen] using h2, hl⟩
theorem op_Value (n : Nat) : OpensT Try.prog n 24 (fun ts => ∃ v, ts = sV.I v ∧ v.fit) := by
  induction n using Nat.strongRecOn with
  | _ n ih =>
    refine ot_mono (ot_struct (qs := [(3, fun ts => ∃ y, ts = [.i .i64 y] ∧ i64 y), (3, fun ts => ∃ y, ts = [.i .i64 y] ∧ i64 y), (9, fun ts => ∃ y : Tx, ts = [.s y] ∧ ln y), (22, fun ts => ∃ l : List Vl, ts = [.imm (l.map sV.I)] ∧ ln l ∧ ∀ v ∈ l, v.fit)])
      Try.underlying24 (by kernel_rfl) (by kernel_rfl) ?_) ?_
    · intro m hm p hp
      simp only [List.mem_cons, List.not_mem_nil, or_false] at hp
      rcases hp with rfl | rfl | rfl | rfl
      · exact op_int m
      · exact op_int m
      · exact op_string m
      · exact op_list (sz := 4) Try.underlying22 (by kernel_rfl) (by omega) fun m' hm' => ih m' (by omega)
    · rintro ts ⟨a, r, rfl, ⟨k, rfl, hk⟩, _, b, r, rfl, ⟨n, rfl, hn⟩, _, c, r, rfl, ⟨s, rfl, hs⟩, _, d, r, rfl, ⟨l, rfl, hl, hv⟩, _, rfl⟩
      exact ⟨.mk k n s l, by simp, Vl.fit_mk.2 ⟨hk, hn, hs, hl, hv⟩⟩
theorem op_Prop (n : Nat) : OpensT Try.prog n 206 (fun ts => ∃ v, ts = sP.I v ∧ v.fit) := by
  refine ot_mono (ot_struct (qs := [(9, fun ts => ∃ y : Tx, ts = [.s y] ∧ ln y), (24, fun ts => ∃ v, ts = sV.I v ∧ v.fit)]) Try.underlying206 (by kernel_rfl) (by kernel_rfl) ?_) ?_
  · intro m hm p hp
    simp only [List.mem_cons, List.not_mem_nil, or_false] at hp
    rcases hp with rfl | rfl
    · exact op_string m
    · exact op_Value m
  · rintro ts ⟨a, r, rfl, ⟨s, rfl, hs⟩, _, b, r, rfl, ⟨v, rfl, hv⟩, _, rfl⟩
    exact ⟨⟨s, v⟩, by simp, hs, hv⟩
theorem op_PropS (n : Nat) : OpensT Try.prog n 169 (fun ts => ∃ l : List Pr, ts = [.imm (l.map sP.I)] ∧ ln l ∧ ∀ a ∈ l, a.fit) :=
  op_list (sz := 5) Try.underlying169 (by kernel_rfl) (by omega) fun m _ => op_Prop m
theorem op_StringS (n : Nat) : OpensT Try.prog n 80 (fun ts => ∃ l : List Tx, ts = [.imm (l.map sS.I)] ∧ ln l ∧ ∀ a ∈ l, ln a) :=
  op_list (sz := 1) Try.underlying80 (by kernel_rfl) (by omega) fun m _ => op_string m
theorem op_Node (n : Nat) : OpensT Try.prog n 171 (fun ts => ∃ v, ts = sN.I v ∧ v.fit) := by
  refine ot_mono (ot_struct (qs := [(3, fun ts => ∃ y, ts = [.i .i64 y] ∧ i64 y), (80, fun ts => ∃ l : List Tx, ts = [.imm (l.map sS.I)] ∧ ln l ∧ ∀ a ∈ l, ln a), (169, fun ts => ∃ l : List Pr, ts = [.imm (l.map sP.I)] ∧ ln l ∧ ∀ a ∈ l, a.fit)]) Try.underlying171 (by kernel_rfl) (by kernel_rfl) ?_) ?_
  · intro m hm p hp
    simp only [List.mem_cons, List.not_mem_nil, or_false] at hp
    rcases hp with rfl | rfl | rfl
    · exact op_int m
    · exact op_StringS m
    · exact op_PropS m
  · rintro ts ⟨a, r, rfl, ⟨i, rfl, hi⟩, _, b, r, rfl, ⟨l, rfl, hl⟩, _, c, r, rfl, ⟨p, rfl, hp⟩, _, rfl⟩
    exact ⟨⟨i, l, p⟩, by simp, hi, hl.1, hl.2, hp.1, hp.2⟩
theorem op_Edge (n : Nat) : OpensT Try.prog n 174 (fun ts => ∃ v, ts = sE.I v ∧ v.fit) := by
  refine ot_mono (ot_struct (qs := [(3, fun ts => ∃ y, ts = [.i .i64 y] ∧ i64 y), (9, fun ts => ∃ y : Tx, ts = [.s y] ∧ ln y), (3, fun ts => ∃ y, ts = [.i .i64 y] ∧ i64 y), (3, fun ts => ∃ y, ts = [.i .i64 y] ∧ i64 y), (169, fun ts => ∃ l : List Pr, ts = [.imm (l.map sP.I)] ∧ ln l ∧ ∀ a ∈ l, a.fit)]) Try.underlying174 (by kernel_rfl) (by kernel_rfl) ?_) ?_
  · intro m hm p hp
    simp only [List.mem_cons, List.not_mem_nil, or_false] at hp
    rcases hp with rfl | rfl | rfl | rfl | rfl
    · exact op_int m
    · exact op_string m
    · exact op_int m
    · exact op_int m
    · exact op_PropS m
  · rintro ts ⟨a, r, rfl, ⟨i, rfl, hi⟩, _, b, r, rfl, ⟨k, rfl, hk⟩, _, c, r, rfl, ⟨f, rfl, hf⟩, _, d, r, rfl, ⟨t, rfl, ht⟩, _, e, r, rfl, ⟨p, rfl, hp⟩, _, rfl⟩
    exact ⟨⟨i, k, f, t, p⟩, by simp, hi, hk, hf, ht, hp.1, hp.2⟩
theorem op_Graph (n : Nat) : OpensT Try.prog n 66 (fun ts => ∃ v, ts = sG.I v ∧ v.fit) := by
  refine ot_mono (ot_struct (qs := [(63, fun ts => ∃ l : List Nd, ts = [.imm (l.map sN.I)] ∧ ln l ∧ ∀ a ∈ l, a.fit), (64, fun ts => ∃ l : List Eg, ts = [.imm (l.map sE.I)] ∧ ln l ∧ ∀ a ∈ l, a.fit), (3, fun ts => ∃ y, ts = [.i .i64 y] ∧ i64 y), (3, fun ts => ∃ y, ts = [.i .i64 y] ∧ i64 y)]) Try.underlying66 (by kernel_rfl) (by kernel_rfl) ?_) ?_
  · intro m hm p hp
    simp only [List.mem_cons, List.not_mem_nil, or_false] at hp
    rcases hp with rfl | rfl | rfl | rfl
    · exact op_list (sz := 3) Try.underlying63 (by kernel_rfl) (by omega) fun m _ => op_Node m
    · exact op_list (sz := 5) Try.underlying64 (by kernel_rfl) (by omega) fun m _ => op_Edge m
    · exact op_int m
    · exact op_int m
  · rintro ts ⟨a, r, rfl, ⟨l, rfl, hl⟩, _, b, r, rfl, ⟨es, rfl, he⟩, _, c, r, rfl, ⟨x, rfl, hx⟩, _, d, r, rfl, ⟨y, rfl, hy⟩, _, rfl⟩
    exact ⟨⟨l, es, x, y⟩, by simp, hl.1, hl.2, he.1, he.2, hx, hy⟩
end Go.Proofs.Ytehdfbhfbidadaa.V
