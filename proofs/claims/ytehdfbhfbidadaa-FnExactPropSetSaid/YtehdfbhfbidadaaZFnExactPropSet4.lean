/- The law FnExactPropSet of the given program holds of every input (theorem fnExactPropSet_holds, the last of these texts): part 4 of 7. -/
import Derived.Below
import Derived.Carry
import Derived.Test.YtehdfbhfbidadaaZFnExactPropSet3
/- The functions' code, as the machine of trees has it: printed by a program of this claim's writer (wip/gen/pcode.py), held by Lean. -/
namespace Go.Proofs.Ytehdfbhfbidadaa.V
open Go
def pc_spec_l2Copy : PC :=
  .seq (.reg [⟨(some 1), .box 4 (.t 0), none, []⟩, ⟨(some 2), .alloc [.nl, .nl, .i .i64 0, .i .i64 0], none, []⟩] false) (.seq (.reg [⟨(some 8), .fa 2 (.t 1), none, []⟩, ⟨(some 9), .load none (.t 8), none, []⟩, ⟨(some 10), .fa 3 (.t 1), none, []⟩, ⟨(some 11), .load none (.t 10), none, []⟩, ⟨(some 12), .build [.nl, .nl, .i .i64 0, .i .i64 0] [(2, 1, (.t 9)), (3, 1, (.t 11))], none, []⟩, ⟨(some 3), .alloc [.nl, .nl, .i .i64 0, .i .i64 0], none, []⟩, ⟨none, .store (some 4) (.t 3) (.t 12), none, []⟩] false) (.seq (.seq (.reg [⟨(some 4), .mv (.c (.i .i64 0)), none, []⟩] false) (.block 0 (.loop (.seq (.seq (.reg [⟨(some 13), .mv (.t 4), none, []⟩, ⟨(some 14), .fa 0 (.t 1), none, []⟩, ⟨(some 15), .load none (.t 14), none, []⟩, ⟨(some 16), .len (.t 15), none, []⟩, ⟨(some 17), .bin .lss (.t 13) (.t 16), none, []⟩] false) (.cond (.t 17) (.skip) (.exit 0))) (.seq (.block 1 (.seq (.reg [⟨(some 20), .fa 0 (.t 1), none, []⟩, ⟨(some 21), .load none (.t 20), none, []⟩, ⟨(some 22), .mv (.t 4), none, []⟩, ⟨(some 23), .ia 3 (.t 21) (.t 22), none, []⟩, ⟨(some 24), .load (some 3) (.t 23), none, []⟩, ⟨(some 5), .alloc [.i .i64 0, .nl, .nl], none, []⟩, ⟨none, .store (some 3) (.t 5) (.t 24), none, []⟩] false) (.reg [⟨(some 25), .fa 0 (.t 3), none, []⟩, ⟨(some 26), .load none (.t 25), none, [0]⟩, ⟨(some 27), .fa 0 (.t 5), none, []⟩, ⟨(some 28), .load none (.t 27), none, [2]⟩, ⟨(some 29), .mksl 1 [], none, []⟩, ⟨(some 30), .fa 1 (.t 5), none, []⟩, ⟨(some 31), .load none (.t 30), none, [5]⟩, ⟨(some 32), .app 1 16 (.t 29) (.t 31), none, [4, 6]⟩, ⟨(some 33), .fa 2 (.t 5), none, []⟩, ⟨(some 34), .load none (.t 33), none, [8]⟩, ⟨(some 35), .call (.ev [] .own) 153 [(.t 34)], none, [9, 7]⟩, ⟨(some 36), .build [.i .i64 0, .nl, .nl] [(0, 1, (.t 28)), (1, 1, (.t 32)), (2, 1, (.t 35))], none, [3, 7, 10]⟩, ⟨(some 37), .mksl 3 [(.t 36)], none, [11]⟩, ⟨(some 38), .app 3 56 (.t 26) (.t 37), none, [1, 12, 10]⟩, ⟨(some 39), .fa 0 (.t 3), none, [0, 1, 2, 3, 4, 5, 6, 7, 8, 9, 10, 11, 12, 13]⟩, ⟨none, .store none (.t 39) (.t 38), none, [14, 13, 13, 0, 1, 2, 3, 4, 5, 6, 7, 8, 9, 10, 11, 12, 13]⟩] true))) (.reg [⟨(some 18), .mv (.t 4), none, []⟩, ⟨(some 19), .bin .add (.t 18) (.c (.i .i64 1)), none, []⟩, ⟨(some 4), .mv (.t 19), none, []⟩] false)))))) (.seq (.seq (.reg [⟨(some 6), .mv (.c (.i .i64 0)), none, []⟩] false) (.block 2 (.loop (.seq (.seq (.reg [⟨(some 40), .mv (.t 6), none, []⟩, ⟨(some 41), .fa 1 (.t 1), none, []⟩, ⟨(some 42), .load none (.t 41), none, []⟩, ⟨(some 43), .len (.t 42), none, []⟩, ⟨(some 44), .bin .lss (.t 40) (.t 43), none, []⟩] false) (.cond (.t 44) (.skip) (.exit 2))) (.seq (.block 3 (.seq (.reg [⟨(some 47), .fa 1 (.t 1), none, []⟩, ⟨(some 48), .load none (.t 47), none, []⟩, ⟨(some 49), .mv (.t 6), none, []⟩, ⟨(some 50), .ia 5 (.t 48) (.t 49), none, []⟩, ⟨(some 51), .load (some 5) (.t 50), none, []⟩, ⟨(some 7), .alloc [.i .i64 0, .s [], .i .i64 0, .i .i64 0, .nl], none, []⟩, ⟨none, .store (some 5) (.t 7) (.t 51), none, []⟩] false) (.seq (.reg [⟨(some 52), .fa 4 (.t 7), none, []⟩, ⟨(some 53), .load none (.t 52), none, []⟩, ⟨(some 54), .call (.ev [] .own) 153 [(.t 53)], none, []⟩, ⟨(some 55), .fa 4 (.t 7), none, []⟩, ⟨none, .store none (.t 55) (.t 54), none, []⟩] false) (.reg [⟨(some 56), .fa 1 (.t 3), none, []⟩, ⟨(some 57), .load none (.t 56), none, []⟩, ⟨(some 58), .load (some 5) (.t 7), none, []⟩, ⟨(some 59), .mksl 5 [(.t 58)], none, []⟩, ⟨(some 60), .app 5 64 (.t 57) (.t 59), none, []⟩, ⟨(some 61), .fa 1 (.t 3), none, []⟩, ⟨none, .store none (.t 61) (.t 60), none, []⟩] false)))) (.reg [⟨(some 45), .mv (.t 6), none, []⟩, ⟨(some 46), .bin .add (.t 45) (.c (.i .i64 1)), none, []⟩, ⟨(some 6), .mv (.t 46), none, []⟩] false)))))) (.seq (.reg [⟨(some 62), .load (some 4) (.t 3), none, []⟩, ⟨none, .store (some 4) (.t 2) (.t 62), none, []⟩] false) (.ret)))))
theorem ok_spec_l2Copy : (Try.f92.body).bind (comp Try.prog modes Try.f92.ntmps) = some pc_spec_l2Copy := by kernel_rfl
theorem via_spec_l2Copy {args outs : List T} {r : T} (ha : args.length ≤ 63) (h : W Try.prog modes 63 pc_spec_l2Copy (enter args) (fin Try.prog [.cell 2 54] args r outs)) : Ret Try.prog 92 args r outs := Ret.of Try.func92 ok_spec_l2Copy rfl rfl ha h
def pc_spec_l2Edge : PC :=
  .seq (.reg [⟨(some 2), .box 4 (.t 0), none, []⟩, ⟨(some 4), .mv (.c (.i .i64 0)), none, []⟩] false) (.seq (.seq (.reg [⟨(some 5), .mv (.c (.i .i64 0)), none, []⟩] false) (.block 0 (.loop (.seq (.seq (.reg [⟨(some 6), .mv (.t 5), none, []⟩, ⟨(some 7), .fa 1 (.t 2), none, []⟩, ⟨(some 8), .load none (.t 7), none, []⟩, ⟨(some 9), .len (.t 8), none, []⟩, ⟨(some 10), .bin .lss (.t 6) (.t 9), none, []⟩] false) (.cond (.t 10) (.skip) (.exit 0))) (.seq (.block 1 (.seq (.reg [⟨(some 13), .fa 1 (.t 2), none, []⟩, ⟨(some 14), .load none (.t 13), none, []⟩, ⟨(some 15), .mv (.t 5), none, []⟩, ⟨(some 16), .ia 5 (.t 14) (.t 15), none, []⟩, ⟨(some 17), .fa 0 (.t 16), none, []⟩, ⟨(some 18), .load none (.t 17), none, []⟩, ⟨(some 19), .mv (.t 1), none, []⟩, ⟨(some 20), .bin .eql (.t 18) (.t 19), none, []⟩] false) (.cond (.t 20) (.seq (.reg [⟨(some 21), .mv (.t 5), none, []⟩, ⟨(some 4), .mv (.t 21), none, []⟩] false) (.ret)) (.skip)))) (.reg [⟨(some 11), .mv (.t 5), none, []⟩, ⟨(some 12), .bin .add (.t 11) (.c (.i .i64 1)), none, []⟩, ⟨(some 5), .mv (.t 12), none, []⟩] false)))))) (.seq (.reg [⟨(some 4), .mv (.c (.i .i64 (-1))), none, []⟩] false) (.ret)))
theorem ok_spec_l2Edge : (Try.f168.body).bind (comp Try.prog modes Try.f168.ntmps) = some pc_spec_l2Edge := by kernel_rfl
theorem via_spec_l2Edge {args outs : List T} {r : T} (ha : args.length ≤ 22) (h : W Try.prog modes 22 pc_spec_l2Edge (enter args) (fin Try.prog [.tmp 4] args r outs)) : Ret Try.prog 168 args r outs := Ret.of Try.func168 ok_spec_l2Edge rfl rfl ha h
def pc_spec_l2Kept : PC :=
  .seq (.reg [⟨(some 2), .mv (.c (.b false)), none, []⟩] false) (.seq (.reg [⟨(some 5), .mksl 1 [(.c (.s [77, 65, 84, 67, 72])), (.c (.s [79, 80, 84, 73, 79, 78, 65, 76])), (.c (.s [87, 72, 69, 82, 69])), (.c (.s [85, 78, 87, 73, 78, 68])), (.c (.s [87, 73, 84, 72])), (.c (.s [82, 69, 84, 85, 82, 78])), (.c (.s [67, 82, 69, 65, 84, 69])), (.c (.s [83, 69, 84])), (.c (.s [68, 69, 76, 69, 84, 69])), (.c (.s [68, 69, 84, 65, 67, 72])), (.c (.s [65, 83])), (.c (.s [65, 78, 68])), (.c (.s [79, 82])), (.c (.s [78, 79, 84])), (.c (.s [73, 83])), (.c (.s [78, 85, 76, 76])), (.c (.s [73, 78])), (.c (.s [68, 73, 83, 84, 73, 78, 67, 84])), (.c (.s [79, 82, 68, 69, 82])), (.c (.s [66, 89])), (.c (.s [68, 69, 83, 67])), (.c (.s [83, 75, 73, 80])), (.c (.s [76, 73, 77, 73, 84])), (.c (.s [110, 117, 108, 108])), (.c (.s [116, 114, 117, 101])), (.c (.s [102, 97, 108, 115, 101])), (.c (.s [99, 111, 117, 110, 116])), (.c (.s [115, 117, 109])), (.c (.s [115, 105, 122, 101]))], none, []⟩, ⟨(some 3), .mv (.t 5), none, []⟩] false) (.seq (.seq (.reg [⟨(some 4), .mv (.c (.i .i64 0)), none, []⟩] false) (.block 0 (.loop (.seq (.seq (.reg [⟨(some 6), .mv (.t 4), none, []⟩, ⟨(some 7), .mv (.t 3), none, []⟩, ⟨(some 8), .len (.t 7), none, []⟩, ⟨(some 9), .bin .lss (.t 6) (.t 8), none, []⟩] false) (.cond (.t 9) (.skip) (.exit 0))) (.seq (.block 1 (.seq (.reg [⟨(some 12), .mv (.t 3), none, []⟩, ⟨(some 13), .mv (.t 4), none, []⟩, ⟨(some 14), .ia 1 (.t 12) (.t 13), none, []⟩, ⟨(some 15), .load none (.t 14), none, []⟩, ⟨(some 16), .mv (.t 0), none, []⟩, ⟨(some 17), .bin .eql (.t 15) (.t 16), none, []⟩] false) (.cond (.t 17) (.seq (.reg [⟨(some 2), .mv (.c (.b true)), none, []⟩] false) (.ret)) (.skip)))) (.reg [⟨(some 10), .mv (.t 4), none, []⟩, ⟨(some 11), .bin .add (.t 10) (.c (.i .i64 1)), none, []⟩, ⟨(some 4), .mv (.t 11), none, []⟩] false)))))) (.seq (.reg [⟨(some 2), .mv (.c (.b false)), none, []⟩] false) (.ret))))
theorem ok_spec_l2Kept : (Try.f131.body).bind (comp Try.prog modes Try.f131.ntmps) = some pc_spec_l2Kept := by kernel_rfl
theorem via_spec_l2Kept {args outs : List T} {r : T} (ha : args.length ≤ 18) (h : W Try.prog modes 18 pc_spec_l2Kept (enter args) (fin Try.prog [.tmp 2] args r outs)) : Ret Try.prog 131 args r outs := Ret.of Try.func131 ok_spec_l2Kept rfl rfl ha h
def pc_spec_l2Labels : PC :=
  .seq (.reg [⟨(some 2), .mv (.c (.b false)), none, []⟩] false) (.seq (.seq (.reg [⟨(some 3), .mv (.c (.i .i64 0)), none, []⟩] false) (.block 0 (.loop (.seq (.seq (.reg [⟨(some 4), .mv (.t 3), none, []⟩, ⟨(some 5), .mv (.t 0), none, []⟩, ⟨(some 6), .len (.t 5), none, []⟩, ⟨(some 7), .bin .lss (.t 4) (.t 6), none, []⟩] false) (.cond (.t 7) (.skip) (.exit 0))) (.seq (.block 1 (.seq (.reg [⟨(some 10), .mv (.t 0), none, []⟩, ⟨(some 11), .mv (.t 3), none, []⟩, ⟨(some 12), .ia 1 (.t 10) (.t 11), none, [0, 1]⟩, ⟨(some 13), .load none (.t 12), none, [2]⟩, ⟨(some 14), .call (.ev [] .own) 67 [(.t 13)], none, [3]⟩, ⟨(some 15), .un .not (.t 14), none, [4]⟩, ⟨(some 16), .mv (.t 15), none, [5, 4]⟩, ⟨(some 17), .mv (.t 3), (some (16, false)), [6]⟩, ⟨(some 18), .bin .gtr (.t 17) (.c (.i .i64 0)), (some (16, false)), [7, 6]⟩, ⟨(some 19), .mv (.t 18), (some (16, false)), [8, 6, 6]⟩, ⟨(some 20), .mv (.t 0), (some (19, true)), [9]⟩, ⟨(some 21), .mv (.t 3), (some (19, true)), [9]⟩, ⟨(some 22), .bin .sub (.t 21) (.c (.i .i64 1)), (some (19, true)), [11, 9]⟩, ⟨(some 23), .ia 1 (.t 20) (.t 22), (some (19, true)), [10, 12, 9]⟩, ⟨(some 24), .load none (.t 23), (some (19, true)), [13, 9]⟩, ⟨(some 25), .mv (.t 0), (some (19, true)), [9]⟩, ⟨(some 26), .mv (.t 3), (some (19, true)), [9]⟩, ⟨(some 27), .ia 1 (.t 25) (.t 26), (some (19, true)), [15, 16, 9]⟩, ⟨(some 28), .load none (.t 27), (some (19, true)), [17, 9]⟩, ⟨(some 29), .bin .geq (.t 24) (.t 28), (some (19, true)), [14, 18, 9]⟩, ⟨(some 30), .pick (.t 19) (.t 29) (.c (.b false)), (some (16, false)), [9, 19, 6]⟩, ⟨(some 31), .pick (.t 16) (.c (.b true)) (.t 30), none, [6, 20]⟩] true) (.cond (.t 31) (.seq (.reg [⟨(some 2), .mv (.c (.b false)), none, []⟩] false) (.ret)) (.skip)))) (.reg [⟨(some 8), .mv (.t 3), none, []⟩, ⟨(some 9), .bin .add (.t 8) (.c (.i .i64 1)), none, []⟩, ⟨(some 3), .mv (.t 9), none, []⟩] false)))))) (.seq (.reg [⟨(some 32), .mv (.t 0), none, []⟩, ⟨(some 33), .len (.t 32), none, []⟩, ⟨(some 34), .bin .leq (.t 33) (.c (.i .i64 3)), none, []⟩, ⟨(some 2), .mv (.t 34), none, []⟩] false) (.ret)))
theorem ok_spec_l2Labels : (Try.f84.body).bind (comp Try.prog modes Try.f84.ntmps) = some pc_spec_l2Labels := by kernel_rfl
theorem via_spec_l2Labels {args outs : List T} {r : T} (ha : args.length ≤ 35) (h : W Try.prog modes 35 pc_spec_l2Labels (enter args) (fin Try.prog [.tmp 2] args r outs)) : Ret Try.prog 84 args r outs := Ret.of Try.func84 ok_spec_l2Labels rfl rfl ha h
def pc_spec_l2Letter : PC :=
  .seq (.reg [⟨(some 2), .mv (.c (.b false)), none, []⟩] false) (.seq (.reg [⟨(some 3), .mv (.t 0), none, []⟩, ⟨(some 4), .bin .geq (.t 3) (.c (.i .u8 97)), none, []⟩, ⟨(some 5), .mv (.t 4), none, []⟩, ⟨(some 6), .mv (.t 0), (some (5, true)), []⟩, ⟨(some 7), .bin .leq (.t 6) (.c (.i .u8 122)), (some (5, true)), []⟩, ⟨(some 8), .pick (.t 5) (.t 7) (.c (.b false)), none, []⟩, ⟨(some 9), .mv (.t 8), none, []⟩, ⟨(some 10), .mv (.t 0), (some (9, false)), []⟩, ⟨(some 11), .bin .geq (.t 10) (.c (.i .u8 65)), (some (9, false)), []⟩, ⟨(some 12), .mv (.t 11), (some (9, false)), []⟩, ⟨(some 13), .mv (.t 0), (some (12, true)), []⟩, ⟨(some 14), .bin .leq (.t 13) (.c (.i .u8 90)), (some (12, true)), []⟩, ⟨(some 15), .pick (.t 12) (.t 14) (.c (.b false)), (some (9, false)), []⟩, ⟨(some 16), .pick (.t 9) (.c (.b true)) (.t 15), none, []⟩, ⟨(some 2), .mv (.t 16), none, []⟩] false) (.ret))
theorem ok_spec_l2Letter : (Try.f130.body).bind (comp Try.prog modes Try.f130.ntmps) = some pc_spec_l2Letter := by kernel_rfl
theorem via_spec_l2Letter {args outs : List T} {r : T} (ha : args.length ≤ 17) (h : W Try.prog modes 17 pc_spec_l2Letter (enter args) (fin Try.prog [.tmp 2] args r outs)) : Ret Try.prog 130 args r outs := Ret.of Try.func130 ok_spec_l2Letter rfl rfl ha h
def pc_spec_l2Name : PC :=
  .seq (.reg [⟨(some 2), .mv (.c (.b false)), none, []⟩] false) (.seq (.seq (.reg [⟨(some 3), .mv (.c (.i .i64 0)), none, []⟩] false) (.block 0 (.loop (.seq (.seq (.reg [⟨(some 4), .mv (.t 3), none, []⟩, ⟨(some 5), .mv (.t 0), none, []⟩, ⟨(some 6), .lens (.t 5), none, []⟩, ⟨(some 7), .bin .lss (.t 4) (.t 6), none, []⟩] false) (.cond (.t 7) (.skip) (.exit 0))) (.seq (.block 1 (.seq (.reg [⟨(some 10), .mv (.t 0), none, []⟩, ⟨(some 11), .mv (.t 3), none, []⟩, ⟨(some 12), .ix (.t 10) (.t 11), none, []⟩, ⟨(some 13), .call (.ev [] .own) 130 [(.t 12)], none, []⟩, ⟨(some 14), .un .not (.t 13), none, []⟩, ⟨(some 15), .mv (.t 14), none, []⟩, ⟨(some 16), .mv (.t 3), (some (15, true)), []⟩, ⟨(some 17), .bin .eql (.t 16) (.c (.i .i64 0)), (some (15, true)), []⟩, ⟨(some 18), .mv (.t 17), (some (15, true)), []⟩, ⟨(some 19), .mv (.t 0), (some (18, false)), []⟩, ⟨(some 20), .mv (.t 3), (some (18, false)), []⟩, ⟨(some 21), .ix (.t 19) (.t 20), (some (18, false)), []⟩, ⟨(some 22), .bin .lss (.t 21) (.c (.i .u8 48)), (some (18, false)), []⟩, ⟨(some 23), .pick (.t 18) (.c (.b true)) (.t 22), (some (15, true)), []⟩, ⟨(some 24), .mv (.t 23), (some (15, true)), []⟩, ⟨(some 25), .mv (.t 0), (some (24, false)), []⟩, ⟨(some 26), .mv (.t 3), (some (24, false)), []⟩, ⟨(some 27), .ix (.t 25) (.t 26), (some (24, false)), []⟩, ⟨(some 28), .bin .gtr (.t 27) (.c (.i .u8 57)), (some (24, false)), []⟩, ⟨(some 29), .pick (.t 24) (.c (.b true)) (.t 28), (some (15, true)), []⟩, ⟨(some 30), .pick (.t 15) (.t 29) (.c (.b false)), none, []⟩] false) (.cond (.t 30) (.seq (.reg [⟨(some 2), .mv (.c (.b false)), none, []⟩] false) (.ret)) (.skip)))) (.reg [⟨(some 8), .mv (.t 3), none, []⟩, ⟨(some 9), .bin .add (.t 8) (.c (.i .i64 1)), none, []⟩, ⟨(some 3), .mv (.t 9), none, []⟩] false)))))) (.seq (.reg [⟨(some 31), .mv (.t 0), none, []⟩, ⟨(some 32), .lens (.t 31), none, []⟩, ⟨(some 33), .call (.ev [] .own) 69 [(.t 32), (.c (.i .i64 1)), (.c (.i .i64 8))], none, []⟩, ⟨(some 34), .mv (.t 33), none, []⟩, ⟨(some 35), .mv (.t 0), (some (34, true)), []⟩, ⟨(some 36), .call (.ev [] .own) 131 [(.t 35)], (some (34, true)), []⟩, ⟨(some 37), .un .not (.t 36), (some (34, true)), []⟩, ⟨(some 38), .pick (.t 34) (.t 37) (.c (.b false)), none, []⟩, ⟨(some 2), .mv (.t 38), none, []⟩] false) (.ret)))
theorem ok_spec_l2Name : (Try.f67.body).bind (comp Try.prog modes Try.f67.ntmps) = some pc_spec_l2Name := by kernel_rfl
theorem via_spec_l2Name {args outs : List T} {r : T} (ha : args.length ≤ 39) (h : W Try.prog modes 39 pc_spec_l2Name (enter args) (fin Try.prog [.tmp 2] args r outs)) : Ret Try.prog 67 args r outs := Ret.of Try.func67 ok_spec_l2Name rfl rfl ha h
def pc_spec_l2Node : PC :=
  .seq (.reg [⟨(some 2), .box 4 (.t 0), none, []⟩, ⟨(some 4), .mv (.c (.i .i64 0)), none, []⟩] false) (.seq (.seq (.reg [⟨(some 5), .mv (.c (.i .i64 0)), none, []⟩] false) (.block 0 (.loop (.seq (.seq (.reg [⟨(some 6), .mv (.t 5), none, []⟩, ⟨(some 7), .fa 0 (.t 2), none, []⟩, ⟨(some 8), .load none (.t 7), none, []⟩, ⟨(some 9), .len (.t 8), none, []⟩, ⟨(some 10), .bin .lss (.t 6) (.t 9), none, []⟩] false) (.cond (.t 10) (.skip) (.exit 0))) (.seq (.block 1 (.seq (.reg [⟨(some 13), .fa 0 (.t 2), none, []⟩, ⟨(some 14), .load none (.t 13), none, []⟩, ⟨(some 15), .mv (.t 5), none, []⟩, ⟨(some 16), .ia 3 (.t 14) (.t 15), none, []⟩, ⟨(some 17), .fa 0 (.t 16), none, []⟩, ⟨(some 18), .load none (.t 17), none, []⟩, ⟨(some 19), .mv (.t 1), none, []⟩, ⟨(some 20), .bin .eql (.t 18) (.t 19), none, []⟩] false) (.cond (.t 20) (.seq (.reg [⟨(some 21), .mv (.t 5), none, []⟩, ⟨(some 4), .mv (.t 21), none, []⟩] false) (.ret)) (.skip)))) (.reg [⟨(some 11), .mv (.t 5), none, []⟩, ⟨(some 12), .bin .add (.t 11) (.c (.i .i64 1)), none, []⟩, ⟨(some 5), .mv (.t 12), none, []⟩] false)))))) (.seq (.reg [⟨(some 4), .mv (.c (.i .i64 (-1))), none, []⟩] false) (.ret)))
theorem ok_spec_l2Node : (Try.f86.body).bind (comp Try.prog modes Try.f86.ntmps) = some pc_spec_l2Node := by kernel_rfl
theorem via_spec_l2Node {args outs : List T} {r : T} (ha : args.length ≤ 22) (h : W Try.prog modes 22 pc_spec_l2Node (enter args) (fin Try.prog [.tmp 4] args r outs)) : Ret Try.prog 86 args r outs := Ret.of Try.func86 ok_spec_l2Node rfl rfl ha h
def pc_spec_l2Of : PC :=
  .seq (.reg [⟨(some 2), .box 4 (.t 0), none, []⟩, ⟨(some 3), .box 4 (.t 1), none, []⟩, ⟨(some 4), .mv (.c (.nl)), none, []⟩, ⟨(some 5), .mv (.c (.b false)), none, []⟩] false) (.seq (.reg [⟨(some 8), .load (some 4) (.t 2), none, []⟩, ⟨(some 9), .fa 1 (.t 3), none, []⟩, ⟨(some 10), .load none (.t 9), none, []⟩, ⟨(some 11), .call (.ev [] .own) 86 [(.t 8), (.t 10)], none, []⟩, ⟨(some 6), .mv (.t 11), none, []⟩] false) (.seq (.reg [⟨(some 12), .load (some 4) (.t 2), none, []⟩, ⟨(some 13), .fa 1 (.t 3), none, []⟩, ⟨(some 14), .load none (.t 13), none, []⟩, ⟨(some 15), .call (.ev [] .own) 168 [(.t 12), (.t 14)], none, []⟩, ⟨(some 7), .mv (.t 15), none, []⟩] false) (.seq (.block 0 (.seq (.reg [⟨(some 17), .fa 0 (.t 3), none, []⟩, ⟨(some 18), .load none (.t 17), none, []⟩, ⟨(some 19), .bin .eql (.t 18) (.c (.i .i64 5)), none, []⟩, ⟨(some 20), .mv (.t 19), none, []⟩, ⟨(some 21), .mv (.t 6), (some (20, true)), []⟩, ⟨(some 22), .bin .geq (.t 21) (.c (.i .i64 0)), (some (20, true)), []⟩, ⟨(some 23), .pick (.t 20) (.t 22) (.c (.b false)), none, []⟩, ⟨(some 16), .mv (.t 23), none, []⟩] false) (.cond (.t 16) (.seq (.reg [⟨(some 24), .fa 0 (.t 2), none, []⟩, ⟨(some 25), .load none (.t 24), none, []⟩, ⟨(some 26), .mv (.t 6), none, []⟩, ⟨(some 27), .ia 3 (.t 25) (.t 26), none, []⟩, ⟨(some 28), .fa 2 (.t 27), none, []⟩, ⟨(some 29), .load none (.t 28), none, []⟩, ⟨(some 4), .mv (.t 29), none, []⟩, ⟨(some 5), .mv (.c (.b true)), none, []⟩] false) (.ret)) (.seq (.reg [⟨(some 31), .fa 0 (.t 3), none, []⟩, ⟨(some 32), .load none (.t 31), none, []⟩, ⟨(some 33), .bin .eql (.t 32) (.c (.i .i64 6)), none, []⟩, ⟨(some 34), .mv (.t 33), none, []⟩, ⟨(some 35), .mv (.t 7), (some (34, true)), []⟩, ⟨(some 36), .bin .geq (.t 35) (.c (.i .i64 0)), (some (34, true)), []⟩, ⟨(some 37), .pick (.t 34) (.t 36) (.c (.b false)), none, []⟩, ⟨(some 30), .mv (.t 37), none, []⟩] false) (.cond (.t 30) (.seq (.reg [⟨(some 38), .fa 1 (.t 2), none, []⟩, ⟨(some 39), .load none (.t 38), none, []⟩, ⟨(some 40), .mv (.t 7), none, []⟩, ⟨(some 41), .ia 5 (.t 39) (.t 40), none, []⟩, ⟨(some 42), .fa 4 (.t 41), none, []⟩, ⟨(some 43), .load none (.t 42), none, []⟩, ⟨(some 4), .mv (.t 43), none, []⟩, ⟨(some 5), .mv (.c (.b true)), none, []⟩] false) (.ret)) (.skip)))))) (.seq (.reg [⟨(some 44), .mksl 5 [], none, []⟩, ⟨(some 4), .mv (.t 44), none, []⟩, ⟨(some 5), .mv (.c (.b false)), none, []⟩] false) (.ret)))))
theorem ok_spec_l2Of : (Try.f144.body).bind (comp Try.prog modes Try.f144.ntmps) = some pc_spec_l2Of := by kernel_rfl
theorem see_spec_l2Of {args : List T} {r : T} {hp : List (Nat × Blk)} (N : Nat) (ha : args.length ≤ 45) (hN : ∀ x ∈ namess args, x < N) (hr : ∀ x ∈ r.names, x ∈ namess args) (hhp : ∀ p ∈ hp, p.1 < N ∧ p.2.cl = true) (hnd : (hp.map (·.1)).Nodup) (h : W Try.prog modes 45 pc_spec_l2Of ⟨slotsOf 0 args, hp, N, N⟩ (finV Try.prog [.tmp 4, .tmp 5] hp r)) : Vw Try.prog 144 args hp r := Vw.of N Try.func144 ok_spec_l2Of rfl rfl ha hN hr hhp hnd h
theorem via_spec_l2Of {args outs : List T} {r : T} (ha : args.length ≤ 45) (h : W Try.prog modes 45 pc_spec_l2Of (enter args) (fin Try.prog [.tmp 4, .tmp 5] args r outs)) : Ret Try.prog 144 args r outs := Ret.of Try.func144 ok_spec_l2Of rfl rfl ha h
def pc_spec_l2Plain : PC :=
  .seq (.reg [⟨(some 1), .box 4 (.t 0), none, []⟩, ⟨(some 2), .mv (.c (.b false)), none, []⟩] false) (.seq (.seq (.reg [⟨(some 3), .mv (.c (.i .i64 0)), none, []⟩] false) (.block 0 (.loop (.seq (.seq (.reg [⟨(some 4), .mv (.t 3), none, []⟩, ⟨(some 5), .fa 3 (.t 1), none, []⟩, ⟨(some 6), .load none (.t 5), none, []⟩, ⟨(some 7), .len (.t 6), none, []⟩, ⟨(some 8), .bin .lss (.t 4) (.t 7), none, []⟩] false) (.cond (.t 8) (.skip) (.exit 0))) (.seq (.block 1 (.seq (.reg [⟨(some 11), .fa 3 (.t 1), none, []⟩, ⟨(some 12), .load none (.t 11), none, []⟩, ⟨(some 13), .mv (.t 3), none, []⟩, ⟨(some 14), .ia 4 (.t 12) (.t 13), none, []⟩, ⟨(some 15), .load (some 4) (.t 14), none, []⟩, ⟨(some 16), .call (.ev [] .own) 147 [(.t 15)], none, []⟩, ⟨(some 17), .un .not (.t 16), none, []⟩] false) (.cond (.t 17) (.seq (.reg [⟨(some 2), .mv (.c (.b false)), none, []⟩] false) (.ret)) (.skip)))) (.reg [⟨(some 9), .mv (.t 3), none, []⟩, ⟨(some 10), .bin .add (.t 9) (.c (.i .i64 1)), none, []⟩, ⟨(some 3), .mv (.t 10), none, []⟩] false)))))) (.seq (.reg [⟨(some 18), .fa 0 (.t 1), none, []⟩, ⟨(some 19), .load none (.t 18), none, []⟩, ⟨(some 20), .call (.ev [] .own) 69 [(.t 19), (.c (.i .i64 1)), (.c (.i .i64 4))], none, []⟩, ⟨(some 2), .mv (.t 20), none, []⟩] false) (.ret)))
theorem ok_spec_l2Plain : (Try.f147.body).bind (comp Try.prog modes Try.f147.ntmps) = some pc_spec_l2Plain := by kernel_rfl
theorem via_spec_l2Plain {args outs : List T} {r : T} (ha : args.length ≤ 21) (h : W Try.prog modes 21 pc_spec_l2Plain (enter args) (fin Try.prog [.tmp 2] args r outs)) : Ret Try.prog 147 args r outs := Ret.of Try.func147 ok_spec_l2Plain rfl rfl ha h
def pc_spec_l2Props : PC :=
  .seq (.reg [⟨(some 2), .mv (.c (.b false)), none, []⟩] false) (.seq (.seq (.reg [⟨(some 3), .mv (.c (.i .i64 0)), none, []⟩] false) (.block 0 (.loop (.seq (.seq (.reg [⟨(some 4), .mv (.t 3), none, []⟩, ⟨(some 5), .mv (.t 0), none, []⟩, ⟨(some 6), .len (.t 5), none, []⟩, ⟨(some 7), .bin .lss (.t 4) (.t 6), none, []⟩] false) (.cond (.t 7) (.skip) (.exit 0))) (.seq (.block 1 (.seq (.reg [⟨(some 10), .mv (.t 0), none, []⟩, ⟨(some 11), .mv (.t 3), none, []⟩, ⟨(some 12), .ia 5 (.t 10) (.t 11), none, [0, 1]⟩, ⟨(some 13), .fa 0 (.t 12), none, [2]⟩, ⟨(some 14), .load none (.t 13), none, [3]⟩, ⟨(some 15), .call (.ev [] .own) 67 [(.t 14)], none, [4]⟩, ⟨(some 16), .un .not (.t 15), none, [5]⟩, ⟨(some 17), .mv (.t 16), none, [6, 5]⟩, ⟨(some 18), .mv (.t 0), (some (17, false)), [7]⟩, ⟨(some 19), .mv (.t 3), (some (17, false)), [7]⟩, ⟨(some 20), .ia 5 (.t 18) (.t 19), (some (17, false)), [8, 9, 7]⟩, ⟨(some 21), .fa 1 (.t 20), (some (17, false)), [10, 7]⟩, ⟨(some 22), .load (some 4) (.t 21), (some (17, false)), [11, 7]⟩, ⟨(some 23), .call (.ev [] .own) 35 [(.t 22)], (some (17, false)), [12, 7, 7]⟩, ⟨(some 24), .un .not (.t 23), (some (17, false)), [13, 7]⟩, ⟨(some 25), .pick (.t 17) (.c (.b true)) (.t 24), none, [7, 14]⟩, ⟨(some 26), .mv (.t 25), none, [15, 13]⟩, ⟨(some 27), .mv (.t 0), (some (26, false)), [16]⟩, ⟨(some 28), .mv (.t 3), (some (26, false)), [16]⟩, ⟨(some 29), .ia 5 (.t 27) (.t 28), (some (26, false)), [17, 18, 16]⟩, ⟨(some 30), .fa 1 (.t 29), (some (26, false)), [19, 16]⟩, ⟨(some 31), .load (some 4) (.t 30), (some (26, false)), [20, 16]⟩, ⟨(some 32), .call (.ev [] .own) 147 [(.t 31)], (some (26, false)), [21, 16, 16]⟩, ⟨(some 33), .un .not (.t 32), (some (26, false)), [22, 16]⟩, ⟨(some 34), .pick (.t 26) (.c (.b true)) (.t 33), none, [16, 23]⟩, ⟨(some 35), .mv (.t 34), none, [24, 22]⟩, ⟨(some 36), .mv (.t 3), (some (35, false)), [25]⟩, ⟨(some 37), .bin .gtr (.t 36) (.c (.i .i64 0)), (some (35, false)), [26, 25]⟩, ⟨(some 38), .mv (.t 37), (some (35, false)), [27, 25, 25]⟩, ⟨(some 39), .mv (.t 0), (some (38, true)), [28]⟩, ⟨(some 40), .mv (.t 3), (some (38, true)), [28]⟩, ⟨(some 41), .bin .sub (.t 40) (.c (.i .i64 1)), (some (38, true)), [30, 28]⟩, ⟨(some 42), .ia 5 (.t 39) (.t 41), (some (38, true)), [29, 31, 28]⟩, ⟨(some 43), .fa 0 (.t 42), (some (38, true)), [32, 28]⟩, ⟨(some 44), .load none (.t 43), (some (38, true)), [33, 28]⟩, ⟨(some 45), .mv (.t 0), (some (38, true)), [28]⟩, ⟨(some 46), .mv (.t 3), (some (38, true)), [28]⟩, ⟨(some 47), .ia 5 (.t 45) (.t 46), (some (38, true)), [35, 36, 28]⟩, ⟨(some 48), .fa 0 (.t 47), (some (38, true)), [37, 28]⟩, ⟨(some 49), .load none (.t 48), (some (38, true)), [38, 28]⟩, ⟨(some 50), .bin .geq (.t 44) (.t 49), (some (38, true)), [34, 39, 28]⟩, ⟨(some 51), .pick (.t 38) (.t 50) (.c (.b false)), (some (35, false)), [28, 40, 25]⟩, ⟨(some 52), .pick (.t 35) (.c (.b true)) (.t 51), none, [25, 41]⟩] true) (.cond (.t 52) (.seq (.reg [⟨(some 2), .mv (.c (.b false)), none, []⟩] false) (.ret)) (.skip)))) (.reg [⟨(some 8), .mv (.t 3), none, []⟩, ⟨(some 9), .bin .add (.t 8) (.c (.i .i64 1)), none, []⟩, ⟨(some 3), .mv (.t 9), none, []⟩] false)))))) (.seq (.reg [⟨(some 53), .mv (.t 0), none, []⟩, ⟨(some 54), .len (.t 53), none, []⟩, ⟨(some 55), .bin .leq (.t 54) (.c (.i .i64 4)), none, []⟩, ⟨(some 2), .mv (.t 55), none, []⟩] false) (.ret)))
theorem ok_spec_l2Props : (Try.f85.body).bind (comp Try.prog modes Try.f85.ntmps) = some pc_spec_l2Props := by kernel_rfl
theorem via_spec_l2Props {args outs : List T} {r : T} (ha : args.length ≤ 56) (h : W Try.prog modes 56 pc_spec_l2Props (enter args) (fin Try.prog [.tmp 2] args r outs)) : Ret Try.prog 85 args r outs := Ret.of Try.func85 ok_spec_l2Props rfl rfl ha h
def pc_spec_l2Ps : PC :=
  .seq (.reg [⟨(some 2), .mv (.c (.nl)), none, []⟩] false) (.seq (.reg [⟨(some 5), .mksl 5 [], none, []⟩, ⟨(some 3), .mv (.t 5), none, []⟩] false) (.seq (.seq (.reg [⟨(some 4), .mv (.c (.i .i64 0)), none, []⟩] false) (.block 0 (.loop (.seq (.seq (.reg [⟨(some 6), .mv (.t 4), none, []⟩, ⟨(some 7), .mv (.t 0), none, []⟩, ⟨(some 8), .len (.t 7), none, []⟩, ⟨(some 9), .bin .lss (.t 6) (.t 8), none, []⟩] false) (.cond (.t 9) (.skip) (.exit 0))) (.seq (.block 1 (.reg [⟨(some 12), .mv (.t 3), none, []⟩, ⟨(some 13), .mv (.t 0), none, []⟩, ⟨(some 14), .mv (.t 4), none, []⟩, ⟨(some 15), .ia 5 (.t 13) (.t 14), none, [1, 2]⟩, ⟨(some 16), .fa 0 (.t 15), none, [3]⟩, ⟨(some 17), .load none (.t 16), none, [4]⟩, ⟨(some 18), .mv (.t 0), none, []⟩, ⟨(some 19), .mv (.t 4), none, []⟩, ⟨(some 20), .ia 5 (.t 18) (.t 19), none, [6, 7]⟩, ⟨(some 21), .fa 1 (.t 20), none, [8]⟩, ⟨(some 22), .load (some 4) (.t 21), none, [9]⟩, ⟨(some 23), .call (.ev [] .own) 120 [(.t 22)], none, [10]⟩, ⟨(some 24), .build [.s [], .i .i64 0, .i .i64 0, .s [], .nl] [(0, 1, (.t 17)), (1, 4, (.t 23))], none, [5, 11]⟩, ⟨(some 25), .mksl 5 [(.t 24)], none, [12]⟩, ⟨(some 26), .app 5 72 (.t 12) (.t 25), none, [0, 13, 11]⟩, ⟨(some 3), .mv (.t 26), none, [14, 14, 0, 1, 2, 3, 4, 5, 6, 7, 8, 9, 10, 11, 12, 13, 14]⟩] true)) (.reg [⟨(some 10), .mv (.t 4), none, []⟩, ⟨(some 11), .bin .add (.t 10) (.c (.i .i64 1)), none, []⟩, ⟨(some 4), .mv (.t 11), none, []⟩] false)))))) (.seq (.reg [⟨(some 27), .mv (.t 3), none, []⟩, ⟨(some 2), .mv (.t 27), none, []⟩] false) (.ret))))
theorem ok_spec_l2Ps : (Try.f153.body).bind (comp Try.prog modes Try.f153.ntmps) = some pc_spec_l2Ps := by kernel_rfl
theorem via_spec_l2Ps {args outs : List T} {r : T} (ha : args.length ≤ 28) (h : W Try.prog modes 28 pc_spec_l2Ps (enter args) (fin Try.prog [.tmp 2] args r outs)) : Ret Try.prog 153 args r outs := Ret.of Try.func153 ok_spec_l2Ps rfl rfl ha h
def pc_spec_l2Put : PC :=
  .seq (.reg [⟨(some 5), .box 4 (.t 2), none, []⟩, ⟨(some 6), .mv (.c (.nl)), none, []⟩] false) (.seq (.reg [⟨(some 10), .mksl 5 [], none, []⟩, ⟨(some 7), .mv (.t 10), none, []⟩] false) (.seq (.reg [⟨(some 11), .fa 0 (.t 5), none, []⟩, ⟨(some 12), .load none (.t 11), none, []⟩, ⟨(some 13), .bin .eql (.t 12) (.c (.i .i64 0)), none, []⟩, ⟨(some 8), .mv (.t 13), none, []⟩] false) (.seq (.seq (.reg [⟨(some 9), .mv (.c (.i .i64 0)), none, []⟩] false) (.block 0 (.loop (.seq (.seq (.reg [⟨(some 14), .mv (.t 9), none, []⟩, ⟨(some 15), .mv (.t 0), none, []⟩, ⟨(some 16), .len (.t 15), none, []⟩, ⟨(some 17), .bin .lss (.t 14) (.t 16), none, []⟩] false) (.cond (.t 17) (.skip) (.exit 0))) (.seq (.block 1 (.seq (.seq (.reg [⟨(some 20), .mv (.t 8), none, []⟩, ⟨(some 21), .un .not (.t 20), none, []⟩, ⟨(some 22), .mv (.t 21), none, []⟩, ⟨(some 23), .mv (.t 0), (some (22, true)), []⟩, ⟨(some 24), .mv (.t 9), (some (22, true)), []⟩, ⟨(some 25), .ia 5 (.t 23) (.t 24), (some (22, true)), []⟩, ⟨(some 26), .fa 0 (.t 25), (some (22, true)), []⟩, ⟨(some 27), .load none (.t 26), (some (22, true)), []⟩, ⟨(some 28), .mv (.t 1), (some (22, true)), []⟩, ⟨(some 29), .bin .geq (.t 27) (.t 28), (some (22, true)), []⟩, ⟨(some 30), .pick (.t 22) (.t 29) (.c (.b false)), none, []⟩] false) (.cond (.t 30) (.seq (.reg [⟨(some 31), .mv (.t 7), none, []⟩, ⟨(some 32), .mv (.t 1), none, []⟩, ⟨(some 33), .load (some 4) (.t 5), none, []⟩, ⟨(some 34), .call (.ev [] .own) 120 [(.t 33)], none, []⟩, ⟨(some 35), .build [.s [], .i .i64 0, .i .i64 0, .s [], .nl] [(0, 1, (.t 32)), (1, 4, (.t 34))], none, []⟩, ⟨(some 36), .mksl 5 [(.t 35)], none, []⟩, ⟨(some 37), .app 5 72 (.t 31) (.t 36), none, []⟩, ⟨(some 7), .mv (.t 37), none, []⟩] false) (.reg [⟨(some 8), .mv (.c (.b true)), none, []⟩] false)) (.skip))) (.seq (.reg [⟨(some 38), .mv (.t 0), none, []⟩, ⟨(some 39), .mv (.t 9), none, []⟩, ⟨(some 40), .ia 5 (.t 38) (.t 39), none, []⟩, ⟨(some 41), .fa 0 (.t 40), none, []⟩, ⟨(some 42), .load none (.t 41), none, []⟩, ⟨(some 43), .mv (.t 1), none, []⟩, ⟨(some 44), .bin .neq (.t 42) (.t 43), none, []⟩] false) (.cond (.t 44) (.reg [⟨(some 45), .mv (.t 7), none, []⟩, ⟨(some 46), .mv (.t 0), none, []⟩, ⟨(some 47), .mv (.t 9), none, []⟩, ⟨(some 48), .ia 5 (.t 46) (.t 47), none, []⟩, ⟨(some 49), .load (some 5) (.t 48), none, []⟩, ⟨(some 50), .mksl 5 [(.t 49)], none, []⟩, ⟨(some 51), .app 5 72 (.t 45) (.t 50), none, []⟩, ⟨(some 7), .mv (.t 51), none, []⟩] false) (.skip))))) (.reg [⟨(some 18), .mv (.t 9), none, []⟩, ⟨(some 19), .bin .add (.t 18) (.c (.i .i64 1)), none, []⟩, ⟨(some 9), .mv (.t 19), none, []⟩] false)))))) (.seq (.seq (.reg [⟨(some 52), .mv (.t 8), none, []⟩, ⟨(some 53), .un .not (.t 52), none, []⟩] false) (.cond (.t 53) (.reg [⟨(some 54), .mv (.t 7), none, []⟩, ⟨(some 55), .mv (.t 1), none, []⟩, ⟨(some 56), .load (some 4) (.t 5), none, []⟩, ⟨(some 57), .call (.ev [] .own) 120 [(.t 56)], none, []⟩, ⟨(some 58), .build [.s [], .i .i64 0, .i .i64 0, .s [], .nl] [(0, 1, (.t 55)), (1, 4, (.t 57))], none, []⟩, ⟨(some 59), .mksl 5 [(.t 58)], none, []⟩, ⟨(some 60), .app 5 72 (.t 54) (.t 59), none, []⟩, ⟨(some 7), .mv (.t 60), none, []⟩] false) (.skip))) (.seq (.reg [⟨(some 61), .mv (.t 7), none, []⟩, ⟨(some 6), .mv (.t 61), none, []⟩] false) (.ret))))))
theorem ok_spec_l2Put : (Try.f167.body).bind (comp Try.prog modes Try.f167.ntmps) = some pc_spec_l2Put := by kernel_rfl
def pc_spec_l2Set : PC :=
  .seq (.reg [⟨(some 4), .box 4 (.t 0), none, []⟩, ⟨(some 5), .box 4 (.t 1), none, []⟩, ⟨(some 7), .box 4 (.t 3), none, []⟩, ⟨(some 8), .alloc [.nl, .nl, .i .i64 0, .i .i64 0], none, []⟩, ⟨(some 9), .mv (.c (.b false)), none, []⟩] false) (.seq (.reg [⟨(some 14), .load (some 4) (.t 4), none, []⟩, ⟨(some 15), .load (some 4) (.t 5), none, []⟩, ⟨(some 16), .hook (Go.Op.call (Go.Call.mk (Go.Callee.value (Go.Operand.func 144)) #[(Go.Operand.tmp 14), (Go.Operand.tmp 15)] #[54, 28])) [(.c (.fn 144 [])), (.t 14), (.t 15)], none, []⟩, ⟨(some 13), .mv (.t 16), none, []⟩, ⟨(some 17), .ext 0 (.t 13), none, []⟩, ⟨(some 18), .ext 1 (.t 13), none, []⟩, ⟨(some 10), .mv (.t 17), none, []⟩, ⟨(some 11), .mv (.t 18), none, []⟩] false) (.seq (.reg [⟨(some 19), .mv (.t 10), none, []⟩, ⟨(some 20), .mv (.t 2), none, []⟩, ⟨(some 21), .load (some 4) (.t 7), none, []⟩, ⟨(some 22), .call (.ev [] .imm) 167 [(.t 19), (.t 20), (.t 21)], none, []⟩, ⟨(some 12), .mv (.t 22), none, []⟩] false) (.seq (.seq (.reg [⟨(some 23), .mv (.t 11), none, []⟩, ⟨(some 24), .un .not (.t 23), none, []⟩, ⟨(some 25), .mv (.t 24), none, []⟩, ⟨(some 26), .mv (.t 2), (some (25, false)), []⟩, ⟨(some 27), .call (.ev [] .own) 67 [(.t 26)], (some (25, false)), []⟩, ⟨(some 28), .un .not (.t 27), (some (25, false)), []⟩, ⟨(some 29), .pick (.t 25) (.c (.b true)) (.t 28), none, []⟩, ⟨(some 30), .mv (.t 29), none, []⟩, ⟨(some 31), .mv (.t 12), (some (30, false)), []⟩, ⟨(some 32), .call (.ev [] .own) 85 [(.t 31)], (some (30, false)), []⟩, ⟨(some 33), .un .not (.t 32), (some (30, false)), []⟩, ⟨(some 34), .pick (.t 30) (.c (.b true)) (.t 33), none, []⟩] false) (.cond (.t 34) (.seq (.reg [⟨(some 35), .load (some 4) (.t 4), none, []⟩, ⟨none, .store (some 4) (.t 8) (.t 35), none, []⟩, ⟨(some 9), .mv (.c (.b false)), none, []⟩] false) (.ret)) (.skip))) (.seq (.seq (.reg [⟨(some 36), .fa 0 (.t 5), none, []⟩, ⟨(some 37), .load none (.t 36), none, []⟩, ⟨(some 38), .bin .eql (.t 37) (.c (.i .i64 5)), none, []⟩] false) (.cond (.t 38) (.reg [⟨(some 39), .fa 0 (.t 4), none, []⟩, ⟨(some 40), .load none (.t 39), none, [0]⟩, ⟨(some 41), .load (some 4) (.t 4), none, []⟩, ⟨(some 42), .fa 1 (.t 5), none, []⟩, ⟨(some 43), .load none (.t 42), none, [3]⟩, ⟨(some 44), .call (.ev [] .own) 86 [(.t 41), (.t 43)], none, [2, 4]⟩, ⟨(some 45), .mv (.t 12), none, []⟩, ⟨(some 46), .ia 3 (.t 40) (.t 44), none, [1, 5, 0, 1, 2, 3, 4, 5, 6]⟩, ⟨(some 47), .fa 2 (.t 46), none, [7, 0, 1, 2, 3, 4, 5, 6]⟩, ⟨none, .store none (.t 47) (.t 45), none, [8, 6, 5, 0, 1, 2, 3, 4, 5, 6]⟩] true) (.reg [⟨(some 48), .fa 1 (.t 4), none, []⟩, ⟨(some 49), .load none (.t 48), none, [0]⟩, ⟨(some 50), .load (some 4) (.t 4), none, []⟩, ⟨(some 51), .fa 1 (.t 5), none, []⟩, ⟨(some 52), .load none (.t 51), none, [3]⟩, ⟨(some 53), .call (.ev [] .own) 168 [(.t 50), (.t 52)], none, [2, 4]⟩, ⟨(some 54), .mv (.t 12), none, []⟩, ⟨(some 55), .ia 5 (.t 49) (.t 53), none, [1, 5, 0, 1, 2, 3, 4, 5, 6]⟩, ⟨(some 56), .fa 4 (.t 55), none, [7, 0, 1, 2, 3, 4, 5, 6]⟩, ⟨none, .store none (.t 56) (.t 54), none, [8, 6, 5, 0, 1, 2, 3, 4, 5, 6]⟩] true))) (.seq (.reg [⟨(some 57), .load (some 4) (.t 4), none, []⟩, ⟨none, .store (some 4) (.t 8) (.t 57), none, []⟩, ⟨(some 9), .mv (.c (.b true)), none, []⟩] false) (.ret))))))
theorem ok_spec_l2Set : (Try.f107.body).bind (comp Try.prog modes Try.f107.ntmps) = some pc_spec_l2Set := by kernel_rfl
end Go.Proofs.Ytehdfbhfbidadaa.V
/- Texts Sh, Eva, Cfit, Cname, Cval, Cprop, Clab, Cgok, Cgok2, Opc, Opb. -/
/- Kinds of data as rows of trees: what is read, what is owned. -/
namespace Go.Proofs.Ytehdfbhfbidadaa.V
open Go
set_option linter.unusedVariables false
set_option linter.unusedSimpArgs false
/-- A cell of what is read. -/
def T.im : T → Bool
  | .b _ | .i _ _ | .s _ | .imm _ => true
  | _ => false
/-- A cell of what is owned. -/
def T.ow : T → Bool
  | .b _ | .i _ _ | .s _ => true
  | .own _ rows => cleanR rows && noImr rows
  | _ => false
structure Sh (α : Type) where
  sz : Nat
  I : α → List T
  O : α → List T
  lI : ∀ a, (I a).length = sz
  lO : ∀ a, (O a).length = sz
  toO : ∀ a, toIs (O a) = I a
  im : ∀ a, (I a).all T.im = true
  ow : ∀ a, (O a).all T.ow = true
section
variable {n : Nat} {s : St}
theorem im_mats : ∀ {cs : List T} {n : Nat}, cs.all T.im = true → mats cs n = (cs, [])
  | [], n, h => by simp [mats]
  | c :: cs, n, h => by
    simp only [List.all_cons, Bool.and_eq_true] at h
    have : mat c n = (c, []) := by cases c <;> simp [T.im] at h <;> simp [mat]
    simp only [mats, this, List.length_nil, Nat.add_zero, im_mats h.2, List.nil_append]
theorem im_argIs : ∀ {cs : List T}, cs.all T.im = true → argIs s cs = some cs
  | [], h => by simp [argIs]
  | c :: cs, h => by
    simp only [List.all_cons, Bool.and_eq_true] at h
    have : argI s c = some c := by cases c <;> simp [T.im] at h <;> simp [argI]
    simp only [argIs, this, im_argIs h.2]
theorem im_names : ∀ {cs : List T}, cs.all T.im = true → namess cs = []
  | [], h => by simp [namess]
  | c :: cs, h => by
    simp only [List.all_cons, Bool.and_eq_true] at h
    have : c.names = [] := by cases c <;> simp [T.im] at h <;> simp [T.names]
    simp only [namess, this, im_names h.2, List.append_nil]
theorem im_toIs : ∀ {cs : List T}, cs.all T.im = true → toIs cs = cs
  | [], h => by simp [toIs]
  | c :: cs, h => by
    simp only [List.all_cons, Bool.and_eq_true] at h
    have : c.toI = c := by cases c <;> simp [T.im] at h <;> simp [T.toI]
    simp only [toIs, this, im_toIs h.2]
theorem im_all {f : T → Bool} (hf : ∀ t : T, t.im = true → f t = true) {cs : List T} (h : cs.all T.im = true) : cs.all f = true := by
  rw [List.all_eq_true] at h ⊢
  exact fun t ht => hf t (h t ht)
theorem im_clean {cs : List T} (h : cs.all T.im = true) : cs.all T.clean = true := im_all (fun t ht => by cases t <;> simp [T.im] at ht <;> rfl) h
theorem im_cell {cs : List T} (h : cs.all T.im = true) : cs.all T.cell = true := im_all (fun t ht => by cases t <;> simp [T.im] at ht <;> rfl) h
theorem ow_all {f : T → Bool} (hf : ∀ t : T, t.ow = true → f t = true) {cs : List T} (h : cs.all T.ow = true) : cs.all f = true := by
  rw [List.all_eq_true] at h ⊢
  exact fun t ht => hf t (h t ht)
theorem ow_pl {cs : List T} (h : cs.all T.ow = true) : cs.all T.pl = true := ow_all (fun t ht => by cases t <;> simp [T.ow] at ht <;> simp [T.pl, ht]) h
theorem ow_clean {cs : List T} (h : cs.all T.ow = true) : cs.all T.clean = true := ow_all (fun t ht => by cases t <;> simp [T.ow] at ht <;> simp [T.clean, ht]) h
theorem ow_noImm : ∀ {cs : List T}, cs.all T.ow = true → noIms cs = true
  | [], h => by simp [noIms]
  | c :: cs, h => by
    simp only [List.all_cons, Bool.and_eq_true] at h
    have : c.noImm = true := by cases c <;> simp [T.ow] at h <;> simp [T.noImm, h]
    simp only [noIms, this, ow_noImm h.2, Bool.and_self]
theorem ow_cell : ∀ {cs : List T} {n : Nat}, cs.all T.ow = true → ((mats cs n).1.all T.cell) = true
  | [], n, h => by simp [mats]
  | c :: cs, n, h => by
    simp only [List.all_cons, Bool.and_eq_true] at h
    have : (mat c n).1.cell = true := by cases c <;> simp [T.ow] at h <;> simp [mat, T.cell]
    simp only [mats, List.all_cons, this, ow_cell h.2, Bool.and_self]
end
section
variable {s : St}
theorem mats_len : ∀ (cs : List T) (n : Nat), (mats cs n).1.length = cs.length
  | [], n => by simp [mats]
  | c :: cs, n => by simp only [mats, List.length_cons, mats_len cs]
theorem im_gives {cs : List T} (h : cs.all T.im = true) : cs.any T.gives1 = false := by
  rw [List.any_eq_false]
  intro t ht
  have := List.all_eq_true.1 h t ht
  cases t <;> simp [T.im] at this <;> simp [T.gives1]
/-- Nothing is handed over. -/
def gfree : List T → Bool
  | [] => true
  | t :: ts => !t.gives && gfree ts
theorem taken_gfree : ∀ {args es : List T}, gfree args = true → es.length = args.length → taken s args es = some (args.map fun _ => .dead) ∧ takenN args es = []
  | [], [], h, hl => ⟨rfl, rfl⟩
  | t :: args, e :: es, h, hl => by
    simp only [gfree, Bool.and_eq_true, Bool.not_eq_true'] at h
    obtain ⟨h1, h2⟩ := taken_gfree h.2 (by simpa using hl)
    simp only [taken, takenN, h1, h2, h.1, Bool.false_eq_true, if_false, List.map_cons, List.append_nil, and_self]
  | [], _ :: _, h, hl => by simp at hl
  | _ :: _, [], h, hl => by simp at hl
mutual
def rfN : T → T → List Nat
  | .ref t _ _, .own _ _ => [t]
  | .agg cs, .agg rs => rfNs cs rs
  | .tup cs, .tup rs => rfNs cs rs
  | _, _ => []
def rfNs : List T → List T → List Nat
  | c :: cs, r :: rs => rfN c r ++ rfNs cs rs
  | _, _ => []
end
mutual
def rfP (s : St) : T → T → Prop
  | .ref t o n, .own sz rows => onArr (hget s.hp t) fun sz' rs => o + n ≤ rs.length ∧ sz' = sz ∧ (rs.drop o).take n = rows ∧ cleanR rows = true
  | .nl, .own _ rows => rows = []
  | .agg cs, .agg rs => rfPs s cs rs
  | .tup cs, .tup rs => rfPs s cs rs
  | .fn _ _, _ => False
  | .ifc _ _, _ => False
  | .ref _ _ _, _ => False
  | .ptr _ _ _, _ => False
  | .mp _, _ => False
  | .agg _, _ => False
  | .tup _, _ => False
  | x, r => x = r
def rfPs (s : St) : List T → List T → Prop
  | [], [] => True
  | c :: cs, r :: rs => rfP s c r ∧ rfPs s cs rs
  | _, _ => False
end
mutual
theorem rfP_ok : ∀ {x r : T}, rfP s x r → rf s x r (rfN x r)
  | .ref t o n, r, h => by
    cases r <;> simp only [rfP] at h
    simp only [rf, rfN]
    exact ⟨trivial, h⟩
  | .nl, r, h => by cases r <;> simp only [rfP, reduceCtorEq] at h <;> simp only [rf, rfN, and_self, h]
  | .agg cs, r, h => by
    cases r <;> simp only [rfP] at h
    simp only [rf, rfN]; exact rfPs_ok h
  | .tup cs, r, h => by
    cases r <;> simp only [rfP] at h
    simp only [rf, rfN]; exact rfPs_ok h
  | .fn _ _, r, h => by simp only [rfP] at h
  | .ifc _ _, r, h => by simp only [rfP] at h
  | .ptr _ _ _, r, h => by simp only [rfP] at h
  | .mp _, r, h => by simp only [rfP] at h
  | .un, r, h => by simp only [rfP] at h; subst h; simp [rf, rfN]
  | .dead, r, h => by simp only [rfP] at h; subst h; simp [rf, rfN]
  | .b _, r, h => by simp only [rfP] at h; subst h; simp [rf, rfN]
  | .i _ _, r, h => by simp only [rfP] at h; subst h; simp [rf, rfN]
  | .s _, r, h => by simp only [rfP] at h; subst h; simp [rf, rfN]
  | .imm _, r, h => by simp only [rfP] at h; subst h; simp [rf, rfN]
  | .own _ _, r, h => by simp only [rfP] at h; subst h; simp [rf, rfN]
  | .bx _, r, h => by simp only [rfP] at h; subst h; simp [rf, rfN]
  | .np, r, h => by simp only [rfP] at h; subst h; simp [rf, rfN]
  | .pim _, r, h => by simp only [rfP] at h; subst h; simp [rf, rfN]
  | .nfn, r, h => by simp only [rfP] at h; subst h; simp [rf, rfN]
  | .nif, r, h => by simp only [rfP] at h; subst h; simp [rf, rfN]
  | .nmp, r, h => by simp only [rfP] at h; subst h; simp [rf, rfN]
theorem rfPs_ok : ∀ {cs rs : List T}, rfPs s cs rs → rfs s cs rs (rfNs cs rs)
  | [], [], h => by simp only [rfs, rfNs]
  | c :: cs, r :: rs, h => by
    simp only [rfPs] at h
    simp only [rfs, rfNs]
    exact ⟨_, _, rfl, rfP_ok h.1, rfPs_ok h.2⟩
  | [], _ :: _, h => by simp only [rfPs] at h
  | _ :: _, [], h => by simp only [rfPs] at h
end
theorem fin_own {P : Program} {rs : List ResultVar} {args : List T} {r : T} {xs : List T} (h1 : resK P s rs = some xs) (h2 : rfP s (res1 xs) r) (hg : gfree args = true) (h4 : (rfN (res1 xs) r).Nodup) : fin P rs args r (args.map fun _ => .dead) .ret s := by
  obtain ⟨h5, h6⟩ := taken_gfree (s := s) hg (mats_len args 0)
  exact fin_ret h1 (rfP_ok h2) h5 (by rw [h6, List.append_nil]; exact h4)
theorem fin_val {P : Program} {rs : List ResultVar} {args : List T} {r : T} {xs : List T} (h1 : resK P s rs = some xs) (h2 : rf s (res1 xs) r []) (hg : gfree args = true) : fin P rs args r (args.map fun _ => .dead) .ret s := by
  obtain ⟨h5, h6⟩ := taken_gfree (s := s) hg (mats_len args 0)
  exact fin_ret h1 h2 h5 (by rw [h6]; simp)
end
attribute [simp] gfree rfP rfPs rfN rfNs
namespace Sh
variable {α : Type} (S : Sh α) {n : Nat} {s : St}
theorem takeI (a : α) : (S.I a).take S.sz = S.I a := List.take_of_length_le (by rw [S.lI]; exact Nat.le_refl _)
theorem mI (a : α) (n : Nat) : mats (S.I a) n = (S.I a, []) := im_mats (S.im a)
theorem aI (a : α) (s : St) : argIs s (S.I a) = some (S.I a) := im_argIs (S.im a)
theorem nI (a : α) : namess (S.I a) = [] := im_names (S.im a)
theorem gI (a : α) : (S.I a).any T.gives1 = false := im_gives (S.im a)
theorem kI (a : α) : (S.I a).all T.cell = true := im_cell (S.im a)
theorem kI' (a : α) (x : T) (h : x ∈ S.I a) : x.cell = true := List.all_eq_true.1 (im_cell (S.im a)) x h
theorem cI (a : α) : (S.I a).all T.clean = true := im_clean (S.im a)
theorem toI (a : α) : toIs (S.I a) = S.I a := im_toIs (S.im a)
theorem cO (a : α) : (S.O a).all T.clean = true := ow_clean (S.ow a)
theorem plO (a : α) : (S.O a).all T.pl = true := ow_pl (S.ow a)
theorem nO (a : α) : noIms (S.O a) = true := ow_noImm (S.ow a)
theorem rO : ∀ (l : List α), toIr (l.map S.O) = l.map S.I
  | [] => by simp [toIr]
  | a :: l => by simp only [List.map_cons, toIr, S.toO, rO l]
theorem rI : ∀ (l : List α), toIr (l.map S.I) = l.map S.I
  | [] => by simp [toIr]
  | a :: l => by simp only [List.map_cons, toIr, S.toI, rI l]
theorem crO (l : List α) : cleanR (l.map S.O) = true := by
  simp only [cleanR, List.all_map, List.all_eq_true]
  intro a _; exact S.cO a
theorem crI (l : List α) : cleanR (l.map S.I) = true := by
  simp only [cleanR, List.all_map, List.all_eq_true]
  intro a _; exact S.cI a
theorem nrO : ∀ (l : List α), noImr (l.map S.O) = true
  | [] => by simp [noImr]
  | a :: l => by simp only [List.map_cons, noImr, S.nO, nrO l, Bool.and_self]
end Sh
attribute [simp] Sh.kI' Sh.gI Sh.im Sh.ow Sh.takeI Sh.mI Sh.aI Sh.nI Sh.kI Sh.cI Sh.toI Sh.cO Sh.plO Sh.nO Sh.rO Sh.rI Sh.crO Sh.crI Sh.nrO Sh.lI Sh.lO
theorem toIs_append : ∀ (a b : List T), toIs (a ++ b) = toIs a ++ toIs b
  | [], b => by simp [toIs]
  | x :: a, b => by simp [toIs, toIs_append a b]
theorem noIms_append : ∀ (a b : List T), noIms (a ++ b) = (noIms a && noIms b)
  | [], b => by simp [noIms]
  | x :: a, b => by simp [noIms, noIms_append a b, Bool.and_assoc]
theorem namess_append : ∀ (a b : List T), namess (a ++ b) = namess a ++ namess b
  | [], b => by simp [namess]
  | x :: a, b => by simp [namess, namess_append a b]
attribute [simp] toIs_append noIms_append namess_append
theorem wrap1 {i : Nat} (h : (i : Int) < 9223372036854775807) : IntKind.i64.wrap ((i : Int) + 1) = (i : Int) + 1 := wrap64 (by omega) (by omega)
/-! ### loops over slices -/
def left (x : Int) (n : Nat) : Int := if x - n < 0 then -1 else x - n
theorem left_neg {x : Int} {n : Nat} (h : x - n < 0) : left x n = -1 := by unfold left; rw [if_pos h]
theorem left_pos {x : Int} {n : Nat} (h : ¬ x - n < 0) : left x n = x - n := by unfold left; rw [if_neg h]
def eqSpc (f sz : Nat) : PC :=
  .seq (.reg [⟨(some 4), .mv (.c (.b false)), none, []⟩] false) (.seq (.seq (.reg [⟨(some 6), .mv (.t 0), none, []⟩, ⟨(some 7), .len (.t 6), none, []⟩, ⟨(some 8), .mv (.t 1), none, []⟩, ⟨(some 9), .len (.t 8), none, []⟩, ⟨(some 10), .bin .neq (.t 7) (.t 9), none, []⟩] false) (.cond (.t 10) (.seq (.reg [⟨(some 4), .mv (.c (.b false)), none, []⟩] false) (.ret)) (.skip))) (.seq (.seq (.reg [⟨(some 5), .mv (.c (.i .i64 0)), none, []⟩] false) (.block 0 (.loop (.seq (.seq (.reg [⟨(some 11), .mv (.t 5), none, []⟩, ⟨(some 12), .mv (.t 0), none, []⟩, ⟨(some 13), .len (.t 12), none, []⟩, ⟨(some 14), .bin .lss (.t 11) (.t 13), none, []⟩] false) (.cond (.t 14) (.skip) (.exit 0))) (.seq (.block 1 (.seq (.reg [⟨(some 17), .mv (.t 0), none, []⟩, ⟨(some 18), .mv (.t 5), none, []⟩, ⟨(some 19), .ia sz (.t 17) (.t 18), none, [0, 1]⟩, ⟨(some 20), .load (some sz) (.t 19), none, [2]⟩, ⟨(some 21), .mv (.t 1), none, []⟩, ⟨(some 22), .mv (.t 5), none, []⟩, ⟨(some 23), .ia sz (.t 21) (.t 22), none, [4, 5]⟩, ⟨(some 24), .load (some sz) (.t 23), none, [6]⟩, ⟨(some 25), .call (.ev [] .own) f [(.t 20), (.t 24)], none, [3, 7]⟩, ⟨(some 26), .un .not (.t 25), none, [8]⟩] true) (.cond (.t 26) (.seq (.reg [⟨(some 4), .mv (.c (.b false)), none, []⟩] false) (.ret)) (.skip)))) (.reg [⟨(some 15), .mv (.t 5), none, []⟩, ⟨(some 16), .bin .add (.t 15) (.c (.i .i64 1)), none, []⟩, ⟨(some 5), .mv (.t 16), none, []⟩] false)))))) (.seq (.reg [⟨(some 4), .mv (.c (.b true)), none, []⟩] false) (.ret))))
def szSpc (f sz : Nat) : PC :=
  .seq (.reg [⟨(some 4), .mv (.c (.i .i64 0)), none, []⟩] false) (.seq (.reg [⟨(some 6), .mv (.t 1), none, []⟩, ⟨(some 7), .mv (.t 0), none, []⟩, ⟨(some 8), .len (.t 7), none, []⟩, ⟨(some 9), .bin .sub (.t 6) (.t 8), none, []⟩, ⟨(some 1), .mv (.t 9), none, []⟩] false) (.seq (.seq (.reg [⟨(some 10), .mv (.t 1), none, []⟩, ⟨(some 11), .bin .lss (.t 10) (.c (.i .i64 0)), none, []⟩] false) (.cond (.t 11) (.seq (.reg [⟨(some 4), .mv (.c (.i .i64 (-1))), none, []⟩] false) (.ret)) (.skip))) (.seq (.seq (.reg [⟨(some 5), .mv (.c (.i .i64 0)), none, []⟩] false) (.block 0 (.loop (.seq (.seq (.reg [⟨(some 12), .mv (.t 5), none, []⟩, ⟨(some 13), .mv (.t 0), none, []⟩, ⟨(some 14), .len (.t 13), none, []⟩, ⟨(some 15), .bin .lss (.t 12) (.t 14), none, []⟩] false) (.cond (.t 15) (.skip) (.exit 0))) (.seq (.block 1 (.seq (.reg [⟨(some 18), .mv (.t 0), none, []⟩, ⟨(some 19), .mv (.t 5), none, []⟩, ⟨(some 20), .ia sz (.t 18) (.t 19), none, []⟩, ⟨(some 21), .load (some sz) (.t 20), none, []⟩, ⟨(some 22), .mv (.t 1), none, []⟩, ⟨(some 23), .call (.ev [] .own) f [(.t 21), (.t 22)], none, []⟩, ⟨(some 1), .mv (.t 23), none, []⟩] false) (.seq (.reg [⟨(some 24), .mv (.t 1), none, []⟩, ⟨(some 25), .bin .lss (.t 24) (.c (.i .i64 0)), none, []⟩] false) (.cond (.t 25) (.seq (.reg [⟨(some 4), .mv (.c (.i .i64 (-1))), none, []⟩] false) (.ret)) (.skip))))) (.reg [⟨(some 16), .mv (.t 5), none, []⟩, ⟨(some 17), .bin .add (.t 16) (.c (.i .i64 1)), none, []⟩, ⟨(some 5), .mv (.t 17), none, []⟩] false)))))) (.seq (.reg [⟨(some 26), .mv (.t 1), none, []⟩, ⟨(some 4), .mv (.t 26), none, []⟩] false) (.ret)))))
def toSpc (f sz bytes : Nat) (zs : List T) : PC :=
  .seq (.reg [⟨(some 2), .mv (.c (.nl)), none, []⟩] false) (.seq (.reg [⟨(some 5), .mv (.t 0), none, []⟩, ⟨(some 6), .len (.t 5), none, []⟩, ⟨(some 7), .make sz bytes zs (.t 6), none, []⟩, ⟨(some 3), .mv (.t 7), none, []⟩] false) (.seq (.seq (.reg [⟨(some 4), .mv (.c (.i .i64 0)), none, []⟩] false) (.block 0 (.loop (.seq (.seq (.reg [⟨(some 8), .mv (.t 4), none, []⟩, ⟨(some 9), .mv (.t 0), none, []⟩, ⟨(some 10), .len (.t 9), none, []⟩, ⟨(some 11), .bin .lss (.t 8) (.t 10), none, []⟩] false) (.cond (.t 11) (.skip) (.exit 0))) (.seq (.block 1 (.reg [⟨(some 14), .mv (.t 3), none, []⟩, ⟨(some 15), .mv (.t 4), none, []⟩, ⟨(some 16), .mv (.t 0), none, []⟩, ⟨(some 17), .mv (.t 4), none, []⟩, ⟨(some 18), .ia sz (.t 16) (.t 17), none, []⟩, ⟨(some 19), .load (some sz) (.t 18), none, []⟩, ⟨(some 20), .call (.ev [] .own) f [(.t 19)], none, []⟩, ⟨(some 21), .ia sz (.t 14) (.t 15), none, []⟩, ⟨none, .store (some sz) (.t 21) (.t 20), none, []⟩] false)) (.reg [⟨(some 12), .mv (.t 4), none, []⟩, ⟨(some 13), .bin .add (.t 12) (.c (.i .i64 1)), none, []⟩, ⟨(some 4), .mv (.t 13), none, []⟩] false)))))) (.seq (.reg [⟨(some 22), .mv (.t 3), none, []⟩, ⟨(some 2), .mv (.t 22), none, []⟩] false) (.ret))))
section
variable {α : Type} (S : Sh α) {P : Program} {M : List (Nat × CM)} {f : Nat}
/-- Equal lists. -/
theorem eqS_gen (l : List α) (hl : l.length < 2 ^ 62) (h : ∀ v ∈ l, Rv P f [.agg (S.I v), .agg (S.I v)] (.b true)) :
    W P M 27 (eqSpc f S.sz) (enter [.imm (l.map S.I), .imm (l.map S.I)]) (fin P [.tmp 4] [.imm (l.map S.I), .imm (l.map S.I)] (.b true) [.dead, .dead]) := by
  simp [eqSpc]
  refine W_for (fun i => ⟨[(5, .i .i64 i), (0, .imm (l.map S.I)), (1, .imm (l.map S.I))], [], 0, 0⟩) l.length (fun i => True) (Wk.less rfl (by simp) (by simp) (by simp)) trivial ?_
  intro i hi _
  rcases Nat.lt_or_ge i l.length with h1 | h1
  · obtain ⟨x, hx⟩ : ∃ x, l[i]? = some x := ⟨_, List.getElem?_eq_getElem h1⟩
    have hw : IntKind.i64.wrap ((i : Int) + 1) = (i : Int) + 1 := wrap1 (by omega)
    simp [-getElem?_pos, hx, hw, h1]
    refine callK_val (by simp) (h x (List.mem_of_getElem? hx)) rfl ?_
    simp [-getElem?_pos, hx, hw, h1]
    exact Wk.to rfl (by simp) (by simp) (by simp) (by simp)
  · have h2 : ¬ i < l.length := by omega
    simp [h2]
    exact fin_ret0 rfl (by simp) rfl (by simp)
def sums (c : α → Nat) (l : List α) : Nat := (l.map c).sum
theorem sums_take {c : α → Nat} {l : List α} {i : Nat} {v : α} (h : l[i]? = some v) : sums c (l.take (i + 1)) = sums c (l.take i) + c v := by
  rw [List.take_add_one, h]; simp [sums]
theorem sums_le {c : α → Nat} {l : List α} (i : Nat) : sums c (l.take i) ≤ sums c l := by
  conv => rhs; rw [← List.take_append_drop i l]
  simp only [sums, List.map_append, List.sum_append]; omega
def cl (c : α → Nat) (l : List α) : Nat := l.length + sums c l
theorem szS_gen (c : α → Nat) (l : List α) (hl : l.length ≤ 9223372036854775807) (x : Int) (h0 : 0 ≤ x) (h1 : x < 2 ^ 62) (h : ∀ v ∈ l, ∀ x : Int, 0 ≤ x → x < 2 ^ 62 → Rv P f [.agg (S.I v), .i .i64 x] (.i .i64 (left x (c v)))) :
    W P M 27 (szSpc f S.sz) (enter [.imm (l.map S.I), .i .i64 x]) (fin P [.tmp 4] [.imm (l.map S.I), .i .i64 x] (.i .i64 (left x (cl c l))) [.dead, .dead]) := by
  unfold cl
  have hw : IntKind.i64.wrap (x - l.length) = x - l.length := by rw [wrap64] <;> omega
  by_cases hc : x - l.length < 0
  · simp [szSpc, hw, hc]
    have e : left x (l.length + sums c l) = -1 := by
      unfold left
      rw [if_pos (by omega)]
    exact fin_ret0 rfl (by simp [e]) rfl (by simp)
  · simp [szSpc, hw, hc]
    refine W_for (fun i => ⟨[(5, .i .i64 i), (1, .i .i64 (x - l.length - sums c (l.take i))), (0, .imm (l.map S.I))], [], 0, 0⟩) l.length (fun i => 0 ≤ x - l.length - sums c (l.take i)) (Wk.less rfl (by simp) (by simp [sums]) (by simp)) (by simp [sums]; omega) ?_
    intro i hi hv
    rcases Nat.lt_or_ge i l.length with h2 | h2
    · obtain ⟨v, hx⟩ : ∃ v, l[i]? = some v := ⟨_, List.getElem?_eq_getElem h2⟩
      have hw2 : IntKind.i64.wrap ((i : Int) + 1) = (i : Int) + 1 := wrap1 (by omega)
      have hst := sums_take (c := c) hx
      simp [-getElem?_pos, hx, hw2, h2]
      refine callK_val (by simp) (h v (List.mem_of_getElem? hx) _ hv (by omega)) rfl ?_
      by_cases h3 : x - l.length - sums c (l.take i) - c v < 0
      · have e : left (x - l.length - sums c (l.take i)) (c v) = -1 := by unfold left; rw [if_pos h3]
        simp [e]
        have hle := sums_le (c := c) (l := l) (i + 1)
        have e2 : left x (l.length + sums c l) = -1 := by
          unfold left
          rw [if_pos (by omega)]
        exact fin_ret0 rfl (by simp [e2]) rfl (by simp)
      · have e : left (x - l.length - sums c (l.take i)) (c v) = x - l.length - sums c (l.take i) - c v := by unfold left; rw [if_neg h3]
        simp [e, h3, hw2, h2]
        exact ⟨by omega, Wk.to rfl (by simp) (by simp; omega) (by simp) (by simp)⟩
    · have h4 : ¬ i < l.length := by omega
      simp [h4]
      rw [List.take_of_length_le h2] at hv
      have e2 : left x (l.length + sums c l) = x - l.length - sums c l := by
        unfold left
        rw [if_neg (by omega)]
        omega
      exact fin_ret0 rfl (by simp [e2, List.take_of_length_le h2]) rfl (by simp)
attribute [simp] hdels joins joinT joinsN joinN
theorem take_map_eq {β γ : Type} {g : β → γ} {l : List β} {n : Nat} (h : l.length = n) : (l.map g).take n = l.map g := List.take_of_length_le (by simp; omega)
@[simp] theorem cleanR_nil : cleanR [] = true := rfl
@[simp] theorem cleanR_cons (r : List T) (l : List (List T)) : cleanR (r :: l) = (r.all T.clean && cleanR l) := rfl
@[simp] theorem cleanR_append (a b : List (List T)) : cleanR (a ++ b) = (cleanR a && cleanR b) := by simp [cleanR]
@[simp] theorem take_map_self {β γ : Type} (g : β → γ) (l : List β) : (l.map g).take l.length = l.map g := List.take_of_length_le (by simp)
theorem app1_get {β : Type} {A : List β} {i : Nat} (h : A.length = i) (r : β) : (A ++ [r])[i]? = some r := by rw [List.getElem?_append_right (by omega), h]; simp
theorem app1_set {β : Type} {A : List β} {i : Nat} (h : A.length = i) (r r' : β) : (A ++ [r]).set i r' = A ++ [r'] := by rw [List.set_append_right _ _ (by omega), h]; simp
theorem app1_take {β : Type} {A : List β} {i : Nat} (h : A.length = i) (r : β) : (A ++ [r]).take (i + 1) = A ++ [r] := List.take_of_length_le (by simp; omega)
/-- A state told with less: one block is left. -/
theorem Wk.to1 {s : St} {tm : List (Nat × T)} {b sz nx fb : Nat} {rows : List (List T)} (hfb : fb = s.fb) (hnx : s.fb ≤ nx) (htm : ∀ p ∈ tm, p.2 = tget s.tm p.1 ∧ ∀ x ∈ p.2.names, x < nx) (hb : hget s.hp b = some (.arr sz rows)) (hcl : cleanR rows = true) (hbn : b < nx) :
    Wk s ⟨tm, [(b, .arr sz rows)], nx, fb⟩ := by
  refine Wk.to hfb hnx htm ?_ (by simp)
  intro p hp
  simp only [List.mem_singleton] at hp
  subst hp
  refine ⟨hb, hbn, ?_⟩
  intro x hx
  rw [Blk.names, namesr_clean hcl] at hx
  simp at hx
/-- Rows that are filled one by one. -/
theorem fill_row (g : α → List T) (l : List α) {z : List T} {i : Nat} (h : i < l.length) : ((l.map g).take i ++ List.replicate (l.length - i) z)[i]? = some z := by
  have hlen : ((l.map g).take i).length = i := by simp; omega
  rw [List.getElem?_append_right (by omega), hlen, show l.length - i = l.length - (i + 1) + 1 by omega, List.replicate_succ]; simp
theorem fill_set (g : α → List T) (l : List α) {z : List T} {i : Nat} (h : i < l.length) (r : List T) : ((l.map g).take i ++ List.replicate (l.length - i) z).set i r = (l.map g).take i ++ r :: List.replicate (l.length - (i + 1)) z := by
  have hlen : ((l.map g).take i).length = i := by simp; omega
  rw [List.set_append_right _ _ (by omega), hlen, show l.length - i = l.length - (i + 1) + 1 by omega, List.replicate_succ]; simp
theorem fill_new (g : α → List T) {l : List α} {i : Nat} {v : α} (hx : l[i]? = some v) : (l.map g).take (i + 1) = (l.map g).take i ++ [g v] := by
  rw [List.take_add_one, List.getElem?_map, hx]; simp
theorem fill_get (g : α → List T) {l : List α} {r z : List T} {i : Nat} (h : i < l.length) : ((l.map g).take i ++ r :: List.replicate (l.length - (i + 1)) z)[i]? = some r := by
  have hlen : ((l.map g).take i).length = i := by simp; omega
  rw [List.getElem?_append_right (by omega), hlen]; simp
theorem fill_set2 (g : α → List T) {l : List α} {r r' z : List T} {i : Nat} (h : i < l.length) : ((l.map g).take i ++ r :: List.replicate (l.length - (i + 1)) z).set i r' = (l.map g).take i ++ r' :: List.replicate (l.length - (i + 1)) z := by
  have hlen : ((l.map g).take i).length = i := by simp; omega
  rw [List.set_append_right _ _ (by omega), hlen]; simp
theorem fill_clean (S : Sh α) {l : List α} {z : List T} (hz : z.all T.clean = true) (i n : Nat) : cleanR ((l.map S.O).take i ++ List.replicate n z) = true := by
  have h3 := S.crO (l.take i)
  rw [List.map_take] at h3
  simp only [cleanR] at h3 ⊢
  simp only [List.all_append, h3, List.all_replicate, hz, Bool.true_and]
  simp
theorem toS_gen {bytes : Nat} {zs : List T} (hz : zs.length = S.sz) (hzc : zs.all T.clean = true) (hb : bytes ≤ 1024) (l : List α) (hl : l.length ≤ 2 ^ 20) (h : ∀ v ∈ l, Rv P f [.agg (S.I v)] (.agg (S.O v))) :
    W P M 23 (toSpc f S.sz bytes zs) (enter [.imm (l.map S.I)]) (fin P [.tmp 2] [.imm (l.map S.I)] (.own S.sz (l.map S.O)) [.dead]) := by
  have hb1 : (l.length : Int) * bytes ≤ 35184372088832 := by
    have : l.length * bytes ≤ 2 ^ 20 * 1024 := Nat.mul_le_mul hl hb
    have h2 : ((l.length * bytes : Nat) : Int) ≤ ((2 ^ 20 * 1024 : Nat) : Int) := Int.ofNat_le.2 this
    simp only [Int.natCast_mul] at h2
    omega
  have hb2 : (l.length : Int) ≤ 35184372088832 := by omega
  simp [toSpc, hb1, hb2]
  refine W_for (fun i => ⟨[(4, .i .i64 i), (3, .ref 0 0 l.length), (0, .imm (l.map S.I))], [(0, .arr S.sz ((l.map S.O).take i ++ List.replicate (l.length - i) zs))], 1, 0⟩) l.length (fun i => True) (Wk.less rfl (by simp) (by simp) (by simp)) trivial ?_
  intro i hi _
  rcases Nat.lt_or_ge i l.length with h2 | h2
  · obtain ⟨v, hx⟩ : ∃ v, l[i]? = some v := ⟨_, List.getElem?_eq_getElem h2⟩
    have hw2 : IntKind.i64.wrap ((i : Int) + 1) = (i : Int) + 1 := wrap1 (by omega)
    simp [-getElem?_pos, hx, hw2, h2]
    refine callK_val (by simp) (h v (List.mem_of_getElem? hx)) (by simp [T.noImm]) ?_
    have hrep : List.replicate (l.length - i) zs = zs :: List.replicate (l.length - (i + 1)) zs := by
      rw [show l.length - i = l.length - (i + 1) + 1 by omega, List.replicate_succ]
    have hlen : ((l.map S.O).take i).length = i := by simp; omega
    have hrow : ((l.map S.O).take i ++ List.replicate (l.length - i) zs)[i]? = some zs := by
      rw [List.getElem?_append_right (by omega), hlen, hrep]; simp
    have hset : ∀ r, ((l.map S.O).take i ++ List.replicate (l.length - i) zs).set i r = (l.map S.O).take i ++ r :: List.replicate (l.length - (i + 1)) zs := by
      intro r
      rw [List.set_append_right _ _ (by omega), hlen, hrep]; simp
    have hnew : (l.map S.O).take (i + 1) = (l.map S.O).take i ++ [S.O v] := by
      rw [List.take_add_one, List.getElem?_map, hx]; simp
    have hcell := ow_cell (n := 1) (S.ow v)
    have hml := mats_len (S.O v) 1
    have hnm := mats_names (n := 1) (S.plO v)
    have hn0 : 0 ∉ (mats (S.O v) 1).2.map (·.1) := fun h => by have := hnm.1 0 h; omega
    have hg0 : ∀ k, hget (hap [(0, k)] (news (mats (S.O v) 1).2)) 0 = some k := fun k => by rw [hget_news_not hn0]; rfl
    have hg1 : ∀ k, ∀ p ∈ (mats (S.O v) 1).2, hget (hap [(0, k)] (news (mats (S.O v) 1).2)) p.1 = some p.2 := fun k => hget_news_mem hnm.2
    simp only [news] at hg0 hg1
    simp [-getElem?_pos, hx, hw2, h2, hg0, hml, hrow, hset, hcell, hz]
    have hzd : List.drop S.sz zs = [] := List.drop_of_length_le (by omega)
    have hl2 : ((l.map S.O).take i ++ (mats (S.O v) 1).1 :: List.replicate (l.length - (i + 1)) zs)[i]? = some (mats (S.O v) 1).1 := by
      rw [List.getElem?_append_right (by omega), hlen]; simp
    have hset2 : ((l.map S.O).take i ++ (mats (S.O v) 1).1 :: List.replicate (l.length - (i + 1)) zs).set i (S.O v) = (l.map S.O).take i ++ S.O v :: List.replicate (l.length - (i + 1)) zs := by
      rw [List.set_append_right _ _ (by omega), hlen]; simp
    have hcl : cleanR ((l.map S.O).take i ++ S.O v :: List.replicate (l.length - (i + 1)) zs) = true := by
      have h3 := S.crO (l.take i)
      rw [List.map_take] at h3
      simp only [cleanR] at h3 ⊢
      simp only [List.all_append, h3, List.all_cons, S.cO, List.all_replicate, hzc, Bool.true_and, Bool.and_true]
      simp
    rw [hzd, List.append_nil]
    refine Wk.trans (Wk.joinR (b := 0) (n := 1) (r := i) (cs := S.O v) (hget_hset_same _ _ _) hl2 (S.plO v) (fun p hp => ?_) (by omega)) ?_
    · have hpn := (hnm.1 p.1 (List.mem_map.2 ⟨p, hp, rfl⟩)).1
      rw [hget_hset_ne _ _ (by omega)]
      exact hg1 _ p hp
    · rw [hset2]
      refine Wk.to rfl (by simp) (by simp) ?_ (by simp)
      intro p hp
      simp only [List.mem_singleton] at hp
      subst hp
      refine ⟨?_, by simp, ?_⟩
      · rw [hget_hset_same, hnew]; simp
      · intro x hx
        rw [Blk.names, namesr_clean (by rw [hnew]; simpa using hcl)] at hx
        simp at hx
  · have h4 : ¬ i < l.length := by omega
    have h5 : l.length - i = 0 := by omega
    simp [h4]
    refine fin_ret (ts := [0]) rfl ?_ rfl (by simp)
    have e : (l.map S.O).take i = l.map S.O := List.take_of_length_le (by simp; omega)
    have e2 : (l.map S.O).take l.length = l.map S.O := List.take_of_length_le (by simp)
    simp [e, e2, h5]
end
end Go.Proofs.Ytehdfbhfbidadaa.V
/- Values, props, nodes, edges, graphs as rows of trees. -/
namespace Go.Proofs.Ytehdfbhfbidadaa.V
open Go
set_option linter.unusedVariables false
set_option linter.unusedSimpArgs false
inductive Vl where
  | mk (k n : Int) (s : List UInt8) (l : List Vl)
namespace Vl
def k : Vl → Int | .mk k _ _ _ => k
def n : Vl → Int | .mk _ n _ _ => n
def s : Vl → List UInt8 | .mk _ _ s _ => s
def l : Vl → List Vl | .mk _ _ _ l => l
end Vl
attribute [simp] Vl.k Vl.n Vl.s Vl.l
mutual
def VO : Vl → List T
  | .mk k n s l => [.i .i64 k, .i .i64 n, .s s, .own 4 (VOs l)]
def VOs : List Vl → List (List T)
  | [] => []
  | v :: l => VO v :: VOs l
end
mutual
def VI : Vl → List T
  | .mk k n s l => [.i .i64 k, .i .i64 n, .s s, .imm (VIs l)]
def VIs : List Vl → List (List T)
  | [] => []
  | v :: l => VI v :: VIs l
end
theorem VIs_map : ∀ l, VIs l = l.map VI
  | [] => rfl
  | v :: l => by simp [VIs, VIs_map l]
theorem VOs_map : ∀ l, VOs l = l.map VO
  | [] => rfl
  | v :: l => by simp [VOs, VOs_map l]
mutual
theorem VO_toI : ∀ v, toIs (VO v) = VI v
  | .mk k n s l => by simp [VO, VI, toIs, T.toI, VOs_toI l]
theorem VOs_toI : ∀ l, toIr (VOs l) = VIs l
  | [] => by simp [VOs, VIs, toIr]
  | v :: l => by simp [VOs, VIs, toIr, VO_toI v, VOs_toI l]
end
mutual
theorem VO_ow : ∀ v, (VO v).all T.ow = true
  | .mk k n s l => by simp [VO, T.ow, (VOs_ow l).1, (VOs_ow l).2]
theorem VOs_ow : ∀ l, cleanR (VOs l) = true ∧ noImr (VOs l) = true
  | [] => by simp [VOs, cleanR, noImr]
  | v :: l => by
    have h1 := VO_ow v
    have h2 := VOs_ow l
    have h3 := h2.1
    simp only [cleanR] at h3
    exact ⟨by simp only [VOs, cleanR, List.all_cons, ow_clean h1, h3, Bool.and_self], by simp only [VOs, noImr, ow_noImm h1, h2.2, Bool.and_self]⟩
end
def sV : Sh Vl where
  sz := 4
  I := VI
  O := VO
  lI v := by cases v; simp [VI]
  lO v := by cases v; simp [VO]
  toO := VO_toI
  im v := by cases v; simp [VI, T.im]
  ow := VO_ow
@[simp] theorem sV_sz : sV.sz = 4 := rfl
@[simp] theorem sV_I (k n : Int) (s : List UInt8) (l : List Vl) : sV.I (.mk k n s l) = [.i .i64 k, .i .i64 n, .s s, .imm (l.map sV.I)] := by
  show VI _ = _
  simp only [VI, VIs_map]; rfl
@[simp] theorem sV_O (k n : Int) (s : List UInt8) (l : List Vl) : sV.O (.mk k n s l) = [.i .i64 k, .i .i64 n, .s s, .own 4 (l.map sV.O)] := by
  show VO _ = _
  simp only [VO, VOs_map]; rfl
@[simp] theorem sV_take (v : Vl) : (sV.I v).take 4 = sV.I v := sV.takeI v
mutual
def Vl.cnt : Vl → Nat
  | .mk _ _ s l => s.length + Vl.cnts l
def Vl.cnts : List Vl → Nat
  | [] => 0
  | v :: l => 1 + v.cnt + Vl.cnts l
end
theorem Vl.cnts_eq : ∀ l, Vl.cnts l = l.length + sums Vl.cnt l
  | [] => rfl
  | v :: l => by simp only [Vl.cnts, Vl.cnts_eq l, sums, List.map_cons, List.sum_cons, List.length_cons]; omega
theorem Vl.cnt_mk (k n : Int) (s : List UInt8) (l : List Vl) : (Vl.mk k n s l).cnt = s.length + cl Vl.cnt l := by simp only [Vl.cnt, Vl.cnts_eq, cl]
theorem sums_mem {α : Type} {c : α → Nat} {l : List α} {a : α} (h : a ∈ l) : c a ≤ sums c l := by
  induction l with
  | nil => simp at h
  | cons x l ih =>
    simp only [sums, List.map_cons, List.sum_cons]
    rcases List.mem_cons.1 h with rfl | h
    · omega
    · have := ih h; simp only [sums] at this; omega
/-- What holds of a value if it holds of those in its list. -/
theorem Vl.ind {p : Vl → Prop} (h : ∀ k n s l, (∀ v ∈ l, p v) → p (.mk k n s l)) (v : Vl) : p v :=
  Vl.rec (motive_1 := p) (motive_2 := fun l => ∀ v ∈ l, p v) (fun k n s l hl => h k n s l hl) (by simp) (fun v l h1 h2 w hw => by
    rcases List.mem_cons.1 hw with rfl | hw
    · exact h1
    · exact h2 w hw) v
/-! ### texts and numbers -/
abbrev Tx := List UInt8
def sS : Sh Tx where
  sz := 1
  I x := [.s x]
  O x := [.s x]
  lI _ := rfl
  lO _ := rfl
  toO _ := by simp
  im _ := by simp [T.im]
  ow _ := by simp [T.ow]
@[simp] theorem sS_sz : sS.sz = 1 := rfl
@[simp] theorem sS_I (x : Tx) : sS.I x = [.s x] := rfl
@[simp] theorem sS_O (x : Tx) : sS.O x = [.s x] := rfl
def sI : Sh Int where
  sz := 1
  I x := [.i .i64 x]
  O x := [.i .i64 x]
  lI _ := rfl
  lO _ := rfl
  toO _ := by simp
  im _ := by simp [T.im]
  ow _ := by simp [T.ow]
@[simp] theorem sI_sz : sI.sz = 1 := rfl
@[simp] theorem sI_I (x : Int) : sI.I x = [.i .i64 x] := rfl
@[simp] theorem sI_O (x : Int) : sI.O x = [.i .i64 x] := rfl
/-! ### props, nodes, edges, graphs -/
structure Pr where
  name : Tx
  val : Vl
structure Nd where
  id : Int
  labels : List Tx
  props : List Pr
structure Eg where
  id : Int
  kind : Tx
  frm : Int
  to : Int
  props : List Pr
structure Gr where
  nodes : List Nd
  edges : List Eg
  nn : Int
  ne : Int
def sP : Sh Pr where
  sz := 5
  I p := .s p.name :: sV.I p.val
  O p := .s p.name :: sV.O p.val
  lI _ := by simp
  lO _ := by simp
  toO _ := by simp [Sh.toO]
  im _ := by simp [T.im, Sh.im, -List.all_eq_true]
  ow _ := by simp [T.ow, Sh.ow, -List.all_eq_true]
@[simp] theorem sP_sz : sP.sz = 5 := rfl
@[simp] theorem sP_I (n : Tx) (v : Vl) : sP.I ⟨n, v⟩ = .s n :: sV.I v := rfl
@[simp] theorem sP_O (n : Tx) (v : Vl) : sP.O ⟨n, v⟩ = .s n :: sV.O v := rfl
@[simp] theorem sP_take (p : Pr) : (sP.I p).take 5 = sP.I p := sP.takeI p
def Pr.cnt (p : Pr) : Nat := p.name.length + p.val.cnt
def sN : Sh Nd where
  sz := 3
  I a := [.i .i64 a.id, .imm (a.labels.map sS.I), .imm (a.props.map sP.I)]
  O a := [.i .i64 a.id, .own 1 (a.labels.map sS.O), .own 5 (a.props.map sP.O)]
  lI _ := by simp
  lO _ := by simp
  toO _ := by simp only [toIs, toI_i, toI_own, Sh.rO]
  im _ := by simp [T.im]
  ow _ := by simp only [List.all_cons, T.ow, Sh.crO, Sh.nrO, Bool.and_self, List.all_nil]
@[simp] theorem sN_sz : sN.sz = 3 := rfl
@[simp] theorem sN_I (i : Int) (l : List Tx) (p : List Pr) : sN.I ⟨i, l, p⟩ = [.i .i64 i, .imm (l.map sS.I), .imm (p.map sP.I)] := rfl
@[simp] theorem sN_O (i : Int) (l : List Tx) (p : List Pr) : sN.O ⟨i, l, p⟩ = [.i .i64 i, .own 1 (l.map sS.O), .own 5 (p.map sP.O)] := rfl
@[simp] theorem sN_take (a : Nd) : (sN.I a).take 3 = sN.I a := sN.takeI a
def Nd.cnt (a : Nd) : Nat := cl List.length a.labels + cl Pr.cnt a.props
def sE : Sh Eg where
  sz := 5
  I a := [.i .i64 a.id, .s a.kind, .i .i64 a.frm, .i .i64 a.to, .imm (a.props.map sP.I)]
  O a := [.i .i64 a.id, .s a.kind, .i .i64 a.frm, .i .i64 a.to, .own 5 (a.props.map sP.O)]
  lI _ := by simp
  lO _ := by simp
  toO _ := by simp only [toIs, toI_i, toI_s, toI_own, Sh.rO]
  im _ := by simp [T.im]
  ow _ := by simp only [List.all_cons, T.ow, Sh.crO, Sh.nrO, Bool.and_self, List.all_nil]
@[simp] theorem sE_sz : sE.sz = 5 := rfl
@[simp] theorem sE_I (i : Int) (k : Tx) (f t : Int) (p : List Pr) : sE.I ⟨i, k, f, t, p⟩ = [.i .i64 i, .s k, .i .i64 f, .i .i64 t, .imm (p.map sP.I)] := rfl
@[simp] theorem sE_O (i : Int) (k : Tx) (f t : Int) (p : List Pr) : sE.O ⟨i, k, f, t, p⟩ = [.i .i64 i, .s k, .i .i64 f, .i .i64 t, .own 5 (p.map sP.O)] := rfl
@[simp] theorem sE_take (a : Eg) : (sE.I a).take 5 = sE.I a := sE.takeI a
def Eg.cnt (a : Eg) : Nat := a.kind.length + cl Pr.cnt a.props
def sG : Sh Gr where
  sz := 4
  I a := [.imm (a.nodes.map sN.I), .imm (a.edges.map sE.I), .i .i64 a.nn, .i .i64 a.ne]
  O a := [.own 3 (a.nodes.map sN.O), .own 5 (a.edges.map sE.O), .i .i64 a.nn, .i .i64 a.ne]
  lI _ := by simp
  lO _ := by simp
  toO _ := by simp only [toIs, toI_i, toI_s, toI_own, Sh.rO]
  im _ := by simp [T.im]
  ow _ := by simp only [List.all_cons, T.ow, Sh.crO, Sh.nrO, Bool.and_self, List.all_nil]
@[simp] theorem sG_sz : sG.sz = 4 := rfl
@[simp] theorem sG_I (a : List Nd) (b : List Eg) (c d : Int) : sG.I ⟨a, b, c, d⟩ = [.imm (a.map sN.I), .imm (b.map sE.I), .i .i64 c, .i .i64 d] := rfl
@[simp] theorem sG_O (a : List Nd) (b : List Eg) (c d : Int) : sG.O ⟨a, b, c, d⟩ = [.own 3 (a.map sN.O), .own 5 (b.map sE.O), .i .i64 c, .i .i64 d] := rfl
@[simp] theorem sG_take (a : Gr) : (sG.I a).take 4 = sG.I a := sG.takeI a
def Gr.cnt (a : Gr) : Nat := cl Nd.cnt a.nodes + cl Eg.cnt a.edges
end Go.Proofs.Ytehdfbhfbidadaa.V
/- What memory can hold. -/
namespace Go.Proofs.Ytehdfbhfbidadaa.V
open Go
set_option linter.unusedVariables false
set_option linter.unusedSimpArgs false
set_option maxHeartbeats 2000000
/-! ### what memory can hold -/
abbrev i64 (x : Int) : Prop := -9223372036854775808 ≤ x ∧ x < 9223372036854775808
abbrev ln {α : Type} (l : List α) : Prop := l.length ≤ 9223372036854775807
mutual
def Vl.fit : Vl → Prop
  | .mk k n s l => i64 k ∧ i64 n ∧ ln s ∧ ln l ∧ Vl.fits l
def Vl.fits : List Vl → Prop
  | [] => True
  | v :: l => v.fit ∧ Vl.fits l
end
theorem Vl.fits_iff : ∀ {l : List Vl}, Vl.fits l ↔ ∀ v ∈ l, v.fit
  | [] => by simp [Vl.fits]
  | v :: l => by simp [Vl.fits, Vl.fits_iff (l := l)]
theorem Vl.fit_mk {k n : Int} {s : Tx} {l : List Vl} : (Vl.mk k n s l).fit ↔ i64 k ∧ i64 n ∧ ln s ∧ ln l ∧ ∀ v ∈ l, v.fit := by
  rw [Vl.fit, Vl.fits_iff]
def Pr.fit (p : Pr) : Prop := ln p.name ∧ p.val.fit
def Nd.fit (a : Nd) : Prop := i64 a.id ∧ ln a.labels ∧ (∀ x ∈ a.labels, ln x) ∧ ln a.props ∧ ∀ p ∈ a.props, p.fit
def Eg.fit (a : Eg) : Prop := i64 a.id ∧ ln a.kind ∧ i64 a.frm ∧ i64 a.to ∧ ln a.props ∧ ∀ p ∈ a.props, p.fit
def Gr.fit (a : Gr) : Prop := ln a.nodes ∧ (∀ x ∈ a.nodes, x.fit) ∧ ln a.edges ∧ (∀ x ∈ a.edges, x.fit) ∧ i64 a.nn ∧ i64 a.ne
theorem wsub {x : Int} {n : Nat} (h0 : 0 ≤ x) (h1 : x < 2 ^ 62) (h : n ≤ 9223372036854775807) : IntKind.i64.wrap (x - n) = x - n := wrap64 (by omega) (by omega)
@[simp] theorem wrap_one : IntKind.i64.wrap 1 = 1 := by decide
@[simp] theorem wrap_zero : IntKind.i64.wrap 0 = 0 := by decide
end Go.Proofs.Ytehdfbhfbidadaa.V
/- Names and texts. -/
namespace Go.Proofs.Ytehdfbhfbidadaa.V
open Go
set_option linter.unusedVariables false
set_option linter.unusedSimpArgs false
set_option maxHeartbeats 4000000
def isLet (c : UInt8) : Bool := (decide (97 ≤ c.toNat) && decide (c.toNat ≤ 122)) || (decide (65 ≤ c.toNat) && decide (c.toNat ≤ 90))
def isFig (c : UInt8) : Bool := decide (48 ≤ c.toNat) && decide (c.toNat ≤ 57)
def kept : List Tx := [[77, 65, 84, 67, 72], [79, 80, 84, 73, 79, 78, 65, 76], [87, 72, 69, 82, 69], [85, 78, 87, 73, 78, 68], [87, 73, 84, 72], [82, 69, 84, 85, 82, 78], [67, 82, 69, 65, 84, 69], [83, 69, 84], [68, 69, 76, 69, 84, 69], [68, 69, 84, 65, 67, 72], [65, 83], [65, 78, 68], [79, 82], [78, 79, 84], [73, 83], [78, 85, 76, 76], [73, 78], [68, 73, 83, 84, 73, 78, 67, 84], [79, 82, 68, 69, 82], [66, 89], [68, 69, 83, 67], [83, 75, 73, 80], [76, 73, 77, 73, 84], [110, 117, 108, 108], [116, 114, 117, 101], [102, 97, 108, 115, 101], [99, 111, 117, 110, 116], [115, 117, 109], [115, 105, 122, 101]]
/-- From the second letter on. -/
def inName (c : UInt8) : Bool := isLet c || isFig c
def nameOk : Tx → Bool
  | [] => false
  | c :: r => isLet c && r.all inName && decide (r.length ≤ 7) && !kept.contains (c :: r)
theorem l2Letter_c (c : UInt8) : Rv Try.prog 130 [.i .u8 (c.toNat : Int)] (.b (isLet c)) := by
  refine via_spec_l2Letter (by simp) ?_
  by_cases h1 : 97 ≤ (c.toNat : Int) <;> by_cases h2 : (c.toNat : Int) ≤ 122 <;> by_cases h3 : 65 ≤ (c.toNat : Int) <;> by_cases h4 : (c.toNat : Int) ≤ 90 <;>
    (simp [pc_spec_l2Letter, h1, h2, h3, h4]; exact fin_val rfl (by simp [isLet]; omega) (by simp))
theorem isLetter_c (c : UInt8) : Rv Try.prog 134 [.i .u8 (c.toNat : Int)] (.b (isLet c)) := by
  refine via_impl_isLetter (by simp) ?_
  by_cases h1 : 97 ≤ (c.toNat : Int) <;> by_cases h2 : (c.toNat : Int) ≤ 122 <;> by_cases h3 : 65 ≤ (c.toNat : Int) <;> by_cases h4 : (c.toNat : Int) ≤ 90 <;>
    (simp [pc_impl_isLetter, h1, h2, h3, h4]; exact fin_val rfl (by simp [isLet]; omega) (by simp))
theorem isFigure_c (c : UInt8) : Rv Try.prog 135 [.i .u8 (c.toNat : Int)] (.b (isFig c)) := by
  refine via_impl_isFigure (by simp) ?_
  by_cases h1 : 48 ≤ (c.toNat : Int) <;> by_cases h2 : (c.toNat : Int) ≤ 57 <;>
    (simp [pc_impl_isFigure, h1, h2]; exact fin_val rfl (by simp [isFig]; omega) (by simp))
theorem l1In_c (n lo hi : Int) : Rv Try.prog 69 [.i .i64 n, .i .i64 lo, .i .i64 hi] (.b (decide (lo ≤ n) && decide (n ≤ hi))) := by
  refine via_spec_l1In (by simp) ?_
  by_cases h1 : lo ≤ n <;> by_cases h2 : n ≤ hi <;>
    (simp [pc_spec_l1In, h1, h2]; exact fin_val rfl (by simp [h1, h2]) (by simp))
theorem kept_len : kept.length = 29 := rfl
theorem l2Kept_c (s : Tx) : Rv Try.prog 131 [.s s] (.b (kept.contains s)) := by
  refine via_spec_l2Kept (by simp) ?_
  simp [pc_spec_l2Kept]
  refine W_for (fun i => ⟨[(4, .i .i64 i), (3, .ref 0 0 29), (0, .s s)], [(0, .arr 1 (kept.map sS.O))], 1, 0⟩) 29 (fun i => ∀ j, j < i → kept[j]? ≠ some s) (Wk.less rfl (by simp) (by simp) (by simp [kept])) (by simp) ?_
  intro i hi hv
  rcases Nat.lt_or_ge i 29 with h1 | h1
  · obtain ⟨x, hx⟩ : ∃ x, kept[i]? = some x := ⟨_, List.getElem?_eq_getElem (by rw [kept_len]; exact h1)⟩
    have hw : IntKind.i64.wrap ((i : Int) + 1) = (i : Int) + 1 := wrap1 (by omega)
    have h1' : (i : Int) < 29 := by omega
    by_cases e : x = s
    · simp [-getElem?_pos, hx, hw, h1', e]
      exact fin_val rfl (by simp [← e, List.mem_of_getElem? hx]) (by simp)
    · simp [-getElem?_pos, hx, hw, h1', e, h1]
      refine ⟨?_, Wk.to1 rfl (by simp) (by simp) (by simp) (Sh.crO sS _) (by omega)⟩
      intro j hj
      rcases Nat.lt_or_ge j i with h2 | h2
      · exact hv j h2
      · rw [show j = i by omega, hx]; simpa using e
  · have h2 : ¬ (i : Int) < 29 := by omega
    simp [h2]
    have hn : ¬ s ∈ kept := by
      intro h
      obtain ⟨j, hj⟩ := List.mem_iff_getElem?.1 h
      have : j < kept.length := (List.getElem?_eq_some_iff.1 hj).1
      rw [kept_len] at this
      exact hv j (by omega) hj
    exact fin_val rfl (by simp [hn]) (by simp)
/-- What may stand at a place of a name. -/
def okAt (i : Nat) (c : UInt8) : Prop := isLet c = true ∨ (i ≠ 0 ∧ isFig c = true)
theorem nameOk_iff (s : Tx) : nameOk s = true ↔ (∀ i c, s[i]? = some c → okAt i c) ∧ 1 ≤ s.length ∧ s.length ≤ 8 ∧ ¬ s ∈ kept := by
  cases s with
  | nil => simp [nameOk]
  | cons c r =>
    simp only [nameOk, Bool.and_eq_true, List.all_eq_true, decide_eq_true_eq, Bool.not_eq_true', List.length_cons]
    constructor
    · rintro ⟨⟨⟨h1, h2⟩, h3⟩, h4⟩
      refine ⟨fun i d hd => ?_, by omega, by omega, fun h => by simp [h] at h4⟩
      cases i with
      | zero => simp at hd; subst hd; exact .inl h1
      | succ i =>
        simp at hd
        have := h2 d (List.mem_of_getElem? hd)
        simp only [inName, Bool.or_eq_true] at this
        exact this.imp id fun h => ⟨by omega, h⟩
    · rintro ⟨h1, h2, h3, h4⟩
      refine ⟨⟨⟨?_, fun d hd => ?_⟩, by omega⟩, by simp [h4]⟩
      · have := h1 0 c rfl
        rcases this with h | h
        · exact h
        · exact absurd rfl h.1
      · obtain ⟨i, hi⟩ := List.mem_iff_getElem?.1 hd
        have := h1 (i + 1) d (by simpa using hi)
        simp only [inName, Bool.or_eq_true]
        exact this.imp id And.right
theorem nameOk_false {s : Tx} (h : ¬ ((∀ i c, s[i]? = some c → okAt i c) ∧ 1 ≤ s.length ∧ s.length ≤ 8 ∧ ¬ s ∈ kept)) : nameOk s = false := by
  rw [Bool.eq_false_iff]; intro h2; exact h ((nameOk_iff s).1 h2)
theorem l2Name_c (s : Tx) (hs : ln s) : Rv Try.prog 67 [.s s] (.b (nameOk s)) := by
  refine via_spec_l2Name (by simp) ?_
  simp [pc_spec_l2Name]
  refine W_for (fun i => ⟨[(3, .i .i64 i), (0, .s s)], [], 0, 0⟩) s.length (fun i => ∀ j c, j < i → s[j]? = some c → okAt j c) (Wk.less rfl (by simp) (by simp) (by simp)) (by simp) ?_
  intro i hi hv
  rcases Nat.lt_or_ge i s.length with h1 | h1
  · obtain ⟨x, hx⟩ : ∃ x, s[i]? = some x := ⟨_, List.getElem?_eq_getElem h1⟩
    have hw : IntKind.i64.wrap ((i : Int) + 1) = (i : Int) + 1 := wrap1 (by omega)
    simp [-getElem?_pos, hx, h1]
    refine callK_val (by simp) (l2Letter_c x) rfl ?_
    by_cases hl : isLet x = true
    · simp [-getElem?_pos, hx, h1, hl, hw]
      refine ⟨fun j c hj hc => ?_, Wk.to rfl (by simp) (by simp) (by simp) (by simp)⟩
      rcases Nat.lt_or_ge j i with h2 | h2
      · exact hv j c h2 hc
      · rw [show j = i by omega, hx] at hc
        simp at hc; subst hc; exact .inl hl
    · by_cases h0 : i = 0
      · simp [-getElem?_pos, hx, h1, hl, hw, h0]
        refine fin_val rfl ?_ (by simp)
        rw [nameOk_false fun h => ?_]
        · simp
        · have := h.1 i x hx
          simp [okAt, hl, h0] at this
      · by_cases h2 : (x.toNat : Int) < 48
        · simp [-getElem?_pos, hx, h1, hl, hw, h0, h2]
          refine fin_val rfl ?_ (by simp)
          rw [nameOk_false fun h => ?_]
          · simp
          · have := h.1 i x hx
            simp [okAt, hl, isFig] at this
            omega
        · by_cases h3 : 57 < (x.toNat : Int)
          · simp [-getElem?_pos, hx, h1, hl, hw, h0, h2, h3]
            refine fin_val rfl ?_ (by simp)
            rw [nameOk_false fun h => ?_]
            · simp
            · have := h.1 i x hx
              simp [okAt, hl, isFig] at this
              omega
          · simp [-getElem?_pos, hx, h1, hl, hw, h0, h2, h3]
            refine ⟨fun j c hj hc => ?_, Wk.to rfl (by simp) (by simp) (by simp) (by simp)⟩
            rcases Nat.lt_or_ge j i with h4 | h4
            · exact hv j c h4 hc
            · rw [show j = i by omega, hx] at hc
              simp at hc; subst hc; exact .inr ⟨by omega, by simp [isFig]; omega⟩
  · have h2 : ¬ i < s.length := by omega
    have hall : ∀ j c, s[j]? = some c → okAt j c := fun j c hc => hv j c (by have := (List.getElem?_eq_some_iff.1 hc).1; omega) hc
    simp [h2]
    refine callK_val (by simp) (l1In_c s.length 1 8) rfl ?_
    by_cases h3 : 1 ≤ s.length
    · by_cases h4 : s.length ≤ 8
      · have h3' : (1 : Int) ≤ s.length := by omega
        have h4' : (s.length : Int) ≤ 8 := by omega
        simp [h3', h4', h3, h4]
        refine callK_val (by simp) (l2Kept_c s) rfl ?_
        by_cases h5 : s ∈ kept
        · simp [h3', h4', h5, h3, h4]
          refine fin_val rfl ?_ (by simp)
          rw [nameOk_false fun h => h.2.2.2 h5]; simp
        · simp [h3', h4', h5, h3, h4]
          refine fin_val rfl ?_ (by simp)
          rw [(nameOk_iff s).2 ⟨hall, h3, h4, h5⟩]; simp
      · have h4' : ¬ (s.length : Int) ≤ 8 := by omega
        simp [h4', h4]
        refine fin_val rfl ?_ (by simp)
        rw [nameOk_false fun h => h4 h.2.2.1]; simp
    · have h3' : ¬ (1 : Int) ≤ s.length := by omega
      simp [h3', h3]
      refine fin_val rfl ?_ (by simp)
      rw [nameOk_false fun h => h3 h.2.1]; simp
set_option maxRecDepth 20000 in
theorem NameOk_c (s : Tx) (hs : ln s) : Rv Try.prog 71 [.s s] (.b (nameOk s)) := by
  refine via_impl_NameOk (by simp) ?_
  cases hs0 : s with
  | nil =>
    simp [pc_impl_NameOk]
    exact fin_val rfl (by simp [nameOk]) (by simp)
  | cons c r =>
    rw [← hs0]
    have hne : ¬ s = [] := by simp [hs0]
    have hc0 : s[0]? = some c := by simp [hs0]
    have hlen : s.length = r.length + 1 := by simp [hs0]
    by_cases h8 : 8 < s.length
    · have h8' : (8 : Int) < s.length := by omega
      simp [pc_impl_NameOk, hne, h8, h8']
      refine fin_val rfl ?_ (by simp)
      rw [nameOk_false fun h => by omega]; simp
    · have h8' : ¬ (8 : Int) < s.length := by omega
      simp [-getElem?_pos, pc_impl_NameOk, hne, h8, h8', hc0]
      refine callK_val (by simp) (isLetter_c c) rfl ?_
      by_cases hl : isLet c = true
      · simp [-getElem?_pos, hne, h8, h8', hc0, hl]
        refine W_wk (s' := ⟨[(3, .i .i64 1), (0, .s s)], [], 0, 0⟩) (Wk.less rfl (by simp) (by simp) (by simp)) ?_
        refine W_while (m := s.length - 1) (fun m st => ∃ i : Nat, 1 ≤ i ∧ i + m = s.length ∧ (∀ j d, j < i → s[j]? = some d → okAt j d) ∧ st = ⟨[(3, .i .i64 i), (0, .s s)], [], 0, 0⟩) ⟨1, by omega, by omega, fun j d hj hd => by
          rw [show j = 0 by omega, hc0] at hd; simp at hd; subst hd; exact .inl hl, rfl⟩ ?_
        rintro m st ⟨i, hi1, him, hv, rfl⟩
        rcases Nat.lt_or_ge i s.length with h1 | h1
        · obtain ⟨x, hx⟩ : ∃ x, s[i]? = some x := ⟨_, List.getElem?_eq_getElem h1⟩
          have hw : IntKind.i64.wrap ((i : Int) + 1) = (i : Int) + 1 := wrap1 (by omega)
          have h1' : (i : Int) < s.length := by omega
          have done : okAt i x → ∀ j d, j < i + 1 → s[j]? = some d → okAt j d := by
            intro ho j d hj hd
            rcases Nat.lt_or_ge j i with h4 | h4
            · exact hv j d h4 hd
            · obtain rfl : j = i := by omega
              rw [hx] at hd
              simp at hd; subst hd; exact ho
          simp [-getElem?_pos, hx, h1, h1']
          refine callK_val (by simp) (isLetter_c x) rfl ?_
          by_cases hlx : isLet x = true
          · simp [-getElem?_pos, hx, h1, h1', hlx, hw]
            exact ⟨_, Wk.to (s' := ⟨[(3, .i .i64 ((i + 1 : Nat) : Int)), (0, .s s)], [], 0, 0⟩) rfl (by simp) (by simp) (by simp) (by simp), s.length - (i + 1), by omega, i + 1, by omega, by omega, done (.inl hlx), rfl⟩
          · simp [-getElem?_pos, hx, h1, h1', hlx, hw]
            refine callK_val (by simp) (isFigure_c x) rfl ?_
            by_cases hfx : isFig x = true
            · simp [-getElem?_pos, hx, h1, h1', hlx, hw, hfx]
              exact ⟨_, Wk.to (s' := ⟨[(3, .i .i64 ((i + 1 : Nat) : Int)), (0, .s s)], [], 0, 0⟩) rfl (by simp) (by simp) (by simp) (by simp), s.length - (i + 1), by omega, i + 1, by omega, by omega, done (.inr ⟨by omega, hfx⟩), rfl⟩
            · simp [-getElem?_pos, hx, h1, h1', hlx, hw, hfx]
              refine fin_val rfl ?_ (by simp)
              rw [nameOk_false fun h => ?_]
              · simp
              · have := h.1 i x hx
                simp [okAt, hlx, hfx] at this
        · have h2 : ¬ i < s.length := by omega
          have h2' : ¬ (i : Int) < s.length := by omega
          have hall : ∀ j d, s[j]? = some d → okAt j d := fun j d hd => hv j d (by have := (List.getElem?_eq_some_iff.1 hd).1; omega) hd
          simp [h2, h2']
          by_cases hk : s ∈ kept
          · have hf : nameOk s = false := nameOk_false fun h => h.2.2.2 hk
            rw [hf]
            clear hf hall hv
            simp only [kept, List.mem_cons, List.not_mem_nil, or_false] at hk
            repeat' rcases hk with hk | hk
            all_goals (simp; exact fin_val rfl (by simp) (by simp))
          · have hf : nameOk s = true := (nameOk_iff s).2 ⟨hall, by omega, by omega, hk⟩
            rw [hf]
            simp only [kept, List.mem_cons, List.not_mem_nil, or_false, not_or] at hk
            simp [hk]
            exact fin_val rfl (by simp) (by simp)
      · simp [-getElem?_pos, hne, h8, h8', hc0, hl]
        refine fin_val rfl ?_ (by simp)
        rw [nameOk_false fun h => ?_]
        · simp
        · have := h.1 0 c hc0
          simp [okAt, hl] at this
end Go.Proofs.Ytehdfbhfbidadaa.V
/- Values that are ok. -/
namespace Go.Proofs.Ytehdfbhfbidadaa.V
open Go
set_option linter.unusedVariables false
set_option linter.unusedSimpArgs false
set_option maxHeartbeats 8000000
def okB (c : UInt8) : Bool := !(decide ((c.toNat : Int) < 32) || decide (126 < (c.toNat : Int)) || decide ((c.toNat : Int) = 39))
def okT (s : Tx) : Bool := s.all okB && decide (s.length ≤ 16)
theorem okT_false {s : Tx} {i : Nat} {c : UInt8} (h : s[i]? = some c) (h1 : okB c = false) : okT s = false := by
  rw [Bool.eq_false_iff]
  intro h2
  simp only [okT, Bool.and_eq_true, List.all_eq_true] at h2
  exact absurd (h2.1 c (List.mem_of_getElem? h)) (by simp [h1])
theorem okT_of {s : Tx} (h : ∀ (j : Nat) (c : UInt8), s[j]? = some c → okB c = true) : okT s = decide (s.length ≤ 16) := by
  have : s.all okB = true := List.all_eq_true.2 fun c hc => by
    obtain ⟨j, hj⟩ := List.mem_iff_getElem?.1 hc
    exact h j c hj
  simp [okT, this]
theorem l1Text_c (s : Tx) (hs : ln s) : Rv Try.prog 148 [.s s] (.b (okT s)) := by
  refine via_spec_l1Text (by simp) ?_
  simp [pc_spec_l1Text]
  refine W_for (fun i => ⟨[(3, .i .i64 i), (0, .s s)], [], 0, 0⟩) s.length (fun i => ∀ j c, j < i → s[j]? = some c → okB c = true) (Wk.less rfl (by simp) (by simp) (by simp)) (by simp) ?_
  intro i hi hv
  rcases Nat.lt_or_ge i s.length with h1 | h1
  · obtain ⟨x, hx⟩ : ∃ x, s[i]? = some x := ⟨_, List.getElem?_eq_getElem h1⟩
    have hw : IntKind.i64.wrap ((i : Int) + 1) = (i : Int) + 1 := wrap1 (by omega)
    by_cases h3 : (x.toNat : Int) < 32
    · simp [-getElem?_pos, hx, h1, h3, hw]
      exact fin_val rfl (by simp [okT_false hx (by simp [okB]; omega)]) (by simp)
    · by_cases h4 : 126 < (x.toNat : Int)
      · simp [-getElem?_pos, hx, h1, h3, h4, hw]
        exact fin_val rfl (by simp [okT_false hx (by simp [okB]; omega)]) (by simp)
      · by_cases h5 : (x.toNat : Int) = 39
        · simp [-getElem?_pos, hx, h1, h3, h4, h5, hw]
          exact fin_val rfl (by simp [okT_false hx (by simp [okB]; omega)]) (by simp)
        · simp [-getElem?_pos, hx, h1, h3, h4, h5, hw]
          refine ⟨fun j c hj hc => ?_, Wk.to rfl (by simp) (by simp) (by simp) (by simp)⟩
          rcases Nat.lt_or_ge j i with h6 | h6
          · exact hv j c h6 hc
          · obtain rfl : j = i := by omega
            rw [hx] at hc; simp at hc; subst hc
            simp [okB]; omega
  · have h2 : ¬ i < s.length := by omega
    simp [h2]
    refine fin_val rfl ?_ (by simp)
    rw [okT_of fun j c hc => hv j c (by have := (List.getElem?_eq_some_iff.1 hc).1; omega) hc]
    simp
    omega
theorem textFits_c (s : Tx) (hs : ln s) : Rv Try.prog 128 [.s s] (.b (okT s)) := by
  refine via_impl_textFits (by simp) ?_
  by_cases h16 : 16 < s.length
  · have h16' : (16 : Int) < s.length := by omega
    simp [pc_impl_textFits, h16, h16']
    exact fin_val rfl (by simp [okT]; omega) (by simp)
  · have h16' : ¬ (16 : Int) < s.length := by omega
    simp [pc_impl_textFits, h16, h16']
    refine W_for (fun i => ⟨[(3, .i .i64 i), (0, .s s)], [], 0, 0⟩) s.length (fun i => ∀ j c, j < i → s[j]? = some c → okB c = true) (Wk.less rfl (by simp) (by simp) (by simp)) (by simp) ?_
    intro i hi hv
    rcases Nat.lt_or_ge i s.length with h1 | h1
    · obtain ⟨x, hx⟩ : ∃ x, s[i]? = some x := ⟨_, List.getElem?_eq_getElem h1⟩
      have hw : IntKind.i64.wrap ((i : Int) + 1) = (i : Int) + 1 := wrap1 (by omega)
      by_cases h3 : (x.toNat : Int) < 32
      · simp [-getElem?_pos, hx, h1, h3, hw]
        exact fin_val rfl (by simp [okT_false hx (by simp [okB]; omega)]) (by simp)
      · by_cases h4 : 126 < (x.toNat : Int)
        · simp [-getElem?_pos, hx, h1, h3, h4, hw]
          exact fin_val rfl (by simp [okT_false hx (by simp [okB]; omega)]) (by simp)
        · by_cases h5 : (x.toNat : Int) = 39
          · simp [-getElem?_pos, hx, h1, h3, h4, h5, hw]
            exact fin_val rfl (by simp [okT_false hx (by simp [okB]; omega)]) (by simp)
          · simp [-getElem?_pos, hx, h1, h3, h4, h5, hw]
            refine ⟨fun j c hj hc => ?_, Wk.to rfl (by simp) (by simp) (by simp) (by simp)⟩
            rcases Nat.lt_or_ge j i with h6 | h6
            · exact hv j c h6 hc
            · obtain rfl : j = i := by omega
              rw [hx] at hc; simp at hc; subst hc
              simp [okB]; omega
    · have h2 : ¬ i < s.length := by omega
      simp [h2]
      refine fin_val rfl ?_ (by simp)
      rw [okT_of fun j c hc => hv j c (by have := (List.getElem?_eq_some_iff.1 hc).1; omega) hc]
      simp
      omega
/-- A value that is ok, and at most so many within each other. -/
def okV : Nat → Vl → Bool
  | 0, _ => false
  | d + 1, .mk k n s l =>
    if k = 0 then decide (n = 0) && decide (s = []) && decide (l.length = 0)
    else if k = 1 then (decide (n = 0) || decide (n = 1)) && decide (s = []) && decide (l.length = 0)
    else if k = 2 then decide (-1000000000 ≤ n) && decide (n ≤ 1000000000) && decide (s = []) && decide (l.length = 0)
    else if k = 3 then decide (n = 0) && okT s && decide (l.length = 0)
    else if k = 5 ∨ k = 6 then decide (0 ≤ n) && decide (n ≤ 1000000000) && decide (s = []) && decide (l.length = 0)
    else if k = 4 then decide (n = 0) && decide (s = []) && decide (l.length ≤ 6) && l.all (okV d)
    else false
theorem valueFits_0 (v : Vl) : Rv Try.prog 65 [.agg (sV.I v), .i .i64 0] (.b false) := by
  refine via_impl_valueFits (by simp) ?_
  obtain ⟨k, n, s, l⟩ := v
  simp [pc_impl_valueFits]
  exact fin_val rfl (by simp) (by simp)
theorem valueFits_c (d : Nat) (hd : d ≤ 3) : ∀ v : Vl, v.fit → Rv Try.prog 65 [.agg (sV.I v), .i .i64 (d : Int)] (.b (okV d v)) := by
  induction d with
  | zero => exact fun v _ => valueFits_0 v
  | succ d ih =>
    intro v hf
    obtain ⟨k, n, s, l⟩ := v
    obtain ⟨_, _, hs, hl, hv⟩ := Vl.fit_mk.1 hf
    refine via_impl_valueFits (by simp) ?_
    have h1 : ¬ ((d + 1 : Nat) : Int) < 1 := by omega
    have h1' : ¬ (d : Int) + 1 < 1 := by omega
    have h1'' : ¬ (d : Int) < 0 := by omega
    by_cases k0 : k = 0
    · subst k0
      by_cases hn : n = 0
      · by_cases hs0 : s = []
        · simp [pc_impl_valueFits, h1, h1', hn, hs0]
          exact fin_val rfl (by simp [okV, hn, hs0]) (by simp)
        · simp [pc_impl_valueFits, h1, h1', hn, hs0]
          exact fin_val rfl (by simp [okV, hn, hs0]) (by simp)
      · simp [pc_impl_valueFits, h1, h1', hn]
        exact fin_val rfl (by simp [okV, hn]) (by simp)
    by_cases k1 : k = 1
    · subst k1
      by_cases hn : n = 0
      · by_cases hs0 : s = []
        · simp [pc_impl_valueFits, h1, h1', hn, hs0]
          exact fin_val rfl (by simp [okV, hn, hs0]) (by simp)
        · simp [pc_impl_valueFits, h1, h1', hn, hs0]
          exact fin_val rfl (by simp [okV, hn, hs0]) (by simp)
      · by_cases hn1 : n = 1
        · by_cases hs0 : s = []
          · simp [pc_impl_valueFits, h1, h1', hn, hn1, hs0]
            exact fin_val rfl (by simp [okV, hn, hn1, hs0]) (by simp)
          · simp [pc_impl_valueFits, h1, h1', hn, hn1, hs0]
            exact fin_val rfl (by simp [okV, hn, hn1, hs0]) (by simp)
        · simp [pc_impl_valueFits, h1, h1', hn, hn1]
          exact fin_val rfl (by simp [okV, hn, hn1]) (by simp)
    by_cases k2 : k = 2
    · subst k2
      by_cases hn : -1000000000 ≤ n
      · by_cases hn2 : n ≤ 1000000000
        · by_cases hs0 : s = []
          · simp [pc_impl_valueFits, h1, h1', hn, hn2, hs0]
            exact fin_val rfl (by simp [okV, hn, hn2, hs0]) (by simp)
          · simp [pc_impl_valueFits, h1, h1', hn, hn2, hs0]
            exact fin_val rfl (by simp [okV, hn, hn2, hs0]) (by simp)
        · simp [pc_impl_valueFits, h1, h1', hn, hn2]
          exact fin_val rfl (by simp [okV, hn, hn2]) (by simp)
      · simp [pc_impl_valueFits, h1, h1', hn]
        exact fin_val rfl (by simp [okV, hn]) (by simp)
    by_cases k3 : k = 3
    · subst k3
      by_cases hn : n = 0
      · simp [pc_impl_valueFits, h1, h1', hn]
        refine callK_val (by simp) (textFits_c s hs) rfl ?_
        by_cases ht : okT s = true
        · simp [ht]
          exact fin_val rfl (by simp [okV, ht]) (by simp)
        · simp [ht]
          exact fin_val rfl (by simp [okV, ht]) (by simp)
      · simp [pc_impl_valueFits, h1, h1', hn]
        exact fin_val rfl (by simp [okV, hn]) (by simp)
    by_cases k5 : k = 5
    · subst k5
      by_cases hn : 0 ≤ n
      · by_cases hn2 : n ≤ 1000000000
        · by_cases hs0 : s = []
          · simp [pc_impl_valueFits, h1, h1', hn, hn2, hs0]
            exact fin_val rfl (by simp [okV, hn, hn2, hs0]) (by simp)
          · simp [pc_impl_valueFits, h1, h1', hn, hn2, hs0]
            exact fin_val rfl (by simp [okV, hn, hn2, hs0]) (by simp)
        · simp [pc_impl_valueFits, h1, h1', hn, hn2]
          exact fin_val rfl (by simp [okV, hn, hn2]) (by simp)
      · simp [pc_impl_valueFits, h1, h1', hn]
        exact fin_val rfl (by simp [okV, hn]) (by simp)
    by_cases k6 : k = 6
    · subst k6
      by_cases hn : 0 ≤ n
      · by_cases hn2 : n ≤ 1000000000
        · by_cases hs0 : s = []
          · simp [pc_impl_valueFits, h1, h1', hn, hn2, hs0]
            exact fin_val rfl (by simp [okV, hn, hn2, hs0]) (by simp)
          · simp [pc_impl_valueFits, h1, h1', hn, hn2, hs0]
            exact fin_val rfl (by simp [okV, hn, hn2, hs0]) (by simp)
        · simp [pc_impl_valueFits, h1, h1', hn, hn2]
          exact fin_val rfl (by simp [okV, hn, hn2]) (by simp)
      · simp [pc_impl_valueFits, h1, h1', hn]
        exact fin_val rfl (by simp [okV, hn]) (by simp)
    by_cases k4 : k = 4
    · subst k4
      by_cases hn : n = 0
      · by_cases hs0 : s = []
        · by_cases hl6 : 6 < l.length
          · have hl6' : (6 : Int) < l.length := by omega
            simp [pc_impl_valueFits, h1, h1', hn, hs0, hl6']
            have hl7 : ¬ l.length ≤ 6 := by omega
            exact fin_val rfl (by simp [okV, hl7]) (by simp)
          · have hl6' : ¬ (6 : Int) < l.length := by omega
            simp [pc_impl_valueFits, h1, h1', hn, hs0, hl6']
            have hwd : IntKind.i64.wrap (d : Int) = d := wrap64 (by omega) (by omega)
            refine W_for (fun i => ⟨[(126, .i .i64 i), (125, .i .i64 l.length), (124, .imm (l.map sV.I)), (1, .i .i64 ((d : Int) + 1))], [], 1, 0⟩) l.length (fun i => ∀ j v, j < i → l[j]? = some v → okV d v = true) (Wk.less rfl (by simp) (by simp) (by simp)) (by simp) ?_
            intro i hi hv2
            rcases Nat.lt_or_ge i l.length with h2 | h2
            · obtain ⟨x, hx⟩ : ∃ x, l[i]? = some x := ⟨_, List.getElem?_eq_getElem h2⟩
              have hw : IntKind.i64.wrap ((i : Int) + 1) = (i : Int) + 1 := wrap1 (by omega)
              simp [-getElem?_pos, hx, hw, h2, hwd]
              refine callK_val (by simp) (ih (by omega) x (hv x (List.mem_of_getElem? hx))) rfl ?_
              by_cases ho : okV d x = true
              · simp [-getElem?_pos, hx, hw, h2, hwd, ho]
                refine ⟨fun j v hj hc => ?_, Wk.to rfl (by simp) (by simp) (by simp) (by simp)⟩
                rcases Nat.lt_or_ge j i with h6 | h6
                · exact hv2 j v h6 hc
                · obtain rfl : j = i := by omega
                  rw [hx] at hc; simp at hc; subst hc; exact ho
              · simp [-getElem?_pos, hx, hw, h2, hwd, ho]
                refine fin_val rfl ?_ (by simp)
                have : l.all (okV d) = false := by
                  rw [Bool.eq_false_iff]; intro h
                  exact ho (List.all_eq_true.1 h x (List.mem_of_getElem? hx))
                simp [okV, this]
            · have h3 : ¬ i < l.length := by omega
              simp [h3]
              have : l.all (okV d) = true := List.all_eq_true.2 fun v hm => by
                obtain ⟨j, hj⟩ := List.mem_iff_getElem?.1 hm
                exact hv2 j v (by have := (List.getElem?_eq_some_iff.1 hj).1; omega) hj
              have hl7 : l.length ≤ 6 := by omega
              exact fin_val rfl (by simp [okV, hn, hs0, this, hl7]) (by simp)
        · simp [pc_impl_valueFits, h1, h1', hn, hs0]
          exact fin_val rfl (by simp [okV, hn, hs0]) (by simp)
      · simp [pc_impl_valueFits, h1, h1', hn]
        exact fin_val rfl (by simp [okV, hn]) (by simp)
    simp [pc_impl_valueFits, h1, h1', k0, k1, k2, k3, k4, k5, k6]
    exact fin_val rfl (by simp [okV, k0, k1, k2, k3, k4, k5, k6]) (by simp)
/-- The lists' case apart. -/
theorem l1Ok_of (d : Nat) (hd : d ≤ 2) (k n : Int) (s : Tx) (l : List Vl) (hs : ln s) (hl : ln l) (h4' : k = 4 → Rv Try.prog 87 [.agg (sV.I (.mk 4 n s l)), .i .i64 ((d : Int) + 1)] (.b (okV (d + 1) (.mk 4 n s l)))) :
    Rv Try.prog 87 [.agg (sV.I (.mk k n s l)), .i .i64 ((d : Int) + 1)] (.b (okV (d + 1) (.mk k n s l))) := by
  by_cases k4 : k = 4
  · subst k4; exact h4' rfl
  refine via_spec_l1Ok (by simp) ?_
  by_cases k0 : k = 0
  · subst k0
    by_cases hs0 : s = []
    · by_cases hl0 : l = []
      · by_cases hn : n = 0
        · simp [pc_spec_l1Ok, hs0, hl0, hn]
          exact fin_val rfl (by simp [okV, hs0, hl0, hn]) (by simp)
        · simp [pc_spec_l1Ok, hs0, hl0, hn]
          exact fin_val rfl (by simp [okV, hs0, hl0, hn]) (by simp)
      · simp [pc_spec_l1Ok, hs0, hl0]
        exact fin_val rfl (by simp [okV, hs0, hl0]) (by simp)
    · simp [pc_spec_l1Ok, hs0]
      exact fin_val rfl (by simp [okV, hs0]) (by simp)
  by_cases k1 : k = 1
  · subst k1
    by_cases hs0 : s = []
    · by_cases hl0 : l = []
      · simp [pc_spec_l1Ok, hs0, hl0]
        refine callK_val (by simp) (l1In_c n 0 1) rfl ?_
        by_cases a : 0 ≤ n
        · by_cases b : n ≤ 1
          · simp [a, b]
            exact fin_val rfl (by simp [okV, a, b, hs0, hl0]; omega) (by simp)
          · simp [a, b]
            exact fin_val rfl (by simp [okV, a, b, hs0, hl0]; omega) (by simp)
        · simp [a]
          exact fin_val rfl (by simp [okV, a, hs0, hl0]; omega) (by simp)
      · simp [pc_spec_l1Ok, hs0, hl0]
        exact fin_val rfl (by simp [okV, hs0, hl0]) (by simp)
    · simp [pc_spec_l1Ok, hs0]
      exact fin_val rfl (by simp [okV, hs0]) (by simp)
  by_cases k2 : k = 2
  · subst k2
    by_cases hs0 : s = []
    · by_cases hl0 : l = []
      · simp [pc_spec_l1Ok, hs0, hl0]
        refine callK_val (by simp) (l1In_c n (-1000000000) 1000000000) rfl ?_
        by_cases a : -1000000000 ≤ n
        · by_cases b : n ≤ 1000000000
          · simp [a, b]
            exact fin_val rfl (by simp [okV, a, b, hs0, hl0]) (by simp)
          · simp [a, b]
            exact fin_val rfl (by simp [okV, a, b, hs0, hl0]) (by simp)
        · simp [a]
          exact fin_val rfl (by simp [okV, a, hs0, hl0]) (by simp)
      · simp [pc_spec_l1Ok, hs0, hl0]
        exact fin_val rfl (by simp [okV, hs0, hl0]) (by simp)
    · simp [pc_spec_l1Ok, hs0]
      exact fin_val rfl (by simp [okV, hs0]) (by simp)
  by_cases k3 : k = 3
  · subst k3
    by_cases hn : n = 0
    · by_cases hl0 : l = []
      · by_cases hs0 : s = []
        · subst hs0
          simp [pc_spec_l1Ok, hn, hl0]
          refine callK_val (by simp) (l1Text_c [] (by simp [ln])) rfl ?_
          simp [okT]
          exact fin_val rfl (by simp [okV, okT]) (by simp)
        · simp [pc_spec_l1Ok, hn, hl0, hs0]
          refine callK_val (by simp) (l1Text_c s hs) rfl ?_
          by_cases ht : okT s = true
          · simp [ht]
            exact fin_val rfl (by simp [okV, ht]) (by simp)
          · simp [ht]
            exact fin_val rfl (by simp [okV, ht]) (by simp)
      · by_cases hs0 : s = []
        all_goals
          simp [pc_spec_l1Ok, hn, hl0, hs0]
          exact fin_val rfl (by simp [okV, hn, hl0]) (by simp)
    · by_cases hs0 : s = []
      all_goals
        by_cases hl0 : l = []
        all_goals
          simp [pc_spec_l1Ok, hn, hs0, hl0]
          exact fin_val rfl (by simp [okV, hn]) (by simp)
  by_cases k5 : k = 5
  · subst k5
    by_cases hs0 : s = []
    · by_cases hl0 : l = []
      · simp [pc_spec_l1Ok, hs0, hl0]
        refine callK_val (by simp) (l1In_c n 0 1000000000) rfl ?_
        by_cases a : 0 ≤ n
        · by_cases b : n ≤ 1000000000
          · simp [a, b]
            exact fin_val rfl (by simp [okV, a, b, hs0, hl0]) (by simp)
          · simp [a, b]
            exact fin_val rfl (by simp [okV, a, b, hs0, hl0]) (by simp)
        · simp [a]
          exact fin_val rfl (by simp [okV, a, hs0, hl0]) (by simp)
      · simp [pc_spec_l1Ok, hs0, hl0]
        exact fin_val rfl (by simp [okV, hs0, hl0]) (by simp)
    · simp [pc_spec_l1Ok, hs0]
      exact fin_val rfl (by simp [okV, hs0]) (by simp)
  by_cases k6 : k = 6
  · subst k6
    by_cases hs0 : s = []
    · by_cases hl0 : l = []
      · simp [pc_spec_l1Ok, hs0, hl0]
        refine callK_val (by simp) (l1In_c n 0 1000000000) rfl ?_
        by_cases a : 0 ≤ n
        · by_cases b : n ≤ 1000000000
          · simp [a, b]
            exact fin_val rfl (by simp [okV, a, b, hs0, hl0]) (by simp)
          · simp [a, b]
            exact fin_val rfl (by simp [okV, a, b, hs0, hl0]) (by simp)
        · simp [a]
          exact fin_val rfl (by simp [okV, a, hs0, hl0]) (by simp)
      · simp [pc_spec_l1Ok, hs0, hl0]
        exact fin_val rfl (by simp [okV, hs0, hl0]) (by simp)
    · simp [pc_spec_l1Ok, hs0]
      exact fin_val rfl (by simp [okV, hs0]) (by simp)
  by_cases hs0 : s = []
  all_goals
    by_cases hl0 : l = []
    all_goals
      simp [pc_spec_l1Ok, hs0, hl0, k0, k1, k2, k3, k4, k5, k6]
      exact fin_val rfl (by simp [okV, k0, k1, k2, k3, k4, k5, k6]) (by simp)
/-- Lists. -/
theorem l1Ok_list (d : Nat) (hd : d ≤ 2) (n : Int) (s : Tx) (l : List Vl) (hl : ln l) (h : ∀ v ∈ l, 1 ≤ d → Rv Try.prog 87 [.agg (sV.I v), .i .i64 (d : Int)] (.b (okV d v))) : Rv Try.prog 87 [.agg (sV.I (.mk 4 n s l)), .i .i64 ((d : Int) + 1)] (.b (okV (d + 1) (.mk 4 n s l))) := by
  refine via_spec_l1Ok (by simp) ?_
  have hwd : IntKind.i64.wrap (d : Int) = d := wrap64 (by omega) (by omega)
  rcases Classical.em (s = []) with hs0 | hs0
  all_goals
    rcases Classical.em (l = []) with hl0 | hl0
    all_goals
      first | have e1 := eq_false hs0 | have e1 := eq_true hs0
      first | have e2 := eq_false hl0 | have e2 := eq_true hl0
      simp [pc_spec_l1Ok, e1, e2]
      refine W_for (fun i => ⟨[(6, .i .i64 i), (2, .ptr 0 0 0), (1, .i .i64 ((d : Int) + 1))], [(0, .arr 4 [sV.I (.mk 4 n s l)])], 1, 0⟩) l.length (fun i => ∀ j v, j < i → l[j]? = some v → okV d v = true) (Wk.less rfl (by simp) (by simp) (by simp)) (by simp) ?_
      intro i hi hv2
      clear e1 e2
      rcases Nat.lt_or_ge i l.length with h2 | h2
      · obtain ⟨x, hx⟩ : ∃ x, l[i]? = some x := ⟨_, List.getElem?_eq_getElem h2⟩
        have hw : IntKind.i64.wrap ((i : Int) + 1) = (i : Int) + 1 := wrap1 (by omega)
        by_cases hd0 : d = 0
        · have hd2 : (d : Int) + 1 < 2 := by omega
          simp [-getElem?_pos, hx, hw, h2, hwd, hd2]
          refine fin_val rfl ?_ (by simp)
          have : l.all (okV d) = false := by
            rw [Bool.eq_false_iff]; intro h
            have := List.all_eq_true.1 h x (List.mem_of_getElem? hx)
            simp [hd0, okV] at this
          simp [okV, this]
        · have hd2 : ¬ (d : Int) + 1 < 2 := by omega
          simp [-getElem?_pos, hx, hw, h2, hwd, hd2]
          refine callK_val (by simp) (h x (List.mem_of_getElem? hx) (by omega)) rfl ?_
          by_cases ho : okV d x = true
          · simp [-getElem?_pos, hx, hw, h2, hwd, ho, hd2]
            refine ⟨fun j v hj hc => ?_, Wk.to1 rfl (by simp) (by simp) (by simp) (by simp) (by omega)⟩
            rcases Nat.lt_or_ge j i with h6 | h6
            · exact hv2 j v h6 hc
            · obtain rfl : j = i := by omega
              rw [hx] at hc; simp at hc; subst hc; exact ho
          · simp [-getElem?_pos, hx, hw, h2, hwd, ho, hd2]
            refine fin_val rfl ?_ (by simp)
            have : l.all (okV d) = false := by
              rw [Bool.eq_false_iff]; intro h
              exact ho (List.all_eq_true.1 h x (List.mem_of_getElem? hx))
            simp [okV, this]
      · have h3 : ¬ i < l.length := by omega
        have hal : l.all (okV d) = true := List.all_eq_true.2 fun v hm => by
          obtain ⟨j, hj⟩ := List.mem_iff_getElem?.1 hm
          exact hv2 j v (by have := (List.getElem?_eq_some_iff.1 hj).1; omega) hj
        by_cases hn : n = 0
        · by_cases hs1 : s = []
          · simp [h3, hn, hs1]
            exact fin_val rfl (by simp [okV, hal]; omega) (by simp)
          · simp [h3, hn, hs1]
            exact fin_val rfl (by simp [okV, hs1]) (by simp)
        · simp [h3, hn]
          exact fin_val rfl (by simp [okV, hn]) (by simp)
theorem l1Ok_c (d : Nat) (hd : d ≤ 2) : ∀ v : Vl, v.fit → Rv Try.prog 87 [.agg (sV.I v), .i .i64 ((d : Int) + 1)] (.b (okV (d + 1) v)) := by
  induction d with
  | zero =>
    intro v hf
    obtain ⟨k, n, s, l⟩ := v
    obtain ⟨_, _, hs, hl, hv⟩ := Vl.fit_mk.1 hf
    exact l1Ok_of 0 (by omega) k n s l hs hl fun _ => l1Ok_list 0 (by omega) n s l hl fun v hm h => by omega
  | succ d ih =>
    intro v hf
    obtain ⟨k, n, s, l⟩ := v
    obtain ⟨_, _, hs, hl, hv⟩ := Vl.fit_mk.1 hf
    exact l1Ok_of (d + 1) hd k n s l hs hl fun _ => l1Ok_list (d + 1) hd n s l hl fun v hm h => ih (by omega) v (hv v hm)
end Go.Proofs.Ytehdfbhfbidadaa.V
/- Props and labels that are ok. -/
namespace Go.Proofs.Ytehdfbhfbidadaa.V
open Go
set_option linter.unusedVariables false
set_option linter.unusedSimpArgs false
set_option maxHeartbeats 8000000
def vOk (v : Vl) : Bool := okV 3 v
theorem specValueOk_c (v : Vl) (hf : v.fit) : Rv Try.prog 35 [.agg (sV.I v)] (.b (vOk v)) := by
  obtain ⟨k, n, s, l⟩ := v
  refine via_spec_ValueOk (by simp) ?_
  simp [pc_spec_ValueOk]
  refine callK_val (by simp) (l1Ok_c 2 (by omega) (.mk k n s l) hf) rfl ?_
  simp
  exact fin_val rfl (by simp [vOk]) (by simp)
theorem ValueOk_c (v : Vl) (hf : v.fit) : Rv Try.prog 24 [.agg (sV.I v)] (.b (vOk v)) := by
  obtain ⟨k, n, s, l⟩ := v
  refine via_impl_ValueOk (by simp) ?_
  simp [pc_impl_ValueOk]
  refine callK_val (by simp) (valueFits_c 3 (by omega) (.mk k n s l) hf) rfl ?_
  simp
  exact fin_val rfl (by simp [vOk]) (by simp)
/-! ### kinds within a value -/
mutual
def Vl.has (q : Int) : Vl → Bool
  | .mk k _ _ l => decide (k = q) || Vl.hass q l
def Vl.hass (q : Int) : List Vl → Bool
  | [] => false
  | v :: l => v.has q || Vl.hass q l
end
theorem Vl.hass_eq (q : Int) : ∀ l, Vl.hass q l = l.any (Vl.has q)
  | [] => rfl
  | v :: l => by simp [Vl.hass, Vl.hass_eq q l]
theorem Vl.has_mk (q k n : Int) (s : Tx) (l : List Vl) : (Vl.mk k n s l).has q = (decide (k = q) || l.any (Vl.has q)) := by rw [Vl.has, Vl.hass_eq]
mutual
def Vl.plain : Vl → Bool
  | .mk k _ _ l => Vl.plains l && decide (1 ≤ k) && decide (k ≤ 4)
def Vl.plains : List Vl → Bool
  | [] => true
  | v :: l => v.plain && Vl.plains l
end
theorem Vl.plains_eq : ∀ l, Vl.plains l = l.all Vl.plain
  | [] => rfl
  | v :: l => by simp [Vl.plains, Vl.plains_eq l]
theorem Vl.plain_mk (k n : Int) (s : Tx) (l : List Vl) : (Vl.mk k n s l).plain = (l.all Vl.plain && decide (1 ≤ k) && decide (k ≤ 4)) := by rw [Vl.plain, Vl.plains_eq]
/-- Of an ok value: plain just if nothing, no node and no edge is within it. -/
theorem plain_has : ∀ (d : Nat) (v : Vl), okV d v = true → v.plain = (!v.has 0 && !v.has 5 && !v.has 6) := by
  intro d
  induction d with
  | zero => intro v h; simp [okV] at h
  | succ d ih =>
    rintro ⟨k, n, s, l⟩ h
    have hall : ∀ v ∈ l, okV d v = true := by
      by_cases k4 : k = 4
      · subst k4
        simp [okV] at h
        exact h.2
      · have : l = [] := by
          unfold okV at h
          split at h
          · simp at h; exact h.2
          · split at h
            · simp at h; exact h.2
            · split at h
              · simp at h; exact h.2
              · split at h
                · simp at h; exact h.2
                · split at h
                  · simp at h; exact h.2
                  · simp [k4] at h
        simp [this]
    have hk : 0 ≤ k ∧ k ≤ 6 := by
      unfold okV at h
      split at h
      · omega
      · split at h
        · omega
        · split at h
          · omega
          · split at h
            · omega
            · split at h
              · omega
              · split at h
                · omega
                · simp at h
    have hl : l.all Vl.plain = (!l.any (Vl.has 0) && !l.any (Vl.has 5) && !l.any (Vl.has 6)) := by
      clear h
      induction l with
      | nil => rfl
      | cons v l ihl =>
        simp only [List.all_cons, List.any_cons, ih v (hall v (by simp)), ihl (fun w hw => hall w (by simp [hw]))]
        cases v.has 0 <;> cases v.has 5 <;> cases v.has 6 <;> simp
    rw [Vl.plain_mk, Vl.has_mk, Vl.has_mk, Vl.has_mk, hl]
    by_cases k0 : k = 0
    · simp [k0]
    by_cases k5 : k = 5
    · simp [k5]
    by_cases k6 : k = 6
    · simp [k6]
    · have h1 : 1 ≤ k := by omega
      have h2 : k ≤ 4 := by omega
      simp [k0, k5, k6, h1, h2]
theorem l2Plain_c (v : Vl) : v.fit → Rv Try.prog 147 [.agg (sV.I v)] (.b v.plain) := by
  refine Vl.ind (p := fun v => v.fit → Rv Try.prog 147 [.agg (sV.I v)] (.b v.plain)) ?_ v
  intro k n s l ih hf
  obtain ⟨_, _, hs, hl, hv⟩ := Vl.fit_mk.1 hf
  refine via_spec_l2Plain (by simp) ?_
  simp [pc_spec_l2Plain]
  refine W_for (fun i => ⟨[(3, .i .i64 i), (1, .ptr 0 0 0)], [(0, .arr 4 [sV.I (.mk k n s l)])], 1, 0⟩) l.length (fun i => ∀ j v, j < i → l[j]? = some v → v.plain = true) (Wk.less rfl (by simp) (by simp) (by simp)) (by simp) ?_
  intro i hi hv2
  rcases Nat.lt_or_ge i l.length with h2 | h2
  · obtain ⟨x, hx⟩ : ∃ x, l[i]? = some x := ⟨_, List.getElem?_eq_getElem h2⟩
    have hw : IntKind.i64.wrap ((i : Int) + 1) = (i : Int) + 1 := wrap1 (by omega)
    simp [-getElem?_pos, hx, hw, h2]
    refine callK_val (by simp) (ih x (List.mem_of_getElem? hx) (hv x (List.mem_of_getElem? hx))) rfl ?_
    by_cases ho : x.plain = true
    · simp [-getElem?_pos, hx, hw, h2, ho]
      refine ⟨fun j v hj hc => ?_, Wk.to1 rfl (by simp) (by simp) (by simp) (by simp) (by omega)⟩
      rcases Nat.lt_or_ge j i with h6 | h6
      · exact hv2 j v h6 hc
      · obtain rfl : j = i := by omega
        rw [hx] at hc; simp at hc; subst hc; exact ho
    · simp [-getElem?_pos, hx, hw, h2, ho]
      refine fin_val rfl ?_ (by simp)
      have : l.all Vl.plain = false := by
        rw [Bool.eq_false_iff]; intro h
        exact ho (List.all_eq_true.1 h x (List.mem_of_getElem? hx))
      simp [Vl.plain_mk, this]
  · have h3 : ¬ i < l.length := by omega
    simp [h3]
    refine callK_val (by simp) (l1In_c k 1 4) rfl ?_
    simp
    have : l.all Vl.plain = true := List.all_eq_true.2 fun v hm => by
      obtain ⟨j, hj⟩ := List.mem_iff_getElem?.1 hm
      exact hv2 j v (by have := (List.getElem?_eq_some_iff.1 hj).1; omega) hj
    exact fin_val rfl (by simp [Vl.plain_mk, this]) (by simp)
theorem valueHas_c (q : Int) (v : Vl) : v.fit → Rv Try.prog 169 [.agg (sV.I v), .i .i64 q] (.b (v.has q)) := by
  refine Vl.ind (p := fun v => v.fit → Rv Try.prog 169 [.agg (sV.I v), .i .i64 q] (.b (v.has q))) ?_ v
  intro k n s l ih hf
  obtain ⟨_, _, hs, hl, hv⟩ := Vl.fit_mk.1 hf
  refine via_impl_valueHas (by simp) ?_
  by_cases hk : k = q
  · simp [pc_impl_valueHas, hk]
    exact fin_val rfl (by simp [Vl.has_mk]) (by simp)
  · simp [pc_impl_valueHas, hk]
    refine W_for (fun i => ⟨[(14, .i .i64 i), (13, .i .i64 l.length), (12, .imm (l.map sV.I)), (1, .i .i64 q)], [], 1, 0⟩) l.length (fun i => ∀ j v, j < i → l[j]? = some v → v.has q = false) (Wk.less rfl (by simp) (by simp) (by simp)) (by simp) ?_
    intro i hi hv2
    rcases Nat.lt_or_ge i l.length with h2 | h2
    · obtain ⟨x, hx⟩ : ∃ x, l[i]? = some x := ⟨_, List.getElem?_eq_getElem h2⟩
      have hw : IntKind.i64.wrap ((i : Int) + 1) = (i : Int) + 1 := wrap1 (by omega)
      simp [-getElem?_pos, hx, hw, h2]
      refine callK_val (by simp) (ih x (List.mem_of_getElem? hx) (hv x (List.mem_of_getElem? hx))) rfl ?_
      by_cases ho : x.has q = true
      · simp [-getElem?_pos, hx, hw, h2, ho]
        refine fin_val rfl ?_ (by simp)
        have : l.any (Vl.has q) = true := List.any_eq_true.2 ⟨x, List.mem_of_getElem? hx, ho⟩
        simp [Vl.has_mk, this]
      · simp [-getElem?_pos, hx, hw, h2, ho]
        refine ⟨fun j v hj hc => ?_, Wk.to rfl (by simp) (by simp) (by simp) (by simp)⟩
        rcases Nat.lt_or_ge j i with h6 | h6
        · exact hv2 j v h6 hc
        · obtain rfl : j = i := by omega
          rw [hx] at hc; simp at hc; subst hc; simpa using ho
    · have h3 : ¬ i < l.length := by omega
      simp [h3]
      refine fin_val rfl ?_ (by simp)
      have : l.any (Vl.has q) = false := by
        rw [List.any_eq_false]
        intro v hm
        obtain ⟨j, hj⟩ := List.mem_iff_getElem?.1 hm
        simpa using hv2 j v (by have := (List.getElem?_eq_some_iff.1 hj).1; omega) hj
      simp [Vl.has_mk, this, hk]
/-- What may be stored. -/
def sto (v : Vl) : Bool := vOk v && v.plain
theorem storable_c (v : Vl) (hf : v.fit) : Rv Try.prog 108 [.agg (sV.I v)] (.b (sto v)) := by
  refine via_impl_storable (by simp) ?_
  have hp := plain_has 3 v
  obtain ⟨k, n, s, l⟩ := v
  simp [pc_impl_storable]
  refine callK_val (by simp) (ValueOk_c _ hf) rfl ?_
  by_cases h1 : vOk (.mk k n s l) = true
  · have hp := hp h1
    simp [h1]
    refine callK_val (by simp) (valueHas_c 0 _ hf) rfl ?_
    by_cases h2 : (Vl.mk k n s l).has 0 = true
    · simp [h1, h2]
      exact fin_val rfl (by simp [sto, h1, hp, h2]) (by simp)
    · simp [h1, h2]
      refine callK_val (by simp) (valueHas_c 5 _ hf) rfl ?_
      by_cases h3 : (Vl.mk k n s l).has 5 = true
      · simp [h1, h2, h3]
        exact fin_val rfl (by simp [sto, h1, hp, h2, h3]) (by simp)
      · simp [h1, h2, h3]
        refine callK_val (by simp) (valueHas_c 6 _ hf) rfl ?_
        simp [h1, h2, h3]
        exact fin_val rfl (by simp [sto, h1, hp, h2, h3]) (by simp)
  · simp [h1]
    exact fin_val rfl (by simp [sto, h1]) (by simp)
end Go.Proofs.Ytehdfbhfbidadaa.V
/- Labels and lists of props that are ok. -/
namespace Go.Proofs.Ytehdfbhfbidadaa.V
open Go
set_option linter.unusedVariables false
set_option linter.unusedSimpArgs false
set_option maxHeartbeats 8000000
/-- Whether each of a list fits its place, and it comes behind the one ahead of it. -/
def Each {α : Type} (ok : α → Bool) (nm : α → Tx) (l : List α) : Prop :=
  ∀ (i : Nat) (x : α), l[i]? = some x → ok x = true ∧ ∀ y, 0 < i → l[i - 1]? = some y → Op.bytesLess (nm y) (nm x) = true
theorem Each.nil {α : Type} {ok : α → Bool} {nm : α → Tx} : Each ok nm ([] : List α) := by intro i x h; simp at h
def EachTo {α : Type} (ok : α → Bool) (nm : α → Tx) (l : List α) (n : Nat) : Prop :=
  ∀ (i : Nat) (x : α), i < n → l[i]? = some x → ok x = true ∧ ∀ y, 0 < i → l[i - 1]? = some y → Op.bytesLess (nm y) (nm x) = true
theorem EachTo.zero {α : Type} {ok : α → Bool} {nm : α → Tx} {l : List α} : EachTo ok nm l 0 := by intro i x h; omega
theorem EachTo.all {α : Type} {ok : α → Bool} {nm : α → Tx} {l : List α} {n : Nat} (h : EachTo ok nm l n) (hn : l.length ≤ n) : Each ok nm l :=
  fun i x hx => h i x (by have := (List.getElem?_eq_some_iff.1 hx).1; omega) hx
theorem EachTo.succ {α : Type} {ok : α → Bool} {nm : α → Tx} {l : List α} {n : Nat} {x : α} (h : EachTo ok nm l n) (hx : l[n]? = some x) (h1 : ok x = true) (h2 : ∀ y, 0 < n → l[n - 1]? = some y → Op.bytesLess (nm y) (nm x) = true) : EachTo ok nm l (n + 1) := by
  intro i z hi hz
  rcases Nat.lt_or_ge i n with h3 | h3
  · exact h i z h3 hz
  · obtain rfl : i = n := by omega
    rw [hx] at hz; simp at hz; subst hz
    exact ⟨h1, h2⟩
def LabelsOk (l : List Tx) : Prop := Each nameOk id l ∧ l.length ≤ 3
def prOk (p : Pr) : Bool := nameOk p.name && sto p.val
def PropsOk (l : List Pr) : Prop := Each prOk Pr.name l ∧ l.length ≤ 4
theorem wback {i : Nat} (h : 0 < i) (h2 : (i : Int) < 9223372036854775808) : IntKind.i64.wrap ((i : Int) - 1) = ((i - 1 : Nat) : Int) := by
  rw [wrap64 (by omega) (by omega)]; omega
open Classical in
theorem l2Labels_c (l : List Tx) (hl : ln l) (hf : ∀ x ∈ l, ln x) : Rv Try.prog 84 [.imm (l.map sS.I)] (.b (decide (LabelsOk l))) := by
  refine via_spec_l2Labels (by simp) ?_
  simp [pc_spec_l2Labels]
  refine W_for (fun i => ⟨[(3, .i .i64 i), (0, .imm (l.map sS.I))], [], 0, 0⟩) l.length (EachTo nameOk id l) (Wk.less rfl (by simp) (by simp) (by simp)) .zero ?_
  intro i hi hv
  rcases Nat.lt_or_ge i l.length with h1 | h1
  · obtain ⟨x, hx⟩ : ∃ x, l[i]? = some x := ⟨_, List.getElem?_eq_getElem h1⟩
    have hw : IntKind.i64.wrap ((i : Int) + 1) = (i : Int) + 1 := wrap1 (by omega)
    simp [-getElem?_pos, hx, hw, h1]
    refine callK_val (by simp) (l2Name_c x (hf x (List.mem_of_getElem? hx))) rfl ?_
    by_cases ho : nameOk x = true
    · by_cases h0 : 0 < i
      · obtain ⟨y, hy⟩ : ∃ y, l[i - 1]? = some y := ⟨_, List.getElem?_eq_getElem (by omega)⟩
        have hb := wback h0 (by omega)
        by_cases hlt : Op.bytesLess y x = true
        · simp [-getElem?_pos, hx, hw, h1, ho, h0, hb, hy, hlt]
          refine ⟨hv.succ hx ho fun z _ hz => ?_, Wk.to rfl (by simp) (by simp) (by simp) (by simp)⟩
          rw [hy] at hz; simp at hz; subst hz; exact hlt
        · simp [-getElem?_pos, hx, hw, h1, ho, h0, hb, hy, hlt]
          have : ¬ LabelsOk l := fun h => hlt ((h.1 i x hx).2 y h0 hy)
          exact fin_val rfl (by simp [this]) (by simp)
      · obtain rfl : i = 0 := by omega
        simp [-getElem?_pos, hx, hw, h1, ho]
        exact ⟨hv.succ hx ho fun z h _ => by omega, Wk.to rfl (by simp) (by simp) (by simp) (by simp)⟩
    · simp [-getElem?_pos, hx, hw, h1, ho]
      have : ¬ LabelsOk l := fun h => ho (h.1 i x hx).1
      exact fin_val rfl (by simp [this]) (by simp)
  · have h2 : ¬ i < l.length := by omega
    have := hv.all h1
    by_cases h3 : l.length ≤ 3
    · have h3' : (l.length : Int) ≤ 3 := by omega
      simp [h2, h3']
      exact fin_val rfl (by simp [LabelsOk, this, h3]) (by simp)
    · have h3' : ¬ (l.length : Int) ≤ 3 := by omega
      simp [h2, h3']
      exact fin_val rfl (by simp [LabelsOk, this, h3]) (by simp)
open Classical in
theorem labelsOk_c (l : List Tx) (hl : ln l) (hf : ∀ x ∈ l, ln x) : Rv Try.prog 100 [.imm (l.map sS.I)] (.b (decide (LabelsOk l))) := by
  refine via_impl_labelsOk (by simp) ?_
  by_cases h3 : 3 < l.length
  · have h3' : (3 : Int) < l.length := by omega
    simp [pc_impl_labelsOk, h3']
    have : ¬ LabelsOk l := fun h => by have := h.2; omega
    exact fin_val rfl (by simp [this]) (by simp)
  · have h3' : ¬ (3 : Int) < l.length := by omega
    simp [pc_impl_labelsOk, h3']
    refine W_for (fun i => ⟨[(10, .i .i64 i), (9, .i .i64 l.length), (8, .imm (l.map sS.I)), (0, .imm (l.map sS.I))], [], 0, 0⟩) l.length (EachTo nameOk id l) (Wk.less rfl (by simp) (by simp) (by simp)) .zero ?_
    intro i hi hv
    rcases Nat.lt_or_ge i l.length with h1 | h1
    · obtain ⟨x, hx⟩ : ∃ x, l[i]? = some x := ⟨_, List.getElem?_eq_getElem h1⟩
      have hw : IntKind.i64.wrap ((i : Int) + 1) = (i : Int) + 1 := wrap1 (by omega)
      simp [-getElem?_pos, hx, hw, h1]
      refine callK_val (by simp) (NameOk_c x (hf x (List.mem_of_getElem? hx))) rfl ?_
      by_cases ho : nameOk x = true
      · by_cases h0 : 0 < i
        · obtain ⟨y, hy⟩ : ∃ y, l[i - 1]? = some y := ⟨_, List.getElem?_eq_getElem (by omega)⟩
          have hb := wback h0 (by omega)
          by_cases hlt : Op.bytesLess y x = true
          · simp [-getElem?_pos, hx, hw, h1, ho, h0, hb, hy, hlt]
            refine ⟨hv.succ hx ho fun z _ hz => ?_, Wk.to rfl (by simp) (by simp) (by simp) (by simp)⟩
            rw [hy] at hz; simp at hz; subst hz; exact hlt
          · simp [-getElem?_pos, hx, hw, h1, ho, h0, hb, hy, hlt]
            have : ¬ LabelsOk l := fun h => hlt ((h.1 i x hx).2 y h0 hy)
            exact fin_val rfl (by simp [this]) (by simp)
        · obtain rfl : i = 0 := by omega
          simp [-getElem?_pos, hx, hw, h1, ho]
          exact ⟨hv.succ hx ho fun z h _ => by omega, Wk.to rfl (by simp) (by simp) (by simp) (by simp)⟩
      · simp [-getElem?_pos, hx, hw, h1, ho]
        have : ¬ LabelsOk l := fun h => ho (h.1 i x hx).1
        exact fin_val rfl (by simp [this]) (by simp)
    · have h2 : ¬ i < l.length := by omega
      have := hv.all h1
      simp [h2]
      exact fin_val rfl (by simp [LabelsOk, this]; omega) (by simp)
open Classical in
theorem l2Props_c (l : List Pr) (hl : ln l) (hf : ∀ x ∈ l, x.fit) : Rv Try.prog 85 [.imm (l.map sP.I)] (.b (decide (PropsOk l))) := by
  refine via_spec_l2Props (by simp) ?_
  simp [pc_spec_l2Props]
  refine W_for (fun i => ⟨[(3, .i .i64 i), (0, .imm (l.map sP.I))], [], 0, 0⟩) l.length (EachTo prOk Pr.name l) (Wk.less rfl (by simp) (by simp) (by simp)) .zero ?_
  intro i hi hv
  rcases Nat.lt_or_ge i l.length with h1 | h1
  · obtain ⟨⟨nm, v⟩, hx⟩ : ∃ x, l[i]? = some x := ⟨_, List.getElem?_eq_getElem h1⟩
    have hw : IntKind.i64.wrap ((i : Int) + 1) = (i : Int) + 1 := wrap1 (by omega)
    have hfx := hf _ (List.mem_of_getElem? hx)
    obtain ⟨hf1, hf2⟩ := hfx
    simp only at hf1 hf2
    simp [-getElem?_pos, hx, hw, h1]
    refine callK_val (by simp) (l2Name_c nm hf1) rfl ?_
    by_cases ho : nameOk nm = true
    · simp [-getElem?_pos, hx, hw, h1, ho]
      refine callK_val (by simp) (specValueOk_c v hf2) rfl ?_
      by_cases hvo : vOk v = true
      · simp [-getElem?_pos, hx, hw, h1, ho, hvo]
        refine callK_val (by simp) (l2Plain_c v hf2) rfl ?_
        by_cases hpl : v.plain = true
        · have hok : prOk ⟨nm, v⟩ = true := by simp [prOk, sto, ho, hvo, hpl]
          by_cases h0 : 0 < i
          · obtain ⟨⟨nm', v'⟩, hy⟩ : ∃ y, l[i - 1]? = some y := ⟨_, List.getElem?_eq_getElem (by omega)⟩
            have hb := wback h0 (by omega)
            by_cases hlt : Op.bytesLess nm' nm = true
            · simp [-getElem?_pos, hx, hw, h1, ho, h0, hb, hy, hlt, hvo, hpl]
              refine ⟨hv.succ hx hok fun z _ hz => ?_, Wk.to rfl (by simp) (by simp) (by simp) (by simp)⟩
              rw [hy] at hz; simp at hz; subst hz; exact hlt
            · simp [-getElem?_pos, hx, hw, h1, ho, h0, hb, hy, hlt, hvo, hpl]
              have : ¬ PropsOk l := fun h => hlt ((h.1 i _ hx).2 _ h0 hy)
              exact fin_val rfl (by simp [this]) (by simp)
          · obtain rfl : i = 0 := by omega
            simp [-getElem?_pos, hx, hw, h1, ho, hvo, hpl]
            exact ⟨hv.succ hx hok fun z h _ => by omega, Wk.to rfl (by simp) (by simp) (by simp) (by simp)⟩
        · simp [-getElem?_pos, hx, hw, h1, ho, hvo, hpl]
          have : ¬ PropsOk l := fun h => by have := (h.1 i _ hx).1; simp [prOk, sto, hpl] at this
          exact fin_val rfl (by simp [this]) (by simp)
      · simp [-getElem?_pos, hx, hw, h1, ho, hvo]
        have : ¬ PropsOk l := fun h => by have := (h.1 i _ hx).1; simp [prOk, sto, hvo] at this
        exact fin_val rfl (by simp [this]) (by simp)
    · simp [-getElem?_pos, hx, hw, h1, ho]
      have : ¬ PropsOk l := fun h => by have := (h.1 i _ hx).1; simp [prOk, ho] at this
      exact fin_val rfl (by simp [this]) (by simp)
  · have h2 : ¬ i < l.length := by omega
    have := hv.all h1
    by_cases h3 : l.length ≤ 4
    · have h3' : (l.length : Int) ≤ 4 := by omega
      simp [h2, h3']
      exact fin_val rfl (by simp [PropsOk, this, h3]) (by simp)
    · have h3' : ¬ (l.length : Int) ≤ 4 := by omega
      simp [h2, h3']
      exact fin_val rfl (by simp [PropsOk, this, h3]) (by simp)
open Classical in
theorem propsOk_c (l : List Pr) (hl : ln l) (hf : ∀ x ∈ l, x.fit) : Rv Try.prog 112 [.imm (l.map sP.I)] (.b (decide (PropsOk l))) := by
  refine via_impl_propsOk (by simp) ?_
  by_cases h4 : 4 < l.length
  · have h4' : (4 : Int) < l.length := by omega
    simp [pc_impl_propsOk, h4']
    have : ¬ PropsOk l := fun h => by have := h.2; omega
    exact fin_val rfl (by simp [this]) (by simp)
  · have h4' : ¬ (4 : Int) < l.length := by omega
    simp [pc_impl_propsOk, h4']
    refine W_for (fun i => ⟨[(10, .i .i64 i), (9, .i .i64 l.length), (8, .imm (l.map sP.I)), (0, .imm (l.map sP.I))], [], 0, 0⟩) l.length (EachTo prOk Pr.name l) (Wk.less rfl (by simp) (by simp) (by simp)) .zero ?_
    intro i hi hv
    rcases Nat.lt_or_ge i l.length with h1 | h1
    · obtain ⟨⟨nm, v⟩, hx⟩ : ∃ x, l[i]? = some x := ⟨_, List.getElem?_eq_getElem h1⟩
      have hw : IntKind.i64.wrap ((i : Int) + 1) = (i : Int) + 1 := wrap1 (by omega)
      have hfx := hf _ (List.mem_of_getElem? hx)
      obtain ⟨hf1, hf2⟩ := hfx
      simp only at hf1 hf2
      obtain ⟨k, n, s, l'⟩ := v
      simp [-getElem?_pos, hx, hw, h1]
      refine callK_val (by simp) (NameOk_c nm hf1) rfl ?_
      by_cases ho : nameOk nm = true
      · simp [-getElem?_pos, hx, hw, h1, ho]
        refine callK_val (by simp) (storable_c (.mk k n s l') hf2) rfl ?_
        by_cases hvo : sto (.mk k n s l') = true
        · have hok : prOk ⟨nm, .mk k n s l'⟩ = true := by simp [prOk, ho, hvo]
          by_cases h0 : 0 < i
          · obtain ⟨⟨nm', v'⟩, hy⟩ : ∃ y, l[i - 1]? = some y := ⟨_, List.getElem?_eq_getElem (by omega)⟩
            have hb := wback h0 (by omega)
            by_cases hlt : Op.bytesLess nm' nm = true
            · simp [-getElem?_pos, hx, hw, h1, ho, h0, hb, hy, hlt, hvo]
              refine ⟨hv.succ hx hok fun z _ hz => ?_, Wk.to rfl (by simp) (by simp) (by simp) (by simp)⟩
              rw [hy] at hz; simp at hz; subst hz; exact hlt
            · simp [-getElem?_pos, hx, hw, h1, ho, h0, hb, hy, hlt, hvo]
              have : ¬ PropsOk l := fun h => hlt ((h.1 i _ hx).2 _ h0 hy)
              exact fin_val rfl (by simp [this]) (by simp)
          · obtain rfl : i = 0 := by omega
            simp [-getElem?_pos, hx, hw, h1, ho, hvo]
            exact ⟨hv.succ hx hok fun z h _ => by omega, Wk.to rfl (by simp) (by simp) (by simp) (by simp)⟩
        · simp [-getElem?_pos, hx, hw, h1, ho, hvo]
          have : ¬ PropsOk l := fun h => by have := (h.1 i _ hx).1; simp [prOk, hvo] at this
          exact fin_val rfl (by simp [this]) (by simp)
      · simp [-getElem?_pos, hx, hw, h1, ho]
        have : ¬ PropsOk l := fun h => by have := (h.1 i _ hx).1; simp [prOk, ho] at this
        exact fin_val rfl (by simp [this]) (by simp)
    · have h2 : ¬ i < l.length := by omega
      have := hv.all h1
      simp [h2]
      exact fin_val rfl (by simp [PropsOk, this]; omega) (by simp)
end Go.Proofs.Ytehdfbhfbidadaa.V
/- Graphs that are ok. -/
namespace Go.Proofs.Ytehdfbhfbidadaa.V
open Go
set_option linter.unusedVariables false
set_option linter.unusedSimpArgs false
set_option maxHeartbeats 8000000
/-! ### places by number -/
section
variable {α : Type} (f : α → Int)
def posOf (id : Int) (l : List α) : Int := match l.findIdx? (fun x => decide (f x = id)) with | some i => (i : Int) | none => -1
variable {f}
theorem posOf_at {id : Int} {l : List α} {i : Nat} {x : α} (hx : l[i]? = some x) (h : f x = id) (hn : ∀ j y, j < i → l[j]? = some y → f y ≠ id) : posOf f id l = i := by
  unfold posOf
  have : l.findIdx? (fun x => decide (f x = id)) = some i := by
    rw [List.findIdx?_eq_some_iff_getElem]
    obtain ⟨hi, rfl⟩ := List.getElem?_eq_some_iff.1 hx
    exact ⟨hi, by simpa using h, fun j hj => by simpa using hn j _ hj (List.getElem?_eq_getElem (by omega))⟩
  rw [this]
theorem posOf_none {id : Int} {l : List α} (h : ∀ (j : Nat) (y : α), l[j]? = some y → f y ≠ id) : posOf f id l = -1 := by
  unfold posOf
  have : l.findIdx? (fun x => decide (f x = id)) = none := by
    rw [List.findIdx?_eq_none_iff]
    intro x hx
    obtain ⟨j, hj⟩ := List.mem_iff_getElem?.1 hx
    simpa using h j x hj
  rw [this]
theorem posOf_cases (f : α → Int) (id : Int) (l : List α) : (∃ (i : Nat) (x : α), posOf f id l = i ∧ l[i]? = some x ∧ f x = id ∧ ∀ j y, j < i → l[j]? = some y → f y ≠ id) ∨ (posOf f id l = -1 ∧ ∀ x ∈ l, f x ≠ id) := by
  cases h : l.findIdx? (fun x => decide (f x = id)) with
  | none =>
    right
    refine ⟨by unfold posOf; rw [h], fun x hx => ?_⟩
    rw [List.findIdx?_eq_none_iff] at h
    simpa using h x hx
  | some i =>
    left
    rw [List.findIdx?_eq_some_iff_getElem] at h
    obtain ⟨hi, h1, h2⟩ := h
    refine ⟨i, l[i], ?_, List.getElem?_eq_getElem hi, by simpa using h1, fun j y hj hy => ?_⟩
    · exact posOf_at (List.getElem?_eq_getElem hi) (by simpa using h1) (fun j y hj hy => by
        obtain ⟨hj', rfl⟩ := List.getElem?_eq_some_iff.1 hy
        simpa using h2 j hj)
    · obtain ⟨hj', rfl⟩ := List.getElem?_eq_some_iff.1 hy
      simpa using h2 j hj
end
theorem l2Node_c (g : Gr) (hl : ln g.nodes) (id : Int) : Rv Try.prog 86 [.agg (sG.I g), .i .i64 id] (.i .i64 (posOf Nd.id id g.nodes)) := by
  obtain ⟨l, es, nn, ne⟩ := g
  simp only at hl ⊢
  refine via_spec_l2Node (by simp) ?_
  simp [pc_spec_l2Node]
  refine W_for (fun i => ⟨[(5, .i .i64 i), (2, .ptr 0 0 0), (1, .i .i64 id)], [(0, .arr 4 [sG.I ⟨l, es, nn, ne⟩])], 1, 0⟩) l.length (fun i => ∀ j y, j < i → l[j]? = some y → y.id ≠ id) (Wk.less rfl (by simp) (by simp) (by simp)) (by simp) ?_
  intro i hi hv
  rcases Nat.lt_or_ge i l.length with h1 | h1
  · obtain ⟨⟨a, b, c⟩, hx⟩ : ∃ x, l[i]? = some x := ⟨_, List.getElem?_eq_getElem h1⟩
    have hw : IntKind.i64.wrap ((i : Int) + 1) = (i : Int) + 1 := wrap1 (by omega)
    by_cases h : a = id
    · simp [-getElem?_pos, hx, hw, h1, h]
      exact fin_val rfl (by simp [posOf_at (f := Nd.id) hx h hv]) (by simp)
    · simp [-getElem?_pos, hx, hw, h1, h]
      refine ⟨fun j y hj hy => ?_, Wk.to1 rfl (by simp) (by simp) (by simp) (by simp) (by omega)⟩
      rcases Nat.lt_or_ge j i with h6 | h6
      · exact hv j y h6 hy
      · obtain rfl : j = i := by omega
        rw [hx] at hy; simp at hy; subst hy; exact h
  · have h2 : ¬ i < l.length := by omega
    simp [h2]
    refine fin_val rfl ?_ (by simp)
    rw [posOf_none fun j y hy => hv j y (by have := (List.getElem?_eq_some_iff.1 hy).1; omega) hy]
    simp
theorem nodesOf1_c (n : Nd) : Rv Try.prog 158 [.agg (sN.I n)] (.i .i64 n.id) := by
  obtain ⟨a, b, c⟩ := n
  refine via_impl_nodesOf_1 (by simp) ?_
  simp [pc_impl_nodesOf_1]
  exact fin_val rfl (by simp) (by simp)
theorem edgesIn1_c (n : Eg) : Rv Try.prog 175 [.agg (sE.I n)] (.i .i64 n.id) := by
  obtain ⟨a, b, c, d, e⟩ := n
  refine via_impl_edgesIn_1 (by simp) ?_
  simp [pc_impl_edgesIn_1]
  exact fin_val rfl (by simp) (by simp)
theorem nodesOf_v (a b : T) (ha : a.cell = true) (hb : b.cell = true) (nn ne : Int) : Vw Try.prog 97 [.agg [a, b, .i .i64 nn, .i .i64 ne]] [] (.agg [a, .fn 158 []]) := by
  obtain ⟨N, hN⟩ : ∃ N, ∀ x ∈ a.names ++ b.names, x < N := by
    have : ∀ l : List Nat, ∃ N, ∀ x ∈ l, x < N := by
      intro l
      induction l with
      | nil => exact ⟨0, by simp⟩
      | cons y l ih =>
        obtain ⟨N, hN⟩ := ih
        refine ⟨max N (y + 1), fun x hx => ?_⟩
        rcases List.mem_cons.1 hx with rfl | hx
        · omega
        · have := hN x hx; omega
    exact this _
  refine see_impl_nodesOf N (by simp) (by simpa using hN) (by simp; intro x hx; exact .inl hx) (by simp) (by simp) ?_
  have m1 : ∀ n, mat a n = (a, []) := fun n => by cases a <;> simp [T.cell] at ha <;> simp
  have c1 : a.cells = [a] := by cases a <;> simp [T.cell] at ha <;> rfl
  simp [pc_impl_nodesOf, ha, hb, m1, c1]
  exact fin_view (by simp [ha]; rfl) (by simp) (by simp)
theorem edgesIn_v (a b : T) (ha : a.cell = true) (hb : b.cell = true) (nn ne : Int) : Vw Try.prog 116 [.agg [a, b, .i .i64 nn, .i .i64 ne]] [] (.agg [b, .fn 175 []]) := by
  obtain ⟨N, hN⟩ : ∃ N, ∀ x ∈ a.names ++ b.names, x < N := by
    have : ∀ l : List Nat, ∃ N, ∀ x ∈ l, x < N := by
      intro l
      induction l with
      | nil => exact ⟨0, by simp⟩
      | cons y l ih =>
        obtain ⟨N, hN⟩ := ih
        refine ⟨max N (y + 1), fun x hx => ?_⟩
        rcases List.mem_cons.1 hx with rfl | hx
        · omega
        · have := hN x hx; omega
    exact this _
  refine see_impl_edgesIn N (by simp) (by simpa using hN) (by simp; intro x hx; exact .inr hx) (by simp) (by simp) ?_
  have m1 : ∀ n, mat b n = (b, []) := fun n => by cases b <;> simp [T.cell] at hb <;> simp
  have c1 : b.cells = [b] := by cases b <;> simp [T.cell] at hb <;> rfl
  simp [pc_impl_edgesIn, ha, hb, m1, c1]
  exact fin_view (by simp [hb]; rfl) (by simp) (by simp)
/-! ### numbers ascending -/
def AscTo {α : Type} (f : α → Int) (e : Int) (l : List α) (n : Nat) : Prop := ∀ (i : Nat) (x : α), i < n → l[i]? = some x → 0 ≤ f x ∧ f x < e ∧ ∀ y, 0 < i → l[i - 1]? = some y → f y < f x
def Asc {α : Type} (f : α → Int) (e : Int) (l : List α) : Prop := ∀ (i : Nat) (x : α), l[i]? = some x → 0 ≤ f x ∧ f x < e ∧ ∀ y, 0 < i → l[i - 1]? = some y → f y < f x
/-- The number ahead of a place; less than nothing at the first. -/
def ahd {α : Type} (f : α → Int) (l : List α) (i : Nat) : Int := if i = 0 then -1 else match l[i - 1]? with | some y => f y | none => -1
theorem AscTo.all {α : Type} {f : α → Int} {e : Int} {l : List α} {n : Nat} (h : AscTo f e l n) (hn : l.length ≤ n) : Asc f e l :=
  fun i x hx => h i x (by have := (List.getElem?_eq_some_iff.1 hx).1; omega) hx
theorem AscTo.succ {α : Type} {f : α → Int} {e : Int} {l : List α} {n : Nat} {x : α} (h : AscTo f e l n) (hx : l[n]? = some x) (h1 : ahd f l n < f x) (h2 : f x < e) : AscTo f e l (n + 1) := by
  intro i z hi hz
  rcases Nat.lt_or_ge i n with h3 | h3
  · exact h i z h3 hz
  · obtain rfl : i = n := by omega
    rw [hx] at hz; simp at hz; subst hz
    unfold ahd at h1
    by_cases h0 : i = 0
    · rw [if_pos h0] at h1
      exact ⟨by omega, h2, fun y hy => by omega⟩
    · rw [if_neg h0] at h1
      have hi := (List.getElem?_eq_some_iff.1 hx).1
      have hy : l[i - 1]? = some (l[i - 1]'(by omega)) := List.getElem?_eq_getElem (by omega)
      have := (h (i - 1) _ (by omega) hy).1
      rw [hy] at h1
      simp only at h1
      refine ⟨by omega, h2, fun y _ hy' => ?_⟩
      rw [hy] at hy'; simp at hy'; subst hy'; exact h1
theorem Asc.fails {α : Type} {f : α → Int} {e : Int} {l : List α} {n : Nat} {x : α} (hx : l[n]? = some x) (h : f x ≤ ahd f l n ∨ e ≤ f x) : ¬ Asc f e l := by
  intro ha
  obtain ⟨h1, h2, h3⟩ := ha n x hx
  rcases h with h | h
  · unfold ahd at h
    by_cases h0 : n = 0
    · rw [if_pos h0] at h; omega
    · rw [if_neg h0] at h
      have hi := (List.getElem?_eq_some_iff.1 hx).1
      have hy : l[n - 1]? = some (l[n - 1]'(by omega)) := List.getElem?_eq_getElem (by omega)
      rw [hy] at h
      have := h3 _ (by omega) hy
      simp only at h
      omega
  · omega
theorem ahd_succ {α : Type} {f : α → Int} {l : List α} {n : Nat} {x : α} (hx : l[n]? = some x) : ahd f l (n + 1) = f x := by
  unfold ahd; simp [hx]
open Classical in
theorem ascendN_c (l : List Nd) (hl : l.length ≤ 9223372036854775806) (e : Int) : Rv Try.prog 115 [.agg [.imm (l.map sN.I), .fn 158 []], .i .i64 e] (.b (decide (Asc Nd.id e l))) := by
  have hok : okCall Try.prog 158 = true := by kernel_rfl
  refine via_impl_numbered_impl_Node_ascend (by simp) ?_
  simp [pc_impl_numbered_impl_Node_ascend]
  refine W_for (fun i => ⟨[(12, .i .i64 i), (11, .i .i64 l.length), (10, .imm (l.map sN.I)), (5, .i .i64 (ahd Nd.id l i)), (2, .ptr 0 0 0), (1, .i .i64 e)], [(0, .arr 2 [[.imm (l.map sN.I), .fn 158 []]])], 1, 0⟩) l.length (AscTo Nd.id e l) (Wk.less rfl (by simp) (by simp [ahd]) (by simp)) (fun i x h => by omega) ?_
  intro i hi hv
  rcases Nat.lt_or_ge i l.length with h1 | h1
  · obtain ⟨⟨a, b, c⟩, hx⟩ : ∃ x, l[i]? = some x := ⟨_, List.getElem?_eq_getElem h1⟩
    have hw : IntKind.i64.wrap ((i : Int) + 1) = (i : Int) + 1 := wrap1 (by omega)
    have ha := ahd_succ (f := Nd.id) hx
    simp [-getElem?_pos, hx, hw, h1, hok]
    refine callK_val (by simp) (nodesOf1_c ⟨a, b, c⟩) rfl ?_
    by_cases h2 : a ≤ ahd Nd.id l i
    · simp [-getElem?_pos, hx, hw, h1, h2]
      exact fin_val rfl (by simp [Asc.fails (f := Nd.id) hx (.inl h2)]) (by simp)
    · by_cases h3 : e ≤ a
      · simp [-getElem?_pos, hx, hw, h1, h2, h3]
        exact fin_val rfl (by simp [Asc.fails (f := Nd.id) hx (.inr h3)]) (by simp)
      · simp [-getElem?_pos, hx, hw, h1, h2, h3]
        exact ⟨hv.succ hx (by simp only; omega) (by simp only; omega), Wk.to rfl (by simp) (by simp [ha]) (by simp [Blk.names]) (by simp)⟩
  · have h2 : ¬ i < l.length := by omega
    simp [h2]
    exact fin_val rfl (by simp [hv.all h1]) (by simp)
theorem placeN_c (l : List Nd) (hl : l.length ≤ 9223372036854775806) (id : Int) : Rv Try.prog 98 [.agg [.imm (l.map sN.I), .fn 158 []], .i .i64 id] (.i .i64 (posOf Nd.id id l)) := by
  have hok : okCall Try.prog 158 = true := by kernel_rfl
  refine via_impl_numbered_impl_Node_place (by simp) ?_
  simp [pc_impl_numbered_impl_Node_place]
  refine W_for (fun i => ⟨[(10, .i .i64 i), (9, .i .i64 l.length), (8, .imm (l.map sN.I)), (2, .ptr 0 0 0), (1, .i .i64 id)], [(0, .arr 2 [[.imm (l.map sN.I), .fn 158 []]])], 1, 0⟩) l.length (fun i => ∀ j y, j < i → l[j]? = some y → y.id ≠ id) (Wk.less rfl (by simp) (by simp) (by simp)) (by simp) ?_
  intro i hi hv
  rcases Nat.lt_or_ge i l.length with h1 | h1
  · obtain ⟨⟨a, b, c⟩, hx⟩ : ∃ x, l[i]? = some x := ⟨_, List.getElem?_eq_getElem h1⟩
    have hw : IntKind.i64.wrap ((i : Int) + 1) = (i : Int) + 1 := wrap1 (by omega)
    simp [-getElem?_pos, hx, hw, h1, hok]
    refine callK_val (by simp) (nodesOf1_c ⟨a, b, c⟩) rfl ?_
    by_cases h : a = id
    · simp [-getElem?_pos, hx, hw, h1, h]
      exact fin_val rfl (by simp [posOf_at (f := Nd.id) hx h hv]) (by simp)
    · simp [-getElem?_pos, hx, hw, h1, h]
      refine ⟨fun j y hj hy => ?_, Wk.to rfl (by simp) (by simp) (by simp [Blk.names]) (by simp)⟩
      rcases Nat.lt_or_ge j i with h6 | h6
      · exact hv j y h6 hy
      · obtain rfl : j = i := by omega
        rw [hx] at hy; simp at hy; subst hy; exact h
  · have h2 : ¬ i < l.length := by omega
    simp [h2]
    refine fin_val rfl ?_ (by simp)
    rw [posOf_none fun j y hy => hv j y (by have := (List.getElem?_eq_some_iff.1 hy).1; omega) hy]
    simp
open Classical in
theorem ascendE_c (l : List Eg) (hl : l.length ≤ 9223372036854775806) (e : Int) : Rv Try.prog 117 [.agg [.imm (l.map sE.I), .fn 175 []], .i .i64 e] (.b (decide (Asc Eg.id e l))) := by
  have hok : okCall Try.prog 175 = true := by kernel_rfl
  refine via_impl_numbered_impl_Edge_ascend (by simp) ?_
  simp [pc_impl_numbered_impl_Edge_ascend]
  refine W_for (fun i => ⟨[(12, .i .i64 i), (11, .i .i64 l.length), (10, .imm (l.map sE.I)), (5, .i .i64 (ahd Eg.id l i)), (2, .ptr 0 0 0), (1, .i .i64 e)], [(0, .arr 2 [[.imm (l.map sE.I), .fn 175 []]])], 1, 0⟩) l.length (AscTo Eg.id e l) (Wk.less rfl (by simp) (by simp [ahd]) (by simp)) (fun i x h => by omega) ?_
  intro i hi hv
  rcases Nat.lt_or_ge i l.length with h1 | h1
  · obtain ⟨⟨a, b, c, d, p⟩, hx⟩ : ∃ x, l[i]? = some x := ⟨_, List.getElem?_eq_getElem h1⟩
    have hw : IntKind.i64.wrap ((i : Int) + 1) = (i : Int) + 1 := wrap1 (by omega)
    have ha := ahd_succ (f := Eg.id) hx
    simp [-getElem?_pos, hx, hw, h1, hok]
    refine callK_val (by simp) (edgesIn1_c ⟨a, b, c, d, p⟩) rfl ?_
    by_cases h2 : a ≤ ahd Eg.id l i
    · simp [-getElem?_pos, hx, hw, h1, h2]
      exact fin_val rfl (by simp [Asc.fails (f := Eg.id) hx (.inl h2)]) (by simp)
    · by_cases h3 : e ≤ a
      · simp [-getElem?_pos, hx, hw, h1, h2, h3]
        exact fin_val rfl (by simp [Asc.fails (f := Eg.id) hx (.inr h3)]) (by simp)
      · simp [-getElem?_pos, hx, hw, h1, h2, h3]
        exact ⟨hv.succ hx (by simp only; omega) (by simp only; omega), Wk.to rfl (by simp) (by simp [ha]) (by simp [Blk.names]) (by simp)⟩
  · have h2 : ¬ i < l.length := by omega
    simp [h2]
    exact fin_val rfl (by simp [hv.all h1]) (by simp)
theorem placeE_c (l : List Eg) (hl : l.length ≤ 9223372036854775806) (id : Int) : Rv Try.prog 170 [.agg [.imm (l.map sE.I), .fn 175 []], .i .i64 id] (.i .i64 (posOf Eg.id id l)) := by
  have hok : okCall Try.prog 175 = true := by kernel_rfl
  refine via_impl_numbered_impl_Edge_place (by simp) ?_
  simp [pc_impl_numbered_impl_Edge_place]
  refine W_for (fun i => ⟨[(10, .i .i64 i), (9, .i .i64 l.length), (8, .imm (l.map sE.I)), (2, .ptr 0 0 0), (1, .i .i64 id)], [(0, .arr 2 [[.imm (l.map sE.I), .fn 175 []]])], 1, 0⟩) l.length (fun i => ∀ j y, j < i → l[j]? = some y → y.id ≠ id) (Wk.less rfl (by simp) (by simp) (by simp)) (by simp) ?_
  intro i hi hv
  rcases Nat.lt_or_ge i l.length with h1 | h1
  · obtain ⟨⟨a, b, c, d, p⟩, hx⟩ : ∃ x, l[i]? = some x := ⟨_, List.getElem?_eq_getElem h1⟩
    have hw : IntKind.i64.wrap ((i : Int) + 1) = (i : Int) + 1 := wrap1 (by omega)
    simp [-getElem?_pos, hx, hw, h1, hok]
    refine callK_val (by simp) (edgesIn1_c ⟨a, b, c, d, p⟩) rfl ?_
    by_cases h : a = id
    · simp [-getElem?_pos, hx, hw, h1, h]
      exact fin_val rfl (by simp [posOf_at (f := Eg.id) hx h hv]) (by simp)
    · simp [-getElem?_pos, hx, hw, h1, h]
      refine ⟨fun j y hj hy => ?_, Wk.to rfl (by simp) (by simp) (by simp [Blk.names]) (by simp)⟩
      rcases Nat.lt_or_ge j i with h6 | h6
      · exact hv j y h6 hy
      · obtain rfl : j = i := by omega
        rw [hx] at hy; simp at hy; subst hy; exact h
  · have h2 : ¬ i < l.length := by omega
    simp [h2]
    refine fin_val rfl ?_ (by simp)
    rw [posOf_none fun j y hy => hv j y (by have := (List.getElem?_eq_some_iff.1 hy).1; omega) hy]
    simp
end Go.Proofs.Ytehdfbhfbidadaa.V
/- Graphs that are ok: the program's and the reference's word. -/
namespace Go.Proofs.Ytehdfbhfbidadaa.V
open Go
set_option linter.unusedVariables false
set_option linter.unusedSimpArgs false
set_option maxHeartbeats 16000000
structure GOk (g : Gr) : Prop where
  nn : 0 ≤ g.nn ∧ g.nn ≤ 1000000000
  ne : 0 ≤ g.ne ∧ g.ne ≤ 1000000000
  nl : g.nodes.length ≤ 12
  el : g.edges.length ≤ 16
  na : Asc Nd.id g.nn g.nodes
  ea : Asc Eg.id g.ne g.edges
  nok : ∀ x ∈ g.nodes, LabelsOk x.labels ∧ PropsOk x.props
  eok : ∀ x ∈ g.edges, nameOk x.kind = true ∧ PropsOk x.props ∧ 0 ≤ posOf Nd.id x.frm g.nodes ∧ 0 ≤ posOf Nd.id x.to g.nodes
/-- Up to a place. -/
def To {α : Type} (C : α → Prop) (l : List α) (n : Nat) : Prop := ∀ (i : Nat) (x : α), i < n → l[i]? = some x → C x
theorem To.zero {α : Type} {C : α → Prop} {l : List α} : To C l 0 := fun i x h => by omega
theorem To.succ {α : Type} {C : α → Prop} {l : List α} {n : Nat} {x : α} (h : To C l n) (hx : l[n]? = some x) (h1 : C x) : To C l (n + 1) := by
  intro i z hi hz
  rcases Nat.lt_or_ge i n with h3 | h3
  · exact h i z h3 hz
  · obtain rfl : i = n := by omega
    rw [hx] at hz; simp at hz; subst hz; exact h1
theorem To.all {α : Type} {C : α → Prop} {l : List α} {n : Nat} (h : To C l n) (hn : l.length ≤ n) : ∀ x ∈ l, C x := by
  intro x hx
  obtain ⟨j, hj⟩ := List.mem_iff_getElem?.1 hx
  exact h j x (by have := (List.getElem?_eq_some_iff.1 hj).1; omega) hj
open Classical in
theorem GraphOk_c (g : Gr) (hf : g.fit) : Rv Try.prog 50 [.agg (sG.I g)] (.b (decide (GOk g))) := by
  have ok1 : okCall Try.prog 97 = true := by kernel_rfl
  have ok2 : okCall Try.prog 116 = true := by kernel_rfl
  obtain ⟨l, es, nn, ne⟩ := g
  obtain ⟨hl, hl', he, he', hn1, hn2⟩ := hf
  simp only at hl hl' he he' hn1 hn2
  refine via_impl_GraphOk (by simp) ?_
  by_cases h1 : nn < 0
  · simp [pc_impl_GraphOk, h1]
    exact fin_val rfl (by simp [show ¬ GOk ⟨l, es, nn, ne⟩ from fun h => by have := h.nn; simp only at this; omega]) (by simp)
  by_cases h2 : 1000000000 < nn
  · simp [pc_impl_GraphOk, h1, h2]
    exact fin_val rfl (by simp [show ¬ GOk ⟨l, es, nn, ne⟩ from fun h => by have := h.nn; simp only at this; omega]) (by simp)
  by_cases h3 : ne < 0
  · simp [pc_impl_GraphOk, h1, h2, h3]
    exact fin_val rfl (by simp [show ¬ GOk ⟨l, es, nn, ne⟩ from fun h => by have := h.ne; simp only at this; omega]) (by simp)
  by_cases h4 : 1000000000 < ne
  · simp [pc_impl_GraphOk, h1, h2, h3, h4]
    exact fin_val rfl (by simp [show ¬ GOk ⟨l, es, nn, ne⟩ from fun h => by have := h.ne; simp only at this; omega]) (by simp)
  by_cases h5 : 12 < (l.length : Int)
  · simp [pc_impl_GraphOk, h1, h2, h3, h4, h5]
    exact fin_val rfl (by simp [show ¬ GOk ⟨l, es, nn, ne⟩ from fun h => by have := h.nl; simp only at this; omega]) (by simp)
  by_cases h6 : 16 < (es.length : Int)
  · simp [pc_impl_GraphOk, h1, h2, h3, h4, h5, h6]
    exact fin_val rfl (by simp [show ¬ GOk ⟨l, es, nn, ne⟩ from fun h => by have := h.el; simp only at this; omega]) (by simp)
  simp [pc_impl_GraphOk, h1, h2, h3, h4, h5, h6]
  refine hookH_view (nodesOf_v (.imm (l.map sN.I)) (.imm (es.map sE.I)) rfl rfl nn ne) rfl ok1 (by simp) ?_
  simp
  refine callK_val (by simp) (ascendN_c l (by omega) nn) rfl ?_
  by_cases h7 : Asc Nd.id nn l
  · simp [h7]
    refine hookH_view (edgesIn_v (.imm (l.map sN.I)) (.imm (es.map sE.I)) rfl rfl nn ne) rfl ok2 (by simp) ?_
    simp [h7]
    refine callK_val (by simp) (ascendE_c es (by omega) ne) rfl ?_
    by_cases h8 : Asc Eg.id ne es
    · simp [h7, h8]
      refine W_for (fun i => ⟨[(54, .i .i64 i), (53, .i .i64 l.length), (52, .imm (l.map sN.I)), (1, .ptr 0 0 0), (3, .ptr 1 0 0)], [(0, .arr 4 [sG.I ⟨l, es, nn, ne⟩]), (1, .arr 2 [[.imm (l.map sN.I), .fn 158 []]])], 107, 0⟩) l.length (To (fun x : Nd => LabelsOk x.labels ∧ PropsOk x.props) l) (Wk.less rfl (by simp) (by simp) (by simp)) .zero ?_
      intro i hi hv
      rcases Nat.lt_or_ge i l.length with hlt | hge
      · obtain ⟨⟨a, b, c⟩, hx⟩ : ∃ x, l[i]? = some x := ⟨_, List.getElem?_eq_getElem hlt⟩
        have hw : IntKind.i64.wrap ((i : Int) + 1) = (i : Int) + 1 := wrap1 (by omega)
        obtain ⟨_, f1, f2, f3, f4⟩ := hl' _ (List.mem_of_getElem? hx)
        simp only at f1 f2 f3 f4
        simp [-getElem?_pos, hx, hw, hlt]
        refine callK_val (by simp) (labelsOk_c b f1 f2) rfl ?_
        by_cases g1 : LabelsOk b
        · simp [-getElem?_pos, hx, hw, hlt, g1]
          refine callK_val (by simp) (propsOk_c c f3 f4) rfl ?_
          by_cases g2 : PropsOk c
          · simp [-getElem?_pos, hx, hw, hlt, g1, g2]
            exact ⟨hv.succ hx ⟨g1, g2⟩, Wk.to rfl (by simp) (by simp) (by simp [Blk.names]) (by simp)⟩
          · simp [-getElem?_pos, hx, hw, hlt, g1, g2]
            exact fin_val rfl (by simp [show ¬ GOk ⟨l, es, nn, ne⟩ from fun h => g2 (h.nok _ (List.mem_of_getElem? hx)).2]) (by simp)
        · simp [-getElem?_pos, hx, hw, hlt, g1]
          exact fin_val rfl (by simp [show ¬ GOk ⟨l, es, nn, ne⟩ from fun h => g1 (h.nok _ (List.mem_of_getElem? hx)).1]) (by simp)
      · have hnlt : ¬ i < l.length := by omega
        have hnok := hv.all hge
        simp [hnlt]
        refine W_for (fun i => ⟨[(72, .i .i64 i), (71, .i .i64 es.length), (70, .imm (es.map sE.I)), (1, .ptr 0 0 0), (3, .ptr 1 0 0)], [(0, .arr 4 [sG.I ⟨l, es, nn, ne⟩]), (1, .arr 2 [[.imm (l.map sN.I), .fn 158 []]])], 107, 0⟩) es.length (To (fun x : Eg => nameOk x.kind = true ∧ PropsOk x.props ∧ 0 ≤ posOf Nd.id x.frm l ∧ 0 ≤ posOf Nd.id x.to l) es) (Wk.less rfl (by simp) (by simp) (by simp)) .zero ?_
        intro i hi hv
        rcases Nat.lt_or_ge i es.length with hlt | hge
        · obtain ⟨⟨a, k, b, c, p⟩, hx⟩ : ∃ x, es[i]? = some x := ⟨_, List.getElem?_eq_getElem hlt⟩
          have hw : IntKind.i64.wrap ((i : Int) + 1) = (i : Int) + 1 := wrap1 (by omega)
          obtain ⟨_, f1, _, _, f3, f4⟩ := he' _ (List.mem_of_getElem? hx)
          simp only at f1 f3 f4
          have no : ¬ (nameOk k = true ∧ PropsOk p ∧ 0 ≤ posOf Nd.id b l ∧ 0 ≤ posOf Nd.id c l) → ¬ GOk ⟨l, es, nn, ne⟩ := fun h h2 => h (h2.eok _ (List.mem_of_getElem? hx))
          simp [-getElem?_pos, hx, hw, hlt]
          refine callK_val (by simp) (NameOk_c k f1) rfl ?_
          by_cases g1 : nameOk k = true
          · simp [-getElem?_pos, hx, hw, hlt, g1]
            refine callK_val (by simp) (propsOk_c p f3 f4) rfl ?_
            by_cases g2 : PropsOk p
            · simp [-getElem?_pos, hx, hw, hlt, g1, g2]
              refine callK_val (by simp) (placeN_c l (by omega) b) rfl ?_
              by_cases g3 : posOf Nd.id b l < 0
              · simp [-getElem?_pos, hx, hw, hlt, g1, g2, g3]
                exact fin_val rfl (by simp [no (by omega)]) (by simp)
              · simp [-getElem?_pos, hx, hw, hlt, g1, g2, g3]
                refine callK_val (by simp) (placeN_c l (by omega) c) rfl ?_
                by_cases g4 : posOf Nd.id c l < 0
                · simp [-getElem?_pos, hx, hw, hlt, g1, g2, g3, g4]
                  exact fin_val rfl (by simp [no (by omega)]) (by simp)
                · simp [-getElem?_pos, hx, hw, hlt, g1, g2, g3, g4]
                  exact ⟨hv.succ hx ⟨g1, g2, by simp only; omega, by simp only; omega⟩, Wk.to rfl (by simp) (by simp) (by simp [Blk.names]) (by simp)⟩
            · simp [-getElem?_pos, hx, hw, hlt, g1, g2]
              exact fin_val rfl (by simp [no (fun h => g2 h.2.1)]) (by simp)
          · simp [-getElem?_pos, hx, hw, hlt, g1]
            exact fin_val rfl (by simp [no (fun h => g1 h.1)]) (by simp)
        · have hnlt : ¬ i < es.length := by omega
          have heok := hv.all hge
          simp [hnlt]
          have : GOk ⟨l, es, nn, ne⟩ := ⟨by simp only; omega, by simp only; omega, by simp only; omega, by simp only; omega, h7, h8, hnok, heok⟩
          exact fin_val rfl (by simp [this]) (by simp)
    · simp [h7, h8]
      exact fin_val rfl (by simp [show ¬ GOk ⟨l, es, nn, ne⟩ from fun h => h8 h.ea]) (by simp)
  · simp [h7]
    exact fin_val rfl (by simp [show ¬ GOk ⟨l, es, nn, ne⟩ from fun h => h7 h.na]) (by simp)
theorem Asc.mono {α : Type} {f : α → Int} {e e' : Int} {l : List α} (h : Asc f e l) (he : e ≤ e') : Asc f e' l := fun i x hx => by
  obtain ⟨h1, h2, h3⟩ := h i x hx
  exact ⟨h1, by omega, h3⟩
/-- Between 0 and one less, behind the one ahead. -/
def Stp {α : Type} (f : α → Int) (e : Int) (l : List α) (i : Nat) (x : α) : Prop := 0 ≤ f x ∧ f x ≤ e ∧ ∀ y, 0 < i → l[i - 1]? = some y → f y < f x
def ToI {α : Type} (C : Nat → α → Prop) (l : List α) (n : Nat) : Prop := ∀ (i : Nat) (x : α), i < n → l[i]? = some x → C i x
theorem ToI.zero {α : Type} {C : Nat → α → Prop} {l : List α} : ToI C l 0 := fun i x h => by omega
theorem ToI.succ {α : Type} {C : Nat → α → Prop} {l : List α} {n : Nat} {x : α} (h : ToI C l n) (hx : l[n]? = some x) (h1 : C n x) : ToI C l (n + 1) := by
  intro i z hi hz
  rcases Nat.lt_or_ge i n with h3 | h3
  · exact h i z h3 hz
  · obtain rfl : i = n := by omega
    rw [hx] at hz; simp at hz; subst hz; exact h1
theorem ToI.all {α : Type} {C : Nat → α → Prop} {l : List α} {n : Nat} (h : ToI C l n) (hn : l.length ≤ n) : ∀ (i : Nat) (x : α), l[i]? = some x → C i x :=
  fun i x hx => h i x (by have := (List.getElem?_eq_some_iff.1 hx).1; omega) hx
open Classical in
theorem specGraphOk_c (g : Gr) (hf : g.fit) : Rv Try.prog 34 [.agg (sG.I g)] (.b (decide (GOk g))) := by
  obtain ⟨l, es, nn, ne⟩ := g
  obtain ⟨hl, hl', he, he', hn1, hn2⟩ := hf
  simp only at hl hl' he he' hn1 hn2
  have q1 : GOk ⟨l, es, nn, ne⟩ → IntKind.i64.wrap (nn - 1) = nn - 1 := fun h => wrap64 (by have := h.nn; simp only at this; omega) (by have := h.nn; simp only at this; omega)
  have q2 : GOk ⟨l, es, nn, ne⟩ → IntKind.i64.wrap (ne - 1) = ne - 1 := fun h => wrap64 (by have := h.ne; simp only at this; omega) (by have := h.ne; simp only at this; omega)
  refine via_spec_GraphOk (by simp) ?_
  have nN : ∀ (i : Nat) (x : Nd), l[i]? = some x → ¬ (Stp Nd.id (IntKind.i64.wrap (nn - 1)) l i x ∧ LabelsOk x.labels ∧ PropsOk x.props) → ¬ GOk ⟨l, es, nn, ne⟩ := by
    intro i x hx h hg
    refine h ⟨?_, hg.nok x (List.mem_of_getElem? hx)⟩
    obtain ⟨a1, a2, a3⟩ := hg.na i x hx
    rw [q1 hg]
    exact ⟨a1, by simp only at a2; omega, a3⟩
  have nE : ∀ (i : Nat) (x : Eg), es[i]? = some x → ¬ (Stp Eg.id (IntKind.i64.wrap (ne - 1)) es i x ∧ nameOk x.kind = true ∧ PropsOk x.props ∧ 0 ≤ posOf Nd.id x.frm l ∧ 0 ≤ posOf Nd.id x.to l) → ¬ GOk ⟨l, es, nn, ne⟩ := by
    intro i x hx h hg
    refine h ⟨?_, hg.eok x (List.mem_of_getElem? hx)⟩
    obtain ⟨a1, a2, a3⟩ := hg.ea i x hx
    rw [q2 hg]
    exact ⟨a1, by simp only at a2; omega, a3⟩
  generalize hq1 : IntKind.i64.wrap (nn - 1) = w1 at *
  generalize hq2 : IntKind.i64.wrap (ne - 1) = w2 at *
  simp [pc_spec_GraphOk]
  refine W_for (fun i => ⟨[(3, .i .i64 i), (1, .ptr 0 0 0)], [(0, .arr 4 [sG.I ⟨l, es, nn, ne⟩])], 1, 0⟩) l.length (ToI (fun i (x : Nd) => Stp Nd.id w1 l i x ∧ LabelsOk x.labels ∧ PropsOk x.props) l) (Wk.less rfl (by simp) (by simp) (by simp)) .zero ?_
  intro i hi hv
  rcases Nat.lt_or_ge i l.length with hlt | hge
  · obtain ⟨⟨a, b, c⟩, hx⟩ : ∃ x, l[i]? = some x := ⟨_, List.getElem?_eq_getElem hlt⟩
    have hw : IntKind.i64.wrap ((i : Int) + 1) = (i : Int) + 1 := wrap1 (by omega)
    obtain ⟨_, f1, f2, f3, f4⟩ := hl' _ (List.mem_of_getElem? hx)
    simp only at f1 f2 f3 f4
    have no := nN i _ hx
    simp only at no
    simp [-getElem?_pos, hx, hw, hlt, hq1]
    refine callK_val (by simp) (l1In_c a 0 w1) rfl ?_
    by_cases b1 : 0 ≤ a
    · by_cases b2 : a ≤ w1
      · simp [-getElem?_pos, hx, hw, hlt, hq1, b1, b2]
        refine callK_val (by simp) (l2Labels_c b f1 f2) rfl ?_
        by_cases g1 : LabelsOk b
        · simp [-getElem?_pos, hx, hw, hlt, hq1, b1, b2, g1]
          refine callK_val (by simp) (l2Props_c c f3 f4) rfl ?_
          by_cases g2 : PropsOk c
          · by_cases h0 : 0 < i
            · obtain ⟨⟨a', b', c'⟩, hy⟩ : ∃ y, l[i - 1]? = some y := ⟨_, List.getElem?_eq_getElem (by omega)⟩
              have hb := wback h0 (by omega)
              by_cases hlt2 : a ≤ a'
              · simp [-getElem?_pos, hx, hw, hlt, hq1, b1, b2, g1, g2, h0, hb, hy, hlt2]
                exact fin_val rfl (by simp [no (fun h => by have := h.1.2.2 _ h0 hy; simp only at this; omega)]) (by simp)
              · simp [-getElem?_pos, hx, hw, hlt, hq1, b1, b2, g1, g2, h0, hb, hy, hlt2]
                refine ⟨hv.succ hx ⟨⟨b1, b2, fun z _ hz => ?_⟩, g1, g2⟩, Wk.to1 rfl (by simp) (by simp) (by simp) (by simp) (by omega)⟩
                rw [hy] at hz; simp at hz; subst hz; simp only; omega
            · obtain rfl : i = 0 := by omega
              simp [-getElem?_pos, hx, hw, hlt, hq1, b1, b2, g1, g2]
              exact ⟨hv.succ hx ⟨⟨b1, b2, fun z h _ => by omega⟩, g1, g2⟩, Wk.to1 rfl (by simp) (by simp) (by simp) (by simp) (by omega)⟩
          · simp [-getElem?_pos, hx, hw, hlt, hq1, b1, b2, g1, g2]
            exact fin_val rfl (by simp [no (fun h => g2 h.2.2)]) (by simp)
        · simp [-getElem?_pos, hx, hw, hlt, hq1, b1, b2, g1]
          exact fin_val rfl (by simp [no (fun h => g1 h.2.1)]) (by simp)
      · simp [-getElem?_pos, hx, hw, hlt, hq1, b1, b2]
        exact fin_val rfl (by simp [no (fun h => b2 h.1.2.1)]) (by simp)
    · simp [-getElem?_pos, hx, hw, hlt, hq1, b1]
      exact fin_val rfl (by simp [no (fun h => b1 h.1.1)]) (by simp)
  · have hnlt : ¬ i < l.length := by omega
    have hnok := hv.all hge
    simp [hnlt]
    refine W_for (fun i => ⟨[(5, .i .i64 i), (1, .ptr 0 0 0)], [(0, .arr 4 [sG.I ⟨l, es, nn, ne⟩])], 1, 0⟩) es.length (ToI (fun i (x : Eg) => Stp Eg.id w2 es i x ∧ nameOk x.kind = true ∧ PropsOk x.props ∧ 0 ≤ posOf Nd.id x.frm l ∧ 0 ≤ posOf Nd.id x.to l) es) (Wk.less rfl (by simp) (by simp) (by simp)) .zero ?_
    intro i hi hv
    rcases Nat.lt_or_ge i es.length with hlt | hge
    · obtain ⟨⟨a, k, b, c, p⟩, hx⟩ : ∃ x, es[i]? = some x := ⟨_, List.getElem?_eq_getElem hlt⟩
      have hw : IntKind.i64.wrap ((i : Int) + 1) = (i : Int) + 1 := wrap1 (by omega)
      obtain ⟨_, f1, _, _, f3, f4⟩ := he' _ (List.mem_of_getElem? hx)
      simp only at f1 f3 f4
      have no := nE i _ hx
      simp only at no
      simp [-getElem?_pos, hx, hw, hlt, hq2]
      refine callK_val (by simp) (l1In_c a 0 w2) rfl ?_
      by_cases b1 : 0 ≤ a
      · by_cases b2 : a ≤ w2
        · simp [-getElem?_pos, hx, hw, hlt, hq2, b1, b2]
          refine callK_val (by simp) (l2Name_c k f1) rfl ?_
          by_cases g1 : nameOk k = true
          · simp [-getElem?_pos, hx, hw, hlt, hq2, b1, b2, g1]
            refine callK_val (by simp) (l2Props_c p f3 f4) rfl ?_
            by_cases g2 : PropsOk p
            · simp [-getElem?_pos, hx, hw, hlt, hq2, b1, b2, g1, g2]
              refine callK_val (by simp) (l2Node_c ⟨l, es, nn, ne⟩ hl b) rfl ?_
              by_cases g3 : posOf Nd.id b l < 0
              · simp [-getElem?_pos, hx, hw, hlt, hq2, b1, b2, g1, g2, g3]
                exact fin_val rfl (by simp [no (fun h => by have := h.2.2.2.1; omega)]) (by simp)
              · simp [-getElem?_pos, hx, hw, hlt, hq2, b1, b2, g1, g2, g3]
                refine callK_val (by simp) (l2Node_c ⟨l, es, nn, ne⟩ hl c) rfl ?_
                by_cases g4 : posOf Nd.id c l < 0
                · simp [-getElem?_pos, hx, hw, hlt, hq2, b1, b2, g1, g2, g3, g4]
                  exact fin_val rfl (by simp [no (fun h => by have := h.2.2.2.2; omega)]) (by simp)
                · by_cases h0 : 0 < i
                  · obtain ⟨⟨a', k', b', c', p'⟩, hy⟩ : ∃ y, es[i - 1]? = some y := ⟨_, List.getElem?_eq_getElem (by omega)⟩
                    have hb := wback h0 (by omega)
                    by_cases hlt2 : a ≤ a'
                    · simp [-getElem?_pos, hx, hw, hlt, hq2, b1, b2, g1, g2, g3, g4, h0, hb, hy, hlt2]
                      exact fin_val rfl (by simp [no (fun h => by have := h.1.2.2 _ h0 hy; simp only at this; omega)]) (by simp)
                    · simp [-getElem?_pos, hx, hw, hlt, hq2, b1, b2, g1, g2, g3, g4, h0, hb, hy, hlt2]
                      refine ⟨hv.succ hx ⟨⟨b1, b2, fun z _ hz => ?_⟩, g1, g2, by simp only; omega, by simp only; omega⟩, Wk.to1 rfl (by simp) (by simp) (by simp) (by simp) (by omega)⟩
                      rw [hy] at hz; simp at hz; subst hz; simp only; omega
                  · obtain rfl : i = 0 := by omega
                    simp [-getElem?_pos, hx, hw, hlt, hq2, b1, b2, g1, g2, g3, g4]
                    exact ⟨hv.succ hx ⟨⟨b1, b2, fun z h _ => by omega⟩, g1, g2, by simp only; omega, by simp only; omega⟩, Wk.to1 rfl (by simp) (by simp) (by simp) (by simp) (by omega)⟩
            · simp [-getElem?_pos, hx, hw, hlt, hq2, b1, b2, g1, g2]
              exact fin_val rfl (by simp [no (fun h => g2 h.2.2.1)]) (by simp)
          · simp [-getElem?_pos, hx, hw, hlt, hq2, b1, b2, g1]
            exact fin_val rfl (by simp [no (fun h => g1 h.2.1)]) (by simp)
        · simp [-getElem?_pos, hx, hw, hlt, hq2, b1, b2]
          exact fin_val rfl (by simp [no (fun h => b2 h.1.2.1)]) (by simp)
      · simp [-getElem?_pos, hx, hw, hlt, hq2, b1]
        exact fin_val rfl (by simp [no (fun h => b1 h.1.1)]) (by simp)
    · have hnlt : ¬ i < es.length := by omega
      have heok := hv.all hge
      have all : (0 ≤ nn ∧ nn ≤ 1000000000) → (0 ≤ ne ∧ ne ≤ 1000000000) → l.length ≤ 12 → es.length ≤ 16 → GOk ⟨l, es, nn, ne⟩ := by
        intro c1 c2 c3 c4
        have e1 : w1 = nn - 1 := by rw [← hq1]; exact wrap64 (by omega) (by omega)
        have e2 : w2 = ne - 1 := by rw [← hq2]; exact wrap64 (by omega) (by omega)
        refine ⟨c1, c2, c3, c4, fun i x hx => ?_, fun i x hx => ?_, fun x hx => ?_, fun x hx => ?_⟩
        · obtain ⟨⟨d1, d2, d3⟩, _⟩ := hnok i x hx; exact ⟨d1, by simp only; omega, d3⟩
        · obtain ⟨⟨d1, d2, d3⟩, _⟩ := heok i x hx; exact ⟨d1, by simp only; omega, d3⟩
        · obtain ⟨j, hj⟩ := List.mem_iff_getElem?.1 hx; exact (hnok j x hj).2
        · obtain ⟨j, hj⟩ := List.mem_iff_getElem?.1 hx; exact (heok j x hj).2
      by_cases c3 : (l.length : Int) ≤ 12
      · by_cases c4 : (es.length : Int) ≤ 16
        · simp [hnlt, c3, c4]
          refine callK_val (by simp) (l1In_c nn 0 1000000000) rfl ?_
          by_cases c1 : 0 ≤ nn ∧ nn ≤ 1000000000
          · simp [hnlt, c3, c4, c1.1, c1.2]
            refine callK_val (by simp) (l1In_c ne 0 1000000000) rfl ?_
            by_cases c2 : 0 ≤ ne ∧ ne ≤ 1000000000
            · simp [hnlt, c3, c4, c1.1, c1.2, c2.1, c2.2]
              exact fin_val rfl (by simp [all c1 c2 (by omega) (by omega)]) (by simp)
            · have c2' : (decide (0 ≤ ne) && decide (ne ≤ 1000000000)) = false := by
                simp only [Bool.and_eq_false_iff, decide_eq_false_iff_not]; omega
              simp [hnlt, c3, c4, c1.1, c1.2, c2']
              exact fin_val rfl (by simp [show ¬ GOk ⟨l, es, nn, ne⟩ from fun h => c2 h.ne]) (by simp)
          · have c1' : (decide (0 ≤ nn) && decide (nn ≤ 1000000000)) = false := by
              simp only [Bool.and_eq_false_iff, decide_eq_false_iff_not]; omega
            simp [hnlt, c3, c4, c1']
            exact fin_val rfl (by simp [show ¬ GOk ⟨l, es, nn, ne⟩ from fun h => c1 h.nn]) (by simp)
        · simp [hnlt, c3, c4]
          exact fin_val rfl (by simp [show ¬ GOk ⟨l, es, nn, ne⟩ from fun h => by have := h.el; simp only at this; omega]) (by simp)
      · simp [hnlt, c3]
        exact fin_val rfl (by simp [show ¬ GOk ⟨l, es, nn, ne⟩ from fun h => by have := h.nl; simp only at this; omega]) (by simp)
end Go.Proofs.Ytehdfbhfbidadaa.V
/- Arguments that came in: rows; a law on trees is a law of the program. -/
namespace Go.Proofs.Ytehdfbhfbidadaa.V
open Go Go.RowKit
set_option linter.unusedVariables false
set_option linter.unusedSimpArgs false
theorem rows_list {α : Type} {f : α → List T} {p : α → Prop} : ∀ {rows : List (List T)}, (∀ r ∈ rows, ∃ a, r = f a ∧ p a) → ∃ l : List α, rows = l.map f ∧ ∀ a ∈ l, p a
  | [], h => ⟨[], rfl, by simp⟩
  | r :: rows, h => by
    obtain ⟨a, ha, hp⟩ := h r (by simp)
    obtain ⟨l, hl, hq⟩ := rows_list (rows := rows) fun r hr => h r (List.mem_cons_of_mem _ hr)
    exact ⟨a :: l, by simp [ha, hl], fun b hb => by
      rcases List.mem_cons.1 hb with rfl | hb
      · exact hp
      · exact hq b hb⟩
theorem CI_agg {W : World} {O : Nat → Prop} {ts : List T} {cs : Array Value} (h : CIs W O ts cs.toList) : CI W O (.agg ts) (.agg cs) := by
  simp only [CI]; exact ⟨cs.toList, by simp, h⟩
theorem CI_1 {W : World} {O : Nat → Prop} {t : T} {v : Value} (h : CIs W O [t] [v]) : CI W O t v := by
  simp only [CIs, List.cons.injEq] at h
  obtain ⟨v', r, ⟨rfl, _⟩, h1, _⟩ := h
  exact h1
theorem CIs_nil {W : World} {O : Nat → Prop} : CIs W O [] [] := by simp only [CIs]
theorem CIs_cons {W : World} {O : Nat → Prop} {t : T} {ts : List T} {v : Value} {vs : List Value} (h : CI W O t v) (h2 : CIs W O ts vs) : CIs W O (t :: ts) (v :: vs) := by
  simp only [CIs]; exact ⟨v, vs, rfl, h, h2⟩
/-- A law on trees is a law of the program. -/
theorem law_run {f : Nat} {args : List T} {vs : List Value} {W : World} (h : Rv Try.prog f args (.b true)) (hc : CIs W (· < W.heap.size) args vs) : Calls Try.prog f vs.toArray W fun e w' => e = .returned (.bool true) ∧ Below W.heap.size W w' := by
  have hk : Ks W (· < W.heap.size) args vs [] := by
    have : ∀ {ts : List T} {vs : List Value}, CIs W (· < W.heap.size) ts vs → Ks W (· < W.heap.size) ts vs [] := by
      intro ts
      induction ts with
      | nil => intro vs h; simp only [CIs] at h; simp [Ks, h]
      | cons t ts ih =>
        intro vs h
        simp only [CIs] at h; simp only [Ks]
        obtain ⟨v, r, e, h1, h2⟩ := h
        exact ⟨v, r, [], [], e, rfl, K_of_CI h1, ih h2⟩
    exact this hc
  refine (h W vs (· < W.heap.size) [] (fun _ h => h) hk (by simp) (by simp)).mono ?_
  rintro e w' ⟨v, O', Fr, Fo, rfl, h1, h2, h3, hr, ho, hnd, hm, hkeep⟩
  simp only [K, CI] at hr
  refine ⟨by rw [hr.1], hkeep.os, hkeep.tape, hkeep.output, hkeep.size, fun k hk => hkeep.block k hk (by simp)⟩
end Go.Proofs.Ytehdfbhfbidadaa.V
/- Codes that came in, as rows of bytes. -/
namespace Go.Proofs.Ytehdfbhfbidadaa.V
open Go Go.RowKit
set_option linter.unusedVariables false
set_option linter.unusedSimpArgs false
end Go.Proofs.Ytehdfbhfbidadaa.V
/- slices.Insert: its contract. -/
namespace Go.Proofs.Ytehdfbhfbidadaa.V
open Go Go.Shelf Go.RowKit Go.Lib Go.Proofs
set_option linter.unusedVariables false
set_option linter.unusedSimpArgs false
set_option maxHeartbeats 4000000
section
variable {w : World} {O : Nat → Prop}
theorem Kr_append : ∀ {xs ys : List (List T)} {vs : List Value} {F : List Nat}, Kr w O (xs ++ ys) vs F ↔ ∃ v1 v2 F1 F2, vs = v1 ++ v2 ∧ F = F1 ++ F2 ∧ Kr w O xs v1 F1 ∧ Kr w O ys v2 F2
  | [], ys, vs, F => by
    simp only [List.nil_append, Kr]
    constructor
    · intro h; exact ⟨[], vs, [], F, rfl, rfl, ⟨rfl, rfl⟩, h⟩
    · rintro ⟨v1, v2, F1, F2, rfl, rfl, ⟨rfl, rfl⟩, h⟩; exact h
  | x :: xs, ys, vs, F => by
    simp only [List.cons_append, Kr]
    constructor
    · rintro ⟨a, b, F1, F2, rfl, rfl, h1, h2⟩
      obtain ⟨v1, v2, G1, G2, rfl, rfl, h3, h4⟩ := Kr_append.1 h2
      exact ⟨a ++ v1, v2, F1 ++ G1, G2, by simp, by simp, ⟨a, v1, F1, G1, rfl, rfl, h1, h3⟩, h4⟩
    · rintro ⟨v1, v2, F1, F2, rfl, rfl, ⟨a, b, G1, G2, rfl, rfl, h1, h2⟩, h3⟩
      exact ⟨a, b ++ v2, G1, G2 ++ F2, by simp, by simp, h1, Kr_append.2 ⟨b, v2, G2, F2, rfl, rfl, h2, h3⟩⟩
theorem Kr_len {sz : Nat} : ∀ {rs : List (List T)} {vs : List Value} {F : List Nat}, (∀ r ∈ rs, r.length = sz) → Kr w O rs vs F → vs.length = rs.length * sz
  | [], vs, F, _, h => by simp only [Kr] at h; simp [h.1]
  | r :: rs, vs, F, hs, h => by
    simp only [Kr] at h
    obtain ⟨v1, v2, F1, F2, rfl, rfl, h1, h2⟩ := h
    have := Kr_len (fun r hr => hs r (by simp [hr])) h2
    rw [List.length_append, Ks.len h1, hs r (by simp), this, List.length_cons, Nat.add_mul]; omega
/-- What takes one cell. -/
def T.on : T → Bool
  | .b _ | .i _ _ | .s _ | .own _ _ | .imm _ => true
  | _ => false
theorem ow_on {cs : List T} (h : cs.all T.ow = true) : cs.all T.on = true := by
  rw [List.all_eq_true] at h ⊢
  intro t ht
  have := h t ht
  cases t <;> simp [T.ow] at this <;> rfl
theorem K_one {t : T} {v : Value} {F : List Nat} (ht : t.on = true) (h : K w O t v F) : v.oneCell' = true := by
  cases t <;> simp [T.on] at ht
  · simp only [K, CI] at h; rw [h.1]; rfl
  · simp only [K, CI] at h; rw [h.1]; rfl
  · simp only [K, CI] at h; rw [h.1]; rfl
  · simp only [K, CI] at h
    obtain ⟨⟨a, cap, rfl, _⟩, _⟩ := h; rfl
  · simp only [K] at h
    rcases h with ⟨_, ⟨q, rfl⟩, _⟩ | ⟨b, o, cap, c, e, cs, F', rfl, _⟩ <;> rfl
theorem Ks_one : ∀ {ts : List T} {vs : List Value} {F : List Nat}, ts.all T.on = true → Ks w O ts vs F → ∀ v ∈ vs, v.oneCell' = true
  | [], vs, F, _, h => by simp only [Ks] at h; simp [h.1]
  | t :: ts, vs, F, ht, h => by
    simp only [List.all_cons, Bool.and_eq_true] at ht
    simp only [Ks] at h
    obtain ⟨v, r, F1, F2, rfl, rfl, h1, h2⟩ := h
    intro x hx
    rcases List.mem_cons.1 hx with rfl | hx
    · exact K_one ht.1 h1
    · exact Ks_one ht.2 h2 x hx
theorem Kr_one : ∀ {rs : List (List T)} {vs : List Value} {F : List Nat}, (∀ r ∈ rs, r.all T.on = true) → Kr w O rs vs F → ∀ v ∈ vs, v.oneCell' = true
  | [], vs, F, _, h => by simp only [Kr] at h; simp [h.1]
  | r :: rs, vs, F, hs, h => by
    simp only [Kr] at h
    obtain ⟨v1, v2, F1, F2, rfl, rfl, h1, h2⟩ := h
    intro x hx
    rcases List.mem_append.1 hx with hx | hx
    · exact Ks_one (hs r (by simp)) h1 x hx
    · exact Kr_one (fun r hr => hs r (by simp [hr])) h2 x hx
end
/-- Cells put at a place. -/
def putC (c : Array Value) (p : Nat) (l : List Value) : Array Value := (c.toList.take p ++ l ++ c.toList.drop (p + l.length)).toArray
theorem putC_size {c : Array Value} {p : Nat} {l : List Value} (h : p + l.length ≤ c.size) : (putC c p l).size = c.size := by
  simp [putC]; omega
theorem putC_get {c : Array Value} {p : Nat} {l : List Value} (h : p + l.length ≤ c.size) (k : Nat) : (putC c p l)[k]? = if p ≤ k ∧ k < p + l.length then l[k - p]? else c[k]? := by
  have hp : (c.toList.take p).length = p := by simp; omega
  unfold putC
  rw [List.getElem?_toArray]
  by_cases h1 : k < p
  · rw [if_neg (by omega), List.append_assoc, List.getElem?_append_left (by omega), List.getElem?_take, if_pos h1]; simp
  · by_cases h2 : k < p + l.length
    · rw [if_pos ⟨by omega, h2⟩, List.append_assoc, List.getElem?_append_right (by omega), hp, List.getElem?_append_left (by omega)]
    · rw [if_neg (by omega), List.getElem?_append_right (by simp; omega), List.getElem?_drop]
      simp only [List.length_append, hp]
      rw [show p + l.length + (k - (p + l.length)) = k by omega]; simp
theorem heap_setRow_ne (w : World) {b k : Nat} (c : Array Value) (h : k ≠ b) : (w.setRow b c).heap[k]? = w.heap[k]? := by
  simp only [World.setRow, Array.getElem?_modify]
  rw [if_neg (fun h' => h h'.symm)]
section
variable {P : Program}
/-- What the run of the function must show, for a kind of rows. -/
structure InsRuns (P : Program) (f sz : Nat) (tS tE tI : TypeId) : Prop where
  shift : ∀ (b off n c i vb voff vc : Nat) (w w1 w2 : World), i < n → n + 1 ≤ c → n + 1 ≤ 9223372036854775807 → vb ≠ b → (∃ e k, w.shape? vb = some (e, k)) → (∃ e k, w.shape? b = some (e, k) ∧ k ≠ 0) → (∀ k, w.frozen? ⟨vb, k, none⟩ = false) →
    (∀ ty dc sc, (Builtin.copy_ #[tS, tS] ty #[.slice (some ⟨b, off + (i + 1) * sz, none⟩) (n - i) dc, .slice (some ⟨b, off + i * sz, none⟩) (n + 1 - i) sc]).run P w.drew = .ok (.int .i64 ((n - i : Nat) : Int)) w1) →
    (∀ ty dc, (Builtin.copy_ #[tS, tS] ty #[.slice (some ⟨b, off + i * sz, none⟩) (n + 1 - i) dc, .slice (some ⟨vb, voff, none⟩) 1 vc]).run P w1 = .ok (.int .i64 ((1 : Nat) : Int)) w2) →
    Calls P f #[.slice (some ⟨b, off, none⟩) n c, .int .i64 i, .slice (some ⟨vb, voff, none⟩) 1 vc] w fun e w' => e = .returned (.slice (some ⟨b, off, none⟩) (n + 1) c) ∧ w' = w2
  grow : ∀ (b off n c i vb voff vc N G : Nat) (w w1 w2 w3 : World), i < n → n ≤ c → c < n + 1 → n + 1 ≤ 9223372036854775807 → n + 1 ≤ G →
    (∀ ty, (Builtin.append_ #[tS, tI] ty #[.slice (some ⟨b, off, none⟩) i c, .int .i64 ((n + 1 - i : Nat) : Int)]).run P w = .ok (.slice (some ⟨N, 0, none⟩) (n + 1) G) w1) →
    (∀ ty dc, (Builtin.copy_ #[tS, tS] ty #[.slice (some ⟨N, i * sz, none⟩) (n + 1 - i) dc, .slice (some ⟨vb, voff, none⟩) 1 vc]).run P w1 = .ok (.int .i64 ((1 : Nat) : Int)) w2) →
    (∀ ty dc sc, (Builtin.copy_ #[tS, tS] ty #[.slice (some ⟨N, (i + 1) * sz, none⟩) (n - i) dc, .slice (some ⟨b, off + i * sz, none⟩) (n - i) sc]).run P w2.drew = .ok (.int .i64 ((n - i : Nat) : Int)) w3) →
    Calls P f #[.slice (some ⟨b, off, none⟩) n c, .int .i64 i, .slice (some ⟨vb, voff, none⟩) 1 vc] w fun e w' => e = .returned (.slice (some ⟨N, 0, none⟩) (n + 1) G) ∧ w' = w3
  tail : ∀ (base : Option Addr) (n c vb voff vc : Nat) (w w1 : World) (res : Value), n ≤ c → (base = none → n = 0) →
    (∀ ty, (Builtin.append_ #[tS, tS] ty #[.slice base n c, .slice (some ⟨vb, voff, none⟩) 1 vc]).run P w = .ok res w1) →
    Calls P f #[.slice base n c, .int .i64 n, .slice (some ⟨vb, voff, none⟩) 1 vc] w fun e w' => e = .returned res ∧ w' = w1
theorem shape_of {w : World} {b : Nat} {c : Array Value} {e : TypeId} {f : Nat × Nat} (h : w.heap[b]? = some (.cells c e f)) : w.shape? b = some (e, c.size) := by
  simp [World.shape?, h]
theorem frozen_of {w : World} {b : Nat} {c : Array Value} {e : TypeId} (h : w.heap[b]? = some (.cells c e (0, 0))) (k : Nat) : w.frozen? ⟨b, k, none⟩ = false := by
  simp [World.frozen?, h]
theorem drew_heap (w : World) : w.drew.heap = w.heap := rfl
theorem zeros_size (z : Array Value) (n : Nat) : (Builtin.zeroCells z n).size = n * z.size := by
  simp [Builtin.zeroCells]
theorem ins_ret {f sz : Nat} {tS tE tI : TypeId} {I : TypeInfo} {z : Value} (h0 : 0 < sz) (ht : P.underlying tS = some (.slice tE)) (htI : P.underlying tI = some (.int .i64)) (hi : P.info? tE = some I) (hz : I.zero = some z) (hsz : I.size = sz) (hzs : z.cells.size = sz) (hby : I.bytes ≤ 1024)
    (hr : InsRuns P f sz tS tE tI) (rows : List (List T)) (row : List T) (i : Nat) (hin : i < rows.length) (hlen : rows.length ≤ 2 ^ 20) (hrl : row.length = sz) (ho : ∀ r ∈ rows, r.all T.on = true) (hor : row.all T.on = true) :
    Ret P f [.own sz rows, .i .i64 (i : Int), .own sz [row]] (.own sz (rows.take i ++ row :: rows.drop i)) [.dead, .dead, .dead] := by
  intro w vs O F hO hK hnd hF
  simp only [Ks, K, CI] at hK
  obtain ⟨v1, r1, F1, F2, rfl, rfl, hv1, v2, r2, F3, F4, rfl, rfl, ⟨rfl, rfl⟩, v3, r3, F5, F6, rfl, rfl, hv3, rfl, rfl⟩ := hK
  simp only [List.nil_append, List.append_nil] at hnd hF
  rcases hv1 with ⟨h, _⟩ | ⟨b, o, cap, cc, e, cs, FA, rfl, hb, hcap, hfit, hrs, rfl, hkr, hlie⟩
  · rw [h] at hin; simp at hin
  rcases hv3 with ⟨h, _⟩ | ⟨vb, vo, vcap, vcc, ve, us, FB, rfl, hvb, hvcap, hvfit, _, rfl, hks, hvlie⟩
  · simp at h
  obtain ⟨ca, cb, FX, FY, rfl, rfl, hka, hkb⟩ := Kr_append.1 (show Kr w O (rows.take i ++ rows.drop i) cs FA by rw [List.take_append_drop]; exact hkr)
  simp only [Kr] at hks
  obtain ⟨us1, us2, FU, FV, rfl, rfl, hku, rfl, rfl⟩ := hks
  simp only [List.append_nil] at *
  have hne : vb ≠ b := by
    rintro rfl
    simp at hnd
  have la : ca.length = i * sz := by
    rw [Kr_len (fun r hr => hrs r (List.mem_of_mem_take hr)) hka, List.length_take, Nat.min_eq_left (by omega)]
  have lb : cb.length = (rows.length - i) * sz := by
    rw [Kr_len (fun r hr => hrs r (List.mem_of_mem_drop hr)) hkb, List.length_drop]
  have lu : us1.length = sz := by rw [Ks.len hku, hrl]
  have onea := Kr_one (fun r hr => ho r (List.mem_of_mem_take hr)) hka
  have oneb := Kr_one (fun r hr => ho r (List.mem_of_mem_drop hr)) hkb
  have oneu := Ks_one hor hku
  have hcb : ∀ (j : Nat) (u : Value), cb[j]? = some u → cc[o + i * sz + j]? = some u := by
    intro j u hj
    have := hlie (ca.length + j) u (by rw [List.getElem?_append_right (by omega), Nat.add_sub_cancel_left]; exact hj)
    rw [la, ← Nat.add_assoc] at this; exact this
  have hca : ∀ (j : Nat) (u : Value), ca[j]? = some u → cc[o + j]? = some u := fun j u hj => hlie j u (by rw [List.getElem?_append_left (getElem?_len hj)]; exact hj)
  have hvu : ∀ (j : Nat) (u : Value), us1[j]? = some u → vcc[vo + j]? = some u := fun j u hj => hvlie j u (by simpa using hj)
  clear hlie hvlie
  have hS : (i + 1) * sz = i * sz + sz := Nat.succ_mul i sz
  have hN : rows.length * sz = i * sz + cb.length := by rw [lb, ← Nat.add_mul]; congr 1; omega
  have hlb' : cb.length = (rows.length - i) * I.size := by rw [hsz]; exact lb
  have hlu' : us1.length = 1 * I.size := by rw [hsz, lu, Nat.one_mul]
  have hvs : vo + sz ≤ vcc.size := by
    have : 1 * sz ≤ vcap * sz := Nat.mul_le_mul_right _ (by simpa using hvcap)
    omega
  have hperm : (b :: (FX ++ FY) ++ (vb :: FU)).Perm (vb :: b :: (FX ++ (FU ++ FY))) := by
    refine List.perm_middle.trans (List.Perm.cons _ ?_)
    simp only [List.cons_append, List.append_assoc]
    exact List.Perm.cons _ (List.Perm.append_left _ List.perm_append_comm)
  have hnd2 := (hperm.nodup_iff).1 hnd
  have hFb := hF b (by simp)
  have hFv := hF vb (by simp)
  have hrest : ∀ x ∈ FX ++ (FU ++ FY), ¬ O x ∧ x < w.heap.size ∧ x ≠ b := by
    intro x hx
    have h1 := hF x (hperm.mem_iff.2 (by simp only [List.mem_cons]; exact .inr (.inr hx)))
    refine ⟨h1.1, h1.2, ?_⟩
    rintro rfl
    have := (List.nodup_cons.1 (List.nodup_cons.1 hnd2).2).1
    exact this hx
  have hlen3 : (rows.take i ++ row :: rows.drop i).length = rows.length + 1 := by simp; omega
  have hrs3 : ∀ r ∈ rows.take i ++ row :: rows.drop i, r.length = sz := by
    intro r hr
    simp only [List.mem_append, List.mem_cons] at hr
    rcases hr with h | rfl | h
    · exact hrs r (List.mem_of_mem_take h)
    · exact hrl
    · exact hrs r (List.mem_of_mem_drop h)
  have hkr3 : ∀ w' : World, (∀ x, O x → w'.heap[x]? = w.heap[x]?) → (∀ x ∈ FX ++ (FU ++ FY), w'.heap[x]? = w.heap[x]?) → Kr w' O (rows.take i ++ row :: rows.drop i) (ca ++ (us1 ++ cb)) (FX ++ (FU ++ FY)) := by
    intro w' h1 h2
    refine Kr_append.2 ⟨ca, us1 ++ cb, FX, FU ++ FY, rfl, rfl, hka.cong (fun _ h => h) h1 (fun x hx => h2 x (by simp [hx])), ?_⟩
    simp only [Kr]
    exact ⟨us1, cb, FU, FY, rfl, rfl, hku.cong (fun _ h => h) h1 (fun x hx => h2 x (by simp [hx])), hkb.cong (fun _ h => h) h1 (fun x hx => h2 x (by simp [hx]))⟩
  have hgone : ∀ w' : World, Ks w' O [T.dead, T.dead, T.dead] [.slice (some ⟨b, o, none⟩) rows.length cap, .int .i64 (i : Int), .slice (some ⟨vb, vo, none⟩) 1 vcap] [] := fun w' => Ks_gone (w := w') (O := O) [(), (), ()] _ rfl
  by_cases hroom : rows.length + 1 ≤ cap
  · have hbig : o + (i * sz + cb.length + sz) ≤ cc.size := by
      have h1 : (rows.length + 1) * sz ≤ cap * sz := Nat.mul_le_mul_right _ hroom
      rw [Nat.succ_mul] at h1; omega
    obtain ⟨c1, hc1⟩ : ∃ c1, c1 = putC cc (o + (i + 1) * sz) cb := ⟨_, rfl⟩
    have s1 : c1.size = cc.size := by rw [hc1]; exact putC_size (by omega)
    obtain ⟨c2, hc2⟩ : ∃ c2, c2 = putC c1 (o + i * sz) us1 := ⟨_, rfl⟩
    have s2 : c2.size = cc.size := by rw [hc2, putC_size (by omega), s1]
    have hb0 : w.drew.heap[b]? = some (.cells cc e (0, 0)) := hb
    have hb1 : (w.drew.setRow b c1).heap[b]? = some (.cells c1 e (0, 0)) := setRow_heap _ _ _ _ _ _ hb0
    have hb2 : ((w.drew.setRow b c1).setRow b c2).heap[b]? = some (.cells c2 e (0, 0)) := setRow_heap _ _ _ _ _ _ hb1
    have hoth : ∀ x, x ≠ b → ((w.drew.setRow b c1).setRow b c2).heap[x]? = w.heap[x]? := fun x hx => by
      rw [heap_setRow_ne _ _ hx, heap_setRow_ne _ _ hx]; rfl
    have hv1 : (w.drew.setRow b c1).heap[vb]? = some (.cells vcc ve (0, 0)) := by rw [heap_setRow_ne _ _ hne]; exact hvb
    refine (hr.shift b o rows.length cap i vb vo vcap w (w.drew.setRow b c1) ((w.drew.setRow b c1).setRow b c2) hin hroom (by omega) hne ⟨_, _, shape_of hvb⟩ ⟨_, _, shape_of hb, by omega⟩ (fun k => frozen_of hvb k) ?_ ?_).mono ?_
    · intro ty dc sc
      rw [hc1]
      refine run_copyR ht hi (w := w.drew) (k := rows.length - i) (news := cb) (by omega) hlb' (.inl ⟨b, o + i * sz, rfl, .inr (Lies.of_block hb0 hcb)⟩) hb0 (by omega) oneb
    · intro ty dc
      rw [hc2]
      refine run_copyR ht hi (w := w.drew.setRow b c1) (k := 1) (news := us1) (by omega) hlu' (.inl ⟨vb, vo, rfl, .inr (Lies.of_block hv1 hvu)⟩) hb1 (by omega) oneu
    · rintro ex w' ⟨rfl, rfl⟩
      have kp : Keep w (b :: (FX ++ FY) ++ (vb :: FU)) ((w.drew.setRow b c1).setRow b c2) :=
        (((Keep.refl w _).trans (Keep.grown (w := w) (w' := w.drew) rfl rfl rfl (Nat.le_refl _) (fun _ _ => rfl)) (by simp)).trans (Keep.row hb0 s1) (by simp)).trans (Keep.row hb1 (by rw [s2, s1])) (by simp)
      refine ⟨_, O, b :: (FX ++ (FU ++ FY)), [], rfl, fun _ h => h, fun x hx => Nat.lt_of_lt_of_le (hO x hx) kp.size, fun x hx => .inl hx, ?_, hgone _, by rw [List.append_nil]; exact (List.nodup_cons.1 hnd2).2, ?_, kp⟩
      · simp only [K]
        refine .inr ⟨b, o, cap, c2, e, ca ++ (us1 ++ cb), FX ++ (FU ++ FY), by rw [hlen3], hb2, by rw [hlen3]; exact hroom, by rw [s2]; exact hfit, hrs3, rfl, ?_, ?_⟩
        · refine hkr3 _ (fun x hx => hoth x ?_) (fun x hx => hoth x (hrest x hx).2.2)
          rintro rfl; exact hFb.1 hx
        · intro j u hj
          rw [hc2, putC_get (by omega), hc1, putC_get (by omega)]
          by_cases j1 : j < i * sz
          · rw [if_neg (by omega), if_neg (by omega)]
            rw [List.getElem?_append_left (by omega)] at hj
            exact hca j u hj
          · rw [List.getElem?_append_right (by omega), la] at hj
            by_cases j2 : j - i * sz < sz
            · rw [if_pos (by omega)]
              rw [List.getElem?_append_left (by omega)] at hj
              rw [← hj]; congr 1; omega
            · rw [List.getElem?_append_right (by omega), lu] at hj
              have := getElem?_len hj
              rw [if_neg (by omega), if_pos (by omega), ← hj]; congr 1; omega
      · intro x hx
        simp only [List.append_nil, List.mem_cons] at hx
        rcases hx with rfl | hx
        · exact ⟨hFb.1, Nat.lt_of_lt_of_le hFb.2 kp.size, .inr (by simp)⟩
        · have h1 := hrest x hx
          exact ⟨h1.1, Nat.lt_of_lt_of_le h1.2.1 kp.size, .inr (hperm.mem_iff.2 (by simp only [List.mem_cons]; exact .inr (.inr hx)))⟩
  · have hby2 : (rows.length + 1) * I.bytes ≤ 140737488355328 := by
      have h1 : (rows.length + 1) * I.bytes ≤ (2 ^ 20 + 1) * 1024 := Nat.mul_le_mul (by omega) hby
      omega
    obtain ⟨N, hN0⟩ : ∃ N, N = w.heap.size := ⟨_, rfl⟩
    obtain ⟨G, hG⟩ : ∃ G, G = grownCap w (rows.length + 1) cap tE := ⟨_, rfl⟩
    have hGe : rows.length + 1 ≤ G := by rw [hG]; exact grownCap_ge w _ _ _
    obtain ⟨R0, hR0⟩ : ∃ R0, R0 = ca.toArray ++ Builtin.zeroCells z.cells (rows.length + 1 - i) ++ Builtin.zeroCells z.cells (G - (rows.length + 1)) := ⟨_, rfl⟩
    have hR0s : R0.size = G * sz := by
      rw [hR0, Array.size_append, Array.size_append, zeros_size, zeros_size, hzs, List.size_toArray, la, ← Nat.add_mul, ← Nat.add_mul]
      congr 1; omega
    have hbig : i * sz + cb.length + sz ≤ R0.size := by
      have h1 : (rows.length + 1) * sz ≤ G * sz := Nat.mul_le_mul_right _ hGe
      rw [Nat.succ_mul] at h1; omega
    obtain ⟨W1, hW1⟩ : ∃ W1, W1 = w.drew.alloc (.cells R0 tE) := ⟨_, rfl⟩
    have hold : (Builtin.firstCells I.size i (.slice (some ⟨b, o, none⟩) i cap)).run P w.drew = .ok ca.toArray w.drew :=
      run_src (P := P) (w := w) (size := I.size) (m := i) (c := cap) (by rw [hsz]; exact la) (.inl ⟨b, o, rfl, .inr (Lies.of_block hb hca)⟩) rfl
    have hik : i + (rows.length + 1 - i) = rows.length + 1 := by omega
    have hkb48 : (rows.length + 1 - i) * I.bytes ≤ 281474976710656 := by
      have h1 : (rows.length + 1 - i) * I.bytes ≤ (rows.length + 1) * I.bytes := Nat.mul_le_mul_right _ (by omega)
      omega
    have hrz : ∀ ty, (Builtin.append_ #[tS, tI] ty #[.slice (some ⟨b, o, none⟩) i cap, .int .i64 ((rows.length + 1 - i : Nat) : Int)]).run P w = .ok (.slice (some ⟨N, 0, none⟩) (rows.length + 1) G) W1 := fun ty => by
      have h := Lib.run_append_grow_zeros w tS tI ty tE I z .i64 .i64 ht htI hi hz (some ⟨b, o, none⟩) i cap ca hold (rows.length + 1 - i) (by omega) (by omega) (by omega) (by omega) hkb48 (by rw [hik]; exact growslice_fits (by omega) hby2)
      rw [hik] at h
      rw [h, hW1, hR0, hG, hN0]
    have hN1 : W1.heap[N]? = some (.cells R0 tE (0, 0)) := by rw [hW1, hN0]; exact Array.getElem?_push_size
    have hold1 : ∀ x, x < w.heap.size → W1.heap[x]? = w.heap[x]? := fun x hx => by rw [hW1]; exact heap_push_old (w := w.drew) hx
    obtain ⟨c1, hc1⟩ : ∃ c1, c1 = putC R0 (i * sz) us1 := ⟨_, rfl⟩
    have s1 : c1.size = R0.size := by rw [hc1]; exact putC_size (by omega)
    obtain ⟨c2, hc2⟩ : ∃ c2, c2 = putC c1 ((i + 1) * sz) cb := ⟨_, rfl⟩
    have s2 : c2.size = R0.size := by rw [hc2, putC_size (by omega), s1]
    have hN2 : (W1.setRow N c1).heap[N]? = some (.cells c1 tE (0, 0)) := setRow_heap _ _ _ _ _ _ hN1
    have hN2d : (W1.setRow N c1).drew.heap[N]? = some (.cells c1 tE (0, 0)) := hN2
    have hN3 : ((W1.setRow N c1).drew.setRow N c2).heap[N]? = some (.cells c2 tE (0, 0)) := setRow_heap _ _ _ _ _ _ hN2d
    have hoth : ∀ x, x < w.heap.size → ((W1.setRow N c1).drew.setRow N c2).heap[x]? = w.heap[x]? := fun x hx => by
      have hxN : x ≠ N := by omega
      rw [heap_setRow_ne _ _ hxN, drew_heap, heap_setRow_ne _ _ hxN]; exact hold1 x hx
    have hv1 : W1.heap[vb]? = some (.cells vcc ve (0, 0)) := by rw [hold1 _ hFv.2]; exact hvb
    have hb1 : (W1.setRow N c1).drew.heap[b]? = some (.cells cc e (0, 0)) := by
      rw [drew_heap, heap_setRow_ne _ _ (by have := hFb.2; omega), hold1 _ hFb.2]; exact hb
    refine (hr.grow b o rows.length cap i vb vo vcap N G w W1 (W1.setRow N c1) ((W1.setRow N c1).drew.setRow N c2) hin hcap (by omega) (by omega) hGe hrz ?_ ?_).mono ?_
    · intro ty dc
      rw [hc1]
      refine run_copyR ht hi (w := W1) (k := 1) (news := us1) (by omega) hlu' (.inl ⟨vb, vo, rfl, .inr (Lies.of_block hv1 hvu)⟩) hN1 (by omega) oneu
    · intro ty dc sc
      rw [hc2]
      refine run_copyR ht hi (w := (W1.setRow N c1).drew) (k := rows.length - i) (news := cb) (by omega) hlb' (.inl ⟨b, o + i * sz, rfl, .inr (Lies.of_block hb1 hcb)⟩) hN2d (by omega) oneb
    · rintro ex w' ⟨rfl, rfl⟩
      have k1 : Keep w [] W1 := by rw [hW1]; exact (Keep.grown (w := w) (w' := w.drew) rfl rfl rfl (Nat.le_refl _) (fun _ _ => rfl)).trans (Keep.alloc w.drew _) (by simp)
      have kp : Keep w (b :: (FX ++ FY) ++ (vb :: FU)) ((W1.setRow N c1).drew.setRow N c2) := by
        have hno : ∀ x ∈ [N], x < w.heap.size → x ∈ (b :: (FX ++ FY) ++ (vb :: FU)) := by
          intro x hx h; simp only [List.mem_singleton] at hx; omega
        have k2 := ((Keep.refl w (b :: (FX ++ FY) ++ (vb :: FU))).trans k1 (by simp)).trans (Keep.row hN1 s1) hno
        have k3 := k2.trans (Keep.grown (w := W1.setRow N c1) (w' := (W1.setRow N c1).drew) rfl rfl rfl (Nat.le_refl _) (fun _ _ => rfl)) (by simp)
        exact k3.trans (Keep.row hN2d (by rw [s2, s1])) hno
      refine ⟨_, O, N :: (FX ++ (FU ++ FY)), [], rfl, fun _ h => h, fun x hx => Nat.lt_of_lt_of_le (hO x hx) kp.size, fun x hx => .inl hx, ?_, hgone _, ?_, ?_, kp⟩
      · simp only [K]
        refine .inr ⟨N, 0, G, c2, tE, ca ++ (us1 ++ cb), FX ++ (FU ++ FY), by rw [hlen3], hN3, by rw [hlen3]; exact hGe, by rw [s2, hR0s]; omega, hrs3, rfl, ?_, ?_⟩
        · exact hkr3 _ (fun x hx => hoth x (hO x hx)) (fun x hx => hoth x (hrest x hx).2.1)
        · intro j u hj
          rw [Nat.zero_add, hc2, putC_get (by omega), hc1, putC_get (by omega)]
          by_cases j1 : j < i * sz
          · rw [if_neg (by omega), if_neg (by omega)]
            rw [List.getElem?_append_left (by omega)] at hj
            rw [hR0, Array.append_assoc, Array.getElem?_append_left (by simp; omega), List.getElem?_toArray]
            exact hj
          · rw [List.getElem?_append_right (by omega), la] at hj
            by_cases j2 : j - i * sz < sz
            · rw [if_neg (by omega), if_pos (by omega)]
              rw [List.getElem?_append_left (by omega)] at hj
              exact hj
            · rw [List.getElem?_append_right (by omega), lu] at hj
              have := getElem?_len hj
              rw [if_pos (by omega), ← hj]; congr 1; omega
      · rw [List.append_nil]
        refine List.nodup_cons.2 ⟨fun h => ?_, (List.nodup_cons.1 (List.nodup_cons.1 hnd2).2).2⟩
        have := (hrest N h).2.1; omega
      · intro x hx
        simp only [List.append_nil, List.mem_cons] at hx
        rcases hx with rfl | hx
        · exact ⟨fun h => by have := hO _ h; omega, lt_of_heap hN3, .inl (by omega)⟩
        · have h1 := hrest x hx
          exact ⟨h1.1, Nat.lt_of_lt_of_le h1.2.1 kp.size, .inr (hperm.mem_iff.2 (by simp only [List.mem_cons]; exact .inr (.inr hx)))⟩
theorem ins_tail {f sz : Nat} {tS tE tI : TypeId} {I : TypeInfo} {z : Value} (h0 : 0 < sz) (ht : P.underlying tS = some (.slice tE)) (hi : P.info? tE = some I) (hz : I.zero = some z) (hsz : I.size = sz) (hzs : z.cells.size = sz) (hby : I.bytes ≤ 1024)
    (hr : InsRuns P f sz tS tE tI) (rows : List (List T)) (row : List T) (hlen : rows.length ≤ 2 ^ 20) (hrl : row.length = sz) (hor : row.all T.on = true) :
    Ret P f [.own sz rows, .i .i64 (rows.length : Int), .own sz [row]] (.own sz (rows ++ [row])) [.dead, .dead, .dead] := by
  intro w vs O F hO hK hnd hF
  simp only [Ks, K, CI] at hK
  obtain ⟨v1, r1, F1, F2, rfl, rfl, hv1, v2, r2, F3, F4, rfl, rfl, ⟨rfl, rfl⟩, v3, r3, F5, F6, rfl, rfl, hv3, rfl, rfl⟩ := hK
  simp only [List.nil_append, List.append_nil] at hnd hF
  rcases hv3 with ⟨h, _⟩ | ⟨vb, vo, vcap, vcc, ve, us, FB, rfl, hvb, hvcap, hvfit, _, rfl, hks, hvlie⟩
  · simp at h
  simp only [Kr] at hks
  obtain ⟨us1, us2, FU, FV, rfl, rfl, hku, rfl, rfl⟩ := hks
  simp only [List.append_nil] at *
  have lu : us1.length = sz := by rw [Ks.len hku, hrl]
  have oneu := Ks_one hor hku
  have hvu : ∀ (j : Nat) (u : Value), us1[j]? = some u → vcc[vo + j]? = some u := fun j u hj => hvlie j u (by simpa using hj)
  have hlu' : us1.length = 1 * I.size := by rw [hsz, lu, Nat.one_mul]
  have hFv := hF vb (by simp)
  have hgone : ∀ (w' : World) (v : Value), Ks w' O [T.dead, T.dead, T.dead] [v, .int .i64 (rows.length : Int), .slice (some ⟨vb, vo, none⟩) 1 vcap] [] := fun w' v => Ks_gone (w := w') (O := O) [(), (), ()] _ rfl
  have hby2 : (rows.length + 1) * I.bytes ≤ 140737488355328 := by
    have h1 : (rows.length + 1) * I.bytes ≤ (2 ^ 20 + 1) * 1024 := Nat.mul_le_mul (by omega) hby
    omega
  -- what it is in a form that serves both kinds of slices
  obtain ⟨base, cap, cs, FA, e1, hcap, hnil, hlc, hkr, hrs, hFA, hlies⟩ : ∃ (base : Option Addr) (cap : Nat) (cs : List Value) (FA : List Nat), v1 = .slice base rows.length cap ∧ rows.length ≤ cap ∧ (base = none → rows.length = 0) ∧ cs.length = rows.length * sz ∧ Kr w O rows cs FA ∧ (∀ r ∈ rows, r.length = sz) ∧ (∀ x ∈ FA, x ∈ F1) ∧
      ((rows.length = 0 ∧ cap = 0 ∧ F1 = []) ∨ ∃ b o cc e, base = some ⟨b, o, none⟩ ∧ w.heap[b]? = some (.cells cc e (0, 0)) ∧ o + cap * sz ≤ cc.size ∧ F1 = b :: FA ∧ ∀ (j : Nat) (u : Value), cs[j]? = some u → cc[o + j]? = some u) := by
    rcases hv1 with ⟨rfl, ⟨q, rfl⟩, rfl⟩ | ⟨b, o, cap, cc, e, cs, FA, rfl, hb, hcap, hfit, hrs, rfl, hkr, hlie⟩
    · exact ⟨q, 0, [], [], rfl, by simp, fun _ => rfl, by simp, by simp [Kr], by simp, by simp, .inl ⟨rfl, rfl, rfl⟩⟩
    · exact ⟨some ⟨b, o, none⟩, cap, cs, FA, rfl, hcap, fun h => by simp at h, Kr_len hrs hkr, hkr, hrs, fun x hx => by simp [hx], .inr ⟨b, o, cc, e, rfl, hb, hfit, rfl, hlie⟩⟩
  subst e1
  clear hv1
  have hlen3 : (rows ++ [row]).length = rows.length + 1 := by simp
  have hrs3 : ∀ r ∈ rows ++ [row], r.length = sz := by
    intro r hr
    simp only [List.mem_append, List.mem_singleton] at hr
    rcases hr with h | rfl
    · exact hrs r h
    · exact hrl
  have hFAd : (FA ++ FU).Nodup := by
    rcases hlies with ⟨h1, _, rfl⟩ | ⟨b, o, cc, e, _, _, _, rfl, _⟩
    · have : FA = [] := by
        cases FA with
        | nil => rfl
        | cons x l => exact absurd (hFA x (by simp)) (by simp)
      subst this
      simp only [List.nil_append, List.nodup_cons] at hnd ⊢
      exact hnd.2
    · have h2 : (FA ++ FU).Sublist (b :: FA ++ vb :: FU) := by
        simp only [List.cons_append]
        exact (List.Sublist.append (List.Sublist.refl FA) (List.sublist_cons_self vb FU)).trans (List.sublist_cons_self b _)
      exact hnd.sublist h2
  have hrest : ∀ x ∈ FA ++ FU, x ∈ F1 ++ vb :: FU := by
    intro x hx
    rcases List.mem_append.1 hx with h | h
    · exact List.mem_append.2 (.inl (hFA x h))
    · exact List.mem_append.2 (.inr (List.mem_cons_of_mem _ h))
  have hkr3 : ∀ w' : World, (∀ x, O x → w'.heap[x]? = w.heap[x]?) → (∀ x ∈ FA ++ FU, w'.heap[x]? = w.heap[x]?) → Kr w' O (rows ++ [row]) (cs ++ us1) (FA ++ FU) := by
    intro w' h1 h2
    refine Kr_append.2 ⟨cs, us1, FA, FU, rfl, rfl, hkr.cong (fun _ h => h) h1 (fun x hx => h2 x (by simp [hx])), ?_⟩
    simp only [Kr]
    exact ⟨us1, [], FU, [], by simp, by simp, hku.cong (fun _ h => h) h1 (fun x hx => h2 x (by simp [hx])), rfl, rfl⟩
  have hsrc : (∃ b off, (some ⟨vb, vo, none⟩ : Option Addr) = some ⟨b, off, none⟩ ∧ (1 = 0 ∨ Lies w b off us1)) ∨ 1 = 0 := .inl ⟨vb, vo, rfl, .inr (Lies.of_block hvb hvu)⟩
  by_cases hroom : rows.length + 1 ≤ cap
  · rcases hlies with ⟨h1, h2, _⟩ | ⟨b, o, cc, e, rfl, hb, hfit, rfl, hlie⟩
    · omega
    have hbig : o + rows.length * sz + us1.length ≤ cc.size := by
      have h1 : (rows.length + 1) * sz ≤ cap * sz := Nat.mul_le_mul_right _ hroom
      rw [Nat.succ_mul] at h1; omega
    have hne : vb ≠ b := by rintro rfl; simp at hnd
    have hFb := hF b (by simp)
    obtain ⟨c1, hc1⟩ : ∃ c1, c1 = putC cc (o + rows.length * sz) us1 := ⟨_, rfl⟩
    have s1 : c1.size = cc.size := by rw [hc1]; exact putC_size hbig
    have hb1 : (w.setRow b c1).heap[b]? = some (.cells c1 e (0, 0)) := setRow_heap _ _ _ _ _ _ hb
    have hnb : ∀ x ∈ FA ++ FU, x ≠ b := by
      rintro x hx rfl
      have h3 := (List.nodup_cons.1 (show (x :: (FA ++ vb :: FU)).Nodup from hnd)).1
      rcases List.mem_append.1 hx with h | h
      · exact h3 (List.mem_append.2 (.inl h))
      · exact h3 (List.mem_append.2 (.inr (List.mem_cons_of_mem _ h)))
    refine (hr.tail _ rows.length cap vb vo vcap w (w.setRow b c1) (.slice (some ⟨b, o, none⟩) (rows.length + 1) cap) hcap hnil (fun ty => ?_)).mono ?_
    · subst hsz
      rw [hc1]
      exact run_app_room ht hi hb hlu' hsrc oneu hroom hbig
    · rintro ex w' ⟨rfl, rfl⟩
      have kp : Keep w (b :: FA ++ vb :: FU) (w.setRow b c1) := (Keep.refl w _).trans (Keep.row hb s1) (by simp)
      refine ⟨_, O, b :: (FA ++ FU), [], rfl, fun _ h => h, fun x hx => Nat.lt_of_lt_of_le (hO x hx) kp.size, fun x hx => .inl hx, ?_, hgone _ _, ?_, ?_, kp⟩
      · simp only [K]
        refine .inr ⟨b, o, cap, c1, e, cs ++ us1, FA ++ FU, by rw [hlen3], hb1, by rw [hlen3]; exact hroom, by rw [s1]; exact hfit, hrs3, rfl, ?_, ?_⟩
        · refine hkr3 _ (fun x hx => heap_setRow_ne _ _ ?_) (fun x hx => heap_setRow_ne _ _ (hnb x hx))
          rintro rfl; exact hFb.1 hx
        · intro j u hj
          rw [hc1, putC_get hbig]
          by_cases j1 : j < cs.length
          · rw [if_neg (by omega)]
            rw [List.getElem?_append_left j1] at hj
            exact hlie j u hj
          · rw [List.getElem?_append_right (by omega)] at hj
            have := getElem?_len hj
            rw [if_pos (by omega), ← hj]; congr 1; omega
      · rw [List.append_nil]
        exact List.nodup_cons.2 ⟨fun h => hnb b h rfl, hFAd⟩
      · intro x hx
        simp only [List.append_nil, List.mem_cons] at hx
        rcases hx with rfl | hx
        · exact ⟨hFb.1, Nat.lt_of_lt_of_le hFb.2 kp.size, .inr (by simp)⟩
        · have h1 := hF x (hrest x hx)
          exact ⟨h1.1, Nat.lt_of_lt_of_le h1.2 kp.size, .inr (hrest x hx)⟩
  · obtain ⟨N, hN0⟩ : ∃ N, N = w.heap.size := ⟨_, rfl⟩
    obtain ⟨G, hG⟩ : ∃ G, G = grownCap w (rows.length + 1) cap tE := ⟨_, rfl⟩
    have hGe : rows.length + 1 ≤ G := by rw [hG]; exact grownCap_ge w _ _ _
    obtain ⟨R0, hR0⟩ : ∃ R0, R0 = (cs ++ us1).toArray ++ Builtin.zeroCells z.cells (G - (rows.length + 1)) := ⟨_, rfl⟩
    have hR0s : R0.size = G * sz := by
      rw [hR0, Array.size_append, zeros_size, hzs, List.size_toArray, List.length_append, hlc, lu, ← Nat.succ_mul, ← Nat.add_mul]
      congr 1; omega
    obtain ⟨W1, hW1⟩ : ∃ W1, W1 = w.drew.alloc (.cells R0 tE) := ⟨_, rfl⟩
    have hN1 : W1.heap[N]? = some (.cells R0 tE (0, 0)) := by rw [hW1, hN0]; exact Array.getElem?_push_size
    have hold1 : ∀ x, x < w.heap.size → W1.heap[x]? = w.heap[x]? := fun x hx => by rw [hW1]; exact heap_push_old (w := w.drew) hx
    have hd : (∃ b off, base = some ⟨b, off, none⟩ ∧ (rows.length = 0 ∨ Lies w b off cs)) ∨ rows.length = 0 := by
      rcases hlies with ⟨h1, _, _⟩ | ⟨b, o, cc, e, h1, hb, hfit, _, hlie⟩
      · exact .inr h1
      · exact .inl ⟨b, o, h1, .inr (Lies.of_block hb hlie)⟩
    refine (hr.tail _ rows.length cap vb vo vcap w W1 (.slice (some ⟨N, 0, none⟩) (rows.length + 1) G) hcap hnil (fun ty => ?_)).mono ?_
    · have h := run_app_grow (P := P) (w := w) (t := tS) (ty := ty) ht hi hz (sCap := cap) (c := vcap) (by rw [hsz]; exact hlc) hd hlu' hsrc (by omega) hby2 (by omega)
      rw [h, hW1, hR0, hG, hN0]
    · rintro ex w' ⟨rfl, e2⟩
      subst w'
      have kp : Keep w (F1 ++ vb :: FU) W1 := by
        have k1 : Keep w [] W1 := by rw [hW1]; exact (Keep.grown (w := w) (w' := w.drew) rfl rfl rfl (Nat.le_refl _) (fun _ _ => rfl)).trans (Keep.alloc w.drew _) (by simp)
        exact (Keep.refl w _).trans k1 (by simp)
      refine ⟨_, O, N :: (FA ++ FU), [], rfl, fun _ h => h, fun x hx => Nat.lt_of_lt_of_le (hO x hx) kp.size, fun x hx => .inl hx, ?_, hgone _ _, ?_, ?_, kp⟩
      · simp only [K]
        refine .inr ⟨N, 0, G, R0, tE, cs ++ us1, FA ++ FU, by rw [hlen3], hN1, by rw [hlen3]; exact hGe, by rw [hR0s]; omega, hrs3, rfl, ?_, ?_⟩
        · exact hkr3 _ (fun x hx => hold1 x (hO x hx)) (fun x hx => hold1 x (hF x (hrest x hx)).2)
        · intro j u hj
          have := getElem?_len hj
          rw [Nat.zero_add, hR0, Array.getElem?_append_left (by simpa using this), List.getElem?_toArray]
          exact hj
      · rw [List.append_nil]
        refine List.nodup_cons.2 ⟨fun h => ?_, hFAd⟩
        have := (hF N (hrest N h)).2; omega
      · intro x hx
        simp only [List.append_nil, List.mem_cons] at hx
        rcases hx with rfl | hx
        · exact ⟨fun h => by have := hO _ h; omega, lt_of_heap hN1, .inl (by omega)⟩
        · have h1 := hF x (hrest x hx)
          exact ⟨h1.1, Nat.lt_of_lt_of_le h1.2 kp.size, .inr (hrest x hx)⟩
end
theorem insRuns_prop : InsRuns Try.prog 111 5 97 126 3 where
  shift := by
    intro b off n c i vb voff vc w w1 w2 h1 h2 h3 hne ⟨e1, k1, hs1⟩ ⟨e2, k2, hs2, hk2⟩ hfz h4 h5
    refine ins_shift_prop b off n c i vb voff vc w w1 w2 h1 h2 h3 (fun lb cb => ?_) h4 h5
    rw [run_callFunc_extern Try.func171 (by kernel_rfl) (by kernel_rfl) (by kernel_rfl) (e := Extern.SlicesOverlaps.overlaps #[97, 97] #[4]) (by kernel_rfl),
      Lib.run_overlaps_apart w 97 4 126 (by kernel_rfl) 5 (fun w => run_szOf (by kernel_rfl)) ⟨vb, voff, none⟩ ⟨b, off + (i + 1) * 5, none⟩ 1 vc lb cb hne e1 e2 k1 k2 hs1 hs2 hk2 (hfz _) (hfz _)]
    rfl
  grow := by
    intro b off n c i vb voff vc N G w w1 w2 w3 h1 h2 h3 h4 h5 a1 a2 a3
    exact ins_grow_prop b off n c i vb voff vc N G w w1 w2 w3 h1 h2 h3 h4 h5 a1 a2 a3
  tail := ins_end_prop
end Go.Proofs.Ytehdfbhfbidadaa.V
/- Texts Ccopy, Cget, Cget2, Cg1, Cg2, Cg3, Cg4, Cg5, Cg6, Cg7, Cg8, Cg9, Cg10, Cm1, Cm2, Cm3, Cm4, Cn1, Cn2, Csame, Cwith, Cfind. -/
/- Copies of values. -/
namespace Go.Proofs.Ytehdfbhfbidadaa.V
open Go
set_option linter.unusedVariables false
set_option linter.unusedSimpArgs false
set_option maxHeartbeats 16000000
theorem l1Copy_c (v : Vl) : v.cnt ≤ 2 ^ 20 → Rv Try.prog 120 [.agg (sV.I v)] (.agg (sV.O v)) := by
  refine Vl.ind (p := fun v => v.cnt ≤ 2 ^ 20 → Rv Try.prog 120 [.agg (sV.I v)] (.agg (sV.O v))) ?_ v
  intro k n s l ih hc
  rw [Vl.cnt_mk] at hc
  unfold cl at hc
  refine via_spec_l1Copy (by simp) ?_
  simp [pc_spec_l1Copy]
  refine W_for (fun i => ⟨[(4, .i .i64 i), (1, .ptr 0 0 0), (2, .ptr 1 0 0), (3, .ptr 2 0 0)], [(0, .arr 4 [sV.I (.mk k n s l)]), (1, .arr 4 [[.i .i64 0, .i .i64 0, .s [], .nl]]), (2, .arr 4 [[.i .i64 k, .i .i64 n, .s s, .own 4 ((l.map sV.O).take i)]])], 10, 0⟩) l.length (fun _ => True) ?_ trivial ?_
  · refine Wk.trans (Wk.join (b := 2) (r := 0) (cs := [.i .i64 k, .i .i64 n, .s s, .own 4 []]) rfl rfl (by simp) (by simp)) ?_
    exact Wk.less rfl (by simp) (by simp) (by simp)
  intro i hi _
  rcases Nat.lt_or_ge i l.length with h1 | h1
  · obtain ⟨x, hx⟩ : ∃ x, l[i]? = some x := ⟨_, List.getElem?_eq_getElem h1⟩
    have hw : IntKind.i64.wrap ((i : Int) + 1) = (i : Int) + 1 := wrap1 (by omega)
    have hmin : min i l.length = i := by omega
    simp [-getElem?_pos, hx, hw, h1, hmin]
    refine callK_val (by simp) (ih x (List.mem_of_getElem? hx) (by have := sums_mem (c := Vl.cnt) (List.mem_of_getElem? hx); omega)) (by simp [T.noImm]) ?_
    have htt : List.take i (List.take i (l.map sV.O)) = List.take i (l.map sV.O) := by rw [List.take_take]; simp
    have hlA : (List.take i (l.map sV.O)).length = i := by simp; omega
    have hnew := fill_new sV.O hx
    have hcA : cleanR (List.take i (l.map sV.O)) = true := by rw [← List.map_take]; exact sV.crO _
    have hbig : (i + 1) * 56 ≤ 35184372088832 := by omega
    obtain ⟨k', n', s', l'⟩ := x
    simp [-getElem?_pos, hx, hw, h1, hmin, htt, hbig]
    generalize List.take i (l.map sV.O) = A at *
    refine need_mk ⟨by decide +kernel, by decide +kernel⟩ (need_mk (by decide +kernel) ?_)
    have hg := app1_get hlA
    have hs := app1_set hlA
    have ht := app1_take hlA
    refine Wk.trans (Wk.join (b := 82) (r := i) (cs := sV.O (.mk k' n' s' l')) rfl (by simp [hg]; rfl) (by simp) (by simp)) ?_
    refine Wk.trans (Wk.join (b := 2) (r := 0) (cs := [.i .i64 k, .i .i64 n, .s s, .own 4 ((l.map sV.O).take (i + 1))]) rfl rfl (by simp [hnew, hs, hcA, hlA, ht]) (by simp)) ?_
    exact Wk.to rfl (by simp) (by simp) (by simp [Blk.names]) (by simp)
  · have h2 : ¬ i < l.length := by omega
    have e : (l.map sV.O).take i = l.map sV.O := List.take_of_length_le (by simp; omega)
    simp [h2, e]
    exact fin_own (by simp; rfl) (by simp) (by simp) (by simp)
/-- An ok value is ok with more room. -/
theorem okV_mono : ∀ (d : Nat) (v : Vl), okV d v = true → okV (d + 1) v = true := by
  intro d
  induction d with
  | zero => intro v h; simp [okV] at h
  | succ d ih =>
    rintro ⟨k, n, s, l⟩ h
    have hall : l.all (okV d) = true → l.all (okV (d + 1)) = true := fun h => by
      rw [List.all_eq_true] at h ⊢
      exact fun v hv => ih v (h v hv)
    unfold okV at h ⊢
    by_cases k4 : k = 4
    · subst k4
      simp only [show ¬ (4 : Int) = 0 by omega, show ¬ (4 : Int) = 1 by omega, show ¬ (4 : Int) = 2 by omega, show ¬ (4 : Int) = 3 by omega, show ¬ ((4 : Int) = 5 ∨ (4 : Int) = 6) by omega, if_false, if_true, Bool.and_eq_true] at h ⊢
      exact ⟨h.1, hall h.2⟩
    · simp only [k4, if_false] at h ⊢
      exact h
/-- What is in an ok value's list. -/
theorem okV_list {d : Nat} {k n : Int} {s : Tx} {l : List Vl} (h : okV (d + 1) (.mk k n s l) = true) : ∀ v ∈ l, okV (d + 1) v = true := by
  intro v hv
  refine okV_mono d v ?_
  unfold okV at h
  by_cases k4 : k = 4
  · subst k4
    simp only [show ¬ (4 : Int) = 0 by omega, show ¬ (4 : Int) = 1 by omega, show ¬ (4 : Int) = 2 by omega, show ¬ (4 : Int) = 3 by omega, show ¬ ((4 : Int) = 5 ∨ (4 : Int) = 6) by omega, if_false, if_true, Bool.and_eq_true] at h
    exact List.all_eq_true.1 h.2 v hv
  · have : l = [] := by
      simp only [k4, if_false] at h
      split at h
      · simp at h; exact h.2
      · split at h
        · simp at h; exact h.2
        · split at h
          · simp at h; exact h.2
          · split at h
            · simp at h; exact h.2
            · split at h
              · simp at h; exact h.2
              · simp at h
    simp [this] at hv
theorem cloneValues_of (l : List Vl) (hl : l.length ≤ 2 ^ 20) (h : ∀ v ∈ l, Rv Try.prog 88 [.agg (sV.I v)] (.agg (sV.O v))) : Rv Try.prog 150 [.imm (l.map sV.I)] (.own 4 (l.map sV.O)) := by
  refine via_impl_cloneValues (by simp) ?_
  by_cases h0 : l.length = 0
  · obtain rfl : l = [] := List.length_eq_zero_iff.1 h0
    simp [pc_impl_cloneValues]
    exact fin_own rfl (by simp) (by simp) (by simp)
  · have h0' : ¬ l = [] := fun h => h0 (by simp [h])
    have hb1 : (l.length : Int) * 56 ≤ 35184372088832 := by omega
    have hb2 : (l.length : Int) ≤ 35184372088832 := by omega
    simp [pc_impl_cloneValues, h0, h0', hb1, hb2]
    refine W_for (fun i => ⟨[(14, .i .i64 i), (13, .i .i64 l.length), (12, .imm (l.map sV.I)), (3, .ref 0 0 l.length)], [(0, .arr 4 ((l.map sV.O).take i ++ List.replicate (l.length - i) [.i .i64 0, .i .i64 0, .s [], .nl]))], 10, 0⟩) l.length (fun i => True) (Wk.less rfl (by simp) (by simp) (by simp)) trivial ?_
    intro i hi _
    rcases Nat.lt_or_ge i l.length with h2 | h2
    · obtain ⟨v, hx⟩ : ∃ v, l[i]? = some v := ⟨_, List.getElem?_eq_getElem h2⟩
      have hw2 : IntKind.i64.wrap ((i : Int) + 1) = (i : Int) + 1 := wrap1 (by omega)
      have hrow := fill_row sV.O l (z := [.i .i64 0, .i .i64 0, .s [], .nl]) h2
      have hset := fill_set sV.O l (z := [.i .i64 0, .i .i64 0, .s [], .nl]) h2
      have hnew := fill_new sV.O hx
      have hg := fun r => fill_get sV.O (l := l) (r := r) (z := [.i .i64 0, .i .i64 0, .s [], .nl]) h2
      have hs2 := fun r r' => fill_set2 sV.O (l := l) (r := r) (r' := r') (z := [.i .i64 0, .i .i64 0, .s [], .nl]) h2
      have hcl := fill_clean sV (l := l) (z := [.i .i64 0, .i .i64 0, .s [], .nl]) (by rfl) (i + 1) (l.length - (i + 1))
      simp [-getElem?_pos, hx, hw2, h2]
      refine callK_val (by simp) (h v (List.mem_of_getElem? hx)) (by simp [T.noImm]) ?_
      obtain ⟨k', n', s', l'⟩ := v
      simp [-getElem?_pos, hx, hw2, h2, hrow, hset]
      refine Wk.trans (Wk.join (b := 0) (r := i) (cs := sV.O (.mk k' n' s' l')) rfl (by simp [hg]; rfl) (by simp) (by simp)) ?_
      exact Wk.to1 rfl (by simp) (by simp) (by simp [hs2, hnew]) hcl (by omega)
    · have h4 : ¬ i < l.length := by omega
      have h5 : l.length - i = 0 := by omega
      have e : (l.map sV.O).take i = l.map sV.O := List.take_of_length_le (by simp; omega)
      simp [h4, h5, e]
      exact fin_own (by simp; rfl) (by simp) (by simp) (by simp)
theorem cloneValue_c (v : Vl) : v.fit → v.cnt ≤ 2 ^ 20 → vOk v = true → Rv Try.prog 88 [.agg (sV.I v)] (.agg (sV.O v)) := by
  refine Vl.ind (p := fun v => v.fit → v.cnt ≤ 2 ^ 20 → vOk v = true → Rv Try.prog 88 [.agg (sV.I v)] (.agg (sV.O v))) ?_ v
  intro k n s l ih hf hc hok
  obtain ⟨_, _, hs, hl, hv⟩ := Vl.fit_mk.1 hf
  rw [Vl.cnt_mk] at hc
  unfold cl at hc
  have hlist := okV_list hok
  refine via_impl_cloneValue (by simp) ?_
  simp [pc_impl_cloneValue]
  refine callK_val (by simp) (ValueOk_c _ hf) rfl ?_
  simp [hok]
  refine callK_val (by simp) (cloneValues_of l (by omega) (fun v hm => ih v hm (hv v hm) (by have := sums_mem (c := Vl.cnt) hm; omega) (hlist v hm))) (by simp [T.noImm]) ?_
  simp
  exact fin_own (by simp; rfl) (by simp) (by simp) (by simp)
end Go.Proofs.Ytehdfbhfbidadaa.V
/- Props by name. -/
namespace Go.Proofs.Ytehdfbhfbidadaa.V
open Go
set_option linter.unusedVariables false
set_option linter.unusedSimpArgs false
set_option maxHeartbeats 16000000
def zV : Vl := .mk 0 0 [] []
theorem l2Edge_c (g : Gr) (hl : ln g.edges) (id : Int) : Rv Try.prog 168 [.agg (sG.I g), .i .i64 id] (.i .i64 (posOf Eg.id id g.edges)) := by
  obtain ⟨ns, l, nn, ne⟩ := g
  simp only at hl ⊢
  refine via_spec_l2Edge (by simp) ?_
  simp [pc_spec_l2Edge]
  refine W_for (fun i => ⟨[(5, .i .i64 i), (2, .ptr 0 0 0), (1, .i .i64 id)], [(0, .arr 4 [sG.I ⟨ns, l, nn, ne⟩])], 1, 0⟩) l.length (fun i => ∀ j y, j < i → l[j]? = some y → y.id ≠ id) (Wk.less rfl (by simp) (by simp) (by simp)) (by simp) ?_
  intro i hi hv
  rcases Nat.lt_or_ge i l.length with h1 | h1
  · obtain ⟨⟨a, b, c, d, e⟩, hx⟩ : ∃ x, l[i]? = some x := ⟨_, List.getElem?_eq_getElem h1⟩
    have hw : IntKind.i64.wrap ((i : Int) + 1) = (i : Int) + 1 := wrap1 (by omega)
    by_cases h : a = id
    · simp [-getElem?_pos, hx, hw, h1, h]
      exact fin_val rfl (by simp [posOf_at (f := Eg.id) hx h hv]) (by simp)
    · simp [-getElem?_pos, hx, hw, h1, h]
      refine ⟨fun j y hj hy => ?_, Wk.to1 rfl (by simp) (by simp) (by simp) (by simp) (by omega)⟩
      rcases Nat.lt_or_ge j i with h6 | h6
      · exact hv j y h6 hy
      · obtain rfl : j = i := by omega
        rw [hx] at hy; simp at hy; subst hy; exact h
  · have h2 : ¬ i < l.length := by omega
    simp [h2]
    refine fin_val rfl ?_ (by simp)
    rw [posOf_none fun j y hy => hv j y (by have := (List.getElem?_eq_some_iff.1 hy).1; omega) hy]
    simp
/-- Props of a node or an edge, if it is there. -/
def propsOf (g : Gr) (v : Vl) : Option (List Pr) :=
  if v.k = 5 then (g.nodes.find? (fun x => decide (x.id = v.n))).map Nd.props
  else if v.k = 6 then (g.edges.find? (fun x => decide (x.id = v.n))).map Eg.props else none
theorem find_pos {α : Type} {f : α → Int} {id : Int} {l : List α} : (∃ (i : Nat) (x : α), posOf f id l = i ∧ l[i]? = some x ∧ l.find? (fun x => decide (f x = id)) = some x) ∨ (posOf f id l = -1 ∧ l.find? (fun x => decide (f x = id)) = none) := by
  rcases posOf_cases f id l with ⟨i, x, h1, h2, h3, h4⟩ | ⟨h1, h2⟩
  · left
    refine ⟨i, x, h1, h2, ?_⟩
    rw [List.find?_eq_some_iff_getElem]
    obtain ⟨hi, rfl⟩ := List.getElem?_eq_some_iff.1 h2
    exact ⟨by simpa using h3, i, hi, rfl, fun j hj => by simpa using h4 j _ hj (List.getElem?_eq_getElem (by omega))⟩
  · right
    refine ⟨h1, ?_⟩
    rw [List.find?_eq_none]
    exact fun x hx => by simpa using h2 x hx
/-- Under a name; nothing if there is none. -/
def getP (ps : List Pr) (nm : Tx) : Vl := ((ps.find? (fun p => decide (p.name = nm))).map Pr.val).getD zV
def propGet (g : Gr) (v : Vl) (nm : Tx) : Vl := match propsOf g v with | some ps => getP ps nm | none => zV
theorem l2Of_c (g : Gr) (hf : ln g.nodes ∧ ln g.edges) (v : Vl) : Rv Try.prog 144 [.agg (sG.I g), .agg (sV.I v)] (match propsOf g v with | some ps => .tup [.imm (ps.map sP.I), .b true] | none => .tup [.own 5 [], .b false]) := by
  obtain ⟨l, es, nn, ne⟩ := g
  obtain ⟨k, n, s, vl⟩ := v
  refine via_spec_l2Of (by simp) ?_
  simp [pc_spec_l2Of]
  refine callK_val (by simp) (l2Node_c ⟨l, es, nn, ne⟩ hf.1 n) rfl ?_
  simp
  refine callK_val (by simp) (l2Edge_c ⟨l, es, nn, ne⟩ hf.2 n) rfl ?_
  by_cases k5 : k = 5
  · subst k5
    rcases find_pos (f := Nd.id) (id := n) (l := l) with ⟨i, ⟨a, b, c⟩, h1, h2, h3⟩ | ⟨h1, h3⟩
    · have hp : propsOf ⟨l, es, nn, ne⟩ (.mk 5 n s vl) = some c := by unfold propsOf; simp only [Vl.k, Vl.n, if_true]; exact congrArg (Option.map Nd.props) h3
      simp [-getElem?_pos, h1, h2, hp]
      exact fin_own rfl (by simp) (by simp) (by simp)
    · have hp : propsOf ⟨l, es, nn, ne⟩ (.mk 5 n s vl) = none := by unfold propsOf; simp only [Vl.k, Vl.n, if_true]; exact congrArg (Option.map Nd.props) h3
      simp [-getElem?_pos, h1, hp]
      exact fin_own rfl (by simp) (by simp) (by simp)
  · by_cases k6 : k = 6
    · subst k6
      rcases find_pos (f := Eg.id) (id := n) (l := es) with ⟨i, ⟨a, b, c, d, e⟩, h1, h2, h3⟩ | ⟨h1, h3⟩
      · have hp : propsOf ⟨l, es, nn, ne⟩ (.mk 6 n s vl) = some e := by unfold propsOf; simp only [Vl.k, Vl.n, if_true, show ¬ (6 : Int) = 5 by omega, if_false]; exact congrArg (Option.map Eg.props) h3
        simp [-getElem?_pos, h1, h2, hp]
        exact fin_own rfl (by simp) (by simp) (by simp)
      · have hp : propsOf ⟨l, es, nn, ne⟩ (.mk 6 n s vl) = none := by unfold propsOf; simp only [Vl.k, Vl.n, if_true, show ¬ (6 : Int) = 5 by omega, if_false]; exact congrArg (Option.map Eg.props) h3
        simp [-getElem?_pos, h1, hp]
        exact fin_own rfl (by simp) (by simp) (by simp)
    · have hp : propsOf ⟨l, es, nn, ne⟩ (.mk k n s vl) = none := by simp only [propsOf, Vl.k, Vl.n, k5, k6, if_false]
      simp [-getElem?_pos, k5, k6, hp]
      exact fin_own rfl (by simp) (by simp) (by simp)
/-- What a prop's value is bounded by. -/
theorem cnt_props {g : Gr} {v : Vl} {ps : List Pr} (h : propsOf g v = some ps) : cl Pr.cnt ps ≤ g.cnt := by
  unfold propsOf at h
  split at h
  · obtain ⟨x, h1, rfl⟩ := Option.map_eq_some_iff.1 h
    have hm := List.mem_of_find?_eq_some h1
    have h2 := sums_mem (c := Nd.cnt) hm
    simp only [Nd.cnt] at h2
    unfold Gr.cnt cl at *
    omega
  · split at h
    · obtain ⟨x, h1, rfl⟩ := Option.map_eq_some_iff.1 h
      have hm := List.mem_of_find?_eq_some h1
      have h2 := sums_mem (c := Eg.cnt) hm
      simp only [Eg.cnt] at h2
      unfold Gr.cnt cl at *
      omega
    · exact absurd h (by simp)
end Go.Proofs.Ytehdfbhfbidadaa.V
/- Props by name: the program's word. -/
namespace Go.Proofs.Ytehdfbhfbidadaa.V
open Go
set_option linter.unusedVariables false
set_option linter.unusedSimpArgs false
set_option maxHeartbeats 16000000
def zT : List T := [.i .i64 0, .i .i64 0, .s [], .nl]
def getT (ps : List Pr) (nm : Tx) : T := match ps.find? (fun p => decide (p.name = nm)) with | some p => .agg (sV.I p.val) | none => .agg zT
def propT (g : Gr) (v : Vl) (nm : Tx) : T := match propsOf g v with | some ps => getT ps nm | none => .agg zT
theorem props_ok {g : Gr} (h : GOk g) {v : Vl} {ps : List Pr} (hp : propsOf g v = some ps) : PropsOk ps := by
  unfold propsOf at hp
  split at hp
  · obtain ⟨x, h1, rfl⟩ := Option.map_eq_some_iff.1 hp
    exact (h.nok x (List.mem_of_find?_eq_some h1)).2
  · split at hp
    · obtain ⟨x, h1, rfl⟩ := Option.map_eq_some_iff.1 hp
      exact (h.eok x (List.mem_of_find?_eq_some h1)).2.1
    · exact absurd hp (by simp)
theorem props_fit {g : Gr} (h : g.fit) {v : Vl} {ps : List Pr} (hp : propsOf g v = some ps) : ∀ p ∈ ps, p.fit := by
  unfold propsOf at hp
  split at hp
  · obtain ⟨x, h1, rfl⟩ := Option.map_eq_some_iff.1 hp
    exact (h.2.1 x (List.mem_of_find?_eq_some h1)).2.2.2.2
  · split at hp
    · obtain ⟨x, h1, rfl⟩ := Option.map_eq_some_iff.1 hp
      exact (h.2.2.2.1 x (List.mem_of_find?_eq_some h1)).2.2.2.2.2
    · exact absurd hp (by simp)
end Go.Proofs.Ytehdfbhfbidadaa.V
/- Copies of texts, props, nodes, edges, graphs. -/
namespace Go.Proofs.Ytehdfbhfbidadaa.V
open Go
set_option linter.unusedVariables false
set_option linter.unusedSimpArgs false
set_option maxHeartbeats 16000000
theorem cloneTexts_c (l : List Tx) (hl : l.length ≤ 2 ^ 20) : Rv Try.prog 156 [.imm (l.map sS.I)] (.own 1 (l.map sS.O)) := by
  refine via_impl_cloneTexts (by simp) ?_
  by_cases h0 : l.length = 0
  · obtain rfl : l = [] := List.length_eq_zero_iff.1 h0
    simp [pc_impl_cloneTexts]
    exact fin_own rfl (by simp) (by simp) (by simp)
  · have h0' : ¬ l = [] := fun h => h0 (by simp [h])
    have hb1 : (l.length : Int) * 16 ≤ 35184372088832 := by omega
    have hb2 : (l.length : Int) ≤ 35184372088832 := by omega
    simp [pc_impl_cloneTexts, h0, h0', hb1, hb2]
    refine hookH_copy (sz := 1) (e := 9) (i := Try.t9) (dT := 80) (sT := 80) (rows := List.replicate l.length [.s []]) (by simp [hget]) rfl rfl (by kernel_rfl) (by kernel_rfl) (by kernel_rfl) (by simp) (by simp [T.cell]) (by simp) (by omega) ?_
    simp
    exact fin_own rfl (by simp) (by simp) (by simp)
theorem cloneProps_c (l : List Pr) (hl : l.length ≤ 2 ^ 20) (h : ∀ p ∈ l, Rv Try.prog 88 [.agg (sV.I p.val)] (.agg (sV.O p.val))) : Rv Try.prog 157 [.imm (l.map sP.I)] (.own 5 (l.map sP.O)) := by
  refine via_impl_cloneProps (by simp) ?_
  by_cases h0 : l.length = 0
  · obtain rfl : l = [] := List.length_eq_zero_iff.1 h0
    simp [pc_impl_cloneProps]
    exact fin_own rfl (by simp) (by simp) (by simp)
  · have h0' : ¬ l = [] := fun h => h0 (by simp [h])
    have hb1 : (l.length : Int) * 72 ≤ 35184372088832 := by omega
    have hb2 : (l.length : Int) ≤ 35184372088832 := by omega
    simp [pc_impl_cloneProps, h0, h0', hb1, hb2]
    refine W_for (fun i => ⟨[(14, .i .i64 i), (13, .i .i64 l.length), (12, .imm (l.map sP.I)), (3, .ref 0 0 l.length)], [(0, .arr 5 ((l.map sP.O).take i ++ List.replicate (l.length - i) [.s [], .i .i64 0, .i .i64 0, .s [], .nl]))], 20, 0⟩) l.length (fun i => True) (Wk.less rfl (by simp) (by simp) (by simp)) trivial ?_
    intro i hi _
    rcases Nat.lt_or_ge i l.length with h2 | h2
    · obtain ⟨v, hx⟩ : ∃ v, l[i]? = some v := ⟨_, List.getElem?_eq_getElem h2⟩
      have hw2 : IntKind.i64.wrap ((i : Int) + 1) = (i : Int) + 1 := wrap1 (by omega)
      have hrow := fill_row sP.O l (z := [.s [], .i .i64 0, .i .i64 0, .s [], .nl]) h2
      have hset := fill_set sP.O l (z := [.s [], .i .i64 0, .i .i64 0, .s [], .nl]) h2
      have hnew := fill_new sP.O hx
      have hg := fun r => fill_get sP.O (l := l) (r := r) (z := [.s [], .i .i64 0, .i .i64 0, .s [], .nl]) h2
      have hs2 := fun r r' => fill_set2 sP.O (l := l) (r := r) (r' := r') (z := [.s [], .i .i64 0, .i .i64 0, .s [], .nl]) h2
      have hcl := fill_clean sP (l := l) (z := [.s [], .i .i64 0, .i .i64 0, .s [], .nl]) (by rfl) (i + 1) (l.length - (i + 1))
      have hv := h v (List.mem_of_getElem? hx)
      obtain ⟨nm, k', n', s', l'⟩ := v
      simp only at hv
      simp [-getElem?_pos, hx, hw2, h2]
      repeat refine need_mk (by decide +kernel) ?_
      refine callK_val (by simp) hv (by simp [T.noImm]) ?_
      simp [-getElem?_pos, hx, hw2, h2, hrow, hset]
      repeat refine need_mk (by decide +kernel) ?_
      refine Wk.trans (Wk.join (b := 0) (r := i) (cs := sP.O ⟨nm, .mk k' n' s' l'⟩) rfl (by simp [hg]; rfl) (by simp) (by simp)) ?_
      exact Wk.to1 rfl (by simp) (by simp) (by simp [hs2, hnew]) hcl (by omega)
    · have h4 : ¬ i < l.length := by omega
      have h5 : l.length - i = 0 := by omega
      have e : (l.map sP.O).take i = l.map sP.O := List.take_of_length_le (by simp; omega)
      simp [h4, h5, e]
      exact fin_own (by simp; rfl) (by simp) (by simp) (by simp)
end Go.Proofs.Ytehdfbhfbidadaa.V
/- Copies of props by the spec. -/
namespace Go.Proofs.Ytehdfbhfbidadaa.V
open Go
set_option linter.unusedVariables false
set_option linter.unusedSimpArgs false
set_option maxHeartbeats 16000000
theorem rns_cl {f : Nat → Nat} : ∀ {ts : List T}, ts.all T.clean = true → rns f ts = ts
  | [], h => by simp [rns]
  | t :: ts, h => by
    simp only [List.all_cons, Bool.and_eq_true] at h
    have : t.rn f = t := by have := h.1; cases t <;> simp [T.clean] at this <;> simp [T.rn]
    simp only [rns, this, rns_cl h.2]
theorem rnr_cl {f : Nat → Nat} : ∀ {rs : List (List T)}, cleanR rs = true → rs.map (rns f) = rs
  | [], h => by simp
  | r :: rs, h => by
    simp only [cleanR, List.all_cons, Bool.and_eq_true] at h
    simp only [List.map_cons, rns_cl h.1]
    rw [rnr_cl (by simpa only [cleanR] using h.2)]
theorem Wk.one {s : St} {b sz nx : Nat} {tm : List (Nat × T)} {rows : List (List T)} (hfb : s.fb = 0) (hnx : 0 < nx) (htm : ∀ p ∈ tm, p.2.rn (fun t => if t = 0 then b else t) = tget s.tm p.1 ∧ ∀ x ∈ p.2.names, x < nx) (hb : hget s.hp b = some (.arr sz rows)) (hcl : cleanR rows = true) : Wk s ⟨tm, [(0, .arr sz rows)], nx, 0⟩ := by
  refine Wk.ren (fun t => if t = 0 then b else t) hfb.symm (by omega) (by omega) htm ?_ (by simp)
  intro p hp
  simp only [List.mem_singleton] at hp
  subst hp
  refine ⟨by simp only [Blk.rn, if_true, rnr_cl hcl]; exact hb, hnx, ?_⟩
  intro x hx
  rw [Blk.names, namesr_clean hcl] at hx
  simp at hx
theorem l2Ps_c (l : List Pr) (hl : l.length ≤ 2 ^ 20) (h : ∀ p ∈ l, p.val.cnt ≤ 2 ^ 20) : Rv Try.prog 153 [.imm (l.map sP.I)] (.own 5 (l.map sP.O)) := by
  refine via_spec_l2Ps (by simp) ?_
  simp [pc_spec_l2Ps]
  refine W_for (fun i => ⟨[(4, .i .i64 i), (3, .ref 0 0 i), (0, .imm (l.map sP.I))], [(0, .arr 5 ((l.map sP.O).take i))], 20, 0⟩) l.length (fun i => True) (Wk.less rfl (by simp) (by simp) (by simp)) trivial ?_
  intro i hi _
  rcases Nat.lt_or_ge i l.length with h2 | h2
  · obtain ⟨v, hx⟩ : ∃ v, l[i]? = some v := ⟨_, List.getElem?_eq_getElem h2⟩
    have hw2 : IntKind.i64.wrap ((i : Int) + 1) = (i : Int) + 1 := wrap1 (by omega)
    have hv := l1Copy_c v.val (h v (List.mem_of_getElem? hx))
    have htt : List.take i (List.take i (l.map sP.O)) = List.take i (l.map sP.O) := by rw [List.take_take]; simp
    have hlA : (List.take i (l.map sP.O)).length = i := by simp; omega
    have hnew := fill_new sP.O hx
    have hcA : cleanR (List.take i (l.map sP.O)) = true := by rw [← List.map_take]; exact sP.crO _
    have hbig : (i + 1) * 72 ≤ 35184372088832 := by omega
    have hmin : min i l.length = i := by omega
    obtain ⟨nm, k', n', s', l'⟩ := v
    simp only at hv
    simp [-getElem?_pos, hx, hw2, h2, hmin]
    repeat refine need_mk (by decide +kernel) ?_
    refine callK_val (by simp) hv (by simp [T.noImm]) ?_
    simp [-getElem?_pos, hx, hw2, h2, hmin, htt, hbig]
    generalize List.take i (l.map sP.O) = A at *
    repeat refine need_mk (by decide +kernel) ?_
    have hg := app1_get hlA
    have hs := app1_set hlA
    refine Wk.trans (Wk.join (b := 132) (r := i) (cs := sP.O ⟨nm, .mk k' n' s' l'⟩) rfl (by simp [hg]; rfl) (by simp) (by simp)) ?_
    have hcN : cleanR (List.take (i + 1) (l.map sP.O)) = true := by rw [← List.map_take]; exact sP.crO _
    exact Wk.one (b := 132) rfl (by simp) (by simp) (by simp [hs, hnew]) hcN
  · have h4 : ¬ i < l.length := by omega
    have e : (l.map sP.O).take i = l.map sP.O := List.take_of_length_le (by simp; omega)
    obtain rfl : i = l.length := by omega
    simp [e]
    exact fin_own (by simp; rfl) (by simp) (by simp) (by simp)
end Go.Proofs.Ytehdfbhfbidadaa.V
/- Copies of graphs by the spec. -/
namespace Go.Proofs.Ytehdfbhfbidadaa.V
open Go
set_option linter.unusedVariables false
set_option linter.unusedSimpArgs false
set_option maxHeartbeats 16000000
theorem l2Copy_c (g : Gr) (hc : g.cnt ≤ 2 ^ 20) : Rv Try.prog 92 [.agg (sG.I g)] (.agg (sG.O g)) := by
  obtain ⟨l, es, nn, ne⟩ := g
  unfold Gr.cnt cl at hc
  simp only at hc
  have hpN : ∀ x ∈ l, x.labels.length ≤ 2 ^ 20 ∧ x.props.length ≤ 2 ^ 20 ∧ ∀ p ∈ x.props, p.val.cnt ≤ 2 ^ 20 := by
    intro x hx
    have h1 := sums_mem (c := Nd.cnt) hx
    have h0 : x.cnt = x.labels.length + sums List.length x.labels + (x.props.length + sums Pr.cnt x.props) := rfl
    refine ⟨by omega, by omega, fun p hp => ?_⟩
    have h2 := sums_mem (c := Pr.cnt) hp
    have h3 : p.cnt = p.name.length + p.val.cnt := rfl
    omega
  have hpE : ∀ x ∈ es, x.props.length ≤ 2 ^ 20 ∧ ∀ p ∈ x.props, p.val.cnt ≤ 2 ^ 20 := by
    intro x hx
    have h1 := sums_mem (c := Eg.cnt) hx
    have h0 : x.cnt = x.kind.length + (x.props.length + sums Pr.cnt x.props) := rfl
    refine ⟨by omega, fun p hp => ?_⟩
    have h2 := sums_mem (c := Pr.cnt) hp
    have h3 : p.cnt = p.name.length + p.val.cnt := rfl
    omega
  refine via_spec_l2Copy (by simp) ?_
  simp [pc_spec_l2Copy]
  refine W_for (fun i => ⟨[(4, .i .i64 i), (1, .ptr 0 0 0), (2, .ptr 1 0 0), (3, .ptr 2 0 0)], [(0, .arr 4 [sG.I ⟨l, es, nn, ne⟩]), (1, .arr 4 [[.nl, .nl, .i .i64 0, .i .i64 0]]), (2, .arr 4 [[.own 3 ((l.map sN.O).take i), .nl, .i .i64 nn, .i .i64 ne]])], 20, 0⟩) l.length (fun _ => True) ?_ trivial ?_
  · refine Wk.trans (Wk.join (b := 2) (r := 0) (cs := [.own 3 [], .nl, .i .i64 nn, .i .i64 ne]) rfl rfl (by simp) (by simp)) ?_
    exact Wk.less rfl (by simp) (by simp) (by simp)
  intro i hi _
  rcases Nat.lt_or_ge i l.length with h1 | h1
  · obtain ⟨x, hx⟩ : ∃ x, l[i]? = some x := ⟨_, List.getElem?_eq_getElem h1⟩
    have hw : IntKind.i64.wrap ((i : Int) + 1) = (i : Int) + 1 := wrap1 (by omega)
    have hmin : min i l.length = i := by omega
    have htt : List.take i (List.take i (l.map sN.O)) = List.take i (l.map sN.O) := by rw [List.take_take]; simp
    have hlA : (List.take i (l.map sN.O)).length = i := by simp; omega
    have hnew := fill_new sN.O hx
    have hcA : cleanR (List.take i (l.map sN.O)) = true := by rw [← List.map_take]; exact sN.crO _
    have hbig : (i + 1) * 56 ≤ 35184372088832 := by omega
    obtain ⟨hb1, hb2, hb3⟩ := hpN x (List.mem_of_getElem? hx)
    have hps := l2Ps_c x.props hb2 hb3
    obtain ⟨id, lb, ps⟩ := x
    simp only at hb1 hb2 hb3 hps
    have hlb : lb.length * 16 ≤ 35184372088832 := by omega
    simp [-getElem?_pos, hx, hw, h1, hmin, hlb]
    repeat refine need_mk (by decide +kernel) ?_
    refine callK_val (by simp) hps (by simp [T.noImm]) ?_
    simp [-getElem?_pos, hx, hw, h1, hmin, htt, hbig, hlb]
    generalize List.take i (l.map sN.O) = A at *
    repeat refine need_mk (by decide +kernel) ?_
    have hg := app1_get hlA
    have hs := app1_set hlA
    have ht := app1_take hlA
    have hSS : lb.map sS.I = lb.map sS.O := rfl
    refine Wk.trans (Wk.join (b := 126) (r := i) (cs := sN.O ⟨id, lb, ps⟩) rfl (by simp [hg]; rfl) (by simp [hSS]) (by simp)) ?_
    refine Wk.trans (Wk.join (b := 2) (r := 0) (cs := [.own 3 ((l.map sN.O).take (i + 1)), .nl, .i .i64 nn, .i .i64 ne]) rfl rfl (by simp [hnew, hs, hcA, hlA, ht, sN.cO]) (by simp)) ?_
    exact Wk.to rfl (by simp) (by simp) (by simp [Blk.names]) (by simp)
  have h2 : ¬ i < l.length := by omega
  have e : (l.map sN.O).take i = l.map sN.O := List.take_of_length_le (by simp; omega)
  simp [h2, e]
  refine W_for (fun i => ⟨[(6, .i .i64 i), (1, .ptr 0 0 0), (2, .ptr 1 0 0), (3, .ptr 2 0 0)], [(0, .arr 4 [sG.I ⟨l, es, nn, ne⟩]), (1, .arr 4 [[.nl, .nl, .i .i64 0, .i .i64 0]]), (2, .arr 4 [[.own 3 (l.map sN.O), .own 5 ((es.map sE.O).take i), .i .i64 nn, .i .i64 ne]])], 20, 0⟩) es.length (fun _ => True) ?_ trivial ?_
  · refine Wk.trans (Wk.join (b := 2) (r := 0) (cs := [.own 3 (l.map sN.O), .own 5 [], .i .i64 nn, .i .i64 ne]) rfl rfl (by simp) (by simp)) ?_
    exact Wk.less rfl (by simp) (by simp) (by simp)
  clear h2 e h1 hi
  intro i hi _
  rcases Nat.lt_or_ge i es.length with h1 | h1
  · obtain ⟨x, hx⟩ : ∃ x, es[i]? = some x := ⟨_, List.getElem?_eq_getElem h1⟩
    have hw : IntKind.i64.wrap ((i : Int) + 1) = (i : Int) + 1 := wrap1 (by omega)
    have hmin : min i es.length = i := by omega
    have htt : List.take i (List.take i (es.map sE.O)) = List.take i (es.map sE.O) := by rw [List.take_take]; simp
    have hlA : (List.take i (es.map sE.O)).length = i := by simp; omega
    have hnew := fill_new sE.O hx
    have hcA : cleanR (List.take i (es.map sE.O)) = true := by rw [← List.map_take]; exact sE.crO _
    have hbig : (i + 1) * 64 ≤ 35184372088832 := by omega
    obtain ⟨hb2, hb3⟩ := hpE x (List.mem_of_getElem? hx)
    have hps := l2Ps_c x.props hb2 hb3
    obtain ⟨id, kd, fr, to, ps⟩ := x
    simp only at hb2 hb3 hps
    simp [-getElem?_pos, hx, hw, h1, hmin]
    repeat refine need_mk (by decide +kernel) ?_
    refine callK_val (by simp) hps (by simp [T.noImm]) ?_
    simp [-getElem?_pos, hx, hw, h1, hmin, htt, hbig]
    generalize List.take i (es.map sE.O) = A at *
    repeat refine need_mk (by decide +kernel) ?_
    have hg := app1_get hlA
    have hs := app1_set hlA
    have ht := app1_take hlA
    refine Wk.trans (Wk.join (b := 27) (r := i) (cs := sE.O ⟨id, kd, fr, to, ps⟩) rfl (by simp [hg]; rfl) (by simp) (by simp)) ?_
    refine Wk.trans (Wk.join (b := 2) (r := 0) (cs := [.own 3 (l.map sN.O), .own 5 ((es.map sE.O).take (i + 1)), .i .i64 nn, .i .i64 ne]) rfl rfl (by simp [hnew, hs, hcA, hlA, ht, sE.cO]) (by simp)) ?_
    exact Wk.to rfl (by simp) (by simp) (by simp [Blk.names]) (by simp)
  · have h2 : ¬ i < es.length := by omega
    have e : (es.map sE.O).take i = es.map sE.O := List.take_of_length_le (by simp; omega)
    simp [h2, e]
    exact fin_own (by simp; rfl) (by simp) (by simp) (by simp)
end Go.Proofs.Ytehdfbhfbidadaa.V
/- Copies of graphs. -/
namespace Go.Proofs.Ytehdfbhfbidadaa.V
open Go
set_option linter.unusedVariables false
set_option linter.unusedSimpArgs false
set_option maxHeartbeats 16000000
end Go.Proofs.Ytehdfbhfbidadaa.V
/- Edges that go. -/
namespace Go.Proofs.Ytehdfbhfbidadaa.V
open Go
set_option linter.unusedVariables false
set_option linter.unusedSimpArgs false
set_option maxHeartbeats 16000000
/-- A slice that is nil, as one of a block without rows. -/
theorem Wk.nil {s : St} {j k sz : Nat} (h : tget s.tm j = .nl) (hk : s.nx ≤ k) : Wk s ⟨(j, .ref k 0 0) :: s.tm, hset s.hp k (.arr sz []), k + 1, s.fb⟩ := by
  rintro E a w ⟨⟨ρ, O, F, hR⟩, hE⟩
  have h1 := hR.set1 (t := k) (k := .arr sz []) (Ft := []) (M := []) (A' := (· < k + 1)) (ρ' := fun t => if t = k then none else ρ t) (w' := w) (hp0 := s.hp)
    (fun t ht => by omega) (fun t ht => if_neg (by omega)) (fun t ht => by rw [if_neg (by omega)]; exact hR.ρ0 t ht) (fun _ _ => rfl) (fun _ _ h => h) (fun _ _ _ _ _ _ => rfl) (Keep.refl _ _) (by simp) (by omega)
    (by simp only [BR]; exact .inl ⟨trivial, trivial, .inl (by simp)⟩) (by simp) (by simp) (by simp)
  refine ⟨⟨_, O, _, h1.size, h1.defers, h1.fb, h1.ρ0, h1.O0, h1.Olt, h1.Onew, fun i => ?_, h1.hp, h1.nodup, h1.apart, h1.mine, h1.keep⟩, by simp only; omega⟩
  simp only [tget]
  split
  · rename_i e
    subst e
    have := hR.tm j
    rw [h] at this
    simp only [CV, CI] at this
    simp only [CV]
    exact ⟨by omega, .inl ⟨by simp, trivial, trivial, _, this⟩⟩
  · exact h1.tm i
def dE (e : Eg) : List T := [.i .i64 e.id, .s e.kind, .i .i64 e.frm, .i .i64 e.to, .dead]
end Go.Proofs.Ytehdfbhfbidadaa.V
/- Copies of graphs by the program. -/
namespace Go.Proofs.Ytehdfbhfbidadaa.V
open Go
set_option linter.unusedVariables false
set_option linter.unusedSimpArgs false
set_option maxHeartbeats 16000000
abbrev zN : List T := [.i .i64 0, .nl, .nl]
abbrev zE : List T := [.i .i64 0, .s [], .i .i64 0, .i .i64 0, .nl]
def cgs (g : Gr) (N E : T) (rest : List (Nat × T)) (nx : Nat) : St := ⟨rest ++ [(1, .ptr 0 0 0), (2, .ptr 1 0 0), (3, .ptr 2 0 0)], [(0, .arr 4 [sG.I g]), (1, .arr 4 [[.nl, .nl, .i .i64 0, .i .i64 0]]), (2, .arr 4 [[N, E, .i .i64 g.nn, .i .i64 g.ne]])], nx, 0⟩
theorem cg_l1 (g : Gr) (hl : g.nodes.length ≤ 2 ^ 20) (hN : ∀ x ∈ g.nodes, x.labels.length ≤ 2 ^ 20 ∧ x.props.length ≤ 2 ^ 20 ∧ ∀ p ∈ x.props, Rv Try.prog 88 [.agg (sV.I p.val)] (.agg (sV.O p.val))) {Q : Exit → St → Prop}
    (hQ : Q (.exit 0) (cgs g (.own 3 (g.nodes.map sN.O)) .nl [(26, .b false), (25, .i .i64 g.nodes.length), (24, .i .i64 g.nodes.length), (23, .imm (g.nodes.map sN.I))] 20)) :
    @loopH Try.prog modes 79 ⟨lb_impl_cloneGraph_0⟩ (cgs g (.own 3 (List.replicate g.nodes.length zN)) .nl [(25, .i .i64 0), (24, .i .i64 g.nodes.length), (23, .imm (g.nodes.map sN.I))] 20) ⟨Q⟩ := by
  obtain ⟨l, es, nn, ne⟩ := g
  simp only at hl hN hQ
  have hrep : ∀ k, cleanR (List.replicate k zN) = true := by intro k; simp [cleanR, T.clean]
  refine W_for (fun i => cgs ⟨l, es, nn, ne⟩ (.own 3 ((l.map sN.O).take i ++ List.replicate (l.length - i) zN)) .nl [(25, .i .i64 i), (24, .i .i64 l.length), (23, .imm (l.map sN.I))] 20) l.length (fun _ => True) (Wk.less rfl (by simp [cgs]) (by simp [cgs]) (by simp [cgs])) trivial ?_
  intro i hi _
  simp only [cgs, List.cons_append, List.nil_append] at hQ ⊢
  rcases Nat.lt_or_ge i l.length with h1 | h1
  · obtain ⟨x, hx⟩ : ∃ x, l[i]? = some x := ⟨_, List.getElem?_eq_getElem h1⟩
    have hw : IntKind.i64.wrap ((i : Int) + 1) = (i : Int) + 1 := wrap1 (by omega)
    have hrow := fill_row sN.O l (z := zN) h1
    have hset := fill_set sN.O l (z := zN) h1
    have hnew := fill_new sN.O hx
    have hg := fun r => fill_get sN.O (l := l) (r := r) (z := zN) h1
    have hs2 := fun r r' => fill_set2 sN.O (l := l) (r := r) (r' := r') (z := zN) h1
    obtain ⟨k1, k2, k3⟩ := hN x (List.mem_of_getElem? hx)
    have ht := cloneTexts_c x.labels k1
    have hps := cloneProps_c x.props k2 k3
    obtain ⟨id, lb, ps⟩ := x
    simp only at ht hps k1 k2
    simp [lb_impl_cloneGraph_0, -getElem?_pos, hx, hw, h1, hrow, hset]
    repeat refine need_mk (by decide +kernel) ?_
    refine callK_val (by simp) ht (by simp [T.noImm]) ?_
    simp [-getElem?_pos, hx, hw, h1, hrow, hset]
    repeat refine need_mk (by decide +kernel) ?_
    refine callK_val (by simp) hps (by simp [T.noImm]) ?_
    have hml : min i l.length + (l.length - i) = l.length := by omega
    have hmi : (min (i : Int) (l.length : Int)) + ((l.length - i : Nat) : Int) = l.length := by omega
    have htl : ∀ r, ((l.map sN.O).take i ++ r :: List.replicate (l.length - (i + 1)) zN).take l.length = (l.map sN.O).take i ++ r :: List.replicate (l.length - (i + 1)) zN := fun r => List.take_of_length_le (by simp; omega)
    have hle : l.length ≤ min i l.length + (l.length - (i + 1) + 1) := by omega
    have hcA : cleanR ((l.map sN.O).take i) = true := by rw [← List.map_take]; exact sN.crO _
    simp [-getElem?_pos, hx, hw, h1, hrow, hset, hml, hmi]
    repeat refine need_mk (by decide +kernel) ?_
    refine Wk.trans (Wk.join (b := 30) (r := i) (cs := sN.O ⟨id, lb, ps⟩) rfl (by simp [hg]; rfl) (by simp) (by simp)) ?_
    refine Wk.trans (Wk.join (b := 2) (r := 0) (cs := [.own 3 ((l.map sN.O).take (i + 1) ++ List.replicate (l.length - (i + 1)) zN), .nl, .i .i64 nn, .i .i64 ne]) rfl rfl (by simp [hs2, hnew, hle, htl, hcA, hrep]) (by simp)) ?_
    exact Wk.to rfl (by simp) (by simp) (by simp [Blk.names]) (by simp)
  · have h2 : ¬ i < l.length := by omega
    obtain rfl : i = l.length := by omega
    have e1 : (l.map sN.O).take l.length = l.map sN.O := List.take_of_length_le (by simp)
    simp [lb_impl_cloneGraph_0, e1]
    exact hQ
theorem cg_l2 (g : Gr) (hl : g.edges.length ≤ 2 ^ 20) (hE : ∀ x ∈ g.edges, x.props.length ≤ 2 ^ 20 ∧ ∀ p ∈ x.props, Rv Try.prog 88 [.agg (sV.I p.val)] (.agg (sV.O p.val))) {Q : Exit → St → Prop}
    (hQ : Q (.exit 2) (cgs g (.own 3 (g.nodes.map sN.O)) (.own 5 (g.edges.map sE.O)) [(57, .b false), (56, .i .i64 g.edges.length), (55, .i .i64 g.edges.length), (54, .imm (g.edges.map sE.I))] 60)) :
    @loopH Try.prog modes 79 ⟨lb_impl_cloneGraph_1⟩ (cgs g (.own 3 (g.nodes.map sN.O)) (.own 5 (List.replicate g.edges.length zE)) [(56, .i .i64 0), (55, .i .i64 g.edges.length), (54, .imm (g.edges.map sE.I))] 60) ⟨Q⟩ := by
  obtain ⟨l, es, nn, ne⟩ := g
  simp only at hl hE hQ
  have hrep : ∀ k, cleanR (List.replicate k zE) = true := by intro k; simp [cleanR, T.clean]
  refine W_for (fun i => cgs ⟨l, es, nn, ne⟩ (.own 3 (l.map sN.O)) (.own 5 ((es.map sE.O).take i ++ List.replicate (es.length - i) zE)) [(56, .i .i64 i), (55, .i .i64 es.length), (54, .imm (es.map sE.I))] 60) es.length (fun _ => True) (Wk.less rfl (by simp [cgs]) (by simp [cgs]) (by simp [cgs])) trivial ?_
  intro i hi _
  simp only [cgs, List.cons_append, List.nil_append] at hQ ⊢
  rcases Nat.lt_or_ge i es.length with h1 | h1
  · obtain ⟨x, hx⟩ : ∃ x, es[i]? = some x := ⟨_, List.getElem?_eq_getElem h1⟩
    have hw : IntKind.i64.wrap ((i : Int) + 1) = (i : Int) + 1 := wrap1 (by omega)
    have hrow := fill_row sE.O es (z := zE) h1
    have hset := fill_set sE.O es (z := zE) h1
    have hnew := fill_new sE.O hx
    have hg := fun r => fill_get sE.O (l := es) (r := r) (z := zE) h1
    have hs2 := fun r r' => fill_set2 sE.O (l := es) (r := r) (r' := r') (z := zE) h1
    obtain ⟨k2, k3⟩ := hE x (List.mem_of_getElem? hx)
    have hps := cloneProps_c x.props k2 k3
    obtain ⟨id, kd, fr, to, ps⟩ := x
    simp only at hps k2
    have hml : min i es.length + (es.length - i) = es.length := by omega
    have hmi : (min (i : Int) (es.length : Int)) + ((es.length - i : Nat) : Int) = es.length := by omega
    have htl : ∀ r, ((es.map sE.O).take i ++ r :: List.replicate (es.length - (i + 1)) zE).take es.length = (es.map sE.O).take i ++ r :: List.replicate (es.length - (i + 1)) zE := fun r => List.take_of_length_le (by simp; omega)
    have hle : es.length ≤ min i es.length + (es.length - (i + 1) + 1) := by omega
    have hcA : cleanR ((es.map sE.O).take i) = true := by rw [← List.map_take]; exact sE.crO _
    simp [lb_impl_cloneGraph_1, -getElem?_pos, hx, hw, h1, hrow, hset, hml, hmi]
    repeat refine need_mk (by decide +kernel) ?_
    refine callK_val (by simp) hps (by simp [T.noImm]) ?_
    simp [-getElem?_pos, hx, hw, h1, hrow, hset, hml, hmi]
    repeat refine need_mk (by decide +kernel) ?_
    refine Wk.trans (Wk.join (b := 70) (r := i) (cs := sE.O ⟨id, kd, fr, to, ps⟩) rfl (by simp [hg]; rfl) (by simp) (by simp)) ?_
    refine Wk.trans (Wk.join (b := 2) (r := 0) (cs := [.own 3 (l.map sN.O), .own 5 ((es.map sE.O).take (i + 1) ++ List.replicate (es.length - (i + 1)) zE), .i .i64 nn, .i .i64 ne]) rfl rfl (by simp [hs2, hnew, hle, htl, hcA, hrep]) (by simp)) ?_
    exact Wk.to rfl (by simp) (by simp) (by simp [Blk.names]) (by simp)
  · have h2 : ¬ i < es.length := by omega
    obtain rfl : i = es.length := by omega
    have e1 : (es.map sE.O).take es.length = es.map sE.O := List.take_of_length_le (by simp)
    simp [lb_impl_cloneGraph_1, e1]
    exact hQ
theorem cloneGraph_c (g : Gr) (hc : g.cnt ≤ 2 ^ 20) (hN : ∀ x ∈ g.nodes, ∀ p ∈ x.props, Rv Try.prog 88 [.agg (sV.I p.val)] (.agg (sV.O p.val))) (hE : ∀ x ∈ g.edges, ∀ p ∈ x.props, Rv Try.prog 88 [.agg (sV.I p.val)] (.agg (sV.O p.val))) : Rv Try.prog 96 [.agg (sG.I g)] (.agg (sG.O g)) := by
  have hpN : ∀ x ∈ g.nodes, x.labels.length ≤ 2 ^ 20 ∧ x.props.length ≤ 2 ^ 20 ∧ ∀ p ∈ x.props, Rv Try.prog 88 [.agg (sV.I p.val)] (.agg (sV.O p.val)) := by
    intro x hx
    have h1 := sums_mem (c := Nd.cnt) hx
    have h0 : x.cnt = x.labels.length + sums List.length x.labels + (x.props.length + sums Pr.cnt x.props) := rfl
    unfold Gr.cnt cl at hc
    exact ⟨by omega, by omega, hN x hx⟩
  have hpE : ∀ x ∈ g.edges, x.props.length ≤ 2 ^ 20 ∧ ∀ p ∈ x.props, Rv Try.prog 88 [.agg (sV.I p.val)] (.agg (sV.O p.val)) := by
    intro x hx
    have h1 := sums_mem (c := Eg.cnt) hx
    have h0 : x.cnt = x.kind.length + (x.props.length + sums Pr.cnt x.props) := rfl
    unfold Gr.cnt cl at hc
    exact ⟨by omega, hE x hx⟩
  have hl1 : g.nodes.length ≤ 2 ^ 20 := by unfold Gr.cnt cl at hc; omega
  have hl2 : g.edges.length ≤ 2 ^ 20 := by unfold Gr.cnt cl at hc; omega
  have L1 := fun {Q} => @cg_l1 g hl1 hpN Q
  have L2 := fun {Q} => @cg_l2 g hl2 hpE Q
  obtain ⟨l, es, nn, ne⟩ := g
  simp only [cgs, List.cons_append, List.nil_append] at L1 L2 hl1 hl2
  refine via_impl_cloneGraph (by simp) ?_
  have hb1 : (l.length : Int) * 56 ≤ 35184372088832 := by omega
  have hb2 : (l.length : Int) ≤ 35184372088832 := by omega
  have hb3 : (es.length : Int) * 64 ≤ 35184372088832 := by omega
  have hb4 : (es.length : Int) ≤ 35184372088832 := by omega
  have hrep : ∀ k, cleanR (List.replicate k zN) = true := by intro k; simp [cleanR, T.clean]
  have hrepE : ∀ k, cleanR (List.replicate k zE) = true := by intro k; simp [cleanR, T.clean]
  by_cases h0 : l.length = 0
  · simp [pc_impl_cloneGraph, h0]
    refine W_wk (s' := ⟨[(25, .i .i64 0), (24, .i .i64 l.length), (23, .imm (l.map sN.I)), (1, .ptr 0 0 0), (2, .ptr 1 0 0), (3, .ptr 2 0 0)], [(0, .arr 4 [sG.I ⟨l, es, nn, ne⟩]), (1, .arr 4 [[.nl, .nl, .i .i64 0, .i .i64 0]]), (2, .arr 4 [[.own 3 (List.replicate l.length zN), .nl, .i .i64 nn, .i .i64 ne]])], 20, 0⟩) ?_ (L1 ?_)
    · refine Wk.trans (Wk.join (b := 2) (r := 0) (cs := [.own 3 [], .nl, .i .i64 nn, .i .i64 ne]) rfl rfl (by simp) (by simp)) ?_
      exact Wk.less rfl (by simp) (by simp [h0]) (by simp [h0])
    · clear h0
      by_cases h3 : es.length = 0
      · simp [h3]
        refine W_wk (s' := ⟨[(56, .i .i64 0), (55, .i .i64 es.length), (54, .imm (es.map sE.I)), (1, .ptr 0 0 0), (2, .ptr 1 0 0), (3, .ptr 2 0 0)], [(0, .arr 4 [sG.I ⟨l, es, nn, ne⟩]), (1, .arr 4 [[.nl, .nl, .i .i64 0, .i .i64 0]]), (2, .arr 4 [[.own 3 (l.map sN.O), .own 5 (List.replicate es.length zE), .i .i64 nn, .i .i64 ne]])], 60, 0⟩) ?_ (L2 ?_)
        · refine Wk.trans (Wk.join (b := 2) (r := 0) (cs := [.own 3 (l.map sN.O), .own 5 [], .i .i64 nn, .i .i64 ne]) rfl rfl (by simp) (by simp)) ?_
          exact Wk.less rfl (by simp) (by simp [h3]) (by simp [h3])
        · simp
          exact fin_own (by simp; rfl) (by simp) (by simp) (by simp)
      · have h3' : 0 < es.length := by omega
        simp [h3', hb3, hb4]
        refine W_wk (s' := ⟨[(56, .i .i64 0), (55, .i .i64 es.length), (54, .imm (es.map sE.I)), (1, .ptr 0 0 0), (2, .ptr 1 0 0), (3, .ptr 2 0 0)], [(0, .arr 4 [sG.I ⟨l, es, nn, ne⟩]), (1, .arr 4 [[.nl, .nl, .i .i64 0, .i .i64 0]]), (2, .arr 4 [[.own 3 (l.map sN.O), .own 5 (List.replicate es.length zE), .i .i64 nn, .i .i64 ne]])], 60, 0⟩) ?_ (L2 ?_)
        · refine Wk.trans (Wk.join (b := 2) (r := 0) (cs := [.own 3 (l.map sN.O), .own 5 (List.replicate es.length zE), .i .i64 nn, .i .i64 ne]) rfl rfl (by simp [hrepE]) (by simp)) ?_
          exact Wk.less rfl (by simp) (by simp) (by simp)
        · simp
          exact fin_own (by simp; rfl) (by simp) (by simp) (by simp)
  · have h0' : 0 < l.length := by omega
    simp [pc_impl_cloneGraph, h0', hb1, hb2]
    refine W_wk (s' := ⟨[(25, .i .i64 0), (24, .i .i64 l.length), (23, .imm (l.map sN.I)), (1, .ptr 0 0 0), (2, .ptr 1 0 0), (3, .ptr 2 0 0)], [(0, .arr 4 [sG.I ⟨l, es, nn, ne⟩]), (1, .arr 4 [[.nl, .nl, .i .i64 0, .i .i64 0]]), (2, .arr 4 [[.own 3 (List.replicate l.length zN), .nl, .i .i64 nn, .i .i64 ne]])], 20, 0⟩) ?_ (L1 ?_)
    · refine Wk.trans (Wk.join (b := 2) (r := 0) (cs := [.own 3 (List.replicate l.length zN), .nl, .i .i64 nn, .i .i64 ne]) rfl rfl (by simp [hrep]) (by simp)) ?_
      exact Wk.less rfl (by simp) (by simp) (by simp)
    · clear h0 h0'
      by_cases h3 : es.length = 0
      · simp [h3]
        refine W_wk (s' := ⟨[(56, .i .i64 0), (55, .i .i64 es.length), (54, .imm (es.map sE.I)), (1, .ptr 0 0 0), (2, .ptr 1 0 0), (3, .ptr 2 0 0)], [(0, .arr 4 [sG.I ⟨l, es, nn, ne⟩]), (1, .arr 4 [[.nl, .nl, .i .i64 0, .i .i64 0]]), (2, .arr 4 [[.own 3 (l.map sN.O), .own 5 (List.replicate es.length zE), .i .i64 nn, .i .i64 ne]])], 60, 0⟩) ?_ (L2 ?_)
        · refine Wk.trans (Wk.join (b := 2) (r := 0) (cs := [.own 3 (l.map sN.O), .own 5 [], .i .i64 nn, .i .i64 ne]) rfl rfl (by simp) (by simp)) ?_
          exact Wk.less rfl (by simp) (by simp [h3]) (by simp [h3])
        · simp
          exact fin_own (by simp; rfl) (by simp) (by simp) (by simp)
      · have h3' : 0 < es.length := by omega
        simp [h3', hb3, hb4]
        refine W_wk (s' := ⟨[(56, .i .i64 0), (55, .i .i64 es.length), (54, .imm (es.map sE.I)), (1, .ptr 0 0 0), (2, .ptr 1 0 0), (3, .ptr 2 0 0)], [(0, .arr 4 [sG.I ⟨l, es, nn, ne⟩]), (1, .arr 4 [[.nl, .nl, .i .i64 0, .i .i64 0]]), (2, .arr 4 [[.own 3 (l.map sN.O), .own 5 (List.replicate es.length zE), .i .i64 nn, .i .i64 ne]])], 60, 0⟩) ?_ (L2 ?_)
        · refine Wk.trans (Wk.join (b := 2) (r := 0) (cs := [.own 3 (l.map sN.O), .own 5 (List.replicate es.length zE), .i .i64 nn, .i .i64 ne]) rfl rfl (by simp [hrepE]) (by simp)) ?_
          exact Wk.less rfl (by simp) (by simp) (by simp)
        · simp
          exact fin_own (by simp; rfl) (by simp) (by simp) (by simp)
end Go.Proofs.Ytehdfbhfbidadaa.V
/- Edges dropped. -/
namespace Go.Proofs.Ytehdfbhfbidadaa.V
open Go
set_option linter.unusedVariables false
set_option linter.unusedSimpArgs false
set_option maxHeartbeats 16000000
/-- A contract of a call whose result is shared for good. -/
def Ri (P : Program) (f : Nat) (xs : List T) (v : T) : Prop := ∃ r, Rv P f xs r ∧ r.toI = v
theorem callK_ri {P : Program} {s : St} {i f : Nat} {args xs : List T} {v : T} {K : T → Δ → List Nat → Prop} (hx : handed s [] 0 args = some xs) (hr : Ri P f xs v) (hk : K v ((named [] false 0 args).map fun t => (t, none)) (named [] false 0 args)) : callK P s i [] .imm f args K := by
  obtain ⟨r, h1, rfl⟩ := hr
  exact callK_imm hx h1 hk
theorem fin_eaten {P : Program} {s : St} {rs : List ResultVar} {args : List T} {r : T} {xs : List T} (h1 : resK P s rs = some xs) (h2 : rfP s (res1 xs) r) (h4 : (rfN (res1 xs) r).Nodup) : fin P rs args r (args.map fun _ => .dead) .ret s :=
  fin_eat h1 (rfP_ok h2) h4
theorem fin_wk {P : Program} {s s' : St} {rs : List ResultVar} {args outs : List T} {r : T} {e : Exit} (hw : Wk s s') (h : fin P rs args r outs e s') : fin P rs args r outs e s := by
  obtain ⟨h1, s2, h2, h3⟩ := h
  exact ⟨h1, s2, Wk.trans hw h2, h3⟩
def zG : Gr := ⟨[], [], 0, 0⟩
def gDropE (g : Gr) (id : Int) : Gr := { g with edges := g.edges.filter (fun e => !decide (e.id = id)) }
open Classical in
noncomputable def edgeDrop (g : Gr) (id : Int) : Gr × Bool :=
  if GOk g then (if posOf Eg.id id g.edges < 0 then (g, false) else (gDropE g id, true)) else (zG, false)
theorem PropsOk.val {ps : List Pr} (h : PropsOk ps) : ∀ p ∈ ps, vOk p.val = true := by
  intro p hp
  obtain ⟨j, hj⟩ := List.mem_iff_getElem?.1 hp
  have := (h.1 j p hj).1
  simp only [prOk, sto, Bool.and_eq_true] at this
  exact this.2.1
theorem cloneOk {g : Gr} (hf : g.fit) (hc : g.cnt ≤ 2 ^ 20) (hg : GOk g) : Rv Try.prog 96 [.agg (sG.I g)] (.agg (sG.O g)) := by
  refine cloneGraph_c g hc ?_ ?_
  · intro x hx p hp
    have h1 := sums_mem (c := Nd.cnt) hx
    have h0 : x.cnt = x.labels.length + sums List.length x.labels + (x.props.length + sums Pr.cnt x.props) := rfl
    have h2 := sums_mem (c := Pr.cnt) hp
    have h3 : p.cnt = p.name.length + p.val.cnt := rfl
    unfold Gr.cnt cl at hc
    exact cloneValue_c p.val ((hf.2.1 x hx).2.2.2.2 p hp).2 (by omega) (PropsOk.val (hg.nok x hx).2 p hp)
  · intro x hx p hp
    have h1 := sums_mem (c := Eg.cnt) hx
    have h0 : x.cnt = x.kind.length + (x.props.length + sums Pr.cnt x.props) := rfl
    have h2 := sums_mem (c := Pr.cnt) hp
    have h3 : p.cnt = p.name.length + p.val.cnt := rfl
    unfold Gr.cnt cl at hc
    exact cloneValue_c p.val ((hf.2.2.2.1 x hx).2.2.2.2.2 p hp).2 (by omega) (PropsOk.val (hg.eok x hx).2.1 p hp)
end Go.Proofs.Ytehdfbhfbidadaa.V
/- Nodes added. -/
namespace Go.Proofs.Ytehdfbhfbidadaa.V
open Go
set_option linter.unusedVariables false
set_option linter.unusedSimpArgs false
set_option maxHeartbeats 16000000
def gAddN (g : Gr) (lb : List Tx) (ps : List Pr) : Gr := ⟨g.nodes ++ [⟨g.nn, lb, ps⟩], g.edges, g.nn + 1, g.ne⟩
def addNOk (g : Gr) (lb : List Tx) (ps : List Pr) : Prop := LabelsOk lb ∧ PropsOk ps ∧ g.nodes.length < 12 ∧ g.nn < 1000000000
open Classical in
noncomputable def nAdd (g : Gr) (lb : List Tx) (ps : List Pr) : Gr × Bool := if addNOk g lb ps then (gAddN g lb ps, true) else (g, false)
open Classical in
noncomputable def nodeAdd (g : Gr) (lb : List Tx) (ps : List Pr) : Gr × Int × Bool :=
  if GOk g then ((nAdd g lb ps).1, if addNOk g lb ps then g.nn else 0, decide (addNOk g lb ps)) else (zG, 0, false)
end Go.Proofs.Ytehdfbhfbidadaa.V
/- Nodes added: the two functions. -/
namespace Go.Proofs.Ytehdfbhfbidadaa.V
open Go
set_option linter.unusedVariables false
set_option linter.unusedSimpArgs false
set_option maxHeartbeats 16000000
end Go.Proofs.Ytehdfbhfbidadaa.V
/- Edges added. -/
namespace Go.Proofs.Ytehdfbhfbidadaa.V
open Go
set_option linter.unusedVariables false
set_option linter.unusedSimpArgs false
set_option maxHeartbeats 16000000
def gAddE (g : Gr) (kd : Tx) (fr to : Int) (ps : List Pr) : Gr := ⟨g.nodes, g.edges ++ [⟨g.ne, kd, fr, to, ps⟩], g.nn, g.ne + 1⟩
def addEOk (g : Gr) (kd : Tx) (fr to : Int) (ps : List Pr) : Prop := nameOk kd = true ∧ PropsOk ps ∧ 0 ≤ posOf Nd.id fr g.nodes ∧ 0 ≤ posOf Nd.id to g.nodes ∧ g.edges.length < 16 ∧ g.ne < 1000000000
open Classical in
noncomputable def eAdd (g : Gr) (kd : Tx) (fr to : Int) (ps : List Pr) : Gr × Bool := if addEOk g kd fr to ps then (gAddE g kd fr to ps, true) else (g, false)
open Classical in
noncomputable def edgeAdd (g : Gr) (kd : Tx) (fr to : Int) (ps : List Pr) : Gr × Int × Bool :=
  if GOk g then ((eAdd g kd fr to ps).1, if addEOk g kd fr to ps then g.ne else 0, decide (addEOk g kd fr to ps)) else (zG, 0, false)
theorem nameOk_len {s : Tx} (h : nameOk s = true) : s.length ≤ 8 := by
  cases s with
  | nil => simp [nameOk] at h
  | cons c r =>
    simp only [nameOk, Bool.and_eq_true, decide_eq_true_eq] at h
    have := h.1.2
    simp only [List.length_cons]; omega
end Go.Proofs.Ytehdfbhfbidadaa.V
/- Edges beside their nodes. -/
namespace Go.Proofs.Ytehdfbhfbidadaa.V
open Go
set_option linter.unusedVariables false
set_option linter.unusedSimpArgs false
set_option maxHeartbeats 16000000
abbrev Grp := List (Int × List Int)
def gFind (k : Int) (m : Grp) : Option Nat := m.findIdx? (fun p => decide (p.1 = k))
def gGet (k : Int) (m : Grp) : List Int := match gFind k m with | some j => (match m[j]? with | some p => p.2 | none => []) | none => []
def gAdd (m : Grp) (k i : Int) : Grp := match gFind k m with | some j => m.set j (k, gGet k m ++ [i]) | none => m ++ [(k, [i])]
def gT (m : Grp) : List (T × T) := m.map fun p => (.i .i64 p.1, .own 1 (p.2.map sI.O))
def gStep (m : Grp) (p : Eg × Nat) : Grp := if p.1.to ≠ p.1.frm then gAdd (gAdd m p.1.frm p.2) p.1.to p.2 else gAdd m p.1.frm p.2
def bsd (es : List Eg) : Grp := es.zipIdx.foldl gStep []
/-- How long a row is at most. -/
def gLen (m : Grp) (n : Nat) : Prop := ∀ p ∈ m, p.2.length ≤ n
theorem gT_clean (m : Grp) : ((gT m).map Prod.snd).all T.clean = true := by
  simp only [gT, List.map_map, List.all_map, List.all_eq_true]
  intro p _
  rfl
@[simp] theorem gT_names (m : Grp) : namess ((gT m).map Prod.snd) = [] := namess_clean (gT_clean m)
end Go.Proofs.Ytehdfbhfbidadaa.V
/- Edges of a node. -/
namespace Go.Proofs.Ytehdfbhfbidadaa.V
open Go
set_option linter.unusedVariables false
set_option linter.unusedSimpArgs false
set_option maxHeartbeats 16000000
def atN (id : Int) (e : Eg) : Bool := decide (e.frm = id) || decide (e.to = id)
def plAt (id : Int) (es : List Eg) : List (Eg × Nat) := es.zipIdx.filter (fun p => atN id p.1)
def goes (id way : Int) (kd : Tx) (e : Eg) : Bool := (decide (kd = []) || decide (e.kind = kd)) && ((decide (0 ≤ way) && decide (e.frm = id)) || (decide (way ≤ 0) && decide (e.to = id)))
def idsOf (id way : Int) (kd : Tx) (es : List Eg) : List Int := (es.filter (goes id way kd)).map Eg.id
open Classical in
noncomputable def edgesOf (g : Gr) (id way : Int) (kd : Tx) : List Int := if GOk g ∧ -1 ≤ way ∧ way ≤ 1 then idsOf id way kd g.edges else []
end Go.Proofs.Ytehdfbhfbidadaa.V
/- Edges of a node, by the reference. -/
namespace Go.Proofs.Ytehdfbhfbidadaa.V
open Go
set_option linter.unusedVariables false
set_option linter.unusedSimpArgs false
set_option maxHeartbeats 16000000
end Go.Proofs.Ytehdfbhfbidadaa.V
/- Edges of a node: the two functions. -/
namespace Go.Proofs.Ytehdfbhfbidadaa.V
open Go
set_option linter.unusedVariables false
set_option linter.unusedSimpArgs false
set_option maxHeartbeats 16000000
end Go.Proofs.Ytehdfbhfbidadaa.V
/- Nodes that go. -/
namespace Go.Proofs.Ytehdfbhfbidadaa.V
open Go
set_option linter.unusedVariables false
set_option linter.unusedSimpArgs false
set_option maxHeartbeats 16000000
def dN (e : Nd) : List T := [.i .i64 e.id, .dead, .dead]
end Go.Proofs.Ytehdfbhfbidadaa.V
/- Nodes dropped: what comes of it. -/
namespace Go.Proofs.Ytehdfbhfbidadaa.V
open Go
set_option linter.unusedVariables false
set_option linter.unusedSimpArgs false
set_option maxHeartbeats 16000000
def gDropN (g : Gr) (id : Int) : Gr := ⟨g.nodes.filter (fun n => !decide (n.id = id)), g.edges.filter (fun e => !(idsOf id 0 [] g.edges).contains e.id), g.nn, g.ne⟩
def dropN (g : Gr) (id : Int) (det : Bool) : Gr × Bool := if idsOf id 0 [] g.edges ≠ [] ∧ det = false then (g, false) else (gDropN g id, true)
open Classical in
noncomputable def nodeDrop (g : Gr) (id : Int) (det : Bool) : Gr × Bool := if GOk g then (if posOf Nd.id id g.nodes < 0 then (g, false) else dropN g id det) else (zG, false)
end Go.Proofs.Ytehdfbhfbidadaa.V
/- Whether two values are the same. -/
namespace Go.Proofs.Ytehdfbhfbidadaa.V
open Go
set_option linter.unusedVariables false
set_option linter.unusedSimpArgs false
set_option maxHeartbeats 4000000
noncomputable def sameB (a b : Vl) : Bool := @decide (a = b) (Classical.propDecidable _)
end Go.Proofs.Ytehdfbhfbidadaa.V
/- Nodes with a label. -/
namespace Go.Proofs.Ytehdfbhfbidadaa.V
open Go
set_option linter.unusedVariables false
set_option linter.unusedSimpArgs false
set_option maxHeartbeats 4000000
def withL (lb : Tx) (n : Nd) : Bool := decide (lb = []) || decide (lb ∈ n.labels)
def idsWith (lb : Tx) (l : List Nd) : List Int := (l.filter (withL lb)).map Nd.id
open Classical in
noncomputable def nodesWith (g : Gr) (lb : Tx) : List Int := if GOk g then idsWith lb g.nodes else []
end Go.Proofs.Ytehdfbhfbidadaa.V
/- What is found by a prop. -/
namespace Go.Proofs.Ytehdfbhfbidadaa.V
open Go
set_option linter.unusedVariables false
set_option linter.unusedSimpArgs false
set_option maxHeartbeats 8000000
noncomputable def hasV (nm : Tx) (v : Vl) (x : Nd) : Bool := decide ((getP x.props nm).k ≠ 0) && sameB (getP x.props nm) v
noncomputable def findL (lb nm : Tx) (v : Vl) (l : List Nd) : List Int := (l.filter (fun x => withL lb x && hasV nm v x)).map Nd.id
open Classical in
noncomputable def findBy (g : Gr) (lb nm : Tx) (v : Vl) : List Int := if GOk g ∧ vOk v = true ∧ lb ≠ [] then findL lb nm v g.nodes else []
end Go.Proofs.Ytehdfbhfbidadaa.V
/- slices.Insert of texts and of props. -/
namespace Go.Proofs.Ytehdfbhfbidadaa.V
open Go Go.Proofs
set_option linter.unusedVariables false
set_option linter.unusedSimpArgs false
set_option maxHeartbeats 4000000
theorem ins_map {α : Type} (f : α → List T) (l : List α) (x : α) (i : Nat) : (l.map f).take i ++ f x :: (l.map f).drop i = (l.take i ++ x :: l.drop i).map f := by simp [List.map_take, List.map_drop]
def infoOk (P : Program) (t : TypeId) (sz : Nat) : Bool := match P.info? t with
  | some I => (match I.zero with | some z => decide (I.size = sz) && decide (z.cells.size = sz) && decide (I.bytes ≤ 1024) | none => false)
  | none => false
theorem infoOk_of {P : Program} {t : TypeId} {sz : Nat} (h : infoOk P t sz = true) : ∃ I z, P.info? t = some I ∧ I.zero = some z ∧ I.size = sz ∧ z.cells.size = sz ∧ I.bytes ≤ 1024 := by
  unfold infoOk at h
  split at h
  · rename_i I hI
    split at h
    · rename_i z hz
      simp only [Bool.and_eq_true, decide_eq_true_eq] at h
      exact ⟨I, z, hI, hz, h.1.1, h.1.2, h.2⟩
    · exact absurd h (by simp)
  · exact absurd h (by simp)
theorem Insert_prop_end (l : List Pr) (x : Pr) (hl : l.length ≤ 2 ^ 20) : Ret Try.prog 111 [.own 5 (l.map sP.O), .i .i64 (l.length : Int), .own 5 [sP.O x]] (.own 5 ((l ++ [x]).map sP.O)) [.dead, .dead, .dead] := by
  obtain ⟨I, z, h1, h2, h3, h4, h5⟩ := infoOk_of (P := Try.prog) (t := 126) (sz := 5) (by kernel_rfl)
  have := ins_tail (by omega) (by kernel_rfl) h1 h2 h3 h4 h5 insRuns_prop (l.map sP.O) (sP.O x) (by simpa using hl) (sP.lO x) (ow_on (sP.ow x))
  simpa using this
theorem Insert_prop_c (l : List Pr) (x : Pr) (i : Nat) (hi : i ≤ l.length) (hl : l.length ≤ 2 ^ 20) : Ret Try.prog 111 [.own 5 (l.map sP.O), .i .i64 (i : Int), .own 5 [sP.O x]] (.own 5 ((l.take i ++ x :: l.drop i).map sP.O)) [.dead, .dead, .dead] := by
  rcases Nat.lt_or_ge i l.length with h | h
  · obtain ⟨I, z, h1, h2, h3, h4, h5⟩ := infoOk_of (P := Try.prog) (t := 126) (sz := 5) (by kernel_rfl)
    have := ins_ret (by omega) (by kernel_rfl) (by kernel_rfl) h1 h2 h3 h4 h5 insRuns_prop (l.map sP.O) (sP.O x) i (by simpa using h) (by simpa using hl) (sP.lO x) (fun r hr => by obtain ⟨a, _, rfl⟩ := List.mem_map.1 hr; exact ow_on (sP.ow a)) (ow_on (sP.ow x))
    rw [ins_map] at this
    exact this
  · obtain rfl : i = l.length := by omega
    have := Insert_prop_end l x hl
    simpa using this
end Go.Proofs.Ytehdfbhfbidadaa.V
/- Nodes dropped, by the program. -/
namespace Go.Proofs.Ytehdfbhfbidadaa.V
open Go
set_option linter.unusedVariables false
set_option linter.unusedSimpArgs false
set_option maxHeartbeats 16000000
theorem Asc.lt {α : Type} {f : α → Int} {e : Int} {l : List α} (h : Asc f e l) : ∀ (d i : Nat) (x y : α), l[i]? = some x → l[i + d + 1]? = some y → f x < f y
  | 0, i, x, y, hx, hy => by
    have := (h (i + 1) y hy).2.2 x (by omega) (by simpa using hx)
    exact this
  | d + 1, i, x, y, hx, hy => by
    have hlt : i + (d + 1) + 1 < l.length := (List.getElem?_eq_some_iff.1 hy).1
    obtain ⟨z, hz⟩ : ∃ z, l[i + d + 1]? = some z := ⟨_, List.getElem?_eq_getElem (by omega)⟩
    have h1 := Asc.lt h d i x z hx hz
    have h2 := (h (i + (d + 1) + 1) y hy).2.2 z (by omega) (by rw [show i + (d + 1) + 1 - 1 = i + d + 1 by omega]; exact hz)
    omega
theorem Asc.uniq {α : Type} {f : α → Int} {e : Int} {l : List α} (h : Asc f e l) {x y : α} (hx : x ∈ l) (hy : y ∈ l) (he : f x = f y) : x = y := by
  obtain ⟨i, hi⟩ := List.mem_iff_getElem?.1 hx
  obtain ⟨j, hj⟩ := List.mem_iff_getElem?.1 hy
  rcases Nat.lt_trichotomy i j with hlt | rfl | hlt
  · have := h.lt (j - i - 1) i x y hi (by rw [show i + (j - i - 1) + 1 = j by omega]; exact hj)
    omega
  · rw [hi] at hj; exact Option.some.inj hj
  · have := h.lt (i - j - 1) j y x hj (by rw [show j + (i - j - 1) + 1 = i by omega]; exact hi)
    omega
theorem goes0 (id : Int) (e : Eg) : goes id 0 [] e = atN id e := by simp [goes, atN]
theorem drop_edges {g : Gr} (hg : GOk g) (id : Int) : g.edges.filter (fun e => !(idsOf id 0 [] g.edges).contains e.id) = g.edges.filter (fun e => !atN id e) := by
  refine List.filter_congr ?_
  intro e he
  congr 1
  by_cases h : atN id e = true
  · rw [h, List.contains_iff_mem]
    exact List.mem_map.2 ⟨e, List.mem_filter.2 ⟨he, by rw [goes0]; exact h⟩, rfl⟩
  · have h' : atN id e = false := by simpa using h
    rw [h']
    cases hc : (idsOf id 0 [] g.edges).contains e.id with
    | false => rfl
    | true =>
      obtain ⟨e', h1, h2⟩ := List.mem_map.1 (List.contains_iff_mem.1 hc)
      obtain ⟨h3, h4⟩ := List.mem_filter.1 h1
      have := hg.ea.uniq h3 he h2
      subst this
      rw [goes0] at h4
      exact absurd h4 h
end Go.Proofs.Ytehdfbhfbidadaa.V
/- A label of a node is set, by the program. -/
namespace Go.Proofs.Ytehdfbhfbidadaa.V
open Go
set_option linter.unusedVariables false
set_option linter.unusedSimpArgs false
set_option maxHeartbeats 4000000
/-- How many stand ahead of a text in order. -/
def ltLen (lb : Tx) : List Tx → Nat
  | [] => 0
  | x :: l => if Op.bytesLess x lb = true then ltLen lb l + 1 else 0
theorem ltLen_le (lb : Tx) : ∀ l : List Tx, ltLen lb l ≤ l.length
  | [] => Nat.le_refl _
  | x :: l => by
    have := ltLen_le lb l
    unfold ltLen; split <;> simp <;> omega
theorem ltLen_lt {lb : Tx} : ∀ {l : List Tx} {i : Nat} {x : Tx}, i < ltLen lb l → l[i]? = some x → Op.bytesLess x lb = true
  | [], i, x, h, _ => by simp [ltLen] at h
  | y :: l, i, x, h, hx => by
    unfold ltLen at h
    split at h
    · rename_i hy
      cases i with
      | zero => simp at hx; rw [← hx]; exact hy
      | succ i => exact ltLen_lt (l := l) (i := i) (by omega) (by simpa using hx)
    · omega
theorem ltLen_at {lb : Tx} : ∀ {l : List Tx} {x : Tx}, l[ltLen lb l]? = some x → Op.bytesLess x lb = false
  | [], x, hx => by simp at hx
  | y :: l, x, hx => by
    unfold ltLen at hx
    split at hx
    · exact ltLen_at (l := l) (by simpa using hx)
    · rename_i hy
      simp at hx; subst hx; simpa using hy
def insT (lb : Tx) (l : List Tx) : List Tx := l.take (ltLen lb l) ++ lb :: l.drop (ltLen lb l)
def labOut (lb : Tx) (l : List Tx) : List Tx := l.filter (fun x => !decide (x = lb))
def labNext (lb : Tx) (has : Bool) (l : List Tx) : List Tx := if has = true then insT lb (labOut lb l) else labOut lb l
def gSetL (g : Gr) (k : Nat) (n : Nd) (ls : List Tx) : Gr := ⟨g.nodes.set k ⟨n.id, ls, n.props⟩, g.edges, g.nn, g.ne⟩
open Classical in
noncomputable def setL (g : Gr) (k : Nat) (n : Nd) (lb : Tx) (has : Bool) : Gr × Bool := if LabelsOk (labNext lb has n.labels) then (gSetL g k n (labNext lb has n.labels), true) else (g, false)
open Classical in
noncomputable def labelSet (g : Gr) (id : Int) (lb : Tx) (has : Bool) : Gr × Bool :=
  if GOk g then (if posOf Nd.id id g.nodes < 0 ∨ nameOk lb = false then (g, false) else match g.nodes[(posOf Nd.id id g.nodes).toNat]? with | some n => setL g (posOf Nd.id id g.nodes).toNat n lb has | none => (g, false)) else (zG, false)
end Go.Proofs.Ytehdfbhfbidadaa.V
/- Props set: plain words. -/
namespace Go.Proofs.Ytehdfbhfbidadaa.V
open Go
set_option linter.unusedVariables false
set_option linter.unusedSimpArgs false
/-! ### texts in order -/
theorem bytesLess_trans : ∀ {a b c : List UInt8}, Op.bytesLess a b = true → Op.bytesLess b c = true → Op.bytesLess a c = true
  | a, b, [], h1, h2 => by cases b <;> simp [Op.bytesLess] at h2
  | [], b, z :: c, h1, h2 => by simp [Op.bytesLess]
  | x :: a, [], z :: c, h1, h2 => by simp [Op.bytesLess] at h1
  | x :: a, y :: b, z :: c, h1, h2 => by
    simp only [Op.bytesLess, Bool.or_eq_true, decide_eq_true_eq, Bool.and_eq_true, beq_iff_eq] at h1 h2 ⊢
    rcases h1 with h1 | ⟨rfl, h1⟩
    · rcases h2 with h2 | ⟨rfl, h2⟩
      · exact .inl (UInt8.lt_trans h1 h2)
      · exact .inl h1
    · rcases h2 with h2 | ⟨rfl, h2⟩
      · exact .inl h2
      · exact .inr ⟨rfl, bytesLess_trans h1 h2⟩
theorem bytesLess_irr : ∀ l : List UInt8, Op.bytesLess l l = false
  | [] => by simp [Op.bytesLess]
  | a :: l => by simp [Op.bytesLess, bytesLess_irr l]
/-! ### props with one set -/
def nmK (nm : Tx) (ps : List Pr) : Nat := ltLen nm (ps.map Pr.name)
def prOut (nm : Tx) (ps : List Pr) : List Pr := ps.filter (fun p => !decide (p.name = nm))
def prNew (nm : Tx) (to : Vl) : List Pr := if to.k = 0 then [] else [⟨nm, to⟩]
def propNext (nm : Tx) (to : Vl) (ps : List Pr) : List Pr := ps.take (nmK nm ps) ++ (prNew nm to ++ prOut nm (ps.drop (nmK nm ps)))
theorem nmK_le (nm : Tx) (ps : List Pr) : nmK nm ps ≤ ps.length := by
  have := ltLen_le nm (ps.map Pr.name); simpa [nmK] using this
theorem nmK_lt {nm : Tx} {ps : List Pr} {i : Nat} {p : Pr} (h : i < nmK nm ps) (hx : ps[i]? = some p) : Op.bytesLess p.name nm = true :=
  ltLen_lt (l := ps.map Pr.name) h (by simp [hx])
theorem nmK_at {nm : Tx} {ps : List Pr} {p : Pr} (hx : ps[nmK nm ps]? = some p) : Op.bytesLess p.name nm = false :=
  ltLen_at (l := ps.map Pr.name) (by simp only [List.getElem?_map]; rw [show ltLen nm (ps.map Pr.name) = nmK nm ps from rfl, hx]; rfl)
theorem lt_ne {a b : Tx} (h : Op.bytesLess a b = true) : a ≠ b := by
  rintro rfl; rw [bytesLess_irr] at h; exact absurd h (by simp)
theorem prOut_take (nm : Tx) (ps : List Pr) {i : Nat} (hi : i ≤ nmK nm ps) : prOut nm (ps.take i) = ps.take i := by
  unfold prOut
  rw [List.filter_eq_self]
  intro p hp
  obtain ⟨j, hj⟩ := List.mem_iff_getElem?.1 hp
  have hji : j < i := by have := (List.getElem?_eq_some_iff.1 hj).1; simp at this; omega
  rw [List.getElem?_take, if_pos hji] at hj
  have := lt_ne (nmK_lt (nm := nm) (by omega) hj)
  simpa using this
theorem prOut_all (nm : Tx) (ps : List Pr) : prOut nm ps = ps.take (nmK nm ps) ++ prOut nm (ps.drop (nmK nm ps)) := by
  conv => lhs; rw [← List.take_append_drop (nmK nm ps) ps]
  unfold prOut
  rw [List.filter_append]
  congr 1
  exact prOut_take nm ps (Nat.le_refl _)
theorem prOut_len (nm : Tx) (ps : List Pr) : (prOut nm ps).length ≤ ps.length := List.length_filter_le _ _
theorem prOut_succ {nm : Tx} {l : List Pr} {i : Nat} {p : Pr} (hx : l[i]? = some p) : prOut nm (l.take (i + 1)) = if p.name = nm then prOut nm (l.take i) else prOut nm (l.take i) ++ [p] := by
  rw [List.take_add_one, hx]
  unfold prOut
  rw [List.filter_append]
  by_cases h : p.name = nm <;> simp [h]
/-- In ascending props what is behind the place is not ahead of the name. -/
theorem Each.behind {ps : List Pr} {ok : Pr → Bool} (h : Each ok Pr.name ps) {nm : Tx} : ∀ (d : Nat) {p : Pr}, ps[nmK nm ps + d]? = some p → Op.bytesLess p.name nm = false
  | 0, p, hx => nmK_at hx
  | d + 1, p, hx => by
    have hl := (List.getElem?_eq_some_iff.1 hx).1
    obtain ⟨q, hq⟩ : ∃ q, ps[nmK nm ps + d]? = some q := ⟨_, List.getElem?_eq_getElem (by omega)⟩
    have h1 := Each.behind h d hq
    have h2 := (h _ _ hx).2 q (by omega) (by rw [show nmK nm ps + (d + 1) - 1 = nmK nm ps + d by omega]; exact hq)
    cases h3 : Op.bytesLess p.name nm with
    | false => rfl
    | true => rw [bytesLess_trans h2 h3] at h1; exact absurd h1 (by simp)
/-- Where the name is put among those that are left: the same place. -/
theorem nmK_out {ps : List Pr} {ok : Pr → Bool} (h : Each ok Pr.name ps) (nm : Tx) : nmK nm (prOut nm ps) = nmK nm ps := by
  have hA : ∀ p ∈ ps.take (nmK nm ps), Op.bytesLess p.name nm = true := by
    intro p hp
    obtain ⟨j, hj⟩ := List.mem_iff_getElem?.1 hp
    have hji : j < nmK nm ps := by have := (List.getElem?_eq_some_iff.1 hj).1; simp at this; omega
    rw [List.getElem?_take, if_pos hji] at hj
    exact nmK_lt hji hj
  have hB : ∀ p ∈ prOut nm (ps.drop (nmK nm ps)), Op.bytesLess p.name nm = false := by
    intro p hp
    obtain ⟨d, hd⟩ := List.mem_iff_getElem?.1 (List.mem_filter.1 hp).1
    rw [List.getElem?_drop] at hd
    exact h.behind d hd
  have key : ∀ (A B : List Pr), (∀ p ∈ A, Op.bytesLess p.name nm = true) → (∀ p ∈ B, Op.bytesLess p.name nm = false) → nmK nm (A ++ B) = A.length := by
    intro A B
    induction A with
    | nil =>
      intro _ hB
      cases B with
      | nil => rfl
      | cons b B => simp [nmK, ltLen, hB b (by simp)]
    | cons a A ih =>
      intro hA hB
      have := ih (fun p hp => hA p (by simp [hp])) hB
      simp only [nmK, List.map_append] at this
      simp [nmK, ltLen, hA a (by simp), this]
  rw [prOut_all nm ps, key _ _ hA hB, List.length_take]
  have := nmK_le nm ps
  omega
/-- The program's way: those that are left, and the new one put among them. -/
theorem propNext_ins {ps : List Pr} {ok : Pr → Bool} (h : Each ok Pr.name ps) (nm : Tx) (to : Vl) (hk : to.k ≠ 0) : propNext nm to ps = (prOut nm ps).take (nmK nm (prOut nm ps)) ++ ⟨nm, to⟩ :: (prOut nm ps).drop (nmK nm (prOut nm ps)) := by
  have h1 := nmK_le nm ps
  have h2 : (ps.take (nmK nm ps)).length = nmK nm ps := by rw [List.length_take]; omega
  rw [nmK_out h, prOut_all nm ps, List.take_append_of_le_length (by omega), List.drop_append_of_le_length (by omega), List.take_of_length_le (by omega), List.drop_of_length_le (by omega)]
  unfold propNext prNew
  rw [if_neg hk]; rfl
theorem propNext_out {ps : List Pr} (nm : Tx) (to : Vl) (hk : to.k = 0) : propNext nm to ps = prOut nm ps := by
  rw [prOut_all nm ps]; unfold propNext prNew; rw [if_pos hk]; rfl
theorem propNext_len (nm : Tx) (to : Vl) (ps : List Pr) : (propNext nm to ps).length ≤ ps.length + 1 := by
  have h1 := nmK_le nm ps
  have h2 := prOut_len nm (ps.drop (nmK nm ps))
  unfold propNext prNew
  simp only [List.length_append, List.length_take]
  rw [List.length_drop] at h2
  split <;> simp <;> omega
theorem propNext_mem {P : Pr → Prop} {nm : Tx} {to : Vl} {ps : List Pr} (h : ∀ p ∈ ps, P p) (hn : to.k ≠ 0 → P ⟨nm, to⟩) : ∀ p ∈ propNext nm to ps, P p := by
  intro p hp
  unfold propNext prNew at hp
  simp only [List.mem_append] at hp
  rcases hp with hp | hp | hp
  · exact h p (List.mem_of_mem_take hp)
  · split at hp
    · simp at hp
    · rename_i hk
      simp only [List.mem_singleton] at hp
      subst hp; exact hn hk
  · exact h p (List.mem_of_mem_drop (List.mem_filter.1 hp).1)
/-! ### the graph with props set -/
def gSetP (g : Gr) (v : Vl) (ps : List Pr) : Gr :=
  if v.k = 5 then (match g.nodes[(posOf Nd.id v.n g.nodes).toNat]? with | some n => { g with nodes := g.nodes.set (posOf Nd.id v.n g.nodes).toNat { n with props := ps } } | none => g)
  else (match g.edges[(posOf Eg.id v.n g.edges).toNat]? with | some e => { g with edges := g.edges.set (posOf Eg.id v.n g.edges).toNat { e with props := ps } } | none => g)
/-- Nothing. -/
def emptyV (v : Vl) : Bool := decide (v.k = 0) && decide (v.n = 0) && decide (v.s = []) && decide (v.l = [])
def setOk (v : Vl) (nm : Tx) (to : Vl) : Prop := vOk v = true ∧ nameOk nm = true ∧ (sto to = true ∨ emptyV to = true)
open Classical in
noncomputable def propSet (g : Gr) (v : Vl) (nm : Tx) (to : Vl) : Gr × Bool :=
  if GOk g then (if setOk v nm to then (match propsOf g v with | some ps => if PropsOk (propNext nm to ps) then (gSetP g v (propNext nm to ps), true) else (g, false) | none => (g, false)) else (g, false)) else (zG, false)
theorem emptyV_iff {v : Vl} : emptyV v = true ↔ v.k = 0 ∧ vOk v = true := by
  unfold emptyV
  simp only [Bool.and_eq_true, decide_eq_true_eq]
  obtain ⟨k, n, s, l⟩ := v
  by_cases hk : k = 0
  · subst hk
    simp [vOk, okV, and_assoc]
  · simp [hk]
end Go.Proofs.Ytehdfbhfbidadaa.V
/- Props set, by the reference: the list. -/
namespace Go.Proofs.Ytehdfbhfbidadaa.V
open Go
set_option linter.unusedVariables false
set_option linter.unusedSimpArgs false
set_option maxHeartbeats 4000000
/-- What the cells of a block own is shared for good; the block itself stays one's own. -/
theorem Wk.shareIn {s : St} {b sz : Nat} {rows rows2 : List (List T)} (hb : hget s.hp b = some (.arr sz rows)) (hcl : cleanR rows = true) (h2 : toIr rows = rows2) (hl : rows2.length = rows.length) (hs : ∀ r ∈ rows2, r.length = sz) : Wk s { s with hp := hset s.hp b (.arr sz rows2) } := by
  rintro E a w ⟨⟨ρ, O, F, hR⟩, hE⟩
  obtain ⟨hA, hBR⟩ := hR.hp _ _ hb
  have hnd := hR.nodup _ _ hb
  simp only [BR] at hBR
  rcases hBR with ⟨rfl, hF, hn⟩ | ⟨B, hB, hsz, hsr, hcap, cc, et, cs, F', hheap, hfit, hdr, hlie, hF⟩
  · have : rows2 = [] := List.eq_nil_of_length_eq_zero (by simpa using hl)
    subst this
    refine ⟨⟨ρ, O, F, hR.size, hR.defers, hR.fb, hR.ρ0, hR.O0, hR.Olt, hR.Onew, hR.tm, ?_, ?_, ?_, ?_, hR.keep⟩, hE⟩ <;>
    · have he : ∀ x, hget (hset s.hp b (.arr sz [])) x = hget s.hp x := by
        intro x; rw [hget_hset]; split
        · rename_i e; subst e; exact hb.symm
        · rfl
      simp only [he]
      first | exact hR.hp | exact hR.nodup | exact hR.apart | exact hR.mine
  · let O2 : Nat → Prop := fun x => O x ∨ x ∈ F'
    have hO : ∀ x, O x → O2 x := fun x h => .inl h
    have hci : CIr w O2 rows2 cs := by rw [← h2]; exact Dr_toI hO (fun x hx => .inr hx) hdr hcl
    have hFb : ∀ x ∈ F', x ∈ F b := fun x hx => by rw [hF]; exact List.mem_cons_of_mem _ hx
    have hBb : B.b ∉ F' := by rw [hF] at hnd; exact (List.nodup_cons.1 hnd).1
    have hmB := hR.mine _ _ hb B.b (by rw [hF]; simp)
    refine ⟨⟨ρ, O2, fun t => if t = b then [B.b] else F t, hR.size, hR.defers, hR.fb, hR.ρ0, fun x hx => .inl (hR.O0 x hx), ?_, ?_, fun j => (hR.tm j).cong hO (fun _ _ => rfl) (fun _ h => h) (fun _ _ => rfl), ?_, ?_, ?_, ?_, hR.keep⟩, hE⟩
    · rintro x (hx | hx)
      · exact hR.Olt x hx
      · exact (hR.mine _ _ hb x (hFb x hx)).2.1
    · rintro x (hx | hx)
      · exact hR.Onew x hx
      · exact .inr (hR.mine _ _ hb x (hFb x hx)).2.2
    · intro t k hk
      simp only [hget_hset] at hk
      by_cases e : b = t
      · subst e
        rw [if_pos rfl] at hk
        obtain rfl := Option.some.inj hk
        simp only [if_true]
        refine ⟨hA, ?_⟩
        simp only [BR]
        exact .inr ⟨B, hB, hsz, hs, by omega, cc, et, cs, [], hheap, hfit, Dr_of_CIr hci, hlie, rfl⟩
      · rw [if_neg e] at hk
        have e' : t ≠ b := fun h => e h.symm
        rw [if_neg e']
        have h1 := hR.hp t k hk
        exact ⟨h1.1, BR.cong (A' := fun x => x < s.nx) (ρ' := ρ) hO (fun _ _ => rfl) (fun _ h => h) (fun _ _ => rfl) h1.1 (fun _ _ => rfl) h1.2⟩
    · intro t k hk
      simp only [hget_hset] at hk
      by_cases e : b = t
      · subst e; simp
      · rw [if_neg e] at hk
        have e' : t ≠ b := fun h => e h.symm
        rw [if_neg e']
        exact hR.nodup t k hk
    · intro t1 k1 t2 k2 h1 h3 hne x hx
      simp only [hget_hset] at h1 h3
      have hin : ∀ t, (if t = b then [B.b] else F t) ⊆ F t := by
        intro t
        split
        · rename_i e; subst e; rw [hF]; simp
        · exact fun _ h => h
      have g1 : ∃ k, hget s.hp t1 = some k := by
        by_cases e : b = t1
        · exact ⟨_, e ▸ hb⟩
        · rw [if_neg e] at h1; exact ⟨_, h1⟩
      have g2 : ∃ k, hget s.hp t2 = some k := by
        by_cases e : b = t2
        · exact ⟨_, e ▸ hb⟩
        · rw [if_neg e] at h3; exact ⟨_, h3⟩
      obtain ⟨k1', g1⟩ := g1
      obtain ⟨k2', g2⟩ := g2
      exact fun hx2 => hR.apart _ _ _ _ g1 g2 hne x (hin t1 hx) (hin t2 hx2)
    · intro t k hk x hx
      simp only [hget_hset] at hk
      by_cases e : b = t
      · subst e
        simp only [if_true, List.mem_singleton] at hx
        subst hx
        refine ⟨?_, hmB.2.1, hmB.2.2⟩
        rintro (ho | hx)
        · exact hmB.1 ho
        · exact hBb hx
      · rw [if_neg e] at hk
        have e' : t ≠ b := fun h => e h.symm
        rw [if_neg e'] at hx
        obtain ⟨q1, q2, q3⟩ := hR.mine t k hk x hx
        refine ⟨?_, q2, q3⟩
        rintro (ho | hx2)
        · exact q1 ho
        · exact hR.apart _ _ _ _ hk hb e' x hx (hFb x hx2)
end Go.Proofs.Ytehdfbhfbidadaa.V
