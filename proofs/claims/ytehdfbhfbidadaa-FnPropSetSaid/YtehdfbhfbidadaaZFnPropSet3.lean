/- The law FnPropSet of the given program holds of every input (theorem fnPropSet_holds, the last of these texts): part 3 of 8. -/
import Derived.ChangeArms
import Derived.Deep.Slices
import Derived.Lib.SmallJoins
import Derived.OpenShut
import Derived.Test.YtehdfbhfbidadaaZFnPropSet2
/- The machine of trees, texts Vw, Vt2, Vx, Vx1, Vx2, Vo1. -/
/- The machine of trees: what a proof's rewriting goes by. -/
namespace Go.Proofs.Ytehdfbhfbidadaa.V
open Go
set_option linter.unusedVariables false
set_option linter.unusedSimpArgs false
section
@[simp] theorem mat_un {n : Nat}  : mat .un n = (.un, []) := by simp only [mat]
@[simp] theorem cell_un  : T.cell .un = false := id rfl
@[simp] theorem clean_un  : T.clean .un = true := id rfl
@[simp] theorem toI_un  : T.toI .un = .un := by simp only [T.toI]
@[simp] theorem argI_un {s : St}  : argI s .un = none := by simp only [argI]
@[simp] theorem names_un  : T.names .un = [] := by simp only [T.names]
@[simp] theorem cells_un  : T.cells .un = [.un] := id rfl
@[simp] theorem gives1_un  : T.gives1 .un = false := id rfl
@[simp] theorem gives_un  : T.gives .un = false := id rfl
@[simp] theorem noImm_un  : T.noImm .un = true := by simp only [T.noImm]
@[simp] theorem rn_un {g : Nat → Nat}  : T.rn g .un = .un := by simp only [T.rn]
@[simp] theorem mat_dead {n : Nat}  : mat .dead n = (.dead, []) := by simp only [mat]
@[simp] theorem cell_dead  : T.cell .dead = false := id rfl
@[simp] theorem clean_dead  : T.clean .dead = true := id rfl
@[simp] theorem toI_dead  : T.toI .dead = .dead := by simp only [T.toI]
@[simp] theorem argI_dead {s : St}  : argI s .dead = some .dead := by simp only [argI]
@[simp] theorem names_dead  : T.names .dead = [] := by simp only [T.names]
@[simp] theorem cells_dead  : T.cells .dead = [.dead] := id rfl
@[simp] theorem gives1_dead  : T.gives1 .dead = false := id rfl
@[simp] theorem gives_dead  : T.gives .dead = false := id rfl
@[simp] theorem noImm_dead  : T.noImm .dead = true := by simp only [T.noImm]
@[simp] theorem rn_dead {g : Nat → Nat}  : T.rn g .dead = .dead := by simp only [T.rn]
@[simp] theorem mat_b {n : Nat} {x : Bool} : mat (.b x) n = ((.b x), []) := by simp only [mat]
@[simp] theorem cell_b {x : Bool} : T.cell (.b x) = true := id rfl
@[simp] theorem clean_b {x : Bool} : T.clean (.b x) = true := id rfl
@[simp] theorem toI_b {x : Bool} : T.toI (.b x) = (.b x) := by simp only [T.toI]
@[simp] theorem argI_b {s : St} {x : Bool} : argI s (.b x) = some (.b x) := by simp only [argI]
@[simp] theorem names_b {x : Bool} : T.names (.b x) = [] := by simp only [T.names]
@[simp] theorem cells_b {x : Bool} : T.cells (.b x) = [(.b x)] := id rfl
@[simp] theorem gives1_b {x : Bool} : T.gives1 (.b x) = false := id rfl
@[simp] theorem gives_b {x : Bool} : T.gives (.b x) = false := id rfl
@[simp] theorem noImm_b {x : Bool} : T.noImm (.b x) = true := by simp only [T.noImm]
@[simp] theorem rn_b {g : Nat → Nat} {x : Bool} : T.rn g (.b x) = (.b x) := by simp only [T.rn]
@[simp] theorem mat_i {n : Nat} {k : IntKind} {m : Int} : mat (.i k m) n = ((.i k m), []) := by simp only [mat]
@[simp] theorem cell_i {k : IntKind} {m : Int} : T.cell (.i k m) = true := id rfl
@[simp] theorem clean_i {k : IntKind} {m : Int} : T.clean (.i k m) = true := id rfl
@[simp] theorem toI_i {k : IntKind} {m : Int} : T.toI (.i k m) = (.i k m) := by simp only [T.toI]
@[simp] theorem argI_i {s : St} {k : IntKind} {m : Int} : argI s (.i k m) = some (.i k m) := by simp only [argI]
@[simp] theorem names_i {k : IntKind} {m : Int} : T.names (.i k m) = [] := by simp only [T.names]
@[simp] theorem cells_i {k : IntKind} {m : Int} : T.cells (.i k m) = [(.i k m)] := id rfl
@[simp] theorem gives1_i {k : IntKind} {m : Int} : T.gives1 (.i k m) = false := id rfl
@[simp] theorem gives_i {k : IntKind} {m : Int} : T.gives (.i k m) = false := id rfl
@[simp] theorem noImm_i {k : IntKind} {m : Int} : T.noImm (.i k m) = true := by simp only [T.noImm]
@[simp] theorem rn_i {g : Nat → Nat} {k : IntKind} {m : Int} : T.rn g (.i k m) = (.i k m) := by simp only [T.rn]
@[simp] theorem mat_s {n : Nat} {l : List UInt8} : mat (.s l) n = ((.s l), []) := by simp only [mat]
@[simp] theorem cell_s {l : List UInt8} : T.cell (.s l) = true := id rfl
@[simp] theorem clean_s {l : List UInt8} : T.clean (.s l) = true := id rfl
@[simp] theorem toI_s {l : List UInt8} : T.toI (.s l) = (.s l) := by simp only [T.toI]
@[simp] theorem argI_s {s : St} {l : List UInt8} : argI s (.s l) = some (.s l) := by simp only [argI]
@[simp] theorem names_s {l : List UInt8} : T.names (.s l) = [] := by simp only [T.names]
@[simp] theorem cells_s {l : List UInt8} : T.cells (.s l) = [(.s l)] := id rfl
@[simp] theorem gives1_s {l : List UInt8} : T.gives1 (.s l) = false := id rfl
@[simp] theorem gives_s {l : List UInt8} : T.gives (.s l) = false := id rfl
@[simp] theorem noImm_s {l : List UInt8} : T.noImm (.s l) = true := by simp only [T.noImm]
@[simp] theorem rn_s {g : Nat → Nat} {l : List UInt8} : T.rn g (.s l) = (.s l) := by simp only [T.rn]
@[simp] theorem mat_nl {n : Nat}  : mat .nl n = (.nl, []) := by simp only [mat]
@[simp] theorem cell_nl  : T.cell .nl = true := id rfl
@[simp] theorem clean_nl  : T.clean .nl = true := id rfl
@[simp] theorem toI_nl  : T.toI .nl = .nl := by simp only [T.toI]
@[simp] theorem argI_nl {s : St}  : argI s .nl = some (.imm []) := by simp only [argI]
@[simp] theorem names_nl  : T.names .nl = [] := by simp only [T.names]
@[simp] theorem cells_nl  : T.cells .nl = [.nl] := id rfl
@[simp] theorem gives1_nl  : T.gives1 .nl = false := id rfl
@[simp] theorem gives_nl  : T.gives .nl = false := id rfl
@[simp] theorem noImm_nl  : T.noImm .nl = true := by simp only [T.noImm]
@[simp] theorem rn_nl {g : Nat → Nat}  : T.rn g .nl = .nl := by simp only [T.rn]
@[simp] theorem mat_imm {n : Nat} {rows : List (List T)} : mat (.imm rows) n = ((.imm rows), []) := by simp only [mat]
@[simp] theorem cell_imm {rows : List (List T)} : T.cell (.imm rows) = true := id rfl
@[simp] theorem clean_imm {rows : List (List T)} : T.clean (.imm rows) = true := id rfl
@[simp] theorem toI_imm {rows : List (List T)} : T.toI (.imm rows) = (.imm rows) := by simp only [T.toI]
@[simp] theorem argI_imm {s : St} {rows : List (List T)} : argI s (.imm rows) = some (.imm rows) := by simp only [argI]
@[simp] theorem names_imm {rows : List (List T)} : T.names (.imm rows) = [] := by simp only [T.names]
@[simp] theorem cells_imm {rows : List (List T)} : T.cells (.imm rows) = [(.imm rows)] := id rfl
@[simp] theorem gives1_imm {rows : List (List T)} : T.gives1 (.imm rows) = false := id rfl
@[simp] theorem gives_imm {rows : List (List T)} : T.gives (.imm rows) = false := id rfl
@[simp] theorem noImm_imm {rows : List (List T)} : T.noImm (.imm rows) = false := by simp only [T.noImm]
@[simp] theorem rn_imm {g : Nat → Nat} {rows : List (List T)} : T.rn g (.imm rows) = (.imm rows) := by simp only [T.rn]
@[simp] theorem mat_own {n : Nat} {sz : Nat} {rows : List (List T)} : mat (.own sz rows) n = (.ref n 0 rows.length, [(n, .arr sz rows)]) := by simp only [mat]
@[simp] theorem cell_own {sz : Nat} {rows : List (List T)} : T.cell (.own sz rows) = false := id rfl
@[simp] theorem clean_own {sz : Nat} {rows : List (List T)} : T.clean (.own sz rows) = true := id rfl
@[simp] theorem toI_own {sz : Nat} {rows : List (List T)} : T.toI (.own sz rows) = .imm (toIr rows) := by simp only [T.toI]
@[simp] theorem argI_own {s : St} {sz : Nat} {rows : List (List T)} : argI s (.own sz rows) = some (.own sz rows) := by simp only [argI]
@[simp] theorem names_own {sz : Nat} {rows : List (List T)} : T.names (.own sz rows) = [] := by simp only [T.names]
@[simp] theorem cells_own {sz : Nat} {rows : List (List T)} : T.cells (.own sz rows) = [(.own sz rows)] := id rfl
@[simp] theorem gives1_own {sz : Nat} {rows : List (List T)} : T.gives1 (.own sz rows) = true := id rfl
@[simp] theorem gives_own {sz : Nat} {rows : List (List T)} : T.gives (.own sz rows) = true := id rfl
@[simp] theorem noImm_own {sz : Nat} {rows : List (List T)} : T.noImm (.own sz rows) = noImr rows := by simp only [T.noImm]
@[simp] theorem rn_own {g : Nat → Nat} {sz : Nat} {rows : List (List T)} : T.rn g (.own sz rows) = (.own sz rows) := by simp only [T.rn]
@[simp] theorem mat_bx {n : Nat} {cs : List T} : mat (.bx cs) n = (.ptr n 0 0, [(n, .arr cs.length [cs])]) := by simp only [mat]
@[simp] theorem cell_bx {cs : List T} : T.cell (.bx cs) = false := id rfl
@[simp] theorem clean_bx {cs : List T} : T.clean (.bx cs) = true := id rfl
@[simp] theorem toI_bx {cs : List T} : T.toI (.bx cs) = .pim (toIs cs) := by simp only [T.toI]
@[simp] theorem argI_bx {s : St} {cs : List T} : argI s (.bx cs) = some (.bx cs) := by simp only [argI]
@[simp] theorem names_bx {cs : List T} : T.names (.bx cs) = [] := by simp only [T.names]
@[simp] theorem cells_bx {cs : List T} : T.cells (.bx cs) = [(.bx cs)] := id rfl
@[simp] theorem gives1_bx {cs : List T} : T.gives1 (.bx cs) = true := id rfl
@[simp] theorem gives_bx {cs : List T} : T.gives (.bx cs) = true := id rfl
@[simp] theorem noImm_bx {cs : List T} : T.noImm (.bx cs) = noIms cs := by simp only [T.noImm]
@[simp] theorem rn_bx {g : Nat → Nat} {cs : List T} : T.rn g (.bx cs) = (.bx cs) := by simp only [T.rn]
@[simp] theorem mat_ref {n : Nat} {t q m : Nat} : mat (.ref t q m) n = ((.ref t q m), []) := by simp only [mat]
@[simp] theorem cell_ref {t q m : Nat} : T.cell (.ref t q m) = true := id rfl
@[simp] theorem clean_ref {t q m : Nat} : T.clean (.ref t q m) = false := id rfl
@[simp] theorem toI_ref {t q m : Nat} : T.toI (.ref t q m) = (.ref t q m) := by simp only [T.toI]
@[simp] theorem names_ref {t q m : Nat} : T.names (.ref t q m) = [t] := by simp only [T.names]
@[simp] theorem cells_ref {t q m : Nat} : T.cells (.ref t q m) = [(.ref t q m)] := id rfl
@[simp] theorem gives1_ref {t q m : Nat} : T.gives1 (.ref t q m) = false := id rfl
@[simp] theorem gives_ref {t q m : Nat} : T.gives (.ref t q m) = false := id rfl
@[simp] theorem noImm_ref {t q m : Nat} : T.noImm (.ref t q m) = true := by simp only [T.noImm]
@[simp] theorem rn_ref {g : Nat → Nat} {t q m : Nat} : T.rn g (.ref t q m) = .ref (g t) q m := by simp only [T.rn]
@[simp] theorem mat_np {n : Nat}  : mat .np n = (.np, []) := by simp only [mat]
@[simp] theorem cell_np  : T.cell .np = true := id rfl
@[simp] theorem clean_np  : T.clean .np = true := id rfl
@[simp] theorem toI_np  : T.toI .np = .np := by simp only [T.toI]
@[simp] theorem argI_np {s : St}  : argI s .np = some .np := by simp only [argI]
@[simp] theorem names_np  : T.names .np = [] := by simp only [T.names]
@[simp] theorem cells_np  : T.cells .np = [.np] := id rfl
@[simp] theorem gives1_np  : T.gives1 .np = false := id rfl
@[simp] theorem gives_np  : T.gives .np = false := id rfl
@[simp] theorem noImm_np  : T.noImm .np = true := by simp only [T.noImm]
@[simp] theorem rn_np {g : Nat → Nat}  : T.rn g .np = .np := by simp only [T.rn]
@[simp] theorem mat_ptr {n : Nat} {t r q : Nat} : mat (.ptr t r q) n = ((.ptr t r q), []) := by simp only [mat]
@[simp] theorem cell_ptr {t r q : Nat} : T.cell (.ptr t r q) = true := id rfl
@[simp] theorem clean_ptr {t r q : Nat} : T.clean (.ptr t r q) = false := id rfl
@[simp] theorem toI_ptr {t r q : Nat} : T.toI (.ptr t r q) = (.ptr t r q) := by simp only [T.toI]
@[simp] theorem names_ptr {t r q : Nat} : T.names (.ptr t r q) = [t] := by simp only [T.names]
@[simp] theorem cells_ptr {t r q : Nat} : T.cells (.ptr t r q) = [(.ptr t r q)] := id rfl
@[simp] theorem gives1_ptr {t r q : Nat} : T.gives1 (.ptr t r q) = false := id rfl
@[simp] theorem gives_ptr {t r q : Nat} : T.gives (.ptr t r q) = false := id rfl
@[simp] theorem noImm_ptr {t r q : Nat} : T.noImm (.ptr t r q) = true := by simp only [T.noImm]
@[simp] theorem rn_ptr {g : Nat → Nat} {t r q : Nat} : T.rn g (.ptr t r q) = .ptr (g t) r q := by simp only [T.rn]
@[simp] theorem mat_pim {n : Nat} {cs : List T} : mat (.pim cs) n = ((.pim cs), []) := by simp only [mat]
@[simp] theorem cell_pim {cs : List T} : T.cell (.pim cs) = true := id rfl
@[simp] theorem clean_pim {cs : List T} : T.clean (.pim cs) = true := id rfl
@[simp] theorem toI_pim {cs : List T} : T.toI (.pim cs) = (.pim cs) := by simp only [T.toI]
@[simp] theorem argI_pim {s : St} {cs : List T} : argI s (.pim cs) = some (.pim cs) := by simp only [argI]
@[simp] theorem names_pim {cs : List T} : T.names (.pim cs) = [] := by simp only [T.names]
@[simp] theorem cells_pim {cs : List T} : T.cells (.pim cs) = [(.pim cs)] := id rfl
@[simp] theorem gives1_pim {cs : List T} : T.gives1 (.pim cs) = false := id rfl
@[simp] theorem gives_pim {cs : List T} : T.gives (.pim cs) = false := id rfl
@[simp] theorem noImm_pim {cs : List T} : T.noImm (.pim cs) = false := by simp only [T.noImm]
@[simp] theorem rn_pim {g : Nat → Nat} {cs : List T} : T.rn g (.pim cs) = (.pim cs) := by simp only [T.rn]
@[simp] theorem mat_fn {n : Nat} {f : Nat} {cs : List T} : mat (.fn f cs) n = ((.fn f cs), []) := by simp only [mat]
@[simp] theorem cell_fn {f : Nat} {cs : List T} : T.cell (.fn f cs) = true := id rfl
@[simp] theorem clean_fn {f : Nat} {cs : List T} : T.clean (.fn f cs) = false := id rfl
@[simp] theorem toI_fn {f : Nat} {cs : List T} : T.toI (.fn f cs) = (.fn f cs) := by simp only [T.toI]
@[simp] theorem names_fn {f : Nat} {cs : List T} : T.names (.fn f cs) = namess cs := by simp only [T.names]
@[simp] theorem cells_fn {f : Nat} {cs : List T} : T.cells (.fn f cs) = [(.fn f cs)] := id rfl
@[simp] theorem gives1_fn {f : Nat} {cs : List T} : T.gives1 (.fn f cs) = false := id rfl
@[simp] theorem gives_fn {f : Nat} {cs : List T} : T.gives (.fn f cs) = false := id rfl
@[simp] theorem noImm_fn {f : Nat} {cs : List T} : T.noImm (.fn f cs) = noIms cs := by simp only [T.noImm]
@[simp] theorem rn_fn {g : Nat → Nat} {f : Nat} {cs : List T} : T.rn g (.fn f cs) = .fn f (rns g cs) := by simp only [T.rn]
@[simp] theorem mat_nif {n : Nat}  : mat .nif n = (.nif, []) := by simp only [mat]
@[simp] theorem cell_nif  : T.cell .nif = true := id rfl
@[simp] theorem clean_nif  : T.clean .nif = true := id rfl
@[simp] theorem toI_nif  : T.toI .nif = .nif := by simp only [T.toI]
@[simp] theorem argI_nif {s : St}  : argI s .nif = some .nif := by simp only [argI]
@[simp] theorem names_nif  : T.names .nif = [] := by simp only [T.names]
@[simp] theorem cells_nif  : T.cells .nif = [.nif] := id rfl
@[simp] theorem gives1_nif  : T.gives1 .nif = false := id rfl
@[simp] theorem gives_nif  : T.gives .nif = false := id rfl
@[simp] theorem noImm_nif  : T.noImm .nif = true := by simp only [T.noImm]
@[simp] theorem rn_nif {g : Nat → Nat}  : T.rn g .nif = .nif := by simp only [T.rn]
@[simp] theorem mat_nfn {n : Nat}  : mat .nfn n = (.nfn, []) := by simp only [mat]
@[simp] theorem cell_nfn  : T.cell .nfn = true := id rfl
@[simp] theorem clean_nfn  : T.clean .nfn = true := id rfl
@[simp] theorem toI_nfn  : T.toI .nfn = .nfn := by simp only [T.toI]
@[simp] theorem argI_nfn {s : St}  : argI s .nfn = some .nfn := by simp only [argI]
@[simp] theorem names_nfn  : T.names .nfn = [] := by simp only [T.names]
@[simp] theorem cells_nfn  : T.cells .nfn = [.nfn] := id rfl
@[simp] theorem gives1_nfn  : T.gives1 .nfn = false := id rfl
@[simp] theorem gives_nfn  : T.gives .nfn = false := id rfl
@[simp] theorem noImm_nfn  : T.noImm .nfn = true := by simp only [T.noImm]
@[simp] theorem rn_nfn {g : Nat → Nat}  : T.rn g .nfn = .nfn := by simp only [T.rn]
@[simp] theorem mat_ifc {n : Nat} {t : Nat} {v : T} : mat (.ifc t v) n = ((.ifc t v), []) := by simp only [mat]
@[simp] theorem cell_ifc {t : Nat} {v : T} : T.cell (.ifc t v) = true := id rfl
@[simp] theorem clean_ifc {t : Nat} {v : T} : T.clean (.ifc t v) = false := id rfl
@[simp] theorem toI_ifc {t : Nat} {v : T} : T.toI (.ifc t v) = (.ifc t v) := by simp only [T.toI]
@[simp] theorem names_ifc {t : Nat} {v : T} : T.names (.ifc t v) = v.names := by simp only [T.names]
@[simp] theorem cells_ifc {t : Nat} {v : T} : T.cells (.ifc t v) = [(.ifc t v)] := id rfl
@[simp] theorem gives1_ifc {t : Nat} {v : T} : T.gives1 (.ifc t v) = false := id rfl
@[simp] theorem gives_ifc {t : Nat} {v : T} : T.gives (.ifc t v) = false := id rfl
@[simp] theorem noImm_ifc {t : Nat} {v : T} : T.noImm (.ifc t v) = v.noImm := by simp only [T.noImm]
@[simp] theorem rn_ifc {g : Nat → Nat} {t : Nat} {v : T} : T.rn g (.ifc t v) = .ifc t (v.rn g) := by simp only [T.rn]
@[simp] theorem mat_agg {n : Nat} {cs : List T} : mat (.agg cs) n = (.agg (mats cs n).1, (mats cs n).2) := by simp only [mat]
@[simp] theorem cell_agg {cs : List T} : T.cell (.agg cs) = false := id rfl
@[simp] theorem clean_agg {cs : List T} : T.clean (.agg cs) = false := id rfl
@[simp] theorem toI_agg {cs : List T} : T.toI (.agg cs) = .agg (toIs cs) := by simp only [T.toI]
@[simp] theorem names_agg {cs : List T} : T.names (.agg cs) = namess cs := by simp only [T.names]
@[simp] theorem cells_agg {cs : List T} : T.cells (.agg cs) = cs := id rfl
@[simp] theorem gives1_agg {cs : List T} : T.gives1 (.agg cs) = false := id rfl
@[simp] theorem gives_agg {cs : List T} : T.gives (.agg cs) = cs.any T.gives1 := id rfl
@[simp] theorem noImm_agg {cs : List T} : T.noImm (.agg cs) = noIms cs := by simp only [T.noImm]
@[simp] theorem rn_agg {g : Nat → Nat} {cs : List T} : T.rn g (.agg cs) = .agg (rns g cs) := by simp only [T.rn]
@[simp] theorem mat_tup {n : Nat} {cs : List T} : mat (.tup cs) n = (.tup (mats cs n).1, (mats cs n).2) := by simp only [mat]
@[simp] theorem cell_tup {cs : List T} : T.cell (.tup cs) = false := id rfl
@[simp] theorem clean_tup {cs : List T} : T.clean (.tup cs) = false := id rfl
@[simp] theorem toI_tup {cs : List T} : T.toI (.tup cs) = .tup (toIs cs) := by simp only [T.toI]
@[simp] theorem argI_tup {s : St} {cs : List T} : argI s (.tup cs) = none := by simp only [argI]
@[simp] theorem names_tup {cs : List T} : T.names (.tup cs) = namess cs := by simp only [T.names]
@[simp] theorem cells_tup {cs : List T} : T.cells (.tup cs) = [(.tup cs)] := id rfl
@[simp] theorem gives1_tup {cs : List T} : T.gives1 (.tup cs) = false := id rfl
@[simp] theorem gives_tup {cs : List T} : T.gives (.tup cs) = false := id rfl
@[simp] theorem noImm_tup {cs : List T} : T.noImm (.tup cs) = noIms cs := by simp only [T.noImm]
@[simp] theorem rn_tup {g : Nat → Nat} {cs : List T} : T.rn g (.tup cs) = .tup (rns g cs) := by simp only [T.rn]
@[simp] theorem mat_nmp {n : Nat}  : mat .nmp n = (.nmp, []) := by simp only [mat]
@[simp] theorem cell_nmp  : T.cell .nmp = true := id rfl
@[simp] theorem clean_nmp  : T.clean .nmp = true := id rfl
@[simp] theorem toI_nmp  : T.toI .nmp = .nmp := by simp only [T.toI]
@[simp] theorem argI_nmp {s : St}  : argI s .nmp = some .nmp := by simp only [argI]
@[simp] theorem names_nmp  : T.names .nmp = [] := by simp only [T.names]
@[simp] theorem cells_nmp  : T.cells .nmp = [.nmp] := id rfl
@[simp] theorem gives1_nmp  : T.gives1 .nmp = false := id rfl
@[simp] theorem gives_nmp  : T.gives .nmp = false := id rfl
@[simp] theorem noImm_nmp  : T.noImm .nmp = true := by simp only [T.noImm]
@[simp] theorem rn_nmp {g : Nat → Nat}  : T.rn g .nmp = .nmp := by simp only [T.rn]
@[simp] theorem mat_mp {n : Nat} {t : Nat} : mat (.mp t) n = ((.mp t), []) := by simp only [mat]
@[simp] theorem cell_mp {t : Nat} : T.cell (.mp t) = true := id rfl
@[simp] theorem clean_mp {t : Nat} : T.clean (.mp t) = false := id rfl
@[simp] theorem toI_mp {t : Nat} : T.toI (.mp t) = (.mp t) := by simp only [T.toI]
@[simp] theorem argI_mp {s : St} {t : Nat} : argI s (.mp t) = none := by simp only [argI]
@[simp] theorem names_mp {t : Nat} : T.names (.mp t) = [t] := by simp only [T.names]
@[simp] theorem cells_mp {t : Nat} : T.cells (.mp t) = [(.mp t)] := id rfl
@[simp] theorem gives1_mp {t : Nat} : T.gives1 (.mp t) = false := id rfl
@[simp] theorem gives_mp {t : Nat} : T.gives (.mp t) = false := id rfl
@[simp] theorem noImm_mp {t : Nat} : T.noImm (.mp t) = true := by simp only [T.noImm]
@[simp] theorem rn_mp {g : Nat → Nat} {t : Nat} : T.rn g (.mp t) = .mp (g t) := by simp only [T.rn]
variable {P : Program} {M : List (Nat × CM)} {n : Nat} {s s' : St} {Q : Exit → St → Prop} {K : T → Δ → List Nat → Prop}
/-- What must hold, and what is to come. -/
def need (p q : Prop) : Prop := p ∧ q
@[simp] theorem need_t {q : Prop} : need True q = q := by simp [need]
@[congr] theorem cg_need {p p' q : Prop} (h : p = p') : need p q = need p' q := by rw [h]
theorem need_mk {p q : Prop} (h : p) (h' : q) : need p q := ⟨h, h'⟩
/-! ### lists: not by 'rfl', so that rewriting by congruence takes note of them -/
@[simp high] theorem nr_get0 {α : Type} (a : α) (l : List α) : (a :: l)[0]? = some a := id rfl
@[simp high] theorem nr_gets {α : Type} (a : α) (l : List α) (i : Nat) : (a :: l)[i + 1]? = l[i]? := id rfl
@[simp high] theorem nr_drop0 {α : Type} (l : List α) : l.drop 0 = l := id rfl
@[simp high] theorem nr_drops {α : Type} (a : α) (l : List α) (i : Nat) : (a :: l).drop (i + 1) = l.drop i := id rfl
@[simp high] theorem nr_take0 {α : Type} (l : List α) : l.take 0 = [] := id rfl
@[simp high] theorem nr_takes {α : Type} (a : α) (l : List α) (i : Nat) : (a :: l).take (i + 1) = a :: l.take i := id rfl
@[simp high] theorem nr_taken {α : Type} (i : Nat) : ([] : List α).take i = [] := by cases i <;> exact id rfl
@[simp high] theorem nr_dropn {α : Type} (i : Nat) : ([] : List α).drop i = [] := by cases i <;> exact id rfl
@[simp high] theorem nr_set0 {α : Type} (a b : α) (l : List α) : (a :: l).set 0 b = b :: l := id rfl
@[simp high] theorem nr_sets {α : Type} (a b : α) (l : List α) (i : Nat) : (a :: l).set (i + 1) b = a :: l.set i b := id rfl
@[simp high] theorem nr_app {α : Type} (a : α) (l l' : List α) : (a :: l) ++ l' = a :: (l ++ l') := id rfl
@[simp high] theorem nr_nila {α : Type} (l : List α) : [] ++ l = l := id rfl
@[simp high] theorem nr_mapn {α β : Type} (f : α → β) : ([] : List α).map f = [] := id rfl
@[simp high] theorem nr_mapc {α β : Type} (f : α → β) (a : α) (l : List α) : (a :: l).map f = f a :: l.map f := id rfl
@[simp high] theorem nr_mats0 (n : Nat) : mats [] n = ([], []) := by rw [mats]
@[simp high] theorem nr_matss (t : T) (ts : List T) (n : Nat) : mats (t :: ts) n = ((mat t n).1 :: (mats ts (n + (mat t n).2.length)).1, (mat t n).2 ++ (mats ts (n + (mat t n).2.length)).2) := by rw [mats]
@[simp high] theorem nr_hget (j k : Nat) (v : Blk) (l : List (Nat × Blk)) : hget ((j, v) :: l) k = if j = k then some v else hget l k := by rw [hget]
@[simp high] theorem nr_tget (j k : Nat) (v : T) (l : List (Nat × T)) : tget ((j, v) :: l) k = if j = k then v else tget l k := by rw [tget]
@[simp high] theorem nr_hap0 (h : List (Nat × Blk)) : hap h [] = h := by rw [hap]
@[simp high] theorem nr_hap1 (h : List (Nat × Blk)) (t : Nat) (x : Blk) (d : Δ) : hap h ((t, some x) :: d) = hap (hset h t x) d := by rw [hap]
@[simp high] theorem nr_hap2 (h : List (Nat × Blk)) (t : Nat) (d : Δ) : hap h ((t, none) :: d) = hap (hdel h t) d := by rw [hap]
@[simp high] theorem nr_hset0 (k : Nat) (x : Blk) : hset [] k x = [(k, x)] := by rw [hset]
@[simp high] theorem nr_hset (j k : Nat) (v x : Blk) (l : List (Nat × Blk)) : hset ((j, v) :: l) k x = if j = k then (j, x) :: hdel l k else (j, v) :: hset l k x := by rw [hset]
@[simp high] theorem nr_hdel0 (k : Nat) : hdel [] k = [] := by rw [hdel]
@[simp high] theorem nr_hdel (j k : Nat) (v : Blk) (l : List (Nat × Blk)) : hdel ((j, v) :: l) k = if j = k then hdel l k else (j, v) :: hdel l k := by rw [hdel]
@[simp high] theorem nr_hget0 (k : Nat) : hget [] k = none := by rw [hget]
@[simp high] theorem nr_tget0 (k : Nat) : tget [] k = .dead := by rw [tget]
@[simp high] theorem nr_rows_nl (s : St) : rowsAt s .nl = some ([], []) := by rw [rowsAt]
@[simp high] theorem nr_rows_imm (s : St) (rows : List (List T)) : rowsAt s (.imm rows) = some (rows, []) := by rw [rowsAt]
@[simp] theorem nr_rows_ref (s : St) (t o n : Nat) : rowsAt s (.ref t o n) = match hget s.hp t with
    | some (.arr _ rows) => if o + n ≤ rows.length then some ((rows.drop o).take n, [t]) else none
    | _ => none := id rfl
/-! ### helpers that look at one thing -/
def onArr (b : Option Blk) (k : Nat → List (List T) → Prop) : Prop := match b with | some (.arr sz rows) => k sz rows | _ => False
@[simp] theorem onArr_some {sz : Nat} {rows : List (List T)} {k : Nat → List (List T) → Prop} : onArr (some (.arr sz rows)) k = k sz rows := id rfl
def onSome {α : Type} (o : Option α) (k : α → Prop) : Prop := match o with | some x => k x | none => False
@[simp] theorem onSome_some {α : Type} {x : α} {k : α → Prop} : onSome (some x) k = k x := id rfl
def pickK (c a b : T) (K : T → Δ → List Nat → Prop) : Prop := match c with | .b x => if x = true then K a [] [] else K b [] [] | _ => False
@[simp] theorem pickK_t {a b : T} : pickK (.b true) a b K = K a [] [] := id rfl
@[simp] theorem pickK_f {a b : T} : pickK (.b false) a b K = K b [] [] := id rfl
def one (x : List T × List (Nat × Blk)) (k : T → List (Nat × Blk) → Prop) : Prop := match x.1 with | [v] => k v x.2 | _ => False
@[simp] theorem one_mk {v : T} {l : List (Nat × Blk)} {k : T → List (Nat × Blk) → Prop} : one ([v], l) k = k v l := id rfl
def loadR (n t sz : Nat) (rows : List (List T)) (r : Nat) (row : List T) (o : Nat) (m : Option Nat) (K : T → Δ → List Nat → Prop) : Prop := match m with
  | some k => o + k ≤ row.length ∧ K (.agg (mats ((row.drop o).take k) n).1) (drawn t sz rows r row o k (mats ((row.drop o).take k) n)) [t]
  | none => o + 1 ≤ row.length ∧ one (mats ((row.drop o).take 1) n) fun v l => K v (if l.isEmpty = true then [] else (t, some (.arr sz (rows.set r (row.take o ++ [v] ++ row.drop (o + 1))))) :: news l) [t]
@[simp] theorem loadR_some {t sz r o k : Nat} {rows : List (List T)} {row : List T} : loadR n t sz rows r row o (some k) K = (need (o + k ≤ row.length) (K (.agg (mats ((row.drop o).take k) n).1) (drawn t sz rows r row o k (mats ((row.drop o).take k) n)) [t])) := id rfl
@[simp] theorem loadR_none {t sz r o : Nat} {rows : List (List T)} {row : List T} : loadR n t sz rows r row o none K = (need (o + 1 ≤ row.length) (one (mats ((row.drop o).take 1) n) fun v l => K v (if l.isEmpty = true then [] else (t, some (.arr sz (rows.set r (row.take o ++ [v] ++ row.drop (o + 1))))) :: news l) [t])) := id rfl
def headK (cs : List T) (k : T → Prop) : Prop := match cs with | c :: _ => k c | [] => False
@[simp] theorem headK_cons {c : T} {cs : List T} {k : T → Prop} : headK (c :: cs) k = k c := id rfl
def loadK (s : St) (n : Nat) (m : Option Nat) (v : T) (K : T → Δ → List Nat → Prop) : Prop := match v with
  | .ptr t r o => onArr (hget s.hp t) fun sz rows => onSome rows[r]? fun row => loadR n t sz rows r row o m K
  | .pim cs => match m with
    | some k => k ≤ cs.length ∧ K (.agg (cs.take k)) [] []
    | none => headK cs fun c => K c [] []
  | _ => False
@[simp] theorem loadK_ptr {t r o : Nat} {m : Option Nat} : loadK s n m (.ptr t r o) K = onArr (hget s.hp t) fun sz rows => onSome rows[r]? fun row => loadR n t sz rows r row o m K := id rfl
@[simp] theorem loadK_pims {cs : List T} {k : Nat} : loadK s n (some k) (.pim cs) K = (need (k ≤ cs.length) (K (.agg (cs.take k)) [] [])) := id rfl
@[simp] theorem loadK_pim {cs : List T} : loadK s n none (.pim cs) K = headK cs fun c => K c [] [] := id rfl
@[simp] theorem st_load {m : Option Nat} {x : X} : stepK P s n (.load m x) K = loadK s n m (x.ev s) K := by
  simp only [stepK]
  generalize x.ev s = v
  cases v <;> simp only [loadK]
  · rename_i t r o
    generalize hget s.hp t = b
    cases b with
    | none => rfl
    | some b =>
      cases b with
      | mb es => rfl
      | arr sz rows =>
        simp only [onArr]
        generalize rows[r]? = ro
        cases ro with
        | none => rfl
        | some row =>
          simp only [onSome]
          cases m with
          | some k => rfl
          | none =>
            simp only [loadR, one, Option.getD_none]
            generalize hx : mats ((row.drop o).take 1) n = xx
            obtain ⟨vs, l⟩ := xx
            match vs with
            | [] => rfl
            | [v] => simp only [drawn]
            | a :: b :: c => rfl
  · rename_i cs
    cases m with
    | some k => rfl
    | none =>
      cases cs with
      | nil => simp [headK]
      | cons c cs => simp [headK]
def mvK (v : T) (K : T → Δ → List Nat → Prop) : Prop := K v [] []
theorem mvK_v {v : T} : mvK v K = K v [] [] := id rfl
@[congr] theorem cg_mvK {v v' : T} (h : v = v') : mvK v K = mvK v' K := by rw [h]
@[simp] theorem st_mv {x : X} : stepK P s n (.mv x) K = mvK (x.ev s) K := id rfl
@[simp] theorem st_pick {c a b : X} : stepK P s n (.pick c a b) K = pickK (c.ev s) (a.ev s) (b.ev s) K := by
  simp only [stepK]
  generalize c.ev s = v
  cases v <;> rfl
@[simp] theorem st_alloc {zs : List T} : stepK P s n (.alloc zs) K = K (.ptr n 0 0) [(n, some (.arr zs.length [zs]))] [] := id rfl
def boxK (n sz : Nat) (v : T) (K : T → Δ → List Nat → Prop) : Prop := v.cells.length = sz ∧ (v.cells.all T.cell) = true ∧ K (.ptr n 0 0) [(n, some (.arr sz [v.cells]))] []
theorem boxK_v {sz : Nat} {v : T} : boxK n sz v K = need (v.cells.length = sz) (need ((v.cells.all T.cell) = true) (K (.ptr n 0 0) [(n, some (.arr sz [v.cells]))] [])) := id rfl
@[congr] theorem cg_boxK {i i' sz : Nat} {v v' : T} (hi : i = i') (h : v = v') : boxK i sz v K = boxK i' sz v' K := by rw [hi, h]
@[simp] theorem st_box {sz : Nat} {x : X} : stepK P s n (.box sz x) K = boxK n sz (x.ev s) K := id rfl
@[simp] theorem st_build {zs : List T} {ps : List (Nat × Nat × X)} : stepK P s n (.build zs ps) K = onSome (parts s zs ps) fun cs => K (.agg cs) [] [] := by
  simp only [stepK]
  cases parts s zs ps <;> rfl
def mkslK (n sz : Nat) (vs : List T) (K : T → Δ → List Nat → Prop) : Prop := (∀ v ∈ vs, v.cells.length = sz ∧ (v.cells.all T.cell) = true) ∧ K (.ref n 0 vs.length) [(n, some (.arr sz (vs.map T.cells)))] []
theorem mkslK_v {sz : Nat} {vs : List T} : mkslK n sz vs K = need (∀ v ∈ vs, v.cells.length = sz ∧ (v.cells.all T.cell) = true) (K (.ref n 0 vs.length) [(n, some (.arr sz (vs.map T.cells)))] []) := id rfl
@[congr] theorem cg_mkslK {i i' sz : Nat} {vs vs' : List T} (hi : i = i') (h : vs = vs') : mkslK i sz vs K = mkslK i' sz vs' K := by rw [hi, h]
@[simp] theorem st_mksl {sz : Nat} {ps : List X} : stepK P s n (.mksl sz ps) K = mkslK n sz (ps.map (·.ev s)) K := by
  simp only [stepK, mkslK, List.length_map, List.map_map, List.mem_map, forall_exists_index, and_imp, forall_apply_eq_imp_iff₂]
  rfl
def storeK (s : St) (m : Option Nat) (v u : T) (K : T → Δ → List Nat → Prop) : Prop := match v with
  | .ptr t r o => onArr (hget s.hp t) fun sz rows => onSome rows[r]? fun row => u.cells.length = m.getD 1 ∧ o + m.getD 1 ≤ row.length ∧ (u.cells.all T.cell) = true ∧ K .dead [(t, some (.arr sz (rows.set r (row.take o ++ u.cells ++ row.drop (o + m.getD 1)))))] [t]
  | _ => False
@[simp] theorem storeK_ptr {t r o : Nat} {m : Option Nat} {u : T} : storeK s m (.ptr t r o) u K = onArr (hget s.hp t) fun sz rows => onSome rows[r]? fun row => need (u.cells.length = m.getD 1) (need (o + m.getD 1 ≤ row.length) (need ((u.cells.all T.cell) = true) (K .dead [(t, some (.arr sz (rows.set r (row.take o ++ u.cells ++ row.drop (o + m.getD 1)))))] [t]))) := id rfl
@[simp] theorem st_store {m : Option Nat} {x v : X} : stepK P s n (.store m x v) K = storeK s m (x.ev s) (v.ev s) K := by
  simp only [stepK]
  generalize x.ev s = y
  cases y <;> simp only [storeK]
  rename_i t r o
  generalize hget s.hp t = b
  cases b with
  | none => rfl
  | some b =>
    cases b with
    | mb es => rfl
    | arr sz rows =>
      simp only [onArr]
      cases rows[r]? <;> rfl
def faK (off : Nat) (v : T) (K : T → Δ → List Nat → Prop) : Prop := match v with
  | .ptr t r o => K (.ptr t r (o + off)) [] []
  | .pim cs => off ≤ cs.length ∧ K (.pim (cs.drop off)) [] []
  | _ => False
@[simp] theorem faK_ptr {off t r o : Nat} : faK off (.ptr t r o) K = K (.ptr t r (o + off)) [] [] := id rfl
@[simp] theorem faK_pim {off : Nat} {cs : List T} : faK off (.pim cs) K = (need (off ≤ cs.length) (K (.pim (cs.drop off)) [] [])) := id rfl
@[simp] theorem st_fa {off : Nat} {x : X} : stepK P s n (.fa off x) K = faK off (x.ev s) K := by
  simp only [stepK]
  generalize x.ev s = v
  cases v <;> rfl
def fldK (off : Nat) (m : Option Nat) (v : T) (K : T → Δ → List Nat → Prop) : Prop := match v with
  | .agg cs => match m with
    | some k => off + k ≤ cs.length ∧ K (.agg ((cs.drop off).take k)) [] []
    | none => headK (cs.drop off) fun c => K c [] []
  | _ => False
@[simp] theorem fldK_s {off k : Nat} {cs : List T} : fldK off (some k) (.agg cs) K = (need (off + k ≤ cs.length) (K (.agg ((cs.drop off).take k)) [] [])) := id rfl
@[simp] theorem fldK_1 {off : Nat} {cs : List T} : fldK off none (.agg cs) K = headK (cs.drop off) fun c => K c [] [] := id rfl
@[simp] theorem st_fld {off : Nat} {m : Option Nat} {x : X} : stepK P s n (.fld off m x) K = fldK off m (x.ev s) K := by
  simp only [stepK]
  generalize x.ev s = v
  cases v <;> simp only [fldK]
  rename_i cs
  cases m with
  | some k => rfl
  | none =>
    simp only [Option.getD_none]
    cases h : cs.drop off with
    | nil => simp [headK]
    | cons c l =>
      have : off + 1 ≤ cs.length := by
        rcases Nat.lt_or_ge off cs.length with h1 | h1
        · exact h1
        · rw [List.drop_of_length_le h1] at h; cases h
      simp [headK, this]
def iaK (s : St) (sz : Nat) (v i : T) (K : T → Δ → List Nat → Prop) : Prop := match v, i with
  | .ref t o len, .i _ k => (0 ≤ k ∧ k < len) ∧ onArr (hget s.hp t) fun sz' _ => sz' = sz ∧ K (.ptr t (o + k.toNat) 0) [] [t]
  | .imm rows, .i _ k => 0 ≤ k ∧ onSome rows[k.toNat]? fun row => row.length = sz ∧ K (.pim row) [] []
  | _, _ => False
@[simp] theorem iaK_ref {sz t o len : Nat} {q : IntKind} {k : Int} : iaK s sz (.ref t o len) (.i q k) K = (need ((0 ≤ k ∧ k < len)) (onArr (hget s.hp t) fun sz' _ => need (sz' = sz) (K (.ptr t (o + k.toNat) 0) [] [t]))) := id rfl
@[simp] theorem iaK_imm {sz : Nat} {rows : List (List T)} {q : IntKind} {k : Int} : iaK s sz (.imm rows) (.i q k) K = (need (0 ≤ k) (onSome rows[k.toNat]? fun row => need (row.length = sz) (K (.pim row) [] []))) := id rfl
@[simp] theorem st_ia {sz : Nat} {x i : X} : stepK P s n (.ia sz x i) K = iaK s sz (x.ev s) (i.ev s) K := by
  simp only [stepK]
  generalize x.ev s = v
  generalize i.ev s = u
  cases v <;> cases u <;> first
    | rfl
    | (simp only [iaK]
       rename_i t o len q k
       generalize hget s.hp t = b
       cases b with
       | none => rfl
       | some b => cases b <;> rfl)
    | (simp only [iaK]
       rename_i rows q k
       cases rows[k.toNat]? <;> rfl)
def ixK (v i : T) (K : T → Δ → List Nat → Prop) : Prop := match v, i with
  | .s l, .i _ k => 0 ≤ k ∧ onSome l[k.toNat]? fun c => K (.i .u8 (c.toNat : Int)) [] []
  | _, _ => False
@[simp] theorem ixK_s {l : List UInt8} {q : IntKind} {k : Int} : ixK (.s l) (.i q k) K = (need (0 ≤ k) (onSome l[k.toNat]? fun c => K (.i .u8 (c.toNat : Int)) [] [])) := id rfl
@[simp] theorem st_ix {x i : X} : stepK P s n (.ix x i) K = ixK (x.ev s) (i.ev s) K := by
  simp only [stepK]
  generalize x.ev s = v
  generalize i.ev s = u
  cases v <;> cases u <;> first
    | rfl
    | (simp only [ixK]
       rename_i l q k
       cases l[k.toNat]? <;> rfl)
@[simp] theorem st_bin {op : BinOp} {x y : X} : stepK P s n (.bin op x y) K = binK op (x.ev s) (y.ev s) fun v => K v [] [] := id rfl
@[simp] theorem st_beq {op : BinOp} {x y : X} : stepK P s n (.beq op x y) K = beqK op (x.ev s) (y.ev s) fun v => K v [] [] := id rfl
@[simp] theorem st_peq {op : BinOp} {x y : X} : stepK P s n (.peq op x y) K = peqK op (x.ev s) (y.ev s) fun v => K v [] [] := id rfl
def unK (op : UnOp) (v : T) (K : T → Δ → List Nat → Prop) : Prop := match op, v with
  | .not, .b y => K (.b !y) [] []
  | .neg, .i k a => K (.i k (k.wrap (0 - a))) [] []
  | _, _ => False
@[simp] theorem unK_not {y : Bool} : unK .not (.b y) K = K (.b !y) [] [] := id rfl
@[simp] theorem unK_neg {k : IntKind} {a : Int} : unK .neg (.i k a) K = K (.i k (k.wrap (0 - a))) [] [] := id rfl
@[simp] theorem st_un {op : UnOp} {x : X} : stepK P s n (.un op x) K = unK op (x.ev s) K := by
  simp only [stepK]
  generalize x.ev s = v
  cases op <;> cases v <;> rfl
def convK (k : IntKind) (v : T) (K : T → Δ → List Nat → Prop) : Prop := match v with | .i _ a => K (.i k (k.wrap a)) [] [] | _ => False
@[simp] theorem convK_i {k q : IntKind} {a : Int} : convK k (.i q a) K = K (.i k (k.wrap a)) [] [] := id rfl
@[simp] theorem st_conv {k : IntKind} {x : X} : stepK P s n (.conv k x) K = convK k (x.ev s) K := by
  simp only [stepK]
  generalize x.ev s = v
  cases v <;> rfl
def strK (v : T) (K : T → Δ → List Nat → Prop) : Prop := match v with | .s l => K (.s l) [] [] | _ => False
@[simp] theorem strK_s {l : List UInt8} : strK (.s l) K = K (.s l) [] [] := id rfl
@[simp] theorem st_strid {x : X} : stepK P s n (.strid x) K = strK (x.ev s) K := by
  simp only [stepK]
  generalize x.ev s = v
  cases v <;> rfl
@[simp] theorem st_tostr {x : X} : stepK P s n (.tostr x) K = onSome (rowsAt s (x.ev s)) fun p => ∃ l : List UInt8, p.1 = l.map (fun c => [.i .u8 (c.toNat : Int)]) ∧ K (.s l) [] p.2 := by
  simp only [stepK]
  cases rowsAt s (x.ev s) with
  | none => rfl
  | some p => rfl
def slsK (v : T) (lo hi : Option T) (K : T → Δ → List Nat → Prop) : Prop := match v with
  | .s l => bnd l.length lo hi fun a b => K (.s ((l.drop a).take (b - a))) [] []
  | _ => False
@[simp] theorem slsK_s {l : List UInt8} {lo hi : Option T} : slsK (.s l) lo hi K = bnd l.length lo hi fun a b => K (.s ((l.drop a).take (b - a))) [] [] := id rfl
@[simp] theorem st_sls {x : X} {lo hi : Option X} : stepK P s n (.sls x lo hi) K = slsK (x.ev s) (lo.map (·.ev s)) (hi.map (·.ev s)) K := by
  simp only [stepK]
  generalize x.ev s = v
  cases v <;> rfl
def slK (s : St) (sz : Nat) (v : T) (lo hi : Option T) (K : T → Δ → List Nat → Prop) : Prop := match v with
  | .imm rows => bnd rows.length lo hi fun a b => (∀ r ∈ rows, r.length = sz) ∧ K (.imm ((rows.drop a).take (b - a))) [] []
  | .ref t o m => bnd m lo hi fun a b => onArr (hget s.hp t) fun sz' _ => sz' = sz ∧ K (.ref t (o + a) (b - a)) [] [t]
  | .nl => bnd 0 lo hi fun a b => K .nl [] []
  | _ => False
@[simp] theorem slK_imm {sz : Nat} {rows : List (List T)} {lo hi : Option T} : slK s sz (.imm rows) lo hi K = bnd rows.length lo hi fun a b => need ((∀ r ∈ rows, r.length = sz)) (K (.imm ((rows.drop a).take (b - a))) [] []) := id rfl
@[simp] theorem slK_ref {sz t o m : Nat} {lo hi : Option T} : slK s sz (.ref t o m) lo hi K = bnd m lo hi fun a b => onArr (hget s.hp t) fun sz' _ => need (sz' = sz) (K (.ref t (o + a) (b - a)) [] [t]) := id rfl
@[simp] theorem slK_nl {sz : Nat} {lo hi : Option T} : slK s sz .nl lo hi K = bnd 0 lo hi fun a b => K .nl [] [] := id rfl
@[simp] theorem st_sl {sz : Nat} {x : X} {lo hi : Option X} : stepK P s n (.sl sz x lo hi) K = slK s sz (x.ev s) (lo.map (·.ev s)) (hi.map (·.ev s)) K := by
  simp only [stepK]
  generalize x.ev s = v
  cases v <;> first
    | rfl
    | (simp only [slK]
       congr 1
       funext a b
       rename_i t o m
       generalize hget s.hp t = b
       cases b with
       | none => rfl
       | some b => cases b <;> rfl)
def lenK (v : T) (K : T → Δ → List Nat → Prop) : Prop := match v with
  | .imm rows => K (.i .i64 (rows.length : Int)) [] []
  | .ref _ _ m => K (.i .i64 (m : Int)) [] []
  | .nl => K (.i .i64 0) [] []
  | .s l => K (.i .i64 (l.length : Int)) [] []
  | _ => False
@[simp] theorem lenK_imm {rows : List (List T)} : lenK (.imm rows) K = K (.i .i64 (rows.length : Int)) [] [] := id rfl
@[simp] theorem lenK_ref {t o m : Nat} : lenK (.ref t o m) K = K (.i .i64 (m : Int)) [] [] := id rfl
@[simp] theorem lenK_nl : lenK .nl K = K (.i .i64 0) [] [] := id rfl
@[simp] theorem lenK_s {l : List UInt8} : lenK (.s l) K = K (.i .i64 (l.length : Int)) [] [] := id rfl
def lenV (str : Bool) (v : T) (K : T → Δ → List Nat → Prop) : Prop := match str, v with
  | true, .s l => lenK (.s l) K
  | false, .s _ => False
  | true, _ => False
  | false, v => lenK v K
@[simp] theorem lenV_s {l : List UInt8} : lenV true (.s l) K = K (.i .i64 (l.length : Int)) [] [] := id rfl
@[simp] theorem lenV_imm {rows : List (List T)} : lenV false (.imm rows) K = K (.i .i64 (rows.length : Int)) [] [] := id rfl
@[simp] theorem lenV_ref {t o m : Nat} : lenV false (.ref t o m) K = K (.i .i64 (m : Int)) [] [] := id rfl
@[simp] theorem lenV_nl : lenV false .nl K = K (.i .i64 0) [] [] := id rfl
@[simp] theorem st_lens {x : X} : stepK P s n (.lens x) K = lenV true (x.ev s) K := by
  simp only [stepK]
  generalize x.ev s = v
  cases v <;> rfl
@[simp] theorem st_len {x : X} : stepK P s n (.len x) K = lenV false (x.ev s) K := by
  simp only [stepK]
  generalize x.ev s = v
  cases v <;> rfl
def appK (s : St) (n sz bytes : Nat) (v : T) (p : List (List T) × List Nat) (K : T → Δ → List Nat → Prop) : Prop := match v with
  | .nl => p.1.length * bytes ≤ 35184372088832 ∧ K (.ref n 0 p.1.length) [(n, some (.arr sz p.1))] p.2
  | .ref t o m => onArr (hget s.hp t) fun sz' rows => sz' = sz ∧ o + m ≤ rows.length ∧ t ∉ p.2 ∧ (m + p.1.length) * bytes ≤ 35184372088832 ∧ K (.ref n 0 (m + p.1.length)) [(t, none), (n, some (.arr sz ((rows.drop o).take m ++ p.1)))] (t :: p.2)
  | _ => False
@[simp] theorem appK_nl {sz bytes : Nat} {p : List (List T) × List Nat} : appK s n sz bytes .nl p K = (need (p.1.length * bytes ≤ 35184372088832) (K (.ref n 0 p.1.length) [(n, some (.arr sz p.1))] p.2)) := id rfl
@[simp] theorem appK_ref {sz bytes t o m : Nat} {p : List (List T) × List Nat} : appK s n sz bytes (.ref t o m) p K = onArr (hget s.hp t) fun sz' rows => need (sz' = sz) (need (o + m ≤ rows.length) (need (t ∉ p.2) (need ((m + p.1.length) * bytes ≤ 35184372088832) (K (.ref n 0 (m + p.1.length)) [(t, none), (n, some (.arr sz ((rows.drop o).take m ++ p.1)))] (t :: p.2))))) := id rfl
@[simp] theorem st_app {sz bytes : Nat} {x y : X} : stepK P s n (.app sz bytes x y) K = onSome (rowsAt s (y.ev s)) fun p => need (∀ r ∈ p.1, r.length = sz ∧ r.all T.cell = true) (appK s n sz bytes (x.ev s) p K) := by
  simp only [stepK]
  cases rowsAt s (y.ev s) with
  | none => rfl
  | some p =>
    obtain ⟨src, ts⟩ := p
    simp only [onSome]
    generalize x.ev s = v
    cases v <;> first
      | rfl
      | (simp only [appK]
         rename_i t o m
         generalize hget s.hp t = b
         cases b with
         | none => rfl
         | some b => cases b <;> rfl)
def makeK (n sz bytes : Nat) (zs : List T) (v : T) (K : T → Δ → List Nat → Prop) : Prop := match v with
  | .i .i64 k => 0 ≤ k ∧ k ≤ 35184372088832 ∧ k * bytes ≤ 35184372088832 ∧ K (.ref n 0 k.toNat) [(n, some (.arr sz (List.replicate k.toNat zs)))] []
  | _ => False
@[simp] theorem makeK_i {sz bytes : Nat} {zs : List T} {k : Int} : makeK n sz bytes zs (.i .i64 k) K = (need (0 ≤ k) (need (k ≤ 35184372088832) (need (k * bytes ≤ 35184372088832) (K (.ref n 0 k.toNat) [(n, some (.arr sz (List.replicate k.toNat zs)))] [])))) := id rfl
@[simp] theorem st_make {sz bytes : Nat} {zs : List T} {x : X} : stepK P s n (.make sz bytes zs x) K = makeK n sz bytes zs (x.ev s) K := by
  simp only [stepK]
  generalize x.ev s = v
  cases v <;> first
    | rfl
    | (rename_i k m; cases k <;> rfl)
/-- What is to come, out of the rewriting's sight. -/
class Hold (α : Type) where
  k : α
def callH (P : Program) (s : St) (n : Nat) (mu : List Nat) (q : RK) (f : Nat) (az : List T) [h : Hold (T → Δ → List Nat → Prop)] : Prop := callK P s n mu q f az h.k
def loopH (P : Program) (M : List (Nat × CM)) (n : Nat) [b : Hold PC] (s : St) [h : Hold (Exit → St → Prop)] : Prop := W P M n (.loop b.k) s h.k
def hookH (P : Program) (s : St) (n : Nat) [op : Hold Op] (xs : List T) [h : Hold (T → Δ → List Nat → Prop)] : Prop := ∃ hp v δ, (∀ p ∈ hp, hget s.hp p.1 = some p.2) ∧ HookOk P op.k xs hp n v δ ∧ h.k v δ (hp.map (·.1))
@[simp] theorem st_hook {op : Op} {ys : List X} : stepK P s n (.hook op ys) K = @hookH P s n ⟨op⟩ (ys.map (·.ev s)) ⟨K⟩ := id rfl
theorem hookH_of {op : Op} {xs : List T} {K : T → Δ → List Nat → Prop} {v : T} {δ : Δ} (hp : List (Nat × Blk)) (h : HookOk P op xs hp n v δ) (h1 : ∀ p ∈ hp, hget s.hp p.1 = some p.2) (h2 : K v δ (hp.map (·.1))) : @hookH P s n ⟨op⟩ xs ⟨K⟩ := ⟨hp, v, δ, h1, h, h2⟩
theorem W_loopH {b : PC} : W P M n (.loop b) s Q = @loopH P M n ⟨b⟩ s ⟨Q⟩ := id rfl
/-- A loop that keeps an invariant. -/
theorem W_while {b : PC} (I : Nat → St → Prop) {m : Nat} (h0 : I m s) (step : ∀ m s, I m s → W P M n b s (thn (fun s' => ∃ s2 m', Wk s' s2 ∧ m' < m ∧ I m' s2) Q)) : @loopH P M n ⟨b⟩ s ⟨Q⟩ := W_while0 I h0 step
/-- A loop over numbers from 0 on. -/
theorem W_for {b : PC} (st : Nat → St) (len : Nat) (inv : Nat → Prop) (h0 : Wk s (st 0)) (hi : inv 0) (step : ∀ i, i ≤ len → inv i → W P M n b (st i) (thn (fun s' => i < len ∧ inv (i + 1) ∧ Wk s' (st (i + 1))) Q)) : @loopH P M n ⟨b⟩ s ⟨Q⟩ := W_for0 st len inv h0 hi step
theorem W_wk {b : PC} : Wk s s' → @loopH P M n ⟨b⟩ s' ⟨Q⟩ → @loopH P M n ⟨b⟩ s ⟨Q⟩ := W_wk0
@[simp] theorem st_call {mu : List Nat} {q : RK} {f : Nat} {az : List X} : stepK P s n (.call (.ev mu q) f az) K = @callH P s n mu q f (az.map (·.ev s)) ⟨K⟩ := id rfl
def callvK (P : Program) (s : St) (n : Nat) (mu : List Nat) (q : RK) (v : T) (az : List T) (K : T → Δ → List Nat → Prop) : Prop := match v with
  | .fn g caps => okCall P g = true ∧ @callH P s n mu q g (az ++ caps) ⟨K⟩
  | _ => False
@[simp] theorem callvK_fn {mu : List Nat} {q : RK} {g : Nat} {az caps : List T} : callvK P s n mu q (.fn g caps) az K = (need (okCall P g = true) (@callH P s n mu q g (az ++ caps) ⟨K⟩)) := id rfl
@[simp] theorem st_callv {mu : List Nat} {q : RK} {f : X} {az : List X} : stepK P s n (.callv (.ev mu q) f az) K = callvK P s n mu q (f.ev s) (az.map (·.ev s)) K := by
  simp only [stepK]
  generalize f.ev s = v
  cases v <;> rfl
def extK (i : Nat) (v : T) (K : T → Δ → List Nat → Prop) : Prop := match v with
  | .tup xs => onSome xs[i]? fun v => K v [] []
  | _ => False
@[simp] theorem extK_tup {i : Nat} {xs : List T} : extK i (.tup xs) K = onSome xs[i]? fun v => K v [] [] := id rfl
@[simp] theorem st_ext {i : Nat} {x : X} : stepK P s n (.ext i x) K = extK i (x.ev s) K := by
  simp only [stepK]
  generalize x.ev s = v
  cases v <;> first
    | rfl
    | (rename_i xs; simp only [extK]; cases xs[i]? <;> rfl)
def nilK (P : Program) (v : T) (K : T → Δ → List Nat → Prop) : Prop := match v with
  | .ptr t r o => K (.ptr t r o) [] []
  | .pim cs => K (.pim cs) [] []
  | .ifc t (.ifc t' y) => (4294967296 ≤ t ∧ t' < 4294967296 ∧ nilOk P t' = true) ∧ K (.ifc t (.ifc t' y)) [] []
  | _ => False
@[simp] theorem nilK_ptr {t r o : Nat} : nilK P (.ptr t r o) K = K (.ptr t r o) [] [] := id rfl
@[simp] theorem nilK_pim {cs : List T} : nilK P (.pim cs) K = K (.pim cs) [] [] := id rfl
@[simp] theorem nilK_ifc {t t' : Nat} {y : T} : nilK P (.ifc t (.ifc t' y)) K = need (4294967296 ≤ t ∧ t' < 4294967296 ∧ nilOk P t' = true) (K (.ifc t (.ifc t' y)) [] []) := id rfl
@[simp] theorem st_nilchk {x : X} : stepK P s n (.nilchk x) K = nilK P (x.ev s) K := by
  simp only [stepK]
  generalize x.ev s = v
  cases v <;> first | rfl | (rename_i y; cases y <;> rfl)
@[simp] theorem st_mkfn {f : Nat} {caps : List X} : stepK P s n (.mkfn f caps) K = mvK (.fn f (caps.map (·.ev s))) K := id rfl
/-! ### operations of numbers and words -/
@[simp] theorem bk_i_add {k : IntKind} {a b : Int} {K : T → Prop} : binK .add (.i k a) (.i k b) K = K (.i k (k.wrap (a + b))) := by simp only [binK, true_and]
@[simp] theorem bk_i_sub {k : IntKind} {a b : Int} {K : T → Prop} : binK .sub (.i k a) (.i k b) K = K (.i k (k.wrap (a - b))) := by simp only [binK, true_and]
@[simp] theorem bk_i_mul {k : IntKind} {a b : Int} {K : T → Prop} : binK .mul (.i k a) (.i k b) K = K (.i k (k.wrap (a * b))) := by simp only [binK, true_and]
@[simp] theorem bk_i_quo {k : IntKind} {a b : Int} {K : T → Prop} : binK .quo (.i k a) (.i k b) K = need (b ≠ 0) (K (.i k (k.wrap (a.tdiv b)))) := by simp only [binK, true_and, need]
@[simp] theorem bk_i_rem {k : IntKind} {a b : Int} {K : T → Prop} : binK .rem (.i k a) (.i k b) K = need (b ≠ 0) (K (.i k (a.tmod b))) := by simp only [binK, true_and, need]
@[simp] theorem bk_i_eql {k : IntKind} {a b : Int} {K : T → Prop} : binK .eql (.i k a) (.i k b) K = K (.b (decide (a = b))) := by simp only [binK, true_and]; rw [show (a == b) = decide (a = b) by by_cases h : a = b <;> simp [h]]
@[simp] theorem bk_i_neq {k : IntKind} {a b : Int} {K : T → Prop} : binK .neq (.i k a) (.i k b) K = K (.b (!decide (a = b))) := by simp only [binK, true_and]; rw [show (a != b) = !decide (a = b) by by_cases h : a = b <;> simp [h]]
@[simp] theorem bk_i_lss {k : IntKind} {a b : Int} {K : T → Prop} : binK .lss (.i k a) (.i k b) K = K (.b (decide (a < b))) := by simp only [binK, true_and]
@[simp] theorem bk_i_leq {k : IntKind} {a b : Int} {K : T → Prop} : binK .leq (.i k a) (.i k b) K = K (.b (decide (a ≤ b))) := by simp only [binK, true_and]
@[simp] theorem bk_i_gtr {k : IntKind} {a b : Int} {K : T → Prop} : binK .gtr (.i k a) (.i k b) K = K (.b (decide (a > b))) := by simp only [binK, true_and]
@[simp] theorem bk_i_geq {k : IntKind} {a b : Int} {K : T → Prop} : binK .geq (.i k a) (.i k b) K = K (.b (decide (a ≥ b))) := by simp only [binK, true_and]
@[simp] theorem bk_i_xor {k : IntKind} {a b : Int} {K : T → Prop} : binK .xor (.i k a) (.i k b) K = K (.i k (k.wrap ((BitVec.ofInt k.bits a ^^^ BitVec.ofInt k.bits b).toNat : Int))) := by simp only [binK, true_and]
@[simp] theorem bk_s_add {a b : List UInt8} {K : T → Prop} : binK .add (.s a) (.s b) K = need (a.length + b.length ≤ 9223372036854775807) (K (.s (a ++ b))) := by simp only [binK, need]
@[simp] theorem bk_s_eql {a b : List UInt8} {K : T → Prop} : binK .eql (.s a) (.s b) K = K (.b (decide (a = b))) := by simp only [binK]; rw [show (a == b) = decide (a = b) by by_cases h : a = b <;> simp [h]]
@[simp] theorem bk_s_neq {a b : List UInt8} {K : T → Prop} : binK .neq (.s a) (.s b) K = K (.b (!decide (a = b))) := by simp only [binK]; rw [show (a == b) = decide (a = b) by by_cases h : a = b <;> simp [h]]
@[simp] theorem bk_s_lss {a b : List UInt8} {K : T → Prop} : binK .lss (.s a) (.s b) K = K (.b (Op.bytesLess a b)) := by simp only [binK]
@[simp] theorem bk_s_leq {a b : List UInt8} {K : T → Prop} : binK .leq (.s a) (.s b) K = K (.b (Op.bytesLess a b || a == b)) := by simp only [binK]
@[simp] theorem bk_s_gtr {a b : List UInt8} {K : T → Prop} : binK .gtr (.s a) (.s b) K = K (.b (!(Op.bytesLess a b || a == b))) := by simp only [binK]
@[simp] theorem bk_s_geq {a b : List UInt8} {K : T → Prop} : binK .geq (.s a) (.s b) K = K (.b (!(Op.bytesLess a b))) := by simp only [binK]
@[simp] theorem bk_b_eql {x y : Bool} {K : T → Prop} : beqK .eql (.b x) (.b y) K = K (.b (x == y)) := by simp only [beqK]
@[simp] theorem bk_b_neq {x y : Bool} {K : T → Prop} : beqK .neq (.b x) (.b y) K = K (.b (!(x == y))) := by simp only [beqK]
def peq2 (p q : Option Bool) (k : Bool → Prop) : Prop := match p, q with
  | some a, some b => (a = true ∨ b = true) ∧ k (a && b)
  | _, _ => False
@[simp] theorem peq2_some {a b : Bool} {k : Bool → Prop} : peq2 (some a) (some b) k = need (a = true ∨ b = true) (k (a && b)) := id rfl
@[simp] theorem bk_p_eql {x y : T} {K : T → Prop} : peqK .eql x y K = peq2 x.nilness y.nilness fun b => K (.b b) := by
  simp only [peqK]
  generalize x.nilness = p
  generalize y.nilness = q
  cases p <;> cases q <;> rfl
@[simp] theorem bk_p_neq {x y : T} {K : T → Prop} : peqK .neq x y K = peq2 x.nilness y.nilness fun b => K (.b !b) := by
  simp only [peqK]
  generalize x.nilness = p
  generalize y.nilness = q
  cases p <;> cases q <;> rfl
/-! ### regions -/
def guardK (v : T) (want : Bool) (p q : Prop) : Prop := match v with
  | .b x => if x = want then p else q
  | .un => q
  | _ => False
@[simp] theorem guardK_tt {p q : Prop} : guardK (.b true) true p q = p := id rfl
@[simp] theorem guardK_ft {p q : Prop} : guardK (.b false) true p q = q := id rfl
@[simp] theorem guardK_tf {p q : Prop} : guardK (.b true) false p q = q := id rfl
@[simp] theorem guardK_ff {p q : Prop} : guardK (.b false) false p q = p := id rfl
@[simp] theorem guardK_un {w : Bool} {p q : Prop} : guardK .un w p q = q := id rfl
@[simp] theorem wops_nil {k : St → Prop} : wops P [] s k = k s := id rfl
@[simp] theorem wops_cons {po : PO} {l : List PO} {k : St → Prop} : wops P (po :: l) s k = wop P s po fun s' => wops P l s' k := id rfl
@[simp] theorem wop_none {tm : List (Nat × T)} {hp : List (Nat × Blk)} {nx fb : Nat} {d : Option Nat} {pi : PI} {pre : List Nat} {k : St → Prop} : wop P ⟨tm, hp, nx, fb⟩ ⟨d, pi, none, pre⟩ k = stepK P ⟨tm, hp, nx, fb⟩ nx pi fun v δ rd => k ⟨tput tm d v, hap hp δ, nx + δ.length, fb⟩ := id rfl
@[simp] theorem wop_some {tm : List (Nat × T)} {hp : List (Nat × Blk)} {nx fb : Nat} {d : Option Nat} {pi : PI} {j : Nat} {w : Bool} {pre : List Nat} {k : St → Prop} : wop P ⟨tm, hp, nx, fb⟩ ⟨d, pi, some (j, w), pre⟩ k = guardK (tget tm j) w (stepK P ⟨tm, hp, nx, fb⟩ nx pi fun v δ rd => k ⟨tput tm d v, hap hp δ, nx + δ.length, fb⟩) (k ⟨tput tm d .un, hp, nx, fb⟩) := by
  simp only [wop]
  generalize tget tm j = v
  cases v <;> rfl
def gdv (v : T) (w : Bool) : Option Bool := match v with
  | .b x => if x = w then some true else some false
  | .un => some false
  | _ => none
@[simp] theorem gdv_tt : gdv (.b true) true = some true := id rfl
@[simp] theorem gdv_ft : gdv (.b false) true = some false := id rfl
@[simp] theorem gdv_tf : gdv (.b true) false = some false := id rfl
@[simp] theorem gdv_ff : gdv (.b false) false = some true := id rfl
@[simp] theorem gdv_un {w : Bool} : gdv .un w = some false := id rfl
@[simp] theorem gd_none {d : Option Nat} {pi : PI} {pre : List Nat} : gd s ⟨d, pi, none, pre⟩ = some true := id rfl
@[simp] theorem gd_some {d : Option Nat} {pi : PI} {j : Nat} {w : Bool} {pre : List Nat} : gd s ⟨d, pi, some (j, w), pre⟩ = gdv (tget s.tm j) w := by
  simp only [gd]
  generalize tget s.tm j = v
  cases v <;> rfl
def wdlK (g : Option Bool) (p q : Prop) : Prop := match g with
  | some true => p
  | some false => q
  | none => False
@[simp] theorem wdlK_t {p q : Prop} : wdlK (some true) p q = p := id rfl
@[simp] theorem wdlK_f {p q : Prop} : wdlK (some false) p q = q := id rfl
@[simp] theorem wdl_nil {ah : List (List Nat)} {base j : Nat} {log : List (Nat × List Nat × List Nat)} {k : St → Prop} : wdl P ah base [] j s log k = k s := id rfl
def freeH (j : Nat) (wr rd : List Nat) (log : List (Nat × List Nat × List Nat)) [ah : Hold (List (List Nat))] : Bool := free (ah.k.getD j []) wr rd log
def inH (j m : Nat) [ah : Hold (List (List Nat))] : Bool := (ah.k.getD j []).contains m
@[simp] theorem wdl_none {tm : List (Nat × T)} {hp : List (Nat × Blk)} {nx fb : Nat} {ah : List (List Nat)} {base j : Nat} {d : Option Nat} {pi : PI} {pre : List Nat} {r : List PO} {log : List (Nat × List Nat × List Nat)} {k : St → Prop} : wdl P ah base (⟨d, pi, none, pre⟩ :: r) j ⟨tm, hp, nx, fb⟩ log k = stepK P ⟨tm, hp, nx, fb⟩ (base + 8 * j) pi fun v δ rd => need (δ.length ≤ 8) (need (@freeH j (δ.map (·.1)) rd log ⟨ah⟩ = true) (wdl P ah base r (j + 1) ⟨tput tm d v, hap hp δ, nx, fb⟩ ((j, δ.map (·.1), rd) :: log) k)) := id rfl
@[simp] theorem wdl_some {tm : List (Nat × T)} {hp : List (Nat × Blk)} {nx fb : Nat} {ah : List (List Nat)} {base j i : Nat} {w : Bool} {d : Option Nat} {pi : PI} {pre : List Nat} {r : List PO} {log : List (Nat × List Nat × List Nat)} {k : St → Prop} : wdl P ah base (⟨d, pi, some (i, w), pre⟩ :: r) j ⟨tm, hp, nx, fb⟩ log k = guardK (tget tm i) w (stepK P ⟨tm, hp, nx, fb⟩ (base + 8 * j) pi fun v δ rd => need (δ.length ≤ 8) (need (@freeH j (δ.map (·.1)) rd log ⟨ah⟩ = true) (wdl P ah base r (j + 1) ⟨tput tm d v, hap hp δ, nx, fb⟩ ((j, δ.map (·.1), rd) :: log) k))) (wdl P ah base r (j + 1) ⟨tput tm d .un, hp, nx, fb⟩ log k) := by
  simp only [wdl, gd]
  cases tget tm i <;> simp only [guardK]
  case b x => by_cases h : x = w <;> simp [h] <;> rfl
@[simp] theorem wdraw_mk {tm : List (Nat × T)} {hp : List (Nat × Blk)} {nx fb : Nat} {ops : List PO} {k : St → Prop} : wdraw P ops ⟨tm, hp, nx, fb⟩ k = wdl P (ahead ops) nx ops 0 ⟨tm, hp, nx + 8 * ops.length, fb⟩ [] k := id rfl
def condK (v : T) (p q : Prop) : Prop := match v with
  | .b x => if x = true then p else q
  | _ => False
@[simp] theorem condK_t {p q : Prop} : condK (.b true) p q = p := id rfl
@[simp] theorem condK_f {p q : Prop} : condK (.b false) p q = q := id rfl
@[simp] theorem condK_b {x : Bool} {p q : Prop} : condK (.b x) p q = if x = true then p else q := id rfl
@[simp] theorem guardK_b {x : Bool} {p q : Prop} : guardK (.b x) true p q = if x = true then p else q := id rfl
@[simp] theorem guardK_nb {x : Bool} {p q : Prop} : guardK (.b x) false p q = if x = true then q else p := by cases x <;> rfl
theorem W_cond' {x : X} {a b : PC} : W P M n (.cond x a b) s Q = condK (x.ev s) (W P M n a s Q) (W P M n b s Q) := id rfl
@[congr] theorem cg_condK {v v' : T} {p q : Prop} (hv : v = v') : condK v p q = condK v' p q := by rw [hv]
@[simp] theorem ev_t {tm : List (Nat × T)} {hp : List (Nat × Blk)} {nx fb j : Nat} : X.ev ⟨tm, hp, nx, fb⟩ (.t j) = tget tm j := id rfl
@[simp] theorem ev_c {v : T} : X.ev s (.c v) = v := id rfl
@[simp] theorem tput_some {l : List (Nat × T)} {d : Nat} {v : T} : tput l (some d) v = (d, v) :: l := id rfl
@[simp] theorem tput_none {l : List (Nat × T)} {v : T} : tput l none v = l := id rfl
theorem freeH_nil {j : Nat} {wr rd : List Nat} {ah : Hold (List (List Nat))} : @freeH j wr rd [] ah = true := id rfl
theorem freeH_00 {j m : Nat} {rd r : List Nat} {ah : Hold (List (List Nat))} {log : List (Nat × List Nat × List Nat)} : @freeH j [] rd ((m, [], r) :: log) ah = @freeH j [] rd log ah := by simp [freeH, free]
theorem freeH_cons {j m : Nat} {wr rd w r : List Nat} {ah : Hold (List (List Nat))} {log : List (Nat × List Nat × List Nat)} : @freeH j wr rd ((m, w, r) :: log) ah = ((((wr.all fun t => !(w ++ r).contains t) && (w.all fun t => !rd.contains t)) || @inH j m ah) && @freeH j wr rd log ah) := by simp [freeH, free, inH, Bool.or_comm]
attribute [simp] freeH_nil freeH_00 freeH_cons
theorem free_nil {ah wr rd : List Nat} : free ah wr rd [] = true := rfl
theorem free_00 {ah rd r : List Nat} {m : Nat} {log : List (Nat × List Nat × List Nat)} : free ah [] rd ((m, [], r) :: log) = free ah [] rd log := by simp [free]
attribute [simp] free_nil free_00
/-! ### where rewriting looks -/
@[congr] theorem cg_onArr {b b' : Option Blk} {k : Nat → List (List T) → Prop} (h : b = b') : onArr b k = onArr b' k := by rw [h]
@[congr] theorem cg_onSome {α : Type} {o o' : Option α} {k : α → Prop} (h : o = o') : onSome o k = onSome o' k := by rw [h]
@[congr] theorem cg_pickK {c a b c' a' b' : T} (h : c = c') (ha : a = a') (hb : b = b') : pickK c a b K = pickK c' a' b' K := by rw [h, ha, hb]
@[congr] theorem cg_one {x x' : List T × List (Nat × Blk)} {k : T → List (Nat × Blk) → Prop} (h : x = x') : one x k = one x' k := by rw [h]
@[congr] theorem cg_loadR {i i' t t' sz sz' r r' o o' : Nat} {rows rows' : List (List T)} {row row' : List T} {m m' : Option Nat} (hi : i = i') (ht : t = t') (hsz : sz = sz') (hrs : rows = rows') (hr : r = r') (hw : row = row') (ho : o = o') (hm : m = m') : loadR i t sz rows r row o m K = loadR i' t' sz' rows' r' row' o' m' K := by rw [hi, ht, hsz, hrs, hr, hw, ho, hm]
@[congr] theorem cg_headK {cs cs' : List T} {k : T → Prop} (h : cs = cs') : headK cs k = headK cs' k := by rw [h]
@[congr] theorem cg_loadK {i i' : Nat} {m : Option Nat} {v v' : T} (h : s = s') (hi : i = i') (hv : v = v') : loadK s i m v K = loadK s' i' m v' K := by rw [h, hi, hv]
@[congr] theorem cg_storeK {m : Option Nat} {v u v' u' : T} (h : s = s') (hv : v = v') (hu : u = u') : storeK s m v u K = storeK s' m v' u' K := by rw [h, hv, hu]
@[congr] theorem cg_faK {off : Nat} {v v' : T} (hv : v = v') : faK off v K = faK off v' K := by rw [hv]
@[congr] theorem cg_fldK {off : Nat} {m : Option Nat} {v v' : T} (hv : v = v') : fldK off m v K = fldK off m v' K := by rw [hv]
@[congr] theorem cg_iaK {sz : Nat} {v i v' i' : T} (h : s = s') (hv : v = v') (hi : i = i') : iaK s sz v i K = iaK s' sz v' i' K := by rw [h, hv, hi]
@[congr] theorem cg_ixK {v i v' i' : T} (hv : v = v') (hi : i = i') : ixK v i K = ixK v' i' K := by rw [hv, hi]
@[congr] theorem cg_unK {op : UnOp} {v v' : T} (hv : v = v') : unK op v K = unK op v' K := by rw [hv]
@[congr] theorem cg_convK {k : IntKind} {v v' : T} (hv : v = v') : convK k v K = convK k v' K := by rw [hv]
@[congr] theorem cg_strK {v v' : T} (hv : v = v') : strK v K = strK v' K := by rw [hv]
@[congr] theorem cg_slsK {v v' : T} {lo hi lo' hi' : Option T} (hv : v = v') (hl : lo = lo') (hh : hi = hi') : slsK v lo hi K = slsK v' lo' hi' K := by rw [hv, hl, hh]
@[congr] theorem cg_slK {sz : Nat} {v v' : T} {lo hi lo' hi' : Option T} (h : s = s') (hv : v = v') (hl : lo = lo') (hh : hi = hi') : slK s sz v lo hi K = slK s' sz v' lo' hi' K := by rw [h, hv, hl, hh]
@[congr] theorem cg_lenV {b : Bool} {v v' : T} (hv : v = v') : lenV b v K = lenV b v' K := by rw [hv]
@[congr] theorem cg_lenK {v v' : T} (hv : v = v') : lenK v K = lenK v' K := by rw [hv]
@[congr] theorem cg_appK {i i' sz bytes : Nat} {v v' : T} {p p' : List (List T) × List Nat} (h : s = s') (hi : i = i') (hv : v = v') (hp : p = p') : appK s i sz bytes v p K = appK s' i' sz bytes v' p' K := by rw [h, hi, hv, hp]
@[congr] theorem cg_makeK {i i' sz bytes : Nat} {zs : List T} {v v' : T} (hi : i = i') (hv : v = v') : makeK i sz bytes zs v K = makeK i' sz bytes zs v' K := by rw [hi, hv]
@[congr] theorem cg_callvK {i i' : Nat} {mu : List Nat} {q : RK} {v v' : T} {az as' : List T} (h : s = s') (hi : i = i') (hv : v = v') (ha : az = as') : callvK P s i mu q v az K = callvK P s' i' mu q v' as' K := by rw [h, hi, hv, ha]
@[congr] theorem cg_extK {i : Nat} {v v' : T} (hv : v = v') : extK i v K = extK i v' K := by rw [hv]
@[congr] theorem cg_nilK {v v' : T} (hv : v = v') : nilK P v K = nilK P v' K := by rw [hv]
@[congr] theorem cg_guardK {v v' : T} {w : Bool} {p q : Prop} (hv : v = v') : guardK v w p q = guardK v' w p q := by rw [hv]
@[congr] theorem cg_wdlK {g g' : Option Bool} {p q : Prop} (hg : g = g') : wdlK g p q = wdlK g' p q := by rw [hg]
end
attribute [simp ↓] W_loopH W_skip W_reg W_draw W_seq W_cond' W_block W_exit W_ret thn_normal thn_exit thn_ret inb_normal inb_ret inb_exit wops_nil wops_cons wop_none wop_some wdl_nil wdl_none wdl_some st_load st_mv st_pick st_alloc st_box st_build st_mksl st_store st_fa st_fld st_ia st_ix st_bin st_beq st_peq st_un st_conv st_strid st_tostr st_sls st_sl st_lens st_len st_app st_make st_call st_callv st_ext st_nilchk st_mkfn st_hook wdraw_mk
attribute [simp ↓] onArr_some onSome_some pickK_t pickK_f one_mk loadR_some loadR_none headK_cons loadK_ptr loadK_pims loadK_pim mvK_v boxK_v mkslK_v storeK_ptr faK_ptr faK_pim fldK_s fldK_1 iaK_ref iaK_imm ixK_s unK_not unK_neg convK_i strK_s slsK_s slK_imm slK_ref slK_nl lenV_s lenV_imm lenV_ref lenV_nl appK_nl appK_ref makeK_i callvK_fn extK_tup nilK_ptr nilK_pim bk_i_add bk_i_sub bk_i_mul bk_i_quo bk_i_rem bk_i_eql bk_i_neq bk_i_lss bk_i_leq bk_i_gtr bk_i_geq bk_s_add bk_s_eql bk_s_neq bk_s_lss bk_s_leq bk_s_gtr bk_s_geq bk_b_eql bk_b_neq peq2_some guardK_tt guardK_ft guardK_tf guardK_ff guardK_un wdlK_t wdlK_f condK_t condK_f need_t
attribute [simp] mvK_v boxK_v mkslK_v
attribute [simp] enter slotsOf news St.app T.nilness parts drawn resK rf rfs res1 taken takenN take1 takeN takeCs takeCN handedA handedCs backA backCs back1 back handed named argI argIs toIs toIr namess handed1 bnd bndLo noIms noImr rns
end Go.Proofs.Ytehdfbhfbidadaa.V

/- The machine of trees: blocks go into the cells that refer to them; cells are forgotten. -/
namespace Go.Proofs.Ytehdfbhfbidadaa.V
open Go
set_option linter.unusedVariables false
set_option linter.unusedSimpArgs false
def joinN : T → T → List Nat
  | .ref t _ _, .own _ _ => [t]
  | _, _ => []
def joinsN : List T → List T → List Nat
  | c :: cs, r :: rs => joinN c r ++ joinsN cs rs
  | _, _ => []
/-- How a cell may be told anew: as it was, not at all, or with the block that it refers to. -/
def joinT (s : St) : T → T → Prop
  | _, .dead => True
  | .ref t o n, .own sz rows => onArr (hget s.hp t) fun sz' rs => o + n ≤ rs.length ∧ sz' = sz ∧ (rs.drop o).take n = rows ∧ cleanR rows = true
  | .nl, .own _ rows => rows = []
  | c, c' => c = c'
def joins (s : St) : List T → List T → Prop
  | [], [] => True
  | c :: cs, r :: rs => joinT s c r ∧ joins s cs rs
  | _, _ => False
section
variable {P : Program} {E : Env} {A A' : Nat → Prop} {ρ ρ' : Nat → Option RB} {O O' : Nat → Prop} {F F' : Nat → List Nat} {s s' : St} {a : Act} {w w' : World}
theorem joinT_ok (hR : R E A ρ O F s a w) {c r : T} {v : Value} {F1 : List Nat} (hd : D w O ρ A c v F1) (h : joinT s c r) :
    ∃ G F0, D w O ρ A r v (G ++ F0) ∧ F0.Sublist F1 ∧ G.Nodup ∧ ∀ b ∈ G, ∃ tk k, tk ∈ joinN c r ∧ hget s.hp tk = some k ∧ b ∈ F tk := by
  have keep : c = r → ∃ G F0, D w O ρ A r v (G ++ F0) ∧ F0.Sublist F1 ∧ G.Nodup ∧ ∀ b ∈ G, ∃ tk k, tk ∈ joinN c r ∧ hget s.hp tk = some k ∧ b ∈ F tk := by
    rintro rfl
    exact ⟨[], F1, by simpa using hd, List.Sublist.refl _, by simp, by simp⟩
  have dead : r = .dead → ∃ G F0, D w O ρ A r v (G ++ F0) ∧ F0.Sublist F1 ∧ G.Nodup ∧ ∀ b ∈ G, ∃ tk k, tk ∈ joinN c r ∧ hget s.hp tk = some k ∧ b ∈ F tk := by
    rintro rfl
    exact ⟨[], [], .inr ⟨by simp only [CV, CI], rfl⟩, List.nil_sublist _, by simp, by simp⟩
  cases r <;> try (cases c <;> first | exact dead rfl | exact keep (by first | rfl | (simp only [joinT] at h; exact h)))
  rename_i sz rows
  cases c <;> try (exact keep (by first | rfl | (simp only [joinT] at h; exact h)))
  · -- nothing
    simp only [joinT] at h
    subst h
    have : v = .slice none 0 0 ∧ F1 = [] := by
      rcases hd with hd | hd
      · simpa only [K, CI] using hd
      · simpa only [CV, CI] using hd
    obtain ⟨rfl, rfl⟩ := this
    exact ⟨[], [], .inl (by simp only [K]; exact .inl ⟨trivial, ⟨_, rfl⟩, rfl⟩), List.nil_sublist _, by simp, by simp⟩
  · rename_i t o n
    have hcv : CV w O ρ A (.ref t o n) v ∧ F1 = [] := by
      rcases hd with hd | hd
      · simp only [K, CI, false_and] at hd
      · exact hd
    obtain ⟨hcv, rfl⟩ := hcv
    have hrf : rf s (.ref t o n) (.own sz rows) [t] := by
      simp only [joinT, onArr] at h
      simp only [rf]
      exact ⟨trivial, h⟩
    obtain ⟨G, g1, g2, g3⟩ := rf_ref hR hcv hrf
    exact ⟨G, [], .inl (by simpa using g1), List.nil_sublist _, g2, by simpa only [joinN] using g3⟩
theorem joins_ok (hR : R E A ρ O F s a w) : ∀ {cs rs : List T} {vs : List Value} {F1 : List Nat}, Ds w O ρ A cs vs F1 → joins s cs rs → (joinsN cs rs).Nodup →
    ∃ Fr G F0, Ds w O ρ A rs vs Fr ∧ Fr.Perm (G ++ F0) ∧ F0.Sublist F1 ∧ G.Nodup ∧ ∀ b ∈ G, ∃ tk k, tk ∈ joinsN cs rs ∧ hget s.hp tk = some k ∧ b ∈ F tk
  | [], [], vs, F1, hd, h, hnd => ⟨[], [], [], by simp only [Ds] at hd ⊢; exact ⟨hd.1, trivial⟩, by simp, List.nil_sublist _, by simp, by simp⟩
  | c :: cs, r :: rs, vs, F1, hd, h, hnd => by
    simp only [Ds] at hd
    obtain ⟨v, vr, Fa, Fb, rfl, rfl, h1, h2⟩ := hd
    simp only [joins] at h
    simp only [joinsN] at hnd
    have hnd' := List.nodup_append.1 hnd
    obtain ⟨G1, F01, a1, a2, a3, a4⟩ := joinT_ok hR h1 h.1
    obtain ⟨Fr2, G2, F02, b1, b2, b3, b4, b5⟩ := joins_ok hR h2 h.2 hnd'.2.1
    refine ⟨(G1 ++ F01) ++ Fr2, G1 ++ G2, F01 ++ F02, ?_, ?_, a2.append b3, ?_, ?_⟩
    · simp only [Ds]; exact ⟨v, vr, _, _, rfl, rfl, a1, b1⟩
    · refine List.perm_iff_count.2 fun x => ?_
      have := List.perm_iff_count.1 b2 x
      simp only [List.count_append] at this ⊢
      omega
    · refine List.nodup_append.2 ⟨a3, b4, ?_⟩
      rintro x hx y hy rfl
      obtain ⟨tk, k, c1, c2, c3⟩ := a4 x hx
      obtain ⟨tk', k', c4, c5, c6⟩ := b5 x hy
      exact hR.apart _ _ _ _ c2 c5 (hnd'.2.2 tk c1 tk' c4) x c3 c6
    · intro b hb
      simp only [joinsN]
      rcases List.mem_append.1 hb with hb | hb
      · obtain ⟨tk, k, c1, c2, c3⟩ := a4 b hb
        exact ⟨tk, k, List.mem_append.2 (.inl c1), c2, c3⟩
      · obtain ⟨tk, k, c1, c2, c3⟩ := b5 b hb
        exact ⟨tk, k, List.mem_append.2 (.inr c1), c2, c3⟩
  | [], _ :: _, vs, F1, hd, h, hnd => by simp [joins] at h
  | _ :: _, [], vs, F1, hd, h, hnd => by simp [joins] at h
theorem joins_len : ∀ {cs rs : List T}, joins s cs rs → rs.length = cs.length
  | [], [], h => rfl
  | c :: cs, r :: rs, h => by simp only [joins] at h; simp [joins_len h.2]
  | [], _ :: _, h => by simp [joins] at h
  | _ :: _, [], h => by simp [joins] at h
/-- A row of a block is told anew. -/
theorem Wk.join {b sz r : Nat} {rows : List (List T)} {row cs : List T} (hb : hget s.hp b = some (.arr sz rows)) (hr : rows[r]? = some row) (h : joins s row cs) (hnd : (b :: joinsN row cs).Nodup) :
    Wk s { s with hp := hset (hdels s.hp (joinsN row cs)) b (.arr sz (rows.set r cs)) } := by
  rintro E a w ⟨⟨ρ, O, F, hR⟩, hE⟩
  obtain ⟨B, c', et, rs1, rs2, us1, us, us2, F1, Fr, F2, hB, hsz, hrows, hl1, hrl, hz1, hz2, hcap, hheap, hcs, hd1, hdr, hd2, hlie, hlu1, hlu, hFt⟩ := (hR.hp _ _ hb).2.row hr
  have hnd' := List.nodup_cons.1 hnd
  obtain ⟨Fr', G, F0, j1, j2, j3, j4, j5⟩ := joins_ok hR hdr h hnd'.2
  have hFnd := hR.nodup _ _ hb
  have hset' : rows.set r cs = rs1 ++ cs :: rs2 := by
    rw [hrows, List.set_append_right _ _ (by omega), hl1, Nat.sub_self, List.set_cons_zero]
  have hsubF : (B.b :: (F1 ++ F0 ++ F2)).Sublist (F b) := by
    rw [hFt]
    exact List.Sublist.cons_cons _ (List.Sublist.append (List.Sublist.append (List.Sublist.refl _) j3) (List.Sublist.refl _))
  have hperm : (B.b :: (F1 ++ Fr' ++ F2)).Perm (G ++ (B.b :: (F1 ++ F0 ++ F2))) := by
    refine List.perm_iff_count.2 fun x => ?_
    have := List.perm_iff_count.1 j2 x
    simp only [List.count_cons, List.count_append] at this ⊢
    omega
  have hGb : ∀ x ∈ G, x ∉ F b := by
    intro x hx hx'
    obtain ⟨tk, k, h1, h2, h3⟩ := j5 x hx
    exact hR.apart _ _ _ _ h2 hb (fun e => hnd'.1 (e ▸ h1)) x h3 hx'
  have hnd2 : (B.b :: (F1 ++ Fr' ++ F2)).Nodup := hperm.nodup_iff.2 (List.nodup_append.2 ⟨j4, hFnd.sublist hsubF, fun x hx y hy e => hGb x hx (hsubF.subset (e ▸ hy))⟩)
  have hmem : ∀ x, x ∈ B.b :: (F1 ++ Fr' ++ F2) → x ∈ G ∨ x ∈ F b := fun x hx => by
    rcases List.mem_append.1 (hperm.mem_iff.1 hx) with h | h
    · exact .inl h
    · exact .inr (hsubF.subset h)
  have hsub : ∀ t k, hget (hdels s.hp (joinsN row cs)) t = some k → t ∉ joinsN row cs ∧ hget s.hp t = some k := by
    intro t k hk
    rw [hget_hdels] at hk
    split at hk
    · exact absurd hk (by simp)
    · exact ⟨‹_›, hk⟩
  have key := hR.set1 (t := b) (k := .arr sz (rows.set r cs)) (Ft := B.b :: (F1 ++ Fr' ++ F2)) (M := []) (hp0 := hdels s.hp (joinsN row cs)) (A' := fun t => t < s.nx) (ρ' := ρ) (w' := w) (fun _ h => h) (fun _ _ => rfl) hR.ρ0 (fun _ _ => rfl) (fun t' k hk => (hsub t' k hk).2) (fun _ _ _ _ _ _ => rfl)
    (Keep.refl _ _) (by simp) (hR.hp _ _ hb).1 ?_ hnd2 ?_ ?_
  · exact ⟨⟨ρ, O, _, key⟩, hE⟩
  · simp only [BR]
    refine .inr ⟨B, hB, hsz, ?_, ?_, c', et, us1 ++ us ++ us2, F1 ++ Fr' ++ F2, hheap, hcs, ?_, hlie, rfl⟩
    · rw [hset']
      intro x hx
      rcases List.mem_append.1 hx with hx | hx
      · exact hz1 x hx
      · rcases List.mem_cons.1 hx with rfl | hx
        · rw [joins_len h]; exact hrl
        · exact hz2 x hx
    · rw [List.length_set]; exact hcap
    · rw [hset', Dr_append]
      refine ⟨us1, us ++ us2, F1, Fr' ++ F2, by rw [List.append_assoc], by rw [List.append_assoc], hd1, ?_⟩
      simp only [Dr]
      exact ⟨us, us2, Fr', F2, rfl, rfl, j1, hd2⟩
  · intro x hx
    rcases hmem x hx with hx | hx
    · obtain ⟨tk, k, h1, h2, h3⟩ := j5 x hx
      exact hR.mine _ _ h2 x h3
    · exact hR.mine _ _ hb x hx
  · intro t' k' hne hk x hx hx'
    obtain ⟨h1, h2⟩ := hsub _ _ hk
    rcases hmem x hx with hx | hx
    · obtain ⟨tk, k, h3, h4, h5⟩ := j5 x hx
      exact hR.apart _ _ _ _ h4 h2 (fun e => h1 (e ▸ h3)) x h5 hx'
    · exact hR.apart _ _ _ _ hb h2 (fun e => hne e.symm) x hx hx'
/-- Cells that are owned rows, or closed and no block. -/
def T.pl : T → Bool
  | .ref _ _ _ | .ptr _ _ _ | .mp _ | .agg _ | .tup _ | .fn _ _ | .ifc _ _ | .bx _ | .dead => false
  | .own _ rows => cleanR rows
  | _ => true
end
end Go.Proofs.Ytehdfbhfbidadaa.V

/- The machine of trees: calls that only look on. -/
namespace Go.Proofs.Ytehdfbhfbidadaa.V
open Go
set_option linter.unusedVariables false
set_option linter.unusedSimpArgs false
section
variable {P : Program} {E : Env} {A A' : Nat → Prop} {ρ ρ' : Nat → Option RB} {O O' : Nat → Prop} {F F' : Nat → List Nat} {s s' : St} {a : Act} {w w' : World} {M : List (Nat × CM)}
mutual
theorem CV_at : ∀ {t : T} {v : Value}, (∀ x ∈ t.names, A x → A' x ∧ ρ' x = ρ x) → CV w O ρ A t v → CV w O ρ' A' t v
  | .ref t o n, v, h, hv => by
    simp only [CV] at hv ⊢
    obtain ⟨h1, h2⟩ := h t (by simp [T.names]) hv.1
    exact ⟨h1, by rw [h2]; exact hv.2⟩
  | .ptr t r o, v, h, hv => by
    simp only [CV] at hv ⊢
    obtain ⟨h1, h2⟩ := h t (by simp [T.names]) hv.1
    exact ⟨h1, by rw [h2]; exact hv.2⟩
  | .mp t, v, h, hv => by
    simp only [CV] at hv ⊢
    obtain ⟨h1, h2⟩ := h t (by simp [T.names]) hv.1
    exact ⟨h1, by rw [h2]; exact hv.2⟩
  | .agg cs, v, h, hv => by simp only [CV] at hv ⊢; obtain ⟨us, e, hv⟩ := hv; exact ⟨us, e, CVs_at' (by simpa only [T.names] using h) hv⟩
  | .tup cs, v, h, hv => by simp only [CV] at hv ⊢; obtain ⟨us, e, hv⟩ := hv; exact ⟨us, e, CVs_at' (by simpa only [T.names] using h) hv⟩
  | .fn g cs, v, h, hv => by simp only [CV] at hv ⊢; obtain ⟨us, e, hv⟩ := hv; exact ⟨us, e, CVs_at' (by simpa only [T.names] using h) hv⟩
  | .ifc t x, v, h, hv => by simp only [CV] at hv ⊢; obtain ⟨u, e, hv⟩ := hv; exact ⟨u, e, CV_at (by simpa only [T.names] using h) hv⟩
  | .un, v, h, hv => by simpa only [CV] using hv
  | .dead, v, h, hv => by simpa only [CV] using hv
  | .b _, v, h, hv => by simpa only [CV] using hv
  | .i _ _, v, h, hv => by simpa only [CV] using hv
  | .s _, v, h, hv => by simpa only [CV] using hv
  | .nl, v, h, hv => by simpa only [CV] using hv
  | .imm _, v, h, hv => by simpa only [CV] using hv
  | .own _ _, v, h, hv => by simpa only [CV] using hv
  | .bx _, v, h, hv => by simpa only [CV] using hv
  | .np, v, h, hv => by simpa only [CV] using hv
  | .pim _, v, h, hv => by simpa only [CV] using hv
  | .nif, v, h, hv => by simpa only [CV] using hv
  | .nfn, v, h, hv => by simpa only [CV] using hv
  | .nmp, v, h, hv => by simpa only [CV] using hv
theorem CVs_at' : ∀ {ts : List T} {vs : List Value}, (∀ x ∈ namess ts, A x → A' x ∧ ρ' x = ρ x) → CVs w O ρ A ts vs → CVs w O ρ' A' ts vs
  | [], vs, h, hv => by simpa only [CVs] using hv
  | t :: ts, vs, h, hv => by
    simp only [namess, List.mem_append] at h
    simp only [CVs] at hv ⊢
    obtain ⟨v, r, e, h1, h2⟩ := hv
    exact ⟨v, r, e, CV_at (fun x hx => h x (.inl hx)) h1, CVs_at' (fun x hx => h x (.inr hx)) h2⟩
end
mutual
theorem CV_A : ∀ {t : T} {v : Value}, CV w O ρ A t v → ∀ x ∈ t.names, A x
  | .ref t o n, v, hv, x, hx => by simp only [CV] at hv; simp only [T.names, List.mem_singleton] at hx; subst hx; exact hv.1
  | .ptr t r o, v, hv, x, hx => by simp only [CV] at hv; simp only [T.names, List.mem_singleton] at hx; subst hx; exact hv.1
  | .mp t, v, hv, x, hx => by simp only [CV] at hv; simp only [T.names, List.mem_singleton] at hx; subst hx; exact hv.1
  | .agg cs, v, hv, x, hx => by simp only [CV] at hv; obtain ⟨us, e, hv⟩ := hv; exact CVs_A hv x (by simpa only [T.names] using hx)
  | .tup cs, v, hv, x, hx => by simp only [CV] at hv; obtain ⟨us, e, hv⟩ := hv; exact CVs_A hv x (by simpa only [T.names] using hx)
  | .fn g cs, v, hv, x, hx => by simp only [CV] at hv; obtain ⟨us, e, hv⟩ := hv; exact CVs_A hv x (by simpa only [T.names] using hx)
  | .ifc t y, v, hv, x, hx => by simp only [CV] at hv; obtain ⟨u, e, hv⟩ := hv; exact CV_A hv x (by simpa only [T.names] using hx)
  | .un, v, hv, x, hx => by simp [T.names] at hx
  | .dead, v, hv, x, hx => by simp [T.names] at hx
  | .b _, v, hv, x, hx => by simp [T.names] at hx
  | .i _ _, v, hv, x, hx => by simp [T.names] at hx
  | .s _, v, hv, x, hx => by simp [T.names] at hx
  | .nl, v, hv, x, hx => by simp [T.names] at hx
  | .imm _, v, hv, x, hx => by simp [T.names] at hx
  | .own _ _, v, hv, x, hx => by simp [T.names] at hx
  | .bx _, v, hv, x, hx => by simp [T.names] at hx
  | .np, v, hv, x, hx => by simp [T.names] at hx
  | .pim _, v, hv, x, hx => by simp [T.names] at hx
  | .nif, v, hv, x, hx => by simp [T.names] at hx
  | .nfn, v, hv, x, hx => by simp [T.names] at hx
  | .nmp, v, hv, x, hx => by simp [T.names] at hx
theorem CVs_A : ∀ {ts : List T} {vs : List Value}, CVs w O ρ A ts vs → ∀ x ∈ namess ts, A x
  | [], vs, hv, x, hx => by simp [namess] at hx
  | t :: ts, vs, hv, x, hx => by
    simp only [CVs] at hv
    obtain ⟨v, r, e, h1, h2⟩ := hv
    simp only [namess, List.mem_append] at hx
    rcases hx with hx | hx
    · exact CV_A h1 x hx
    · exact CVs_A h2 x hx
end
/-- A block of closed cells says nothing of names. -/
theorem D_clean {t : T} (ht : t.clean = true) {v : Value} {G : List Nat} (h : D w O ρ A t v G) : D w O ρ' A' t v G := by
  refine h.imp id fun h => ⟨CV_at (fun x hx => ?_) h.1, h.2⟩
  rw [names_clean ht] at hx; simp at hx
theorem Ds_clean : ∀ {ts : List T} {vs : List Value} {G : List Nat}, ts.all T.clean = true → Ds w O ρ A ts vs G → Ds w O ρ' A' ts vs G
  | [], vs, G, hc, h => by simpa only [Ds] using h
  | t :: ts, vs, G, hc, h => by
    simp only [List.all_cons, Bool.and_eq_true] at hc
    simp only [Ds] at h ⊢
    obtain ⟨v, r, F1, F2, e, e', h1, h2⟩ := h
    exact ⟨v, r, F1, F2, e, e', D_clean hc.1 h1, Ds_clean hc.2 h2⟩
theorem Dr_clean : ∀ {rs : List (List T)} {vs : List Value} {G : List Nat}, cleanR rs = true → Dr w O ρ A rs vs G → Dr w O ρ' A' rs vs G
  | [], vs, G, hc, h => by simpa only [Dr] using h
  | r :: rs, vs, G, hc, h => by
    simp only [cleanR, List.all_cons, Bool.and_eq_true] at hc
    simp only [Dr] at h ⊢
    obtain ⟨v1, v2, F1, F2, e, e', h1, h2⟩ := h
    exact ⟨v1, v2, F1, F2, e, e', Ds_clean hc.1 h1, Dr_clean (by simpa only [cleanR] using hc.2) h2⟩
def Blk.cl : Blk → Bool | .arr _ rows => cleanR rows | .mb es => (es.map Prod.snd).all T.clean
theorem BR_clean {t : Nat} {k : Blk} {G : List Nat} (hc : k.cl = true) (hρ : ρ' t = ρ t) (h : BR w O ρ A t k G) : BR w O ρ' A' t k G := by
  cases k with
  | arr sz rows =>
    simp only [BR] at h ⊢
    rw [hρ]
    refine h.imp id ?_
    rintro ⟨B, e1, e2, h1, h2, c, e, cs, F', hb, h3, hr, hm, rfl⟩
    exact ⟨B, e1, e2, h1, h2, c, e, cs, F', hb, h3, Dr_clean hc hr, hm, rfl⟩
  | mb es =>
    simp only [BR] at h ⊢
    simp only [Blk.cl] at hc
    rw [hρ]
    obtain ⟨B, ents, clk, F', hB, hh, hk, hd, e⟩ := h
    exact ⟨B, ents, clk, F', hB, hh, hk, Ds_clean hc hd, e⟩
/-- A call that only looks on: at trees that may name blocks of the caller's; these stay as they are. -/
def Vw (P : Program) (f : Nat) (args : List T) (hp : List (Nat × Blk)) (r : T) : Prop :=
  ∀ (E : Env) (A : Nat → Prop) (ρ : Nat → Option RB) (O : Nat → Prop) (F : Nat → List Nat) (s : St) (a : Act) (w : World) (vs : List Value), R E A ρ O F s a w → (∀ p ∈ hp, hget s.hp p.1 = some p.2) → CVs w O ρ A args vs →
    Calls P f vs.toArray w fun e w' => ∃ v O' F', e = .returned v ∧ R E A ρ O' F' s a w' ∧ CV w' O' ρ A r v
/-- What the end of such a call must show. -/
def finV (P : Program) (rs : List ResultVar) (hp : List (Nat × Blk)) (r : T) : Exit → St → Prop := fun e s => (e = .normal ∨ e = .ret) ∧ ∃ xs, resK P s rs = some xs ∧ res1 xs = r ∧ ∀ p ∈ hp, hget s.hp p.1 = some p.2
theorem Vw.intro {f N : Nat} {fn : Func} {c : Code} {pc : PC} {args : List T} {r : T} {hp : List (Nat × Blk)} (hf : P.funcs[f]? = some fn) (hb : fn.body = some c) (hc : comp P M fn.ntmps c = some pc) (ha : args.length ≤ fn.ntmps)
    (hN : ∀ x ∈ namess args, x < N) (hr : ∀ x ∈ r.names, x ∈ namess args) (hhp : ∀ p ∈ hp, p.1 < N ∧ p.2.cl = true) (hnd : (hp.map (·.1)).Nodup)
    (h : W P M fn.ntmps pc ⟨slotsOf 0 args, hp, N, N⟩ (finV P fn.results.toList hp r)) : Vw P f args hp r := by
  intro E A ρ O F s a w vs hR hg hv
  have hlen := hv.len
  have hAa := CVs_A hv
  let mine : List Nat := hp.flatMap fun p => F p.1
  have hmem : ∀ b, b ∈ mine ↔ ∃ p ∈ hp, b ∈ F p.1 := fun b => by simp only [mine, List.mem_flatMap]
  let E' : Env := { w0 := w, mine := mine, O0 := O, ρ0 := ρ, n := fn.ntmps, fb := N }
  have hget_hp : ∀ t k, hget hp t = some k → (t, k) ∈ hp := fun t k h => hget_mem h
  have hr0 : R E' (· < N) ρ O F { tm := slotsOf 0 args, hp := hp, nx := N, fb := N } { tmps := vs.toArray ++ Array.replicate (fn.ntmps - vs.toArray.size) undef, defers := [] } w := by
    refine ⟨by simp [E']; omega, rfl, rfl, fun _ _ => rfl, fun _ h => h, hR.Olt, fun b hb => .inl hb, ?_, ?_, ?_, ?_, ?_, Keep.refl _ _⟩
    · intro j
      have hv' : CVs w O ρ (· < N) args vs := CVs_at' (fun x hx _ => ⟨hN x hx, rfl⟩) hv
      simp only [tget_slots, Nat.zero_le, if_true, Nat.sub_zero]
      have := CVs_at hv' j
      have e : (vs.toArray ++ Array.replicate (fn.ntmps - vs.toArray.size) undef).getD j undef = vs.getD j undef := by
        simp only [Array.getD_eq_getD_getElem?, List.getD_eq_getElem?_getD]
        by_cases hj : j < vs.length
        · rw [Array.getElem?_append_left (by simpa using hj)]; simp
        · rw [Array.getElem?_append_right (by simp; omega), List.getElem?_eq_none (by omega)]
          simp only [Array.getElem?_replicate]
          split <;> rfl
      rw [e]; exact this
    · intro t k hk
      have hm := hget_hp t k hk
      exact ⟨(hhp _ hm).1, BR_clean (hhp _ hm).2 rfl (hR.hp t k (hg _ hm)).2⟩
    · intro t k hk; exact hR.nodup t k (hg _ (hget_hp t k hk))
    · intro t k t' k' h1 h2; exact hR.apart t k t' k' (hg _ (hget_hp t k h1)) (hg _ (hget_hp t' k' h2))
    · intro t k hk b hb'
      have hm := hget_hp t k hk
      obtain ⟨h1, h2, _⟩ := hR.mine t k (hg _ hm) b hb'
      exact ⟨h1, h2, .inr ((hmem b).2 ⟨_, hm, hb'⟩)⟩
  refine calls_of_wp hf hb (wp_mono (W_sound hc h (E := E') rfl ⟨⟨ρ, O, F, hr0⟩, Nat.le_refl _⟩) ?_)
  rintro e a' w' ⟨s2, ⟨he, xs, hres, rfl, hkeep⟩, ⟨⟨ρ2, O2, F2, hR2⟩, hfb⟩⟩
  obtain ⟨u, hu, hcu⟩ := results_ok hR2 hres
  have hmine : ∀ b ∈ mine, ¬ O b ∧ b < w.heap.size ∧ (E.w0.heap.size ≤ b ∨ b ∈ E.mine) := by
    intro b hb'
    obtain ⟨p, hp', hin⟩ := (hmem b).1 hb'
    exact hR.mine _ _ (hg p hp') b hin
  have hO2 : ∀ b, O2 b → O b ∨ (w.heap.size ≤ b ∨ b ∈ mine) := hR2.Onew
  have hρ2 : ∀ t, t < N → ρ2 t = ρ t := fun t ht => hR2.ρ0 t ht
  have hOw : ∀ b, O b → w'.heap[b]? = w.heap[b]? := fun b hb' => hR2.keep.block b (hR.Olt b hb') (fun hin => (hmine b hin).1 hb')
  have isd : ∀ t, (∃ k, (t, k) ∈ hp) ∨ ¬ ∃ k, (t, k) ∈ hp := fun t => Classical.em _
  let F3 : Nat → List Nat := fun t => if t ∈ hp.map (·.1) then F2 t else F t
  have hin3 : ∀ {t : Nat} {k : Blk}, hget s.hp t = some k → t ∈ hp.map (·.1) → (t, k) ∈ hp ∧ hget s2.hp t = some k := by
    intro t k h1 h2
    obtain ⟨p, hp', rfl⟩ := List.mem_map.1 h2
    have := hg p hp'
    rw [this] at h1
    simp only [Option.some.injEq] at h1
    subst h1
    exact ⟨hp', hkeep p hp'⟩
  have hold : ∀ {t : Nat} {k : Blk}, hget s.hp t = some k → t ∉ hp.map (·.1) → ∀ b ∈ F t, b ∉ mine := by
    intro t k h1 h2 b hb' hin
    obtain ⟨p, hp', hb2⟩ := (hmem b).1 hin
    exact hR.apart _ _ _ _ h1 (hg p hp') (fun e => h2 (List.mem_map.2 ⟨p, hp', e.symm⟩)) b hb' hb2
  have hF2 : ∀ {t : Nat} {k : Blk}, hget s2.hp t = some k → ∀ b ∈ F2 t, ¬ O2 b ∧ b < w'.heap.size ∧ (w.heap.size ≤ b ∨ b ∈ mine) := fun h b hb' => hR2.mine _ _ h b hb'
  have hR3 : R E A ρ O2 F3 s a w' := by
    refine ⟨hR.size, hR.defers, hR.fb, hR.ρ0, fun b hb' => hR2.O0 b (hR.O0 b hb'), hR2.Olt, ?_, fun j => (hR.tm j).cong hR2.O0 hOw (fun _ h => h) (fun _ _ => rfl), ?_, ?_, ?_, ?_, ?_⟩
    · intro b hb'
      rcases hO2 b hb' with h1 | h1 | h1
      · exact hR.Onew b h1
      · exact .inr (.inl (Nat.le_trans hR.keep.size h1))
      · exact .inr (hmine b h1).2.2
    · intro t k hk
      refine ⟨(hR.hp t k hk).1, ?_⟩
      by_cases ht : t ∈ hp.map (·.1)
      · obtain ⟨h1, h2⟩ := hin3 hk ht
        simp only [F3, if_pos ht]
        exact BR_clean (hhp _ h1).2 (hρ2 t (hhp _ h1).1).symm (hR2.hp t k h2).2
      · simp only [F3, if_neg ht]
        exact (hR.hp t k hk).2.cong hR2.O0 hOw (fun _ h => h) (fun _ _ => rfl) (hR.hp t k hk).1 (fun b hb' => hR2.keep.block b (hR.mine t k hk b hb').2.1 (hold hk ht b hb'))
    · intro t k hk
      by_cases ht : t ∈ hp.map (·.1)
      · simp only [F3, if_pos ht]; exact hR2.nodup t k (hin3 hk ht).2
      · simp only [F3, if_neg ht]; exact hR.nodup t k hk
    · intro t k t' k' h1 h2 hne b hb'
      by_cases ht : t ∈ hp.map (·.1) <;> by_cases ht' : t' ∈ hp.map (·.1) <;> simp only [F3, ht, ht', if_true, if_false] at hb' ⊢
      · exact hR2.apart _ _ _ _ (hin3 h1 ht).2 (hin3 h2 ht').2 hne b hb'
      · intro hin
        rcases (hF2 (hin3 h1 ht).2 b hb').2.2 with h3 | h3
        · have := (hR.mine _ _ h2 b hin).2.1; omega
        · exact hold h2 ht' b hin h3
      · intro hin
        rcases (hF2 (hin3 h2 ht').2 b hin).2.2 with h3 | h3
        · have := (hR.mine _ _ h1 b hb').2.1; omega
        · exact hold h1 ht b hb' h3
      · exact hR.apart _ _ _ _ h1 h2 hne b hb'
    · intro t k hk b hb'
      by_cases ht : t ∈ hp.map (·.1) <;> simp only [F3, ht, if_true, if_false] at hb'
      · obtain ⟨h1, h2, h3⟩ := hF2 (hin3 hk ht).2 b hb'
        refine ⟨h1, h2, ?_⟩
        rcases h3 with h3 | h3
        · exact .inl (Nat.le_trans hR.keep.size h3)
        · exact (hmine b h3).2.2
      · obtain ⟨h1, h2, h3⟩ := hR.mine t k hk b hb'
        refine ⟨fun ho => ?_, Nat.lt_of_lt_of_le h2 hR2.keep.size, h3⟩
        rcases hO2 b ho with h4 | h4 | h4
        · exact h1 h4
        · omega
        · exact hold hk ht b hb' h4
    · exact hR.keep.trans hR2.keep (fun b hb' hlt => ((hmine b hb').2.2).elim (fun h => by omega) id)
  have hcr : CV w' O2 ρ A (res1 xs) u := CV_at (fun x hx _ => ⟨hAa x (hr x hx), (hρ2 x (hN x (hr x hx))).symm⟩) hcu
  have hfin : a'.defers = [] ∧ ∃ v, (results fn a'.tmps).run P w' = .ok v w' ∧ (∃ v_1 O' F', Ending.returned v = .returned v_1 ∧ R E A ρ O' F' s a w' ∧ CV w' O' ρ A (res1 xs) v_1) := ⟨hR2.defers, u, hu, u, O2, F3, rfl, hR3, hcr⟩
  rcases he with rfl | rfl
  · exact hfin
  · exact hfin
theorem Vw.of {f n : Nat} (N : Nat) {fn : Func} {pc : PC} {args : List T} {r : T} {hp : List (Nat × Blk)} {rs : List ResultVar} (hf : P.funcs[f]? = some fn) (hc : (fn.body).bind (comp P M fn.ntmps) = some pc) (hrs : fn.results = rs.toArray) (hn : fn.ntmps = n) (ha : args.length ≤ n)
    (hN : ∀ x ∈ namess args, x < N) (hr : ∀ x ∈ r.names, x ∈ namess args) (hhp : ∀ p ∈ hp, p.1 < N ∧ p.2.cl = true) (hnd : (hp.map (·.1)).Nodup) (h : W P M n pc ⟨slotsOf 0 args, hp, N, N⟩ (finV P rs hp r)) : Vw P f args hp r := by
  obtain ⟨c, hb, hc⟩ := bodyOf hc
  subst hn
  exact Vw.intro hf hb hc ha hN hr hhp hnd (by rw [hrs]; simpa using h)
theorem fin_view {rs : List ResultVar} {hp : List (Nat × Blk)} {r : T} {xs : List T} {st : St} (h1 : resK P st rs = some xs) (h2 : res1 xs = r) (h3 : ∀ p ∈ hp, hget st.hp p.1 = some p.2) : finV P rs hp r .ret st := ⟨.inr rfl, xs, h1, h2, h3⟩
/-- Such a call as an operation of its own. -/
theorem hook_view {c : Call} {f n : Nat} {args : List T} {hp : List (Nat × Blk)} {r : T} (hc : c.callee = .value (.func f)) (hok : okCall P f = true) (h : Vw P f args hp r) : HookOk P (.call c) (.fn f [] :: args) hp n r [] := by
  intro E A ρ O F s a w o ys next Q hop hys hxs hR hd hg hfb hfr hn
  have hops : (Op.call c).operands.toList = .func f :: c.args.toList := by
    simp [Op.operands, Call.operands, hc]
  rw [hops] at hys
  simp only [List.mapM_cons, opd, Option.pure_def, Option.bind_eq_bind, Option.bind_some, Option.bind_eq_some_iff, Option.some.injEq] at hys
  obtain ⟨zs, hz, rfl⟩ := hys
  simp only [List.map_cons, List.cons.injEq] at hxs
  obtain ⟨_, rfl⟩ := hxs
  have hvs := evs_ok hR hz
  have hrun : (execOp a.eval o).run P w = .ok (.enter f (c.args.toList.map a.eval).toArray) w := by
    simp only [execOp, hop, resolve, hc, Act.eval, Deferred.ofValue, Sem.run_bind, Sem.run_pure, Result.andThen_ok, invoke]
    rw [run_enter hok]
    congr 2
    apply Array.ext'
    simp
  unfold Oper.wp
  rw [hrun, Oper.upon_enter]
  refine (h E A ρ O F s a w _ hR hg hvs).mono ?_
  rintro e w' ⟨v, O', F', rfl, hR', hv⟩
  simp only
  refine hn v w' ⟨ρ, O', F', ?_⟩
  have := (hR'.monoA (A' := Aext A n 0) (fun _ h => .inl h)).put hd (v := r) (u := v) (hv.cong (fun _ h => h) (fun _ _ => rfl) (fun _ h => .inl h) (fun _ _ => rfl))
  simpa [St.app] using this
theorem hookH_view {c : Call} {f n : Nat} {args : List T} {hp : List (Nat × Blk)} {r : T} {K : T → Δ → List Nat → Prop} (h : Vw P f args hp r) (hc : c.callee = .value (.func f)) (hok : okCall P f = true) (h1 : ∀ p ∈ hp, hget s.hp p.1 = some p.2) (h2 : K r [] (hp.map (·.1))) : @hookH P s n ⟨.call c⟩ (.fn f [] :: args) ⟨K⟩ :=
  hookH_of hp (hook_view hc hok h) h1 h2
end
end Go.Proofs.Ytehdfbhfbidadaa.V

/- Calls that eat what they are handed, and whose results share what was read: as operations of their own. -/
namespace Go.Proofs.Ytehdfbhfbidadaa.V
open Go
set_option linter.unusedVariables false
set_option linter.unusedSimpArgs false
set_option maxRecDepth 4000
/-- Says nothing of blocks by name. -/
def T.closed : T → Bool | .fn _ cs => cs.all T.clean | t => t.clean
def handedX1 (s : St) (c : T) : Option T := if c.closed = true then some c else handed1 s c
def handedXs (s : St) : List T → Option (List T)
  | [] => some []
  | c :: cs => match handedX1 s c, handedXs s cs with
    | some x, some xs => some (x :: xs)
    | _, _ => none
def handedXA (s : St) : T → Option T
  | .agg cs => (handedXs s cs).map .agg
  | t => handedX1 s t
def handedX (s : St) (mu : List Nat) : Nat → List T → Option (List T)
  | _, [] => some []
  | j, a :: az => match (if mu.contains j = true then handedXA s a else argI s a), handedX s mu (j + 1) az with
    | some x, some ys => some (x :: ys)
    | _, _ => none
def backX1 (t x o : T) : Option (List (Nat × Blk)) := match o with
  | .dead => some []
  | _ => if t.closed = true then some [] else (back1 t x o).map ([·])
def backXs : List T → List T → List T → Option (List (Nat × Blk))
  | [], [], [] => some []
  | c :: cs, x :: xs, o :: os => match backX1 c x o, backXs cs xs os with
    | some p, some r => some (p ++ r)
    | _, _ => none
  | _, _, _ => none
def backXA : T → T → T → Option (List (Nat × Blk))
  | .agg cs, .agg xs, .agg os => backXs cs xs os
  | t, x, o => backX1 t x o
def backX (mu : List Nat) : Nat → List T → List T → List T → Option (List (Nat × Blk))
  | _, [], [], [] => some []
  | j, a :: az, x :: xs, o :: os => match (if mu.contains j = true then backXA a x o else some []), backX mu (j + 1) az xs os with
    | some p, some r => some (p ++ r)
    | _, _ => none
  | _, _, _, _ => none
section
variable {P : Program} {E : Env} {A A' : Nat → Prop} {ρ ρ' : Nat → Option RB} {O O' O2 : Nat → Prop} {F F' : Nat → List Nat} {s s' : St} {a : Act} {w w' : World} {n : Nat}
theorem CIs_of_clean : ∀ {ts : List T} {vs : List Value}, ts.all T.clean = true → CVs w O ρ A ts vs → CIs w O ts vs
  | [], vs, h, hv => by simpa only [CVs, CIs] using hv
  | t :: ts, vs, h, hv => by
    simp only [List.all_cons, Bool.and_eq_true] at h
    simp only [CVs] at hv; simp only [CIs]
    obtain ⟨v, r, e, h1, h2⟩ := hv
    have hc := h.1
    refine ⟨v, r, e, ?_, CIs_of_clean h.2 h2⟩
    cases t <;> simp [T.clean] at hc <;> simpa only [CV] using h1
theorem CI_of_closed {t : T} {v : Value} (h : t.closed = true) (hv : CV w O ρ A t v) : CI w O t v := by
  cases t <;> simp only [T.closed, T.clean] at h <;> first
    | exact absurd h Bool.false_ne_true
    | (simp only [CV] at hv; exact hv)
    | skip
  rename_i f cs
  simp only [CV] at hv; simp only [CI]
  obtain ⟨us, e, hv⟩ := hv
  exact ⟨us, e, CIs_of_clean h hv⟩
theorem names_closed {t : T} (h : t.closed = true) : t.names = [] := by
  cases t <;> simp only [T.closed, T.clean] at h <;> first
    | exact absurd h Bool.false_ne_true
    | (simp only [T.names]; done)
    | (simp only [T.names]; exact namess_clean h)
/-! ### another state with these blocks -/
theorem handed1_mono (hs : ∀ t k, hget s.hp t = some k → hget s'.hp t = some k) {t x : T} (h : handed1 s t = some x) : handed1 s' t = some x := by
  unfold handed1 at h ⊢
  split at h
  · split at h
    · rename_i hg; simp only [hs _ _ hg]; exact h
    · exact absurd h (by simp)
  · split at h
    · rename_i hg; simp only [hs _ _ hg]; exact h
    · exact absurd h (by simp)
  · exact absurd h (by simp)
theorem handedX1_mono (hs : ∀ t k, hget s.hp t = some k → hget s'.hp t = some k) {t x : T} (h : handedX1 s t = some x) : handedX1 s' t = some x := by
  unfold handedX1 at h ⊢
  by_cases hc : t.closed = true
  · rw [if_pos hc] at h ⊢; exact h
  · rw [if_neg hc] at h ⊢; exact handed1_mono hs h
theorem handedXs_mono (hs : ∀ t k, hget s.hp t = some k → hget s'.hp t = some k) : ∀ {ts xs : List T}, handedXs s ts = some xs → handedXs s' ts = some xs
  | [], xs, h => h
  | c :: cs, xs, h => by
    simp only [handedXs] at h ⊢
    split at h
    · rename_i h1 h2
      rw [handedX1_mono hs h1, handedXs_mono hs h2]; exact h
    · exact absurd h (by simp)
theorem handedXA_mono (hs : ∀ t k, hget s.hp t = some k → hget s'.hp t = some k) {t x : T} (h : handedXA s t = some x) : handedXA s' t = some x := by
  cases t <;> first
    | (simp only [handedXA] at h ⊢; exact handedX1_mono hs h)
    | skip
  simp only [handedXA, Option.map_eq_some_iff] at h ⊢
  obtain ⟨xs, h, rfl⟩ := h
  exact ⟨xs, handedXs_mono hs h, rfl⟩
mutual
theorem argI_mono (hs : ∀ t k, hget s.hp t = some k → hget s'.hp t = some k) : ∀ {t x : T}, argI s t = some x → argI s' t = some x
  | .ref t o n, x, h => by
    simp only [argI] at h ⊢
    split at h
    · rename_i hg; simp only [hs _ _ hg]; exact h
    · exact absurd h (by simp)
  | .ptr t r o, x, h => by
    simp only [argI] at h ⊢
    split at h
    · rename_i hg; simp only [hs _ _ hg]; exact h
    · exact absurd h (by simp)
  | .agg cs, x, h => by
    simp only [argI, Option.map_eq_some_iff] at h ⊢
    obtain ⟨xs, h, rfl⟩ := h
    exact ⟨xs, argIs_mono hs h, rfl⟩
  | .fn f cs, x, h => by
    simp only [argI, Option.map_eq_some_iff] at h ⊢
    obtain ⟨xs, h, rfl⟩ := h
    exact ⟨xs, argIs_mono hs h, rfl⟩
  | .ifc t y, x, h => by
    simp only [argI, Option.map_eq_some_iff] at h ⊢
    obtain ⟨xs, h, rfl⟩ := h
    exact ⟨xs, argI_mono hs h, rfl⟩
  | .tup _, x, h => by simp only [argI] at h; exact absurd h (by simp)
  | .mp _, x, h => by simp only [argI] at h; exact absurd h (by simp)
  | .un, x, h => by simp only [argI] at h; exact absurd h (by simp)
  | .nl, x, h => by simpa only [argI] using h
  | .dead, x, h => by simpa only [argI] using h
  | .b _, x, h => by simpa only [argI] using h
  | .i _ _, x, h => by simpa only [argI] using h
  | .s _, x, h => by simpa only [argI] using h
  | .imm _, x, h => by simpa only [argI] using h
  | .own _ _, x, h => by simpa only [argI] using h
  | .bx _, x, h => by simpa only [argI] using h
  | .np, x, h => by simpa only [argI] using h
  | .pim _, x, h => by simpa only [argI] using h
  | .nif, x, h => by simpa only [argI] using h
  | .nfn, x, h => by simpa only [argI] using h
  | .nmp, x, h => by simpa only [argI] using h
theorem argIs_mono (hs : ∀ t k, hget s.hp t = some k → hget s'.hp t = some k) : ∀ {ts xs : List T}, argIs s ts = some xs → argIs s' ts = some xs
  | [], xs, h => h
  | t :: ts, xs, h => by
    simp only [argIs] at h ⊢
    split at h
    · rename_i h1 h2
      rw [argI_mono hs h1, argIs_mono hs h2]; exact h
    · exact absurd h (by simp)
end
theorem handedX_mono (hs : ∀ t k, hget s.hp t = some k → hget s'.hp t = some k) {mu : List Nat} : ∀ {ts xs : List T} {j : Nat}, handedX s mu j ts = some xs → handedX s' mu j ts = some xs
  | [], xs, j, h => h
  | t :: ts, xs, j, h => by
    simp only [handedX] at h ⊢
    split at h
    · rename_i h1 h2
      rw [handedX_mono hs h2]
      split at h1
      · rename_i hm; rw [if_pos hm, handedXA_mono hs h1]; exact h
      · rename_i hm; rw [if_neg hm, argI_mono hs h1]; exact h
    · exact absurd h (by simp)
/-! ### what is handed over -/
theorem handedX1_ok (hR : R E A ρ O F s a w) (hO : ∀ b, O b → O2 b) {c x : T} {v : Value} (hv : CV w O ρ A c v) (hx : handedX1 s c = some x) : ∃ G, K w O2 x v G ∧ G.Nodup ∧ (∀ b ∈ G, ∃ tk k, tk ∈ c.names ∧ hget s.hp tk = some k ∧ b ∈ F tk) ∧ (∀ tk ∈ c.names, ∃ k, hget s.hp tk = some k) := by
  unfold handedX1 at hx
  split at hx
  · rename_i hc
    simp only [Option.some.injEq] at hx
    subst hx
    exact ⟨[], K_of_CI ((CI_of_closed hc hv).cong hO (fun _ _ => rfl)), by simp, by simp, by simp [names_closed hc]⟩
  · exact handed1_ok hR hO hv hx
theorem handedXs_ok (hR : R E A ρ O F s a w) (hO : ∀ b, O b → O2 b) : ∀ {cs xs : List T} {vs : List Value}, CVs w O ρ A cs vs → handedXs s cs = some xs → (namess cs).Nodup → ∃ G, Ks w O2 xs vs G ∧ G.Nodup ∧ (∀ b ∈ G, ∃ tk k, tk ∈ namess cs ∧ hget s.hp tk = some k ∧ b ∈ F tk) ∧ (∀ tk ∈ namess cs, ∃ k, hget s.hp tk = some k)
  | [], xs, vs, hv, h, hnd => by
    simp only [handedXs, Option.some.injEq] at h
    subst h
    simp only [CVs] at hv
    exact ⟨[], by simp [Ks, hv], by simp, by simp, by simp [namess]⟩
  | c :: cs, xs, vs, hv, h, hnd => by
    simp only [handedXs] at h
    split at h
    case h_2 => exact absurd h (by simp)
    rename_i x ys hx hys
    simp only [Option.some.injEq] at h
    subst h
    simp only [CVs] at hv
    obtain ⟨v, r, rfl, hv1, hv2⟩ := hv
    simp only [namess] at hnd ⊢
    have hnd' := List.nodup_append.1 hnd
    obtain ⟨G2, g1, g2, g3, g4⟩ := handedXs_ok hR hO hv2 hys hnd'.2.1
    obtain ⟨G1, k1, k2, k3, k4⟩ := handedX1_ok hR hO hv1 hx
    refine ⟨G1 ++ G2, by simp only [Ks]; exact ⟨v, r, G1, G2, rfl, rfl, k1, g1⟩, List.nodup_append.2 ⟨k2, g2, ?_⟩, ?_, ?_⟩
    · rintro b hb b' hb' rfl
      obtain ⟨tk, k, h1, h2, h3⟩ := k3 b hb
      obtain ⟨tk', k', h4, h5, h6⟩ := g3 b hb'
      exact hR.apart _ _ _ _ h2 h5 (hnd'.2.2 tk h1 tk' h4) b h3 h6
    · intro b hb
      rcases List.mem_append.1 hb with hb | hb
      · obtain ⟨tk, k, h1, h2, h3⟩ := k3 b hb
        exact ⟨tk, k, List.mem_append.2 (.inl h1), h2, h3⟩
      · obtain ⟨tk, k, h1, h2, h3⟩ := g3 b hb
        exact ⟨tk, k, List.mem_append.2 (.inr h1), h2, h3⟩
    · intro tk htk
      rcases List.mem_append.1 htk with h | h
      · exact k4 tk h
      · exact g4 tk h
theorem handedXA_ok (hR : R E A ρ O F s a w) (hO : ∀ b, O b → O2 b) {t x : T} {v : Value} (hv : CV w O ρ A t v) (hx : handedXA s t = some x) (hnd : t.names.Nodup) : ∃ G, K w O2 x v G ∧ G.Nodup ∧ (∀ b ∈ G, ∃ tk k, tk ∈ t.names ∧ hget s.hp tk = some k ∧ b ∈ F tk) ∧ (∀ tk ∈ t.names, ∃ k, hget s.hp tk = some k) := by
  cases t <;> first
    | (simp only [handedXA] at hx
       exact handedX1_ok hR hO hv hx)
    | skip
  rename_i cs
  simp only [handedXA, Option.map_eq_some_iff] at hx
  obtain ⟨xs, hxs, rfl⟩ := hx
  simp only [CV] at hv
  obtain ⟨us, e, hv⟩ := hv
  simp only [T.names] at hnd ⊢
  obtain ⟨G, g1, g2, g3, g4⟩ := handedXs_ok hR hO hv hxs hnd
  exact ⟨G, by simp only [K]; exact ⟨us, e, g1⟩, g2, g3, g4⟩
theorem handedX_ok (hR : R E A ρ O F s a w) (hO : ∀ b, O b → O2 b) {mu : List Nat} : ∀ {args xs : List T} {vs : List Value} {j : Nat}, CVs w O ρ A args vs → handedX s mu j args = some xs → (named mu true j args).Nodup →
    (∀ tk ∈ named mu false j args, ∀ k, hget s.hp tk = some k → ∀ b ∈ F tk, O2 b) →
    ∃ G, Ks w O2 xs vs G ∧ G.Nodup ∧ (∀ b ∈ G, ∃ tk k, tk ∈ named mu true j args ∧ hget s.hp tk = some k ∧ b ∈ F tk) ∧ (∀ tk ∈ named mu true j args, ∃ k, hget s.hp tk = some k)
  | [], xs, vs, j, hv, h, hnd, hF => by
    simp only [handedX, Option.some.injEq] at h
    subst h
    simp only [CVs] at hv
    exact ⟨[], by simp [Ks, hv], by simp, by simp, by simp [named]⟩
  | t :: args, xs, vs, j, hv, h, hnd, hF => by
    simp only [handedX] at h
    split at h
    case h_2 => exact absurd h (by simp)
    rename_i x ys hx hys
    simp only [Option.some.injEq] at h
    subst h
    simp only [CVs] at hv
    obtain ⟨v, r, rfl, hv1, hv2⟩ := hv
    simp only [named] at hnd hF
    have hnd' := List.nodup_append.1 hnd
    obtain ⟨G2, g1, g2, g3, g4⟩ := handedX_ok hR hO hv2 hys hnd'.2.1 (fun tk htk => hF tk (by simp [htk]))
    have base : ∀ G1, K w O2 x v G1 → G1.Nodup → (∀ b ∈ G1, ∃ tk k, tk ∈ (if mu.contains j = true then t.names else []) ∧ hget s.hp tk = some k ∧ b ∈ F tk) → (∀ tk ∈ (if mu.contains j = true then t.names else []), ∃ k, hget s.hp tk = some k) →
        ∃ G, Ks w O2 (x :: ys) (v :: r) G ∧ G.Nodup ∧ (∀ b ∈ G, ∃ tk k, tk ∈ named mu true j (t :: args) ∧ hget s.hp tk = some k ∧ b ∈ F tk) ∧ (∀ tk ∈ named mu true j (t :: args), ∃ k, hget s.hp tk = some k) := by
      intro G1 k1 k2 k3 k4
      refine ⟨G1 ++ G2, ?_, ?_, ?_, ?_⟩
      · simp only [Ks]; exact ⟨v, r, G1, G2, rfl, rfl, k1, g1⟩
      · refine List.nodup_append.2 ⟨k2, g2, ?_⟩
        rintro b hb b' hb' rfl
        obtain ⟨tk, k, h1, h2, h3⟩ := k3 b hb
        obtain ⟨tk', k', h4, h5, h6⟩ := g3 b hb'
        exact hR.apart _ _ _ _ h2 h5 (hnd'.2.2 tk h1 tk' h4) b h3 h6
      · intro b hb
        simp only [named]
        rcases List.mem_append.1 hb with hb | hb
        · obtain ⟨tk, k, h1, h2, h3⟩ := k3 b hb
          exact ⟨tk, k, List.mem_append.2 (.inl h1), h2, h3⟩
        · obtain ⟨tk, k, h1, h2, h3⟩ := g3 b hb
          exact ⟨tk, k, List.mem_append.2 (.inr h1), h2, h3⟩
      · intro tk htk
        simp only [named] at htk
        rcases List.mem_append.1 htk with h | h
        · exact k4 tk h
        · exact g4 tk h
    by_cases hmu : mu.contains j = true
    · rw [if_pos hmu] at hx
      rw [hmu] at hnd' base
      simp only [if_true] at base
      obtain ⟨G1, k1, k2, k3, k4⟩ := handedXA_ok hR hO hv1 hx hnd'.1
      exact base G1 k1 k2 k3 k4
    · rw [if_neg hmu] at hx
      simp only [hmu, if_false, Bool.false_eq_true] at base
      have hmu' : mu.contains j = false := by simpa using hmu
      refine base [] (K_of_CI (argI_ok hR hO hv1 hx (fun tk htk => hF tk (by rw [hmu']; simp [htk])))) (by simp) (by simp) (by simp)
/-! ### what comes back -/
theorem backX1_ok (hR : R E A ρ O F s a w) {M : List Nat} (hkeep : Keep w M w') {t x o : T} {v : Value} {ps : List (Nat × Blk)} {F1 : List Nat} (hv1 : CV w O ρ A t v) (hx1 : handedX1 s t = some x) (hp : backX1 t x o = some ps) (ho1 : K w' O' o v F1) : ∃ G1, LB w' O' ρ A ps G1 ∧ G1.Sublist F1 ∧ (ps.map (·.1)).Sublist t.names := by
  have nil : ps = [] → ∃ G1, LB w' O' ρ A ps G1 ∧ G1.Sublist F1 ∧ (ps.map (·.1)).Sublist t.names := by
    rintro rfl
    exact ⟨[], by simp [LB], by simp, by simp⟩
  unfold backX1 at hp
  split at hp
  · simp only [Option.some.injEq] at hp
    exact nil hp.symm
  · unfold handedX1 at hx1
    split at hp
    · simp only [Option.some.injEq] at hp
      exact nil hp.symm
    · rename_i hc
      rw [if_neg hc] at hx1
      simp only [Option.map_eq_some_iff] at hp
      obtain ⟨p, hp, rfl⟩ := hp
      obtain ⟨G1, k1, k2, k3⟩ := back1_ok hR hkeep hv1 hx1 hp ho1
      obtain ⟨p1, p2⟩ := p
      exact ⟨G1, by simp only [LB]; exact ⟨G1, [], by simp, k1, rfl⟩, k2, by simp [k3]⟩
theorem backXs_ok (hR : R E A ρ O F s a w) {M : List Nat} (hkeep : Keep w M w') : ∀ {cs xs os : List T} {vs : List Value} {ps : List (Nat × Blk)} {F1 : List Nat}, CVs w O ρ A cs vs → handedXs s cs = some xs → backXs cs xs os = some ps → Ks w' O' os vs F1 → ∃ G1, LB w' O' ρ A ps G1 ∧ G1.Sublist F1 ∧ (ps.map (·.1)).Sublist (namess cs)
  | [], xs, os, vs, ps, F1, hv, hx, hp, ho => by
    cases xs <;> cases os <;> simp only [backXs] at hp <;> first
      | (simp only [Option.some.injEq] at hp
         subst hp
         exact ⟨[], by simp [LB], by simp, by simp [namess]⟩)
      | exact absurd hp (by simp)
  | c :: cs, [], os, vs, ps, F1, hv, hx, hp, ho => by cases os <;> simp [backXs] at hp
  | c :: cs, x :: xs, [], vs, ps, F1, hv, hx, hp, ho => by simp [backXs] at hp
  | c :: cs, x :: xs, o :: os, vs, ps, F1, hv, hx, hp, ho => by
    simp only [handedXs] at hx
    split at hx
    case h_2 => exact absurd hx (by simp)
    rename_i x' ys' hx1 hys
    simp only [Option.some.injEq, List.cons.injEq] at hx
    obtain ⟨rfl, rfl⟩ := hx
    simp only [CVs] at hv
    obtain ⟨v, r, rfl, hv1, hv2⟩ := hv
    simp only [Ks] at ho
    obtain ⟨v', r', Fa, Fb, e, rfl, ho1, ho2⟩ := ho
    simp only [List.cons.injEq] at e
    obtain ⟨rfl, rfl⟩ := e
    simp only [backXs] at hp
    split at hp
    case h_2 => exact absurd hp (by simp)
    rename_i p1 r1 hp1 hbk
    simp only [Option.some.injEq] at hp
    subst hp
    obtain ⟨G, g1, g2, g3⟩ := backXs_ok hR hkeep hv2 hys hbk ho2
    obtain ⟨G1, k1, k2, k3⟩ := backX1_ok hR hkeep hv1 hx1 hp1 ho1
    refine ⟨G1 ++ G, LB_append k1 g1, List.Sublist.append k2 g2, ?_⟩
    simp only [List.map_append, namess]
    exact List.Sublist.append k3 g3
theorem backXA_ok (hR : R E A ρ O F s a w) {M : List Nat} (hkeep : Keep w M w') {t x out : T} {v : Value} {ps : List (Nat × Blk)} {F1 : List Nat} (hv1 : CV w O ρ A t v) (hx1 : handedXA s t = some x) (hp : backXA t x out = some ps) (ho1 : K w' O' out v F1) : ∃ G1, LB w' O' ρ A ps G1 ∧ G1.Sublist F1 ∧ (ps.map (·.1)).Sublist t.names := by
  cases t <;> first
    | (simp only [handedXA] at hx1
       simp only [backXA] at hp
       exact backX1_ok hR hkeep hv1 hx1 hp ho1)
    | skip
  rename_i cs
  simp only [handedXA, Option.map_eq_some_iff] at hx1
  obtain ⟨xs, hxs, rfl⟩ := hx1
  have dead : backX1 (.agg cs) (.agg xs) out = some ps → ∃ G1, LB w' O' ρ A ps G1 ∧ G1.Sublist F1 ∧ (ps.map (·.1)).Sublist (T.agg cs).names := by
    intro h
    unfold backX1 at h
    split at h
    · simp only [Option.some.injEq] at h
      subst h
      exact ⟨[], by simp [LB], by simp, by simp⟩
    · simp [T.closed, T.clean, back1] at h
  cases out <;> simp only [backXA] at hp <;> first
    | exact dead hp
    | skip
  simp only [CV] at hv1
  obtain ⟨us, e, hv1⟩ := hv1
  simp only [K] at ho1
  obtain ⟨us', e', ho1⟩ := ho1
  rw [e] at e'
  simp only [Value.agg.injEq, List.toArray_inj] at e'
  have e2 : us = us' := by simpa using e'
  subst e2
  simp only [T.names]
  exact backXs_ok hR hkeep hv1 hxs hp ho1
theorem backX_ok (hR : R E A ρ O F s a w) {mu M : List Nat} (hkeep : Keep w M w') : ∀ {args xs outs : List T} {vs : List Value} {j : Nat} {bk : List (Nat × Blk)} {Fo : List Nat}, CVs w O ρ A args vs → handedX s mu j args = some xs → backX mu j args xs outs = some bk → Ks w' O' outs vs Fo →
    ∃ G, LB w' O' ρ A bk G ∧ G.Sublist Fo ∧ (bk.map (·.1)).Sublist (named mu true j args)
  | [], [], [], vs, j, bk, Fo, hv, hx, hb, ho => by
    simp only [backX, Option.some.injEq] at hb
    subst hb
    exact ⟨[], by simp [LB], by simp, by simp [named]⟩
  | t :: args, x :: xs, out :: outs, vs, j, bk, Fo, hv, hx, hb, ho => by
    simp only [handedX] at hx
    split at hx
    case h_2 => exact absurd hx (by simp)
    rename_i x' ys' hx1 hys
    simp only [Option.some.injEq, List.cons.injEq] at hx
    obtain ⟨rfl, rfl⟩ := hx
    simp only [CVs] at hv
    obtain ⟨v, r, rfl, hv1, hv2⟩ := hv
    simp only [Ks] at ho
    obtain ⟨v', r', F1, F2, e, rfl, ho1, ho2⟩ := ho
    simp only [List.cons.injEq] at e
    obtain ⟨rfl, rfl⟩ := e
    simp only [backX] at hb
    split at hb
    case h_2 => exact absurd hb (by simp)
    rename_i p1 r1 hp1 hbk
    simp only [Option.some.injEq] at hb
    subst hb
    obtain ⟨G, g1, g2, g3⟩ := backX_ok hR hkeep hv2 hys hbk ho2
    simp only [named]
    by_cases hmu : mu.contains j = true
    · rw [if_pos hmu] at hp1 hx1
      rw [if_pos (by rw [hmu])]
      obtain ⟨G1, k1, k2, k3⟩ := backXA_ok hR hkeep hv1 hx1 hp1 ho1
      refine ⟨G1 ++ G, LB_append k1 g1, List.Sublist.append k2 g2, ?_⟩
      simp only [List.map_append]
      exact List.Sublist.append k3 g3
    · rw [if_neg hmu] at hp1
      simp only [Option.some.injEq] at hp1
      subst hp1
      rw [if_neg hmu]
      exact ⟨G, by simpa using g1, g2.trans (List.sublist_append_right _ _), by simpa using g3⟩
  | [], [], _ :: _, vs, j, bk, Fo, hv, hx, hb, ho => by simp [backX] at hb
  | [], _ :: _, _, vs, j, bk, Fo, hv, hx, hb, ho => by simp [backX] at hb
  | _ :: _, [], _, vs, j, bk, Fo, hv, hx, hb, ho => by simp [backX] at hb
  | _ :: _, _ :: _, [], vs, j, bk, Fo, hv, hx, hb, ho => by simp [backX] at hb
/-- What such a call does to the blocks. -/
def dX (mu : List Nat) (args : List T) (bk : List (Nat × Blk)) (r : T) (n : Nat) : Δ := (named mu true 0 args ++ named mu false 0 args).map (fun t => (t, none)) ++ (news bk ++ news (mat r n).2)
/-- An operation that enters a function with such arguments. -/
def Enters (P : Program) (op : Op) (xs0 args : List T) (f : Nat) : Prop := ∀ (E : Env) (A : Nat → Prop) (ρ : Nat → Option RB) (O : Nat → Prop) (F : Nat → List Nat) (s : St) (a : Act) (w : World) (o : Oper) (ys : List X),
    o.op = op → op.operands.toList.mapM opd = some ys → ys.map (·.ev s) = xs0 → R E A ρ O F s a w → ∃ vs, CVs w O ρ A args vs ∧ (execOp a.eval o).run P w = .ok (.enter f vs.toArray) w
theorem enters_call {c : Call} {f : Nat} {args : List T} (hc : c.callee = .value (.func f)) (hok : okCall P f = true) : Enters P (.call c) (.fn f [] :: args) args f := by
  intro E A ρ O F s a w o ys hop hys hxs' hR
  have hops : (Op.call c).operands.toList = .func f :: c.args.toList := by
    simp [Op.operands, Call.operands, hc]
  rw [hops] at hys
  simp only [List.mapM_cons, opd, Option.pure_def, Option.bind_eq_bind, Option.bind_some, Option.bind_eq_some_iff, Option.some.injEq] at hys
  obtain ⟨zs, hz, rfl⟩ := hys
  simp only [List.map_cons, List.cons.injEq] at hxs'
  obtain ⟨_, rfl⟩ := hxs'
  refine ⟨_, evs_ok hR hz, ?_⟩
  simp only [execOp, hop, resolve, hc, Act.eval, Deferred.ofValue, Sem.run_bind, Sem.run_pure, Result.andThen_ok, invoke]
  rw [run_enter hok]
  congr 2
  apply Array.ext'
  simp
theorem hook_callG {op : Op} {f n : Nat} {xs0 : List T} {mu : List Nat} {args xs outs : List T} {hp bk : List (Nat × Blk)} {r : T} (hen : Enters P op xs0 args f)
    (hh : handedX ⟨[], hp, 0, 0⟩ mu 0 args = some xs) (hnd : (named mu true 0 args).Nodup) (hdis : ∀ t ∈ named mu false 0 args, t ∉ named mu true 0 args) (hret : Ret P f xs r outs) (hbk : backX mu 0 args xs outs = some bk) :
    HookOk P op xs0 hp n (mat r n).1 (dX mu args bk r n) := by
  intro E A ρ O F s a w o ys next Q hop hys hxs' hR hd hg hfb hFR hn
  obtain ⟨vs, hv, hrun⟩ := hen E A ρ O F s a w o ys hop hys hxs' hR
  have hxs : handedX s mu 0 args = some xs := handedX_mono (s := ⟨[], hp, 0, 0⟩) (fun t k h => hg _ (hget_mem h)) hh
  unfold Oper.wp
  rw [hrun, Oper.upon_enter]
  let O2 : Nat → Prop := fun b => O b ∨ ∃ tk ∈ named mu false 0 args, ∃ k, hget s.hp tk = some k ∧ b ∈ F tk
  have hO2 : ∀ b, O b → O2 b := fun b hb => .inl hb
  obtain ⟨G, g1, g2, g3, g4⟩ := handedX_ok hR hO2 hv hxs hnd (fun tk htk k hk b hb => .inr ⟨tk, htk, k, hk, hb⟩)
  have hGm : ∀ b ∈ G, ¬ O b ∧ b < w.heap.size ∧ (E.w0.heap.size ≤ b ∨ b ∈ E.mine) := by
    intro b hb
    obtain ⟨tk, k, h4, h5, h6⟩ := g3 b hb
    exact hR.mine _ _ h5 b h6
  have hO2lt : ∀ b, O2 b → b < w.heap.size := by
    rintro b (hb | ⟨tk, _, k, h1, h2⟩)
    · exact hR.Olt b hb
    · exact (hR.mine _ _ h1 b h2).2.1
  have hGO2 : ∀ b ∈ G, ¬ O2 b := by
    rintro b hb (h | ⟨tk, h1, k, h2, h3⟩)
    · exact (hGm b hb).1 h
    · obtain ⟨tk', k', h4, h5, h6⟩ := g3 b hb
      exact hR.apart _ _ _ _ h2 h5 (fun h => hdis tk h1 (h ▸ h4)) b h3 h6
  refine (hret w _ O2 G hO2lt g1 g2 (fun b hb => ⟨hGO2 b hb, (hGm b hb).2.1⟩)).mono ?_
  rintro e w' ⟨v, O', Fr, Fo, rfl, h1, h2, h3, hr, ho, hnd2, hm2, hkeep⟩
  simp only
  obtain ⟨Gb, b1, b2, b3⟩ := backX_ok hR hkeep hv hxs hbk ho
  have hlen : (mat r n).2.length ≤ (dX mu args bk r n).length := by simp [dX, news]; omega
  obtain ⟨ρ1, m1, m2, m3⟩ := mat_K n ρ A hr (fun x hx hx' => hFR x hx (by omega))
  generalize hL : (dX mu args bk r n).length = L at *
  have hAm : ∀ x, A x → Aext A n L x := fun x h => .inl h
  have hAA : ∀ x, Aext A n (mat r n).2.length x → Aext A n L x := fun x h => h.imp id (fun h => ⟨h.1, by omega⟩)
  have hρ : ∀ x, A x → ρ1 x = ρ x := by
    intro x hx
    refine m1 x ?_
    rcases Nat.lt_or_ge x n with h | h
    · exact .inl h
    · rcases Nat.lt_or_ge x (n + (mat r n).2.length) with h' | h'
      · exact absurd hx (hFR x h (by omega))
      · exact .inr h'
  have hfb' : ∀ x, x < E.fb → ρ1 x = E.ρ0 x := fun x hx => (m1 x (by omega)).trans (hR.ρ0 x hx)
  have hsub : ∀ t' k, hget (hdels s.hp (named mu true 0 args ++ named mu false 0 args)) t' = some k → t' ∉ named mu true 0 args ∧ t' ∉ named mu false 0 args ∧ hget s.hp t' = some k := by
    intro t' k h
    rw [hget_hdels] at h
    split at h
    · exact absurd h (by simp)
    · rename_i hni
      simp only [List.mem_append, not_or] at hni
      exact ⟨hni.1, hni.2, h⟩
  have hGF : ∀ t' k, hget (hdels s.hp (named mu true 0 args ++ named mu false 0 args)) t' = some k → ∀ b ∈ F t', b ∉ G := by
    intro t' k hk b hb hbG
    obtain ⟨h4, _, h5⟩ := hsub _ _ hk
    obtain ⟨tk, k', h6, h7, h8⟩ := g3 b hbG
    exact hR.apart _ _ _ _ h5 h7 (fun h => h4 (h ▸ h6)) b hb h8
  have hOw : ∀ b, O b → w'.heap[b]? = w.heap[b]? := fun b hb => hkeep.block b (hR.Olt b hb) (fun hG => (hGm b hG).1 hb)
  have hr0 := hR.hpsub (hp0 := hdels s.hp (named mu true 0 args ++ named mu false 0 args)) (fun t' k hk => (hsub t' k hk).2.2)
  have hFold : ∀ t' k, hget (hdels s.hp (named mu true 0 args ++ named mu false 0 args)) t' = some k → ∀ b ∈ Fr ++ Fo, b ∉ F t' := by
    intro t' k hk b hb hin
    rcases (hm2 b hb).2.2 with h6 | h6
    · have := (hR.mine _ _ (hsub _ _ hk).2.2 b hin).2.1; omega
    · exact hGF t' k hk b hin h6
  have hFwhere : ∀ b ∈ Fr ++ Fo, E.w0.heap.size ≤ b ∨ b ∈ E.mine := by
    intro b hb
    rcases (hm2 b hb).2.2 with h6 | h6
    · exact .inl (Nat.le_trans hR.keep.size h6)
    · exact (hGm b h6).2.2
  have hFnew : ∀ b ∈ Fr ++ Fo, ¬ O' b ∧ b < w'.heap.size ∧ (E.w0.heap.size ≤ b ∨ b ∈ E.mine) := fun b hb => ⟨(hm2 b hb).1, (hm2 b hb).2.1, hFwhere b hb⟩
  have hnewO : ∀ b, O' b → O b ∨ ((E.w0.heap.size ≤ b ∨ b ∈ E.mine) ∧ ∀ t k, hget (hdels s.hp (named mu true 0 args ++ named mu false 0 args)) t = some k → b ∉ F t) := by
    intro b hb
    rcases h3 b hb with h4 | h4 | h4
    · rcases h4 with h4 | ⟨tk, h5, k, h6, h7⟩
      · exact .inl h4
      · refine .inr ⟨(hR.mine _ _ h6 b h7).2.2, fun t k' hk hin => ?_⟩
        obtain ⟨h8, h9, h10⟩ := hsub _ _ hk
        exact hR.apart _ _ _ _ h6 h10 (fun h => h9 (h ▸ h5)) b h7 hin
    · refine .inr ⟨.inl (Nat.le_trans hR.keep.size h4), fun t k hk hin => ?_⟩
      have := (hR.mine _ _ (hsub _ _ hk).2.2 b hin).2.1; omega
    · exact .inr ⟨(hGm b h4).2.2, fun t k hk hin => hGF t k hk b hin h4⟩
  have hr1 := hr0.world (M := G) (A' := Aext A n L) (O' := O') (ρ' := ρ1) (w' := w') hAm (fun b hb => h1 b (hO2 b hb)) hρ hfb' hOw (fun t' k hk b hb => hkeep.block b (hR.mine _ _ (hsub _ _ hk).2.2 b hb).2.1 (hGF t' k hk b hb))
    (fun b hb => h2 b hb) hnewO hkeep (fun b hb => (hGm b hb).2.2)
  have hnd3 := List.nodup_append.1 hnd2
  have hmtA : ∀ x ∈ bk.map (·.1), A x := by
    intro x hx
    obtain ⟨k, hk⟩ := g4 x (b3.subset hx)
    exact (hR.hp x k hk).1
  obtain ⟨F1, hr2, q1, q2⟩ := R.addL hr1 (b1.cong (fun _ h => h) (fun _ _ => rfl) hAm hρ (fun _ _ => rfl) hmtA) (fun x hx => hAm x (hmtA x hx)) (fun x hx => by simp only [hget_hdels]; rw [if_pos (List.mem_append.2 (.inl (b3.subset hx)))]) (hnd.sublist b3) (hnd3.2.1.sublist b2)
    (fun b hb => hFnew b (List.mem_append.2 (.inr (b2.subset hb)))) (fun t' k hk b hb => hFold t' k hk b (List.mem_append.2 (.inr (b2.subset hb))))
  obtain ⟨c1, c2, c3⟩ := m3.LB
  have hadd := R.addL hr2 (c1.cong (fun _ h => h) (fun _ _ => rfl) hAA (fun _ _ => rfl) (fun _ _ => rfl) (fun x hx => .inr (c2 x hx))) (fun x hx => .inr ⟨(c2 x hx).1, by have := (c2 x hx).2; omega⟩) (fun x hx => ?_) c3 hnd3.1
    (fun b hb => hFnew b (List.mem_append.2 (.inl hb))) (fun t' k hk b hb hin => ?_)
  · obtain ⟨F2, hr3, q3, q4⟩ := hadd
    have hr4 := R.hpext (hp' := hap s.hp (dX mu args bk r n)) hr3 (fun x => ?_)
    · have hr5 := hr4.put hd (v := (mat r n).1) (u := v) (m2.cong (fun _ h => h) (fun _ _ => rfl) hAA (fun _ _ => rfl))
      exact hn v w' ⟨_, _, _, hr5⟩
    · simp only [dX, hap_append, hap_kills]
  · -- new names
    have hxA := hFR x (c2 x hx).1 (by have := (c2 x hx).2; omega)
    cases hg' : hget (hap (hdels s.hp (named mu true 0 args ++ named mu false 0 args)) (news bk)) x with
    | none => rfl
    | some k =>
      rcases hget_news _ _ _ _ hg' with h4 | h4
      · exact absurd (hmtA x h4) hxA
      · exact absurd (hR.hp x k (hsub _ _ h4).2.2).1 hxA
  · rcases q2 _ _ hk b hin with h4 | ⟨k', h4, h5⟩
    · exact hnd3.2.2 b hb b (b2.subset h4) rfl
    · exact hFold t' k' h4 b (List.mem_append.2 (.inl hb)) h5
theorem hook_callX {c : Call} {f n : Nat} {mu : List Nat} {args xs outs : List T} {hp bk : List (Nat × Blk)} {r : T} (hc : c.callee = .value (.func f)) (hok : okCall P f = true)
    (hh : handedX ⟨[], hp, 0, 0⟩ mu 0 args = some xs) (hnd : (named mu true 0 args).Nodup) (hdis : ∀ t ∈ named mu false 0 args, t ∉ named mu true 0 args) (hret : Ret P f xs r outs) (hbk : backX mu 0 args xs outs = some bk) :
    HookOk P (.call c) (.fn f [] :: args) hp n (mat r n).1 (dX mu args bk r n) := hook_callG (enters_call hc hok) hh hnd hdis hret hbk
theorem hookH_callX (mu : List Nat) (hp : List (Nat × Blk)) {c : Call} {f n : Nat} {args xs outs : List T} {bk : List (Nat × Blk)} {r : T} {K : T → Δ → List Nat → Prop} (hret : Ret P f xs r outs) (hh : handedX ⟨[], hp, 0, 0⟩ mu 0 args = some xs) (hbk : backX mu 0 args xs outs = some bk) (hc : c.callee = .value (.func f)) (hok : okCall P f = true) (h1 : ∀ p ∈ hp, hget s.hp p.1 = some p.2)
    (hnd : (named mu true 0 args).Nodup) (hdis : ∀ t ∈ named mu false 0 args, t ∉ named mu true 0 args) (h2 : K (mat r n).1 (dX mu args bk r n) (hp.map (·.1))) : @hookH P s n ⟨.call c⟩ (.fn f [] :: args) ⟨K⟩ :=
  hookH_of hp (hook_callX hc hok hh hnd hdis hret hbk) h1 h2
end
end Go.Proofs.Ytehdfbhfbidadaa.V

/- The builtin copy, onto a whole block. -/
namespace Go.Proofs.Ytehdfbhfbidadaa.V
open Go
set_option linter.unusedVariables false
set_option linter.unusedSimpArgs false
section
variable {P : Program} {s : St} {n : Nat}
theorem hook_copy {c : Call} {dT sT e : TypeId} {i : TypeInfo} {t m sz : Nat} {y : T} {rows src : List (List T)} {ts : List Nat} {hp : List (Nat × Blk)} (hc : c.callee = .builtin .copy) (h0 : c.argTypes.toList = [dT, sT]) (ht : P.underlying dT = some (.slice e)) (hi : P.info? e = some i) (hisz : i.size = sz)
    (hg0 : hget hp t = some (.arr sz rows)) (hrl : rows.length = m) (hs : ∀ st : St, (∀ p ∈ hp, hget st.hp p.1 = some p.2) → rowsAt st y = some (src, ts)) (hcell : ∀ r ∈ src, r.length = sz ∧ (r.all T.cell) = true) (hl : src.length = m) (hm : 0 < m) :
    HookOk P (.call c) [.ref t 0 m, y] hp n (.i .i64 (m : Int)) [(t, some (.arr sz src))] := by
  intro E A ρ O F s a w o ys next Q hop hys hxs hR hd hg hfb hFR hn
  obtain ⟨callee, ⟨args⟩, ⟨argTypes⟩⟩ := c
  simp only at hc h0
  subst hc h0
  have hops : (Op.call ⟨.builtin .copy, ⟨args⟩, ⟨[dT, sT]⟩⟩).operands.toList = args := by
    simp [Op.operands, Call.operands]
  rw [hops] at hys
  have hvs := evs_ok hR hys
  rw [hxs] at hvs
  simp only [CVs] at hvs
  obtain ⟨v1, r1, e1, hv, v2, r2, e2, hw, e3⟩ := hvs
  subst e3
  subst e2
  have hgt : hget s.hp t = some (.arr sz rows) := hg _ (hget_mem hg0)
  obtain ⟨news, hnl, hnd, hn1, q, cq, hye, hqn, hq⟩ := src_ok hR hw (hs s hg) hcell
  have hq' : (∃ b off, q = some ⟨b, off, none⟩ ∧ (src.length = 0 ∨ Lies w b off news)) ∨ src.length = 0 := by
    rcases hq with ⟨b, off, h1, h2⟩ | h
    · exact .inl ⟨b, off, h1, h2.imp (fun h => by simp [h]) id⟩
    · exact .inr (by simp [h])
  obtain ⟨hAt, hBR⟩ := hR.hp _ _ hgt
  simp only [BR] at hBR
  rcases hBR with ⟨rfl, _, _⟩ | ⟨B, hB, hsz, hsr, hcap, cc, et, cs, F', hheap, hcs, hd0, hlie, hF⟩
  · simp at hrl; omega
  simp only [CV] at hv
  obtain ⟨_, hv⟩ := hv
  rcases hv with ⟨hnone, _⟩ | ⟨B', hB', b', o', c', ev, hc', hmc, hbo⟩
  · rw [hnone] at hB; exact absurd hB (by simp)
  obtain rfl : B = B' := Option.some.inj (hB.symm.trans hB')
  obtain ⟨rfl, rfl⟩ := hbo.resolve_left (by omega)
  have hnl' : news.length = m * sz := by rw [hnl, hl]
  have hms : m * sz ≤ B.cap * sz := Nat.mul_le_mul_right _ (by omega)
  have hcs' : B.o + B.cap * sz ≤ cc.size := by rw [hsz]; exact hcs
  have hst := run_storeCells_at P B.b (B.o + 0 * B.sz) et news 0 cc w hheap (by omega) hn1
  simp only [Nat.zero_mul, Nat.add_zero] at hst
  subst hisz
  have hf := run_src (P := P) (size := i.size) (m := src.length) (q := q) (c := cq) hnl hq' (w' := w) rfl
  have hrun : (execOp a.eval o).run P w = .ok (.value (.int .i64 (m : Int))) (w.setRow B.b (cc.toList.take B.o ++ news ++ cc.toList.drop (B.o + news.length)).toArray) := by
    have hargs : args.map a.eval = [v1, v2] := e1
    obtain ⟨x1, x2, rfl⟩ : ∃ x1 x2, args = [x1, x2] := by
      match args, hargs with
      | [x1, x2], _ => exact ⟨x1, x2, rfl⟩
    simp only [List.map_cons, List.map_nil, List.cons.injEq, and_true] at hargs
    obtain ⟨rfl, rfl⟩ := hargs
    rw [hl] at hf hye
    simp [execOp, hop, resolve, invoke, builtin, ev, hye, Builtin.copy_, run_underlying ht, Builtin.lenOf, sizeOf, typeInfo, hi, hf, hst, goInt]
  generalize hN : (cc.toList.take B.o ++ news ++ cc.toList.drop (B.o + news.length)).toArray = c2 at hrun
  have hc2size : c2.size = cc.size := by
    rw [← hN]; simp; omega
  have hh' : (w.setRow B.b c2).heap[B.b]? = some (.cells c2 et (0, 0)) := setRow_heap w B.b cc c2 et _ hheap
  have hoth : ∀ b, b ≠ B.b → (w.setRow B.b c2).heap[b]? = w.heap[b]? := by
    intro b hb
    simp only [World.setRow, Array.getElem?_modify]
    rw [if_neg (fun h => hb h.symm)]
  have hmB := hR.mine _ _ hgt B.b (by rw [hF]; simp)
  have hnoO : ∀ b, O b → b ≠ B.b := by
    rintro b hb rfl
    exact hmB.1 hb
  have hwO : ∀ b, O b → (w.setRow B.b c2).heap[b]? = w.heap[b]? := fun b hb => hoth b (hnoO b hb)
  have hk : Keep w [B.b] (w.setRow B.b c2) := Keep.row hheap hc2size
  have hR1 := hR.set1 (t := t) (k := .arr i.size src) (Ft := [B.b]) (M := [B.b]) (A' := A) (ρ' := ρ) (w' := w.setRow B.b c2) (hp0 := s.hp)
    (fun _ h => h) (fun _ _ => rfl) hR.ρ0 hwO (fun _ _ h => h) ?_ hk ?_ hAt ?_ ?_ ?_ ?_
  · have h2 := hR1.put hd (v := .i .i64 (m : Int)) (u := .int .i64 (m : Int)) (by simp only [CV, CI])
    exact wp_value hrun (hn _ _ ⟨_, _, _, h2.monoA (fun t h => .inl h)⟩)
  · intro t' k' hne hk' b hb
    refine hoth b ?_
    rintro rfl
    exact hR.apart _ _ _ _ hk' hgt hne _ hb (by rw [hF]; simp)
  · intro b hb
    simp only [List.mem_singleton] at hb
    subst hb
    exact hmB.2.2
  · simp only [BR]
    refine .inr ⟨B, hB, hsz, fun r hr => (hcell r hr).1, by omega, c2, et, news, [], hh', by rw [hc2size]; exact hcs, ?_, ?_, rfl⟩
    · exact hnd.cong (fun _ h => h) hwO (fun _ h => h) (fun _ _ => rfl) (by simp)
    · intro j u hj
      have hjl := getElem?_len hj
      have hp1 : (cc.toList.take B.o).length = B.o := by simp; omega
      rw [← hN]
      simp only [List.getElem?_toArray]
      rw [List.append_assoc, List.getElem?_append_right (by omega), hp1, Nat.add_sub_cancel_left, List.getElem?_append_left hjl]
      exact hj
  · simp
  · intro b hb
    simp only [List.mem_singleton] at hb
    subst hb
    exact ⟨hmB.1, Nat.lt_of_lt_of_le hmB.2.1 hk.size, hmB.2.2⟩
  · intro t' k' hne hk' b hb
    simp only [List.mem_singleton] at hb
    subst hb
    exact fun hin => hR.apart _ _ _ _ hk' hgt hne _ hin (by rw [hF]; simp)
theorem hookH_copy {c : Call} {dT sT e : TypeId} {i : TypeInfo} {t m sz : Nat} {rows src : List (List T)} {K : T → Δ → List Nat → Prop} (hg : hget s.hp t = some (.arr sz rows)) (hc : c.callee = .builtin .copy) (h0 : c.argTypes.toList = [dT, sT]) (ht : P.underlying dT = some (.slice e)) (hi : P.info? e = some i) (hisz : i.size = sz)
    (hrl : rows.length = m) (hcell : ∀ r ∈ src, r.length = sz ∧ (r.all T.cell) = true) (hl : src.length = m) (hm : 0 < m) (h2 : K (.i .i64 (m : Int)) [(t, some (.arr sz src))] [t]) : @hookH P s n ⟨.call c⟩ [.ref t 0 m, .imm src] ⟨K⟩ :=
  hookH_of [(t, .arr sz rows)] (hook_copy (ts := []) hc h0 ht hi hisz (by simp [hget]) hrl (fun _ _ => by simp) hcell hl hm) (by simpa using hg) h2
end
end Go.Proofs.Ytehdfbhfbidadaa.V

/- What reads as a datum at a type is told by trees: an argument that came in, opened. -/
namespace Go.Proofs.Ytehdfbhfbidadaa.V
open Go Go.RowKit Go.ChangeShapes Go.WideShapes
set_option linter.unusedVariables false
/-- Whatever reads at type t with fuel n is told by trees, and these are such. -/
def OpensT (P : Program) (n : Nat) (t : TypeId) (q : List T → Prop) : Prop :=
  ∀ (H : Type) (enc : TypeId × Value → H) (w : World) (cs : List Value) (x : DataW H × List MemPlace), DataW.trod enc P w 0 (fun _ => true) true n t cs = some x → ∃ ts, CIs w (· < w.heap.size) ts cs ∧ q ts
section
variable {P : Program} {n : Nat} {t : TypeId}
theorem CIs_one {w : World} {O : Nat → Prop} {t : T} {v : Value} (h : CI w O t v) : CIs w O [t] [v] := by
  simp only [CIs]; exact ⟨v, [], rfl, h, rfl⟩
theorem ot_int {k : IntKind} (ht : P.underlying t = some (.int k)) : OpensT P n t (fun ts => ∃ y, ts = [.i k y] ∧ (Lit.int k y).wf = true) := by
  intro H enc w cs x h
  obtain ⟨y, rfl, _, hw⟩ := DataW.trod_int ht h
  exact ⟨_, CIs_one (by simp only [CI]), y, rfl, hw⟩
theorem spotless {w : World} {a : Addr} {u : Value} (h : w.cell? a = some u) : w.cell? ⟨a.block, a.off, none⟩ = some u ∧ a = ⟨a.block, a.off, none⟩ ∧ a.block < w.heap.size := by
  obtain ⟨b, o, sp⟩ := a
  cases sp with
  | none =>
    refine ⟨h, rfl, ?_⟩
    simp only [World.cell?] at h
    split at h
    · rename_i c e f hb; exact lt_of_heap hb
    · exact absurd h (by simp)
  | some k =>
    simp only [World.cell?, Option.isSome_some, if_true] at h
    split at h <;> exact absurd h (by simp)
theorem cells_cellT {w : World} {a : Addr} {m : Nat} {cs : List Value} (h : w.cells? 0 a m = some cs) : cs.length = m ∧ ∀ i u, cs[i]? = some u → w.cell? (a.add i) = some u := by
  unfold World.cells? at h
  have hl := mapM_some_length h
  refine ⟨by simpa using hl, fun i u hi => ?_⟩
  have hi' : i < m := by
    have := (List.getElem?_eq_some_iff.1 hi).1
    simp at hl; omega
  have hg := mapM_some_get h i i (by simp [hi'])
  rw [hi] at hg
  simpa using hg
theorem ot_slice {q : List T → Prop} {e : TypeId} {sz : Nat} (ht : P.underlying t = some (.slice e)) (hc : P.cellsOf e = sz) (h0 : 0 < sz) (he : ∀ m, m < n → OpensT P m e q) :
    OpensT P n t (fun ts => ∃ rows, ts = [.imm rows] ∧ rows.length ≤ maxLen ∧ ∀ r ∈ rows, q r ∧ r.length = sz) := by
  intro H enc w cs x h
  rcases DataW.trod_slice ht h with ⟨rfl, _⟩ | ⟨a, len, cap, elems, rest, m, rfl, rfl, rfl, hb, hl, hm, hlen, hel, hs1, hs2⟩
  · exact ⟨_, CIs_one (t := .imm []) (by simp only [CI]; exact ⟨none, 0, rfl, Nat.le_refl _, .inl trivial⟩), [], rfl, by simp, by simp⟩
  · have key : ∀ i, i < len → ∃ ts cs', w.cells? 0 (a.add (i * sz)) sz = some cs' ∧ CIs w (· < w.heap.size) ts cs' ∧ q ts := by
      intro i hi
      have h1 := hel i hi
      rw [List.getElem?_eq_getElem (by omega)] at h1
      obtain ⟨cs', h2, h3⟩ := Option.bind_eq_some_iff.1 h1
      obtain ⟨ts, hk, hq⟩ := he m (Nat.lt_succ_self m) H enc w cs' _ h3
      rw [hc] at h2
      exact ⟨ts, cs', h2, hk, hq⟩
    have build : ∀ k, k ≤ len → ∃ rows us, rows.length = k ∧ (∀ r ∈ rows, q r ∧ r.length = sz) ∧ CIr w (· < w.heap.size) rows us ∧ us.length = k * sz ∧ ∀ j u, us[j]? = some u → w.cell? (a.add j) = some u := by
      intro k
      induction k with
      | zero => exact fun _ => ⟨[], [], rfl, by simp, by simp only [CIr], by simp, by simp⟩
      | succ k ih =>
        intro hk
        obtain ⟨rows, us, h1, h2, h3, h4, h5⟩ := ih (by omega)
        obtain ⟨ts, cs', h6, h7, h8⟩ := key k (by omega)
        obtain ⟨h9, h10⟩ := cells_cellT h6
        refine ⟨rows ++ [ts], us ++ cs', by simp [h1], ?_, ?_, by simp [h4, h9, Nat.succ_mul], ?_⟩
        · intro r hr
          rcases List.mem_append.1 hr with hr | hr
          · exact h2 r hr
          · obtain rfl : r = ts := by simpa using hr
            exact ⟨h8, by rw [← h7.len, h9]⟩
        · refine CIr_append.2 ⟨us, cs', rfl, h3, ?_⟩
          simp only [CIr]
          exact ⟨cs', [], by simp, h7, rfl⟩
        · intro j u hj
          rcases Nat.lt_or_ge j us.length with hlt | hge
          · rw [List.getElem?_append_left hlt] at hj
            exact h5 j u hj
          · rw [List.getElem?_append_right hge] at hj
            have := h10 _ u hj
            rw [Go.Deep.add_add] at this
            rw [← this]; congr 2; omega
    obtain ⟨rows, us, h1, h2, h3, h4, h5⟩ := build len (Nat.le_refl _)
    have hml : len ≤ maxLen := Nat.le_trans hl hm
    refine ⟨_, CIs_one (t := .imm rows) ?_, rows, rfl, by omega, h2⟩
    simp only [CI]
    subst h1
    refine ⟨some a, cap, rfl, hl, ?_⟩
    by_cases hr : rows = []
    · exact .inl hr
    · right
      have hpos : 0 < us.length := by
        rw [h4]; exact Nat.mul_pos (List.length_pos_iff.2 hr) h0
      obtain ⟨u, hu⟩ : ∃ u, us[0]? = some u := ⟨_, List.getElem?_eq_getElem hpos⟩
      have hu0 := h5 0 u hu
      have e0 : a.add 0 = a := by simp [Addr.add]
      rw [e0] at hu0
      obtain ⟨_, ea, hlt⟩ := spotless hu0
      refine ⟨a.block, a.off, sz, us, by rw [ea], hlt, fun r hr => (h2 r hr).2, h3, ?_⟩
      intro j u hj
      have := h5 j u hj
      unfold Addr.add at this
      by_cases hj0 : j = 0
      · subst hj0
        simp only [if_true] at this
        exact (spotless this).1
      · rw [if_neg hj0] at this
        rw [ea] at this
        exact this
theorem ot_mono {q q' : List T → Prop} (h : OpensT P n t q) (hq : ∀ ts, q ts → q' ts) : OpensT P n t q' := fun H enc w cs x hx => by
  obtain ⟨ts, h1, h2⟩ := h H enc w cs x hx
  exact ⟨ts, h1, hq _ h2⟩
/-- The trees of fields, one behind the other. -/
def Row (P : Program) : List (TypeId × (List T → Prop)) → List T → Prop
  | [], ts => ts = []
  | (t, q) :: r, ts => ∃ a b, ts = a ++ b ∧ q a ∧ a.length = P.cellsOf t ∧ Row P r b
/-- Fields lie one behind the other. -/
def dense (P : Program) : Nat → List Field → Option Nat
  | o, [] => some o
  | o, f :: r => if f.offset = o then dense P (o + P.cellsOf f.type) r else none
end
end Go.Proofs.Ytehdfbhfbidadaa.V
