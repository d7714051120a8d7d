/- The machine of trees: what a proof's rewriting goes by. -/
import Derived.Test.YtcchmhmbjhgfdaaVu
namespace Go.Proofs.Ytcchmhmbjhgfdaa.V
open Go
set_option linter.unusedVariables false
set_option linter.unusedSimpArgs false
section
@[simp] theorem mat_un {n : Nat}  : mat .un n = (.un, []) := by simp only [mat]
@[simp] theorem cell_un  : T.cell .un = false := id rfl
@[simp] theorem clean_un  : T.clean .un = true := id rfl
@[simp] theorem toI_un  : T.toI .un = .un := by simp only [T.toI]
@[simp] theorem argI_un {s : St}  : argI s .un = none := by simp only [argI]
@[simp] theorem names_un  : T.names .un = [] := by simp only [T.names]
@[simp] theorem cells_un  : T.cells .un = [.un] := id rfl
@[simp] theorem gives1_un  : T.gives1 .un = false := id rfl
@[simp] theorem gives_un  : T.gives .un = false := id rfl
@[simp] theorem noImm_un  : T.noImm .un = true := by simp only [T.noImm]
@[simp] theorem rn_un {g : Nat → Nat}  : T.rn g .un = .un := by simp only [T.rn]
@[simp] theorem mat_dead {n : Nat}  : mat .dead n = (.dead, []) := by simp only [mat]
@[simp] theorem cell_dead  : T.cell .dead = false := id rfl
@[simp] theorem clean_dead  : T.clean .dead = true := id rfl
@[simp] theorem toI_dead  : T.toI .dead = .dead := by simp only [T.toI]
@[simp] theorem argI_dead {s : St}  : argI s .dead = some .dead := by simp only [argI]
@[simp] theorem names_dead  : T.names .dead = [] := by simp only [T.names]
@[simp] theorem cells_dead  : T.cells .dead = [.dead] := id rfl
@[simp] theorem gives1_dead  : T.gives1 .dead = false := id rfl
@[simp] theorem gives_dead  : T.gives .dead = false := id rfl
@[simp] theorem noImm_dead  : T.noImm .dead = true := by simp only [T.noImm]
@[simp] theorem rn_dead {g : Nat → Nat}  : T.rn g .dead = .dead := by simp only [T.rn]
@[simp] theorem mat_b {n : Nat} {x : Bool} : mat (.b x) n = ((.b x), []) := by simp only [mat]
@[simp] theorem cell_b {x : Bool} : T.cell (.b x) = true := id rfl
@[simp] theorem clean_b {x : Bool} : T.clean (.b x) = true := id rfl
@[simp] theorem toI_b {x : Bool} : T.toI (.b x) = (.b x) := by simp only [T.toI]
@[simp] theorem argI_b {s : St} {x : Bool} : argI s (.b x) = some (.b x) := by simp only [argI]
@[simp] theorem names_b {x : Bool} : T.names (.b x) = [] := by simp only [T.names]
@[simp] theorem cells_b {x : Bool} : T.cells (.b x) = [(.b x)] := id rfl
@[simp] theorem gives1_b {x : Bool} : T.gives1 (.b x) = false := id rfl
@[simp] theorem gives_b {x : Bool} : T.gives (.b x) = false := id rfl
@[simp] theorem noImm_b {x : Bool} : T.noImm (.b x) = true := by simp only [T.noImm]
@[simp] theorem rn_b {g : Nat → Nat} {x : Bool} : T.rn g (.b x) = (.b x) := by simp only [T.rn]
@[simp] theorem mat_i {n : Nat} {k : IntKind} {m : Int} : mat (.i k m) n = ((.i k m), []) := by simp only [mat]
@[simp] theorem cell_i {k : IntKind} {m : Int} : T.cell (.i k m) = true := id rfl
@[simp] theorem clean_i {k : IntKind} {m : Int} : T.clean (.i k m) = true := id rfl
@[simp] theorem toI_i {k : IntKind} {m : Int} : T.toI (.i k m) = (.i k m) := by simp only [T.toI]
@[simp] theorem argI_i {s : St} {k : IntKind} {m : Int} : argI s (.i k m) = some (.i k m) := by simp only [argI]
@[simp] theorem names_i {k : IntKind} {m : Int} : T.names (.i k m) = [] := by simp only [T.names]
@[simp] theorem cells_i {k : IntKind} {m : Int} : T.cells (.i k m) = [(.i k m)] := id rfl
@[simp] theorem gives1_i {k : IntKind} {m : Int} : T.gives1 (.i k m) = false := id rfl
@[simp] theorem gives_i {k : IntKind} {m : Int} : T.gives (.i k m) = false := id rfl
@[simp] theorem noImm_i {k : IntKind} {m : Int} : T.noImm (.i k m) = true := by simp only [T.noImm]
@[simp] theorem rn_i {g : Nat → Nat} {k : IntKind} {m : Int} : T.rn g (.i k m) = (.i k m) := by simp only [T.rn]
@[simp] theorem mat_s {n : Nat} {l : List UInt8} : mat (.s l) n = ((.s l), []) := by simp only [mat]
@[simp] theorem cell_s {l : List UInt8} : T.cell (.s l) = true := id rfl
@[simp] theorem clean_s {l : List UInt8} : T.clean (.s l) = true := id rfl
@[simp] theorem toI_s {l : List UInt8} : T.toI (.s l) = (.s l) := by simp only [T.toI]
@[simp] theorem argI_s {s : St} {l : List UInt8} : argI s (.s l) = some (.s l) := by simp only [argI]
@[simp] theorem names_s {l : List UInt8} : T.names (.s l) = [] := by simp only [T.names]
@[simp] theorem cells_s {l : List UInt8} : T.cells (.s l) = [(.s l)] := id rfl
@[simp] theorem gives1_s {l : List UInt8} : T.gives1 (.s l) = false := id rfl
@[simp] theorem gives_s {l : List UInt8} : T.gives (.s l) = false := id rfl
@[simp] theorem noImm_s {l : List UInt8} : T.noImm (.s l) = true := by simp only [T.noImm]
@[simp] theorem rn_s {g : Nat → Nat} {l : List UInt8} : T.rn g (.s l) = (.s l) := by simp only [T.rn]
@[simp] theorem mat_nl {n : Nat}  : mat .nl n = (.nl, []) := by simp only [mat]
@[simp] theorem cell_nl  : T.cell .nl = true := id rfl
@[simp] theorem clean_nl  : T.clean .nl = true := id rfl
@[simp] theorem toI_nl  : T.toI .nl = .nl := by simp only [T.toI]
@[simp] theorem argI_nl {s : St}  : argI s .nl = some (.imm []) := by simp only [argI]
@[simp] theorem names_nl  : T.names .nl = [] := by simp only [T.names]
@[simp] theorem cells_nl  : T.cells .nl = [.nl] := id rfl
@[simp] theorem gives1_nl  : T.gives1 .nl = false := id rfl
@[simp] theorem gives_nl  : T.gives .nl = false := id rfl
@[simp] theorem noImm_nl  : T.noImm .nl = true := by simp only [T.noImm]
@[simp] theorem rn_nl {g : Nat → Nat}  : T.rn g .nl = .nl := by simp only [T.rn]
@[simp] theorem mat_imm {n : Nat} {rows : List (List T)} : mat (.imm rows) n = ((.imm rows), []) := by simp only [mat]
@[simp] theorem cell_imm {rows : List (List T)} : T.cell (.imm rows) = true := id rfl
@[simp] theorem clean_imm {rows : List (List T)} : T.clean (.imm rows) = true := id rfl
@[simp] theorem toI_imm {rows : List (List T)} : T.toI (.imm rows) = (.imm rows) := by simp only [T.toI]
@[simp] theorem argI_imm {s : St} {rows : List (List T)} : argI s (.imm rows) = some (.imm rows) := by simp only [argI]
@[simp] theorem names_imm {rows : List (List T)} : T.names (.imm rows) = [] := by simp only [T.names]
@[simp] theorem cells_imm {rows : List (List T)} : T.cells (.imm rows) = [(.imm rows)] := id rfl
@[simp] theorem gives1_imm {rows : List (List T)} : T.gives1 (.imm rows) = false := id rfl
@[simp] theorem gives_imm {rows : List (List T)} : T.gives (.imm rows) = false := id rfl
@[simp] theorem noImm_imm {rows : List (List T)} : T.noImm (.imm rows) = false := by simp only [T.noImm]
@[simp] theorem rn_imm {g : Nat → Nat} {rows : List (List T)} : T.rn g (.imm rows) = (.imm rows) := by simp only [T.rn]
@[simp] theorem mat_own {n : Nat} {sz : Nat} {rows : List (List T)} : mat (.own sz rows) n = (.ref n 0 rows.length, [(n, .arr sz rows)]) := by simp only [mat]
@[simp] theorem cell_own {sz : Nat} {rows : List (List T)} : T.cell (.own sz rows) = false := id rfl
@[simp] theorem clean_own {sz : Nat} {rows : List (List T)} : T.clean (.own sz rows) = true := id rfl
@[simp] theorem toI_own {sz : Nat} {rows : List (List T)} : T.toI (.own sz rows) = .imm (toIr rows) := by simp only [T.toI]
@[simp] theorem argI_own {s : St} {sz : Nat} {rows : List (List T)} : argI s (.own sz rows) = some (.own sz rows) := by simp only [argI]
@[simp] theorem names_own {sz : Nat} {rows : List (List T)} : T.names (.own sz rows) = [] := by simp only [T.names]
@[simp] theorem cells_own {sz : Nat} {rows : List (List T)} : T.cells (.own sz rows) = [(.own sz rows)] := id rfl
@[simp] theorem gives1_own {sz : Nat} {rows : List (List T)} : T.gives1 (.own sz rows) = true := id rfl
@[simp] theorem gives_own {sz : Nat} {rows : List (List T)} : T.gives (.own sz rows) = true := id rfl
@[simp] theorem noImm_own {sz : Nat} {rows : List (List T)} : T.noImm (.own sz rows) = noImr rows := by simp only [T.noImm]
@[simp] theorem rn_own {g : Nat → Nat} {sz : Nat} {rows : List (List T)} : T.rn g (.own sz rows) = (.own sz rows) := by simp only [T.rn]
@[simp] theorem mat_bx {n : Nat} {cs : List T} : mat (.bx cs) n = (.ptr n 0 0, [(n, .arr cs.length [cs])]) := by simp only [mat]
@[simp] theorem cell_bx {cs : List T} : T.cell (.bx cs) = false := id rfl
@[simp] theorem clean_bx {cs : List T} : T.clean (.bx cs) = true := id rfl
@[simp] theorem toI_bx {cs : List T} : T.toI (.bx cs) = .pim (toIs cs) := by simp only [T.toI]
@[simp] theorem argI_bx {s : St} {cs : List T} : argI s (.bx cs) = some (.bx cs) := by simp only [argI]
@[simp] theorem names_bx {cs : List T} : T.names (.bx cs) = [] := by simp only [T.names]
@[simp] theorem cells_bx {cs : List T} : T.cells (.bx cs) = [(.bx cs)] := id rfl
@[simp] theorem gives1_bx {cs : List T} : T.gives1 (.bx cs) = true := id rfl
@[simp] theorem gives_bx {cs : List T} : T.gives (.bx cs) = true := id rfl
@[simp] theorem noImm_bx {cs : List T} : T.noImm (.bx cs) = noIms cs := by simp only [T.noImm]
@[simp] theorem rn_bx {g : Nat → Nat} {cs : List T} : T.rn g (.bx cs) = (.bx cs) := by simp only [T.rn]
@[simp] theorem mat_ref {n : Nat} {t q m : Nat} : mat (.ref t q m) n = ((.ref t q m), []) := by simp only [mat]
@[simp] theorem cell_ref {t q m : Nat} : T.cell (.ref t q m) = true := id rfl
@[simp] theorem clean_ref {t q m : Nat} : T.clean (.ref t q m) = false := id rfl
@[simp] theorem toI_ref {t q m : Nat} : T.toI (.ref t q m) = (.ref t q m) := by simp only [T.toI]
@[simp] theorem names_ref {t q m : Nat} : T.names (.ref t q m) = [t] := by simp only [T.names]
@[simp] theorem cells_ref {t q m : Nat} : T.cells (.ref t q m) = [(.ref t q m)] := id rfl
@[simp] theorem gives1_ref {t q m : Nat} : T.gives1 (.ref t q m) = false := id rfl
@[simp] theorem gives_ref {t q m : Nat} : T.gives (.ref t q m) = false := id rfl
@[simp] theorem noImm_ref {t q m : Nat} : T.noImm (.ref t q m) = true := by simp only [T.noImm]
@[simp] theorem rn_ref {g : Nat → Nat} {t q m : Nat} : T.rn g (.ref t q m) = .ref (g t) q m := by simp only [T.rn]
@[simp] theorem mat_np {n : Nat}  : mat .np n = (.np, []) := by simp only [mat]
@[simp] theorem cell_np  : T.cell .np = true := id rfl
@[simp] theorem clean_np  : T.clean .np = true := id rfl
@[simp] theorem toI_np  : T.toI .np = .np := by simp only [T.toI]
@[simp] theorem argI_np {s : St}  : argI s .np = some .np := by simp only [argI]
@[simp] theorem names_np  : T.names .np = [] := by simp only [T.names]
@[simp] theorem cells_np  : T.cells .np = [.np] := id rfl
@[simp] theorem gives1_np  : T.gives1 .np = false := id rfl
@[simp] theorem gives_np  : T.gives .np = false := id rfl
@[simp] theorem noImm_np  : T.noImm .np = true := by simp only [T.noImm]
@[simp] theorem rn_np {g : Nat → Nat}  : T.rn g .np = .np := by simp only [T.rn]
@[simp] theorem mat_ptr {n : Nat} {t r q : Nat} : mat (.ptr t r q) n = ((.ptr t r q), []) := by simp only [mat]
@[simp] theorem cell_ptr {t r q : Nat} : T.cell (.ptr t r q) = true := id rfl
@[simp] theorem clean_ptr {t r q : Nat} : T.clean (.ptr t r q) = false := id rfl
@[simp] theorem toI_ptr {t r q : Nat} : T.toI (.ptr t r q) = (.ptr t r q) := by simp only [T.toI]
@[simp] theorem names_ptr {t r q : Nat} : T.names (.ptr t r q) = [t] := by simp only [T.names]
@[simp] theorem cells_ptr {t r q : Nat} : T.cells (.ptr t r q) = [(.ptr t r q)] := id rfl
@[simp] theorem gives1_ptr {t r q : Nat} : T.gives1 (.ptr t r q) = false := id rfl
@[simp] theorem gives_ptr {t r q : Nat} : T.gives (.ptr t r q) = false := id rfl
@[simp] theorem noImm_ptr {t r q : Nat} : T.noImm (.ptr t r q) = true := by simp only [T.noImm]
@[simp] theorem rn_ptr {g : Nat → Nat} {t r q : Nat} : T.rn g (.ptr t r q) = .ptr (g t) r q := by simp only [T.rn]
@[simp] theorem mat_pim {n : Nat} {cs : List T} : mat (.pim cs) n = ((.pim cs), []) := by simp only [mat]
@[simp] theorem cell_pim {cs : List T} : T.cell (.pim cs) = true := id rfl
@[simp] theorem clean_pim {cs : List T} : T.clean (.pim cs) = true := id rfl
@[simp] theorem toI_pim {cs : List T} : T.toI (.pim cs) = (.pim cs) := by simp only [T.toI]
@[simp] theorem argI_pim {s : St} {cs : List T} : argI s (.pim cs) = some (.pim cs) := by simp only [argI]
@[simp] theorem names_pim {cs : List T} : T.names (.pim cs) = [] := by simp only [T.names]
@[simp] theorem cells_pim {cs : List T} : T.cells (.pim cs) = [(.pim cs)] := id rfl
@[simp] theorem gives1_pim {cs : List T} : T.gives1 (.pim cs) = false := id rfl
@[simp] theorem gives_pim {cs : List T} : T.gives (.pim cs) = false := id rfl
@[simp] theorem noImm_pim {cs : List T} : T.noImm (.pim cs) = false := by simp only [T.noImm]
@[simp] theorem rn_pim {g : Nat → Nat} {cs : List T} : T.rn g (.pim cs) = (.pim cs) := by simp only [T.rn]
@[simp] theorem mat_fn {n : Nat} {f : Nat} {cs : List T} : mat (.fn f cs) n = ((.fn f cs), []) := by simp only [mat]
@[simp] theorem cell_fn {f : Nat} {cs : List T} : T.cell (.fn f cs) = true := id rfl
@[simp] theorem clean_fn {f : Nat} {cs : List T} : T.clean (.fn f cs) = false := id rfl
@[simp] theorem toI_fn {f : Nat} {cs : List T} : T.toI (.fn f cs) = (.fn f cs) := by simp only [T.toI]
@[simp] theorem names_fn {f : Nat} {cs : List T} : T.names (.fn f cs) = namess cs := by simp only [T.names]
@[simp] theorem cells_fn {f : Nat} {cs : List T} : T.cells (.fn f cs) = [(.fn f cs)] := id rfl
@[simp] theorem gives1_fn {f : Nat} {cs : List T} : T.gives1 (.fn f cs) = false := id rfl
@[simp] theorem gives_fn {f : Nat} {cs : List T} : T.gives (.fn f cs) = false := id rfl
@[simp] theorem noImm_fn {f : Nat} {cs : List T} : T.noImm (.fn f cs) = noIms cs := by simp only [T.noImm]
@[simp] theorem rn_fn {g : Nat → Nat} {f : Nat} {cs : List T} : T.rn g (.fn f cs) = .fn f (rns g cs) := by simp only [T.rn]
@[simp] theorem mat_nif {n : Nat}  : mat .nif n = (.nif, []) := by simp only [mat]
@[simp] theorem cell_nif  : T.cell .nif = true := id rfl
@[simp] theorem clean_nif  : T.clean .nif = true := id rfl
@[simp] theorem toI_nif  : T.toI .nif = .nif := by simp only [T.toI]
@[simp] theorem argI_nif {s : St}  : argI s .nif = some .nif := by simp only [argI]
@[simp] theorem names_nif  : T.names .nif = [] := by simp only [T.names]
@[simp] theorem cells_nif  : T.cells .nif = [.nif] := id rfl
@[simp] theorem gives1_nif  : T.gives1 .nif = false := id rfl
@[simp] theorem gives_nif  : T.gives .nif = false := id rfl
@[simp] theorem noImm_nif  : T.noImm .nif = true := by simp only [T.noImm]
@[simp] theorem rn_nif {g : Nat → Nat}  : T.rn g .nif = .nif := by simp only [T.rn]
@[simp] theorem mat_nfn {n : Nat}  : mat .nfn n = (.nfn, []) := by simp only [mat]
@[simp] theorem cell_nfn  : T.cell .nfn = true := id rfl
@[simp] theorem clean_nfn  : T.clean .nfn = true := id rfl
@[simp] theorem toI_nfn  : T.toI .nfn = .nfn := by simp only [T.toI]
@[simp] theorem argI_nfn {s : St}  : argI s .nfn = some .nfn := by simp only [argI]
@[simp] theorem names_nfn  : T.names .nfn = [] := by simp only [T.names]
@[simp] theorem cells_nfn  : T.cells .nfn = [.nfn] := id rfl
@[simp] theorem gives1_nfn  : T.gives1 .nfn = false := id rfl
@[simp] theorem gives_nfn  : T.gives .nfn = false := id rfl
@[simp] theorem noImm_nfn  : T.noImm .nfn = true := by simp only [T.noImm]
@[simp] theorem rn_nfn {g : Nat → Nat}  : T.rn g .nfn = .nfn := by simp only [T.rn]
@[simp] theorem mat_ifc {n : Nat} {t : Nat} {v : T} : mat (.ifc t v) n = ((.ifc t v), []) := by simp only [mat]
@[simp] theorem cell_ifc {t : Nat} {v : T} : T.cell (.ifc t v) = true := id rfl
@[simp] theorem clean_ifc {t : Nat} {v : T} : T.clean (.ifc t v) = false := id rfl
@[simp] theorem toI_ifc {t : Nat} {v : T} : T.toI (.ifc t v) = (.ifc t v) := by simp only [T.toI]
@[simp] theorem names_ifc {t : Nat} {v : T} : T.names (.ifc t v) = v.names := by simp only [T.names]
@[simp] theorem cells_ifc {t : Nat} {v : T} : T.cells (.ifc t v) = [(.ifc t v)] := id rfl
@[simp] theorem gives1_ifc {t : Nat} {v : T} : T.gives1 (.ifc t v) = false := id rfl
@[simp] theorem gives_ifc {t : Nat} {v : T} : T.gives (.ifc t v) = false := id rfl
@[simp] theorem noImm_ifc {t : Nat} {v : T} : T.noImm (.ifc t v) = v.noImm := by simp only [T.noImm]
@[simp] theorem rn_ifc {g : Nat → Nat} {t : Nat} {v : T} : T.rn g (.ifc t v) = .ifc t (v.rn g) := by simp only [T.rn]
@[simp] theorem mat_agg {n : Nat} {cs : List T} : mat (.agg cs) n = (.agg (mats cs n).1, (mats cs n).2) := by simp only [mat]
@[simp] theorem cell_agg {cs : List T} : T.cell (.agg cs) = false := id rfl
@[simp] theorem clean_agg {cs : List T} : T.clean (.agg cs) = false := id rfl
@[simp] theorem toI_agg {cs : List T} : T.toI (.agg cs) = .agg (toIs cs) := by simp only [T.toI]
@[simp] theorem names_agg {cs : List T} : T.names (.agg cs) = namess cs := by simp only [T.names]
@[simp] theorem cells_agg {cs : List T} : T.cells (.agg cs) = cs := id rfl
@[simp] theorem gives1_agg {cs : List T} : T.gives1 (.agg cs) = false := id rfl
@[simp] theorem gives_agg {cs : List T} : T.gives (.agg cs) = cs.any T.gives1 := id rfl
@[simp] theorem noImm_agg {cs : List T} : T.noImm (.agg cs) = noIms cs := by simp only [T.noImm]
@[simp] theorem rn_agg {g : Nat → Nat} {cs : List T} : T.rn g (.agg cs) = .agg (rns g cs) := by simp only [T.rn]
@[simp] theorem mat_tup {n : Nat} {cs : List T} : mat (.tup cs) n = (.tup (mats cs n).1, (mats cs n).2) := by simp only [mat]
@[simp] theorem cell_tup {cs : List T} : T.cell (.tup cs) = false := id rfl
@[simp] theorem clean_tup {cs : List T} : T.clean (.tup cs) = false := id rfl
@[simp] theorem toI_tup {cs : List T} : T.toI (.tup cs) = .tup (toIs cs) := by simp only [T.toI]
@[simp] theorem argI_tup {s : St} {cs : List T} : argI s (.tup cs) = none := by simp only [argI]
@[simp] theorem names_tup {cs : List T} : T.names (.tup cs) = namess cs := by simp only [T.names]
@[simp] theorem cells_tup {cs : List T} : T.cells (.tup cs) = [(.tup cs)] := id rfl
@[simp] theorem gives1_tup {cs : List T} : T.gives1 (.tup cs) = false := id rfl
@[simp] theorem gives_tup {cs : List T} : T.gives (.tup cs) = false := id rfl
@[simp] theorem noImm_tup {cs : List T} : T.noImm (.tup cs) = noIms cs := by simp only [T.noImm]
@[simp] theorem rn_tup {g : Nat → Nat} {cs : List T} : T.rn g (.tup cs) = .tup (rns g cs) := by simp only [T.rn]
@[simp] theorem mat_nmp {n : Nat}  : mat .nmp n = (.nmp, []) := by simp only [mat]
@[simp] theorem cell_nmp  : T.cell .nmp = true := id rfl
@[simp] theorem clean_nmp  : T.clean .nmp = true := id rfl
@[simp] theorem toI_nmp  : T.toI .nmp = .nmp := by simp only [T.toI]
@[simp] theorem argI_nmp {s : St}  : argI s .nmp = some .nmp := by simp only [argI]
@[simp] theorem names_nmp  : T.names .nmp = [] := by simp only [T.names]
@[simp] theorem cells_nmp  : T.cells .nmp = [.nmp] := id rfl
@[simp] theorem gives1_nmp  : T.gives1 .nmp = false := id rfl
@[simp] theorem gives_nmp  : T.gives .nmp = false := id rfl
@[simp] theorem noImm_nmp  : T.noImm .nmp = true := by simp only [T.noImm]
@[simp] theorem rn_nmp {g : Nat → Nat}  : T.rn g .nmp = .nmp := by simp only [T.rn]
@[simp] theorem mat_mp {n : Nat} {t : Nat} : mat (.mp t) n = ((.mp t), []) := by simp only [mat]
@[simp] theorem cell_mp {t : Nat} : T.cell (.mp t) = true := id rfl
@[simp] theorem clean_mp {t : Nat} : T.clean (.mp t) = false := id rfl
@[simp] theorem toI_mp {t : Nat} : T.toI (.mp t) = (.mp t) := by simp only [T.toI]
@[simp] theorem argI_mp {s : St} {t : Nat} : argI s (.mp t) = none := by simp only [argI]
@[simp] theorem names_mp {t : Nat} : T.names (.mp t) = [t] := by simp only [T.names]
@[simp] theorem cells_mp {t : Nat} : T.cells (.mp t) = [(.mp t)] := id rfl
@[simp] theorem gives1_mp {t : Nat} : T.gives1 (.mp t) = false := id rfl
@[simp] theorem gives_mp {t : Nat} : T.gives (.mp t) = false := id rfl
@[simp] theorem noImm_mp {t : Nat} : T.noImm (.mp t) = true := by simp only [T.noImm]
@[simp] theorem rn_mp {g : Nat → Nat} {t : Nat} : T.rn g (.mp t) = .mp (g t) := by simp only [T.rn]
variable {P : Program} {M : List (Nat × CM)} {n : Nat} {s s' : St} {Q : Exit → St → Prop} {K : T → Δ → List Nat → Prop}
/-- What must hold, and what is to come. -/
def need (p q : Prop) : Prop := p ∧ q
@[simp] theorem need_t {q : Prop} : need True q = q := by simp [need]
@[congr] theorem cg_need {p p' q : Prop} (h : p = p') : need p q = need p' q := by rw [h]
theorem need_mk {p q : Prop} (h : p) (h' : q) : need p q := ⟨h, h'⟩
/-! ### lists: not by 'rfl', so that rewriting by congruence takes note of them -/
@[simp high] theorem nr_get0 {α : Type} (a : α) (l : List α) : (a :: l)[0]? = some a := id rfl
@[simp high] theorem nr_gets {α : Type} (a : α) (l : List α) (i : Nat) : (a :: l)[i + 1]? = l[i]? := id rfl
@[simp high] theorem nr_drop0 {α : Type} (l : List α) : l.drop 0 = l := id rfl
@[simp high] theorem nr_drops {α : Type} (a : α) (l : List α) (i : Nat) : (a :: l).drop (i + 1) = l.drop i := id rfl
@[simp high] theorem nr_take0 {α : Type} (l : List α) : l.take 0 = [] := id rfl
@[simp high] theorem nr_takes {α : Type} (a : α) (l : List α) (i : Nat) : (a :: l).take (i + 1) = a :: l.take i := id rfl
@[simp high] theorem nr_taken {α : Type} (i : Nat) : ([] : List α).take i = [] := by cases i <;> exact id rfl
@[simp high] theorem nr_dropn {α : Type} (i : Nat) : ([] : List α).drop i = [] := by cases i <;> exact id rfl
@[simp high] theorem nr_set0 {α : Type} (a b : α) (l : List α) : (a :: l).set 0 b = b :: l := id rfl
@[simp high] theorem nr_sets {α : Type} (a b : α) (l : List α) (i : Nat) : (a :: l).set (i + 1) b = a :: l.set i b := id rfl
@[simp high] theorem nr_app {α : Type} (a : α) (l l' : List α) : (a :: l) ++ l' = a :: (l ++ l') := id rfl
@[simp high] theorem nr_nila {α : Type} (l : List α) : [] ++ l = l := id rfl
@[simp high] theorem nr_mapn {α β : Type} (f : α → β) : ([] : List α).map f = [] := id rfl
@[simp high] theorem nr_mapc {α β : Type} (f : α → β) (a : α) (l : List α) : (a :: l).map f = f a :: l.map f := id rfl
@[simp high] theorem nr_mats0 (n : Nat) : mats [] n = ([], []) := by rw [mats]
@[simp high] theorem nr_matss (t : T) (ts : List T) (n : Nat) : mats (t :: ts) n = ((mat t n).1 :: (mats ts (n + (mat t n).2.length)).1, (mat t n).2 ++ (mats ts (n + (mat t n).2.length)).2) := by rw [mats]
@[simp high] theorem nr_hget (j k : Nat) (v : Blk) (l : List (Nat × Blk)) : hget ((j, v) :: l) k = if j = k then some v else hget l k := by rw [hget]
@[simp high] theorem nr_tget (j k : Nat) (v : T) (l : List (Nat × T)) : tget ((j, v) :: l) k = if j = k then v else tget l k := by rw [tget]
@[simp high] theorem nr_hap0 (h : List (Nat × Blk)) : hap h [] = h := by rw [hap]
@[simp high] theorem nr_hap1 (h : List (Nat × Blk)) (t : Nat) (x : Blk) (d : Δ) : hap h ((t, some x) :: d) = hap (hset h t x) d := by rw [hap]
@[simp high] theorem nr_hap2 (h : List (Nat × Blk)) (t : Nat) (d : Δ) : hap h ((t, none) :: d) = hap (hdel h t) d := by rw [hap]
@[simp high] theorem nr_hset0 (k : Nat) (x : Blk) : hset [] k x = [(k, x)] := by rw [hset]
@[simp high] theorem nr_hset (j k : Nat) (v x : Blk) (l : List (Nat × Blk)) : hset ((j, v) :: l) k x = if j = k then (j, x) :: hdel l k else (j, v) :: hset l k x := by rw [hset]
@[simp high] theorem nr_hdel0 (k : Nat) : hdel [] k = [] := by rw [hdel]
@[simp high] theorem nr_hdel (j k : Nat) (v : Blk) (l : List (Nat × Blk)) : hdel ((j, v) :: l) k = if j = k then hdel l k else (j, v) :: hdel l k := by rw [hdel]
@[simp high] theorem nr_hget0 (k : Nat) : hget [] k = none := by rw [hget]
@[simp high] theorem nr_tget0 (k : Nat) : tget [] k = .dead := by rw [tget]
@[simp high] theorem nr_rows_nl (s : St) : rowsAt s .nl = some ([], []) := by rw [rowsAt]
@[simp high] theorem nr_rows_imm (s : St) (rows : List (List T)) : rowsAt s (.imm rows) = some (rows, []) := by rw [rowsAt]
@[simp] theorem nr_rows_ref (s : St) (t o n : Nat) : rowsAt s (.ref t o n) = match hget s.hp t with
    | some (.arr _ rows) => if o + n ≤ rows.length then some ((rows.drop o).take n, [t]) else none
    | _ => none := id rfl
/-! ### helpers that look at one thing -/
def onArr (b : Option Blk) (k : Nat → List (List T) → Prop) : Prop := match b with | some (.arr sz rows) => k sz rows | _ => False
@[simp] theorem onArr_some {sz : Nat} {rows : List (List T)} {k : Nat → List (List T) → Prop} : onArr (some (.arr sz rows)) k = k sz rows := id rfl
def onSome {α : Type} (o : Option α) (k : α → Prop) : Prop := match o with | some x => k x | none => False
@[simp] theorem onSome_some {α : Type} {x : α} {k : α → Prop} : onSome (some x) k = k x := id rfl
def pickK (c a b : T) (K : T → Δ → List Nat → Prop) : Prop := match c with | .b x => if x = true then K a [] [] else K b [] [] | _ => False
@[simp] theorem pickK_t {a b : T} : pickK (.b true) a b K = K a [] [] := id rfl
@[simp] theorem pickK_f {a b : T} : pickK (.b false) a b K = K b [] [] := id rfl
def one (x : List T × List (Nat × Blk)) (k : T → List (Nat × Blk) → Prop) : Prop := match x.1 with | [v] => k v x.2 | _ => False
@[simp] theorem one_mk {v : T} {l : List (Nat × Blk)} {k : T → List (Nat × Blk) → Prop} : one ([v], l) k = k v l := id rfl
def loadR (n t sz : Nat) (rows : List (List T)) (r : Nat) (row : List T) (o : Nat) (m : Option Nat) (K : T → Δ → List Nat → Prop) : Prop := match m with
  | some k => o + k ≤ row.length ∧ K (.agg (mats ((row.drop o).take k) n).1) (drawn t sz rows r row o k (mats ((row.drop o).take k) n)) [t]
  | none => o + 1 ≤ row.length ∧ one (mats ((row.drop o).take 1) n) fun v l => K v (if l.isEmpty = true then [] else (t, some (.arr sz (rows.set r (row.take o ++ [v] ++ row.drop (o + 1))))) :: news l) [t]
@[simp] theorem loadR_some {t sz r o k : Nat} {rows : List (List T)} {row : List T} : loadR n t sz rows r row o (some k) K = (need (o + k ≤ row.length) (K (.agg (mats ((row.drop o).take k) n).1) (drawn t sz rows r row o k (mats ((row.drop o).take k) n)) [t])) := id rfl
@[simp] theorem loadR_none {t sz r o : Nat} {rows : List (List T)} {row : List T} : loadR n t sz rows r row o none K = (need (o + 1 ≤ row.length) (one (mats ((row.drop o).take 1) n) fun v l => K v (if l.isEmpty = true then [] else (t, some (.arr sz (rows.set r (row.take o ++ [v] ++ row.drop (o + 1))))) :: news l) [t])) := id rfl
def headK (cs : List T) (k : T → Prop) : Prop := match cs with | c :: _ => k c | [] => False
@[simp] theorem headK_cons {c : T} {cs : List T} {k : T → Prop} : headK (c :: cs) k = k c := id rfl
def loadK (s : St) (n : Nat) (m : Option Nat) (v : T) (K : T → Δ → List Nat → Prop) : Prop := match v with
  | .ptr t r o => onArr (hget s.hp t) fun sz rows => onSome rows[r]? fun row => loadR n t sz rows r row o m K
  | .pim cs => match m with
    | some k => k ≤ cs.length ∧ K (.agg (cs.take k)) [] []
    | none => headK cs fun c => K c [] []
  | _ => False
@[simp] theorem loadK_ptr {t r o : Nat} {m : Option Nat} : loadK s n m (.ptr t r o) K = onArr (hget s.hp t) fun sz rows => onSome rows[r]? fun row => loadR n t sz rows r row o m K := id rfl
@[simp] theorem loadK_pims {cs : List T} {k : Nat} : loadK s n (some k) (.pim cs) K = (need (k ≤ cs.length) (K (.agg (cs.take k)) [] [])) := id rfl
@[simp] theorem loadK_pim {cs : List T} : loadK s n none (.pim cs) K = headK cs fun c => K c [] [] := id rfl
@[simp] theorem st_load {m : Option Nat} {x : X} : stepK P s n (.load m x) K = loadK s n m (x.ev s) K := by
  simp only [stepK]
  generalize x.ev s = v
  cases v <;> simp only [loadK]
  · rename_i t r o
    generalize hget s.hp t = b
    cases b with
    | none => rfl
    | some b =>
      cases b with
      | mb es => rfl
      | arr sz rows =>
        simp only [onArr]
        generalize rows[r]? = ro
        cases ro with
        | none => rfl
        | some row =>
          simp only [onSome]
          cases m with
          | some k => rfl
          | none =>
            simp only [loadR, one, Option.getD_none]
            generalize hx : mats ((row.drop o).take 1) n = xx
            obtain ⟨vs, l⟩ := xx
            match vs with
            | [] => rfl
            | [v] => simp only [drawn]
            | a :: b :: c => rfl
  · rename_i cs
    cases m with
    | some k => rfl
    | none =>
      cases cs with
      | nil => simp [headK]
      | cons c cs => simp [headK]
def mvK (v : T) (K : T → Δ → List Nat → Prop) : Prop := K v [] []
theorem mvK_v {v : T} : mvK v K = K v [] [] := id rfl
@[congr] theorem cg_mvK {v v' : T} (h : v = v') : mvK v K = mvK v' K := by rw [h]
@[simp] theorem st_mv {x : X} : stepK P s n (.mv x) K = mvK (x.ev s) K := id rfl
@[simp] theorem st_pick {c a b : X} : stepK P s n (.pick c a b) K = pickK (c.ev s) (a.ev s) (b.ev s) K := by
  simp only [stepK]
  generalize c.ev s = v
  cases v <;> rfl
@[simp] theorem st_alloc {zs : List T} : stepK P s n (.alloc zs) K = K (.ptr n 0 0) [(n, some (.arr zs.length [zs]))] [] := id rfl
def boxK (n sz : Nat) (v : T) (K : T → Δ → List Nat → Prop) : Prop := v.cells.length = sz ∧ (v.cells.all T.cell) = true ∧ K (.ptr n 0 0) [(n, some (.arr sz [v.cells]))] []
theorem boxK_v {sz : Nat} {v : T} : boxK n sz v K = need (v.cells.length = sz) (need ((v.cells.all T.cell) = true) (K (.ptr n 0 0) [(n, some (.arr sz [v.cells]))] [])) := id rfl
@[congr] theorem cg_boxK {i i' sz : Nat} {v v' : T} (hi : i = i') (h : v = v') : boxK i sz v K = boxK i' sz v' K := by rw [hi, h]
@[simp] theorem st_box {sz : Nat} {x : X} : stepK P s n (.box sz x) K = boxK n sz (x.ev s) K := id rfl
@[simp] theorem st_build {zs : List T} {ps : List (Nat × Nat × X)} : stepK P s n (.build zs ps) K = onSome (parts s zs ps) fun cs => K (.agg cs) [] [] := by
  simp only [stepK]
  cases parts s zs ps <;> rfl
def mkslK (n sz : Nat) (vs : List T) (K : T → Δ → List Nat → Prop) : Prop := (∀ v ∈ vs, v.cells.length = sz ∧ (v.cells.all T.cell) = true) ∧ K (.ref n 0 vs.length) [(n, some (.arr sz (vs.map T.cells)))] []
theorem mkslK_v {sz : Nat} {vs : List T} : mkslK n sz vs K = need (∀ v ∈ vs, v.cells.length = sz ∧ (v.cells.all T.cell) = true) (K (.ref n 0 vs.length) [(n, some (.arr sz (vs.map T.cells)))] []) := id rfl
@[congr] theorem cg_mkslK {i i' sz : Nat} {vs vs' : List T} (hi : i = i') (h : vs = vs') : mkslK i sz vs K = mkslK i' sz vs' K := by rw [hi, h]
@[simp] theorem st_mksl {sz : Nat} {ps : List X} : stepK P s n (.mksl sz ps) K = mkslK n sz (ps.map (·.ev s)) K := by
  simp only [stepK, mkslK, List.length_map, List.map_map, List.mem_map, forall_exists_index, and_imp, forall_apply_eq_imp_iff₂]
  rfl
def storeK (s : St) (m : Option Nat) (v u : T) (K : T → Δ → List Nat → Prop) : Prop := match v with
  | .ptr t r o => onArr (hget s.hp t) fun sz rows => onSome rows[r]? fun row => u.cells.length = m.getD 1 ∧ o + m.getD 1 ≤ row.length ∧ (u.cells.all T.cell) = true ∧ K .dead [(t, some (.arr sz (rows.set r (row.take o ++ u.cells ++ row.drop (o + m.getD 1)))))] [t]
  | _ => False
@[simp] theorem storeK_ptr {t r o : Nat} {m : Option Nat} {u : T} : storeK s m (.ptr t r o) u K = onArr (hget s.hp t) fun sz rows => onSome rows[r]? fun row => need (u.cells.length = m.getD 1) (need (o + m.getD 1 ≤ row.length) (need ((u.cells.all T.cell) = true) (K .dead [(t, some (.arr sz (rows.set r (row.take o ++ u.cells ++ row.drop (o + m.getD 1)))))] [t]))) := id rfl
@[simp] theorem st_store {m : Option Nat} {x v : X} : stepK P s n (.store m x v) K = storeK s m (x.ev s) (v.ev s) K := by
  simp only [stepK]
  generalize x.ev s = y
  cases y <;> simp only [storeK]
  rename_i t r o
  generalize hget s.hp t = b
  cases b with
  | none => rfl
  | some b =>
    cases b with
    | mb es => rfl
    | arr sz rows =>
      simp only [onArr]
      cases rows[r]? <;> rfl
def faK (off : Nat) (v : T) (K : T → Δ → List Nat → Prop) : Prop := match v with
  | .ptr t r o => K (.ptr t r (o + off)) [] []
  | .pim cs => off ≤ cs.length ∧ K (.pim (cs.drop off)) [] []
  | _ => False
@[simp] theorem faK_ptr {off t r o : Nat} : faK off (.ptr t r o) K = K (.ptr t r (o + off)) [] [] := id rfl
@[simp] theorem faK_pim {off : Nat} {cs : List T} : faK off (.pim cs) K = (need (off ≤ cs.length) (K (.pim (cs.drop off)) [] [])) := id rfl
@[simp] theorem st_fa {off : Nat} {x : X} : stepK P s n (.fa off x) K = faK off (x.ev s) K := by
  simp only [stepK]
  generalize x.ev s = v
  cases v <;> rfl
def fldK (off : Nat) (m : Option Nat) (v : T) (K : T → Δ → List Nat → Prop) : Prop := match v with
  | .agg cs => match m with
    | some k => off + k ≤ cs.length ∧ K (.agg ((cs.drop off).take k)) [] []
    | none => headK (cs.drop off) fun c => K c [] []
  | _ => False
@[simp] theorem fldK_s {off k : Nat} {cs : List T} : fldK off (some k) (.agg cs) K = (need (off + k ≤ cs.length) (K (.agg ((cs.drop off).take k)) [] [])) := id rfl
@[simp] theorem fldK_1 {off : Nat} {cs : List T} : fldK off none (.agg cs) K = headK (cs.drop off) fun c => K c [] [] := id rfl
@[simp] theorem st_fld {off : Nat} {m : Option Nat} {x : X} : stepK P s n (.fld off m x) K = fldK off m (x.ev s) K := by
  simp only [stepK]
  generalize x.ev s = v
  cases v <;> simp only [fldK]
  rename_i cs
  cases m with
  | some k => rfl
  | none =>
    simp only [Option.getD_none]
    cases h : cs.drop off with
    | nil => simp [headK]
    | cons c l =>
      have : off + 1 ≤ cs.length := by
        rcases Nat.lt_or_ge off cs.length with h1 | h1
        · exact h1
        · rw [List.drop_of_length_le h1] at h; cases h
      simp [headK, this]
def iaK (s : St) (sz : Nat) (v i : T) (K : T → Δ → List Nat → Prop) : Prop := match v, i with
  | .ref t o len, .i _ k => (0 ≤ k ∧ k < len) ∧ onArr (hget s.hp t) fun sz' _ => sz' = sz ∧ K (.ptr t (o + k.toNat) 0) [] [t]
  | .imm rows, .i _ k => 0 ≤ k ∧ onSome rows[k.toNat]? fun row => row.length = sz ∧ K (.pim row) [] []
  | _, _ => False
@[simp] theorem iaK_ref {sz t o len : Nat} {q : IntKind} {k : Int} : iaK s sz (.ref t o len) (.i q k) K = (need ((0 ≤ k ∧ k < len)) (onArr (hget s.hp t) fun sz' _ => need (sz' = sz) (K (.ptr t (o + k.toNat) 0) [] [t]))) := id rfl
@[simp] theorem iaK_imm {sz : Nat} {rows : List (List T)} {q : IntKind} {k : Int} : iaK s sz (.imm rows) (.i q k) K = (need (0 ≤ k) (onSome rows[k.toNat]? fun row => need (row.length = sz) (K (.pim row) [] []))) := id rfl
@[simp] theorem st_ia {sz : Nat} {x i : X} : stepK P s n (.ia sz x i) K = iaK s sz (x.ev s) (i.ev s) K := by
  simp only [stepK]
  generalize x.ev s = v
  generalize i.ev s = u
  cases v <;> cases u <;> first
    | rfl
    | (simp only [iaK]
       rename_i t o len q k
       generalize hget s.hp t = b
       cases b with
       | none => rfl
       | some b => cases b <;> rfl)
    | (simp only [iaK]
       rename_i rows q k
       cases rows[k.toNat]? <;> rfl)
def ixK (v i : T) (K : T → Δ → List Nat → Prop) : Prop := match v, i with
  | .s l, .i _ k => 0 ≤ k ∧ onSome l[k.toNat]? fun c => K (.i .u8 (c.toNat : Int)) [] []
  | _, _ => False
@[simp] theorem ixK_s {l : List UInt8} {q : IntKind} {k : Int} : ixK (.s l) (.i q k) K = (need (0 ≤ k) (onSome l[k.toNat]? fun c => K (.i .u8 (c.toNat : Int)) [] [])) := id rfl
@[simp] theorem st_ix {x i : X} : stepK P s n (.ix x i) K = ixK (x.ev s) (i.ev s) K := by
  simp only [stepK]
  generalize x.ev s = v
  generalize i.ev s = u
  cases v <;> cases u <;> first
    | rfl
    | (simp only [ixK]
       rename_i l q k
       cases l[k.toNat]? <;> rfl)
@[simp] theorem st_bin {op : BinOp} {x y : X} : stepK P s n (.bin op x y) K = binK op (x.ev s) (y.ev s) fun v => K v [] [] := id rfl
@[simp] theorem st_beq {op : BinOp} {x y : X} : stepK P s n (.beq op x y) K = beqK op (x.ev s) (y.ev s) fun v => K v [] [] := id rfl
@[simp] theorem st_peq {op : BinOp} {x y : X} : stepK P s n (.peq op x y) K = peqK op (x.ev s) (y.ev s) fun v => K v [] [] := id rfl
def unK (op : UnOp) (v : T) (K : T → Δ → List Nat → Prop) : Prop := match op, v with
  | .not, .b y => K (.b !y) [] []
  | .neg, .i k a => K (.i k (k.wrap (0 - a))) [] []
  | _, _ => False
@[simp] theorem unK_not {y : Bool} : unK .not (.b y) K = K (.b !y) [] [] := id rfl
@[simp] theorem unK_neg {k : IntKind} {a : Int} : unK .neg (.i k a) K = K (.i k (k.wrap (0 - a))) [] [] := id rfl
@[simp] theorem st_un {op : UnOp} {x : X} : stepK P s n (.un op x) K = unK op (x.ev s) K := by
  simp only [stepK]
  generalize x.ev s = v
  cases op <;> cases v <;> rfl
def convK (k : IntKind) (v : T) (K : T → Δ → List Nat → Prop) : Prop := match v with | .i _ a => K (.i k (k.wrap a)) [] [] | _ => False
@[simp] theorem convK_i {k q : IntKind} {a : Int} : convK k (.i q a) K = K (.i k (k.wrap a)) [] [] := id rfl
@[simp] theorem st_conv {k : IntKind} {x : X} : stepK P s n (.conv k x) K = convK k (x.ev s) K := by
  simp only [stepK]
  generalize x.ev s = v
  cases v <;> rfl
def strK (v : T) (K : T → Δ → List Nat → Prop) : Prop := match v with | .s l => K (.s l) [] [] | _ => False
@[simp] theorem strK_s {l : List UInt8} : strK (.s l) K = K (.s l) [] [] := id rfl
@[simp] theorem st_strid {x : X} : stepK P s n (.strid x) K = strK (x.ev s) K := by
  simp only [stepK]
  generalize x.ev s = v
  cases v <;> rfl
@[simp] theorem st_tostr {x : X} : stepK P s n (.tostr x) K = onSome (rowsAt s (x.ev s)) fun p => ∃ l : List UInt8, p.1 = l.map (fun c => [.i .u8 (c.toNat : Int)]) ∧ K (.s l) [] p.2 := by
  simp only [stepK]
  cases rowsAt s (x.ev s) with
  | none => rfl
  | some p => rfl
def slsK (v : T) (lo hi : Option T) (K : T → Δ → List Nat → Prop) : Prop := match v with
  | .s l => bnd l.length lo hi fun a b => K (.s ((l.drop a).take (b - a))) [] []
  | _ => False
@[simp] theorem slsK_s {l : List UInt8} {lo hi : Option T} : slsK (.s l) lo hi K = bnd l.length lo hi fun a b => K (.s ((l.drop a).take (b - a))) [] [] := id rfl
@[simp] theorem st_sls {x : X} {lo hi : Option X} : stepK P s n (.sls x lo hi) K = slsK (x.ev s) (lo.map (·.ev s)) (hi.map (·.ev s)) K := by
  simp only [stepK]
  generalize x.ev s = v
  cases v <;> rfl
def slK (s : St) (sz : Nat) (v : T) (lo hi : Option T) (K : T → Δ → List Nat → Prop) : Prop := match v with
  | .imm rows => bnd rows.length lo hi fun a b => (∀ r ∈ rows, r.length = sz) ∧ K (.imm ((rows.drop a).take (b - a))) [] []
  | .ref t o m => bnd m lo hi fun a b => onArr (hget s.hp t) fun sz' _ => sz' = sz ∧ K (.ref t (o + a) (b - a)) [] [t]
  | .nl => bnd 0 lo hi fun a b => K .nl [] []
  | _ => False
@[simp] theorem slK_imm {sz : Nat} {rows : List (List T)} {lo hi : Option T} : slK s sz (.imm rows) lo hi K = bnd rows.length lo hi fun a b => need ((∀ r ∈ rows, r.length = sz)) (K (.imm ((rows.drop a).take (b - a))) [] []) := id rfl
@[simp] theorem slK_ref {sz t o m : Nat} {lo hi : Option T} : slK s sz (.ref t o m) lo hi K = bnd m lo hi fun a b => onArr (hget s.hp t) fun sz' _ => need (sz' = sz) (K (.ref t (o + a) (b - a)) [] [t]) := id rfl
@[simp] theorem slK_nl {sz : Nat} {lo hi : Option T} : slK s sz .nl lo hi K = bnd 0 lo hi fun a b => K .nl [] [] := id rfl
@[simp] theorem st_sl {sz : Nat} {x : X} {lo hi : Option X} : stepK P s n (.sl sz x lo hi) K = slK s sz (x.ev s) (lo.map (·.ev s)) (hi.map (·.ev s)) K := by
  simp only [stepK]
  generalize x.ev s = v
  cases v <;> first
    | rfl
    | (simp only [slK]
       congr 1
       funext a b
       rename_i t o m
       generalize hget s.hp t = b
       cases b with
       | none => rfl
       | some b => cases b <;> rfl)
def lenK (v : T) (K : T → Δ → List Nat → Prop) : Prop := match v with
  | .imm rows => K (.i .i64 (rows.length : Int)) [] []
  | .ref _ _ m => K (.i .i64 (m : Int)) [] []
  | .nl => K (.i .i64 0) [] []
  | .s l => K (.i .i64 (l.length : Int)) [] []
  | _ => False
@[simp] theorem lenK_imm {rows : List (List T)} : lenK (.imm rows) K = K (.i .i64 (rows.length : Int)) [] [] := id rfl
@[simp] theorem lenK_ref {t o m : Nat} : lenK (.ref t o m) K = K (.i .i64 (m : Int)) [] [] := id rfl
@[simp] theorem lenK_nl : lenK .nl K = K (.i .i64 0) [] [] := id rfl
@[simp] theorem lenK_s {l : List UInt8} : lenK (.s l) K = K (.i .i64 (l.length : Int)) [] [] := id rfl
def lenV (str : Bool) (v : T) (K : T → Δ → List Nat → Prop) : Prop := match str, v with
  | true, .s l => lenK (.s l) K
  | false, .s _ => False
  | true, _ => False
  | false, v => lenK v K
@[simp] theorem lenV_s {l : List UInt8} : lenV true (.s l) K = K (.i .i64 (l.length : Int)) [] [] := id rfl
@[simp] theorem lenV_imm {rows : List (List T)} : lenV false (.imm rows) K = K (.i .i64 (rows.length : Int)) [] [] := id rfl
@[simp] theorem lenV_ref {t o m : Nat} : lenV false (.ref t o m) K = K (.i .i64 (m : Int)) [] [] := id rfl
@[simp] theorem lenV_nl : lenV false .nl K = K (.i .i64 0) [] [] := id rfl
@[simp] theorem st_lens {x : X} : stepK P s n (.lens x) K = lenV true (x.ev s) K := by
  simp only [stepK]
  generalize x.ev s = v
  cases v <;> rfl
@[simp] theorem st_len {x : X} : stepK P s n (.len x) K = lenV false (x.ev s) K := by
  simp only [stepK]
  generalize x.ev s = v
  cases v <;> rfl
def appK (s : St) (n sz bytes : Nat) (v : T) (p : List (List T) × List Nat) (K : T → Δ → List Nat → Prop) : Prop := match v with
  | .nl => p.1.length * bytes ≤ 35184372088832 ∧ K (.ref n 0 p.1.length) [(n, some (.arr sz p.1))] p.2
  | .ref t o m => onArr (hget s.hp t) fun sz' rows => sz' = sz ∧ o + m ≤ rows.length ∧ t ∉ p.2 ∧ (m + p.1.length) * bytes ≤ 35184372088832 ∧ K (.ref n 0 (m + p.1.length)) [(t, none), (n, some (.arr sz ((rows.drop o).take m ++ p.1)))] (t :: p.2)
  | _ => False
@[simp] theorem appK_nl {sz bytes : Nat} {p : List (List T) × List Nat} : appK s n sz bytes .nl p K = (need (p.1.length * bytes ≤ 35184372088832) (K (.ref n 0 p.1.length) [(n, some (.arr sz p.1))] p.2)) := id rfl
@[simp] theorem appK_ref {sz bytes t o m : Nat} {p : List (List T) × List Nat} : appK s n sz bytes (.ref t o m) p K = onArr (hget s.hp t) fun sz' rows => need (sz' = sz) (need (o + m ≤ rows.length) (need (t ∉ p.2) (need ((m + p.1.length) * bytes ≤ 35184372088832) (K (.ref n 0 (m + p.1.length)) [(t, none), (n, some (.arr sz ((rows.drop o).take m ++ p.1)))] (t :: p.2))))) := id rfl
@[simp] theorem st_app {sz bytes : Nat} {x y : X} : stepK P s n (.app sz bytes x y) K = onSome (rowsAt s (y.ev s)) fun p => need (∀ r ∈ p.1, r.length = sz ∧ r.all T.cell = true) (appK s n sz bytes (x.ev s) p K) := by
  simp only [stepK]
  cases rowsAt s (y.ev s) with
  | none => rfl
  | some p =>
    obtain ⟨src, ts⟩ := p
    simp only [onSome]
    generalize x.ev s = v
    cases v <;> first
      | rfl
      | (simp only [appK]
         rename_i t o m
         generalize hget s.hp t = b
         cases b with
         | none => rfl
         | some b => cases b <;> rfl)
def makeK (n sz bytes : Nat) (zs : List T) (v : T) (K : T → Δ → List Nat → Prop) : Prop := match v with
  | .i .i64 k => 0 ≤ k ∧ k ≤ 35184372088832 ∧ k * bytes ≤ 35184372088832 ∧ K (.ref n 0 k.toNat) [(n, some (.arr sz (List.replicate k.toNat zs)))] []
  | _ => False
@[simp] theorem makeK_i {sz bytes : Nat} {zs : List T} {k : Int} : makeK n sz bytes zs (.i .i64 k) K = (need (0 ≤ k) (need (k ≤ 35184372088832) (need (k * bytes ≤ 35184372088832) (K (.ref n 0 k.toNat) [(n, some (.arr sz (List.replicate k.toNat zs)))] [])))) := id rfl
@[simp] theorem st_make {sz bytes : Nat} {zs : List T} {x : X} : stepK P s n (.make sz bytes zs x) K = makeK n sz bytes zs (x.ev s) K := by
  simp only [stepK]
  generalize x.ev s = v
  cases v <;> first
    | rfl
    | (rename_i k m; cases k <;> rfl)
/-- What is to come, out of the rewriting's sight. -/
class Hold (α : Type) where
  k : α
def callH (P : Program) (s : St) (n : Nat) (mu : List Nat) (q : RK) (f : Nat) (as : List T) [h : Hold (T → Δ → List Nat → Prop)] : Prop := callK P s n mu q f as h.k
def loopH (P : Program) (M : List (Nat × CM)) (n : Nat) [b : Hold PC] (s : St) [h : Hold (Exit → St → Prop)] : Prop := W P M n (.loop b.k) s h.k
def hookH (P : Program) (s : St) (n : Nat) [op : Hold Op] (xs : List T) [h : Hold (T → Δ → List Nat → Prop)] : Prop := ∃ hp v δ, (∀ p ∈ hp, hget s.hp p.1 = some p.2) ∧ HookOk P op.k xs hp n v δ ∧ h.k v δ (hp.map (·.1))
@[simp] theorem st_hook {op : Op} {ys : List X} : stepK P s n (.hook op ys) K = @hookH P s n ⟨op⟩ (ys.map (·.ev s)) ⟨K⟩ := id rfl
theorem hookH_of {op : Op} {xs : List T} {K : T → Δ → List Nat → Prop} {v : T} {δ : Δ} (hp : List (Nat × Blk)) (h : HookOk P op xs hp n v δ) (h1 : ∀ p ∈ hp, hget s.hp p.1 = some p.2) (h2 : K v δ (hp.map (·.1))) : @hookH P s n ⟨op⟩ xs ⟨K⟩ := ⟨hp, v, δ, h1, h, h2⟩
theorem W_loopH {b : PC} : W P M n (.loop b) s Q = @loopH P M n ⟨b⟩ s ⟨Q⟩ := id rfl
/-- A loop that keeps an invariant. -/
theorem W_while {b : PC} (I : Nat → St → Prop) {m : Nat} (h0 : I m s) (step : ∀ m s, I m s → W P M n b s (thn (fun s' => ∃ s2 m', Wk s' s2 ∧ m' < m ∧ I m' s2) Q)) : @loopH P M n ⟨b⟩ s ⟨Q⟩ := W_while0 I h0 step
/-- A loop over numbers from 0 on. -/
theorem W_for {b : PC} (st : Nat → St) (len : Nat) (inv : Nat → Prop) (h0 : Wk s (st 0)) (hi : inv 0) (step : ∀ i, i ≤ len → inv i → W P M n b (st i) (thn (fun s' => i < len ∧ inv (i + 1) ∧ Wk s' (st (i + 1))) Q)) : @loopH P M n ⟨b⟩ s ⟨Q⟩ := W_for0 st len inv h0 hi step
theorem W_wk {b : PC} : Wk s s' → @loopH P M n ⟨b⟩ s' ⟨Q⟩ → @loopH P M n ⟨b⟩ s ⟨Q⟩ := W_wk0
@[simp] theorem st_call {mu : List Nat} {q : RK} {f : Nat} {as : List X} : stepK P s n (.call (.ev mu q) f as) K = @callH P s n mu q f (as.map (·.ev s)) ⟨K⟩ := id rfl
def callvK (P : Program) (s : St) (n : Nat) (mu : List Nat) (q : RK) (v : T) (as : List T) (K : T → Δ → List Nat → Prop) : Prop := match v with
  | .fn g caps => okCall P g = true ∧ @callH P s n mu q g (as ++ caps) ⟨K⟩
  | _ => False
@[simp] theorem callvK_fn {mu : List Nat} {q : RK} {g : Nat} {as caps : List T} : callvK P s n mu q (.fn g caps) as K = (need (okCall P g = true) (@callH P s n mu q g (as ++ caps) ⟨K⟩)) := id rfl
@[simp] theorem st_callv {mu : List Nat} {q : RK} {f : X} {as : List X} : stepK P s n (.callv (.ev mu q) f as) K = callvK P s n mu q (f.ev s) (as.map (·.ev s)) K := by
  simp only [stepK]
  generalize f.ev s = v
  cases v <;> rfl
def extK (i : Nat) (v : T) (K : T → Δ → List Nat → Prop) : Prop := match v with
  | .tup xs => onSome xs[i]? fun v => K v [] []
  | _ => False
@[simp] theorem extK_tup {i : Nat} {xs : List T} : extK i (.tup xs) K = onSome xs[i]? fun v => K v [] [] := id rfl
@[simp] theorem st_ext {i : Nat} {x : X} : stepK P s n (.ext i x) K = extK i (x.ev s) K := by
  simp only [stepK]
  generalize x.ev s = v
  cases v <;> first
    | rfl
    | (rename_i xs; simp only [extK]; cases xs[i]? <;> rfl)
def nilK (v : T) (K : T → Δ → List Nat → Prop) : Prop := match v with
  | .ptr t r o => K (.ptr t r o) [] []
  | .pim cs => K (.pim cs) [] []
  | _ => False
@[simp] theorem nilK_ptr {t r o : Nat} : nilK (.ptr t r o) K = K (.ptr t r o) [] [] := id rfl
@[simp] theorem nilK_pim {cs : List T} : nilK (.pim cs) K = K (.pim cs) [] [] := id rfl
@[simp] theorem st_nilchk {x : X} : stepK P s n (.nilchk x) K = nilK (x.ev s) K := by
  simp only [stepK]
  generalize x.ev s = v
  cases v <;> rfl
@[simp] theorem st_mkfn {f : Nat} {caps : List X} : stepK P s n (.mkfn f caps) K = mvK (.fn f (caps.map (·.ev s))) K := id rfl
/-! ### operations of numbers and words -/
@[simp] theorem bk_i_add {k : IntKind} {a b : Int} {K : T → Prop} : binK .add (.i k a) (.i k b) K = K (.i k (k.wrap (a + b))) := by simp only [binK, true_and]
@[simp] theorem bk_i_sub {k : IntKind} {a b : Int} {K : T → Prop} : binK .sub (.i k a) (.i k b) K = K (.i k (k.wrap (a - b))) := by simp only [binK, true_and]
@[simp] theorem bk_i_mul {k : IntKind} {a b : Int} {K : T → Prop} : binK .mul (.i k a) (.i k b) K = K (.i k (k.wrap (a * b))) := by simp only [binK, true_and]
@[simp] theorem bk_i_quo {k : IntKind} {a b : Int} {K : T → Prop} : binK .quo (.i k a) (.i k b) K = need (b ≠ 0) (K (.i k (k.wrap (a.tdiv b)))) := by simp only [binK, true_and, need]
@[simp] theorem bk_i_rem {k : IntKind} {a b : Int} {K : T → Prop} : binK .rem (.i k a) (.i k b) K = need (b ≠ 0) (K (.i k (a.tmod b))) := by simp only [binK, true_and, need]
@[simp] theorem bk_i_eql {k : IntKind} {a b : Int} {K : T → Prop} : binK .eql (.i k a) (.i k b) K = K (.b (decide (a = b))) := by simp only [binK, true_and]; rw [show (a == b) = decide (a = b) by by_cases h : a = b <;> simp [h]]
@[simp] theorem bk_i_neq {k : IntKind} {a b : Int} {K : T → Prop} : binK .neq (.i k a) (.i k b) K = K (.b (!decide (a = b))) := by simp only [binK, true_and]; rw [show (a != b) = !decide (a = b) by by_cases h : a = b <;> simp [h]]
@[simp] theorem bk_i_lss {k : IntKind} {a b : Int} {K : T → Prop} : binK .lss (.i k a) (.i k b) K = K (.b (decide (a < b))) := by simp only [binK, true_and]
@[simp] theorem bk_i_leq {k : IntKind} {a b : Int} {K : T → Prop} : binK .leq (.i k a) (.i k b) K = K (.b (decide (a ≤ b))) := by simp only [binK, true_and]
@[simp] theorem bk_i_gtr {k : IntKind} {a b : Int} {K : T → Prop} : binK .gtr (.i k a) (.i k b) K = K (.b (decide (a > b))) := by simp only [binK, true_and]
@[simp] theorem bk_i_geq {k : IntKind} {a b : Int} {K : T → Prop} : binK .geq (.i k a) (.i k b) K = K (.b (decide (a ≥ b))) := by simp only [binK, true_and]
@[simp] theorem bk_s_add {a b : List UInt8} {K : T → Prop} : binK .add (.s a) (.s b) K = need (a.length + b.length ≤ 9223372036854775807) (K (.s (a ++ b))) := by simp only [binK, need]
@[simp] theorem bk_s_eql {a b : List UInt8} {K : T → Prop} : binK .eql (.s a) (.s b) K = K (.b (decide (a = b))) := by simp only [binK]; rw [show (a == b) = decide (a = b) by by_cases h : a = b <;> simp [h]]
@[simp] theorem bk_s_neq {a b : List UInt8} {K : T → Prop} : binK .neq (.s a) (.s b) K = K (.b (!decide (a = b))) := by simp only [binK]; rw [show (a == b) = decide (a = b) by by_cases h : a = b <;> simp [h]]
@[simp] theorem bk_s_lss {a b : List UInt8} {K : T → Prop} : binK .lss (.s a) (.s b) K = K (.b (Op.bytesLess a b)) := by simp only [binK]
@[simp] theorem bk_s_leq {a b : List UInt8} {K : T → Prop} : binK .leq (.s a) (.s b) K = K (.b (Op.bytesLess a b || a == b)) := by simp only [binK]
@[simp] theorem bk_s_gtr {a b : List UInt8} {K : T → Prop} : binK .gtr (.s a) (.s b) K = K (.b (!(Op.bytesLess a b || a == b))) := by simp only [binK]
@[simp] theorem bk_s_geq {a b : List UInt8} {K : T → Prop} : binK .geq (.s a) (.s b) K = K (.b (!(Op.bytesLess a b))) := by simp only [binK]
@[simp] theorem bk_b_eql {x y : Bool} {K : T → Prop} : beqK .eql (.b x) (.b y) K = K (.b (x == y)) := by simp only [beqK]
@[simp] theorem bk_b_neq {x y : Bool} {K : T → Prop} : beqK .neq (.b x) (.b y) K = K (.b (!(x == y))) := by simp only [beqK]
def peq2 (p q : Option Bool) (k : Bool → Prop) : Prop := match p, q with
  | some a, some b => (a = true ∨ b = true) ∧ k (a && b)
  | _, _ => False
@[simp] theorem peq2_some {a b : Bool} {k : Bool → Prop} : peq2 (some a) (some b) k = need (a = true ∨ b = true) (k (a && b)) := id rfl
@[simp] theorem bk_p_eql {x y : T} {K : T → Prop} : peqK .eql x y K = peq2 x.nilness y.nilness fun b => K (.b b) := by
  simp only [peqK]
  generalize x.nilness = p
  generalize y.nilness = q
  cases p <;> cases q <;> rfl
@[simp] theorem bk_p_neq {x y : T} {K : T → Prop} : peqK .neq x y K = peq2 x.nilness y.nilness fun b => K (.b !b) := by
  simp only [peqK]
  generalize x.nilness = p
  generalize y.nilness = q
  cases p <;> cases q <;> rfl
/-! ### regions -/
def guardK (v : T) (want : Bool) (p q : Prop) : Prop := match v with
  | .b x => if x = want then p else q
  | .un => q
  | _ => False
@[simp] theorem guardK_tt {p q : Prop} : guardK (.b true) true p q = p := id rfl
@[simp] theorem guardK_ft {p q : Prop} : guardK (.b false) true p q = q := id rfl
@[simp] theorem guardK_tf {p q : Prop} : guardK (.b true) false p q = q := id rfl
@[simp] theorem guardK_ff {p q : Prop} : guardK (.b false) false p q = p := id rfl
@[simp] theorem guardK_un {w : Bool} {p q : Prop} : guardK .un w p q = q := id rfl
@[simp] theorem wops_nil {k : St → Prop} : wops P [] s k = k s := id rfl
@[simp] theorem wops_cons {po : PO} {l : List PO} {k : St → Prop} : wops P (po :: l) s k = wop P s po fun s' => wops P l s' k := id rfl
@[simp] theorem wop_none {tm : List (Nat × T)} {hp : List (Nat × Blk)} {nx fb : Nat} {d : Option Nat} {pi : PI} {pre : List Nat} {k : St → Prop} : wop P ⟨tm, hp, nx, fb⟩ ⟨d, pi, none, pre⟩ k = stepK P ⟨tm, hp, nx, fb⟩ nx pi fun v δ rd => k ⟨tput tm d v, hap hp δ, nx + δ.length, fb⟩ := id rfl
@[simp] theorem wop_some {tm : List (Nat × T)} {hp : List (Nat × Blk)} {nx fb : Nat} {d : Option Nat} {pi : PI} {j : Nat} {w : Bool} {pre : List Nat} {k : St → Prop} : wop P ⟨tm, hp, nx, fb⟩ ⟨d, pi, some (j, w), pre⟩ k = guardK (tget tm j) w (stepK P ⟨tm, hp, nx, fb⟩ nx pi fun v δ rd => k ⟨tput tm d v, hap hp δ, nx + δ.length, fb⟩) (k ⟨tput tm d .un, hp, nx, fb⟩) := by
  simp only [wop]
  generalize tget tm j = v
  cases v <;> rfl
def gdv (v : T) (w : Bool) : Option Bool := match v with
  | .b x => if x = w then some true else some false
  | .un => some false
  | _ => none
@[simp] theorem gdv_tt : gdv (.b true) true = some true := id rfl
@[simp] theorem gdv_ft : gdv (.b false) true = some false := id rfl
@[simp] theorem gdv_tf : gdv (.b true) false = some false := id rfl
@[simp] theorem gdv_ff : gdv (.b false) false = some true := id rfl
@[simp] theorem gdv_un {w : Bool} : gdv .un w = some false := id rfl
@[simp] theorem gd_none {d : Option Nat} {pi : PI} {pre : List Nat} : gd s ⟨d, pi, none, pre⟩ = some true := id rfl
@[simp] theorem gd_some {d : Option Nat} {pi : PI} {j : Nat} {w : Bool} {pre : List Nat} : gd s ⟨d, pi, some (j, w), pre⟩ = gdv (tget s.tm j) w := by
  simp only [gd]
  generalize tget s.tm j = v
  cases v <;> rfl
def wdlK (g : Option Bool) (p q : Prop) : Prop := match g with
  | some true => p
  | some false => q
  | none => False
@[simp] theorem wdlK_t {p q : Prop} : wdlK (some true) p q = p := id rfl
@[simp] theorem wdlK_f {p q : Prop} : wdlK (some false) p q = q := id rfl
@[simp] theorem wdl_nil {ah : List (List Nat)} {base j : Nat} {log : List (Nat × List Nat × List Nat)} {k : St → Prop} : wdl P ah base [] j s log k = k s := id rfl
def freeH (j : Nat) (wr rd : List Nat) (log : List (Nat × List Nat × List Nat)) [ah : Hold (List (List Nat))] : Bool := free (ah.k.getD j []) wr rd log
def inH (j m : Nat) [ah : Hold (List (List Nat))] : Bool := (ah.k.getD j []).contains m
@[simp] theorem wdl_none {tm : List (Nat × T)} {hp : List (Nat × Blk)} {nx fb : Nat} {ah : List (List Nat)} {base j : Nat} {d : Option Nat} {pi : PI} {pre : List Nat} {r : List PO} {log : List (Nat × List Nat × List Nat)} {k : St → Prop} : wdl P ah base (⟨d, pi, none, pre⟩ :: r) j ⟨tm, hp, nx, fb⟩ log k = stepK P ⟨tm, hp, nx, fb⟩ (base + 8 * j) pi fun v δ rd => need (δ.length ≤ 8) (need (@freeH j (δ.map (·.1)) rd log ⟨ah⟩ = true) (wdl P ah base r (j + 1) ⟨tput tm d v, hap hp δ, nx, fb⟩ ((j, δ.map (·.1), rd) :: log) k)) := id rfl
@[simp] theorem wdl_some {tm : List (Nat × T)} {hp : List (Nat × Blk)} {nx fb : Nat} {ah : List (List Nat)} {base j i : Nat} {w : Bool} {d : Option Nat} {pi : PI} {pre : List Nat} {r : List PO} {log : List (Nat × List Nat × List Nat)} {k : St → Prop} : wdl P ah base (⟨d, pi, some (i, w), pre⟩ :: r) j ⟨tm, hp, nx, fb⟩ log k = guardK (tget tm i) w (stepK P ⟨tm, hp, nx, fb⟩ (base + 8 * j) pi fun v δ rd => need (δ.length ≤ 8) (need (@freeH j (δ.map (·.1)) rd log ⟨ah⟩ = true) (wdl P ah base r (j + 1) ⟨tput tm d v, hap hp δ, nx, fb⟩ ((j, δ.map (·.1), rd) :: log) k))) (wdl P ah base r (j + 1) ⟨tput tm d .un, hp, nx, fb⟩ log k) := by
  simp only [wdl, gd]
  cases tget tm i <;> simp only [guardK]
  case b x => by_cases h : x = w <;> simp [h] <;> rfl
@[simp] theorem wdraw_mk {tm : List (Nat × T)} {hp : List (Nat × Blk)} {nx fb : Nat} {ops : List PO} {k : St → Prop} : wdraw P ops ⟨tm, hp, nx, fb⟩ k = wdl P (ahead ops) nx ops 0 ⟨tm, hp, nx + 8 * ops.length, fb⟩ [] k := id rfl
def condK (v : T) (p q : Prop) : Prop := match v with
  | .b x => if x = true then p else q
  | _ => False
@[simp] theorem condK_t {p q : Prop} : condK (.b true) p q = p := id rfl
@[simp] theorem condK_f {p q : Prop} : condK (.b false) p q = q := id rfl
@[simp] theorem condK_b {x : Bool} {p q : Prop} : condK (.b x) p q = if x = true then p else q := id rfl
@[simp] theorem guardK_b {x : Bool} {p q : Prop} : guardK (.b x) true p q = if x = true then p else q := id rfl
@[simp] theorem guardK_nb {x : Bool} {p q : Prop} : guardK (.b x) false p q = if x = true then q else p := by cases x <;> rfl
theorem W_cond' {x : X} {a b : PC} : W P M n (.cond x a b) s Q = condK (x.ev s) (W P M n a s Q) (W P M n b s Q) := id rfl
@[congr] theorem cg_condK {v v' : T} {p q : Prop} (hv : v = v') : condK v p q = condK v' p q := by rw [hv]
/-- What stands behind is left alone. -/
theorem W_seq_cut {a b : PC} (h : ∀ k : St → Prop, (∀ s', W P M n b s' Q → k s') → W P M n a s (thn k Q)) : W P M n (.seq a b) s Q := h _ fun _ h => h
@[simp] theorem ev_t {tm : List (Nat × T)} {hp : List (Nat × Blk)} {nx fb j : Nat} : X.ev ⟨tm, hp, nx, fb⟩ (.t j) = tget tm j := id rfl
@[simp] theorem ev_c {v : T} : X.ev s (.c v) = v := id rfl
@[simp] theorem tput_some {l : List (Nat × T)} {d : Nat} {v : T} : tput l (some d) v = (d, v) :: l := id rfl
@[simp] theorem tput_none {l : List (Nat × T)} {v : T} : tput l none v = l := id rfl
theorem freeH_nil {j : Nat} {wr rd : List Nat} {ah : Hold (List (List Nat))} : @freeH j wr rd [] ah = true := id rfl
theorem freeH_00 {j m : Nat} {rd r : List Nat} {ah : Hold (List (List Nat))} {log : List (Nat × List Nat × List Nat)} : @freeH j [] rd ((m, [], r) :: log) ah = @freeH j [] rd log ah := by simp [freeH, free]
theorem freeH_cons {j m : Nat} {wr rd w r : List Nat} {ah : Hold (List (List Nat))} {log : List (Nat × List Nat × List Nat)} : @freeH j wr rd ((m, w, r) :: log) ah = ((((wr.all fun t => !(w ++ r).contains t) && (w.all fun t => !rd.contains t)) || @inH j m ah) && @freeH j wr rd log ah) := by simp [freeH, free, inH, Bool.or_comm]
attribute [simp] freeH_nil freeH_00 freeH_cons
theorem free_nil {ah wr rd : List Nat} : free ah wr rd [] = true := rfl
theorem free_00 {ah rd r : List Nat} {m : Nat} {log : List (Nat × List Nat × List Nat)} : free ah [] rd ((m, [], r) :: log) = free ah [] rd log := by simp [free]
theorem free_cons {ah wr rd w r : List Nat} {m : Nat} {log : List (Nat × List Nat × List Nat)} : free ah wr rd ((m, w, r) :: log) = ((ah.contains m || ((wr.all fun t => !(w ++ r).contains t) && (w.all fun t => !rd.contains t))) && free ah wr rd log) := by simp [free]
attribute [simp] free_nil free_00
/-! ### where rewriting looks -/
@[congr] theorem cg_onArr {b b' : Option Blk} {k : Nat → List (List T) → Prop} (h : b = b') : onArr b k = onArr b' k := by rw [h]
@[congr] theorem cg_onSome {α : Type} {o o' : Option α} {k : α → Prop} (h : o = o') : onSome o k = onSome o' k := by rw [h]
@[congr] theorem cg_pickK {c a b c' a' b' : T} (h : c = c') (ha : a = a') (hb : b = b') : pickK c a b K = pickK c' a' b' K := by rw [h, ha, hb]
@[congr] theorem cg_one {x x' : List T × List (Nat × Blk)} {k : T → List (Nat × Blk) → Prop} (h : x = x') : one x k = one x' k := by rw [h]
@[congr] theorem cg_loadR {i i' t t' sz sz' r r' o o' : Nat} {rows rows' : List (List T)} {row row' : List T} {m m' : Option Nat} (hi : i = i') (ht : t = t') (hsz : sz = sz') (hrs : rows = rows') (hr : r = r') (hw : row = row') (ho : o = o') (hm : m = m') : loadR i t sz rows r row o m K = loadR i' t' sz' rows' r' row' o' m' K := by rw [hi, ht, hsz, hrs, hr, hw, ho, hm]
@[congr] theorem cg_headK {cs cs' : List T} {k : T → Prop} (h : cs = cs') : headK cs k = headK cs' k := by rw [h]
@[congr] theorem cg_loadK {i i' : Nat} {m : Option Nat} {v v' : T} (h : s = s') (hi : i = i') (hv : v = v') : loadK s i m v K = loadK s' i' m v' K := by rw [h, hi, hv]
@[congr] theorem cg_storeK {m : Option Nat} {v u v' u' : T} (h : s = s') (hv : v = v') (hu : u = u') : storeK s m v u K = storeK s' m v' u' K := by rw [h, hv, hu]
@[congr] theorem cg_faK {off : Nat} {v v' : T} (hv : v = v') : faK off v K = faK off v' K := by rw [hv]
@[congr] theorem cg_fldK {off : Nat} {m : Option Nat} {v v' : T} (hv : v = v') : fldK off m v K = fldK off m v' K := by rw [hv]
@[congr] theorem cg_iaK {sz : Nat} {v i v' i' : T} (h : s = s') (hv : v = v') (hi : i = i') : iaK s sz v i K = iaK s' sz v' i' K := by rw [h, hv, hi]
@[congr] theorem cg_ixK {v i v' i' : T} (hv : v = v') (hi : i = i') : ixK v i K = ixK v' i' K := by rw [hv, hi]
@[congr] theorem cg_unK {op : UnOp} {v v' : T} (hv : v = v') : unK op v K = unK op v' K := by rw [hv]
@[congr] theorem cg_convK {k : IntKind} {v v' : T} (hv : v = v') : convK k v K = convK k v' K := by rw [hv]
@[congr] theorem cg_strK {v v' : T} (hv : v = v') : strK v K = strK v' K := by rw [hv]
@[congr] theorem cg_slsK {v v' : T} {lo hi lo' hi' : Option T} (hv : v = v') (hl : lo = lo') (hh : hi = hi') : slsK v lo hi K = slsK v' lo' hi' K := by rw [hv, hl, hh]
@[congr] theorem cg_slK {sz : Nat} {v v' : T} {lo hi lo' hi' : Option T} (h : s = s') (hv : v = v') (hl : lo = lo') (hh : hi = hi') : slK s sz v lo hi K = slK s' sz v' lo' hi' K := by rw [h, hv, hl, hh]
@[congr] theorem cg_lenV {b : Bool} {v v' : T} (hv : v = v') : lenV b v K = lenV b v' K := by rw [hv]
@[congr] theorem cg_lenK {v v' : T} (hv : v = v') : lenK v K = lenK v' K := by rw [hv]
@[congr] theorem cg_appK {i i' sz bytes : Nat} {v v' : T} {p p' : List (List T) × List Nat} (h : s = s') (hi : i = i') (hv : v = v') (hp : p = p') : appK s i sz bytes v p K = appK s' i' sz bytes v' p' K := by rw [h, hi, hv, hp]
@[congr] theorem cg_makeK {i i' sz bytes : Nat} {zs : List T} {v v' : T} (hi : i = i') (hv : v = v') : makeK i sz bytes zs v K = makeK i' sz bytes zs v' K := by rw [hi, hv]
@[congr] theorem cg_callvK {i i' : Nat} {mu : List Nat} {q : RK} {v v' : T} {as as' : List T} (h : s = s') (hi : i = i') (hv : v = v') (ha : as = as') : callvK P s i mu q v as K = callvK P s' i' mu q v' as' K := by rw [h, hi, hv, ha]
@[congr] theorem cg_extK {i : Nat} {v v' : T} (hv : v = v') : extK i v K = extK i v' K := by rw [hv]
@[congr] theorem cg_nilK {v v' : T} (hv : v = v') : nilK v K = nilK v' K := by rw [hv]
@[congr] theorem cg_guardK {v v' : T} {w : Bool} {p q : Prop} (hv : v = v') : guardK v w p q = guardK v' w p q := by rw [hv]
@[congr] theorem cg_wdlK {g g' : Option Bool} {p q : Prop} (hg : g = g') : wdlK g p q = wdlK g' p q := by rw [hg]
end
attribute [simp ↓] W_loopH W_skip W_reg W_draw W_seq W_cond' W_block W_exit W_ret thn_normal thn_exit thn_ret inb_normal inb_ret inb_exit wops_nil wops_cons wop_none wop_some wdl_nil wdl_none wdl_some st_load st_mv st_pick st_alloc st_box st_build st_mksl st_store st_fa st_fld st_ia st_ix st_bin st_beq st_peq st_un st_conv st_strid st_tostr st_sls st_sl st_lens st_len st_app st_make st_call st_callv st_ext st_nilchk st_mkfn st_hook wdraw_mk
attribute [simp ↓] onArr_some onSome_some pickK_t pickK_f one_mk loadR_some loadR_none headK_cons loadK_ptr loadK_pims loadK_pim mvK_v boxK_v mkslK_v storeK_ptr faK_ptr faK_pim fldK_s fldK_1 iaK_ref iaK_imm ixK_s unK_not unK_neg convK_i strK_s slsK_s slK_imm slK_ref slK_nl lenV_s lenV_imm lenV_ref lenV_nl appK_nl appK_ref makeK_i callvK_fn extK_tup nilK_ptr nilK_pim bk_i_add bk_i_sub bk_i_mul bk_i_quo bk_i_rem bk_i_eql bk_i_neq bk_i_lss bk_i_leq bk_i_gtr bk_i_geq bk_s_add bk_s_eql bk_s_neq bk_s_lss bk_s_leq bk_s_gtr bk_s_geq bk_b_eql bk_b_neq peq2_some guardK_tt guardK_ft guardK_tf guardK_ff guardK_un wdlK_t wdlK_f condK_t condK_f need_t
attribute [simp] mvK_v boxK_v mkslK_v
attribute [simp] enter slotsOf news St.app T.nilness parts drawn resK rf rfs res1 taken takenN take1 takeN takeCs takeCN handedA handedCs backA backCs back1 back handed named argI argIs toIs toIr namess handed1 bnd bndLo noIms noImr rns
end Go.Proofs.Ytcchmhmbjhgfdaa.V
