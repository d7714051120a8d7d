/- The machine of trees: its code, how code of the model becomes it, its steps. -/
import Derived.Test.YtcchmhmbjhgfdaaVc
namespace Go.Proofs.Ytcchmhmbjhgfdaa.V
open Go
set_option linter.unusedVariables false

inductive X where
  | t (j : Nat) | c (v : T)
  deriving Inhabited
/-- What becomes of a call's result: owned, shared for good, or owned with shared parts. -/
inductive RK where
  | own | imm | sh
  deriving DecidableEq, Inhabited
inductive CM where
  | ev (mu : List Nat) (rk : RK) | inl
  deriving Inhabited
def CM.isEv : CM → Bool | .ev _ _ => true | .inl => false
inductive PI where
  | mv (x : X)
  | pick (c a b : X)
  | alloc (zs : List T)
  | box (sz : Nat) (x : X)
  | build (zs : List T) (ps : List (Nat × Nat × X))
  | mksl (sz : Nat) (ps : List X)
  | load (n : Option Nat) (x : X)
  | store (n : Option Nat) (x v : X)
  | fa (off : Nat) (x : X)
  | fld (off : Nat) (n : Option Nat) (x : X)
  | ia (sz : Nat) (x i : X)
  | ix (x i : X)
  | bin (op : BinOp) (x y : X)
  | beq (op : BinOp) (x y : X)
  | peq (op : BinOp) (x y : X)
  | un (op : UnOp) (x : X)
  | conv (k : IntKind) (x : X)
  | tostr (x : X)
  | strid (x : X)
  | sl (sz : Nat) (x : X) (lo hi : Option X)
  | sls (x : X) (lo hi : Option X)
  | len (x : X)
  | lens (x : X)
  | app (sz bytes : Nat) (x y : X)
  | make (sz bytes : Nat) (zs : List T) (n : X)
  | call (m : CM) (f : Nat) (args : List X)
  | callv (m : CM) (f : X) (args : List X)
  | ext (i : Nat) (x : X)
  | nilchk (x : X)
  | mkfn (f : Nat) (caps : List X)
  | hook (o : Op) (ys : List X)
  | stuck
  deriving Inhabited
structure PO where
  d : Option Nat
  pi : PI
  g : Option (Nat × Bool)
  pre : List Nat
  deriving Inhabited
inductive PC where
  | skip
  | reg (ops : List PO) (draw : Bool)
  | seq (a b : PC)
  | cond (x : X) (a b : PC)
  | block (id : Nat) (b : PC)
  | loop (b : PC)
  | exit (id : Nat)
  | ret
  deriving Inhabited

/-! ### from the model's code -/
def cst : Value → Option T
  | .bool x => some (.b x)
  | .int k n => some (.i k n)
  | .string s => some (.s s.data.toList)
  | .pointer none => some .np
  | .slice none 0 0 => some .nl
  | .map none => some .nmp
  | .nilIface => some .nif
  | .nilFunc => some .nfn
  | _ => none
def opd : Operand → Option X
  | .tmp j => some (.t j)
  | .const v => (cst v).map .c
  | .func f => some (.c (.fn f []))
  | .global _ => none
section
variable (P : Program)
def szOf (t : TypeId) : Option Nat := (P.info? t).map (·.size)
/-- How many cells a variable of a type has, if it is of several; one, if it is not. -/
def shp (t : TypeId) : Option (Option Nat) :=
  match P.underlying t, szOf P t with
  | some (.struct _), some n => some (some n)
  | some (.array _ _), some n => none
  | some _, some 1 => some none
  | _, _ => none
def zero? (t : TypeId) : Option (List T) :=
  match (P.info? t).bind (·.zero) with
  | some z => z.cells.toList.mapM cst
  | none => none
def places (fields : List Field) : List (Nat × Operand) → Option (List (Nat × Nat × X))
  | [] => some []
  | (k, x) :: r => do
    let f ← fields[k]?
    let n ← szOf P f.type
    let y ← opd x
    let ys ← places fields r
    some ((f.offset, n, y) :: ys)
def inOrder : Nat → List (Nat × Operand) → Option (List X)
  | _, [] => some []
  | n, (k, x) :: r => if k = n then do
      let y ← opd x
      let ys ← inOrder (n + 1) r
      some (y :: ys)
    else none
def modeOf (M : List (Nat × CM)) (f : Nat) : CM := ((M.find? (·.1 == f)).map (·.2)).getD (.ev [] .own)
def opdO : Option Operand → Option (Option X)
  | none => some none
  | some x => (opd x).map some
def okCall (f : Nat) : Bool := match P.funcs[f]? with
  | some fn => fn.name != "runtime.NumGoroutine" && fn.body.isSome
  | none => false
def compOp (M : List (Nat × CM)) : Op → Option PI
  | .move x => (opd x).map .mv
  | .assign x => (opd x).map .mv
  | .pick c a b => do some (.pick (← opd c) (← opd a) (← opd b))
  | .alloc e => (zero? P e).map .alloc
  | .box e x => do some (.box (← szOf P e) (← opd x))
  | .build t ps => match P.underlying t with
    | some (.struct fields) => if fields.toList.all (fun f => (szOf P f.type).isSome) then do some (.build (← zero? P t) (← places P fields.toList ps.toList)) else none
    | _ => none
  | .buildSlice t n ps => match P.underlying t with
    | some (.slice e) => do
      let sz ← szOf P e
      let ys ← inOrder 0 ps.toList
      if ps.size = n ∧ n * sz ≤ 16777216 ∧ sz ≠ 0 ∧ (zero? P e).isSome then some (.mksl sz ys) else none
    | _ => none
  | .load t x => do some (.load (← shp P t) (← opd x))
  | .store t x v => do some (.store (← shp P t) (← opd x) (← opd v))
  | .fieldAddr s x f => match P.underlying s with
    | some (.struct fields) => do
      let fd ← fields[f]?
      let n ← szOf P fd.type
      if n = 0 then none else some (.fa fd.offset (← opd x))
    | _ => none
  | .field s x f => match P.underlying s with
    | some (.struct fields) => do
      let fd ← fields[f]?
      some (.fld fd.offset (← shp P fd.type) (← opd x))
    | _ => none
  | .indexAddr t x i => match P.underlying t with
    | some (.slice e) => do some (.ia (← szOf P e) (← opd x) (← opd i))
    | _ => none
  | .index t x i => match P.underlying t with
    | some .string => do some (.ix (← opd x) (← opd i))
    | _ => none
  | .binOp op t x y _ => match P.underlying t with
    | some (.int _) => do some (.bin op (← opd x) (← opd y))
    | some .string => do some (.bin op (← opd x) (← opd y))
    | some .bool => do some (.beq op (← opd x) (← opd y))
    | some (.pointer _) => do some (.peq op (← opd x) (← opd y))
    | _ => none
  | .unOp op _ x => do some (.un op (← opd x))
  | .convert s d x => match P.underlying s, P.underlying d with
    | some (.int _), some (.int k) => do some (.conv k (← opd x))
    | some .string, some .string => do some (.strid (← opd x))
    | some (.slice e), some .string => match P.underlying e with
      | some (.int .u8) => if szOf P e = some 1 then do some (.tostr (← opd x)) else none
      | _ => none
    | _, _ => none
  | .slice t x lo hi none => match P.underlying t with
    | some .string => do some (.sls (← opd x) (← opdO lo) (← opdO hi))
    | some (.slice e) => do
      some (.sl (← szOf P e) (← opd x) (← opdO lo) (← opdO hi))
    | _ => none
  | .makeSlice t (.tmp a) (.tmp b) => match P.underlying t with
    | some (.slice e) => do
      let i ← P.info? e
      let zs ← zero? P e
      if a = b ∧ i.size = zs.length ∧ i.size ≠ 0 then some (.make i.size i.bytes zs (.t a)) else none
    | _ => none
  | .call c => match c.callee with
    | .builtin .len => match (c.argTypes[0]?).bind P.underlying, c.args.toList with
      | some .string, [x] => (opd x).map .lens
      | some (.slice _), [x] => (opd x).map .len
      | _, _ => none
    | .builtin .append => match c.argTypes.toList, c.args.toList with
      | [t, t'], [x, y] => match P.underlying t with
        | some (.slice e) => do
          let i ← P.info? e
          if t = t' ∧ i.size ≠ 0 ∧ i.bytes ≠ 0 ∧ (zero? P e).map (·.length) = some i.size then some (.app i.size i.bytes (← opd x) (← opd y)) else none
        | _ => none
      | _, _ => none
    | .value (.func f) => if okCall P f = true ∧ (modeOf M f).isEv = true then do some (.call (modeOf M f) f (← c.args.toList.mapM opd)) else none
    | .value (.tmp j) => do some (.callv (.ev [] .own) (.t j) (← c.args.toList.mapM opd))
    | _ => none
  | .extract x i => do some (.ext i (← opd x))
  | .nilCheck x => do some (.nilchk (← opd x))
  | .makeFunc (.func f) first caps => if first.isEmpty then do some (.mkfn f (← caps.toList.mapM opd)) else none
  | _ => none
def grd (ops : Array Oper) (o : Oper) : Option (Option (Nat × Bool)) := match o.guard with
  | none => some none
  | some (j, want) => match (ops[j]?).bind (·.dst) with
    | some d => some (some (d, want))
    | none => none
/-- What is not covered is left to a proof of its own. -/
def hookOf (o : Op) : PI := match o.operands.toList.mapM opd with | some ys => .hook o ys | none => .stuck
def compI (M : List (Nat × CM)) (o : Op) : PI := (compOp P M o).getD (hookOf o)
def compO (M : List (Nat × CM)) (n : Nat) (draw : Bool) (ops : Array Oper) (o : Oper) : Option PO := match grd ops o with
  | some g => if (o.dst.all (· < n)) then some { d := o.dst, pi := compI P M o.op, g := g, pre := if draw then (o.after.toList.filter (Region.binds .any ·)).map (·.on) else [] } else none
  | none => none
def X.slots : X → List Nat | .t j => [j] | .c _ => []
def oslots : Option X → List Nat | some x => x.slots | none => []
def PI.slots : PI → List Nat
  | .mv x | .box _ x | .load _ x | .fa _ x | .fld _ _ x | .un _ x | .conv _ x | .tostr x | .strid x | .len x | .lens x | .make _ _ _ x | .ext _ x | .nilchk x => x.slots
  | .pick c a b => c.slots ++ a.slots ++ b.slots
  | .alloc _ => []
  | .stuck => []
  | .hook _ ys => ys.flatMap X.slots
  | .build _ ps => ps.flatMap fun p => p.2.2.slots
  | .mksl _ ps => ps.flatMap X.slots
  | .store _ x v => x.slots ++ v.slots
  | .ia _ x i | .ix x i => x.slots ++ i.slots
  | .bin _ x y | .beq _ x y | .peq _ x y => x.slots ++ y.slots
  | .sl _ x lo hi | .sls x lo hi => x.slots ++ oslots lo ++ oslots hi
  | .app _ _ x y => x.slots ++ y.slots
  | .call _ _ as => as.flatMap X.slots
  | .callv _ f as => f.slots ++ as.flatMap X.slots
  | .mkfn _ cs => cs.flatMap X.slots
def PO.slots (o : PO) : List Nat := o.pi.slots ++ (match o.g with | some (j, _) => [j] | none => [])
def addN (l : List Nat) (m : List Nat) : List Nat := m.foldl (fun l x => if l.contains x then l else x :: l) l
/-- What stands ahead of each operation, directly or not. -/
def ahead (ops : List PO) : List (List Nat) := ops.foldl (fun acc o => acc ++ [o.pre.foldl (fun l i => addN (addN l [i]) (acc.getD i [])) []]) []
/-- Each operation's slots are written ahead of it, or elsewhere; no slot twice. -/
def okDraw (ops : List PO) : Bool :=
  let ah := ahead ops
  (ops.zipIdx.all fun (o, j) => o.pre.all (· < j) && ((ah.getD j []).all fun m => o.pre.contains m || o.pre.any fun p => (ah.getD p []).contains m) && (ops.zipIdx.all fun (q, i) => i == j || (match q.d with
    | some d => (!(o.slots.contains d) || (ah.getD j []).contains i || (ah.getD i []).contains j) && (o.d != some d)
    | none => true)))
def comp (M : List (Nat × CM)) (n : Nat) : Code → Option PC
  | .skip => some .skip
  | .region _ ops draw => do
    let pos ← ops.toList.mapM (compO P M n draw ops)
    if draw then (if okDraw pos && (P.follows .mixedOrders || !Region.departs ops) then some (.reg pos true) else none) else some (.reg pos false)
  | .seq a b => do some (.seq (← comp M n a) (← comp M n b))
  | .cond x a b => do some (.cond (← opd x) (← comp M n a) (← comp M n b))
  | .block id b => do some (.block id (← comp M n b))
  | .loop b => do some (.loop (← comp M n b))
  | .exit id => some (.exit id)
  | .ret => some .ret
  | _ => none
end
end Go.Proofs.Ytcchmhmbjhgfdaa.V
