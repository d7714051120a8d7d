/- The machine of trees: what a call means, its steps, its code. -/
import Derived.Test.YtcchmhmbjhgfdaaVd
namespace Go.Proofs.Ytcchmhmbjhgfdaa.V
open Go
set_option linter.unusedVariables false

/-- A call: from memory that reads as the arguments it comes to memory that reads as the result; what was handed over comes back as told, all else is as it was. -/
def Ret (P : Program) (f : Nat) (args : List T) (r : T) (outs : List T) : Prop :=
  ∀ (w : World) (vs : List Value) (O : Nat → Prop) (F : List Nat), (∀ b, O b → b < w.heap.size) → Ks w O args vs F → F.Nodup → (∀ b ∈ F, ¬ O b ∧ b < w.heap.size) →
    Calls P f vs.toArray w fun e w' => ∃ v O' Fr Fo, e = .returned v ∧ (∀ b, O b → O' b) ∧ (∀ b, O' b → b < w'.heap.size) ∧ (∀ b, O' b → O b ∨ w.heap.size ≤ b ∨ b ∈ F) ∧
      K w' O' r v Fr ∧ Ks w' O' outs vs Fo ∧ (Fr ++ Fo).Nodup ∧ (∀ b ∈ Fr ++ Fo, ¬ O' b ∧ b < w'.heap.size ∧ (w.heap.size ≤ b ∨ b ∈ F)) ∧ Keep w F w'

/-! ### plain words on trees -/
def T.isOwn : T → Bool | .own _ _ => true | _ => false
/-- What may stand in a cell. -/
def T.cell : T → Bool
  | .un | .dead | .agg _ | .tup _ | .own _ _ | .bx _ => false
  | _ => true
def T.cells : T → List T | .agg cs => cs | v => [v]
/-- Closed: says nothing of blocks by name. -/
def T.clean : T → Bool
  | .ref _ _ _ | .ptr _ _ _ | .mp _ | .agg _ | .tup _ | .fn _ _ | .ifc _ _ => false
  | _ => true
mutual
/-- As it is shared for good. -/
def T.toI : T → T
  | .own _ rows => .imm (toIr rows)
  | .bx cs => .pim (toIs cs)
  | .agg cs => .agg (toIs cs)
  | .tup cs => .tup (toIs cs)
  | t => t
def toIs : List T → List T
  | [] => []
  | t :: ts => t.toI :: toIs ts
def toIr : List (List T) → List (List T)
  | [] => []
  | r :: rs => toIs r :: toIr rs
end
mutual
/-- All of it is owned. -/
def T.noImm : T → Bool
  | .imm _ | .pim _ => false
  | .own _ rows => noImr rows
  | .agg cs => noIms cs
  | .tup cs => noIms cs
  | .bx cs => noIms cs
  | .fn _ cs => noIms cs
  | .ifc _ x => x.noImm
  | _ => true
def noIms : List T → Bool
  | [] => true
  | t :: ts => t.noImm && noIms ts
def noImr : List (List T) → Bool
  | [] => true
  | r :: rs => noIms r && noImr rs
end
/-- Owned, its parts shared for good. -/
def T.sh1 : T → T | .own sz rows => .own sz (toIr rows) | t => t.toI
def T.sh : T → T | .agg cs => .agg (cs.map T.sh1) | .tup cs => .tup (cs.map fun | .agg ds => .agg (ds.map T.sh1) | t => t.sh1) | t => t.sh1
def rk : RK → T → T | .own, t => t | .imm, t => t.toI | .sh, t => t.sh

mutual
/-- Owned rows get blocks of their own: from name 'n' on. -/
def mat : T → Nat → T × List (Nat × Blk)
  | .own sz rows, n => (.ref n 0 rows.length, [(n, .arr sz rows)])
  | .bx cs, n => (.ptr n 0 0, [(n, .arr cs.length [cs])])
  | .agg cs, n => ((.agg (mats cs n).1), (mats cs n).2)
  | .tup cs, n => ((.tup (mats cs n).1), (mats cs n).2)
  | t, _ => (t, [])
def mats : List T → Nat → List T × List (Nat × Blk)
  | [], _ => ([], [])
  | t :: ts, n => ((mat t n).1 :: (mats ts (n + (mat t n).2.length)).1, (mat t n).2 ++ (mats ts (n + (mat t n).2.length)).2)
end
abbrev Δ := List (Nat × Option Blk)
def news (l : List (Nat × Blk)) : Δ := l.map fun p => (p.1, some p.2)

def X.ev (s : St) : X → T
  | .t j => tget s.tm j
  | .c v => v
def parts (s : St) : List T → List (Nat × Nat × X) → Option (List T)
  | zs, [] => some zs
  | zs, (off, n, x) :: ps => if ((x.ev s).cells.length = n ∧ ((x.ev s).cells.all T.cell) = true) ∧ off + n ≤ zs.length then parts s (zs.take off ++ (x.ev s).cells ++ zs.drop (off + n)) ps else none

/-- Cells that are clean. -/
def cleanR (rows : List (List T)) : Bool := rows.all fun r => r.all T.clean
mutual
/-- An argument as the callee is handed it: what lies in blocks is read as shared for good. -/
def argI (s : St) : T → Option T
  | .ref t o n => match hget s.hp t with
    | some (.arr _ rows) => if o + n ≤ rows.length ∧ cleanR ((rows.drop o).take n) = true then some (.imm (toIr ((rows.drop o).take n))) else none
    | _ => none
  | .ptr t r o => match hget s.hp t with
    | some (.arr _ rows) => match rows[r]? with
      | some row => if o ≤ row.length ∧ row.all T.clean = true then some (.pim (toIs (row.drop o))) else none
      | none => none
    | _ => none
  | .nl => some (.imm [])
  | .agg cs => (argIs s cs).map .agg
  | .fn f cs => (argIs s cs).map (.fn f)
  | .tup _ => none
  | .ifc t x => (argI s x).map (.ifc t)
  | .mp _ => none
  | .un => none
  | t => some t
def argIs (s : St) : List T → Option (List T)
  | [] => some []
  | t :: ts => match argI s t, argIs s ts with
    | some x, some xs => some (x :: xs)
    | _, _ => none
end
mutual
def T.names : T → List Nat
  | .ref t _ _ => [t]
  | .ptr t _ _ => [t]
  | .mp t => [t]
  | .agg cs => namess cs
  | .tup cs => namess cs
  | .fn _ cs => namess cs
  | .ifc _ x => x.names
  | _ => []
def namess : List T → List Nat
  | [] => []
  | t :: ts => t.names ++ namess ts
end

def binK (op : BinOp) : T → T → (T → Prop) → Prop
  | .i k a, .i k' b, K => k = k' ∧ match op with
    | .add => K (.i k (k.wrap (a + b)))
    | .sub => K (.i k (k.wrap (a - b)))
    | .mul => K (.i k (k.wrap (a * b)))
    | .quo => b ≠ 0 ∧ K (.i k (k.wrap (a.tdiv b)))
    | .rem => b ≠ 0 ∧ K (.i k (a.tmod b))
    | .eql => K (.b (a == b))
    | .neq => K (.b (a != b))
    | .lss => K (.b (decide (a < b)))
    | .leq => K (.b (decide (a ≤ b)))
    | .gtr => K (.b (decide (a > b)))
    | .geq => K (.b (decide (a ≥ b)))
    | _ => False
  | .s a, .s b, K => match op with
    | .add => a.length + b.length ≤ 9223372036854775807 ∧ K (.s (a ++ b))
    | .eql => K (.b (a == b))
    | .neq => K (.b (!(a == b)))
    | .lss => K (.b (Op.bytesLess a b))
    | .leq => K (.b (Op.bytesLess a b || a == b))
    | .gtr => K (.b (!(Op.bytesLess a b || a == b)))
    | .geq => K (.b (!(Op.bytesLess a b)))
    | _ => False
  | _, _, _ => False
def beqK (op : BinOp) : T → T → (T → Prop) → Prop
  | .b x, .b y, K => match op with
    | .eql => K (.b (x == y))
    | .neq => K (.b (!(x == y)))
    | _ => False
  | _, _, _ => False
def T.nilness : T → Option Bool | .np => some true | .ptr _ _ _ => some false | .pim _ => some false | _ => none
def peqK (op : BinOp) (x y : T) (K : T → Prop) : Prop :=
  match x.nilness, y.nilness with
  | some p, some q => (p = true ∨ q = true) ∧ match op with
    | .eql => K (.b (p && q))
    | .neq => K (.b (!(p && q)))
    | _ => False
  | _, _ => False
/-- How a slice of rows may be told at an operand: the rows, and the block that goes with it. -/
def rowsAt (s : St) : T → Option (List (List T) × List Nat)
  | .nl => some ([], [])
  | .imm rows => some (rows, [])
  | .ref t o n => match hget s.hp t with
    | some (.arr _ rows) => if o + n ≤ rows.length then some ((rows.drop o).take n, [t]) else none
    | _ => none
  | _ => none
def bndLo (lo : Option T) (h : Nat) (K : Nat → Nat → Prop) : Prop :=
  match lo with
  | none => K 0 h
  | some (.i _ l) => (0 ≤ l ∧ l ≤ h) ∧ K l.toNat h
  | _ => False
def bnd (len : Nat) (lo hi : Option T) (K : Nat → Nat → Prop) : Prop :=
  match hi with
  | none => bndLo lo len K
  | some (.i _ h) => (0 ≤ h ∧ h ≤ len) ∧ bndLo lo h.toNat K
  | _ => False

/-- What is handed over whole. -/
def handed1 (s : St) : T → Option T
  | .ref t 0 m => match hget s.hp t with
    | some (.arr sz rows) => if m = rows.length ∧ cleanR rows = true then some (.own sz rows) else none
    | _ => none
  | .ptr t 0 0 => match hget s.hp t with
    | some (.arr _ [cs]) => if cs.all T.clean = true then some (.bx cs) else none
    | _ => none
  | _ => none
/-- A struct's cells: slices and pointers are handed over whole. -/
def handedCs (s : St) : List T → Option (List T)
  | [] => some []
  | c :: cs => match (if c.clean = true then some c else handed1 s c), handedCs s cs with
    | some x, some xs => some (x :: xs)
    | _, _ => none
def handedA (s : St) : T → Option T
  | .agg cs => (handedCs s cs).map .agg
  | t => handed1 s t
/-- The arguments as they are handed over, from number 'j' on; those that 'mu' lists are handed over whole. -/
def handed (s : St) (mu : List Nat) : Nat → List T → Option (List T)
  | _, [] => some []
  | j, a :: as => match (if mu.contains j = true then handedA s a else argI s a), handed s mu (j + 1) as with
    | some x, some ys => some (x :: ys)
    | _, _ => none
/-- The names of the blocks behind the arguments: those that are read, those that are handed over. -/
def named (mu : List Nat) (b : Bool) : Nat → List T → List Nat
  | _, [] => []
  | j, a :: as => (if mu.contains j = b then a.names else []) ++ named mu b (j + 1) as
/-- What was handed over comes back. -/
def back1 : T → T → T → Option (Nat × Blk)
  | .ref t _ m, .own sz _, .own sz' rows => if sz' = sz ∧ rows.length = m then some (t, .arr sz rows) else none
  | .ptr t _ _, .bx cs, .bx cs' => if cs'.length = cs.length then some (t, .arr cs.length [cs']) else none
  | _, _, _ => none
def backCs : List T → List T → List T → Option (List (Nat × Blk))
  | [], [], [] => some []
  | c :: cs, x :: xs, o :: os => match backCs cs xs os with
    | some r => if c.clean = true then some r else (match back1 c x o with
      | some p => some (p :: r)
      | none => none)
    | none => none
  | _, _, _ => none
def backA : T → T → T → Option (List (Nat × Blk))
  | .agg cs, .agg xs, .agg os => backCs cs xs os
  | .agg _, _, _ => none
  | t, x, o => match back1 t x o with
    | some p => some [p]
    | none => none
def back (mu : List Nat) : Nat → List T → List T → List T → Option (List (Nat × Blk))
  | _, [], [], [] => some []
  | j, a :: as, x :: xs, o :: os => match back mu (j + 1) as xs os with
    | some r => if mu.contains j = true then (match backA a x o with
      | some p => some (p ++ r)
      | none => none) else some r
    | none => none
  | _, _, _, _ => none
/-- What is owned by a cell that is read gets a name. -/
def drawn (t sz : Nat) (rows : List (List T)) (r : Nat) (row : List T) (o m : Nat) (x : List T × List (Nat × Blk)) : Δ :=
  if x.2.isEmpty then [] else (t, some (.arr sz (rows.set r (row.take o ++ x.1 ++ row.drop (o + m))))) :: news x.2
def Aext (A : Nat → Prop) (n m : Nat) : Nat → Prop := fun t => A t ∨ (n ≤ t ∧ t < n + m)
section
variable (P : Program)
/-- An operation that has a proof of its own: from these operands, with these blocks, it comes to this value and does this to the blocks. -/
def HookOk (op : Op) (xs : List T) (hp : List (Nat × Blk)) (n : Nat) (v : T) (δ : Δ) : Prop :=
  ∀ (E : Env) (A : Nat → Prop) (ρ : Nat → Option RB) (O : Nat → Prop) (F : Nat → List Nat) (s : St) (a : Act) (w : World) (o : Oper) (ys : List X) (next : Act → World → Prop) (Q : Exit → Act → World → Prop),
    o.op = op → op.operands.toList.mapM opd = some ys → ys.map (·.ev s) = xs → R E A ρ O F s a w → (∀ k, o.dst = some k → k < E.n) → (∀ p ∈ hp, hget s.hp p.1 = some p.2) → E.fb ≤ n → (∀ t, n ≤ t → t < n + δ.length → ¬ A t) →
    (∀ u w', Rel E (Aext A n δ.length) (s.app o.dst v δ) (a.put o.dst u) w' → next (a.put o.dst u) w') → o.wp P a w next Q
/-- A call. What is read of blocks is shared for good behind it where the result may share it. -/
def callK (s : St) (n : Nat) (mu : List Nat) (q : RK) (f : Nat) (args : List T) (K : T → Δ → List Nat → Prop) : Prop :=
  match handed s mu 0 args with
  | none => False
  | some xs => (named mu true 0 args).Nodup ∧ (∀ t ∈ named mu false 0 args, t ∉ named mu true 0 args) ∧ ∃ r outs, Ret P f xs r outs ∧
    match back mu 0 args xs outs, q with
    | some bk, .own => r.noImm = true ∧ noIms outs = true ∧ K (mat r n).1 (news bk ++ news (mat r n).2) (named mu true 0 args ++ named mu false 0 args)
    | some bk, .imm => K r.toI ((named mu false 0 args).map (fun t => (t, none)) ++ news bk) (named mu true 0 args ++ named mu false 0 args)
    | _, _ => False
/-- One step: the value, what it does to the blocks, which blocks it looks at. 'n': the name of the next block. -/
def stepK (s : St) (n : Nat) : PI → (T → Δ → List Nat → Prop) → Prop
  | .mv x, K => K (x.ev s) [] []
  | .pick c a b, K => match c.ev s with
    | .b x => if x = true then K (a.ev s) [] [] else K (b.ev s) [] []
    | _ => False
  | .alloc zs, K => K (.ptr n 0 0) [(n, some (.arr zs.length [zs]))] []
  | .box sz x, K => (x.ev s).cells.length = sz ∧ ((x.ev s).cells.all T.cell) = true ∧ K (.ptr n 0 0) [(n, some (.arr sz [(x.ev s).cells]))] []
  | .build zs ps, K => match parts s zs ps with
    | some cs => K (.agg cs) [] []
    | none => False
  | .mksl sz ps, K => (∀ x ∈ ps, (x.ev s).cells.length = sz ∧ ((x.ev s).cells.all T.cell) = true) ∧ K (.ref n 0 ps.length) [(n, some (.arr sz (ps.map fun x => (x.ev s).cells)))] []
  | .load m x, K => match x.ev s with
    | .ptr t r o => match hget s.hp t with
      | some (.arr sz rows) => match rows[r]? with
        | some row => (o + m.getD 1 ≤ row.length) ∧
            (match m with
              | some _ => fun (k : T → Δ → List Nat → Prop) => k (.agg (mats ((row.drop o).take (m.getD 1)) n).1) (drawn t sz rows r row o (m.getD 1) (mats ((row.drop o).take (m.getD 1)) n)) [t]
              | none => fun k => match (mats ((row.drop o).take 1) n).1 with
                | [v] => k v (drawn t sz rows r row o 1 (mats ((row.drop o).take 1) n)) [t]
                | _ => False) K
        | none => False
      | _ => False
    | .pim cs => (m.getD 1 ≤ cs.length) ∧ (match m with
      | some k => K (.agg (cs.take k)) [] []
      | none => match cs with
        | c :: _ => K c [] []
        | [] => False)
    | _ => False
  | .store m x v, K => match x.ev s with
    | .ptr t r o => match hget s.hp t with
      | some (.arr sz rows) => match rows[r]? with
        | some row => (v.ev s).cells.length = m.getD 1 ∧ o + m.getD 1 ≤ row.length ∧ ((v.ev s).cells.all T.cell) = true ∧
            K .dead [(t, some (.arr sz (rows.set r (row.take o ++ (v.ev s).cells ++ row.drop (o + m.getD 1)))))] [t]
        | none => False
      | _ => False
    | _ => False
  | .fa off x, K => match x.ev s with
    | .ptr t r o => K (.ptr t r (o + off)) [] []
    | .pim cs => off ≤ cs.length ∧ K (.pim (cs.drop off)) [] []
    | _ => False
  | .fld off m x, K => match x.ev s with
    | .agg cs => (off + m.getD 1 ≤ cs.length) ∧ (match m with
      | some k => K (.agg ((cs.drop off).take k)) [] []
      | none => match cs.drop off with
        | c :: _ => K c [] []
        | [] => False)
    | _ => False
  | .ia sz x i, K => match x.ev s, i.ev s with
    | .ref t o len, .i _ k => (0 ≤ k ∧ k < len) ∧ (match hget s.hp t with
      | some (.arr sz' _) => sz' = sz ∧ K (.ptr t (o + k.toNat) 0) [] [t]
      | _ => False)
    | .imm rows, .i _ k => 0 ≤ k ∧ (match rows[k.toNat]? with
      | some row => row.length = sz ∧ K (.pim row) [] []
      | none => False)
    | _, _ => False
  | .ix x i, K => match x.ev s, i.ev s with
    | .s l, .i _ k => 0 ≤ k ∧ (match l[k.toNat]? with
      | some c => K (.i .u8 (c.toNat : Int)) [] []
      | none => False)
    | _, _ => False
  | .bin op x y, K => binK op (x.ev s) (y.ev s) fun v => K v [] []
  | .beq op x y, K => beqK op (x.ev s) (y.ev s) fun v => K v [] []
  | .peq op x y, K => peqK op (x.ev s) (y.ev s) fun v => K v [] []
  | .un op x, K => match op, x.ev s with
    | .not, .b y => K (.b !y) [] []
    | .neg, .i k a => K (.i k (k.wrap (0 - a))) [] []
    | _, _ => False
  | .conv k x, K => match x.ev s with
    | .i _ a => K (.i k (k.wrap a)) [] []
    | _ => False
  | .strid x, K => match x.ev s with
    | .s l => K (.s l) [] []
    | _ => False
  | .tostr x, K => match rowsAt s (x.ev s) with
    | some (rows, ts) => (∃ l : List UInt8, rows = l.map (fun c => [.i .u8 (c.toNat : Int)]) ∧ K (.s l) [] ts)
    | none => False
  | .sls x lo hi, K => match x.ev s with
    | .s l => bnd l.length (lo.map (·.ev s)) (hi.map (·.ev s)) fun a b => K (.s ((l.drop a).take (b - a))) [] []
    | _ => False
  | .sl sz x lo hi, K => match x.ev s with
    | .imm rows => bnd rows.length (lo.map (·.ev s)) (hi.map (·.ev s)) fun a b => (∀ r ∈ rows, r.length = sz) ∧ K (.imm ((rows.drop a).take (b - a))) [] []
    | .ref t o m => bnd m (lo.map (·.ev s)) (hi.map (·.ev s)) fun a b => match hget s.hp t with
      | some (.arr sz' _) => sz' = sz ∧ K (.ref t (o + a) (b - a)) [] [t]
      | _ => False
    | .nl => bnd 0 (lo.map (·.ev s)) (hi.map (·.ev s)) fun a b => K .nl [] []
    | _ => False
  | .lens x, K => match x.ev s with
    | .s l => K (.i .i64 (l.length : Int)) [] []
    | _ => False
  | .len x, K => match x.ev s with
    | .imm rows => K (.i .i64 (rows.length : Int)) [] []
    | .ref _ _ m => K (.i .i64 (m : Int)) [] []
    | .nl => K (.i .i64 0) [] []
    | _ => False
  | .app sz bytes x y, K => match rowsAt s (y.ev s) with
    | some (src, ts) => (∀ r ∈ src, r.length = sz ∧ r.all T.cell = true) ∧ (match x.ev s with
      | .nl => src.length * bytes ≤ 35184372088832 ∧ K (.ref n 0 src.length) [(n, some (.arr sz src))] ts
      | .ref t o m => match hget s.hp t with
        | some (.arr sz' rows) => sz' = sz ∧ o + m ≤ rows.length ∧ t ∉ ts ∧ (m + src.length) * bytes ≤ 35184372088832 ∧
            K (.ref n 0 (m + src.length)) [(t, none), (n, some (.arr sz ((rows.drop o).take m ++ src)))] (t :: ts)
        | _ => False
      | _ => False)
    | none => False
  | .make sz bytes zs x, K => match x.ev s with
    | .i .i64 k => 0 ≤ k ∧ k ≤ 35184372088832 ∧ k * bytes ≤ 35184372088832 ∧ K (.ref n 0 k.toNat) [(n, some (.arr sz (List.replicate k.toNat zs)))] []
    | _ => False
  | .call (.ev mu q) f args, K => callK P s n mu q f (args.map (·.ev s)) K
  | .callv (.ev mu q) f args, K => match f.ev s with
    | .fn g caps => okCall P g = true ∧ callK P s n mu q g (args.map (·.ev s) ++ caps) K
    | _ => False
  | .call .inl _ _, K => False
  | .callv .inl _ _, K => False
  | .ext i x, K => match x.ev s with
    | .tup xs => match xs[i]? with
      | some v => K v [] []
      | none => False
    | _ => False
  | .nilchk x, K => match x.ev s with
    | .ptr t r o => K (.ptr t r o) [] []
    | .pim cs => K (.pim cs) [] []
    | _ => False
  | .mkfn f caps, K => K (.fn f (caps.map (·.ev s))) [] []
  | .hook op ys, K => ∃ hp v δ, (∀ p ∈ hp, hget s.hp p.1 = some p.2) ∧ HookOk P op (ys.map (·.ev s)) hp n v δ ∧ K v δ (hp.map (·.1))
  | .stuck, K => False
end
end Go.Proofs.Ytcchmhmbjhgfdaa.V
