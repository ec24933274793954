/- Part A of the proof of FnExactCrewStep and FnExactCrewRun (wip/xec, pack.py). No condition. -/
import Derived.WalkKit
import Derived.Deep.Quiet
import Derived.LoopN
namespace Go.Proofs.YtgghglocfdcegaaGreat.Xec
open Go Go.RowKit
set_option linter.unusedVariables false
inductive AV where
 | lit (n : Int)
 | int (n : Int)
 | bl (b : Bool)
 | bool (b : Bool)
 | sl (r : Nat)
 | slc (a : Option Addr) (n c : Nat)
 | und
 | agg (l : List AV)
 | tup (l : List AV)
 | raw (v : Value)
 deriving Inhabited
structure Row where
 a : Option Addr
 g : Nat
 p : Nat
 n : Nat
 c : Nat
 sz : Nat
 get : Int → List AV
 pre : List Value := []
 post : List Value := []
 wn : Bool := false
 win : Option Nat := none
 at_ : Int := 0
 ty : Nat := 0
inductive Slot where
 | dead
 | v (x : AV)
 | ptr (i off : Nat)
 | el (r : Nat) (i : Int) (off : Nat)
mutual
def AV.v (R : Nat → Row) : AV → Value
 | .lit n => .int .i64 n
 | .int n => .int .i64 n
 | .bl b => .bool b
 | .bool b => .bool b
 | .sl r => .slice (R r).a (R r).n (R r).c
 | .slc a n c => .slice a n c
 | .und => undef
 | .agg l => .agg (AV.vs R l).toArray
 | .tup l => .tuple (AV.vs R l).toArray
 | .raw v => v
def AV.vs (R : Nat → Row) : List AV → List Value
 | [] => []
 | x :: l => x.v R :: AV.vs R l
end
def Slot.val (R : Nat → Row) (d : Nat → Nat) : Slot → Value
 | .dead => undef
 | .v x => x.v R
 | .ptr i o => .pointer (some ⟨d i, (R i).pre.length + o, none⟩)
 | .el r i o => .pointer (some ⟨(R r).g, (R r).p + i.toNat * (R r).sz + o, none⟩)
inductive Tm where
 | nil
 | node (l : Tm) (s : Slot) (r : Tm)
def Tm.get : Tm → Nat → Slot
 | .nil, _ => .dead
 | .node l s r, i => if i == 0 then s else if i % 2 == 1 then l.get (i / 2) else r.get (i / 2 - 1)
def Tm.put : Tm → Nat → Slot → Tm
 | .nil, _, _ => .nil
 | .node l s r, i, x => if i == 0 then .node l x r else if i % 2 == 1 then .node (l.put (i / 2) x) s r else .node l s (r.put (i / 2 - 1) x)
def Tm.full : Nat → Tm
 | 0 => .nil
 | n + 1 => .node (Tm.full n) .dead (Tm.full n)
def Tm.puts : Tm → List (Nat × Slot) → Tm
 | t, [] => t
 | t, (i, s) :: l => Tm.puts (t.put i s) l
inductive Tr (α : Type) where
 | ret (x : α)
 | ite (b : Bool) (x y : Unit → Tr α)
 | need (b : Bool) (x : Unit → Tr α)
 | stuck (why : Nat)
def Tr.holds {α : Type} (Q : α → Prop) : Tr α → Prop
 | .ret x => Q x
 | .ite b x y => (b = true → (x ()).holds Q) ∧ (b = false → (y ()).holds Q)
 | .need b x => b = true ∧ (x ()).holds Q
 | .stuck _ => False
structure TI where
 ag : Bool
 zero : List AV
 fs : List (Nat × Nat)
 esz : Nat
 bo : Bool
structure Ops where
 add : Int → Int → Int
 sub : Int → Int → Int
 mul : Int → Int → Int
 quo : Int → Int → Int
 rem : Int → Int → Int
 eq : Int → Int → Bool
 ne : Int → Int → Bool
 lt : Int → Int → Bool
 le : Int → Int → Bool
 inb : Int → Nat → Bool
 not : Bool → Bool
 beq : Bool → Bool → Bool
 bne : Bool → Bool → Bool
def std : Ops where
 add a b := wrap64 (a + b)
 sub a b := wrap64 (a - b)
 mul a b := wrap64 (a * b)
 quo a b := wrap64 (a.tdiv b)
 rem a b := a.tmod b
 eq a b := a == b
 ne a b := a != b
 lt a b := decide (a < b)
 le a b := decide (a ≤ b)
 inb i n := decide (0 ≤ i) && decide (i < (n : Int))
 not b := !b
 beq a b := a == b
 bne a b := a != b
structure Cx where
 T : TypeId → Option TI
 O : Ops
 R : Nat → Row
 C : FuncId → Option (List AV → Option AV)
 M : FuncId → Option (List AV → List AV → Option (List AV × AV))
 E : TypeId → Option (List AV → List AV → Option Bool)
structure St where
 n : Nat
 t : Tm
 b : List (List AV)
inductive KI where
 | code (c : Code)
 | ops (all : Array Oper) (l : List Oper)
 | blk (id : Nat)
 | mk (k : Nat) (c : Code)
inductive Leaf where
 | fin (st : St)
 | stop (K : List KI) (st : St)
 | stopS (ops : Array Oper) (W : List Nat) (n : Nat) (K : List KI) (l : List (Nat × Oper)) (st : St)
def evC : Value → Option AV
 | .int .i64 n => some (.lit n)
 | .bool b => some (.bl b)
 | .slice a n c => some (.slc a n c)
 | _ => none
def ev (st : St) : Operand → Slot
 | .tmp t => st.t.get t
 | .const v => match evC v with
   | some x => .v x
   | none => .dead
 | _ => .dead
def evA (st : St) (x : Operand) : Option AV :=
 match ev st x with
 | .v a => some a
 | _ => none
def evL (st : St) : List Operand → Option (List AV)
 | [] => some []
 | x :: r => match evA st x, evL st r with
   | some v, some l => some (v :: l)
   | _, _ => none
def Zdz (st : St) : List (Nat × Operand) → Option (List (Nat × AV))
 | [] => some []
 | (i, x) :: r => match evA st x, Zdz st r with
   | some v, some l => some ((i, v) :: l)
   | _, _ => none
def ZaE : AV → List AV
 | .agg l => l
 | .raw v => v.cells.toList.map .raw
 | x => [x]
def scal : AV → Bool
 | .agg _ => false
 | .tup _ => false
 | .und => false
 | .raw _ => false
 | _ => true
def Zbp : List AV → Nat → List AV → List AV
 | l, _, [] => l
 | l, o, x :: xs => Zbp (l.set o x) (o + 1) xs
def Ze9 (fs : List (Nat × Nat)) (cells : List AV) : List (Nat × AV) → Option (List AV)
 | [] => some cells
 | (i, v) :: r => match fs[i]? with
   | none => none
   | some (off, size) => if (ZaE v).length == size && Nat.ble (off + size) cells.length then Ze9 fs (Zbp cells off (ZaE v)) r else none
def i2 : AV → Option (Bool × Int)
 | .lit n => some (true, n)
 | .int n => some (false, n)
 | _ => none
def b2 : AV → Option (Bool × Bool)
 | .bl b => some (true, b)
 | .bool b => some (false, b)
 | _ => none
def litI : BinOp → Int → Int → Option AV
 | .eql, a, b => some (.bl (a == b))
 | .neq, a, b => some (.bl (a != b))
 | .lss, a, b => some (.bl (decide (a < b)))
 | .leq, a, b => some (.bl (decide (a ≤ b)))
 | .gtr, a, b => some (.bl (decide (b < a)))
 | .geq, a, b => some (.bl (decide (b ≤ a)))
 | _, _, _ => none
def symI (O : Ops) : BinOp → Int → Int → Option (Bool × AV)
 | .add, a, b => some (true, .int (O.add a b))
 | .sub, a, b => some (true, .int (O.sub a b))
 | .mul, a, b => some (true, .int (O.mul a b))
 | .quo, a, b => some (O.ne b 0, .int (O.quo a b))
 | .rem, a, b => some (O.ne b 0, .int (O.rem a b))
 | .eql, a, b => some (true, .bool (O.eq a b))
 | .neq, a, b => some (true, .bool (O.ne a b))
 | .lss, a, b => some (true, .bool (O.lt a b))
 | .leq, a, b => some (true, .bool (O.le a b))
 | .gtr, a, b => some (true, .bool (O.lt b a))
 | .geq, a, b => some (true, .bool (O.le b a))
 | _, _, _ => none
def ZdP : BinOp → Bool
 | .quo => true
 | .rem => true
 | _ => false
def binI (O : Ops) (op : BinOp) (x y : Bool × Int) : Option AV :=
 match x, y with
 | (true, a), (true, b) => match litI op a b with
   | some v => some v
   | none => if ZdP op && b == 0 then none else (symI O op a b).map (·.2)
 | (_, a), (true, b) => if ZdP op && b == 0 then none else (symI O op a b).map (·.2)
 | (_, a), (_, b) => if ZdP op then none else (symI O op a b).map (·.2)
def binB (O : Ops) (op : BinOp) (x y : Bool × Bool) : Option AV :=
 match op with
 | .eql => match x, y with
   | (true, a), (true, b) => some (.bl (a == b))
   | (_, a), (_, b) => some (.bool (O.beq a b))
 | .neq => match x, y with
   | (true, a), (true, b) => some (.bl (a != b))
   | (_, a), (_, b) => some (.bool (O.bne a b))
 | _ => none
def binX (X : Cx) (op : BinOp) (t : TypeId) (x y : AV) : Option AV :=
 match i2 x, i2 y with
 | some a, some b => binI X.O op a b
 | _, _ => match b2 x, b2 y with
   | some a, some b => match X.T t with
     | some i => if i.bo then binB X.O op a b else none
     | none => none
   | _, _ => match x, y with
     | .agg l, .agg m => match op, X.E t with
       | .eql, some f => (f l m).map .bool
       | .neq, some f => (f l m).map fun b => .bool (X.O.not b)
       | _, _ => none
     | _, _ => none
def unX (O : Ops) (op : UnOp) (x : AV) : Option AV :=
 match op, x with
 | .neg, .lit n => some (.int (O.sub 0 n))
 | .neg, .int n => some (.int (O.sub 0 n))
 | .not, .bl b => some (.bl (!b))
 | .not, .bool b => some (.bool (O.not b))
 | _, _ => none
def lenX (R : Nat → Row) : AV → Option AV
 | .sl r => some (.int (R r).n)
 | .slc _ n _ => some (.int n)
 | _ => none
def qOp (X : Cx) (o : Oper) (st : St) : Slot :=
 match o.op with
 | .move x => ev st x
 | .assign x => ev st x
 | .nilCheck x => match ev st x with
   | .ptr i k => .ptr i k
   | _ => .dead
 | .build t parts => match X.T t with
   | some i => match Zdz st parts.toList with
     | some ps => if i.ag then (match Ze9 i.fs i.zero ps with
       | some cs => .v (.agg cs)
       | none => .dead) else .dead
     | none => .dead
   | none => .dead
 | .load t a => match X.T t with
   | some i => match ev st a with
     | .ptr b off => match st.b[b]? with
       | some cs => if i.ag then (if Nat.ble (off + i.zero.length) cs.length then .v (.agg ((cs.drop off).take i.zero.length)) else .dead) else (match cs[off]? with
         | some v => .v v
         | none => .dead)
       | none => .dead
     | .el r k off => if i.ag then (if Nat.ble (off + i.zero.length) ((X.R r).get k).length then .v (.agg ((((X.R r).get k).drop off).take i.zero.length)) else .dead) else (match ((X.R r).get k)[off]? with
        | some v => .v v
        | none => .dead)
     | _ => .dead
   | none => .dead
 | .fieldAddr t x f => match X.T t with
   | some i => match i.fs[f]? with
     | some (k, _) => match ev st x with
       | .ptr b off => .ptr b (off + k)
       | .el r j off => .el r j (off + k)
       | _ => .dead
     | none => .dead
   | none => .dead
 | .binOp op t x y _ => match evA st x, evA st y with
   | some a, some b => match binX X op t a b with
     | some v => .v v
     | none => .dead
   | _, _ => .dead
 | .unOp op _ x => match evA st x with
   | some a => match unX X.O op a with
     | some v => .v v
     | none => .dead
   | none => .dead
 | .pick c a b => match evA st c with
   | some (.bl true) => ev st a
   | some (.bl false) => ev st b
   | _ => .dead
 | .extract t i => match evA st t with
   | some (.tup l) => match l[i]? with
     | some v => .v v
     | none => .dead
   | _ => .dead
 | .call c => match c.callee with
   | .value (.func f) => match X.C f with
     | some g => match evL st c.args.toList with
       | some l => match g l with
         | some v => .v v
         | none => .dead
       | none => .dead
     | none => .dead
   | .builtin .len => match c.args.toList with
     | [x] => match evA st x with
       | some v => match c.argTypes.toList with
         | [t] => match X.T t with
           | some i => if Nat.blt 0 i.esz then (match lenX X.R v with
             | some n => .v n
             | none => .dead) else .dead
           | none => .dead
         | _ => .dead
       | none => .dead
     | _ => .dead
   | _ => .dead
 | _ => .dead
inductive Res where
 | ok (s : Slot) (b : List (List AV))
 | need (c : Bool) (s : Slot) (b : List (List AV))
 | no
def ZbR (X : Cx) (o : Oper) (st : St) : Option (Bool × Slot) :=
 match o.op with
 | .binOp op t x y _ => if ZdP op then (match evA st x, evA st y with
   | some a, some b => match i2 a, i2 b with
     | some (_, n), some (_, m) => match symI X.O op n m with
       | some (c, v) => some (c, .v v)
       | none => none
     | _, _ => none
   | _, _ => none) else none
 | .indexAddr t x k => match X.T t with
   | some i => match evA st x with
     | some (.sl r) => match evA st k with
       | some v => match i2 v with
         | some (_, n) => if i.esz == (X.R r).sz && Nat.blt 0 i.esz then (match (X.R r).win with
           | none => some (X.O.inb n (X.R r).n, .el r n 0)
           | some b => some (X.O.eq n (X.R r).at_, .ptr b 0)) else none
         | none => none
       | none => none
     | _ => none
   | none => none
 | _ => none
def exOp (X : Cx) (o : Oper) (st : St) : Res :=
 match qOp X o st with
 | .dead => match ZbR X o st with
  | some (c, s) => .need c s st.b
  | none => match o.op with
   | .alloc t => match X.T t with
     | some i => .ok (.ptr st.b.length 0) (st.b ++ [i.zero])
     | none => .no
   | .box t x => match evA st x with
     | some v => .ok (.ptr st.b.length 0) (st.b ++ [ZaE v])
     | none => .no
   | .store t a x => match X.T t with
     | some i => match ev st a with
       | .ptr b off => match evA st x with
         | some v => match st.b[b]? with
           | some cs => if (ZaE v).length == i.zero.length && (Nat.ble (off + i.zero.length) cs.length && (ZaE v).all scal) then .ok (.v .und) (st.b.set b (Zbp cs off (ZaE v))) else .no
           | none => .no
         | none => .no
       | _ => .no
     | none => .no
   | .call c => match c.callee with
     | .value (.func f) => match X.M f with
       | some g => match c.args.toList with
         | x :: xs => match ev st x with
           | .ptr b 0 => match evL st xs with
             | some l => match if (X.R b).wn then none else st.b[b]? with
               | some cs => match g cs l with
                 | some (cs', v) => .ok (.v v) (st.b.set b cs')
                 | none => .no
               | none => .no
             | none => .no
           | _ => .no
         | [] => .no
       | none => .no
     | _ => .no
   | _ => .no
 | s => .ok s st.b
def putX (st : St) (d : Option Tmp) (s : Slot) (b : List (List AV)) : Option St :=
 match d with
 | some i => if Nat.blt i st.n then some ⟨st.n, st.t.put i s, b⟩ else none
 | none => some ⟨st.n, st.t, b⟩
inductive Gd where
 | known (b : Bool)
 | ask (d : Nat) (q want : Bool)
 | bad
def Zbw (all : Array Oper) (st : St) (o : Oper) : Gd :=
 match o.guard with
 | none => .known true
 | some (j, want) => match all[j]? with
   | some oj => match oj.dst with
     | some d => match st.t.get d with
       | .v (.bl b) => .known (b == want)
       | .v (.bool q) => .ask d q want
       | .v .und => .known false
       | _ => .bad
     | none => .bad
   | none => .bad
def Zcn (id : Nat) : List KI → Option (List KI)
 | [] => none
 | .blk i :: K => if i == id then some K else Zcn id K
 | .code _ :: K => Zcn id K
 | .ops _ _ :: K => Zcn id K
 | .mk _ _ :: K => Zcn id K
def isSt (o : Oper) : Bool :=
 match o.op with
 | .store .. => true
 | _ => false
def isDr (o : Oper) : Bool := isSt o || match o.op with
 | .call c => match c.callee with
   | .value (.func f) => f == 7 || f == 13
   | _ => false
 | _ => false
def isAl (o : Oper) : Bool :=
 match o.op with
 | .alloc _ => true
 | _ => false
def ZcN : Op → Bool
 | .call c => match c.callee with
   | .value _ => true
   | _ => false
 | _ => false
def isFn (o : Oper) : Bool := ZcN o.op
def isMk (o : Oper) : Bool :=
 match o.op with
 | .buildSlice .. => true
 | .call c => match c.callee with
   | .builtin .append => true
   | _ => false
 | _ => false
def Zay (W : List Nat) : Nat → List (List AV) → List (List AV)
 | _, [] => []
 | i, c :: b => (if W.contains i then [] else c) :: Zay W (i + 1) b
def Zgd (L : List Nat) (o : Oper) : Bool := o.after.toList.all fun e => match e.ground with
 | .textOnly _ => true
 | .gcOnly _ => true
 | _ => L.contains e.on
def Zez (L : List Nat) : List (Nat × Oper) → List (Nat × Oper) → Option ((Nat × Oper) × List (Nat × Oper))
 | _, [] => none
 | past, (i, o) :: r => if !isSt o && (!isAl o && (!isFn o && (!isMk o && Zgd L o))) then some ((i, o), past.reverse ++ r) else Zez L ((i, o) :: past) r
def ZcM (L : List Nat) : List (Nat × Oper) → List (Nat × Oper) → Option ((Nat × Oper) × List (Nat × Oper))
 | _, [] => none
 | past, (i, o) :: r => if Zgd L o then some ((i, o), past.reverse ++ r) else ZcM L ((i, o) :: past) r
def Zdl : Nat → List Nat → List (Nat × Oper) → List (Nat × Oper)
 | 0, _, _ => []
 | n + 1, L, p => match Zez L [] p with
   | some (x, p) => x :: Zdl n (x.1 :: L) p
   | none => match ZcM L [] p with
     | some (x, p) => x :: Zdl n (x.1 :: L) p
     | none => []
def Zcp : Nat → List Oper → List (Nat × Oper)
 | _, [] => []
 | i, o :: l => (i, o) :: Zcp (i + 1) l
def ZbP (ops : List Oper) : List (Nat × Oper) := Zdl ops.length [] (Zcp 0 ops)
def Zgc : Nat → List Nat → List (Nat × Oper) → List Nat
 | 0, _, _ => []
 | n + 1, L, p => match Zez L [] p with
   | some (x, p) => Zgc n (x.1 :: L) p
   | none => match ZcM L [] p with
     | some (x, q) => if isMk x.2 || q.any (fun y => Zgd L y.2) then [x.1] else Zgc n (x.1 :: L) q
     | none => []
def hand (ops : List Oper) : List Nat := Zgc ops.length [] (Zcp 0 ops)
def ZdH : List (Nat × Oper) → List Nat
 | [] => []
 | (i, o) :: l => if isSt o then i :: ZdH l else ZdH l
def dsOf (ops : List Oper) : List Nat := if (hand ops).isEmpty then [] else ZdH (Zcp 0 ops)
def wrOf (X : Cx) : List (Nat × Oper) → St → List Nat
 | [], _ => []
 | (_, o) :: l, st => match o.op with
   | .store _ a _ => match ev st a with
     | .ptr b _ => b :: wrOf X l st
     | _ => wrOf X l st
   | _ => match qOp X o st with
     | .dead => match ZbR X o st with
       | some (_, s) => match putX st o.dst s st.b with
         | some st => wrOf X l st
         | none => []
       | none => wrOf X l st
     | s => match putX st o.dst s st.b with
       | some st => wrOf X l st
       | none => []
def segA (X : Cx) (H D : List Nat) (L0 : Nat) (kont : St → Tr Leaf) : List (Nat × Oper) → St → Tr Leaf
 | [], st => kont st
 | (i, o) :: l, st => if H.contains i || D.contains i then .stuck 46 else match o.guard with
   | some _ => .stuck 40
   | none => match o.op with
     | .store _ a _ => match ev st a with
       | .ptr b _ => if Nat.ble L0 b then (match exOp X o st with
         | .ok s b => match putX st o.dst s b with
           | some st => segA X H D L0 kont l st
           | none => .stuck 41
         | _ => .stuck 42) else .stuck 43
       | _ => .stuck 44
     | _ => .stuck 45
def segS (X : Cx) (H D : List Nat) (W : List Nat) (kont : St → Tr Leaf) (mk : List (Nat × Oper) → St → Tr Leaf) : List (Nat × Oper) → St → Tr Leaf
 | [], st => kont st
 | (i, o) :: l, st => if H.contains i then mk ((i, o) :: l) st else if D.contains i then .stuck 47 else match o.guard with
   | some _ => .stuck 30
   | none => if isSt o then (match o.op with
      | .store _ a _ => match ev st a with
        | .ptr b _ => if W.contains b then (match exOp X o st with
          | .ok s b => match putX st o.dst s b with
            | some st => segS X H D W kont mk l st
            | none => .stuck 31
          | _ => .stuck 32) else .stuck 33
        | _ => .stuck 34
      | _ => .stuck 35)
     else (match qOp X o ⟨st.n, st.t, Zay W 0 st.b⟩ with
      | .dead => match ZbR X o st with
        | some (c, s) => .need c (fun _ => match putX st o.dst s st.b with
          | some st => segS X H D W kont mk l st
          | none => .stuck 39)
        | none => if isFn o then mk ((i, o) :: l) st else if isAl o then (match exOp X o st with
          | .ok s b => match putX st o.dst s b with
            | some st' => segA X H D st.b.length kont l st'
            | none => .stuck 37
          | _ => .stuck 38) else .stuck 36
      | s => match putX st o.dst s st.b with
        | some st => segS X H D W kont mk l st
        | none => .stuck 37)
def opQ (X : Cx) (kont : St → Tr Leaf) (o : Oper) (wanted : Bool) (st : St) : Tr Leaf :=
 if wanted then (match qOp X o st with
  | .dead => match ZbR X o st with
    | some (c, s) => .need c (fun _ => match putX st o.dst s st.b with
      | some st => kont st
      | none => .stuck 19)
    | none => .stuck 10
  | s => match putX st o.dst s st.b with
    | some st => kont st
    | none => .stuck 11)
 else match putX st o.dst (.v .und) st.b with
  | some st => kont st
  | none => .stuck 12
def segQ (X : Cx) (all : Array Oper) (kont : St → Tr Leaf) : List Oper → St → Tr Leaf
 | [], st => kont st
 | o :: l, st => match Zbw all st o with
   | .known g => opQ X (fun st => segQ X all kont l st) o g st
   | .ask d q want => .ite q (fun _ => opQ X (fun st => segQ X all kont l st) o want ⟨st.n, st.t.put d (.v (.bl true)), st.b⟩) (fun _ => opQ X (fun st => segQ X all kont l st) o (!want) ⟨st.n, st.t.put d (.v (.bl false)), st.b⟩)
   | .bad => .stuck 17
def ZgR : Code → Bool
 | .loop _ => true
 | _ => false
def seg (X : Cx) : Nat → List KI → St → Tr Leaf
 | 0, K, st => .ret (.stop K st)
 | n + 1, K, st => match K with
   | [] => .ret (.fin st)
   | .blk _ :: K => seg X n K st
   | .ops _ [] :: K => seg X n K st
   | .mk k c :: K => .ret (.stop (.mk k c :: K) st)
   | .ops all (o :: l) :: K => match Zbw all st o with
     | .known true => match exOp X o st with
       | .ok s b => match putX st o.dst s b with
         | some st => seg X n (.ops all l :: K) st
         | none => .stuck 1
       | .need c s b => .need c (fun _ => match putX st o.dst s b with
         | some st => seg X n (.ops all l :: K) st
         | none => .stuck 2)
       | .no => .ret (.stop (.ops all (o :: l) :: K) st)
     | .known false => match putX st o.dst (.v .und) st.b with
       | some st => seg X n (.ops all l :: K) st
       | none => .stuck 3
     | .ask d q want => .ite q (fun _ => seg X n (.ops all (o :: l) :: K) ⟨st.n, st.t.put d (.v (.bl true)), st.b⟩) (fun _ => seg X n (.ops all (o :: l) :: K) ⟨st.n, st.t.put d (.v (.bl false)), st.b⟩)
     | .bad => .stuck 4
   | .code c :: K => match c with
     | .skip => seg X n K st
     | .seq a b => seg X n (.code a :: .code b :: K) st
     | .region _ ops false => seg X n (.ops ops ops.toList :: K) st
     | .region _ ops true => if ops.toList.any isDr then segS X (hand ops.toList) (dsOf ops.toList) (if (dsOf ops.toList).isEmpty then wrOf X (ZbP ops.toList) st else []) (fun st => seg X n K st) (fun l s => .ret (.stopS ops (if (dsOf ops.toList).isEmpty then wrOf X (ZbP ops.toList) st else []) n K l s)) (ZbP ops.toList) st else segQ X ops (fun st => seg X n K st) ops.toList st
     | .cond c a b => match ev st c with
       | .v (.bl true) => seg X n (.code a :: K) st
       | .v (.bl false) => seg X n (.code b :: K) st
       | .v (.bool q) => match c with
         | .tmp d => .ite q (fun _ => seg X n (.code a :: K) ⟨st.n, st.t.put d (.v (.bl true)), st.b⟩) (fun _ => seg X n (.code b :: K) ⟨st.n, st.t.put d (.v (.bl false)), st.b⟩)
         | _ => .stuck 5
       | _ => .stuck 6
     | .block id b => seg X n (.code b :: .blk id :: K) st
     | .exit id => match Zcn id K with
       | some K => seg X n K st
       | none => .stuck 7
     | .ret => .ret (.fin st)
     | c => .ret (.stop (.code c :: K) st)
def resX (X : Cx) (st : St) : ResultVar → Option AV
 | .tmp t => match st.t.get t with
   | .v x => some x
   | _ => none
 | .cell p ty => match X.T ty with
   | some i => match st.t.get p with
     | .ptr b 0 => match if (X.R b).wn then none else st.b[b]? with
       | some cs => if i.ag && cs.length == i.zero.length then some (.agg cs) else none
       | none => none
     | _ => none
   | none => none
def resL (X : Cx) (st : St) : List ResultVar → Option (List AV)
 | [] => some []
 | x :: r => match resX X st x, resL X st r with
   | some v, some l => some (v :: l)
   | _, _ => none
def Zbb (X : Cx) (st : St) (rs : List ResultVar) : Option AV :=
 match rs with
 | [r] => resX X st r
 | rs => match resL X st rs with
   | some l => some (.tup l)
   | none => none
def ZbV : Tm → Nat → List Slot → Tm
 | t, _, [] => t
 | t, i, s :: l => ZbV (t.put i s) (i + 1) l
def ZaY (dep n : Nat) (ss : List Slot) (b : List (List AV)) : St := ⟨n, ZbV (Tm.full dep) 0 ss, b⟩
def Zbo : List AV → List Slot
 | [] => []
 | x :: l => .v x :: Zbo l
def c1 (f : Int → AV) : List AV → Option AV
 | [x] => match i2 x with
   | some (_, a) => some (f a)
   | none => none
 | _ => none
def c2 (f : Int → Int → AV) : List AV → Option AV
 | [x, y] => match i2 x with
   | some (_, a) => match i2 y with
     | some (_, b) => some (f a b)
     | none => none
   | none => none
 | _ => none
def c3 (f : Int → Int → Int → AV) : List AV → Option AV
 | [x, y, z] => match i2 x with
   | some (_, a) => match i2 y with
     | some (_, b) => match i2 z with
       | some (_, c) => some (f a b c)
       | none => none
     | none => none
   | none => none
 | _ => none
end Go.Proofs.YtgghglocfdcegaaGreat.Xec
namespace Go.Proofs.YtgghglocfdcegaaGreat.Xec
open Go Go.RowKit
set_option linter.unusedVariables false
set_option linter.unusedSimpArgs false
theorem ZeM (R : Nat → Row) : ∀ l : List AV, AV.vs R l = l.map (AV.v R)
 | [] => rfl
 | x :: l => by simp only [AV.vs, ZeM R l, List.map_cons]
theorem Zbz (R : Nat → Row) (l : List AV) : (AV.vs R l).length = l.length := by rw [ZeM, List.length_map]
theorem Zcg (R : Nat → Row) (l : List AV) (i : Nat) : (AV.vs R l)[i]? = (l[i]?).map (AV.v R) := by rw [ZeM, List.getElem?_map]
theorem Zdb (R : Nat → Row) (x : AV) : (x.v R).cells = (AV.vs R (ZaE x)).toArray := by
 cases x with
 | raw v =>
   have : ∀ l : List Value, AV.vs R (l.map .raw) = l := by
    intro l
    induction l with
    | nil => rfl
    | cons x l ih => simp only [List.map_cons, AV.vs, AV.v, ih]
   simp only [AV.v, ZaE, this, Array.toArray_toList]
 | _ => simp [AV.v, AV.vs, ZaE, Value.cells, undef]
theorem Zgs (R : Nat → Row) (x : AV) (h : scal x = true) : (x.v R).oneCell' = true := by
 cases x <;> simp_all [AV.v, scal, Value.oneCell']
theorem Zcb : ∀ (n i : Nat), (Tm.full n).get i = .dead
 | 0, _ => rfl
 | n + 1, i => by
   simp only [Tm.full, Tm.get, Zcb n]
   split
   ·rfl
   ·split <;> rfl
theorem Za8 : ∀ (t : Tm) (i j : Nat) (s : Slot), (t.put i s).get j = .dead ∨ (t.put i s).get j = if i = j then s else t.get j
 | .nil, i, j, s => .inl rfl
 | .node l v r, i, j, s => by
   simp only [Tm.put]
   by_cases h0 : i = 0
   ·subst h0
    simp only [beq_self_eq_true, if_true, Tm.get]
    by_cases hj : j = 0
    ·subst hj; right; simp
    ·right; simp [hj, Ne.symm hj]
   ·have e0 : (i == 0) = false := by simpa using h0
    simp only [e0, Bool.false_eq_true, if_false]
    by_cases h1 : i % 2 = 1
    ·simp only [h1, beq_self_eq_true, if_true, Tm.get]
     by_cases hj : j = 0
     ·subst hj; right; simp [h0]
     ·have ej : (j == 0) = false := by simpa using hj
      simp only [ej, Bool.false_eq_true, if_false]
      by_cases hj1 : j % 2 = 1
      ·simp only [hj1, beq_self_eq_true, if_true]
       rcases Za8 l (i / 2) (j / 2) s with h | h
       ·exact .inl h
       ·right
        rw [h]
        by_cases e : i = j
        ·subst e; simp
        ·rw [if_neg e, if_neg (by omega)]
      ·have ej1 : (j % 2 == 1) = false := by simpa using hj1
       simp only [ej1, Bool.false_eq_true, if_false]
       right
       rw [if_neg (by rintro rfl; exact hj1 h1)]
    ·have e1 : (i % 2 == 1) = false := by simpa using h1
     simp only [e1, Bool.false_eq_true, if_false, Tm.get]
     by_cases hj : j = 0
     ·subst hj; right; simp [h0]
     ·have ej : (j == 0) = false := by simpa using hj
      simp only [ej, Bool.false_eq_true, if_false]
      by_cases hj1 : j % 2 = 1
      ·simp only [hj1, beq_self_eq_true, if_true]
       right
       rw [if_neg (by rintro rfl; exact h1 hj1)]
      ·have ej1 : (j % 2 == 1) = false := by simpa using hj1
       simp only [ej1, Bool.false_eq_true, if_false]
       rcases Za8 r (i / 2 - 1) (j / 2 - 1) s with h | h
       ·exact .inl h
       ·right
        rw [h]
        by_cases e : i = j
        ·subst e; simp
        ·rw [if_neg e, if_neg (by omega)]
structure Upd (S : Nat → Prop) (w w' : World) : Prop where
 os : w'.os = w.os
 tape : w'.tape = w.tape
 output : w'.output = w.output
 size : w.heap.size ≤ w'.heap.size
 block : ∀ k, k < w.heap.size → ¬ S k → w'.heap[k]? = w.heap[k]?
theorem Upd.refl (S : Nat → Prop) (w : World) : Upd S w w := ⟨rfl, rfl, rfl, Nat.le_refl _, fun _ _ _ => rfl⟩
theorem Upd.trans {S S' : Nat → Prop} {a b c : World} (h : Upd S a b) (k : Upd S' b c) (hs : ∀ x, S' x → x < a.heap.size → S x) : Upd S a c :=
 ⟨k.os.trans h.os, k.tape.trans h.tape, k.output.trans h.output, Nat.le_trans h.size k.size, fun i hi hn => (k.block i (Nat.lt_of_lt_of_le hi h.size) (fun h' => hn (hs i h' hi))).trans (h.block i hi hn)⟩
theorem Upd.of_below {w w' : World} (h : Below w.heap.size w w') (S : Nat → Prop) : Upd S w w' := ⟨h.os, h.tape, h.output, h.size, fun k hk _ => h.block k hk⟩
theorem Upd.below {S : Nat → Prop} {w w' : World} (h : Upd S w w') (hS : ∀ k, ¬ S k) : Below w.heap.size w w' := ⟨h.os, h.tape, h.output, h.size, fun k hk => h.block k hk (hS k)⟩
theorem Upd.mono {S S' : Nat → Prop} {w w' : World} (h : Upd S w w') (hs : ∀ k, S k → S' k) : Upd S' w w' := ⟨h.os, h.tape, h.output, h.size, fun k hk hn => h.block k hk (fun h' => hn (hs k h'))⟩
def Bx (d : Nat → Nat) (n : Nat) : Nat → Prop := fun k => ∃ i, i < n ∧ k = d i
structure Rel (R : Nat → Row) (d : Nat → Nat) (st : St) (a : Act) : Prop where
 defers : a.defers = []
 size : a.tmps.size = st.n
 slot : ∀ i, st.t.get i = .dead ∨ a.tmps[i]? = some ((st.t.get i).val R d)
 ok : ∀ i b o, st.t.get i = .ptr b o → b < st.b.length
 okE : ∀ i r k o, st.t.get i = .el r k o → 0 ≤ k ∧ k < ((R r).n : Int) ∧ (R r).win = none
structure Zak (R : Nat → Row) (d1 : Nat → Nat) (n1 : Nat) (w1 : World) (d : Nat → Nat) (b : List (List AV)) (w : World) : Prop where
 box : ∀ i cs, b[i]? = some cs → ∃ ty, ((R i).wn = true → ty = (R i).ty) ∧ w.heap[d i]? = some (.cells ((R i).pre ++ (AV.vs R cs ++ (R i).post)).toArray ty (0, 0))
 inj : ∀ i j, i < b.length → j < b.length → d i = d j → i = j
 len : n1 ≤ b.length
 old : ∀ i, i < n1 → d i = d1 i
 new : ∀ i, n1 ≤ i → i < b.length → w1.heap.size ≤ d i
 upd : Upd (Bx d1 n1) w1 w
def ZaV (R : Nat → Row) (S : Nat → Prop) (w : World) (r : Nat) : Prop := (R r).win = none → ∀ i : Nat, i < (R r).n → (R r).a = some ⟨(R r).g, (R r).p, none⟩ ∧ ¬ S (R r).g ∧ (R r).g < w.heap.size ∧ ((R r).get i).length = (R r).sz ∧ ∀ q x, ((R r).get i)[q]? = some x → w.cell? ⟨(R r).g, (R r).p + i * (R r).sz + q, none⟩ = some (x.v R)
def Ze2 : TypeDesc → Bool
 | .struct _ => false
 | .array _ _ => false
 | _ => true
structure TIok (P : Program) (t : TypeId) (i : TI) : Prop where
 size : (P.info? t).map (·.size) = some i.zero.length
 zero : ∀ R, ∃ it z, P.info? t = some it ∧ it.zero = some z ∧ z.cells = (AV.vs R i.zero).toArray
 agg : i.ag = true → ∃ fs, P.underlying t = some (.struct fs) ∧ fs.toList.mapM (fun f => (P.info? f.type).map fun j => (f.offset, j.size)) = some i.fs ∧ i.fs.all (fun p => p.2 != 0) = true
 one : i.ag = false → ∃ d, P.underlying t = some d ∧ Ze2 d = true ∧ i.fs = []
 esz : 0 < i.esz → ∃ e, P.underlying t = some (.slice e) ∧ (P.info? e).map (·.size) = some i.esz
 bo : i.bo = true → P.underlying t = some .bool
structure CxOk (P : Program) (X : Cx) (d1 : Nat → Nat) (n1 : Nat) (w1 : World) : Prop where
 T : ∀ t i, X.T t = some i → TIok P t i
 nz : ∀ t i, X.T t = some i → i.zero ≠ []
 O : X.O = std
 R : ∀ r, ZaV X.R (Bx d1 n1) w1 r
 C : ∀ f g l v, X.C f = some g → g l = some v → (∃ fn, P.funcs[f]? = some fn ∧ (fn.name == "runtime.NumGoroutine") = false ∧ fn.body.isSome = true) ∧ ∀ w, Upd (Bx d1 n1) w1 w → Calls P f (AV.vs X.R l).toArray w fun e w' => e = .returned (v.v X.R) ∧ Below w.heap.size w w'
 M : ∀ f g cs l cs' v, X.M f = some g → g cs l = some (cs', v) → (∃ fn, P.funcs[f]? = some fn ∧ (fn.name == "runtime.NumGoroutine") = false ∧ fn.body.isSome = true) ∧ cs'.length = cs.length ∧ ∀ w b ty, Upd (Bx d1 n1) w1 w → w.heap[b]? = some (.cells (AV.vs X.R cs).toArray ty (0, 0)) → Calls P f ((Value.pointer (some ⟨b, 0, none⟩)) :: AV.vs X.R l).toArray w fun e w' => e = .returned (v.v X.R) ∧ (∃ ty, w'.heap[b]? = some (.cells (AV.vs X.R cs').toArray ty (0, 0))) ∧ Upd (fun k => k = b) w w'
 E : ∀ t f l m q, X.E t = some f → f l m = some q → ∀ x y w, (eqGuard .eql t x y (.agg (AV.vs X.R l).toArray) (.agg (AV.vs X.R m).toArray)).run P w = .ok () w ∧ (eqGuard .neq t x y (.agg (AV.vs X.R l).toArray) (.agg (AV.vs X.R m).toArray)).run P w = .ok () w ∧ (Op.equal t (.agg (AV.vs X.R l).toArray) (.agg (AV.vs X.R m).toArray)).run P w = .ok q w
 W : ∀ i, (X.R i).wn = false → (X.R i).pre = [] ∧ (X.R i).post = []
 W1 : ∀ i, n1 ≤ i → (X.R i).wn = false
 V : ∀ r b, (X.R r).win = some b → b < n1 ∧ (X.R r).a = some ⟨d1 b, 0, none⟩ ∧ 0 ≤ (X.R r).at_ ∧ (X.R r).at_ < ((X.R r).n : Int) ∧ (X.R b).pre.length = (X.R r).at_.toNat * (X.R r).sz
theorem ZgN (R : Nat → Row) {v : Value} {x : AV} (h : evC v = some x) : x.v R = v := by
 unfold evC at h
 split at h
 ·injection h with h; subst h; rfl
 ·injection h with h; subst h; rfl
 ·injection h with h; subst h; rfl
 ·cases h
section
variable {P : Program} {X : Cx} {d1 : Nat → Nat} {n1 : Nat} {w1 : World} {d : Nat → Nat} {st : St} {a : Act} {w : World}
theorem Za9 (h : Rel X.R d st a) {x : Operand} (hx : ev st x ≠ .dead) : a.eval x = (ev st x).val X.R d := by
 cases x with
 | tmp t =>
   simp only [ev] at hx ⊢
   rcases h.slot t with hd | hs
   ·exact absurd hd hx
   ·show a.tmps.getD t undef = _
    rw [Array.getD_eq_getD_getElem?, hs]; rfl
 | const v =>
   simp only [ev] at hx ⊢
   cases hc : evC v with
   | none => simp [hc] at hx
   | some y => exact (ZgN X.R hc).symm
 | global g => simp [ev] at hx
 | func f => simp [ev] at hx
theorem Zaz (h : Rel X.R d st a) {x : Operand} {v : AV} (hx : evA st x = some v) : a.eval x = v.v X.R := by
 unfold evA at hx
 split at hx
 ·rename_i y hy
  injection hx with hx
  subst hx
  rw [Za9 h (by rw [hy]; simp), hy]
  rfl
 ·cases hx
theorem ZgC (h : Rel X.R d st a) {x : Operand} {b o : Nat} (hx : ev st x = .ptr b o) : b < st.b.length := by
 cases x with
 | tmp t => exact h.ok t b o hx
 | const v => simp only [ev] at hx; split at hx <;> cases hx
 | global g => simp [ev] at hx
 | func f => simp [ev] at hx
theorem Zfb (h : Rel X.R d st a) {x : Operand} {r o : Nat} {k : Int} (hx : ev st x = .el r k o) : 0 ≤ k ∧ k < ((X.R r).n : Int) ∧ (X.R r).win = none := by
 cases x with
 | tmp t => exact h.okE t r k o hx
 | const v => simp only [ev] at hx; split at hx <;> cases hx
 | global g => simp [ev] at hx
 | func f => simp [ev] at hx
theorem Zbv (h : Rel X.R d st a) : ∀ {xs : List Operand} {l : List AV}, evL st xs = some l → xs.map a.eval = AV.vs X.R l
 | [], l, hx => by injection hx with hx; subst hx; rfl
 | x :: xs, l, hx => by
   unfold evL at hx
   split at hx
   ·rename_i v l' h1 h2
    injection hx with hx
    subst hx
    simp only [List.map_cons, AV.vs, Zaz h h1, Zbv h h2]
   ·cases hx
theorem Zdy (h : Rel X.R d st a) : ∀ {xs : List (Nat × Operand)} {l : List (Nat × AV)}, Zdz st xs = some l → xs.map (fun p => (p.1, a.eval p.2)) = l.map (fun p => (p.1, p.2.v X.R))
 | [], l, hx => by injection hx with hx; subst hx; rfl
 | (i, x) :: xs, l, hx => by
   unfold Zdz at hx
   split at hx
   ·rename_i v l' h1 h2
    injection hx with hx
    subst hx
    simp only [List.map_cons, Zaz h h1, Zdy h h2]
   ·cases hx
end
theorem ZdK : ∀ (xs : List AV) (l : List AV) (o : Nat), (Zbp l o xs).length = l.length
 | [], l, o => rfl
 | x :: xs, l, o => by simp only [Zbp, ZdK xs, List.length_set]
theorem ZfG (R : Nat → Row) (l : List AV) (i : Nat) (x : AV) : AV.vs R (l.set i x) = (AV.vs R l).set i (x.v R) := by
 rw [ZeM, ZeM, List.map_set]
theorem ZbT (R : Nat → Row) : ∀ (xs : List AV) (l : List AV) (off k : Nat),
 ((AV.vs R xs).zipIdx k).foldl (fun (cs : Array Value) p => cs.setIfInBounds (off + p.2) p.1) (AV.vs R l).toArray = (AV.vs R (Zbp l (off + k) xs)).toArray
 | [], l, off, k => rfl
 | x :: xs, l, off, k => by
   simp only [AV.vs, List.zipIdx_cons, List.foldl_cons, Zbp]
   rw [List.setIfInBounds_toArray, ← ZfG, ZbT R xs _ off (k + 1), Nat.add_assoc]
theorem Zen (R : Nat → Row) (fs : List (Nat × Nat)) : ∀ (ps : List (Nat × AV)) (cells cs : List AV), Ze9 fs cells ps = some cs →
 Instr.fill (fun i => fs.toArray[i]?) (AV.vs R cells).toArray (ps.map fun p => (p.1, p.2.v R)) = some (AV.vs R cs).toArray
 | [], cells, cs, h => by injection h with h; subst h; rfl
 | (i, v) :: ps, cells, cs, h => by
   unfold Ze9 at h
   cases hf : fs[i]? with
   | none => rw [hf] at h; cases h
   | some p =>
     obtain ⟨off, size⟩ := p
     rw [hf] at h
     simp only at h
     split at h
     ·rename_i hc
      simp only [Bool.and_eq_true, beq_iff_eq, Nat.ble_eq] at hc
      simp only [List.map_cons, Instr.fill]
      rw [show fs.toArray[i]? = some (off, size) by simpa using hf]
      simp only
      rw [Zdb, List.size_toArray, Zbz, List.size_toArray, Zbz, if_neg (by simp; omega)]
      have e : ((AV.vs R (ZaE v)).toArray.zipIdx.foldl (fun (cs : Array Value) (x : Value × Nat) => cs.setIfInBounds (off + x.2) x.1) (AV.vs R cells).toArray) = (AV.vs R (Zbp cells off (ZaE v))).toArray := by
       have := ZbT R (ZaE v) cells off 0
       rw [Nat.add_zero] at this
       rw [← this]
       simp
      exact (congrArg (fun z => Instr.fill _ z _) e).trans (Zen R fs ps _ cs h)
     ·cases h
theorem Zeh {α β : Type} (g : α → Option β) : ∀ (l : List α) (r : List β), l.mapM g = some r → ∀ (i : Nat) (y : β), r[i]? = some y → ∃ x, l[i]? = some x ∧ g x = some y
 | [], r, h, i, y, hy => by
   simp at h
   subst h
   simp at hy
 | x :: l, r, h, i, y, hy => by
   simp only [List.mapM_cons, Option.bind_eq_bind, Option.pure_def] at h
   obtain ⟨u, hu, h⟩ := Option.bind_eq_some_iff.1 h
   obtain ⟨us, hus, h⟩ := Option.bind_eq_some_iff.1 h
   injection h with h
   subst h
   cases i with
   | zero => exact ⟨x, rfl, by simpa [hu] using hy⟩
   | succ i => exact Zeh g l us hus i y (by simpa using hy)
theorem add_at (g o n : Nat) : (⟨g, o, none⟩ : Addr).add n = ⟨g, o + n, none⟩ := Addr.add_lit g o n
theorem Zek (n : Int) : IntKind.i64.wrap n = wrap64 n := by unfold Go.RowKit.wrap64; exact IntKind.wrap_i64 n
section
variable {P : Program}
theorem Zdm {t : TypeId} {i : TI} (hT : TIok P t i) (w : World) : (isAgg t).run P w = .ok i.ag w := by
 cases h : i.ag with
 | true =>
   obtain ⟨fs, hu, -, -⟩ := hT.agg h
   unfold isAgg
   rw [Sem.run_bind, run_underlying hu w]
   rfl
 | false =>
   obtain ⟨dd, hu, hd, -⟩ := hT.one h
   unfold isAgg
   rw [Sem.run_bind, run_underlying hu w]
   cases dd <;> simp_all [Ze2]
theorem Zd8 {t : TypeId} {i : TI} (hT : TIok P t i) (w : World) : (sizeOf t).run P w = .ok i.zero.length w := by
 have := hT.size
 cases hq : P.info? t with
 | none => simp [hq] at this
 | some j =>
   have hs : j.size = i.zero.length := by simpa [hq] using this
   simp [sizeOf, typeInfo, hq, hs]
theorem Zc4 {t : TypeId} {i : TI} (hT : TIok P t i) (hag : i.ag = true) {g o : Nat} {w : World} (cs : List Value) (hl : cs.length = i.zero.length) (hc : ∀ j v, cs[j]? = some v → w.cell? ⟨g, o + j, none⟩ = some v) : (loadVar t ⟨g, o, none⟩).run P w = .ok (.agg cs.toArray) w := by
 have h1 := Zdm hT w
 have h2 := Zd8 hT w
 have h3 := run_loadCells_list (P := P) w ⟨g, o, none⟩ cs (fun j v hv => by rw [add_at]; exact hc j v hv)
 rw [hl] at h3
 rw [hag] at h1
 simp [loadVar, Sem.run_bind, h1, h2, h3]
theorem Zei {t : TypeId} {i : TI} (hT : TIok P t i) (hag : i.ag = false) {g o : Nat} {w : World} {v : Value} (hc : w.cell? ⟨g, o, none⟩ = some v) : (loadVar t ⟨g, o, none⟩).run P w = .ok v w := by
 have h1 := Zdm hT w
 rw [hag] at h1
 simp [loadVar, Sem.run_bind, h1, hc]
theorem Zdn {t : TypeId} {i : TI} (hT : TIok P t i) {f k s : Nat} (hf : i.fs[f]? = some (k, s)) (g o : Nat) (w : World) : (Instr.fieldAt t (.pointer (some ⟨g, o, none⟩)) f).run P w = .ok (.pointer (some ⟨g, o + k, none⟩)) w := by
 cases hag : i.ag with
 | false =>
   obtain ⟨dd, hu, hd, hfs⟩ := hT.one hag
   rw [hfs] at hf
   simp at hf
 | true =>
   obtain ⟨fs, hu, hm, hz⟩ := hT.agg hag
   obtain ⟨fld, h1, h2⟩ := Zeh _ _ _ hm f (k, s) hf
   have hs : s ≠ 0 := by
    have := List.all_eq_true.1 hz (k, s) (List.mem_of_getElem? hf)
    simpa using this
   cases hq : P.info? fld.type with
   | none => simp [hq] at h2
   | some j =>
     obtain ⟨rfl, rfl⟩ : fld.offset = k ∧ j.size = s := by simpa [hq] using h2
     have hfa : fs[f]? = some fld := by simpa using h1
     have hso : (sizeOf fld.type).run P w = .ok j.size w := by simp [sizeOf, typeInfo, hq]
     simp [Instr.fieldAt, Sem.run_bind, run_underlying hu, hfa, Instr.sureAddr, fieldPlace, hso, hs, add_at]
theorem Zew {f : FuncId} {fn : Func} (hf : P.funcs[f]? = some fn) (hname : (fn.name == "runtime.NumGoroutine") = false) (hb : fn.body.isSome = true) (args : Array Value) (w : World) : (callFunc f args).run P w = .ok (.enter f args) w := by
 have h1 : fn.name ≠ "runtime.NumGoroutine" := by simpa using hname
 obtain ⟨c, hc⟩ := Option.isSome_iff_exists.1 hb
 simp [callFunc, hf, h1, hc]
theorem Zba {o : Oper} {a : Act} {c : Call} {f : FuncId} {fn : Func} (ho : o.op = .call c) (hc : c.callee = .value (.func f)) (hf : P.funcs[f]? = some fn) (hname : (fn.name == "runtime.NumGoroutine") = false) (hb : fn.body.isSome = true) (w : World) : (execOp a.eval o).run P w = .ok (.enter f (c.args.map a.eval)) w := by
 have he := Zew hf hname hb (c.args.map a.eval) w
 unfold execOp
 simp [ho, resolve, hc, Deferred.ofValue, invoke, Act.eval, he]
theorem ZeU (op : BinOp) (t : TypeId) (x y : Operand) (a b : Int) (w : World) (hb : ZdP op = true → b ≠ 0) {v : AV} {c : Bool} (h : symI std op a b = some (c, v)) (R : Nat → Row) :
 (do eqGuard op t x y (.int .i64 a) (.int .i64 b); binOp op t (.int .i64 a) (.int .i64 b) : Sem Value).run P w = .ok (v.v R) w := by
 cases op <;> simp only [symI, std, Option.some.injEq, Prod.mk.injEq, reduceCtorEq] at h <;> obtain ⟨-, rfl⟩ := h <;>
  simp [binOp, Op.intArith, Op.intCmp, Op.intDiv, AV.v, Zek, go_sem]
 all_goals first | (have := hb rfl; simp [this]; done) | (have := hb rfl; rw [if_neg this]; simp; done) | omega | rfl
theorem Zf7 (op : BinOp) (t : TypeId) (x y : Operand) (a b : Int) (w : World) {v : AV} (h : litI op a b = some v) (R : Nat → Row) :
 (do eqGuard op t x y (.int .i64 a) (.int .i64 b); binOp op t (.int .i64 a) (.int .i64 b) : Sem Value).run P w = .ok (v.v R) w := by
 cases op <;> simp only [litI, Option.some.injEq, reduceCtorEq] at h <;> subst h <;>
  simp [binOp, Op.intCmp, AV.v, go_sem]
theorem i2_v (R : Nat → Row) {x : AV} {p : Bool × Int} (h : i2 x = some p) : x.v R = .int .i64 p.2 := by
 cases x <;> simp [i2] at h <;> subst h <;> rfl
theorem b2_v (R : Nat → Row) {x : AV} {p : Bool × Bool} (h : b2 x = some p) : x.v R = .bool p.2 := by
 cases x <;> simp [b2] at h <;> subst h <;> rfl
theorem Zfz (op : BinOp) (t : TypeId) (x y : Operand) (p q : Bool × Int) (w : World) {v : AV} (h : binI std op p q = some v) (R : Nat → Row) :
 (do eqGuard op t x y (.int .i64 p.2) (.int .i64 q.2); binOp op t (.int .i64 p.2) (.int .i64 q.2) : Sem Value).run P w = .ok (v.v R) w := by
 have sym : ∀ (a b : Int), (if ZdP op && b == 0 then none else (symI std op a b).map (·.2)) = some v → (do eqGuard op t x y (.int .i64 a) (.int .i64 b); binOp op t (.int .i64 a) (.int .i64 b) : Sem Value).run P w = .ok (v.v R) w := by
  intro a b h
  split at h
  ·cases h
  ·rename_i hc
   cases hs : symI std op a b with
   | none => rw [hs] at h; cases h
   | some z =>
     obtain ⟨c, u⟩ := z
     rw [hs] at h
     injection h with h
     subst h
     exact ZeU op t x y a b w (fun hd hb => hc (by simp [hd, hb])) hs R
 obtain ⟨p1, a⟩ := p
 obtain ⟨q1, b⟩ := q
 cases p1 <;> cases q1 <;> simp only [binI] at h
 ·split at h
  ·cases h
  ·rename_i hc
   exact sym a b (by rw [if_neg (by simp [hc])]; exact h)
 ·exact sym a b h
 ·split at h
  ·cases h
  ·rename_i hc
   exact sym a b (by rw [if_neg (by simp [hc])]; exact h)
 ·cases hl : litI op a b with
  | some u =>
    rw [hl] at h
    injection h with h
    subst h
    exact Zf7 op t x y a b w hl R
  | none =>
    rw [hl] at h
    exact sym a b h
theorem Zf8 {t : TypeId} (hu : P.underlying t = some .bool) (a b : Bool) (w : World) : (Op.equal t (.bool a) (.bool b)).run P w = .ok (a == b) w := by
 show (Op.equalIn (9999 + 1) t (.bool a) (.bool b)).run P w = _
 generalize (9999 : Nat) = n
 simp [Op.equalIn, Sem.run_bind, run_underlying hu]
theorem ZfA (op : BinOp) {t : TypeId} (hu : P.underlying t = some .bool) (x y : Operand) (p q : Bool × Bool) (w : World) {v : AV} (h : binB std op p q = some v) (R : Nat → Row) :
 (do eqGuard op t x y (.bool p.2) (.bool q.2); binOp op t (.bool p.2) (.bool q.2) : Sem Value).run P w = .ok (v.v R) w := by
 obtain ⟨p1, a⟩ := p
 obtain ⟨q1, b⟩ := q
 have he := Zf8 hu a b w
 cases op <;> simp only [binB, reduceCtorEq] at h
 ·cases p1 <;> cases q1 <;> simp only [std, Option.some.injEq] at h <;> subst h <;> simp [binOp, he, AV.v, go_sem]
 ·cases p1 <;> cases q1 <;> simp only [std, Option.some.injEq] at h <;> subst h <;> simp [binOp, he, AV.v, go_sem] <;> cases a <;> cases b <;> rfl
theorem Zf4 (op : UnOp) {x v : AV} (w : World) (R : Nat → Row) (h : unX std op x = some v) : (Op.unary op (x.v R)).run P w = .ok (v.v R) w := by
 cases op <;> cases x <;> simp only [unX, std, Option.some.injEq, reduceCtorEq] at h <;> subst h <;> simp [Op.unary, Op.intArith, AV.v, Zek]
section
variable {P : Program} {X : Cx} {d1 : Nat → Nat} {n1 : Nat} {w1 : World} {d : Nat → Nat} {st : St} {a : Act}
theorem ZeW (hX : CxOk P X d1 n1 w1) {w : World} {b : List (List AV)} (hr : Zak X.R d1 n1 w1 d b w) {r : Nat} {i : Int} (h0 : 0 ≤ i) (hn : i < ((X.R r).n : Int) ∧ (X.R r).win = none) : (X.R r).a = some ⟨(X.R r).g, (X.R r).p, none⟩ ∧ ((X.R r).get i).length = (X.R r).sz ∧ ∀ q x, ((X.R r).get i)[q]? = some x → w.cell? ⟨(X.R r).g, (X.R r).p + i.toNat * (X.R r).sz + q, none⟩ = some (x.v X.R) := by
 obtain ⟨k, rfl⟩ : ∃ k : Nat, i = (k : Int) := ⟨i.toNat, by omega⟩
 obtain ⟨h1, h2, -, h3, h4⟩ := hX.R r hn.2 k (by omega)
 refine ⟨h1, h3, fun q x hq => ?_⟩
 have hc := h4 q x hq
 have hlt : (X.R r).g < w1.heap.size := block_lt_of_cell hc
 rw [Int.toNat_natCast]
 unfold World.cell? at hc ⊢
 rw [hr.upd.block _ hlt h2]
 exact hc
theorem Zdp {o : Oper} {C : World → Prop} {w : World} {u v : Value} (h : (execOp a.eval o).run P w = .ok (.value u) w) (e : u = v) : o.quietAt P a C w v := by
 unfold Oper.quietAt
 rw [h]
 exact ⟨rfl, e⟩
theorem ZfN {s : Sem Value} {w w' : World} {u : Value} (h : s.run P w = .ok u w') : (do pure (Next.value (← s)) : Sem Next).run P w = .ok (.value u) w' := by
 rw [Sem.run_bind, h]
 rfl
theorem ZbX {s : Sem Value} {w : World} {u : Value} (h : s.run P w = .ok u w) : (do pure (Next.value (← s)) : Sem Next).run P w = .ok (.value u) w := by
 rw [Sem.run_bind, h]
 rfl
end
end
section
variable {P : Program} {X : Cx} {d1 : Nat → Nat} {n1 : Nat} {w1 : World} {d : Nat → Nat} {st : St} {a : Act}
def SOk (R : Nat → Row) (n : Nat) (s : Slot) : Prop := (∀ b o, s = .ptr b o → b < n) ∧ ∀ r k o, s = .el r k o → 0 ≤ k ∧ k < ((R r).n : Int) ∧ (R r).win = none
theorem SOk.v (R : Nat → Row) (n : Nat) (x : AV) : SOk R n (.v x) := ⟨fun _ _ h => (by cases h), fun _ _ _ h => (by cases h)⟩
theorem SOk.ev (h : Rel X.R d st a) (x : Operand) : SOk X.R st.b.length (ev st x) := ⟨fun _ _ hx => ZgC h hx, fun _ _ _ hx => Zfb h hx⟩
theorem ZfF {p q l : List Value} {i : Nat} {v : Value} (ty : TypeId) (w : World) (g : Nat) (h : l[i]? = some v) : (p ++ (l ++ q)).toArray[p.length + i]? = some v := by
 have hi := (List.getElem?_eq_some_iff.1 h).1
 rw [List.getElem?_toArray, List.getElem?_append_right (Nat.le_add_right _ _), Nat.add_sub_cancel_left, List.getElem?_append_left hi, h]
theorem Zak.below {b : List (List AV)} {w w' : World} (hr : Zak X.R d1 n1 w1 d b w) (h : Below w.heap.size w w') : Zak X.R d1 n1 w1 d b w' := by
 refine ⟨fun i cs hi => ?_, hr.inj, hr.len, hr.old, hr.new, hr.upd.trans (Upd.of_below h (fun _ => False)) (fun _ hf _ => hf.elim)⟩
 obtain ⟨ty, hty, ht⟩ := hr.box i cs hi
 refine ⟨ty, hty, ?_⟩
 rw [h.block _ (Array.getElem?_eq_some_iff.1 ht).1, ht]
def QAt (P : Program) (a : Act) (o : Oper) (C : World → Prop) (w : World) (v : Value) : Prop :=
 if isFn o then o.quietAt P a C w v else (execOp a.eval o).run P w = .ok (.value v) w
theorem QAt.quiet {o : Oper} {C : World → Prop} {w : World} {v : Value} (h : QAt P a o C w v) : o.quietAt P a C w v := by
 unfold QAt at h
 split at h
 ·exact h
 ·exact Zdp h rfl
theorem Zbx {o : Oper} {op : Op} (ho : o.op = op) (h : ZcN op = false) : isFn o = false := by
 unfold isFn
 rw [ho]
 exact h
theorem q_at {o : Oper} {C : World → Prop} {w : World} {u v : Value} (hf : isFn o = false) (h : (execOp a.eval o).run P w = .ok (.value u) w) (e : u = v) : QAt P a o C w v := by
 unfold QAt
 rw [hf]
 subst e
 exact h
theorem Zbg (hX : CxOk P X d1 n1 w1) (hR : Rel X.R d st a) {o : Oper} (h : qOp X o st ≠ .dead) :
 (∀ w, Zak X.R d1 n1 w1 d st.b w → QAt P a o (Zak X.R d1 n1 w1 d st.b) w ((qOp X o st).val X.R d)) ∧ SOk X.R st.b.length (qOp X o st) := by
 unfold qOp at h ⊢
 split at h
 ·rename_i x ho
  exact ⟨fun w hr => q_at (Zbx ho rfl) (BigFrame.run_move x ho w) (Za9 hR h), SOk.ev hR x⟩
 ·rename_i x ho
  exact ⟨fun w hr => q_at (Zbx ho rfl) (BigFrame.run_assign x ho w) (Za9 hR h), SOk.ev hR x⟩
 ·rename_i x ho
  split at h
  ·rename_i i k he
   have hv := Za9 hR (x := x) (by rw [he]; simp)
   rw [he] at hv
   refine ⟨fun w hr => q_at (Zbx ho rfl) (u := .pointer (some ⟨d i, (X.R i).pre.length + k, none⟩)) ?_ rfl, by rw [← he]; exact SOk.ev hR x⟩
   simp only [execOp, ho, hv, Slot.val]
   rfl
  ·exact absurd rfl h
 ·rename_i t parts ho
  cases hT : X.T t with
  | none => simp [hT] at h
  | some i =>
    simp only [hT] at h ⊢
    cases hp : Zdz st parts.toList with
    | none => simp [hp] at h
    | some ps =>
      simp only [hp] at h ⊢
      cases hag : i.ag with
      | false => simp [hag] at h
      | true =>
        simp only [hag, if_true] at h ⊢
        cases hf : Ze9 i.fs i.zero ps with
        | none => simp [hf] at h
        | some cs =>
          simp only [hf] at h ⊢
          refine ⟨fun w hr => q_at (Zbx ho rfl) (u := .agg (AV.vs X.R cs).toArray) ?_ rfl, SOk.v ..⟩
          obtain ⟨it, z, h1, h2, h3⟩ := (hX.T t i hT).zero X.R
          obtain ⟨fs, hu, hm, -⟩ := (hX.T t i hT).agg hag
          have hb : P.built t (parts.map fun (i, x) => (i, a.eval x)).toList = some (AV.vs X.R cs).toArray := by
           have e : (parts.map fun (i, x) => (i, a.eval x)).toList = ps.map fun p => (p.1, p.2.v X.R) := by
            rw [Array.toList_map]
            exact Zdy hR hp
           rw [e]
           unfold Program.built
           simp only [h1, hu, h2, hm, h3]
           exact Zen X.R i.fs ps i.zero cs hf
          simp only [execOp, ho]
          exact ZbX (run_build w t _ _ hb)
 ·rename_i t x ho
  cases hT : X.T t with
  | none => simp [hT] at h
  | some i =>
    simp only [hT] at h ⊢
    split at h
    ·rename_i b off he
     have hv := Za9 hR (x := x) (by rw [he]; simp)
     rw [he] at hv
     try simp only [he] at h ⊢
     cases hb : st.b[b]? with
     | none => simp [hb] at h
     | some cs =>
       simp only [hb] at h ⊢
       have cell : ∀ w, Zak X.R d1 n1 w1 d st.b w → ∀ q v, cs[q]? = some v → w.cell? ⟨d b, (X.R b).pre.length + q, none⟩ = some (v.v X.R) := by
        intro w hr q v hq
        obtain ⟨ty, -, ht⟩ := hr.box b cs hb
        rw [cell_of_row w (d b) _ _ ty (0, 0) ht]
        exact ZfF ty w (d b) (by rw [Zcg, hq]; rfl)
       cases hag : i.ag with
       | true =>
         simp only [hag, if_true] at h ⊢
         split at h
         ·rename_i hle
          rw [if_pos hle]
          simp only [Nat.ble_eq] at hle
          refine ⟨fun w hr => q_at (Zbx ho rfl) (u := .agg (AV.vs X.R ((cs.drop off).take i.zero.length)).toArray) ?_ rfl, SOk.v ..⟩
          simp only [execOp, ho, hv, Slot.val]
          refine ZbX ?_
          simp only [Instr.loadAt, Instr.sureAddr, Sem.run_bind, Sem.run_pure, Result.andThen_ok]
          refine Zc4 (hX.T t i hT) hag _ (by rw [Zbz]; simp; omega) (fun j v hj => ?_)
          rw [Zcg, List.getElem?_take] at hj
          split at hj
          ·rw [List.getElem?_drop] at hj
           cases hc : cs[off + j]? with
           | none => simp [hc] at hj
           | some u =>
             rw [hc] at hj
             injection hj with hj
             subst hj
             rw [Nat.add_assoc]
             exact cell w hr _ _ hc
          ·simp at hj
         ·exact absurd rfl h
       | false =>
         simp only [hag, Bool.false_eq_true, if_false] at h ⊢
         cases hc : cs[off]? with
         | none => simp [hc] at h
         | some u =>
           try simp only [hc] at h ⊢
           refine ⟨fun w hr => q_at (Zbx ho rfl) (u := u.v X.R) ?_ rfl, SOk.v ..⟩
           simp only [execOp, ho, hv, Slot.val]
           refine ZbX ?_
           simp only [Instr.loadAt, Instr.sureAddr, Sem.run_bind, Sem.run_pure, Result.andThen_ok]
           exact Zei (hX.T t i hT) hag (cell w hr _ _ hc)
    ·rename_i r k off he
     have hv := Za9 hR (x := x) (by rw [he]; simp)
     rw [he] at hv
     obtain ⟨hk0, hkn⟩ := Zfb hR he
     try simp only [he] at h ⊢
     cases hag : i.ag with
     | true =>
       simp only [hag, if_true] at h ⊢
       split at h
       ·rename_i hle
        rw [if_pos hle]
        simp only [Nat.ble_eq] at hle
        refine ⟨fun w hr => q_at (Zbx ho rfl) (u := .agg (AV.vs X.R ((((X.R r).get k).drop off).take i.zero.length)).toArray) ?_ rfl, SOk.v ..⟩
        simp only [execOp, ho, hv, Slot.val]
        refine ZbX ?_
        simp only [Instr.loadAt, Instr.sureAddr, Sem.run_bind, Sem.run_pure, Result.andThen_ok]
        obtain ⟨-, -, hc⟩ := ZeW hX hr hk0 hkn
        refine Zc4 (hX.T t i hT) hag _ (by rw [Zbz]; simp; omega) (fun j v hj => ?_)
        rw [Zcg, List.getElem?_take] at hj
        split at hj
        ·rw [List.getElem?_drop] at hj
         cases hcc : ((X.R r).get k)[off + j]? with
         | none => simp [hcc] at hj
         | some u =>
           rw [hcc] at hj
           injection hj with hj
           subst hj
           rw [Nat.add_assoc]
           exact hc _ _ hcc
        ·simp at hj
       ·exact absurd rfl h
     | false =>
       simp only [hag, Bool.false_eq_true, if_false] at h ⊢
       cases hcc : ((X.R r).get k)[off]? with
       | none => simp [hcc] at h
       | some u =>
         simp only [hcc] at h ⊢
         refine ⟨fun w hr => q_at (Zbx ho rfl) (u := u.v X.R) ?_ rfl, SOk.v ..⟩
         simp only [execOp, ho, hv, Slot.val]
         refine ZbX ?_
         simp only [Instr.loadAt, Instr.sureAddr, Sem.run_bind, Sem.run_pure, Result.andThen_ok]
         exact Zei (hX.T t i hT) hag ((ZeW hX hr hk0 hkn).2.2 _ _ hcc)
    ·exact absurd rfl h
 ·rename_i t x f ho
  cases hT : X.T t with
  | none => simp [hT] at h
  | some i =>
    simp only [hT] at h ⊢
    cases hf : i.fs[f]? with
    | none => simp [hf] at h
    | some ks =>
      obtain ⟨k, s⟩ := ks
      simp only [hf] at h ⊢
      split at h
      ·rename_i b off he
       have hv := Za9 hR (x := x) (by rw [he]; simp)
       rw [he] at hv
       try simp only [he] at h ⊢
       refine ⟨fun w hr => q_at (Zbx ho rfl) (u := .pointer (some ⟨d b, (X.R b).pre.length + off + k, none⟩)) ?_ (by rw [Nat.add_assoc]; rfl), ?_, fun _ _ _ h => (by cases h)⟩
       ·simp only [execOp, ho, hv, Slot.val]
        exact ZbX (Zdn (hX.T t i hT) hf _ _ w)
       ·rintro b' o' e
        injection e with e1 e2
        subst e1
        exact ZgC hR he
      ·rename_i r j off he
       have hv := Za9 hR (x := x) (by rw [he]; simp)
       rw [he] at hv
       try simp only [he] at h ⊢
       refine ⟨fun w hr => q_at (Zbx ho rfl) (u := .pointer (some ⟨(X.R r).g, (X.R r).p + j.toNat * (X.R r).sz + off + k, none⟩)) ?_ (by rw [Nat.add_assoc]; rfl), fun _ _ h => (by cases h), ?_⟩
       ·simp only [execOp, ho, hv, Slot.val]
        exact ZbX (Zdn (hX.T t i hT) hf _ _ w)
       ·rintro r' j' o' e
        injection e with e1 e2 e3
        subst e1 e2
        exact Zfb hR he
      ·exact absurd rfl h
 ·rename_i op t x y ty ho
  cases hx : evA st x with
  | none => simp [hx] at h
  | some u =>
    cases hy : evA st y with
    | none => simp [hx, hy] at h
    | some v =>
      simp only [hx, hy] at h ⊢
      cases hb : binX X op t u v with
      | none => simp [hb] at h
      | some z =>
        simp only [hb] at h ⊢
        refine ⟨fun w hr => q_at (Zbx ho rfl) (u := z.v X.R) ?_ rfl, SOk.v ..⟩
        simp only [execOp, ho, Zaz hR hx, Zaz hR hy]
        refine ZbX ?_
        unfold binX at hb
        rw [hX.O] at hb
        split at hb
        ·rename_i p q h1 h2
         rw [i2_v X.R h1, i2_v X.R h2]
         exact Zfz op t x y p q w hb X.R
        ·split at hb
         ·rename_i p q h1 h2
          rw [b2_v X.R h1, b2_v X.R h2]
          cases hT : X.T t with
          | none => simp [hT] at hb
          | some i =>
            simp only [hT] at hb
            split at hb
            ·rename_i hbo
             exact ZfA op ((hX.T t i hT).bo hbo) x y p q w hb X.R
            ·cases hb
         ·split at hb
          ·rename_i l m _ _
           split at hb
           ·rename_i f he
            cases hq : f l m with
            | none => simp [hq] at hb
            | some q =>
              simp only [hq, Option.map_some, Option.some.injEq] at hb
              subst hb
              obtain ⟨h1, h2, h3⟩ := hX.E t f l m q he hq x y w
              simp only [AV.v]
              rw [Sem.run_bind, h1]
              simp [binOp, h3]
           ·rename_i f he
            cases hq : f l m with
            | none => simp [hq] at hb
            | some q =>
              simp only [hq, Option.map_some, Option.some.injEq] at hb
              subst hb
              obtain ⟨h1, h2, h3⟩ := hX.E t f l m q he hq x y w
              simp only [AV.v]
              rw [Sem.run_bind, h2]
              simp [binOp, h3, std]
           ·cases hb
          ·cases hb
 ·rename_i op t x ho
  cases hx : evA st x with
  | none => simp [hx] at h
  | some u =>
    simp only [hx] at h ⊢
    cases hb : unX X.O op u with
    | none => simp [hb] at h
    | some z =>
      simp only [hb] at h ⊢
      refine ⟨fun w hr => q_at (Zbx ho rfl) (u := z.v X.R) ?_ rfl, SOk.v ..⟩
      simp only [execOp, ho, Zaz hR hx]
      rw [hX.O] at hb
      exact ZbX (Zf4 op w X.R hb)
 ·rename_i c x y ho
  split at h
  ·rename_i hc
   have hv := Zaz hR hc
   try simp only [hc] at h ⊢
   refine ⟨fun w hr => q_at (Zbx ho rfl) (u := a.eval x) ?_ (Za9 hR h), SOk.ev hR x⟩
   simp [execOp, ho, hv, AV.v, asBool]
  ·rename_i hc
   have hv := Zaz hR hc
   try simp only [hc] at h ⊢
   refine ⟨fun w hr => q_at (Zbx ho rfl) (u := a.eval y) ?_ (Za9 hR h), SOk.ev hR y⟩
   simp [execOp, ho, hv, AV.v, asBool]
  ·exact absurd rfl h
 ·rename_i x k ho
  split at h
  ·rename_i l hl
   have hv := Zaz hR hl
   try simp only [hl] at h ⊢
   cases hk : l[k]? with
   | none => simp [hk] at h
   | some v =>
     simp only [hk] at h ⊢
     refine ⟨fun w hr => q_at (Zbx ho rfl) (u := v.v X.R) ?_ rfl, SOk.v ..⟩
     simp only [execOp, ho, hv]
     refine ZbX ?_
     simp [Instr.extract, AV.v, Zcg, hk]
  ·exact absurd rfl h
 ·rename_i c ho
  split at h
  ·rename_i f hc
   try simp only [hc] at h ⊢
   cases hC : X.C f with
   | none => simp [hC] at h
   | some g =>
     simp only [hC] at h ⊢
     cases hl : evL st c.args.toList with
     | none => simp [hl] at h
     | some l =>
       try simp only [hl] at h ⊢
       cases hg : g l with
       | none => simp [hg] at h
       | some v =>
         simp only [hg] at h ⊢
         obtain ⟨⟨fn, hf, hn, hb⟩, hcall⟩ := hX.C f g l v hC hg
         refine ⟨fun w hr => ?_, SOk.v ..⟩
         unfold QAt
         rw [if_pos (by unfold isFn; rw [ho]; simp only [ZcN, hc])]
         unfold Oper.quietAt
         rw [Zba ho hc hf hn hb w]
         refine ⟨rfl, ?_⟩
         have e : c.args.map a.eval = (AV.vs X.R l).toArray := by
          rw [← Zbv hR hl, ← Array.toList_map, Array.toArray_toList]
         rw [e]
         exact (hcall w hr.upd).mono fun e w' ⟨he, hbl⟩ => ⟨he, hr.below hbl⟩
  ·rename_i hc
   try simp only [hc] at h ⊢
   split at h
   ·rename_i x hargs
    try simp only [hargs] at h ⊢
    cases hx : evA st x with
    | none => simp [hx] at h
    | some u =>
      simp only [hx] at h ⊢
      split at h
      ·rename_i t hts
       try simp only [hts] at h ⊢
       cases hT : X.T t with
       | none => simp [hT] at h
       | some i =>
         simp only [hT] at h ⊢
         split at h
         ·rename_i hpos
          rw [if_pos hpos]
          simp only [Nat.blt_eq] at hpos
          cases hn : lenX X.R u with
          | none => simp [hn] at h
          | some n =>
            simp only [hn] at h ⊢
            refine ⟨fun w hr => q_at (Zbx ho (by simp only [ZcN, hc])) (u := n.v X.R) ?_ rfl, SOk.v ..⟩
            obtain ⟨el, hu, -⟩ := (hX.T t i hT).esz hpos
            have hv := Zaz hR hx
            have ha : c.args = #[x] := by rw [← Array.toArray_toList (xs := c.args), hargs]
            have ht : c.argTypes = #[t] := by rw [← Array.toArray_toList (xs := c.argTypes), hts]
            have run : ∀ ty, (Builtin.len_ c.argTypes ty #[a.eval x]).run P w = .ok (n.v X.R) w := by
             intro ty
             rw [hv, ht]
             cases u <;> simp only [lenX, Option.some.injEq, reduceCtorEq] at hn <;> subst hn <;>
              simp [Builtin.len_, run_underlying hu, AV.v, goInt]
            simp [execOp, ho, resolve, hc, invoke, builtin, ha, run]
         ·exact absurd rfl h
      ·exact absurd rfl h
   ·exact absurd rfl h
  ·exact absurd rfl h
 ·exact absurd rfl h
theorem ZbI (hX : CxOk P X d1 n1 w1) (hR : Rel X.R d st a) {o : Oper} {s : Slot} (h : ZbR X o st = some (true, s)) :
 (∀ w b, Zak X.R d1 n1 w1 d b w → (execOp a.eval o).run P w = .ok (.value (s.val X.R d)) w) ∧ ∀ n, n1 ≤ n → SOk X.R n s := by
 unfold ZbR at h
 split at h
 ·rename_i op t x y ty ho
  split at h
  ·split at h
   ·rename_i u v hx hy
    split at h
    ·rename_i p n q m h1 h2
     cases hs : symI X.O op n m with
     | none => simp [hs] at h
     | some cv =>
       obtain ⟨c, z⟩ := cv
       simp only [hs, Option.some.injEq, Prod.mk.injEq] at h
       obtain ⟨rfl, rfl⟩ := h
       rw [hX.O] at hs
       refine ⟨fun w b hr => ?_, fun n _ => SOk.v ..⟩
       simp only [execOp, ho, Zaz hR hx, Zaz hR hy]
       refine ZbX ?_
       rw [i2_v X.R h1, i2_v X.R h2]
       refine ZeU op t x y n m w (fun hd => ?_) hs X.R
       cases op <;> simp only [symI, std, Option.some.injEq, Prod.mk.injEq, ZdP, Bool.false_eq_true] at hs hd
       ·simpa using hs.1
       ·simpa using hs.1
    ·simp at h
   ·simp at h
  ·simp at h
 ·rename_i t x k ho
  cases hT : X.T t with
  | none => simp [hT] at h
  | some i =>
    simp only [hT] at h
    split at h
    ·rename_i r hx
     cases hk : evA st k with
     | none => simp [hk] at h
     | some v =>
       simp only [hk] at h
       cases h2 : i2 v with
       | none => simp [h2] at h
       | some pn =>
         obtain ⟨p, n⟩ := pn
         simp only [h2] at h
         split at h
         ·rename_i hc
          simp only [Bool.and_eq_true, beq_iff_eq, Nat.blt_eq] at hc
          obtain ⟨el, hu, hi⟩ := (hX.T t i hT).esz hc.2
          have hse : ∀ w, (sizeOf el).run P w = .ok i.esz w := by
           intro w
           cases hq : P.info? el with
           | none => simp [hq] at hi
           | some j =>
             have hs : j.size = i.esz := by simpa [hq] using hi
             simp [sizeOf, typeInfo, hq, hs]
          split at h
          ·rename_i hwin
           simp only [Option.some.injEq, Prod.mk.injEq] at h
           obtain ⟨hin, rfl⟩ := h
           rw [hX.O] at hin
           simp only [std, Bool.and_eq_true, decide_eq_true_eq] at hin
           refine ⟨fun w b hr => ?_, fun n' _ => ⟨fun _ _ e => (by cases e), fun r' k' o' e => ?_⟩⟩
           ·obtain ⟨hra, -, -⟩ := ZeW hX hr hin.1 ⟨hin.2, hwin⟩
            simp only [execOp, ho, Zaz hR hx, Zaz hR hk]
            refine ZbX ?_
            rw [i2_v X.R h2]
            simp only [AV.v, hra]
            simp [Instr.indexAt, run_underlying hu, asIntOf, hse, hin.1, hin.2, Slot.val, add_at, hc.1]
           ·injection e with e1 e2 e3
            subst e1 e2
            exact ⟨hin.1, hin.2, hwin⟩
          ·rename_i b0 hwin
           simp only [Option.some.injEq, Prod.mk.injEq] at h
           obtain ⟨hin, rfl⟩ := h
           rw [hX.O] at hin
           simp only [std, beq_iff_eq] at hin
           subst hin
           obtain ⟨v1, v2, v3, v4, v5⟩ := hX.V r b0 hwin
           refine ⟨fun w b hr => ?_, fun n' hn' => ⟨fun b' o' e => ?_, fun _ _ _ e => (by cases e)⟩⟩
           ·simp only [execOp, ho, Zaz hR hx, Zaz hR hk]
            refine ZbX ?_
            rw [i2_v X.R h2]
            simp only [AV.v, v2]
            simp [Instr.indexAt, run_underlying hu, asIntOf, hse, v3, v4, Slot.val, add_at, hc.1, v5, hr.old b0 v1]
           ·injection e with e1 e2
            omega
         ·simp at h
    ·simp at h
 ·simp at h
end
section
variable {P : Program} {X : Cx} {d1 : Nat → Nat} {n1 : Nat} {w1 : World} {d : Nat → Nat} {st : St} {a : Act} {w : World}
theorem Upd.alloc (S : Nat → Prop) (w : World) (o : Obj) : Upd S w (w.alloc o) := ⟨rfl, rfl, rfl, by simp, fun k hk _ => Below.heap_alloc _ _ _ hk⟩
theorem Zak.alloc {b : List (List AV)} (hr : Zak X.R d1 n1 w1 d b w) (hwn : (X.R b.length).wn = false) (hz : (X.R b.length).pre = [] ∧ (X.R b.length).post = []) (cs : List AV) (ty : TypeId) : Zak X.R d1 n1 w1 (fun i => if i = b.length then w.heap.size else d i) (b ++ [cs]) (w.alloc (.cells (AV.vs X.R cs).toArray ty (0, 0))) := by
 have lt : ∀ i, i < b.length → d i < w.heap.size := fun i hi => by
  obtain ⟨ty, -, ht⟩ := hr.box i b[i] (List.getElem?_eq_getElem hi)
  exact (Array.getElem?_eq_some_iff.1 ht).1
 refine ⟨fun i c hi => ?_, fun i j hi hj e => ?_, ?_, fun i hi => ?_, fun i h1 h2 => ?_, hr.upd.trans (Upd.alloc (fun _ => False) w _) (fun _ h _ => h.elim)⟩
 ·by_cases he : i = b.length
  ·subst he
   rw [List.getElem?_append_right (Nat.le_refl _)] at hi
   simp at hi
   subst hi
   exact ⟨ty, fun h => (by rw [hwn] at h; cases h), by rw [if_pos rfl, hz.1, hz.2, List.nil_append, List.append_nil]; exact heap_alloc_new w _⟩
  ·have hlt : i < b.length := by
    have := (List.getElem?_eq_some_iff.1 hi).1
    simp at this
    omega
   rw [List.getElem?_append_left hlt] at hi
   obtain ⟨ty', hty, ht⟩ := hr.box i c hi
   exact ⟨ty', hty, by rw [if_neg he, Below.heap_alloc _ _ _ (lt i hlt)]; exact ht⟩
 ·simp only [List.length_append, List.length_cons, List.length_nil] at hi hj
  by_cases h1 : i = b.length <;> by_cases h2 : j = b.length
  ·omega
  ·rw [if_pos h1, if_neg h2] at e
   have := lt j (by omega)
   omega
  ·rw [if_neg h1, if_pos h2] at e
   have := lt i (by omega)
   omega
  ·rw [if_neg h1, if_neg h2] at e
   exact hr.inj i j (by omega) (by omega) e
 ·have := hr.len
  simp
  omega
 ·have := hr.len
  rw [if_neg (by omega)]
  exact hr.old i hi
 ·simp only [List.length_append, List.length_cons, List.length_nil] at h2
  by_cases he : i = b.length
  ·rw [if_pos he]
   exact hr.upd.size
  ·rw [if_neg he]
   exact hr.new i h1 (by omega)
theorem Zak.turn {b : List (List AV)} {w' : World} (hr : Zak X.R d1 n1 w1 d b w) {i : Nat} {cs : List AV} (hi : i < b.length) {ty : TypeId} (hty : (X.R i).wn = true → ty = (X.R i).ty) (hb : w'.heap[d i]? = some (.cells ((X.R i).pre ++ (AV.vs X.R cs ++ (X.R i).post)).toArray ty (0, 0))) (hu : Upd (fun k => k = d i) w w') : Zak X.R d1 n1 w1 d (b.set i cs) w' := by
 refine ⟨fun j c hj => ?_, fun j k hj hk e => hr.inj j k (by simpa using hj) (by simpa using hk) e, by simpa using hr.len, hr.old, fun j h1 h2 => hr.new j h1 (by simpa using h2), hr.upd.trans hu (fun k hk hlt => ?_)⟩
 ·by_cases he : i = j
  ·subst he
   rw [List.getElem?_set_self hi] at hj
   injection hj with hj
   subst hj
   exact ⟨ty, hty, hb⟩
  ·rw [List.getElem?_set_ne he] at hj
   obtain ⟨ty', hty', ht⟩ := hr.box j c hj
   have hlt := (Array.getElem?_eq_some_iff.1 ht).1
   exact ⟨ty', hty', by rw [hu.block _ hlt (fun e => he (hr.inj j i ((List.getElem?_eq_some_iff.1 hj).1) hi e).symm)]; exact ht⟩
 ·subst hk
  by_cases hn : i < n1
  ·exact ⟨i, hn, hr.old i hn⟩
  ·have := hr.new i (by omega) hi
   omega
theorem Zch (R : Nat → Row) (p q : List Value) (g ty : Nat) (off : Nat) : ∀ (xs : List AV) (i : Nat) (cs : List AV) (w : World), w.heap[g]? = some (.cells (p ++ (AV.vs R cs ++ q)).toArray ty (0, 0)) → off + i + xs.length ≤ cs.length → xs.all scal = true →
 ∃ w', (storeCells ⟨g, p.length + off, none⟩ (AV.vs R xs) i).run P w = .ok () w' ∧ w'.heap[g]? = some (.cells (p ++ (AV.vs R (Zbp cs (off + i) xs) ++ q)).toArray ty (0, 0)) ∧ Upd (fun k => k = g) w w'
 | [], i, cs, w, hg, hl, hs => ⟨w, rfl, hg, Upd.refl _ _⟩
 | x :: xs, i, cs, w, hg, hl, hs => by
   simp only [List.all_cons, Bool.and_eq_true] at hs
   simp only [List.length_cons] at hl
   have hi : off + i < cs.length := by omega
   have hcell : w.cell? ⟨g, p.length + off + i, none⟩ = some (cs[off + i].v R) := by
    rw [cell_of_row w g _ _ ty (0, 0) hg, Nat.add_assoc]
    exact ZfF ty w g (by rw [Zcg, List.getElem?_eq_getElem hi]; rfl)
   have hfro : w.frozen? ⟨g, p.length + off + i, none⟩ = false := by simp [World.frozen?, hg]
   have hst : (store ((⟨g, p.length + off, none⟩ : Addr).add i) (x.v R)).run P w = .ok () (w.setCell ⟨g, p.length + off + i, none⟩ (x.v R)) := by
    rw [add_at, run_store P w _ _ _ (Zgs R x hs.1), hcell]
    simp [hfro]
   have hg' : (w.setCell ⟨g, p.length + off + i, none⟩ (x.v R)).heap[g]? = some (.cells (p ++ (AV.vs R (cs.set (off + i) x) ++ q)).toArray ty (0, 0)) := by
    rw [heap_setCell_same w g _ _ ty _ hg, ZfG, List.setIfInBounds_toArray, Nat.add_assoc, List.set_append_right _ _ (Nat.le_add_right _ _), Nat.add_sub_cancel_left, List.set_append_left _ _ (by rw [Zbz]; exact hi)]
   obtain ⟨w', h1, h2, h3⟩ := Zch R p q g ty off xs (i + 1) (cs.set (off + i) x) _ hg' (by simp; omega) hs.2
   refine ⟨w', ?_, h2, ?_⟩
   ·simp only [AV.vs, storeCells, Sem.run_bind, hst, Result.andThen_ok, h1]
   ·refine Upd.trans (S := fun k => k = g) (b := w.setCell ⟨g, p.length + off + i, none⟩ (x.v R)) ⟨rfl, rfl, rfl, by simp [World.setCell], fun k hk hn => Below.heap_setCell _ _ _ _ hn⟩ h3 (fun _ h _ => h)
theorem Zcu (hX : CxOk P X d1 n1 w1) (hR : Rel X.R d st a) (hr : Zak X.R d1 n1 w1 d st.b w) {o : Oper} {s : Slot} {b : List (List AV)} (h : exOp X o st = .ok s b ∨ exOp X o st = .need true s b) {K : Act → World → Prop} {Q : Exit → Act → World → Prop}
 (hK : ∀ d' w', (∀ i, i < st.b.length → d' i = d i) → Zak X.R d1 n1 w1 d' b w' → st.b.length ≤ b.length → SOk X.R b.length s → K (a.put o.dst (s.val X.R d')) w') : o.wp P a w K Q := by
 by_cases hq : qOp X o st = .dead
 ·have hzb := hX.W st.b.length (hX.W1 st.b.length hr.len)
  unfold exOp at h
  simp only [hq] at h
  split at h
  ·rename_i c s' hn
   simp only [reduceCtorEq, false_or, Res.need.injEq] at h
   obtain ⟨rfl, rfl, rfl⟩ := h
   obtain ⟨h1, h2⟩ := ZbI hX hR hn
   unfold Oper.wp
   rw [h1 w st.b hr]
   exact hK d w (fun _ _ => rfl) hr (Nat.le_refl _) (h2 _ hr.len)
  rename_i hqn
  split at h
  ·
   rename_i t ho
   cases hT : X.T t with
   | none => simp [hT] at h
   | some i =>
     simp only [hT, reduceCtorEq, or_false, Res.ok.injEq] at h
     obtain ⟨rfl, rfl⟩ := h
     obtain ⟨it, z, h1, h2, h3⟩ := (hX.T t i hT).zero X.R
     have hz : (zeroValue t).run P w = .ok z w := by simp [zeroValue, typeInfo, h1, h2]
     have hrun : (execOp a.eval o).run P w = .ok (.value (.pointer (some ⟨w.heap.size, 0, none⟩))) (w.alloc (.cells (AV.vs X.R i.zero).toArray t (0, 0))) := by
      simp only [execOp, ho]
      refine ZfN ?_
      simp only [Instr.alloc, Sem.run_bind, hz, Result.andThen_ok, newVar, newRow, h3]
      rfl
     unfold Oper.wp
     rw [hrun]
     have := hK _ _ (fun i hi => by rw [if_neg (by omega)]) (hr.alloc (hX.W1 st.b.length hr.len) hzb i.zero t) (by simp) ⟨fun b' o' e => by injection e with e1 e2; subst e1; simp, fun _ _ _ e => by cases e⟩
     simpa [Slot.val, Oper.upon, hzb.1] using this
  ·
   rename_i t x ho
   cases hx : evA st x with
   | none => simp [hx] at h
   | some v =>
     simp only [hx, reduceCtorEq, or_false, Res.ok.injEq] at h
     obtain ⟨rfl, rfl⟩ := h
     have hrun : (execOp a.eval o).run P w = .ok (.value (.pointer (some ⟨w.heap.size, 0, none⟩))) (w.alloc (.cells (AV.vs X.R (ZaE v)).toArray t (0, 0))) := by
      simp only [execOp, ho, Zaz hR hx]
      refine ZfN ?_
      simp only [Instr.box, Sem.run_bind, newVar, newRow, Zdb]
      rfl
     unfold Oper.wp
     rw [hrun]
     have := hK _ _ (fun i hi => by rw [if_neg (by omega)]) (hr.alloc (hX.W1 st.b.length hr.len) hzb (ZaE v) t) (by simp) ⟨fun b' o' e => by injection e with e1 e2; subst e1; simp, fun _ _ _ e => by cases e⟩
     simpa [Slot.val, Oper.upon, hzb.1] using this
  ·
   rename_i t x y ho
   cases hT : X.T t with
   | none => simp [hT] at h
   | some i =>
     simp only [hT] at h
     split at h
     ·rename_i b' off he
      have hv := Za9 hR (x := x) (by rw [he]; simp)
      rw [he] at hv
      cases hy : evA st y with
      | none => simp [hy] at h
      | some v =>
        simp only [hy] at h
        cases hb : st.b[b']? with
        | none => simp [hb] at h
        | some cs =>
          simp only [hb] at h
          split at h
          ·rename_i hc
           simp only [reduceCtorEq, or_false, Res.ok.injEq] at h
           obtain ⟨rfl, rfl⟩ := h
           simp only [Bool.and_eq_true, beq_iff_eq, Nat.ble_eq] at hc
           obtain ⟨hc1, hc2, hc3⟩ := hc
           obtain ⟨ty, hty, ht⟩ := hr.box b' cs hb
           obtain ⟨w', h1, h2, h3⟩ := Zch (P := P) X.R (X.R b').pre (X.R b').post (d b') ty off (ZaE v) 0 cs w ht (by omega) hc3
           have hrun : (execOp a.eval o).run P w = .ok .skip w' := by
            simp only [execOp, ho, hv, Zaz hR hy, Slot.val]
            have h4 : (v.v X.R).cells.size = i.zero.length := by rw [Zdb, List.size_toArray, Zbz, hc1]
            have h5 : (v.v X.R).cells.toList = AV.vs X.R (ZaE v) := by rw [Zdb]
            simp [Instr.storeAt, Instr.sureAddr, storeVar, Sem.run_bind, Zd8 (hX.T t i hT), h4, h5, h1]
           unfold Oper.wp
           rw [hrun]
           exact hK d w' (fun _ _ => rfl) (hr.turn ((List.getElem?_eq_some_iff.1 hb).1) hty (by rw [Nat.add_zero] at h2; exact h2) h3) (by simp) (SOk.v ..)
          ·simp at h
     ·simp at h
  ·
   rename_i c ho
   split at h
   ·rename_i f hc
    cases hM : X.M f with
    | none => simp [hM] at h
    | some g =>
      simp only [hM] at h
      split at h
      ·rename_i x xs hargs
       split at h
       ·rename_i b' he
        have hv := Za9 hR (x := x) (by rw [he]; simp)
        rw [he] at hv
        cases hl : evL st xs with
        | none => simp [hl] at h
        | some l =>
          simp only [hl] at h
          cases hwn : (X.R b').wn with
          | true => simp [hwn] at h
          | false =>
          simp only [hwn, Bool.false_eq_true, if_false] at h
          obtain ⟨hp1, hp2⟩ := hX.W b' hwn
          cases hb : st.b[b']? with
          | none => simp [hb] at h
          | some cs =>
            simp only [hb] at h
            cases hg : g cs l with
            | none => simp [hg] at h
            | some cv =>
              obtain ⟨cs', v⟩ := cv
              simp only [hg, reduceCtorEq, or_false, Res.ok.injEq] at h
              obtain ⟨rfl, rfl⟩ := h
              obtain ⟨⟨fn, hf, hn, hbd⟩, hlen, hcall⟩ := hX.M f g cs l cs' v hM hg
              obtain ⟨ty, -, ht⟩ := hr.box b' cs hb
              rw [hp1, hp2, List.nil_append, List.append_nil] at ht
              simp only [Slot.val, hp1, List.length_nil, Nat.add_zero] at hv
              have e : c.args.map a.eval = ((Value.pointer (some ⟨d b', 0, none⟩)) :: AV.vs X.R l).toArray := by
               rw [← Zbv hR hl, show (Value.pointer (some ⟨d b', 0, none⟩)) = a.eval x from hv.symm, ← List.map_cons, ← hargs, ← Array.toList_map, Array.toArray_toList]
              unfold Oper.wp
              rw [Zba ho hc hf hn hbd w, Oper.upon_enter, e]
              refine (hcall w (d b') ty hr.upd ht).mono fun e w' ⟨he, ⟨ty', hw1⟩, hw2⟩ => ?_
              subst he
              exact hK d w' (fun _ _ => rfl) (hr.turn (ty := ty') ((List.getElem?_eq_some_iff.1 hb).1) (fun h => by rw [hwn] at h; cases h) (by rw [hp1, hp2, List.nil_append, List.append_nil]; exact hw1) hw2) (by simp) (SOk.v ..)
       ·simp at h
      ·simp at h
   ·simp at h
  ·simp at h
 ·have he : exOp X o st = .ok (qOp X o st) st.b := by
   unfold exOp
   split
   ·rename_i hd; exact absurd hd hq
   ·rfl
  rw [he] at h
  simp only [reduceCtorEq, or_false, Res.ok.injEq] at h
  obtain ⟨rfl, rfl⟩ := h
  obtain ⟨h1, h2⟩ := Zbg hX hR hq
  exact Oper.wp_of_quiet (C := Zak X.R d1 n1 w1 d st.b) (K := fun a' => ∀ w', Zak X.R d1 n1 w1 d st.b w' → K a' w') hr (fun a' w' hw' hk => hk w' hw') ⟨_, fun w hw => (h1 w hw).quiet, fun w' hw' => hK d w' (fun _ _ => rfl) hw' (Nat.le_refl _) h2⟩
end
end Go.Proofs.YtgghglocfdcegaaGreat.Xec
