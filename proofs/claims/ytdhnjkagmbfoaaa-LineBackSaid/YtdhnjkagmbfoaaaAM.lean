/- An abstract machine over the model's own code: memory as numbered blocks that a call makes; it answers only where the order of a region and the room of a slice do not matter. Definitions. -/
import Derived.Below
import Derived.Orders
namespace Go.Proofs.Ytdhnjkagmbfoaaa.AM
open Go
/-- The room of a slice: known, or up to its block's end, from an element on. -/
inductive Cap where
  | fix (n : Nat)
  | lim (d : Nat)
  deriving DecidableEq
inductive Cell where
  | bool (b : Bool)
  | int (k : IntKind) (n : Int)
  | float (k : FloatKind) (bits : Nat)
  | str (s : ByteArray)
  | nilp
  | ptr (b off : Nat)
  | nils
  | sl (b off len : Nat) (cap : Cap)
  /-- An empty slice that is not nil, wherever it points. -/
  | sle (a : Addr) (c : Nat)
  /-- An empty slice at the end of one: where it points hangs on the room there. -/
  | slh (b off0 off d : Nat)
  | nilm
  | map (b : Nat)
  | nilf
  | fn (f : Nat) (caps : List (Nat × Nat))
  deriving DecidableEq
inductive V1 where
  | c (x : Cell)
  | agg (cs : List Cell)
  deriving DecidableEq
inductive V where
  | one (v : V1)
  | tup (vs : List V1)
  deriving DecidableEq
inductive Obj where
  | blk (cells : List Cell) (ty : TypeId) (esz fam ver : Nat)
  | map (es : List (V1 × V1 × Nat)) (clock : Nat)
  | iter (s : ByteArray) (pos : Nat)
structure St where
  heap : List Obj
  fams : List (Nat × Nat)
  next : Nat
abbrev undefV : V := .tup []
def V1.cells : V1 → List Cell
  | .c x => [x]
  | .agg cs => cs
def St.get (s : St) (b : Nat) : Option Obj := if b < s.next then s.heap[s.next - 1 - b]? else none
def St.fam (s : St) (b : Nat) : Nat × Nat := (s.fams[s.next - 1 - b]?).getD (0, 0)
def St.setObj (s : St) (b : Nat) (o : Obj) : St := { s with heap := s.heap.set (s.next - 1 - b) o }
def St.setFam (s : St) (b : Nat) (x : Nat × Nat) : St := { s with fams := s.fams.set (s.next - 1 - b) x }
def St.push (s : St) (o : Obj) : St := ⟨o :: s.heap, (1, 0) :: s.fams, s.next + 1⟩
/-- A new block of its own. -/
def St.new (s : St) (cells : List Cell) (ty : TypeId) (esz : Nat) : St := s.push (.blk cells ty esz s.next 1)
def St.read (s : St) (b off n : Nat) : Option (List Cell) :=
  if n = 0 then some [] else
  match s.get b with
  | some (.blk cells _ _ fam ver) => if (s.fam fam).2 ≤ ver ∧ off + n ≤ cells.length then some ((cells.drop off).take n) else none
  | _ => none
/-- A list with another one in it, from a place on. -/
def splice (l : List Cell) (off : Nat) (new : List Cell) : List Cell := l.take off ++ new ++ l.drop (off + new.length)
def St.write (s : St) (b off : Nat) (new : List Cell) : Option St :=
  if new = [] then some s else
  match s.get b with
  | some (.blk cells ty esz fam ver) =>
    if ((s.fam fam).1 = ver ∧ (s.fam fam).2 ≤ ver) ∧ off + new.length ≤ cells.length then some ((s.setObj b (.blk (splice cells off new) ty esz fam ver)).setFam fam (ver, ver)) else none
  | _ => none
/-- Where an abstract block lies: its block, the place in it, and the room there. -/
structure Loc where
  blk : Nat
  sh : Nat
  cap : Nat
/-- Where abstract blocks lie; below the mark no more will be laid. -/
structure Map where
  f : Nat → Option Loc
  n : Nat
instance : CoeFun Map (fun _ => Nat → Option Loc) := ⟨Map.f⟩
abbrev nowhere : Map := ⟨fun _ => none, 0⟩
def concPtrs (μ : Map) : List (Nat × Nat) → Option (List Value)
  | [] => some []
  | p :: ps => match μ p.1, concPtrs μ ps with
    | some l, some vs => some (.pointer (some ⟨l.blk, l.sh + p.2, none⟩) :: vs)
    | _, _ => none
def Cell.conc (μ : Map) : Cell → Option Value
  | .bool b => some (.bool b)
  | .int k n => some (.int k n)
  | .float k n => some (.float k n)
  | .str s => some (.string s)
  | .nilp => some (.pointer none)
  | .ptr b off => (μ b).map fun l => .pointer (some ⟨l.blk, l.sh + off, none⟩)
  | .nils => some (.slice none 0 0)
  | .sle a c => some (.slice (some a) 0 c)
  | .slh b off0 off d => (μ b).map fun l => .slice (some ⟨l.blk, l.sh + (if l.cap - d = 0 then off0 else off), none⟩) 0 (l.cap - d)
  | .sl b off len (.fix c) => (μ b).map fun l => .slice (some ⟨l.blk, l.sh + off, none⟩) len c
  | .sl b off len (.lim d) => (μ b).map fun l => .slice (some ⟨l.blk, l.sh + off, none⟩) len (l.cap - d)
  | .nilm => some (.map none)
  | .map b => (μ b).map fun l => .map (some l.blk)
  | .nilf => some .nilFunc
  | .fn f caps => (concPtrs μ caps).map fun l => .func (.func f) #[] l.toArray
def concs (μ : Map) : List Cell → Option (List Value)
  | [] => some []
  | c :: cs => match c.conc μ, concs μ cs with
    | some v, some vs => some (v :: vs)
    | _, _ => none
def V1.conc (μ : Map) : V1 → Option Value
  | .c x => x.conc μ
  | .agg cs => (concs μ cs).map fun l => .agg l.toArray
def conc1s (μ : Map) : List V1 → Option (List Value)
  | [] => some []
  | c :: cs => match c.conc μ, conc1s μ cs with
    | some v, some vs => some (v :: vs)
    | _, _ => none
def V.conc (μ : Map) : V → Option Value
  | .one v => v.conc μ
  | .tup vs => (conc1s μ vs).map fun l => .tuple l.toArray
/-- A value without addresses, as the machine's own. -/
def ofCell : Value → Option Cell
  | .bool b => some (.bool b)
  | .int k n => some (.int k n)
  | .float k n => some (.float k n)
  | .string s => some (.str s)
  | .pointer none => some .nilp
  | .slice none 0 0 => some .nils
  | .map none => some .nilm
  | .nilFunc => some .nilf
  | .func (.func f) ⟨[]⟩ ⟨[]⟩ => some (.fn f [])
  | _ => none
def ofCells : List Value → Option (List Cell)
  | [] => some []
  | v :: vs => match ofCell v, ofCells vs with
    | some c, some cs => some (c :: cs)
    | _, _ => none
def ofV1 : Value → Option V1
  | .agg cs => (ofCells cs.toList).map .agg
  | v => (ofCell v).map .c
def ofV1s : List Value → Option (List V1)
  | [] => some []
  | v :: vs => match ofV1 v, ofV1s vs with
    | some c, some cs => some (c :: cs)
    | _, _ => none
def ofV : Value → Option V
  | .tuple vs => (ofV1s vs.toList).map .tup
  | v => (ofV1 v).map .one
/-- A frame's variables: a tree by halves. -/
inductive Tree where
  | leaf
  | node (l : Tree) (v : V) (r : Tree)
def Tree.get : Tree → Nat → V
  | .leaf, _ => undefV
  | .node l v r, n => if n = 0 then v else if n % 2 = 1 then l.get (n / 2) else r.get (n / 2 - 1)
def Tree.set : Nat → Tree → Nat → V → Tree
  | 0, t, _, _ => t
  | k + 1, .leaf, n, x => if n = 0 then .node .leaf x .leaf else if n % 2 = 1 then .node (Tree.set k .leaf (n / 2) x) undefV .leaf else .node .leaf undefV (Tree.set k .leaf (n / 2 - 1) x)
  | k + 1, .node l v r, n, x => if n = 0 then .node l x r else if n % 2 = 1 then .node (Tree.set k l (n / 2) x) v r else .node l v (Tree.set k r (n / 2 - 1) x)
structure Fr where
  size : Nat
  tree : Tree
def Fr.get (f : Fr) (t : Nat) : V := if t < f.size then f.tree.get t else undefV
def Fr.put (f : Fr) (t : Nat) (v : V) : Fr := if t < f.size then ⟨f.size, Tree.set (t + 1) f.tree t v⟩ else f
def Fr.fill : Nat → List V → Fr → Fr
  | _, [], f => f
  | k, v :: vs, f => Fr.fill (k + 1) vs (f.put k v)
def Fr.of (args : List V) (n : Nat) : Fr := Fr.fill 0 args ⟨args.length + (n - args.length), .leaf⟩
def evalO (fr : Fr) : Operand → Option V
  | .tmp t => some (fr.get t)
  | .const v => ofV v
  | .func f => some (.one (.c (.fn f [])))
  | .global _ => none
def evalC (fr : Fr) (x : Operand) : Option Cell :=
  match evalO fr x with
  | some (.one (.c c)) => some c
  | _ => none
def eval1 (fr : Fr) (x : Operand) : Option V1 :=
  match evalO fr x with
  | some (.one v) => some v
  | _ => none
/-- A computation that asks nothing of the world. -/
def pure? {α : Type} (P : Program) : Sem α → Option α
  | .pure a => some a
  | .program k => pure? P (k P)
  | .mark _ k => pure? P k
  | _ => none
def scalarOf (fr : Fr) (x : Operand) : Option Value := (evalO fr x).bind (V.conc nowhere)
def pureOp (P : Program) (fr : Fr) (s : St) (o : Oper) : Option (V × St) :=
  if o.op.operands.toList.all (fun x => (scalarOf fr x).isSome) then
    match pure? P (execOp (fun x => (scalarOf fr x).getD undef) o) with
    | some (.value v) => (ofV v).map (·, s)
    | _ => none
  else none
def sizeT (P : Program) (t : TypeId) : Option Nat := (P.info? t).map (·.size)
def aggT (P : Program) (t : TypeId) : Option Bool := (P.underlying t).map fun d => match d with | .struct _ => true | .array _ _ => true | _ => false
def zeroT (P : Program) (t : TypeId) : Option (List Cell) := ((P.info? t).bind (·.zero)).bind fun z => ofCells z.cells.toList
def elemT (P : Program) (t : TypeId) : Option TypeId := match P.underlying t with | some (.slice e) => some e | _ => none
def ptrV (b off : Nat) : V := .one (.c (.ptr b off))
def xAlloc (P : Program) (s : St) (t : TypeId) : Option (V × St) :=
  (zeroT P t).map fun cs => (ptrV s.next 0, s.new cs t 1)
def xBox (s : St) (t : TypeId) (v : V1) : Option (V × St) := some (ptrV s.next 0, s.new v.cells t 1)
def xLoad (P : Program) (s : St) (t : TypeId) (b off : Nat) : Option (V × St) :=
  match aggT P t, sizeT P t with
  | some true, some n => (s.read b off n).map fun cs => (.one (.agg cs), s)
  | some false, _ => match s.read b off 1 with
    | some [c] => some (.one (.c c), s)
    | _ => none
  | _, _ => none
def xStore (P : Program) (s : St) (t : TypeId) (b off : Nat) (v : V1) : Option (V × St) :=
  if sizeT P t = some v.cells.length then (s.write b off v.cells).map fun s => (undefV, s) else none
def xFieldAddr (P : Program) (s : St) (t : TypeId) (b off f : Nat) : Option (V × St) :=
  match P.underlying t with
  | some (.struct fields) => match fields[f]? with
    | some fd => match sizeT P fd.type with
      | some (_ + 1) => some (ptrV b (off + fd.offset), s)
      | _ => none
    | none => none
  | _ => none
def partV (P : Program) (t : TypeId) (cs : List Cell) (off : Nat) : Option V :=
  match aggT P t, sizeT P t with
  | some true, some n => some (.one (.agg ((cs.take (off + n)).drop off)))
  | some false, _ => (cs[off]?).map fun c => .one (.c c)
  | _, _ => none
def xField (P : Program) (s : St) (t : TypeId) (cs : List Cell) (f : Nat) : Option (V × St) :=
  match P.underlying t with
  | some (.struct fields) => match fields[f]? with
    | some fd => (partV P fd.type cs fd.offset).map (·, s)
    | none => none
  | _ => none
/-- Parts laid into a row. -/
def fillA (place : Nat → Option (Nat × Nat)) (cells : List Cell) : List (Nat × V1) → Option (List Cell)
  | [] => some cells
  | (i, v) :: rest =>
    match place i with
    | none => none
    | some (off, size) => if v.cells.length = size ∧ off + size ≤ cells.length then fillA place (splice cells off v.cells) rest else none
def evalParts (fr : Fr) : List (Nat × Operand) → Option (List (Nat × V1))
  | [] => some []
  | (i, x) :: rest => match eval1 fr x, evalParts fr rest with
    | some v, some vs => some ((i, v) :: vs)
    | _, _ => none
def placesT (P : Program) : List Field → Option (List (Nat × Nat))
  | [] => some []
  | f :: fs => match sizeT P f.type, placesT P fs with
    | some n, some l => some ((f.offset, n) :: l)
    | _, _ => none
def xBuild (P : Program) (s : St) (t : TypeId) (parts : List (Nat × V1)) : Option (V × St) :=
  match P.underlying t, zeroT P t with
  | some (.struct fields), some z => match placesT P fields.toList with
    | some pl => (fillA (fun i => pl[i]?) z parts).map fun cs => (.one (.agg cs), s)
    | none => none
  | some (.array _ e), some z => match sizeT P e with
    | some n => (fillA (fun i => some (i * n, n)) z parts).map fun cs => (.one (.agg cs), s)
    | none => none
  | _, _ => none
/-- Parts that stand in order, each of one size. -/
def seqParts (n : Nat) : Nat → List (Nat × V1) → Option (List Cell)
  | _, [] => some []
  | k, (i, v) :: rest => if i = k ∧ v.cells.length = n then
      match seqParts n (k + 1) rest with
      | some cs => some (v.cells ++ cs)
      | none => none
    else none
def repeatC (z : List Cell) : Nat → List Cell
  | 0 => []
  | n + 1 => z ++ repeatC z n
def xBuildSlice (P : Program) (s : St) (t : TypeId) (len : Nat) (parts : List (Nat × V1)) : Option (V × St) :=
  match elemT P t with
  | some e => match sizeT P e, zeroT P e with
    | some n, some z =>
      if len * n ≤ 16777216 ∧ z.length = n ∧ 0 < n then
        match seqParts n 0 parts with
        | some cs => if parts.length = len then some (.one (.c (.sl s.next 0 len (.lim 0))), s.new cs e n) else none
        | none => (fillA (fun i => some (i * n, n)) (repeatC z len) parts).map fun cs => (.one (.c (.sl s.next 0 len (.lim 0))), s.new cs e n)
      else none
    | _, _ => none
  | none => none
def xMakeSlice (P : Program) (s : St) (t : TypeId) (len cap : Int) : Option (V × St) :=
  match elemT P t with
  | some e => match P.info? e, zeroT P e with
    | some i, some z =>
      if 0 ≤ len ∧ len ≤ cap ∧ cap ≤ 140737488355328 ∧ (i.bytes : Int) * cap ≤ 140737488355328 ∧ z.length = i.size ∧ 0 < i.size then
        some (.one (.c (.sl s.next 0 len.toNat (.lim 0))), s.new (repeatC z cap.toNat) e i.size)
      else none
    | _, _ => none
  | none => none
def xIndexAddr (P : Program) (s : St) (t : TypeId) (x : Cell) (i : Int) : Option (V × St) :=
  match P.underlying t, x with
  | some (.array len e), .ptr b off => match sizeT P e with
    | some n => if 0 ≤ i ∧ i < len then some (ptrV b (off + i.toNat * n), s) else none
    | none => none
  | some (.slice e), .sl b off len _ => match sizeT P e with
    | some n => if 0 ≤ i ∧ i < len then some (ptrV b (off + i.toNat * n), s) else none
    | none => none
  | _, _ => none
/-- A bound that stands there must be a number; none: the given one. -/
def boundA (fr : Fr) : Option Operand → Nat → Option Nat
  | none, d => some d
  | some x, _ => match evalC fr x with
    | some (.int _ i) => if 0 ≤ i then some i.toNat else none
    | _ => none
/-- Is it known that the room bears the length? -/
def capKnown (s : St) (b off len n : Nat) : Cap → Bool
  | .fix c => len ≤ c
  | .lim d => match s.get b with
    | some (.blk cells _ esz _ _) => decide (off = d * n) && decide (esz = n) && decide (0 < n) && decide (off + len * n ≤ cells.length)
    | _ => false
def xSlice (P : Program) (s : St) (t : TypeId) (x : Cell) (lo : Nat) (hi : Nat) (mx : Option Nat) : Option (V × St) :=
  match x with
  | .nils => if lo = 0 ∧ hi = 0 ∧ mx.getD 0 = 0 then ((elemT P t).bind (sizeT P)).map fun _ => (.one (.c .nils), s) else none
  | .sle a c => if lo = 0 ∧ hi = 0 ∧ mx = none then ((elemT P t).bind (sizeT P)).map fun _ => (.one (.c (.sle a c)), s) else none
  | .slh b o0 o d => if lo = 0 ∧ hi = 0 ∧ mx = none then ((elemT P t).bind (sizeT P)).map fun _ => (.one (.c (.slh b o0 o d)), s) else none
  | .sl b off len cap => match elemT P t with
    | some e => match sizeT P e with
      | some n =>
        if lo ≤ hi ∧ hi ≤ len then
          match mx with
          | some m =>
            if hi ≤ m ∧ m ≤ len ∧ capKnown s b off len n cap = true then some (.one (.c (.sl b (if m = lo then off else off + lo * n) (hi - lo) (.fix (m - lo)))), s) else none
          | none => match cap with
            | .fix c => if hi ≤ c then some (.one (.c (.sl b (if c = lo then off else off + lo * n) (hi - lo) (.fix (c - lo)))), s) else none
            | .lim d =>
              match s.get b with
              | some (.blk cells _ esz _ _) =>
                if off = d * n ∧ esz = n ∧ 0 < n ∧ off + len * n ≤ cells.length then
                  if lo < len ∨ lo = 0 then some (.one (.c (.sl b (off + lo * n) (hi - lo) (.lim (d + lo)))), s)
                  else some (.one (.c (.slh b off (off + lo * n) (d + lo))), s)
                else none
              | _ => none
        else none
      | none => none
    | none => none
  | .ptr b off => match P.underlying t with
    | some (.array n e) => match sizeT P e with
      | some m => if lo ≤ hi ∧ hi ≤ n ∧ mx = none then some (.one (.c (.sl b (if n = lo then off else off + lo * m) (hi - lo) (.fix (n - lo)))), s) else none
      | none => none
    | _ => none
  | _ => none
def capPtrs : List (Option Cell) → Option (List (Nat × Nat))
  | [] => some []
  | some (.ptr b off) :: l => (capPtrs l).map ((b, off) :: ·)
  | _ => none
/-- The elements of a slice, or of a text, as cells. -/
def elemsA (s : St) (size : Nat) (k : Option Nat) : Cell → Option (List Cell)
  | .nils => some []
  | .sle _ _ => some []
  | .slh _ _ _ _ => some []
  | .sl b off len _ => s.read b off (k.getD len * size)
  | .str t => some (((t.extract 0 (k.getD t.size)).data.toList).map fun b => .int .u8 b.toNat)
  | _ => none
def lenA : Cell → Option Nat
  | .nils => some 0
  | .sle _ _ => some 0
  | .slh _ _ _ _ => some 0
  | .sl _ _ len _ => some len
  | .str t => some t.size
  | _ => none
def appendA (s : St) (e : TypeId) (size n : Nat) (new : List Cell) (x : Cell) : Option (V × St) :=
  match x with
  | .nils => if n = 0 then some (.one (.c .nils), s) else some (.one (.c (.sl s.next 0 n (.lim 0))), s.new new e size)
  | .sle a c => if n = 0 then some (.one (.c (.sle a c)), s) else none
  | .slh b o0 o d => if n = 0 then some (.one (.c (.slh b o0 o d)), s) else none
  | .sl b off len (.fix c) =>
    if len + n ≤ c then (s.write b (off + len * size) new).map fun s => (.one (.c (.sl b off (len + n) (.fix c))), s)
    else match s.read b off (len * size) with
      | some old => some (.one (.c (.sl s.next 0 (len + n) (.lim 0))), s.new (old ++ new) e size)
      | none => none
  | .sl b off len (.lim d) =>
    match s.get b with
    | some (.blk cells ty esz fam ver) =>
      if off = d * size ∧ esz = size ∧ ty = e ∧ off + len * size ≤ cells.length then
        if n = 0 then some (.one (.c (.sl b off len (.lim d))), s)
        else if off + (len + n) * size ≤ cells.length then (s.write b (off + len * size) new).map fun s => (.one (.c (.sl b off (len + n) (.lim d))), s)
        else if off + len * size = cells.length ∧ (s.fam fam).1 = ver ∧ (s.fam fam).2 ≤ ver then
          some (.one (.c (.sl s.next 0 (len + n) (.lim 0))), (s.push (.blk (cells.drop off ++ new) ty esz fam (ver + 1))).setFam fam (ver + 1, (s.fam fam).2))
        else none
      else none
    | _ => none
  | _ => none
def xAppend (P : Program) (s : St) (t0 : TypeId) (t1 : Option TypeId) (x y : Cell) : Option (V × St) :=
  match elemT P t0 with
  | some e => match P.info? e, zeroT P e with
    | some i, some z =>
      if z.length = i.size ∧ 0 < i.size ∧ 0 < i.bytes then
        match (t1.bind P.underlying), y with
        | some (.int _), .int .i64 m =>
          if 0 ≤ m ∧ m ≤ 16777216 then
            match lenA x with
            | some l => if (l + m.toNat) * i.bytes ≤ 16777216 then appendA s e i.size m.toNat (repeatC z m.toNat) x else none
            | none => none
          else none
        | some (.slice _), y | some .string, y => match lenA x, lenA y, elemsA s i.size (lenA y) y with
          | some l, some n, some new => if (l + n) * i.bytes ≤ 140737488355328 ∧ new.length = n * i.size then appendA s e i.size n new x else none
          | _, _, _ => none
        | _, _ => none
      else none
    | _, _ => none
  | none => none
def xCopy (P : Program) (s : St) (t0 : TypeId) (x y : Cell) : Option (V × St) :=
  match elemT P t0 with
  | some e => match sizeT P e with
    | some n => match lenA x, lenA y with
      | some a, some b => match elemsA s n (some (min b a)) y with
        | some cs => match x with
          | .nils => some (.one (.c (.int .i64 ((min b a : Nat) : Int))), s)
          | .sl bb off _ _ => if cs.length = min b a * n then (s.write bb off cs).map fun s => (.one (.c (.int .i64 ((min b a : Nat) : Int))), s) else none
          | _ => none
        | none => none
      | _, _ => none
    | none => none
  | none => none
def bytesOfCells : List Cell → Option (List UInt8)
  | [] => some []
  | .int .u8 n :: l => (bytesOfCells l).map (UInt8.ofNat n.toNat :: ·)
  | _ => none
/-- A row of bytes as a text. -/
def xBytesToString (P : Program) (s : St) (src dst : TypeId) (x : Cell) : Option (V × St) :=
  match P.underlying src, P.underlying dst with
  | some (.slice e), some .string => match P.underlying e with
    | some (.int .u8) => match x with
      | .nils => some (.one (.c (.str .empty)), s)
      | .sl b off len _ => match s.read b off len with
        | some cs => (bytesOfCells cs).map fun l => (.one (.c (.str ⟨l.toArray⟩)), s)
        | none => none
      | _ => none
    | _ => none
  | _, _ => none
/-- Equal to nil? -/
def nilEq : Cell → Cell → Option Bool
  | .nilp, .nilp => some true
  | .nilp, .ptr _ _ => some false
  | .ptr _ _, .nilp => some false
  | .nils, .nils => some true
  | .nils, .sl _ _ _ _ => some false
  | .sl _ _ _ _, .nils => some false
  | .nils, .sle _ _ => some false
  | .sle _ _, .nils => some false
  | .nils, .slh _ _ _ _ => some false
  | .slh _ _ _ _, .nils => some false
  | .nilm, .nilm => some true
  | .nilm, .map _ => some false
  | .map _, .nilm => some false
  | .nilf, .nilf => some true
  | .nilf, .fn _ _ => some false
  | .fn _ _, .nilf => some false
  | _, _ => none
def nilKind (P : Program) (t : TypeId) : Cell → Cell → Bool
  | .nilp, .nilp | .nilp, .ptr _ _ | .ptr _ _, .nilp => match P.underlying t with | some (.pointer _) => true | _ => false
  | .nils, .nils | .nils, .sl _ _ _ _ | .sl _ _ _ _, .nils | .nils, .sle _ _ | .sle _ _, .nils | .nils, .slh _ _ _ _ | .slh _ _ _ _, .nils => match P.underlying t with | some (.slice _) => true | _ => false
  | .nilm, .nilm | .nilm, .map _ | .map _, .nilm => match P.underlying t with | some (.map _ _) => true | _ => false
  | .nilf, .nilf | .nilf, .fn _ _ | .fn _ _, .nilf => match P.underlying t with | some (.func _ _ _) => true | _ => false
  | _, _ => false
def sameKey : TypeDesc → V1 → V1 → Option Bool
  | .int _, .c (.int k a), .c (.int k' b) => if k = k' then some (a == b) else none
  | .string, .c (.str a), .c (.str b) => some (a == b)
  | .bool, .c (.bool a), .c (.bool b) => some (a == b)
  | _, _, _ => none
def findA (d : TypeDesc) (k : V1) : List (V1 × V1 × Nat) → Nat → Option (Option (Nat × V1))
  | [], _ => some none
  | e :: es, i => match sameKey d k e.1 with
    | some true => some (some (i, e.2.1))
    | some false => findA d k es (i + 1)
    | none => none
def keyIs : TypeDesc → V1 → Bool
  | .int k, .c (.int k' _) => decide (k = k')
  | .string, .c (.str _) => true
  | .bool, .c (.bool _) => true
  | _, _ => false
def zeroV1 (P : Program) (t : TypeId) : Option V1 := ((P.info? t).bind (·.zero)).bind ofV1
def xLookup (P : Program) (s : St) (t : TypeId) (x : Cell) (k : V1) (ok : Bool) : Option (V × St) :=
  match P.underlying t with
  | some (.map kt et) => match P.underlying kt with
    | some d =>
      if keyIs d k then
        match (match x with
          | .nilm => some []
          | .map b => match s.get b with
            | some (.map es _) => some es
            | _ => none
          | _ => none) with
        | some es => match findA d k es 0 with
          | some (some (_, v)) => some (if ok then .tup [v, .c (.bool true)] else .one v, s)
          | some none => match zeroV1 P et with
            | some z => some (if ok then .tup [z, .c (.bool false)] else .one z, s)
            | none => none
          | none => none
        | none => none
      else none
    | none => none
  | _ => none
def xMapUpdate (P : Program) (s : St) (t : TypeId) (b : Nat) (k v : V1) : Option (V × St) :=
  match P.underlying t with
  | some (.map kt _) => match P.underlying kt with
    | some d =>
      if keyIs d k then
        match s.get b with
        | some (.map es clock) => match findA d k es 0 with
          | some (some (i, _)) => some (undefV, s.setObj b (.map (es.modify i fun e => (k, v, e.2.2)) clock))
          | some none => some (undefV, s.setObj b (.map (es ++ [(k, v, clock)]) (clock + 1)))
          | none => none
        | _ => none
      else none
    | none => none
  | _ => none
def xDelete (P : Program) (s : St) (t : TypeId) (b : Nat) (k : V1) : Option (V × St) :=
  match P.underlying t with
  | some (.map kt _) => match P.underlying kt with
    | some d =>
      if keyIs d k then
        match s.get b with
        | some (.map es clock) => match findA d k es 0 with
          | some (some (i, _)) => some (.tup [], s.setObj b (.map (es.eraseIdx i) clock))
          | some none => some (.tup [], s)
          | none => none
        | _ => none
      else none
    | none => none
  | _ => none
def xLen (P : Program) (s : St) (t : TypeId) (x : V1) : Option (V × St) :=
  match P.underlying t, x with
  | some .string, .c (.str b) => some (.one (.c (.int .i64 (b.size : Nat))), s)
  | some (.array n _), _ => some (.one (.c (.int .i64 (n : Nat))), s)
  | some (.pointer a), _ => match P.underlying a with
    | some (.array n _) => some (.one (.c (.int .i64 (n : Nat))), s)
    | _ => none
  | some (.slice _), .c .nils => some (.one (.c (.int .i64 0)), s)
  | some (.slice _), .c (.sle _ _) => some (.one (.c (.int .i64 0)), s)
  | some (.slice _), .c (.slh _ _ _ _) => some (.one (.c (.int .i64 0)), s)
  | some (.slice _), .c (.sl _ _ n _) => some (.one (.c (.int .i64 (n : Nat))), s)
  | some (.map _ _), .c .nilm => some (.one (.c (.int .i64 0)), s)
  | some (.map _ _), .c (.map b) => match s.get b with
    | some (.map es _) => some (.one (.c (.int .i64 (es.length : Nat))), s)
    | _ => none
  | _, _ => none
def xCap (P : Program) (s : St) (t : TypeId) (x : Cell) : Option (V × St) :=
  match P.underlying t, x with
  | some (.slice _), .nils => some (.one (.c (.int .i64 0)), s)
  | some (.slice _), .sl _ _ _ (.fix c) => some (.one (.c (.int .i64 (c : Nat))), s)
  | _, _ => none
def xClear (P : Program) (s : St) (t : TypeId) (x : Cell) : Option (V × St) :=
  match elemT P t with
  | some e => match sizeT P e, zeroT P e with
    | some n, some z =>
      if z.length = n ∧ 0 < n then
        match x with
        | .nils => some (.tup [], s)
        | .sl b off len _ => if len = 0 then some (.tup [], s) else (s.write b off (repeatC z len)).map fun s => (.tup [], s)
        | _ => none
      else none
    | _, _ => none
  | none => none
def xRange (P : Program) (s : St) (t : TypeId) (x : Cell) : Option (V × St) :=
  match P.underlying t, x with
  | some .string, .str b => some (ptrV s.next 0, s.push (.iter b 0))
  | _, _ => none
def xNext (s : St) (b off : Nat) : Option (V × St) :=
  match off, s.get b with
  | 0, some (.iter t pos) =>
    if pos < t.size then
      some (.tup [.c (.bool true), .c (.int .i64 (pos : Nat)), .c (.int .i32 ((Utf8.decode t pos).1 : Nat))], s.setObj b (.iter t (pos + (Utf8.decode t pos).2)))
    else some (.tup [.c (.bool false)], s)
  | _, _ => none
/-- What is known of functions of numbers and texts: an answer, told ahead. -/
abbrev Spec := Nat → List Value → Option Value
def argsOf (fr : Fr) : List Operand → Option (List V)
  | [] => some []
  | x :: xs => match evalO fr x, argsOf fr xs with
    | some v, some vs => some (v :: vs)
    | _, _ => none
def scalars : List V → Option (List Value)
  | [] => some []
  | v :: vs => match v.conc nowhere, scalars vs with
    | some x, some xs => some (x :: xs)
    | _, _ => none
abbrev CallF := Nat → List V → St → Option (V × St)
def xCallFn (X : Spec) (callF : CallF) (s : St) (f : Nat) (args : List V) : Option (V × St) :=
  match (scalars args).bind (X f) with
  | some r => (ofV r).map (·, s)
  | none => callF f args s
def opRun (P : Program) (X : Spec) (callF : CallF) (fr : Fr) (s : St) (o : Oper) : Option (V × St) :=
  match o.op with
  | .move x | .assign x => (evalO fr x).map (·, s)
  | .pick c a b => match evalC fr c with
    | some (.bool t) => (evalO fr (if t then a else b)).map (·, s)
    | _ => none
  | .alloc t => xAlloc P s t
  | .box t x => (eval1 fr x).bind (xBox s t)
  | .load t a => match evalC fr a with
    | some (.ptr b off) => xLoad P s t b off
    | _ => none
  | .store t a x => match evalC fr a, eval1 fr x with
    | some (.ptr b off), some v => xStore P s t b off v
    | _, _ => none
  | .nilCheck x => match evalC fr x with
    | some (.ptr b off) => some (ptrV b off, s)
    | _ => none
  | .fieldAddr t x f => match evalC fr x with
    | some (.ptr b off) => xFieldAddr P s t b off f
    | _ => none
  | .field t x f => match eval1 fr x with
    | some (.agg cs) => xField P s t cs f
    | _ => none
  | .build t parts => (evalParts fr parts.toList).bind (xBuild P s t)
  | .buildSlice t len parts => (evalParts fr parts.toList).bind (xBuildSlice P s t len)
  | .makeSlice t len cap => match evalC fr len, evalC fr cap with
    | some (.int .i64 l), some (.int .i64 c) => xMakeSlice P s t l c
    | _, _ => none
  | .indexAddr t x ix => match evalC fr x, evalC fr ix with
    | some c, some (.int _ i) => xIndexAddr P s t c i
    | _, _ => none
  | .slice t x lo hi mx => match evalC fr x with
    | some (.str _) => pureOp P fr s o
    | some c => match lenA c with
      | some len => match boundA fr lo 0, boundA fr hi len with
        | some l, some h => match mx with
          | none => xSlice P s t c l h none
          | some m => match hi, boundA fr (some m) 0 with
            | some _, some m => xSlice P s t c l h (some m)
            | _, _ => none
        | _, _ => none
      | none => match c, P.underlying t with
        | .ptr _ _, some (.array n _) => match boundA fr lo 0, boundA fr hi n, mx with
          | some l, some h, none => xSlice P s t c l h none
          | _, _, _ => none
        | _, _ => none
    | none => none
  | .makeFunc (.func f) ⟨[]⟩ captured => (capPtrs (captured.toList.map (evalC fr))).map fun l => (.one (.c (.fn f l)), s)
  | .makeMap t none => (P.underlying t).map fun _ => (.one (.c (.map s.next)), s.push (.map [] 0))
  | .lookup t x ix ok => match evalC fr x, eval1 fr ix with
    | some c, some k => xLookup P s t c k ok
    | _, _ => none
  | .mapUpdate t m k v => match evalC fr m, eval1 fr k, eval1 fr v with
    | some (.map b), some k, some v => xMapUpdate P s t b k v
    | _, _, _ => none
  | .range t x => (evalC fr x).bind (xRange P s t)
  | .next it true => match evalC fr it with
    | some (.ptr b off) => xNext s b off
    | _ => none
  | .extract x ix => match evalO fr x with
    | some (.tup vs) => (vs[ix]?).map fun v => (.one v, s)
    | _ => none
  | .convert src dst x => match evalC fr x with
    | some .nils => xBytesToString P s src dst .nils
    | some (.sl b off len cap) => xBytesToString P s src dst (.sl b off len cap)
    | _ => pureOp P fr s o
  | .binOp op t x y _ => match evalC fr x, evalC fr y with
    | some a, some b => match nilEq a b with
      | some r => if nilKind P t a b then
          match op with
          | .eql => some (.one (.c (.bool r)), s)
          | .neq => some (.one (.c (.bool !r)), s)
          | _ => none
        else none
      | none => pureOp P fr s o
    | _, _ => pureOp P fr s o
  | .call { callee := .builtin b, args, argTypes } => match b, args.toList, argTypes.toList with
    | .len, [x], t :: _ => (eval1 fr x).bind (xLen P s t)
    | .cap, [x], t :: _ => (evalC fr x).bind (xCap P s t)
    | .clear, [x], t :: _ => (evalC fr x).bind (xClear P s t)
    | .append, [x, y], t0 :: ts => match evalC fr x, evalC fr y with
      | some x, some y => xAppend P s t0 ts.head? x y
      | _, _ => none
    | .copy, [x, y], t0 :: _ => match evalC fr x, evalC fr y with
      | some x, some y => xCopy P s t0 x y
      | _, _ => none
    | .delete, [m, k], t :: _ => match evalC fr m, eval1 fr k with
      | some (.map b), some k => xDelete P s t b k
      | _, _ => none
    | .min, _, _ => pureOp P fr s o
    | .max, _, _ => pureOp P fr s o
    | _, _, _ => none
  | .call { callee := .value g, args, .. } => match evalC fr g, argsOf fr args.toList with
    | some (.fn f caps), some vs => xCallFn X callF s f (vs ++ caps.map fun p => ptrV p.1 p.2)
    | _, _ => none
  | .unOp .. | .index .. => pureOp P fr s o
  | _ => none
def putV (fr : Fr) : Option Nat → V → Fr
  | some d, v => fr.put d v
  | none, _ => fr
def boolIs (want : Bool) : V → Bool
  | .one (.c (.bool b)) => b == want
  | _ => false
/-- Is an operation wanted? -/
def wantedA (ops : Array Oper) (fr : Fr) (o : Oper) : Bool :=
  match o.guard with
  | none => true
  | some (j, want) => match (ops[j]?).bind (·.dst) with
    | some t => boolIs want (fr.get t)
    | none => false
def opsRun (P : Program) (X : Spec) (callF : CallF) (ops : Array Oper) : List Oper → Fr → St → Option (Fr × St)
  | [], fr, s => some (fr, s)
  | o :: rest, fr, s =>
    if wantedA ops fr o then
      match opRun P X callF fr s o with
      | some (v, s) => opsRun P X callF ops rest (putV fr o.dst v) s
      | none => none
    else opsRun P X callF ops rest (putV fr o.dst undefV) s
/-! A region that draws its order: what may move memory has its order told; what only looks is asked wherever it may come. -/
def isMover : Op → Bool
  | .move _ | .assign _ | .pick .. | .load .. | .nilCheck _ | .fieldAddr .. | .field .. | .build .. | .indexAddr .. | .slice .. | .makeFunc .. | .lookup .. | .extract .. | .convert .. | .binOp .. | .unOp .. | .index .. => false
  | .call { callee := .builtin .len, .. } | .call { callee := .builtin .min, .. } | .call { callee := .builtin .max, .. } => false
  | _ => true
def bitB (b : Array Nat) (i j : Nat) : Bool := (b.getD i 0).testBit j
def staticOK (ops : Array Oper) : Bool :=
  let b := Region.before ops
  (List.range ops.size).all fun i => match ops[i]? with
    | none => false
    | some o =>
      (o.after.toList.all fun e => !Region.binds .any e || decide (e.on < i)) &&
      ((List.range ops.size).all fun j => !bitB b i j || (o.after.toList.any fun e => Region.binds .any e && (j == e.on || bitB b e.on j))) &&
      ((List.range ops.size).all fun j => match ops[j]? with
        | none => false
        | some u => (j == i || (match u.dst with
            | none => true
            | some d => !(o.dst == some d || (o.looksAt ops).contains d) || (if j < i then bitB b i j else bitB b j i))) &&
          (!(isMover o.op && isMover u.op && decide (j < i)) || bitB b i j))
structure Tr where
  want : Bool
  v : V
  s : St
  s' : St
  fr : Fr
instance : Inhabited Tr := ⟨⟨false, undefV, ⟨[], [], 0⟩, ⟨[], [], 0⟩, ⟨0, .leaf⟩⟩⟩
def restrTo (fr : Fr) : List Nat → Fr → Fr
  | [], f => f
  | t :: ts, f => restrTo fr ts (f.put t (fr.get t))
def restr (ts : List Nat) (fr : Fr) : Fr := restrTo fr ts ⟨fr.size, .leaf⟩
def trace (P : Program) (X : Spec) (callF : CallF) (ops : Array Oper) : List Oper → Fr → St → Option (List Tr × Fr × St)
  | [], fr, s => some ([], fr, s)
  | o :: rest, fr, s =>
    if wantedA ops fr o then
      match opRun P X callF (restr (o.looksAt ops) fr) s o with
      | some (v, s1) =>
        if isMover o.op || s1.next == s.next then
          match trace P X callF ops rest (putV fr o.dst v) s1 with
          | some (l, fr', s') => some (⟨true, v, s, s1, fr⟩ :: l, fr', s')
          | none => none
        else none
      | none => none
    else match trace P X callF ops rest (putV fr o.dst undefV) s with
      | some (l, fr', s') => some (⟨false, undefV, s, s, fr⟩ :: l, fr', s')
      | none => none
/-- Does what only looks say the same behind any mover that may stand ahead of it? -/
def sameAt (P : Program) (X : Spec) (callF : CallF) (ops : Array Oper) (o : Oper) (t : Tr) (s : St) : Bool :=
  match opRun P X callF (restr (o.looksAt ops) t.fr) s o with
  | some (v, s1) => decide (v = t.v) && s1.next == s.next
  | none => false
def dynOK (P : Program) (X : Spec) (callF : CallF) (ops : Array Oper) (trs : List Tr) (s0 : St) : Bool :=
  let b := Region.before ops
  (List.range ops.size).all fun i => match ops[i]?, trs[i]? with
    | some o, some t =>
      isMover o.op || !t.want ||
      (((List.range ops.size).any (fun j => ((ops[j]?).any fun u => isMover u.op) && bitB b i j) || sameAt P X callF ops o t s0) &&
       (List.range ops.size).all fun j => match ops[j]?, trs[j]? with
        | some u, some tj =>
          !isMover u.op || bitB b j i || (List.range ops.size).any (fun k => decide (j < k) && ((ops[k]?).any fun u => isMover u.op) && bitB b i k) || sameAt P X callF ops o t tj.s'
        | _, _ => false)
    | _, _ => false
/-- A new variable that may come whenever it likes: it is laid first; where it comes, it only turns up. -/
def floatAt (ops : Array Oper) (i : Nat) : Option (Nat × Nat × TypeId) :=
  let b := Region.before ops
  match ops[i]? with
  | some o => match o.op, o.dst, o.guard with
    | .alloc t, some d, none => if (List.range ops.size).any fun j => ((ops[j]?).any fun u => isMover u.op) && j != i && !bitB b i j && !bitB b j i then some (i, d, t) else none
    | _, _, _ => none
  | none => none
def unfloatL (d : Nat) : List Oper → Nat → List Oper
  | [], _ => []
  | o :: l, 0 => { o with op := .move (.tmp d) } :: l
  | o :: l, i + 1 => o :: unfloatL d l i
def unfloat (ops : Array Oper) (i d : Nat) : Array Oper := ⟨unfloatL d ops.toList i⟩
def unusedAt (s : St) (a : Nat) (z : List Cell) (t : TypeId) : Bool := match s.get a with
  | some (.blk cells ty esz fam ver) => decide (cells = z) && ty == t && esz == 1 && decide (fam < s.next) && decide (ver ≤ (s.fam fam).1)
  | _ => false
/-- Nothing touches it ahead of what comes behind it. -/
def freeOK (ops : Array Oper) (trs : List Tr) (i d a : Nat) (z : List Cell) (t : TypeId) (s1 : St) : Bool :=
  let b := Region.before ops
  unusedAt s1 a z t && ((trs[i]?).any fun tr => tr.want && decide (tr.v = ptrV a 0)) &&
  (List.range ops.size).all fun j => match ops[j]?, trs[j]? with
    | some u, some tj => (!isMover u.op || bitB b j i || unusedAt tj.s' a z t) && (j == i || bitB b j i || !(u.dst == some d || (u.looksAt ops).contains d))
    | _, _ => false
def freeRun (P : Program) (X : Spec) (callF : CallF) (ops : Array Oper) (fr : Fr) (s : St) (i d : Nat) (t : TypeId) : Option (Fr × St) :=
  match zeroT P t with
  | some z =>
    if staticOK (unfloat ops i d) then
      match trace P X callF (unfloat ops i d) (unfloat ops i d).toList (fr.put d (ptrV s.next 0)) (s.new z t 1) with
      | some (trs, fr', s') => if dynOK P X callF (unfloat ops i d) trs (s.new z t 1) && freeOK (unfloat ops i d) trs i d s.next z t (s.new z t 1) then some (fr', s') else none
      | none => none
    else none
  | none => none
def drawRun (P : Program) (X : Spec) (callF : CallF) (ops : Array Oper) (fr : Fr) (s : St) : Option (Fr × St) :=
  if staticOK ops then
    match trace P X callF ops ops.toList fr s with
    | some (trs, fr', s') => if dynOK P X callF ops trs s then some (fr', s') else none
    | none => none
  else match (List.range ops.size).findSome? (floatAt ops) with
    | some (i, d, t) => freeRun P X callF ops fr s i d t
    | none => none
inductive Ex where
  | normal
  | exit (id : Nat)
  | ret
def resultsA (P : Program) (s : St) (fr : Fr) : List ResultVar → Option (List V1)
  | [] => some []
  | .tmp t :: l => match fr.get t, resultsA P s fr l with
    | .one v, some vs => some (v :: vs)
    | _, _ => none
  | .cell a t :: l => match fr.get a, resultsA P s fr l with
    | .one (.c (.ptr b off)), some vs => match xLoad P s t b off with
      | some (.one v, _) => some (v :: vs)
      | _ => none
    | _, _ => none
def retV : List V1 → V
  | [v] => .one v
  | vs => .tup vs
/-- Runs code; the fuel bounds how deep, and how often. -/
def go (P : Program) (X : Spec) : Nat → Code → Fr → St → Option (Ex × Fr × St)
  | 0, _, _, _ => none
  | n + 1, c, fr, s =>
    let callF : CallF := fun f args s =>
      match P.funcs[f]? with
      | some fn => match fn.body with
        | some body => match go P X n body (Fr.of args fn.ntmps) s with
          | some (.normal, fr, s) | some (.ret, fr, s) => (resultsA P s fr fn.results.toList).map fun vs => (retV vs, s)
          | _ => none
        | none => none
      | none => none
    match c with
    | .skip => some (.normal, fr, s)
    | .ret => some (.ret, fr, s)
    | .exit id => some (.exit id, fr, s)
    | .seq a b => match go P X n a fr s with
      | some (.normal, fr, s) => go P X n b fr s
      | r => r
    | .cond x a b => match evalC fr x with
      | some (.bool true) => go P X n a fr s
      | some (.bool false) => go P X n b fr s
      | _ => none
    | .block id c => match go P X n c fr s with
      | some (.exit i, fr, s) => if i = id then some (.normal, fr, s) else some (.exit i, fr, s)
      | r => r
    | .loop c => match go P X n c fr s with
      | some (.normal, fr, s) => go P X n (.loop c) fr s
      | r => r
    | .region _ ops draw => (if draw then drawRun P X callF ops fr s else opsRun P X callF ops ops.toList fr s).map fun (fr, s) => (.normal, fr, s)
    | _ => none
def callA (P : Program) (X : Spec) (n : Nat) (f : Nat) (args : List V) (s : St) : Option (V × St) :=
  match P.funcs[f]? with
  | some fn => match fn.body with
    | some body => match go P X n body (Fr.of args fn.ntmps) s with
      | some (.normal, fr, s) | some (.ret, fr, s) => (resultsA P s fr fn.results.toList).map fun vs => (retV vs, s)
      | _ => none
    | none => none
  | none => none
def St.empty : St := ⟨[], [], 0⟩
end Go.Proofs.Ytdhnjkagmbfoaaa.AM
