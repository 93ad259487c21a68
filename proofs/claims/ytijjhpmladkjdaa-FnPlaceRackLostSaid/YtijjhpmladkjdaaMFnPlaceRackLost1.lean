/- Part 1 of the proof of the statement FnPlaceRackLost; the last part states it. No condition. -/
import Derived.Below
import Derived.Laws.CopyRow
import Derived.Laws.Cells
import Derived.Laws.MakeOwn
import Derived.Laws.Rows
import Derived.Laws.Slices
import Derived.Laws.AppendOwn
import Derived.Laws.Tables
import Derived.Lib.AppendZerosOnto
import Derived.Laws.StructEq
import Derived.Laws.IdiomCopy
set_option linter.unusedVariables false
set_option linter.unusedSimpArgs false
section
namespace Go.Proofs.Ytijjhpmladkjdaa.E
open Go
inductive Ty where
 | int (k : IntKind) | bool | str | unit | sl (t : Ty) | pair (a b : Ty) | arr (n : Nat) (t : Ty)
def Ty.den:Ty→Type
 | .int _ => Int | .bool => Bool | .str => ByteArray | .unit => Unit | .sl t => List t.den | .pair a b => a.den × b.den | .arr _ t => List t.den
def Ty.size:Ty→Nat
 | .int _ | .bool | .str | .sl _ => 1 | .unit => 0 | .pair a b => a.size + b.size | .arr n t => n * t.size
def Ty.dflt:(t:Ty)→t.den
 | .int _ => (0 : Int) | .bool => false | .str => ByteArray.empty | .unit => () | .sl _ => ([] : List _) | .pair a b => (a.dflt, b.dflt) | .arr n t => List.replicate n t.dflt
def kindEq:(a b:IntKind)→Option (PLift (a=b))
 | .i8, .i8 => some ⟨rfl⟩ | .i16, .i16 => some ⟨rfl⟩ | .i32, .i32 => some ⟨rfl⟩ | .i64, .i64 => some ⟨rfl⟩
 | .u8, .u8 => some ⟨rfl⟩ | .u16, .u16 => some ⟨rfl⟩ | .u32, .u32 => some ⟨rfl⟩ | .u64, .u64 => some ⟨rfl⟩
 | _, _ => none
def natEq:(a b:Nat)→Option (PLift (a=b)):=fun a b=>if h:a=b then some ⟨h⟩else none
def Ty.eq?:(a b:Ty)→Option (PLift (a=b))
 | .int k, .int l => match kindEq k l with | some ⟨h⟩ => some ⟨h ▸ rfl⟩ | none => none
 | .bool, .bool => some ⟨rfl⟩ | .str, .str => some ⟨rfl⟩ | .unit, .unit => some ⟨rfl⟩
 | .sl a, .sl b => match Ty.eq? a b with | some ⟨h⟩ => some ⟨h ▸ rfl⟩ | none => none
 | .pair a b, .pair c d => match Ty.eq? a c, Ty.eq? b d with | some ⟨h⟩, some ⟨g⟩ => some ⟨h ▸ g ▸ rfl⟩ | _, _ => none
 | .arr n a, .arr m b => match natEq n m, Ty.eq? a b with | some ⟨h⟩, some ⟨g⟩ => some ⟨h ▸ g ▸ rfl⟩ | _, _ => none
 | _, _ => none
inductive Atom where
 | int (k : IntKind) (n : Int) | bool (b : Bool) | str (s : ByteArray)
 | ro (t : Ty) (fr : Bool) (l : List t.den)
 | arr (n : Nat) (t : Ty) (fr : Bool) (l : List t.den)
 | own (id : Nat)
 | sub (id : Nat) (lo hi : Nat)
 | av (id : Nat) (off : Nat)
 | bel (id : Nat) (i : Nat) (off : Nat) (n : Nat) (e : Ty) (j : Nat)
 | rk (t : Ty) (nil : Bool) (l : List t.den)
 | ptr (id : Nat) (i : Nat) (off : Nat)
 | pel (id : Nat) (off : Nat) (i : Nat)
 | rp (t : Ty) (fr : Bool) (x : t.den)
 | nils | e0 | np
 | fn (f : Nat) (caps : List Nat)
inductive V1 where
 | one (a : Atom) | agg (asq : List Atom)
inductive AVal where
 | v (x : V1) | tup (xs : List V1) | any | und
inductive Obj' where
 | box (asq : List Atom) | buf (t : Ty) (fr : Bool) (l : List t.den) | dead
abbrev Hp:=List (Nat×Obj')
abbrev En:=List (Nat×AVal)
def get {α:Type} (k:Nat):List (Nat×α)→Option α
 | [] => none
 | (j, v) :: r => match Nat.beq j k with | true => some v | false => get k r
inductive TD where
 | sc (t : Ty) | sl (e : Ty) (bytes : Nat) | st (fs : List Ty) | ar (n : Nat) (e : Ty) | pa (n : Nat) (e : Ty) | cell | vw (n : Nat)
def tys:List Ty→Ty
 | [] => .unit | t :: r => .pair t (tys r)
def TD.ty:TD→Option Ty
 | .sc t => some t | .sl e _ => some (.sl e) | .st fs => some (tys fs) | .ar n e => some (.arr n e) | .pa _ _ => none | .cell => none | .vw _ => none
def atomsOf (fr:Bool):(t:Ty)→t.den→List Atom
 | .int k, n => [.int k n] | .bool, b => [.bool b] | .str, s => [.str s] | .unit, _ => []
 | .sl t, l => [.ro t fr l] | .pair a b, p => atomsOf fr a p.1 ++ atomsOf fr b p.2 | .arr n t, l => [.arr n t fr l]
def toV (fr:Bool):(t:Ty)→t.den→V1
 | .int k, n => .one (.int k n) | .bool, b => .one (.bool b) | .str, s => .one (.str s) | .sl t, l => .one (.ro t fr l)
 | t, x => .agg (atomsOf fr t x)
def Atom.size:Atom→Nat
 | .arr n t _ _ => n * t.size | _ => 1
def cutCells:List Atom→Nat→Option (List Atom×List Atom)
 | [], 0 => some ([], [])
 | [], _ + 1 => none
 | a :: asq, 0 => some ([], a :: asq)
 | a :: asq, n + 1 => match Nat.ble a.size (n + 1) with
  | true => match cutCells asq (n + 1 - a.size) with | some (p, q) => some (a :: p, q) | none => none
  | false => none
structure Got (t:Ty) where
 x:t.den
 fr:Bool
 ids:List Nat
def cutL {α:Type} (l:List α) (lo hi:Nat):List α:=(l.take hi).drop lo
def asAtom (g:Nat→Option Obj'):(t:Ty)→Atom→Option (Got t)
 | .int k, .int l n => match kindEq k l with | some _ => some ⟨n, true, []⟩ | none => none
 | .bool, .bool b => some ⟨b, true, []⟩
 | .str, .str s => some ⟨s, true, []⟩
 | .sl t, .ro u fr l => match Ty.eq? u t with | some ⟨h⟩ => some ⟨h ▸ l, fr, []⟩ | none => none
 | .sl t, .own id => match g id with
  | some (.buf u fr l) => match Ty.eq? u t with | some ⟨h⟩ => some ⟨h ▸ l, fr, [id]⟩ | none => none
  | _ => none
 | .sl t, .sub id lo hi => match g id with
  | some (.buf u fr l) => match Ty.eq? u t with | some ⟨h⟩ => some ⟨h ▸ cutL l lo hi, fr, [id]⟩ | none => none
  | _ => none
 | .sl t, .av id off => match g id with
  | some (.box asq) => match cutCells asq off with
   | some (_, .arr _ u fr l :: _) => match Ty.eq? u t with | some ⟨h⟩ => some ⟨h ▸ l, fr, [id]⟩ | none => none
   | _ => none
  | _ => none
 | .sl t, .rk u _ l => match Ty.eq? u t with | some ⟨h⟩ => some ⟨h ▸ l, false, []⟩ | none => none
 | .sl _, .nils => some ⟨([] : List _), true, []⟩
 | .sl _, .e0 => some ⟨([] : List _), true, []⟩
 | .arr n t, .arr m u fr l => match natEq n m, Ty.eq? u t with | some _, some ⟨h⟩ => some ⟨h ▸ l, fr, []⟩ | _, _ => none
 | _, _ => none
def asTy (g:Nat→Option Obj'):(t:Ty)→List Atom→Option (Got t×List Atom)
 | .pair a b, asq => match asTy g a asq with
  | some (x, as') => match asTy g b as' with
   | some (y, as'') => some (⟨(x.x, y.x), x.fr && y.fr, x.ids ++ y.ids⟩, as'')
   | none => none
  | none => none
 | .unit, asq => some (⟨(), true, []⟩, asq)
 | t, a :: asq => match asAtom g t a with | some x => some (x, asq) | none => none
 | _, [] => none
def V1.atoms:V1→List Atom
 | .one a => [a] | .agg asq => asq
def asV (g:Nat→Option Obj') (t:Ty) (v:V1):Option (Got t):=
 match asTy g t v.atoms with | some (x,[])=>some x | _=>none
def zeroAtoms:Ty→List Atom
 | .int k => [.int k 0] | .bool => [.bool false] | .str => [.str ByteArray.empty] | .unit => [] | .sl _ => [.nils]
 | .pair a b => zeroAtoms a ++ zeroAtoms b | .arr n t => [.arr n t true (List.replicate n t.dflt)]
structure Part where
 t:Ty
 x:t.den
def partAt:(t:Ty)→t.den→Nat→Ty→Option Part
 | .pair a b, p, off, u => match Ty.eq? (.pair a b) u, off with
  | some _, 0 => some ⟨.pair a b, p⟩
  | _, _ => match Nat.blt off a.size with | true => partAt a p.1 off u | false => partAt b p.2 (off - a.size) u
 | t, x, 0, u => match Ty.eq? t u with | some _ => some ⟨t, x⟩ | none => none
 | _, _, _, _ => none
def pick (c:Bool):AVal→AVal→AVal
 | .v (.one (.bool x)), .v (.one (.bool y)) => .v (.one (.bool (bif c then x else y)))
 | a, b => match c with | true => a | false => b
inductive Out where
 | fail | ok (chk : Bool) (v : AVal) (hs : Hp)
def one (a:Atom):AVal:=.v (.one a)
def aggTy:Ty→Bool
 | .pair _ _ | .unit | .arr _ _ => true | _ => false
noncomputable def ltS:{ f:Int→Int→Bool // f=fun a b=>decide (a<b) }:=Classical.choice ⟨⟨_,rfl⟩⟩
noncomputable def leS:{ f:Int→Int→Bool // f=fun a b=>decide (a≤b) }:=Classical.choice ⟨⟨_,rfl⟩⟩
noncomputable def eqS:{ f:Int→Int→Bool // f=fun a b=>a==b }:=Classical.choice ⟨⟨_,rfl⟩⟩
noncomputable def wrapS:{ f:IntKind→Int→Int // f=fun k a=>k.wrap a }:=Classical.choice ⟨⟨_,rfl⟩⟩
noncomputable def inS:{ f:Int→Nat→Bool // f=fun(i:Int) (n:Nat)=>(decide (0≤i))&&(decide (i<(n:Int))) }:=Classical.choice ⟨⟨_,rfl⟩⟩
noncomputable def mostS:{ f:Nat→Bool // f=fun n=>Nat.blt n 1073741824 }:=Classical.choice ⟨⟨_,rfl⟩⟩
noncomputable def ilt (a b:Int):Bool:=ltS.1 a b
noncomputable def ile (a b:Int):Bool:=leS.1 a b
noncomputable def ieq (a b:Int):Bool:=eqS.1 a b
noncomputable def iwrap (k:IntKind) (a:Int):Int:=wrapS.1 k a
noncomputable def inRange (i:Int) (n:Nat):Bool:=inS.1 i n
def most:Nat:=1073741824
noncomputable def fewer (n:Nat):Bool:=mostS.1 n
noncomputable def xorS:{ f:IntKind→Int→Int→Int // f=fun k a b=>k.wrap ((BitVec.ofInt k.bits a ^^^ BitVec.ofInt k.bits b).toNat:Int) }:=Classical.choice ⟨⟨_,rfl⟩⟩
noncomputable def maxS:{ f:Int→Int→Int // f=fun a b=>if b > a then b else a }:=Classical.choice ⟨⟨_,rfl⟩⟩
noncomputable def leqS:{ f:List Int→List Int→Bool // f=fun a b=>a==b }:=Classical.choice ⟨⟨_,rfl⟩⟩
noncomputable def ixor (k:IntKind) (a b:Int):Int:=xorS.1 k a b
noncomputable def imax (a b:Int):Int:=maxS.1 a b
noncomputable def leq (a b:List Int):Bool:=leqS.1 a b
theorem ixor_eq (k:IntKind) (a b:Int):ixor k a b=k.wrap ((BitVec.ofInt k.bits a ^^^ BitVec.ofInt k.bits b).toNat:Int):=congrFun (congrFun (congrFun xorS.2 k) a) b
theorem imax_eq (a b:Int):imax a b=if b > a then b else a:=congrFun (congrFun maxS.2 a) b
theorem leq_eq (a b:List Int):leq a b=(a==b):=congrFun (congrFun leqS.2 a) b
theorem ilt_eq (a b:Int):ilt a b=decide (a<b):=congrFun (congrFun ltS.2 a) b
theorem ile_eq (a b:Int):ile a b=decide (a≤b):=congrFun (congrFun leS.2 a) b
theorem ieq_eq (a b:Int):ieq a b=(a==b):=congrFun (congrFun eqS.2 a) b
theorem iwrap_eq (k:IntKind) (a:Int):iwrap k a=k.wrap a:=congrFun (congrFun wrapS.2 k) a
theorem inRange_eq (i:Int) (n:Nat):inRange i n=((decide (0≤i))&&(decide (i<(n:Int)))):=congrFun (congrFun inS.2 i) n
theorem fewer_eq (n:Nat):fewer n=Nat.blt n most:=congrFun mostS.2 n
noncomputable section
def intOp (op:BinOp) (k:IntKind) (a b:Int):Out:=
 match op with
 | .add => .ok true (one (.int k (iwrap k (a + b)))) []
 | .sub => .ok true (one (.int k (iwrap k (a - b)))) []
 | .mul => .ok true (one (.int k (iwrap k (a * b)))) []
 | .quo => .ok (!(b == 0)) (one (.int k (iwrap k (a.tdiv b)))) []
 | .rem => .ok (!(b == 0)) (one (.int k (a.tmod b))) []
 | .eql => .ok true (one (.bool (ieq a b))) []
 | .neq => .ok true (one (.bool (!ieq a b))) []
 | .lss => .ok true (one (.bool (ilt a b))) []
 | .leq => .ok true (one (.bool (ile a b))) []
 | .gtr => .ok true (one (.bool (ilt b a))) []
 | .geq => .ok true (one (.bool (ile b a))) []
 | .xor => .ok true (one (.int k (ixor k a b))) []
 | _ => .fail
def scTy:Ty→Bool
 | .int _ | .bool => true | _ => false
def ptTy:Ty→Bool
 | .int _ | .bool => true | .arr _ (.int _) => true | _ => false
def eqTy:Ty→Bool
 | .pair a b => scTy a && eqTy b | .unit => true | .arr _ (.int _) => true | _ => false
def eqSc:(t:Ty)→t.den→t.den→Bool
 | .int _, a, b => ieq a b | .bool, a, b => Bool.xor a (!b) | _, _, _ => true
def eqV:(t:Ty)→t.den→t.den→Bool
 | .pair a b, p, q => eqSc a p.1 q.1 && eqV b p.2 q.2 | .arr _ (.int _), l, m => leq l m | _, _, _ => true
def eqOut (op:BinOp) (b:Bool):Out:=
 match op with | .eql=>.ok true (one (.bool b)) [] | .neq=>.ok true (one (.bool (!b))) [] | _=>.fail
def fieldTy:List Ty→Nat→Option (Nat×Ty)
 | [], _ => none
 | t :: _, 0 => some (0, t)
 | t :: r, i + 1 => match fieldTy r i with | some (o, u) => some (t.size + o, u) | none => none
def fillFields (parts:List (Nat×V1)) (g:Nat→Option Obj'):Nat→List Ty→Option (List Atom)
 | _, [] => some []
 | i, t :: r => match fillFields parts g (i + 1) r with
  | none => none
  | some rest => match get i parts with
   | none => some (zeroAtoms t ++ rest)
   | some v => match shapeOf g t v.atoms with | true => some (v.atoms ++ rest) | false => none
where
 shapeOf (_g:Nat→Option Obj') (t:Ty) (asq:List Atom):Bool:=match cutCells asq t.size with | some (_,[])=>true | _=>false
def fillElems (parts:List (Nat×V1)) (g:Nat→Option Obj') (t:Ty):Nat→Nat→Option (Got (.sl t))
 | _, 0 => some ⟨([] : List _), true, []⟩
 | i, n + 1 => match fillElems parts g t (i + 1) n with
  | none => none
  | some r => match get i parts with
   | none => some ⟨(t.dflt :: r.x : List _), r.fr, r.ids⟩
   | some v => match asV g t v with | some x => some ⟨(x.x :: r.x : List _), x.fr && r.fr, x.ids ++ r.ids⟩ | none => none
def distinctKeys {α:Type}:List (Nat×α)→Bool
 | [] => true
 | (k, _) :: r => (match get k r with | none => true | some _ => false) && distinctKeys r
def below {α:Type} (n:Nat):List (Nat×α)→Bool
 | [] => true
 | (k, _) :: r => Nat.blt k n && below n r
def partsOf (val:Operand→AVal):List (Nat×Operand)→Option (List (Nat×V1))
 | [] => some []
 | (i, x) :: r => match val x, partsOf val r with | .v v, some vs => some ((i, v) :: vs) | _, _ => none
def kill (ids:List Nat):Hp:=ids.map fun i=>(i,.dead)
def newObj (g:Nat→Option Obj') (id:Nat) (o:Obj') (ids:List Nat) (v:AVal):Out:=
 match g id with | none=>.ok true v ((id,o)::kill ids) | some _=>.fail
def loadAt (g : Nat → Option Obj') (d : TD) : Atom → Out
 | .rp t fr x => match d.ty with
  | some u => match partAt t x 0 u with | some p => .ok true (.v (toV fr p.t p.x)) [] | none => .fail
  | none => .fail
 | .ptr id i off => match g id with
  | some (.buf t fr l) => match d.ty with
   | some u => match partAt t (l.getD i t.dflt) off u with | some p => .ok true (.v (toV fr p.t p.x)) [] | none => .fail
   | none => .fail
  | some (.box asq) => match cutCells asq off with
   | some (_, rest) => match d with
    | .st fs => match cutCells rest (tys fs).size with | some (m, _) => .ok true (.v (.agg m)) [] | none => .fail
    | .ar n e => match rest with
     | .arr m t fr l :: _ => match natEq n m, Ty.eq? t e with | some _, some _ => .ok true (.v (.agg [.arr m t fr l])) [] | _, _ => .fail
     | _ => .fail
    | _ => match rest with | .arr _ _ _ _ :: _ => .fail | a :: _ => .ok true (one a) [] | [] => .fail
   | none => .fail
  | _ => .fail
 | .pel id off i => match g id with
  | some (.box asq) => match cutCells asq off with
   | some (_, .arr _ t fr l :: _) => match d.ty with
    | some u => match Ty.eq? t u with | some _ => .ok true (.v (toV fr t (l.getD i t.dflt))) [] | none => .fail
    | none => .fail
   | _ => .fail
  | _ => .fail
 | .bel id i off n e j => match g id with
  | some (.buf t fr l) => match d.ty with
   | some u => match Ty.eq? e u, partAt t (l.getD i t.dflt) off (.arr n e) with
    | some _, some ⟨.arr _ b, x⟩ => .ok true (.v (toV fr b (List.getD (α := b.den) x j b.dflt))) []
    | _, _ => .fail
   | none => .fail
  | _ => .fail
 | _ => .fail
def splice (asq:List Atom) (off n:Nat) (new:List Atom):Option (List Atom):=
 match cutCells asq off with
 | some (p, rest) => match cutCells rest n with | some (_, q) => some (p ++ new ++ q) | none => none
 | none => none
def sameForm:List Atom→List Atom→Bool
 | [], [] => true
 | .arr n t _ _ :: asq, .arr m u _ _ :: bs => (match natEq n m, Ty.eq? t u with | some _, some _ => true | _, _ => false) && sameForm asq bs
 | .arr _ _ _ _ :: _, _ :: _ => false
 | _ :: _, .arr _ _ _ _ :: _ => false
 | _ :: asq, _ :: bs => sameForm asq bs
 | _, _ => false
def setPart:(t:Ty)→t.den→Nat→(u:Ty)→u.den→Option t.den
 | .pair a b, p, off, u, y => match Nat.blt off a.size with
  | true => match setPart a p.1 off u y with | some x => some (x, p.2) | none => none
  | false => match setPart b p.2 (off - a.size) u y with | some x => some (p.1, x) | none => none
 | t, _, 0, u, y => match ptTy t, Ty.eq? u t with | true, some ⟨h⟩ => some (h ▸ y) | _, _ => none
 | _, _, _, _, _ => none
def storeAt (g : Nat → Option Obj') (d : TD) (v : V1) : Atom → Out
 | .ptr id i off => match g id with
  | some (.buf t fr l) => match off, asV g t v, d.ty with
   | 0, some x, some u => match x.ids, Ty.eq? t u with
    | [], some _ => .ok true .any [(id, .buf t (fr && x.fr) (l.set i x.x))]
    | _, _ => .fail
   | _, _, some u => match ptTy u, asV g u v with
    | true, some x => match setPart t (l.getD i t.dflt) off u x.x with
     | some y => .ok true .any [(id, .buf t fr (l.set i y))]
     | none => .fail
    | _, _ => .fail
   | _, _, _ => .fail
  | some (.box asq) =>
   let n:=match d with | .st fs=>(tys fs).size | .ar n e=>n*e.size | _=>1
   match cutCells v.atoms n with
   | some (_, []) => match splice asq off n v.atoms with
    | some as' => (match sameForm asq as' with | true => .ok true .any [(id, .box as')] | false => .fail)
    | none => .fail
   | _ => .fail
  | _ => .fail
 | .pel id off i => match g id with
  | some (.box asq) => match cutCells asq off with
   | some (p, .arr n t fr l :: q) => match asV g t v, d.ty with
    | some x, some u => match x.ids, Ty.eq? t u with
     | [], some _ => .ok true .any [(id, .box (p ++ .arr n t (fr && x.fr) (l.set i x.x) :: q))]
     | _, _ => .fail
    | _, _ => .fail
   | _ => .fail
  | _ => .fail
 | _ => .fail
def indexAt (g:Nat→Option Obj') (d:TD) (i:Int):Atom→Out
 | .ro t fr l => match d with
  | .sl e _ => match Ty.eq? t e with
   | some _ => .ok (inRange i l.length) (one (.rp t fr (l.getD i.toNat t.dflt))) []
   | none => .fail
  | _ => .fail
 | .own id => match d, g id with
  | .sl e _, some (.buf t _ l) => match Ty.eq? t e with
   | some _ => .ok (inRange i l.length) (one (.ptr id i.toNat 0)) []
   | none => .fail
  | _, _ => .fail
 | .ptr id k off => match d, g id with
  | .ar n e, some (.buf t _ l) => match partAt t (l.getD k t.dflt) off (.arr n e) with
   | some _ => .ok (inRange i n) (one (.bel id k off n e i.toNat)) []
   | none => .fail
  | .ar n e, some (.box asq) => match cutCells asq off with
   | some (_, .arr m t _ _ :: _) => match natEq n m, Ty.eq? t e with | some _, some _ => .ok (inRange i n) (one (.pel id off i.toNat)) [] | _, _ => .fail
   | _ => .fail
  | _, _ => .fail
 | .rp (.arr n t) fr x => match d with
  | .ar m e => match natEq n m, Ty.eq? t e with | some _, some _ => .ok (inRange i n) (one (.rp t fr (List.getD x i.toNat t.dflt))) [] | _, _ => .fail
  | _ => .fail
 | _ => .fail
def optInt (dflt:Int):Option AVal→Option Int
 | none => some dflt
 | some (.v (.one (.int _ n))) => some n
 | _ => none
abbrev cut {α:Type} (l:List α) (lo hi:Nat):List α:=cutL l lo hi
def clr {α:Type} (d:α) (l:List α) (lo hi:Nat):List α:=l.take lo++List.replicate (hi-lo) d++l.drop hi
def cpy {α:Type} (l:List α) (lo hi:Nat) (y:List α):List α:=l.take lo++y.take (hi-lo)++l.drop (lo+min (hi-lo) y.length)
def isZero:Option Operand→Bool
 | some (.const (.int _ (.ofNat 0))) => true
 | _ => false
def sliceAt (g : Nat → Option Obj') (nid : Nat) (e : Ty) (z : Bool) (lo hi mx : Option AVal) : Atom → Out
 | .ro t fr l => match Ty.eq? t e, z with
  | none, _ => .fail
  | some _, true => .ok true (one .e0) []
  | some _, false => match optInt 0 lo, optInt l.length hi, optInt l.length mx with
   | some a, some b, some c => .ok (ile 0 a && ile a b && ile b c && ile c l.length) (one (.ro t fr (cut l a.toNat b.toNat))) []
   | _, _, _ => .fail
 | .rk t _ _ => match Ty.eq? t e, z with
  | some _, true => .ok true (one .e0) []
  | _, _ => .fail
 | .own id => match lo, g id with
  | none, some (.buf t fr l) => match Ty.eq? t e, optInt l.length hi, optInt l.length mx with
   | some _, some b, some c => match g nid with
    | none => .ok (ile 0 b && ile b c && ile c l.length) (one (.own nid)) [(nid, .buf t fr (l.take b.toNat)), (id, .dead)]
    | some _ => .fail
   | _, _, _ => .fail
  | some _, some (.buf t fr l) => match Ty.eq? t e, optInt 0 lo, optInt l.length hi, optInt l.length mx with
   | some _, some a, some b, some c => .ok (ile 0 a && ile a b && ile b c && ile c l.length) (one (.sub id a.toNat b.toNat)) []
   | _, _, _, _ => .fail
  | _, _ => .fail
 | _ => .fail
def sliceVw (g:Nat→Option Obj') (e:Ty) (lo hi mx:Option AVal):Atom→Out
 | .own id => match g id with
  | some (.buf t fr l) => match Ty.eq? t e, optInt 0 lo, optInt l.length hi, optInt l.length mx with
   | some _, some a, some b, some c => .ok (ile 0 a && ile a b && ile b c && ile c l.length) (one (.sub id a.toNat b.toNat)) []
   | _, _, _, _ => .fail
  | _ => .fail
 | _ => .fail
def vwOf (T:Nat→Option TD):Option Operand→Bool
 | some (.tmp m) => (match T 2 with | some (.vw n) => Nat.beq n m | _ => false)
 | _ => false
def okMx:Option Operand→Option Operand→Bool
 | none, some _ => false | _, _ => true
def newRow' (g:Nat→Option Obj') (nid:Nat) (t:Ty) (c:Bool) (fr:Bool) (l:List t.den) (ids:List Nat):Out:=
 match g nid with | none=>.ok (c&&fewer l.length) (one (.own nid)) ((nid,.buf t fr l)::kill ids) | some _=>.fail
def appendRow (g:Nat→Option Obj') (nid:Nat) (t:Ty) (s:Atom) (c:Bool) (y:Got (.sl t)):Out:=
 match s with
 | .nils | .e0 => newRow' g nid t c y.fr y.x []
 | .own id => match g id with
  | some (.buf u fr l) => match Ty.eq? u t with
   | some ⟨h⟩ => newRow' g nid t c (fr && y.fr) (List.append (h ▸ l : List t.den) y.x) [id]
   | none => .fail
  | _ => .fail
 | _ => .fail
def appendTo (g:Nat→Option Obj') (nid:Nat) (t:Ty) (s x:Atom):Out:=
 match asAtom g (.sl t) x with
 | none => .fail
 | some y => appendRow g nid t s true y
def lenOf (g:Nat→Option Obj'):Atom→Option Int
 | .ro _ _ l => some l.length
 | .rk _ _ l => some l.length
 | .own id => match g id with | some (.buf _ _ l) => some l.length | _ => none
 | .str s => some s.size
 | .nils => some 0 | .e0 => some 0
 | _ => none
def capIds (g:Nat→Option Obj'):List AVal→Option (List Nat)
 | [] => some []
 | a :: r => match a with
  | .v (.one (.ptr id i off)) => (match i, off, g id, capIds g r with | 0, 0, some (.box _), some l => some (id :: l) | _, _, _, _ => none)
  | _ => none
def act (T : Nat → Option TD) (op : Op) (val : Operand → AVal) (g : Nat → Option Obj') (nid : Nat) : Out :=
 match op with
 | .move x => .ok true (val x) []
 | .assign x => .ok true (val x) []
 | .pick c a b => match val c with | .v (.one (.bool t)) => .ok true (pick t (val a) (val b)) [] | _ => .fail
 | .alloc t => match T t with
  | some .cell => newObj g nid (.box [.np]) [] (one (.ptr nid 0 0))
  | some d => match d.ty with | some u => newObj g nid (.box (zeroAtoms u)) [] (one (.ptr nid 0 0)) | none => .fail
  | none => .fail
 | .box _ x => match val x with | .v v => newObj g nid (.box v.atoms) [] (one (.ptr nid 0 0)) | _ => .fail
 | .build t ps => match T t, partsOf val ps.toList with
  | some (.st fs), some vs => match distinctKeys vs && below fs.length vs, fillFields vs g 0 fs with | true, some asq => .ok true (.v (.agg asq)) [] | _, _ => .fail
  | some (.ar n e), some vs => match distinctKeys vs && below n vs, fillElems vs g e 0 n with
   | true, some ⟨x, fr, []⟩ => .ok true (.v (.agg [.arr n e fr x])) []
   | _, _ => .fail
  | _, _ => .fail
 | .buildSlice t n ps => match T t, partsOf val ps.toList with
  | some (.sl e _), some vs => match distinctKeys vs && below n vs && Nat.ble (n * e.size) 16777216, fillElems vs g e 0 n with
   | true, some ⟨x, fr, ids⟩ => newObj g nid (.buf e fr x) ids (one (.own nid))
   | _, _ => .fail
  | _, _ => .fail
 | .load t a => match T t, val a with | some d, .v (.one p) => loadAt g d p | _, _ => .fail
 | .store t a x => match T t, val a, val x with | some d, .v (.one p), .v v => storeAt g d v p | _, _, _ => .fail
 | .nilCheck x => match val x with
  | .v (.one (.ptr id i off)) => (match g id with | some (.box _) => .ok true (one (.ptr id i off)) [] | some (.buf _ _ _) => .ok true (one (.ptr id i off)) [] | _ => .fail)
  | .v (.one (.rp t fr y)) => .ok true (one (.rp t fr y)) []
  | .v (.one (.fn f c)) => .ok true (one (.fn f c)) []
  | _ => .fail
 | .binOp op t x y _ => match val x, val y with
  | .v (.one (.int k a)), .v (.one (.int l b)) => match kindEq k l with | some _ => intOp op k a b | none => .fail
  | .v (.one (.bool a)), .v (.one (.bool b)) => match T t, op with
   | some (.sc .bool), .eql => .ok true (one (.bool (a == b))) []
   | some (.sc .bool), .neq => .ok true (one (.bool (a != b))) []
   | _, _ => .fail
  | .v (.one (.rk _ n _)), .v (.one .nils) => match T t with
   | some (.sl _ _) => eqOut op n
   | _ => .fail
  | .v (.agg asq), .v (.agg bs) => match T t with
   | some d => match d.ty with
    | some u => match eqTy u && aggTy u, asV g u (.agg asq), asV g u (.agg bs) with
     | true, some ⟨x, _, []⟩, some ⟨y, _, []⟩ => eqOut op (eqV u x y)
     | _, _, _ => .fail
    | none => .fail
   | none => .fail
  | _, _ => .fail
 | .unOp op _ x => match op, val x with
  | .not, .v (.one (.bool b)) => .ok true (one (.bool (!b))) []
  | .neg, .v (.one (.int k n)) => .ok true (one (.int k (iwrap k (0 - n)))) []
  | _, _ => .fail
 | .convert s d x => match T s, T d, val x with
  | some _, some (.sc (.int k)), .v (.one (.int _ n)) => .ok true (one (.int k (iwrap k n))) []
  | _, _, _ => .fail
 | .slice t x lo hi mx => match T t, val x, okMx hi mx with
  | some (.sl e _), .v (.one a), true => match vwOf T hi with
   | true => sliceVw g e (lo.map val) (hi.map val) (mx.map val) a
   | false => sliceAt g nid e (isZero mx && isZero hi && lo.isNone) (lo.map val) (hi.map val) (mx.map val) a
  | some (.ar n e), .v (.one (.ptr id i off)), _ => match i, lo, hi, mx, g id with
   | 0, none, none, none, some (.box asq) => match cutCells asq off with
    | some (_, .arr m u _ _ :: _) => match natEq n m, Ty.eq? u e with | some _, some _ => .ok true (one (.av id off)) [] | _, _ => .fail
    | _ => .fail
   | _, _, _, _, _ => .fail
  | _, _, _ => .fail
 | .fieldAddr s x f => match T s, val x with
  | some (.st fs), .v (.one p) => match fieldTy fs f with
   | some (o, u) => match p with
    | .ptr id i off => (match Nat.beq u.size 0, g id with
     | false, some (.box _) => .ok true (one (.ptr id i (off + o))) []
     | false, some (.buf _ _ _) => .ok true (one (.ptr id i (off + o))) []
     | _, _ => .fail)
    | .rp t fr y => match Ty.eq? t (tys fs), partAt t y o u with
     | some _, some q => match Nat.beq u.size 0 with | true => .fail | false => .ok true (one (.rp q.t fr q.x)) []
     | _, _ => .fail
    | _ => .fail
   | none => .fail
  | _, _ => .fail
 | .indexAddr t x i => match T t, val x, val i with
  | some d, .v (.one p), .v (.one (.int _ n)) => indexAt g d n p
  | _, _, _ => .fail
 | .index t x i => match T t, val x, val i with
  | some (.ar n e), .v (.agg [.arr m u fr l]), .v (.one (.int _ k)) => match natEq n m, Ty.eq? u e with
   | some _, some _ => .ok (inRange k n) (.v (toV fr u (l.getD k.toNat u.dflt))) []
   | _, _ => .fail
  | _, _, _ => .fail
 | .extract x i => match val x with
  | .tup vs => (match vs[i]? with | some v => .ok true (.v v) [] | none => .fail)
  | _ => .fail
 | .makeFunc (.func f) first caps => match first.toList, capIds g (caps.toList.map val) with
  | [], some ids => .ok true (one (.fn f ids)) []
  | _, _ => .fail
 | .makeSlice t n c => match T t, val n, val c with
  | some (.sl e k), .v (.one (.int .i64 a)), .v (.one (.int .i64 b)) => match g nid, Nat.ble k 1024 with
   | none, true => .ok (ile 0 a && ile a b && fewer b.toNat) (one (.own nid)) [(nid, .buf e true (List.replicate a.toNat e.dflt))]
   | _, _ => .fail
  | _, _, _ => .fail
 | .call { callee := .builtin .len, args := asq, argTypes := ts } => match asq.toList, ts.toList with
  | [x], [t] => match T t, val x with
   | some (.sl _ _), .v (.one a) => match a with
    | .str _ => .fail
    | _ => match lenOf g a with | some n => .ok true (one (.int .i64 n)) [] | none => .fail
   | _, _ => .fail
  | _, _ => .fail
 | .call { callee := .builtin .append, args := asq, argTypes := ts } => match asq.toList, ts.toList with
  | [s, x], [t, u] => match natEq t u, T t, val s, val x with
   | some _, some (.sl e b), .v (.one sa), .v (.one xa) => match Nat.ble b 1024 with | true => appendTo g nid e sa xa | false => .fail
   | none, some (.sl (.int k) b), .v (.one sa), .v (.one (.int .i64 n)) => match Nat.ble b 1024, T u with
    | true, some (.sc (.int .i64)) => appendRow g nid (.int k) sa (ile 0 n) ⟨List.replicate n.toNat (Ty.dflt (.int k)), true, []⟩
    | _, _ => .fail
   | _, _, _, _ => .fail
  | _, _ => .fail
 | .call { callee := .builtin .clear, args := asq, argTypes := ts } => match asq.toList, ts.toList with
  | [x], [t] => match T t, val x with
   | some (.sl e _), .v (.one (.sub id lo hi)) => match g id with
    | some (.buf u fr l) => match Ty.eq? u e with
     | some _ => .ok true .any [(id, .buf u fr (clr u.dflt l lo hi))]
     | none => .fail
    | _ => .fail
   | _, _ => .fail
  | _, _ => .fail
 | .call { callee := .builtin .copy, args := asq, argTypes := ts } => match asq.toList, ts.toList with
  | [x, y], [t, _] => match T t, val x, val y with
   | some (.sl e _), .v (.one dst), .v (.one src) => match scTy e, asAtom g (.sl e) src, dst with
    | true, some r, .sub id lo hi => (match g id with
     | some (.buf u fr l) => match Ty.eq? e u with
      | some ⟨h⟩ => .ok true (one (.int .i64 (min (hi - lo) (List.length (α := e.den) r.x) : Nat))) [(id, .buf u fr (cpy l lo hi (h ▸ r.x : List u.den)))]
      | none => .fail
     | _ => .fail)
    | true, some r, .own id => (match g id with
     | some (.buf u fr l) => match Ty.eq? e u with
      | some ⟨h⟩ => .ok true (one (.int .i64 (min l.length (List.length (α := e.den) r.x) : Nat))) [(id, .buf u fr (cpy l 0 l.length (h ▸ r.x : List u.den)))]
      | none => .fail
     | _ => .fail)
    | _, _, _ => .fail
   | _, _, _ => .fail
  | _, _ => .fail
 | .call { callee := .builtin .max, args := asq, .. } => match asq.toList with
  | [x, y] => match val x, val y with
   | .v (.one (.int k a)), .v (.one (.int l b)) => match kindEq k l with | some _ => .ok true (one (.int k (imax a b))) [] | none => .fail
   | _, _ => .fail
  | _ => .fail
 | _ => .fail
end
noncomputable section
inductive RS where
 | own (j : Nat) | ptr (j : Nat) | fn (f : Nat) (js : List Nat) | e0 | np
inductive AS where
 | val (t : Ty) (fr : Bool) | ref (r : RS)
inductive VS where
 | one (a : AS) | agg (asq : List AS)
inductive OS where
 | buf (t : Ty) (fr : Bool) | box (asq : List AS) | dead
structure Sig where
 objs:List OS
 vals:List VS
def denA:List AS→Type
 | [] => Unit | .val t _ :: r => t.den × denA r | .ref _ :: r => denA r
def denV:List VS→Type
 | [] => Unit | .one (.val t _) :: r => t.den × denV r | .one (.ref _) :: r => denV r | .agg asq :: r => denA asq × denV r
def denO:List OS→Type
 | [] => Unit | .buf t _ :: r => List t.den × denO r | .box asq :: r => denA asq × denO r | .dead :: r => denO r
abbrev Sig.den (s:Sig):Type:=denO s.objs×denV s.vals
def mkRef (ρ:Nat→Nat):RS→Atom
 | .own j => .own (ρ j) | .ptr j => .ptr (ρ j) 0 0 | .fn f js => .fn f (js.map ρ) | .e0 => .e0 | .np => .np
def mkA (ρ:Nat→Nat):(asq:List AS)→denA asq→List Atom
 | [], _ => []
 | .val t fr :: r, x => atomsOf fr t x.1 ++ mkA ρ r x.2
 | .ref a :: r, x => mkRef ρ a :: mkA ρ r x
def mkV (ρ:Nat→Nat):(vs:List VS)→denV vs→List V1
 | [], _ => []
 | .one (.val t fr) :: r, x => toV fr t x.1 :: mkV ρ r x.2
 | .one (.ref a) :: r, x => .one (mkRef ρ a) :: mkV ρ r x
 | .agg asq :: r, x => .agg (mkA ρ asq x.1) :: mkV ρ r x.2
def mkO (ρ:Nat→Nat):(os:List OS)→denO os→List Obj'
 | [], _ => []
 | .buf t fr :: r, x => .buf t fr x.1 :: mkO ρ r x.2
 | .box asq :: r, x => .box (mkA ρ asq x.1) :: mkO ρ r x.2
 | .dead :: r, x => .dead :: mkO ρ r x
def hpOf (ρ:Nat→Nat):Nat→List Obj'→Hp
 | _, [] => []
 | i, o :: r => (ρ i, o) :: hpOf ρ (i + 1) r
structure Dk where
 m:List (Nat×Nat)
 fz:List Nat
 vt:List Nat
def hasNat (i:Nat):List Nat→Bool
 | [] => false | j :: r => match Nat.beq j i with | true => true | false => hasNat i r
def Dk.void (d:Dk) (j:Nat):Option Dk:=
 match get j d.m,hasNat j d.vt with
 | none, false => some { d with vt := j :: d.vt }
 | _, _ => none
def Dk.bind (d:Dk) (j id:Nat):Option Dk:=
 match hasNat j d.vt with
 | true => none
 | false => match get j d.m with
 | none => some { d with m := (j, id) :: d.m }
 | some i => match Nat.beq i id with | true => some d | false => none
def Dk.binds (d:Dk):List Nat→List Nat→Option Dk
 | [], [] => some d
 | j :: js, i :: is => match d.bind j i with | some d => d.binds js is | none => none
 | _, _ => none
def frOk:Bool→Bool→Bool
 | true, false => false | _, _ => true
def asW (g:Nat→Option Obj') (t:Ty) (v:V1):Option (Got t):=
 match aggTy t,v with
 | true, .agg _ => asV g t v
 | false, .one _ => asV g t v
 | _, _ => none
def decRef (d:Dk):RS→Atom→Option Dk
 | .own j, .own id => d.bind j id
 | .own j, .nils => d.void j
 | .ptr j, .ptr id i off => match i, off with | 0, 0 => d.bind j id | _, _ => none
 | .fn f js, .fn h is => match Nat.beq f h with | true => d.binds js is | false => none
 | .e0, .e0 => some d
 | .e0, .nils => some d
 | .np, .np => some d
 | _, _ => none
def decA (g:Nat→Option Obj'):(asq:List AS)→Dk→List Atom→Option (denA asq×Dk)
 | [], d, xs => match xs with | [] => some ((), d) | _ :: _ => none
 | .val t fr :: r, d, xs => match asTy g t xs with
  | some (x, xs') => match frOk fr x.fr with
   | true => match decA g r { d with fz := x.ids ++ d.fz } xs' with | some (y, d) => some ((x.x, y), d) | none => none
   | false => none
  | none => none
 | .ref a :: r, d, xs => match xs with
  | [] => none
  | x :: xs => match decRef d a x with | some d => decA g r d xs | none => none
def decV (g : Nat → Option Obj') : (vs : List VS) → Dk → List AVal → Option (denV vs × Dk)
 | [], d, xs => match xs with | [] => some ((), d) | _ :: _ => none
 | .one (.val t fr) :: r, d, xs => match xs with
  | .v v :: xs => match asW g t v with
   | some x => match frOk fr x.fr with
    | true => match decV g r { d with fz := x.ids ++ d.fz } xs with | some (y, d) => some ((x.x, y), d) | none => none
    | false => none
   | none => none
  | _ => none
 | .one (.ref a) :: r, d, xs => match xs with
  | .v (.one x) :: xs => match decRef d a x with | some d => decV g r d xs | none => none
  | _ => none
 | .agg asq :: r, d, xs => match xs with
  | .v (.agg ys) :: xs => match decA g asq d ys with
   | some (x, d) => match decV g r d xs with | some (y, d) => some ((x, y), d) | none => none
   | none => none
  | _ => none
def decO (g : Nat → Option Obj') : (os : List OS) → Nat → Dk → Option (denO os × Dk)
 | [], _, d => some ((), d)
 | .dead :: r, j, d => decO g r (j + 1) d
 | .buf t fr :: r, j, d => match get j d.m with
  | none => match hasNat j d.vt with
   | true => match decO g r (j + 1) d with | some (y, d) => some ((([] : List _), y), d) | none => none
   | false => none
  | some id => match g id with
   | some (.buf u fr' l) => match Ty.eq? u t, frOk fr fr' with
    | some ⟨h⟩, true => match decO g r (j + 1) d with | some (y, d) => some ((h ▸ l, y), d) | none => none
    | _, _ => none
   | _ => none
 | .box asq :: r, j, d => match get j d.m with
  | none => none
  | some id => match g id with
   | some (.box xs) => match decA g asq d xs with
    | some (x, d) => match decO g r (j + 1) d with | some (y, d) => some ((x, y), d) | none => none
    | none => none
   | _ => none
def noDup:List Nat→Bool
 | [] => true | i :: r => match hasNat i r with | true => false | false => noDup r
def apartL:List Nat→List Nat→Bool
 | [], _ => true | i :: r, l => match hasNat i l with | true => false | false => apartL r l
def ids (d : Dk) : List Nat := d.m.map (·.2)
def keysLt (n:Nat) (d:Dk):Bool:=d.m.all (fun p=>Nat.blt p.1 n)&&d.vt.all (fun j=>Nat.blt j n&&match get j d.m with | none=>true | some _=>false)
def deadOk (g:Nat→Option Obj') (d:Dk):List OS→Nat→Bool
 | [], _ => true
 | .dead :: r, j => (match get j d.m with | none => !(hasNat j d.vt) | some id => match g id with | some .dead => true | _ => false) && deadOk g d r (j + 1)
 | _ :: r, j => deadOk g d r (j + 1)
def dec (g:Nat→Option Obj') (s:Sig) (m:List (Nat×Nat)) (xs:List AVal):Option (s.den×Dk):=
 match decV g s.vals ⟨m,[],[]⟩ xs with
 | some (y, d) => match decO g s.objs 0 d with
  | some (x, d) => match noDup (ids d), apartL d.fz (ids d), keysLt s.objs.length d, deadOk g d s.objs 0 with | true, true, true, true => some ((x, y), d) | _, _, _, _ => none
  | none => none
 | none => none
structure Orac where
 f:Nat
 sin:Sig
 sout:Sig
 F:{β:Type}→sin.den→(sout.den→Option β)→Option β
inductive Ex where
 | nrm | exit (id : Nat) | ret
structure St where
 env:En
 heap:Hp
 next:Nat
structure SS where
 tmps:List Nat
 sig:Sig
structure LoopH where
 key:Nat
 id:Nat
 head:SS
 x1:SS
 x2:SS
 F:{β:Type}→head.sig.den→(x1.sig.den→Option β)→(x2.sig.den→Option β)→Option β
structure Ctx where
 T:Nat→Option TD
 O:List Orac
 L:List LoopH
 nt:Nat
 nx:Nat
def envVal (env:En) (t:Nat):AVal:=match get t env with | some v=>v | none=>.any
def liveMap:Nat→List OS→Nat→List (Nat×Nat)
 | 0, _, _ => []
 | n + 1, .dead :: r, j => liveMap n r (j + 1)
 | n + 1, _ :: r, j => (j, j) :: liveMap n r (j + 1)
 | n + 1, [], j => (j, j) :: liveMap n [] (j + 1)
def decSt (nx:Nat) (ss:SS) (st:St):Option ss.sig.den:=
 match dec (fun i=>get i st.heap) ss.sig (liveMap nx ss.sig.objs 0) (ss.tmps.map (envVal st.env)),Nat.ble nx ss.sig.objs.length with
 | some (s, _), true => some s | _, _ => none
def zipE:List Nat→List V1→En
 | t :: ts, v :: vs => (t, .v v) :: zipE ts vs
 | _, _ => []
def mkSt (ss:SS) (s:ss.sig.den):St:=
 { env:=zipE ss.tmps (mkV id ss.sig.vals s.2),heap:=hpOf id 0 (mkO id ss.sig.objs s.1),next:=ss.sig.objs.length }
def constVal:Value→AVal
 | .int k n => one (.int k n) | .bool b => one (.bool b) | .string s => one (.str s) | .slice none 0 0 => one .nils | .pointer none => one .np
 | _ => .any
def St.val (env:En):Operand→AVal
 | .tmp t => envVal env t | .const v => constVal v | .func f => one (.fn f []) | .global _ => .any
def AS.foreign:AS→Bool
 | .val t fr => !fr && hasSl t | _ => false
where
 hasSl:Ty→Bool
  | .sl _ => true | .pair a b => hasSl a || hasSl b | .arr _ t => hasSl t | _ => false
def Sig.foreign (s:Sig):Bool:=
 (s.vals.any fun | .one a=>a.foreign | .agg asq=>asq.any AS.foreign)||(s.objs.any fun | .buf t fr=>!fr&&AS.foreign.hasSl t | .box asq=>asq.any AS.foreign | .dead=>false)
def place (m:List (Nat×Nat)) (nx nid:Nat) (j:Nat):Nat:=
 match Nat.blt j nx with
 | true => match get j m with | some i => i | none => 0
 | false => nid + (j - nx)
def resVal:List V1→AVal
 | [] => .any | [v] => .v v | vs => .tup vs
def freeFrom (g:Nat→Option Obj') (nid:Nat):Nat→Bool
 | 0 => true | n + 1 => match g (nid + n) with | none => freeFrom g nid n | some _ => false
def fnArgs:AVal→Option (Nat×List AVal)
 | .v (.one (.fn f caps)) => some (f, caps.map fun i => one (.ptr i 0 0))
 | _ => none
def evalCall {β : Type} (O : List Orac) (f : Nat) (args : List AVal) (g : Nat → Option Obj') (nid : Nat) (K : AVal → Hp → Option β) : Option β :=
 match O with
 | [] => none
 | o :: r => match Nat.beq o.f f with
  | false => evalCall r f args g nid K
  | true => match dec g o.sin [] args with
   | none => evalCall r f args g nid K
   | some (s, d) => match d.vt, d.fz, o.sout.foreign with
    | _ :: _, _, _ => none
    | _, _ :: _, true => none
    | _, _, _ => match freeFrom g nid (o.sout.objs.length - o.sin.objs.length) with
     | false => none
     | true =>
      let ρ:=place d.m o.sin.objs.length nid
      o.F s fun y=>K (resVal (mkV ρ o.sout.vals y.2)) (hpOf ρ 0 (mkO ρ o.sout.objs y.1))
def evalOp {β:Type} (C:Ctx) (op:Op) (val:Operand→AVal) (g:Nat→Option Obj') (nid:Nat) (K:AVal→Hp→Option β):Option β:=
 match op with
 | .call { callee := .value x, args := asq, .. } => match fnArgs (val x) with
  | some (f, caps) => evalCall C.O f (asq.toList.map val ++ caps) g nid K
  | none => none
 | op => match act C.T op val g nid with
  | .fail => none
  | .ok c v hs => bif c then K v hs else none
structure Ent where
 i:Nat
 dst:Option Nat
 v:AVal
 hs:Hp
 R:List Nat
def dstOf (ops:List Oper) (j:Nat):Option Nat:=match ops[j]? with | some o=>o.dst | none=>none
def putE (dst:Option Nat) (v:AVal) (env:En):En:=match dst with | some d=>(d,v)::env | none=>env
def atomIds:Atom→List Nat
 | .own i => [i] | .sub i _ _ => [i] | .av i _ => [i] | .bel i _ _ _ _ _ => [i] | .ptr i _ _ => [i] | .pel i _ _ => [i] | .fn _ is => is | _ => []
def valIds:AVal→List Nat
 | .v x => x.atoms.flatMap atomIds | .tup xs => xs.flatMap fun x => x.atoms.flatMap atomIds | _ => []
def widen (g:Nat→Option Obj') (is:List Nat):List Nat:=
 is++is.flatMap fun i=>match g i with | some (.box asq)=>asq.flatMap atomIds | _=>[]
def touch (op:Op) (g:Nat→Option Obj') (vs:List AVal):List Nat:=
 match op with
 | .call { callee := .value _, .. } => widen g (widen g (vs.flatMap valIds))
 | .move _ => [] | .assign _ => [] | .extract _ _ => [] | .pick _ _ _ => [] | .box _ _ => []
 | _ => vs.flatMap valIds
def keep (R:List Nat) (g:Nat→Option Obj') (i:Nat):Option Obj':=match hasNat i R with | true=>g i | false=>none
def tmpsOf (op:Op):List Nat:=op.operands.toList.filterMap fun | .tmp t=>some t | _=>none
def keepVal (ts:List Nat) (env:En):Operand→AVal
 | .tmp t => match hasNat t ts with | true => envVal env t | false => .any
 | x => St.val env x
def dstIn (nt:Nat):Option Nat→Bool
 | none => true | some d => Nat.blt d nt
def freeHs (R:List Nat) (g:Nat→Option Obj'):Hp→Bool
 | [] => true
 | (i, _) :: r => (match hasNat i R with | true => true | false => match g i with | none => true | some _ => false) && freeHs R g r
def evalOps {β : Type} (C : Ctx) (draw : Bool) (ops : List Oper) (base : Nat) (env : En) (heap : Hp) (es : List Ent) (K : En → Hp → List Ent → Option β) : List Oper → Nat → Option β
 | [], _ => K env heap es
 | o :: r, i =>
  match dstIn C.nt o.dst with
  | false => none
  | true =>
   let run (env:En):Option β:=
    let g:=fun j=>get j heap
    match draw with
    | false => evalOp C o.op (St.val env) g (base + 16 * i) fun v hs => evalOps C draw ops base (putE o.dst v env) (hs ++ heap) es K r (i + 1)
    | true =>
     let R:=touch o.op g (o.op.operands.toList.map (St.val env))
     evalOp C o.op (keepVal (tmpsOf o.op) env) (keep R g) (base+16*i) fun v hs=>match freeHs R g hs with
      | true => evalOps C draw ops base (putE o.dst v env) (hs ++ heap) (⟨i, o.dst, v, hs, R⟩ :: es) K r (i + 1)
      | false => none
   let skip (env:En):Option β:=evalOps C draw ops base (putE o.dst .und env) heap (⟨i,o.dst,.und,[],[]⟩::es) K r (i+1)
   match o.guard with
   | none => run env
   | some (j, want) => match dstOf ops j with
    | none => none
    | some t => match envVal env t with
     | .v (.one (.bool b)) => match want with
      | true => bif b then run ((t, one (.bool true)) :: env) else skip ((t, one (.bool false)) :: env)
      | false => bif b then skip ((t, one (.bool true)) :: env) else run ((t, one (.bool false)) :: env)
     | .und => skip env
     | _ => none
def hard (e:Edge):Bool:=match e.ground with | .textOnly _=>false | .gcOnly _=>false | _=>true
def maskOf (acc:List Nat) (o:Oper):Nat:=o.after.toList.foldl (fun s e=>match hard e with | true=>s ||| 2 ^ e.on ||| acc.getD e.on 0 | false=>s) 0
def masks:List Oper→List Nat→List Nat
 | [], acc => acc
 | o :: r, acc => masks r (acc ++ [maskOf acc o])
def back (i:Nat) (o:Oper):Bool:=o.after.toList.all fun e=>match hard e with | true=>Nat.blt e.on i | false=>true
def backs:List Oper→Nat→Bool
 | [], _ => true | o :: r, i => back i o && backs r (i + 1)
def ordB (ms:List Nat) (i j:Nat):Bool:=Nat.testBit (ms.getD j 0) i
def looksAt (ops:List Oper) (o:Oper):List Nat:=
 tmpsOf o.op++(match o.guard with | some (j,_)=>(dstOf ops j).toList | none=>[])
def keys (h : Hp) : List Nat := h.map (·.1)
def otherDst:Option Nat→Option Nat→Bool
 | some d, some e => !(Nat.beq d e) | _, _ => true
def unseen (ops:List Oper):Option Nat→Option Oper→Bool
 | some d, some o => !(hasNat d (looksAt ops o)) | _, _ => true
def loose (ops:List Oper) (ms:List Nat) (a b:Ent):Bool:=
 ordB ms b.i a.i ||
 (otherDst a.dst b.dst && (unseen ops a.dst ops[b.i]? && (unseen ops b.dst ops[a.i]? &&
  (apartL (keys a.hs) (keys b.hs)&&(apartL (keys a.hs) b.R&&apartL (keys b.hs) a.R)))))
def allLoose (ops:List Oper) (ms:List Nat):List Ent→Bool
 | [] => true
 | e :: r => r.all (loose ops ms e) && allLoose ops ms r
def drawOk (ops:List Oper) (es:List Ent):Bool:=backs ops 0&&allLoose ops (masks ops []) es
def evalRegion {β:Type} (C:Ctx) (ops:List Oper) (draw:Bool) (st:St) (K:St→Option β):Option β:=
 evalOps C draw ops st.next st.env st.heap [] (fun env heap es=>match draw with
  | false => K ⟨env, heap, st.next + 16 * ops.length⟩
  | true => match drawOk ops es with
   | true => K ⟨env, heap, st.next + 16 * ops.length⟩
   | false => none) ops 0
def keyOf:Code→Nat
 | .region id _ _ => id
 | .seq .skip b => keyOf b
 | .seq a _ => keyOf a
 | .cond _ a _ => keyOf a
 | .block _ c => keyOf c
 | .loop c => keyOf c
 | _ => 0
def evalLoop {β:Type} (nx:Nat) (k:Nat) (st:St) (K:Ex→St→Option β):List LoopH→Option β
 | [] => none
 | h :: r => match Nat.beq h.key k with
  | false => evalLoop nx k st K r
  | true => match decSt nx h.head st with
   | none => none
   | some s => h.F s (fun a => K (.exit h.id) (mkSt h.x1 a)) (fun b => K .ret (mkSt h.x2 b))
def evalCode {β:Type} (C:Ctx):Code→St→(Ex→St→Option β)→Option β
 | .skip, st, K => K .nrm st
 | .region _ ops draw, st, K => evalRegion C ops.toList draw st (K .nrm)
 | .seq a b, st, K => evalCode C a st fun e st' => match e with | .nrm => evalCode C b st' K | e => K e st'
 | .cond c a b, st, K => match St.val st.env c with
  | .v (.one (.bool t)) => bif t then evalCode C a st K else evalCode C b st K
  | _ => none
 | .block id a, st, K => evalCode C a st fun e st' => match e with
  | .exit i => match Nat.beq i id with | true => K .nrm st' | false => K (.exit i) st'
  | e => K e st'
 | .loop a, st, K => evalLoop C.nx (keyOf a) st K C.L
 | .exit id, st, K => K (.exit id) st
 | .ret, st, K => K .ret st
 | _, _, _ => none
def resOf (C:Ctx) (st:St):List ResultVar→Option (List AVal)
 | [] => some []
 | .tmp t :: r => match resOf C st r with | some vs => some (envVal st.env t :: vs) | none => none
 | .cell a t :: r => match C.T t, envVal st.env a, resOf C st r with
  | some d, .v (.one p), some vs => match loadAt (fun i => get i st.heap) d p with | .ok true v _ => some (v :: vs) | _ => none
  | _, _, _ => none
def evalFnV {β : Type} (C : Ctx) (fn : Func) (sin sout : Sig) (s : sin.den) (vs : List V1) (K : sout.den → Option β) : Option β :=
 match fn.body with
 | none => none
 | some c => evalCode C c ⟨zipE (List.range (fn.params.size + fn.nfree)) vs, hpOf id 0 (mkO id sin.objs s.1), sin.objs.length⟩ fun e st =>
  match e with
  | .exit _ => none
  | _ => match resOf C st fn.results.toList with
   | none => none
   | some vs => match dec (fun i => get i st.heap) sout (liveMap sin.objs.length sout.objs 0) vs with
    | none => none
    | some (y, _) => K y
def evalFn {β:Type} (C:Ctx) (fn:Func) (sin sout:Sig) (s:sin.den) (K:sout.den→Option β):Option β:=evalFnV C fn sin sout s (mkV id sin.vals s.2) K
def rounds {S A B β:Type} (step:(S→Option β)→(A→Option β)→(B→Option β)→S→Option β) (kx:A→Option β) (kr:B→Option β):Nat→S→Option β
 | 0, _ => none
 | k + 1, s => step (rounds step kx kr k) kx kr s
def evalBody {β:Type} (C:Ctx) (c:Code) (id:Nat) (head x1 x2:SS) (L:head.sig.den→Option β) (kx:x1.sig.den→Option β) (kr:x2.sig.den→Option β) (s:head.sig.den):Option β:=
 evalCode C c (mkSt head s) fun e st=>match e with
  | .nrm => match decSt C.nx head st with | some s => L s | none => none
  | .exit i => match Nat.beq i id with
   | true => match decSt C.nx x1 st with | some a => kx a | none => none
   | false => none
  | .ret => match decSt C.nx x2 st with | some b => kr b | none => none
end
abbrev Mem:=Nat→Array Value→Prop
def nth {t:Ty} (l:List t.den) (i:Nat):Option t.den:=l[i]?
def len {t:Ty} (l:List t.den):Nat:=l.length
def Has (m:Mem):(t:Ty)→t.den→List Value→Prop
 | .int k, n, cs => cs = [.int k n]
 | .bool, b, cs => cs = [.bool b]
 | .str, s, cs => cs = [.string s]
 | .unit, _, cs => cs = []
 | .pair a b, p, cs => ∃ c1 c2, cs = c1 ++ c2 ∧ Has m a p.1 c1 ∧ Has m b p.2 c2
 | .arr n t, l, cs => len (t := t) l = n ∧ cs.length = n * t.size ∧ ∀ i x, nth (t := t) l i = some x → Has m t x ((cs.drop (i * t.size)).take t.size)
 | .sl t, l, cs => ∃ A cap, cs = [.slice A (len (t := t) l) cap] ∧ len (t := t) l ≤ cap ∧
   (len (t:=t) l=0∨∃ b o c,A=some ⟨b,o,none⟩∧m b c∧∀ i x,nth (t:=t) l i=some x→Has m t x ((c.toList.drop (o+i*t.size)).take t.size))
theorem Has.length {m:Mem}:∀ {t:Ty} {x:t.den} {cs:List Value},Has m t x cs→cs.length=t.size
 | .int _, _, _, h => by cases h; rfl
 | .bool, _, _, h => by cases h; rfl
 | .str, _, _, h => by cases h; rfl
 | .unit, _, _, h => by cases h; rfl
 | .pair _ _, _, _, ⟨_, _, e, h1, h2⟩ => by rw [e, List.length_append, h1.length, h2.length]; rfl
 | .arr _ _, _, _, h => h.2.1
 | .sl _, _, _, ⟨_, _, e, _⟩ => by rw [e]; rfl
theorem Has.mono {m m':Mem} (hm:∀ b c,m b c→m' b c):∀ {t:Ty} {x:t.den} {cs:List Value},Has m t x cs→Has m' t x cs
 | .int _, _, _, h => h
 | .bool, _, _, h => h
 | .str, _, _, h => h
 | .unit, _, _, h => h
 | .pair _ _, _, _, ⟨c1, c2, e, h1, h2⟩ => ⟨c1, c2, e, h1.mono hm, h2.mono hm⟩
 | .arr _ _, _, _, ⟨h1, h2, h3⟩ => ⟨h1, h2, fun i x hx => (h3 i x hx).mono hm⟩
 | .sl _, _, _, ⟨A, cap, e, hc, h⟩ => ⟨A, cap, e, hc, h.imp id fun ⟨b, o, c, e, hb, h⟩ => ⟨b, o, c, e, hm b c hb, fun i x hx => (h i x hx).mono hm⟩⟩
def zeroCells:Ty→List Value
 | .int k => [.int k 0] | .bool => [.bool false] | .str => [.string ByteArray.empty] | .unit => [] | .sl _ => [.slice none 0 0]
 | .pair a b => zeroCells a ++ zeroCells b | .arr n t => (List.replicate n (zeroCells t)).flatten
theorem flatten_replicate_length {α:Type} (l:List α) (n:Nat):(List.replicate n l).flatten.length=n*l.length:=by
 simp [List.length_flatten]
theorem zeroCells_length:(t:Ty)→(zeroCells t).length=t.size
 | .int _ => rfl | .bool => rfl | .str => rfl | .unit => rfl | .sl _ => rfl
 | .pair a b => by simp [zeroCells, Ty.size, zeroCells_length a, zeroCells_length b]
 | .arr n t => by simp only [zeroCells, Ty.size, flatten_replicate_length, zeroCells_length t]
theorem piece_replicate {α:Type} (l:List α):∀ (n i:Nat),i<n→(((List.replicate n l).flatten).drop (i*l.length)).take l.length=l
 | 0, _, h => absurd h (by omega)
 | n + 1, 0, _ => by simp [List.replicate_succ]
 | n + 1, i + 1, h => by
  have:=piece_replicate l n i (by omega)
  rw [List.replicate_succ,List.flatten_cons,show(i+1)*l.length=l.length+i*l.length by rw [Nat.add_mul]; omega,←List.drop_drop,List.drop_left]
  exact this
theorem Has.dflt (m:Mem):(t:Ty)→Has m t t.dflt (zeroCells t)
 | .int _ => rfl | .bool => rfl | .str => rfl | .unit => rfl
 | .sl _ => ⟨none, 0, rfl, Nat.le_refl _, .inl rfl⟩
 | .pair a b => ⟨_, _, rfl, Has.dflt m a, Has.dflt m b⟩
 | .arr n t => by
  refine⟨by simp [Ty.dflt,len],zeroCells_length (.arr n t),fun i x hx=>?_⟩
  simp only [Ty.dflt,nth,List.getElem?_replicate] at hx
  split at hx
  ·obtain rfl := Option.some.inj hx
   have:=piece_replicate (zeroCells t) n i (by assumption)
   rw [zeroCells_length t] at this
   simp only [zeroCells]
   rw [this]; exact Has.dflt m t
  ·simp at hx
structure Loc where
 blk:Nat
 off:Nat
 size:Nat
structure View where
 h:Nat→Option Obj'
 loc:Nat→Option Loc
 m:Mem
 mf:Mem
def View.mem (V:View) (fr:Bool):Mem:=match fr with | true=>V.mf | false=>V.m
def Loc.ptr (L:Loc) (o:Nat):Value:=.pointer (some ⟨L.blk,L.off+o,none⟩)
def OneC (cs:List Value):Prop:=∃ v,cs = [v]∧v.oneCell'=true
def AtomR (V : View) : Atom → List Value → Prop
 | .int k n, cs => cs = [.int k n]
 | .bool b, cs => cs = [.bool b]
 | .str s, cs => cs = [.string s]
 | .ro t fr l, cs => Has (V.mem fr) (.sl t) l cs
 | .arr n t fr l, cs => Has (V.mem fr) (.arr n t) l cs
 | .rp t fr x, cs => ∃ b o c, cs = [.pointer (some ⟨b, o, none⟩)] ∧ V.mem fr b c ∧ Has (V.mem fr) t x ((c.toList.drop o).take t.size)
 | .own id, cs => match V.h id with
  | some (.buf t _ l) => match V.loc id with
   | none => (∃ A, cs = [.slice A 0 0]) ∧ l = []
   | some L => ∃ cap, cs = [.slice (some ⟨L.blk, L.off, none⟩) l.length cap] ∧ l.length ≤ cap ∧ L.off + cap * t.size ≤ L.size
  | some .dead => OneC cs
  | _ => False
 | .sub id lo hi, cs => match V.h id with
  | some (.buf t _ l) => lo ≤ hi ∧ hi ≤ l.length ∧ ∃ A cap, cs = [.slice A (hi - lo) cap] ∧ hi - lo ≤ cap ∧ (hi = lo ∨ ∃ L, V.loc id = some L ∧ A = some ⟨L.blk, L.off + lo * t.size, none⟩)
  | some .dead => OneC cs
  | _ => False
 | .ptr id i off, cs => match V.h id with
  | some (.buf t _ l) => i < l.length ∧ ∃ L, V.loc id = some L ∧ cs = [L.ptr (i * t.size + off)]
  | some (.box _) => ∃ L, V.loc id = some L ∧ cs = [L.ptr off]
  | some .dead => OneC cs
  | none => False
 | .pel id off i, cs => match V.h id with
  | some (.box asq) => ∃ L p n t fr l q, V.loc id = some L ∧ cutCells asq off = some (p, .arr n t fr l :: q) ∧ i < n ∧ cs = [L.ptr (off + i * t.size)]
  | some .dead => OneC cs
  | _ => False
 | .av id off, cs => match V.h id with
  | some (.box asq) => ∃ L p n t fr l q, V.loc id = some L ∧ cutCells asq off = some (p, .arr n t fr l :: q) ∧ cs = [.slice (some ⟨L.blk, L.off + off, none⟩) n n]
  | some .dead => OneC cs
  | _ => False
 | .bel id i off n e j, cs => match V.h id with
  | some (.buf t _ l) => i < l.length ∧ j < n ∧ ∃ L, V.loc id = some L ∧ cs = [L.ptr (i * t.size + off + j * e.size)]
  | some .dead => OneC cs
  | _ => False
 | .rk t n l, cs => Has V.m (.sl t) l cs ∧ (match n with | true => ∃ k c, cs = [.slice none k c] | false => ∃ a k c, cs = [.slice (some a) k c])
 | .nils, cs => cs = [.slice none 0 0]
 | .e0, cs => ∃ A, cs = [.slice A 0 0]
 | .np, cs => OneC cs
 | .fn f caps, cs => ∃ vs : List Value, cs = [.func (.func f) #[] vs.toArray] ∧ vs.length = caps.length ∧
   ∀ (n i:Nat),caps[n]? = some i→∃ v,vs[n]? = some v∧match V.h i with
    | some (.box _) => ∃ L, V.loc i = some L ∧ v = L.ptr 0
    | some .dead => v.oneCell' = true
    | _ => False
def AtomsR (V:View):List Atom→List Value→Prop
 | [], cs => cs = []
 | a :: asq, cs => ∃ c1 c2, cs = c1 ++ c2 ∧ c1.length = a.size ∧ AtomR V a c1 ∧ AtomsR V asq c2
def V1R (V:View):V1→Value→Prop
 | .one a, v => a.size = 1 ∧ AtomR V a [v] ∧ (match a with | .arr _ _ _ _ => False | _ => True)
 | .agg asq, v => ∃ cs : List Value, v = .agg cs.toArray ∧ AtomsR V asq cs
def V1sR (V:View):List V1→List Value→Prop
 | [], vs => vs = []
 | x :: xs, vs => ∃ v r, vs = v :: r ∧ V1R V x v ∧ V1sR V xs r
def VR (V:View):AVal→Value→Prop
 | .v x, v => V1R V x v
 | .tup xs, v => ∃ vs : List Value, v = .tuple vs.toArray ∧ V1sR V xs vs
 | .any, _ => True
 | .und, v => v = undef
def Turns:Obj'→Obj'→Prop
 | _, .dead => True
 | .buf t _ l, .buf t' _ l' => ∃ h : t = t', l.length = (h ▸ l' : List t.den).length
 | .box asq, .box bs => ∀ off p n t fr l q, cutCells asq off = some (p, .arr n t fr l :: q) → ∃ p' fr' l' q', cutCells bs off = some (p', .arr n t fr' l' :: q')
 | _, _ => False
theorem Turns.refl:(o:Obj')→Turns o o
 | .dead => trivial | .buf _ _ _ => ⟨rfl, rfl⟩ | .box _ => fun _ p _ _ fr l q h => ⟨p, fr, l, q, h⟩
structure View.Le (V V':View):Prop where
 h:∀ id o,V.h id=some o→∃ o',V'.h id=some o'∧Turns o o'∧(o' = .dead∨V'.loc id=V.loc id)
 m:∀ b c,V.m b c→V'.m b c
 mf:∀ b c,V.mf b c→V'.mf b c
theorem View.Le.refl (V:View):V.Le V:=⟨fun _ o h=>⟨o,h,Turns.refl o,.inr rfl⟩,fun _ _ h=>h,fun _ _ h=>h⟩
theorem View.Le.mem {V V':View} (h:V.Le V') (fr:Bool):∀ b c,V.mem fr b c→V'.mem fr b c:=by
 cases fr
 ·exact h.m
 ·exact h.mf
theorem Has.one {m:Mem}:∀ {t:Ty} {x:t.den} {cs:List Value},Has m t x cs→∀ v∈cs,v.oneCell'=true
 | .int _, _, _, h => by cases h; simp [Value.oneCell']
 | .bool, _, _, h => by cases h; simp [Value.oneCell']
 | .str, _, _, h => by cases h; simp [Value.oneCell']
 | .unit, _, _, h => by cases h; simp
 | .pair _ _, _, _, ⟨c1, c2, e, h1, h2⟩ => by
  intro v hv; rw [e,List.mem_append] at hv
  rcases hv with hv | hv
  ·exact h1.one v hv
  ·exact h2.one v hv
 | .sl _, _, _, ⟨_, _, e, _⟩ => by rw [e]; simp [Value.oneCell']
 | .arr n t, l, cs, ⟨h1, h2, h3⟩ => by
  intro v hv
  obtain⟨j,hj,rfl⟩:=List.getElem_of_mem hv
  have hpos:0<t.size:=by
   rcases Nat.eq_zero_or_pos t.size with hz | hz
   ·rw [h2,hz] at hj; omega
   ·exact hz
  have hi:j / t.size<n:=by rw [h2] at hj; exact Nat.div_lt_of_lt_mul (by rw [Nat.mul_comm]; exact hj)
  have hx:∃ x,nth (t:=t) l (j / t.size)=some x:=by
   have:j / t.size<List.length (α:=t.den) l:=by rw [show List.length (α:=t.den) l=n from h1]; exact hi
   exact⟨_,List.getElem?_eq_getElem this⟩
  obtain⟨x,hx⟩:=hx
  refine(h3 _ x hx).one _ ?_
  rw [List.mem_iff_getElem?]
  refine⟨j%t.size,?_⟩
  have hm:=Nat.mod_lt j hpos
  have hd:=Nat.div_add_mod j t.size
  rw [Nat.mul_comm] at hd
  rw [List.getElem?_take_of_lt hm,List.getElem?_drop,hd,List.getElem?_eq_getElem hj]
theorem AtomR.one {V:View} {a:Atom} {cs:List Value} (h:AtomR V a cs):∀ v∈cs,v.oneCell'=true:=by
 have lit:∀ u:Value,u.oneCell'=true→cs = [u]→∀ v∈cs,v.oneCell'=true:=fun u hu e v hv=>by rw [e] at hv; simp at hv; rw [hv]; exact hu
 have oc:OneC cs→∀ v∈cs,v.oneCell'=true:=fun⟨u,e,hu⟩=>lit u hu e
 cases a with
 | int => exact lit _ rfl h
 | bool => exact lit _ rfl h
 | str => exact lit _ rfl h
 | ro => exact Has.one h
 | arr => exact Has.one h
 | rp => obtain ⟨_, _, _, e, _⟩ := h; exact lit _ rfl e
 | nils => exact lit _ rfl h
 | e0 => obtain ⟨A, e⟩ := h; exact lit _ rfl e
 | np => exact oc h
 | fn => obtain ⟨_, e, _⟩ := h; exact lit _ rfl e
 | own id =>
  simp only [AtomR] at h
  split at h
  ·split at h
   ·obtain⟨⟨_,e⟩,_⟩:=h; exact lit _ rfl e
   ·obtain⟨_,e,_⟩:=h; exact lit _ rfl e
  ·exact oc h
  ·exact h.elim
 | rk => exact Has.one h.1
 | av id =>
  simp only [AtomR] at h
  split at h
  ·obtain⟨_,_,_,_,_,_,_,_,_,e⟩:=h; exact lit _ rfl e
  ·exact oc h
  ·exact h.elim
 | bel id =>
  simp only [AtomR] at h
  split at h
  ·obtain⟨_,_,_,_,e⟩:=h; exact lit _ rfl e
  ·exact oc h
  ·exact h.elim
 | sub id =>
  simp only [AtomR] at h
  split at h
  ·obtain⟨_,_,_,_,e,_⟩:=h; exact lit _ rfl e
  ·exact oc h
  ·exact h.elim
 | ptr id =>
  simp only [AtomR] at h
  split at h
  ·obtain⟨_,_,_,e⟩:=h; exact lit _ rfl e
  ·obtain⟨_,_,e⟩:=h; exact lit _ rfl e
  ·exact oc h
  ·exact h.elim
 | pel id =>
  simp only [AtomR] at h
  split at h
  ·obtain⟨_,_,_,_,_,_,_,_,_,_,e⟩:=h; exact lit _ rfl e
  ·exact oc h
  ·exact h.elim
theorem OneC.of {V:View} {a:Atom} {cs:List Value} (hs:a.size=cs.length) (h1:a.size=1) (h:AtomR V a cs):OneC cs:=by
 match cs,hs,h with
 | [v], _, h => exact ⟨v, rfl, h.one v (by simp)⟩
 | [], hs, _ => simp [h1] at hs
 | _ :: _ :: _, hs, _ => simp [h1] at hs
theorem AtomR.mono {V V':View} (hV:V.Le V'):∀ {a:Atom} {cs:List Value},a.size=cs.length→AtomR V a cs→AtomR V' a cs:=by
 intro a cs hsz h
 have hone:a.size=1→OneC cs:=fun h1=>OneC.of hsz h1 h
 cases a with
 | int k n => exact h
 | bool b => exact h
 | str s => exact h
 | ro t fr l => exact Has.mono (hV.mem fr) h
 | arr n t fr l => exact Has.mono (hV.mem fr) h
 | rp t fr x => obtain ⟨b, o, c, e, hm, hh⟩ := h; exact ⟨b, o, c, e, hV.mem fr b c hm, hh.mono (hV.mem fr)⟩
 | nils => exact h
 | e0 => exact h
 | np => exact h
 | own id =>
  simp only [AtomR] at h ⊢
  cases hh:V.h id with
  | none => rw [hh] at h; exact h.elim
  | some o =>
   obtain⟨o',h',ht,hl⟩:=hV.h id o hh
   rw [hh] at h; rw [h']
   cases o' with
   | dead => exact hone rfl
   | box bs => cases o <;> first | exact ht.elim | exact h.elim
   | buf t' fr' l' =>
    cases o with
    | dead => exact ht.elim
    | box asq => exact ht.elim
    | buf t fr l =>
     obtain⟨rfl,hlen⟩:=ht
     rcases hl with hl | hl
     ·cases hl
     ·simp only [hl]
      simp only at hlen
      revert h
      cases V.loc id with
      | none => intro h; exact ⟨h.1, List.eq_nil_of_length_eq_zero (by rw [← hlen, h.2]; rfl)⟩
      | some L => intro h; simp only at h ⊢; rw [← hlen]; exact h
 | rk t n l => exact ⟨Has.mono hV.m h.1, h.2⟩
 | av id off =>
  simp only [AtomR] at h ⊢
  cases hh:V.h id with
  | none => rw [hh] at h; exact h.elim
  | some o =>
   obtain⟨o',h',ht,hl⟩:=hV.h id o hh
   rw [hh] at h; rw [h']
   cases o' with
   | dead => exact hone rfl
   | buf t fr l => cases o <;> first | exact ht.elim | exact h.elim
   | box bs =>
    cases o with
    | dead => exact ht.elim
    | buf => exact ht.elim
    | box asq =>
     rcases hl with hl | hl
     ·cases hl
     ·simp only [hl]
      obtain⟨L,p,n,t,fr,l,q,hL,hc,e⟩:=h
      obtain⟨p',fr',l',q',hc'⟩:=ht off p n t fr l q hc
      exact⟨L,p',n,t,fr',l',q',hL,hc',e⟩
 | sub id lo hi =>
  simp only [AtomR] at h ⊢
  cases hh:V.h id with
  | none => rw [hh] at h; exact h.elim
  | some o =>
   obtain⟨o',h',ht,hl⟩:=hV.h id o hh
   rw [hh] at h; rw [h']
   cases o' with
   | dead => exact hone rfl
   | box bs => cases o <;> first | exact ht.elim | exact h.elim
   | buf t' fr' l' =>
    cases o with
    | dead => exact ht.elim
    | box asq => exact ht.elim
    | buf t fr l =>
     obtain⟨rfl,hlen⟩:=ht
     rcases hl with hl | hl
     ·cases hl
     ·simp only at hlen h ⊢; rw [←hlen,hl]; exact h
 | ptr id i off =>
  simp only [AtomR] at h ⊢
  cases hh:V.h id with
  | none => rw [hh] at h; exact h.elim
  | some o =>
   obtain⟨o',h',ht,hl⟩:=hV.h id o hh
   rw [hh] at h; rw [h']
   cases o' with
   | dead => exact hone rfl
   | box bs =>
    cases o with
    | box asq =>
     rcases hl with hl | hl
     ·cases hl
     ·simp only [hl]; exact h
    | dead => exact ht.elim
    | buf => exact ht.elim
   | buf t' fr' l' =>
    cases o with
    | dead => exact ht.elim
    | box asq => exact ht.elim
    | buf t fr l =>
     obtain⟨rfl,hlen⟩:=ht
     rcases hl with hl | hl
     ·cases hl
     ·simp only [hl]; simp only at hlen; rw [←hlen]; exact h
 | bel id i off n e j =>
  simp only [AtomR] at h ⊢
  cases hh:V.h id with
  | none => rw [hh] at h; exact h.elim
  | some o =>
   obtain⟨o',h',ht,hl⟩:=hV.h id o hh
   rw [hh] at h; rw [h']
   cases o' with
   | dead => exact hone rfl
   | box bs => cases o <;> first | exact ht.elim | exact h.elim
   | buf t' fr' l' =>
    cases o with
    | dead => exact ht.elim
    | box asq => exact ht.elim
    | buf t fr l =>
     obtain⟨rfl,hlen⟩:=ht
     rcases hl with hl | hl
     ·cases hl
     ·simp only [hl]; simp only at hlen; rw [←hlen]; exact h
 | pel id off i =>
  simp only [AtomR] at h ⊢
  cases hh:V.h id with
  | none => rw [hh] at h; exact h.elim
  | some o =>
   obtain⟨o',h',ht,hl⟩:=hV.h id o hh
   rw [hh] at h; rw [h']
   cases o' with
   | dead => exact hone rfl
   | buf t fr l => cases o <;> first | exact ht.elim | exact h.elim
   | box bs =>
    cases o with
    | dead => exact ht.elim
    | buf => exact ht.elim
    | box asq =>
     rcases hl with hl | hl
     ·cases hl
     ·simp only [hl]
      obtain⟨L,p,n,t,fr,l,q,hL,hc,hi,e⟩:=h
      obtain⟨p',fr',l',q',hc'⟩:=ht off p n t fr l q hc
      exact⟨L,p',n,t,fr',l',q',hL,hc',hi,e⟩
 | fn f caps =>
  obtain⟨vs,e,hl,hv⟩:=h
  refine⟨vs,e,hl,fun n i hi=>?_⟩
  obtain⟨v,hv1,hv2⟩:=hv n i hi
  refine⟨v,hv1,?_⟩
  cases hh:V.h i with
  | none => rw [hh] at hv2; exact hv2.elim
  | some o =>
   obtain⟨o',h',ht,hL⟩:=hV.h i o hh
   rw [hh] at hv2; rw [h']
   cases o' with
   | dead =>
    cases o with
    | dead => exact hv2
    | buf => exact hv2.elim
    | box asq => obtain ⟨L, _, e⟩ := hv2; rw [e]; rfl
   | buf => cases o <;> first | exact ht.elim | exact hv2.elim
   | box bs =>
    cases o with
    | dead => exact ht.elim
    | buf => exact hv2.elim
    | box asq =>
     rcases hL with hL | hL
     ·cases hL
     ·simp only [hL]; exact hv2
theorem AtomsR.mono {V V':View} (hV:V.Le V'):∀ {asq:List Atom} {cs:List Value},AtomsR V asq cs→AtomsR V' asq cs
 | [], _, h => h
 | _ :: _, _, ⟨c1, c2, e, hs, h1, h2⟩ => ⟨c1, c2, e, hs, h1.mono hV hs.symm, h2.mono hV⟩
theorem V1R.mono {V V':View} (hV:V.Le V'):∀ {x:V1} {v:Value},V1R V x v→V1R V' x v
 | .one _, _, ⟨hs, h, hh⟩ => ⟨hs, h.mono hV (by simpa using hs), hh⟩
 | .agg _, _, ⟨cs, e, h⟩ => ⟨cs, e, h.mono hV⟩
theorem V1sR.mono {V V':View} (hV:V.Le V'):∀ {xs:List V1} {vs:List Value},V1sR V xs vs→V1sR V' xs vs
 | [], _, h => h
 | _ :: _, _, ⟨v, r, e, h1, h2⟩ => ⟨v, r, e, h1.mono hV, h2.mono hV⟩
theorem VR.mono {V V':View} (hV:V.Le V'):∀ {x:AVal} {v:Value},VR V x v→VR V' x v
 | .v _, _, h => V1R.mono hV h
 | .tup _, _, ⟨vs, e, h⟩ => ⟨vs, e, h.mono hV⟩
 | .any, _, _ => trivial
 | .und, _, h => h
theorem AtomsR.length {V:View}:∀ {asq:List Atom} {cs:List Value},AtomsR V asq cs→cs.length=(asq.map Atom.size).sum
 | [], _, h => by cases h; rfl
 | _ :: _, _, ⟨_, _, e, hs, _, h2⟩ => by rw [e, List.length_append, hs, h2.length]; rfl
theorem AtomsR.one {V:View}:∀ {asq:List Atom} {cs:List Value},AtomsR V asq cs→∀ v∈cs,v.oneCell'=true
 | [], _, h => by cases h; simp
 | _ :: _, _, ⟨_, _, e, _, h1, h2⟩ => by
  intro v hv; rw [e,List.mem_append] at hv
  rcases hv with hv | hv
  ·exact h1.one v hv
  ·exact h2.one v hv
theorem AtomsR.append {V:View}:∀ {asq bs:List Atom} {cs ds:List Value},AtomsR V asq cs→AtomsR V bs ds→AtomsR V (asq++bs) (cs++ds)
 | [], _, _, _, h, k => by cases h; exact k
 | _ :: _, _, _, _, ⟨c1, c2, e, hs, h1, h2⟩, k => ⟨c1, c2 ++ _, by rw [e, List.append_assoc], hs, h1, h2.append k⟩
theorem AtomsR.split {V:View}:∀ {asq bs:List Atom} {cs:List Value},AtomsR V (asq++bs) cs→∃ c d,cs=c++d∧AtomsR V asq c∧AtomsR V bs d
 | [], _, cs, h => ⟨[], cs, rfl, rfl, h⟩
 | _ :: _, _, _, ⟨c1, _, e, hs, h1, h2⟩ => by
  obtain⟨c,d,e2,k1,k2⟩:=AtomsR.split h2
  exact⟨c1++c,d,by rw [e,e2,List.append_assoc],⟨c1,c,rfl,hs,h1,k1⟩,k2⟩
theorem atomsOf_R (V:View) (fr:Bool):∀ (t:Ty) (x:t.den) (cs:List Value),Has (V.mem fr) t x cs→AtomsR V (atomsOf fr t x) cs
 | .int _, _, cs, h => ⟨cs, [], by simp, h.length, h, rfl⟩
 | .bool, _, cs, h => ⟨cs, [], by simp, h.length, h, rfl⟩
 | .str, _, cs, h => ⟨cs, [], by simp, h.length, h, rfl⟩
 | .unit, _, _, h => h
 | .sl _, _, cs, h => ⟨cs, [], by simp, h.length, h, rfl⟩
 | .arr _ _, _, cs, h => ⟨cs, [], by simp, h.length, h, rfl⟩
 | .pair a b, p, _, ⟨_, _, e, h1, h2⟩ => by rw [e]; exact (atomsOf_R V fr a p.1 _ h1).append (atomsOf_R V fr b p.2 _ h2)
theorem cut_R {V:View}:∀ {asq:List Atom} {n:Nat} {p q:List Atom} {cs:List Value},cutCells asq n=some (p,q)→AtomsR V asq cs→
  AtomsR V p (cs.take n)∧AtomsR V q (cs.drop n)∧n≤cs.length∧asq=p++q
 | [], 0, _, _, _, hc, h => by simp [cutCells] at hc; obtain ⟨rfl, rfl⟩ := hc; cases h; exact ⟨rfl, rfl, Nat.le_refl _, rfl⟩
 | [], _ + 1, _, _, _, hc, _ => by simp [cutCells] at hc
 | a :: asq, 0, _, _, _, hc, h => by simp [cutCells] at hc; obtain ⟨rfl, rfl⟩ := hc; exact ⟨rfl, h, Nat.zero_le _, rfl⟩
 | a :: asq, n + 1, p, q, cs, hc, ⟨c1, c2, e, hs, h1, h2⟩ => by
  simp only [cutCells] at hc
  split at hc
  ·rename_i hle
   have hle':a.size≤n+1:=Nat.le_of_ble_eq_true hle
   split at hc
   ·rename_i p' q' hr
    simp only [Option.some.injEq,Prod.mk.injEq] at hc
    obtain⟨rfl,rfl⟩:=hc
    obtain⟨i1,i2,i3,i4⟩:=cut_R hr h2
    have ht:cs.take (n+1)=c1++c2.take (n+1-a.size):=by rw [e,List.take_append,List.take_of_length_le (by omega),hs]
    have hd:cs.drop (n+1)=c2.drop (n+1-a.size):=by rw [e,List.drop_append,List.drop_of_length_le (by omega),hs]; rfl
    exact⟨by rw [ht]; exact⟨c1,_,rfl,hs,h1,i1⟩,by rw [hd]; exact i2,by rw [e,List.length_append]; omega,by rw [i4]; rfl⟩
   ·simp at hc
  ·simp at hc
end Go.Proofs.Ytijjhpmladkjdaa.E
end
section
namespace Go.Proofs.Ytijjhpmladkjdaa.E
open Go Go.RowKit
structure Base where
 w0:World
 ok0:Nat→Prop
 nx:Nat
 lx:Nat→Option Loc
def Base.n0 (B:Base):Nat:=B.w0.heap.size
def cellsAt (w:World) (b:Nat) (c:Array Value):Prop:=∃ e fz,w.heap[b]? = some (.cells c e fz)
def Obj'.isDead:Obj'→Bool
 | .dead => true | _ => false
def LivesAt (h:Nat→Option Obj') (loc:Nat→Option Loc) (id b:Nat):Prop:=
 ∃ o L,h id=some o∧o.isDead=false∧loc id=some L∧L.blk=b
def Base.ext (B:Base) (b:Nat):Prop:=∃ j,j<B.nx∧∃ L,B.lx j=some L∧L.blk=b
def memOf (B:Base) (w:World) (h:Nat→Option Obj') (loc:Nat→Option Loc):Mem:=fun b c=>
 cellsAt w b c∧(∀ id,¬ LivesAt h loc id b)∧(b<B.n0→B.ok0 b∨B.ext b)
def viewOf (B:Base) (w:World) (h:Nat→Option Obj') (loc:Nat→Option Loc):View:=
 ⟨h,loc,memOf B w h loc,fun b c=>memOf B w h loc b c∧(B.n0≤b∨B.ext b)⟩
def ObjR (V : View) (w : World) (id : Nat) : Obj' → Prop
 | .dead => True
 | .buf t fr l => match V.loc id with
  | none => l = []
  | some L => ∃ c e, w.heap[L.blk]? = some (.cells c e (0, 0)) ∧ c.size = L.size ∧ L.off + l.length * t.size ≤ L.size ∧
    ∀ i x,nth l i=some x→Has (V.mem fr) t x ((c.toList.drop (L.off+i*t.size)).take t.size)
 | .box asq => ∃ L c e cs, V.loc id = some L ∧ w.heap[L.blk]? = some (.cells c e (0, 0)) ∧ c.size = L.size ∧ L.off + cs.length ≤ L.size ∧ (c.toList.drop L.off).take cs.length = cs ∧ AtomsR V asq cs
structure HRel (B:Base) (h:Nat→Option Obj') (loc:Nat→Option Loc) (w:World):Prop where
 os:w.os=B.w0.os
 tape:w.tape=B.w0.tape
 output:w.output=B.w0.output
 size:B.n0≤w.heap.size
 old:∀ b,b<B.n0→¬ B.ext b→w.heap[b]? = B.w0.heap[b]?
 objs:∀ id o,h id=some o→ObjR (viewOf B w h loc) w id o
 blk:∀ id b,LivesAt h loc id b→b<w.heap.size∧(B.n0≤b∨B.ext b)
 inj:∀ id id' b,LivesAt h loc id b→LivesAt h loc id' b→id=id'
 ext:∀ j,j<B.nx→(∃ o,h j=some o∧o.isDead=false)→loc j=B.lx j
structure Step (w:World) (h:Nat→Option Obj') (loc:Nat→Option Loc) (M:Nat→Prop) (w':World) (h':Nat→Option Obj') (loc':Nat→Option Loc):Prop where
 os:w'.os=w.os
 tape:w'.tape=w.tape
 output:w'.output=w.output
 size:w.heap.size≤w'.heap.size
 keepB:∀ b,b<w.heap.size→(∀ id,M id→¬ LivesAt h loc id b)→w'.heap[b]? = w.heap[b]?
 keepI:∀ id,¬ M id→h' id=h id∧loc' id=loc id
 turn:∀ id,M id→∀ o,h id=some o→∃ o',h' id=some o'∧Turns o o'∧(o' = .dead∨loc' id=loc id)
 newB:∀ id b,M id→LivesAt h' loc' id b→b<w'.heap.size∧(w.heap.size≤b∨∃ id2,M id2∧LivesAt h loc id2 b)
 inj:∀ id id' b,M id→M id'→LivesAt h' loc' id b→LivesAt h' loc' id' b→id=id'
theorem LivesAt.congr {h h':Nat→Option Obj'} {loc loc':Nat→Option Loc} {id b:Nat} (e1:h' id=h id) (e2:loc' id=loc id) (k:LivesAt h' loc' id b):LivesAt h loc id b:=by
 obtain⟨o,L,k1,k2,k3,k4⟩:=k
 exact⟨o,L,e1 ▸ k1,k2,e2 ▸ k3,k4⟩
theorem cellsAt.lt {w:World} {b:Nat} {c:Array Value} (h:cellsAt w b c):b<w.heap.size:=by
 obtain⟨e,fz,h⟩:=h
 exact(Array.getElem?_eq_some_iff.1 h).1
variable {B:Base} {h h':Nat→Option Obj'} {loc loc':Nat→Option Loc} {w w':World} {M:Nat→Prop}
theorem Step.mem (S:Step w h loc M w' h' loc'):∀ b c,memOf B w h loc b c→memOf B w' h' loc' b c:=by
 intro b c ⟨⟨e,fz,h1⟩,h2,h3⟩
 have hb:b<w.heap.size:=cellsAt.lt ⟨e,fz,h1⟩
 refine⟨⟨e,fz,(S.keepB b hb fun id _=>h2 id).trans h1⟩,fun id k=>?_,h3⟩
 by_cases hm:M id
 ·rcases (S.newB id b hm k).2 with h4 | ⟨id2, _, h4⟩
  ·omega
  ·exact h2 _ h4
 ·exact h2 id (k.congr (S.keepI id hm).1 (S.keepI id hm).2)
theorem Step.le (S:Step w h loc M w' h' loc'):(viewOf B w h loc).Le (viewOf B w' h' loc'):=by
 refine⟨fun id o ho=>?_,S.mem,fun b c ⟨h1,h2⟩=>⟨S.mem b c h1,h2⟩⟩
 by_cases hm:M id
 ·exact S.turn id hm o ho
 ·have := S.keepI id hm
  exact⟨o,this.1.trans ho,Turns.refl o,.inr this.2⟩
theorem ObjR.keep {V V':View} (hV:V.Le V') {id:Nat} {o:Obj'} (hl:V'.loc id=V.loc id)
  (hb:o.isDead=false→∀ L,V.loc id=some L→w'.heap[L.blk]? = w.heap[L.blk]?) (k:ObjR V w id o):ObjR V' w' id o:=by
 cases o with
 | dead => trivial
 | buf t fr l =>
  simp only [ObjR,hl] at k ⊢
  cases hL:V.loc id with
  | none => rw [hL] at k; exact k
  | some L =>
   rw [hL] at k
   obtain⟨c,e,k1,k2,k3,k4⟩:=k
   exact⟨c,e,(hb rfl L hL).trans k1,k2,k3,fun i x hx=>(k4 i x hx).mono (hV.mem fr)⟩
 | box asq =>
  obtain⟨L,c,e,cs,k0,k1,k2,k3,k4,k5⟩:=k
  exact⟨L,c,e,cs,hl.trans k0,(hb rfl L k0).trans k1,k2,k3,k4,k5.mono hV⟩
theorem HRel.step (R:HRel B h loc w) (S:Step w h loc M w' h' loc')
  (hobj:∀ id,M id→∀ o,h' id=some o→ObjR (viewOf B w' h' loc') w' id o)
  (hext:∀ j,j<B.nx→M j→(∃ o,h' j=some o∧o.isDead=false)→loc' j=B.lx j):HRel B h' loc' w':=by
 have base:∀ b,(w.heap.size≤b∨∃ id2,M id2∧LivesAt h loc id2 b)→B.n0≤b∨B.ext b:=by
  intro b hb
  rcases hb with hb | ⟨id2,_,hb⟩
  ·left; have:=R.size; omega
  ·exact(R.blk id2 b hb).2
 refine⟨S.os.trans R.os,S.tape.trans R.tape,S.output.trans R.output,Nat.le_trans R.size S.size,fun b hb hn=>?_,fun id o ho=>?_,fun id b k=>?_,fun id id' b k k'=>?_,fun j hj ho=>?_⟩
 ·refine (S.keepB b (by have := R.size; omega) fun id _ k => ?_).trans (R.old b hb hn)
  rcases (R.blk id b k).2 with h1 | h1
  ·omega
  ·exact hn h1
 ·by_cases hm : M id
  ·exact hobj id hm o ho
  ·obtain ⟨e1, e2⟩ := S.keepI id hm
   have ho':h id=some o:=e1 ▸ ho
   refine ObjR.keep S.le (by exact e2) (fun hd L hL=>?_) (R.objs id o ho')
   have lv:LivesAt h loc id L.blk:=⟨o,L,ho',hd,hL,rfl⟩
   exact S.keepB _ (R.blk id _ lv).1 fun id2 hm2 k2=>hm (R.inj id2 id _ k2 lv ▸ hm2)
 ·by_cases hm : M id
  ·obtain ⟨h1, h2⟩ := S.newB id b hm k
   exact⟨h1,base b h2⟩
  ·have := R.blk id b (k.congr (S.keepI id hm).1 (S.keepI id hm).2)
   exact⟨Nat.lt_of_lt_of_le this.1 S.size,this.2⟩
 ·have cross : ∀ id id', M id → ¬ M id' → LivesAt h' loc' id b → LivesAt h' loc' id' b → False := by
   intro id id' hm hm' k k'
   have k2:=k'.congr (S.keepI id' hm').1 (S.keepI id' hm').2
   rcases (S.newB id b hm k).2 with h1 | ⟨id2,hm2,h1⟩
   ·have:=(R.blk id' b k2).1; omega
   ·exact hm' (R.inj id2 id' b h1 k2 ▸ hm2)
  by_cases hm:M id <;> by_cases hm':M id'
  ·exact S.inj id id' b hm hm' k k'
  ·exact(cross id id' hm hm' k k').elim
  ·exact(cross id' id hm' hm k' k).elim
  ·exact R.inj id id' b (k.congr (S.keepI id hm).1 (S.keepI id hm).2) (k'.congr (S.keepI id' hm').1 (S.keepI id' hm').2)
 ·by_cases hm : M j
  ·exact hext j hj hm ho
  ·obtain ⟨e1, e2⟩ := S.keepI j hm
   exact e2.trans (R.ext j hj (by obtain⟨o,h1,h2⟩:=ho; exact⟨o,e1 ▸ h1,h2⟩))
theorem HRel.drawn (R:HRel B h loc w) (n:Nat):HRel B h loc { w with drawn:=n }∧(viewOf B w h loc).Le (viewOf B { w with drawn:=n } h loc):=by
 have S:Step w h loc (fun _=>False) { w with drawn:=n } h loc:=
  ⟨rfl,rfl,rfl,Nat.le_refl _,fun _ _ _=>rfl,fun _ _=>⟨rfl,rfl⟩,fun _ hm=>hm.elim,fun _ _ hm=>hm.elim,fun _ _ _ hm=>hm.elim⟩
 exact⟨R.step S (fun _ hm=>hm.elim) (fun _ _ hm=>hm.elim),S.le⟩
def upd (hs:Hp) (h:Nat→Option Obj') (id:Nat):Option Obj':=match get id hs with | some o=>some o | none=>h id
theorem get_append {α:Type} (k:Nat):∀ (a b:List (Nat×α)),get k (a++b)=match get k a with | some v=>some v | none=>get k b
 | [], _ => rfl
 | (j, v) :: a, b => by
  simp only [List.cons_append,get]
  cases Nat.beq j k
  ·exact get_append k a b
  ·rfl
theorem upd_append (hs heap:Hp):(fun i=>get i (hs++heap))=upd hs (fun i=>get i heap):=by
 funext i; rw [get_append]; unfold upd; cases get i hs <;> rfl
def After (B:Base) (h:Nat→Option Obj') (loc:Nat→Option Loc) (w:World) (v:AVal) (hs:Hp) (u:Value) (w':World):Prop:=
 ∃ loc',(viewOf B w h loc).Le (viewOf B w' (upd hs h) loc')∧HRel B (upd hs h) loc' w'∧VR (viewOf B w' (upd hs h) loc') v u
def OpOk (P:Program) (B:Base) (o:Oper) (ρ:Operand→Value) (w:World) (h:Nat→Option Obj') (loc:Nat→Option Loc) (v:AVal) (hs:Hp):Prop:=
 ∃ u w',((execOp ρ o).run P w = .ok (.value u) w'∨(execOp ρ o).run P w = .ok .skip w'∧u=undef)∧After B h loc w v hs u w'
theorem After.pure (R:HRel B h loc w) {v:AVal} {u:Value} (hv:VR (viewOf B w h loc) v u):After B h loc w v [] u w:=
 ⟨loc,View.Le.refl _,R,hv⟩
theorem OpOk.pure {P:Program} {o:Oper} {ρ:Operand→Value} (R:HRel B h loc w) {v:AVal} {u:Value} (hr:(execOp ρ o).run P w = .ok (.value u) w)
  (hv:VR (viewOf B w h loc) v u):OpOk P B o ρ w h loc v []:=
 ⟨u,w,.inl hr,After.pure R hv⟩
theorem get_kill:∀ (ids:List Nat) (i:Nat),get i (kill ids)=if i∈ids then some .dead else none
 | [], i => by simp [kill, get]
 | j :: r, i => by
  have ih:=get_kill r i
  simp only [kill] at ih
  simp only [kill,List.map_cons,get,List.mem_cons]
  by_cases e:j=i
  ·subst e; simp
  ·have : Nat.beq j i = false := by
    rw [Bool.eq_false_iff]; exact fun h=>e (Nat.eq_of_beq_eq_true h)
   simp only [this,ih,show ¬ i=j from fun h=>e h.symm,false_or]
theorem beq_ne {j i:Nat} (h:j≠i):Nat.beq j i=false:=by
 rw [Bool.eq_false_iff]; exact fun e=>h (Nat.eq_of_beq_eq_true e)
theorem upd_new_self (nid:Nat) (o:Obj') (r:Hp):upd ((nid,o)::r) h nid=some o:=by simp [upd,get]
theorem upd_new_kill {nid i:Nat} (o:Obj') (ids:List Nat) (hi:i∈ids) (hne:i≠nid):upd ((nid,o)::kill ids) h i=some .dead:=by
 simp [upd,get,beq_ne (Ne.symm hne),get_kill,hi]
theorem upd_new_other {nid i:Nat} (o:Obj') (ids:List Nat) (hi:i ∉ ids) (hne:i≠nid):upd ((nid,o)::kill ids) h i=h i:=by
 simp [upd,get,beq_ne (Ne.symm hne),get_kill,hi]
theorem After.new (R:HRel B h loc w) {nid:Nat} (hn:h nid=none) (hnx:B.nx≤nid) {v:AVal} {u:Value} (Lo:Option Loc) (w':World) (o:Obj') (ids:List Nat)
  (hos:w'.os=w.os) (htape:w'.tape=w.tape) (hout:w'.output=w.output) (hsz:w.heap.size≤w'.heap.size)
  (hids:∀ i∈ids,∃ o,h i=some o)
  (hold:∀ b,b<w.heap.size→(∀ i∈ids,¬ LivesAt h loc i b)→w'.heap[b]? = w.heap[b]?)
  (hL:∀ L,Lo=some L→L.blk<w'.heap.size∧(w.heap.size≤L.blk∨∃ i∈ids,LivesAt h loc i L.blk))
  (hobj:∀ V:View,(viewOf B w h loc).Le V→(∀ b c,V.mf b c→V.m b c)→V.loc nid=Lo→V.h nid=some o→
    (∀ i∈ids,∀ b c,LivesAt h loc i b→cellsAt w' b c→(∀ L,Lo=some L→L.blk≠b)→V.m b c∧V.mf b c)→ObjR V w' nid o∧VR V v u):
  After B h loc w v ((nid,o)::kill ids) u w':=by
 have hni:∀ i∈ids,i≠nid:=fun i hi e=>by obtain⟨o,ho⟩:=hids i hi; rw [e,hn] at ho; cases ho
 let loc':Nat→Option Loc:=fun i=>if i=nid then Lo else loc i
 have hloc:∀ i,i≠nid→loc' i=loc i:=fun i hi=>if_neg hi
 have hlocn:loc' nid=Lo:=if_pos rfl
 let h':=upd ((nid,o)::kill ids) h
 have notdead:∀ i b,i∈ids→¬ LivesAt h' loc' i b:=by
  rintro i b hi ⟨o2,L,k1,k2,_⟩
  rw [show h' i=some .dead from upd_new_kill o ids hi (hni i hi)] at k1
  obtain rfl:=Option.some.inj k1
  cases k2
 have S:Step w h loc (fun i=>i=nid∨i∈ids) w' h' loc':=by
  refine⟨hos,htape,hout,hsz,fun b hb hk=>hold b hb fun i hi=>hk i (.inr hi),fun id hm=>?_,fun id hm o2 ho2=>?_,fun id b hm k=>?_,fun id id' b hm hm' k k'=>?_⟩
  ·have h1 : id ≠ nid := fun e => hm (.inl e)
   exact⟨upd_new_other o ids (fun hi=>hm (.inr hi)) h1,hloc id h1⟩
  ·rcases hm with rfl | hi
   ·rw [hn] at ho2; cases ho2
   ·exact⟨.dead,upd_new_kill o ids hi (hni id hi),by cases o2 <;> trivial,.inl rfl⟩
  ·rcases hm with rfl | hi
   ·obtain ⟨o2, L, _, _, k3, rfl⟩ := k
    rw [hlocn] at k3
    obtain⟨h1,h2⟩:=hL L k3
    exact⟨h1,h2.imp (fun x=>x) fun⟨i,hi,hh⟩=>⟨i,.inr hi,hh⟩⟩
   ·exact(notdead id b hi k).elim
  ·rcases hm with rfl | hi
   ·rcases hm' with rfl | hi'
    ·rfl
    ·exact(notdead id' b hi' k').elim
   ·exact(notdead id b hi k).elim
 have free:∀ i∈ids,∀ b c,LivesAt h loc i b→cellsAt w' b c→(∀ L,Lo=some L→L.blk≠b)→(viewOf B w' h' loc').m b c∧(viewOf B w' h' loc').mf b c:=by
  intro i hi b c hl hc hne
  have hb:=R.blk i b hl
  have m:(viewOf B w' h' loc').m b c:=by
   refine⟨hc,fun id k=>?_,fun hlt=>.inr (hb.2.resolve_left (by omega))⟩
   by_cases h1:id=nid
   ·subst h1
    obtain⟨_,L,_,_,k3,k4⟩:=k
    rw [hlocn] at k3
    exact hne L k3 k4
   ·by_cases h2 : id ∈ ids
    ·exact notdead id b h2 k
    ·exact h2 (R.inj i id b hl (k.congr (upd_new_other o ids h2 h1) (hloc id h1)) ▸ hi)
  exact⟨m,m,hb.2⟩
 obtain⟨q1,q2⟩:=hobj (viewOf B w' h' loc') S.le (fun _ _ k=>k.1) hlocn (upd_new_self nid o _) free
 refine⟨loc',S.le,R.step S (fun id hm o2 ho2=>?_) (fun j hj hm hex=>?_),q2⟩
 ·rcases hm with rfl | hi
  ·have : o2 = o := Option.some.inj (ho2.symm.trans (upd_new_self id o _))
   subst this; exact q1
  ·have : o2 = .dead := Option.some.inj (ho2.symm.trans (upd_new_kill o ids hi (hni id hi)))
   subst this; trivial
 ·rcases hm with rfl | hi
  ·omega
  ·obtain ⟨o2, k1, k2⟩ := hex
   have:o2 = .dead:=Option.some.inj (k1.symm.trans (upd_new_kill o ids hi (hni j hi)))
   subst this; cases k2
theorem After.set (R:HRel B h loc w) {id:Nat} {o o':Obj'} (ho:h id=some o) (hd:o.isDead=false) (ht:Turns o o') (hd':o'.isDead=false) {v:AVal} {u:Value} (w':World)
  (hos:w'.os=w.os) (htape:w'.tape=w.tape) (hout:w'.output=w.output) (hsz:w'.heap.size=w.heap.size)
  (hold:∀ b,¬ LivesAt h loc id b→w'.heap[b]? = w.heap[b]?)
  (hobj:∀ V:View,(viewOf B w h loc).Le V→(∀ b c,V.mf b c→V.m b c)→V.loc id=loc id→V.h id=some o'→ObjR V w' id o'∧VR V v u):
  After B h loc w v [(id,o')] u w':=by
 have hself:upd [(id,o')] h id=some o':=upd_new_self id o' []
 have hother:∀ i,i≠id→upd [(id,o')] h i=h i:=fun i hi=>upd_new_other o' [] (by simp) hi
 have S:Step w h loc (fun i=>i=id) w' (upd [(id,o')] h) loc:=by
  refine⟨hos,htape,hout,Nat.le_of_eq hsz.symm,fun b _ hk=>hold b (hk id rfl),fun i hm=>⟨hother i hm,rfl⟩,fun i hm o2 ho2=>?_,fun i b hm k=>?_,fun i i' b hm hm' _ _=>hm.trans hm'.symm⟩
  ·subst hm
   obtain rfl:=Option.some.inj (ho2.symm.trans ho)
   exact⟨o',hself,ht,.inr rfl⟩
  ·subst hm
   obtain⟨_,L,_,_,k3,k4⟩:=k
   have lv:LivesAt h loc i b:=⟨o,L,ho,hd,k3,k4⟩
   exact⟨by rw [hsz]; exact(R.blk i b lv).1,.inr ⟨i,rfl,lv⟩⟩
 obtain⟨q1,q2⟩:=hobj (viewOf B w' (upd [(id,o')] h) loc) S.le (fun _ _ k=>k.1) rfl hself
 refine⟨loc,S.le,R.step S (fun i hm o2 ho2=>?_) (fun j hj hm hex=>?_),q2⟩
 ·subst hm
  obtain rfl:=Option.some.inj (ho2.symm.trans hself)
  exact q1
 ·subst hm
  exact R.ext j hj ⟨o,ho,hd⟩
end Go.Proofs.Ytijjhpmladkjdaa.E
end
section
namespace Go.Proofs.Ytijjhpmladkjdaa.E
open Go Go.RowKit
def aggD:TypeDesc→Bool
 | .struct _ | .array _ _ => true | _ => false
def EqOk (P:Program) (t:TypeId) (ty:Ty):Prop:=P.eqGuardType P.depth t=false∧
 ∀ (m m':Mem) (x y:ty.den) (cs ds:List Value) (w:World),Has m ty x cs→Has m' ty y ds→(Op.equal t (.agg cs.toArray) (.agg ds.toArray)).run P w = .ok (eqV ty x y) w
structure IOk (P:Program) (t:TypeId) (ty:Ty):Prop where
 info:∃ i z,P.info? t=some i∧i.size=ty.size∧i.zero=some z∧z.cells.toList=zeroCells ty∧(aggTy ty=true→∃ c,z = .agg c)
 und:∃ d,P.underlying t=some d∧aggD d=aggTy ty
 eq:eqTy ty=true→EqOk P t ty
def TOk (P:Program) (t:TypeId):TD→Prop
 | .sc ty => IOk P t ty ∧ aggTy ty = false ∧ (∀ k, ty = .int k → P.underlying t = some (.int k)) ∧ (ty = .bool → P.underlying t = some .bool)
 | .sl e b => IOk P t (.sl e) ∧ ∃ te i, P.underlying t = some (.slice te) ∧ IOk P te e ∧ P.info? te = some i ∧ i.bytes = b
 | .st fs => IOk P t (tys fs) ∧ ∃ fields : Array Field, P.underlying t = some (.struct fields) ∧ fields.size = fs.length ∧
   ∀ i f,fields[i]? = some f→∃ o u,fieldTy fs i=some (o,u)∧f.offset=o∧IOk P f.type u
 | .ar n e => IOk P t (.arr n e) ∧ ∃ te, P.underlying t = some (.array n te) ∧ IOk P te e
 | .pa n e => (∃ i d, P.info? t = some i ∧ i.size = 1 ∧ P.underlying t = some d ∧ aggD d = false) ∧ ∃ ta te, P.underlying t = some (.pointer ta) ∧ P.underlying ta = some (.array n te) ∧ IOk P te e
 | .cell => ∃ i d, P.info? t = some i ∧ i.size = 1 ∧ P.underlying t = some d ∧ aggD d = false ∧ ∃ z v, i.zero = some z ∧ z.cells.toList = [v] ∧ v.oneCell' = true
 | .vw _ => ∃ i d, P.info? t = some i ∧ i.size = 1 ∧ P.underlying t = some d ∧ aggD d = false
theorem TOk.iok {P:Program} {t:TypeId} {d:TD} {u:Ty} (h:TOk P t d) (hu:d.ty=some u):IOk P t u:=by
 cases d with
 | sc ty => obtain rfl := Option.some.inj hu; exact h.1
 | sl e b => obtain rfl := Option.some.inj hu; exact h.1
 | st fs => obtain rfl := Option.some.inj hu; exact h.1
 | ar n e => obtain rfl := Option.some.inj hu; exact h.1
 | pa n e => cases hu
 | cell => cases hu
 | vw => cases hu
section
variable {P:Program} {w:World}
theorem run_sizeOf' {t:TypeId} {i:TypeInfo} (hi:P.info? t=some i) (w:World):(sizeOf t).run P w = .ok i.size w:=by
 simp [sizeOf,typeInfo,hi]
theorem run_isAgg {t:TypeId} {d:TypeDesc} (hd:P.underlying t=some d) (w:World):(isAgg t).run P w = .ok (aggD d) w:=by
 simp only [isAgg,Sem.run_bind,run_underlying hd,Result.andThen_ok]
 cases d <;> rfl
def Lies (w:World) (b o:Nat) (cs:List Value):Prop:=∃ c e fz,w.heap[b]? = some (.cells c e fz)∧∀ j v,cs[j]? = some v→c[o+j]? = some v
theorem add_at (b o j:Nat):(⟨b,o,none⟩:Addr).add j=⟨b,o+j,none⟩:=by
 unfold Addr.add; split <;> simp_all
theorem Lies.cell {b o:Nat} {cs:List Value} (h:Lies w b o cs):∀ j v,cs[j]? = some v→w.cell? ((⟨b,o,none⟩:Addr).add j)=some v:=by
 obtain⟨c,e,fz,h1,h2⟩:=h
 intro j v hj
 rw [add_at]
 simp [World.cell?,h1,h2 j v hj]
theorem Lies.take {b:Nat} {c:Array Value} {e:TypeId} {fz:Nat×Nat} (h:w.heap[b]? = some (.cells c e fz)) (o n:Nat):Lies w b o ((c.toList.drop o).take n):=by
 refine⟨c,e,fz,h,fun j v hj=>?_⟩
 rw [List.getElem?_take] at hj
 split at hj
 ·rw [List.getElem?_drop] at hj; simpa using hj
 ·cases hj
def Cells (ty:Ty) (v:Value) (cs:List Value):Prop:=match aggTy ty with | true=>v = .agg cs.toArray | false=>cs = [v]
theorem run_loadVar_lies {t:TypeId} {ty:Ty} (hi:IOk P t ty) {b o:Nat} {cs:List Value} (h:Lies w b o cs) (hs:cs.length=ty.size):
  ∃ v,(loadVar t ⟨b,o,none⟩).run P w = .ok v w∧Cells ty v cs:=by
 obtain⟨i,z,i1,i2,_,_,_⟩:=hi.info
 obtain⟨d,d1,d2⟩:=hi.und
 have hl:=run_loadCells_list (P:=P) w ⟨b,o,none⟩ cs h.cell
 rw [hs] at hl
 cases ha:aggTy ty with
 | true =>
  refine⟨.agg cs.toArray,?_,by simp [Cells,ha]⟩
  simp only [loadVar,Sem.run_bind,run_isAgg d1,Result.andThen_ok,d2,ha,if_true,run_sizeOf' i1,i2,hl,Sem.run_pure]
 | false =>
  have h1:ty.size=1:=by cases ty <;> first | rfl | cases ha
  match cs,hs,h with
  | [v], _, h =>
   refine⟨v,?_,by simp [Cells,ha]⟩
   have hc:=h.cell 0 v rfl
   have:(⟨b,o,none⟩:Addr).add 0=⟨b,o,none⟩:=rfl
   rw [this] at hc
   simp [loadVar,run_isAgg d1,d2,ha,hc]
  | [], hs, _ => rw [h1] at hs; cases hs
  | _ :: _ :: _, hs, _ => rw [h1] at hs; simp at hs
theorem toV_R {V:View} {fr:Bool} {ty:Ty} {x:ty.den} {v:Value} {cs:List Value} (h:Has (V.mem fr) ty x cs) (hc:Cells ty v cs):V1R V (toV fr ty x) v:=by
 cases ty with
 | int k => obtain rfl : cs = [v] := hc; exact ⟨rfl, h, trivial⟩
 | bool => obtain rfl : cs = [v] := hc; exact ⟨rfl, h, trivial⟩
 | str => obtain rfl : cs = [v] := hc; exact ⟨rfl, h, trivial⟩
 | sl t => obtain rfl : cs = [v] := hc; exact ⟨rfl, h, trivial⟩
 | unit => exact ⟨cs, hc, atomsOf_R V fr _ x cs h⟩
 | pair a b => exact ⟨cs, hc, atomsOf_R V fr _ x cs h⟩
 | arr n t => exact ⟨cs, hc, atomsOf_R V fr _ x cs h⟩
theorem eq?_spec:∀ {a b:Ty} {h},Ty.eq? a b=some h→a=b:=fun {_ _ h} _=>h.down
theorem partAt_R {m:Mem}:∀ {t:Ty} {x:t.den} {off:Nat} {u:Ty} {p:Part} {cs:List Value},partAt t x off u=some p→Has m t x cs→
  p.t=u∧Has m p.t p.x ((cs.drop off).take p.t.size):=by
 have leaf:∀ (t:Ty) (x:t.den) (off:Nat) (u:Ty) (p:Part) (cs:List Value),off=0→t=u→(⟨t,x⟩:Part)=p→Has m t x cs→p.t=u∧Has m p.t p.x ((cs.drop off).take p.t.size):=by
  rintro t x off u p cs rfl rfl rfl h
  exact⟨rfl,by rw [List.drop_zero,←h.length,List.take_length]; exact h⟩
 intro t
 induction t with
 | pair a b iha ihb =>
  intro x off u p cs hp h
  have rest : (match Nat.blt off a.size with | true => partAt a x.1 off u | false => partAt b x.2 (off - a.size) u) = some p → p.t = u ∧ Has m p.t p.x ((cs.drop off).take p.t.size) := by
   intro hp
   obtain⟨c1,c2,rfl,h1,h2⟩:=h
   cases hlt:Nat.blt off a.size with
   | true =>
    rw [hlt] at hp
    have hlt':off<a.size:=by simpa using hlt
    obtain⟨e,k⟩:=iha hp h1
    refine⟨e,?_⟩
    have hfit:((c1.drop off).take p.t.size).length=p.t.size:=k.length
    rw [List.drop_append_of_le_length (by rw [h1.length]; omega),List.take_append_of_le_length]
    ·exact k
    ·rw [List.length_take] at hfit; omega
   | false =>
    rw [hlt] at hp
    have hlt' : ¬ off < a.size := fun hh => by have : Nat.blt off a.size = true := by simpa using hh
                                               rw [hlt] at this; cases this
    obtain⟨e,k⟩:=ihb hp h2
    refine⟨e,?_⟩
    rw [List.drop_append,List.drop_of_length_le (by rw [h1.length]; omega),List.nil_append,h1.length]
    exact k
  cases he:Ty.eq? (.pair a b) u with
  | none => simp only [partAt, he] at hp; exact rest hp
  | some hu =>
   cases off with
   | zero => simp only [partAt, he] at hp; exact leaf _ x _ u p cs rfl hu.down (Option.some.inj hp) h
   | succ n => simp only [partAt, he] at hp; exact rest hp
 | int k =>
  intro x off u p cs hp h
  cases off with
  | zero => simp only [partAt] at hp; split at hp; · rename_i hu; exact leaf _ x _ u p cs rfl (eq?_spec hu) (Option.some.inj hp) h
            ·cases hp
  | succ n => simp [partAt] at hp
 | bool =>
  intro x off u p cs hp h
  cases off with
  | zero => simp only [partAt] at hp; split at hp; · rename_i hu; exact leaf _ x _ u p cs rfl (eq?_spec hu) (Option.some.inj hp) h
            ·cases hp
  | succ n => simp [partAt] at hp
 | str =>
  intro x off u p cs hp h
  cases off with
  | zero => simp only [partAt] at hp; split at hp; · rename_i hu; exact leaf _ x _ u p cs rfl (eq?_spec hu) (Option.some.inj hp) h
            ·cases hp
  | succ n => simp [partAt] at hp
 | unit =>
  intro x off u p cs hp h
  cases off with
  | zero => simp only [partAt] at hp; split at hp; · rename_i hu; exact leaf _ x _ u p cs rfl (eq?_spec hu) (Option.some.inj hp) h
            ·cases hp
  | succ n => simp [partAt] at hp
 | sl t _ =>
  intro x off u p cs hp h
  cases off with
  | zero => simp only [partAt] at hp; split at hp; · rename_i hu; exact leaf _ x _ u p cs rfl (eq?_spec hu) (Option.some.inj hp) h
            ·cases hp
  | succ n => simp [partAt] at hp
 | arr n t _ =>
  intro x off u p cs hp h
  cases off with
  | zero => simp only [partAt] at hp; split at hp; · rename_i hu; exact leaf _ x _ u p cs rfl (eq?_spec hu) (Option.some.inj hp) h
            ·cases hp
  | succ n => simp [partAt] at hp
theorem Lies.sub {b o:Nat} {cs:List Value} (h:Lies w b o cs) (k n:Nat):Lies w b (o+k) ((cs.drop k).take n):=by
 obtain⟨c,e,fz,h1,h2⟩:=h
 refine⟨c,e,fz,h1,fun j v hj=>?_⟩
 rw [List.getElem?_take] at hj
 split at hj
 ·rw [List.getElem?_drop] at hj
  have:=h2 _ _ hj
  rwa [Nat.add_assoc]
 ·cases hj
theorem take_of_take_drop {α:Type} (l:List α) (o m k n:Nat) (h:((((l.drop o).take m).drop k).take n).length=n):((((l.drop o).take m).drop k).take n)=(l.drop (o+k)).take n:=by
 rw [List.drop_take,List.take_take,List.drop_drop]
 rw [List.drop_take,List.take_take,List.drop_drop,List.length_take] at h
 by_cases hle:n≤m-k
 ·rw [Nat.min_eq_left hle]
 ·have h2 : min n (m - k) = m - k := Nat.min_eq_right (by omega)
  rw [h2] at h ⊢
  omega
end
section
variable {P:Program} {B:Base} {h g:Nat→Option Obj'} {loc:Nat→Option Loc} {w:World}
theorem mem_cells {fr:Bool} {b:Nat} {c:Array Value} (k:(viewOf B w h loc).mem fr b c):cellsAt w b c:=by
 cases fr
 ·exact k.1
 ·exact k.1.1
theorem getD_of_lt {t:Ty} {l:List t.den} {i:Nat} (hi:i<l.length):nth l i=some (l.getD i t.dflt):=by
 simp [nth,List.getD,List.getElem?_eq_getElem hi]
def IsPtr (cs:List Value) (b o:Nat):Prop:=cs = [.pointer (some ⟨b,o,none⟩)]
theorem AtomR.ptr_buf {V:View} {id i off:Nat} {cs:List Value} {t:Ty} {fr:Bool} {l:List t.den} (k:AtomR V (.ptr id i off) cs) (hh:V.h id=some (.buf t fr l)):
  i<l.length∧∃ L,V.loc id=some L∧IsPtr cs L.blk (L.off+(i*t.size+off)):=by
 simp only [AtomR,hh] at k; exact k
theorem AtomR.bel_buf {V:View} {id i off n j:Nat} {b:Ty} {cs:List Value} {t:Ty} {fr:Bool} {l:List t.den} (k:AtomR V (.bel id i off n b j) cs) (hh:V.h id=some (.buf t fr l)):
  i<l.length∧j<n∧∃ L,V.loc id=some L∧IsPtr cs L.blk (L.off+(i*t.size+off+j*b.size)):=by
 simp only [AtomR,hh] at k; exact k
theorem AtomR.ptr_box {V:View} {id i off:Nat} {cs:List Value} {asq:List Atom} (k:AtomR V (.ptr id i off) cs) (hh:V.h id=some (.box asq)):
  ∃ L,V.loc id=some L∧IsPtr cs L.blk (L.off+off):=by
 simp only [AtomR,hh] at k; exact k
theorem AtomR.pel_box {V:View} {id i off:Nat} {cs:List Value} {asq:List Atom} (k:AtomR V (.pel id off i) cs) (hh:V.h id=some (.box asq)):
  ∃ L p n t fr l q,V.loc id=some L∧cutCells asq off=some (p,.arr n t fr l::q)∧i<n∧IsPtr cs L.blk (L.off+(off+i*t.size)):=by
 simp only [AtomR,hh] at k; exact k
theorem AtomR.own_buf {V:View} {id:Nat} {cs:List Value} {t:Ty} {fr:Bool} {l:List t.den} (k:AtomR V (.own id) cs) (hh:V.h id=some (.buf t fr l)):
  (V.loc id=none∧(∃ A,cs = [.slice A 0 0])∧l = [])∨∃ L cap,V.loc id=some L∧cs = [.slice (some ⟨L.blk,L.off,none⟩) l.length cap]∧l.length≤cap∧L.off+cap*t.size≤L.size:=by
 simp only [AtomR,hh] at k
 split at k
 ·rename_i hl; exact .inl ⟨hl,k⟩
 ·rename_i L hl; obtain⟨cap,k⟩:=k; exact .inr ⟨L,cap,hl,k⟩
theorem AtomR.av_box {V:View} {id off:Nat} {cs:List Value} {asq:List Atom} (k:AtomR V (.av id off) cs) (hh:V.h id=some (.box asq)):
  ∃ L p n t fr l q,V.loc id=some L∧cutCells asq off=some (p,.arr n t fr l::q)∧cs = [.slice (some ⟨L.blk,L.off+off,none⟩) n n]:=by
 simp only [AtomR,hh] at k; exact k
theorem box_arr {V:View} {id off n:Nat} {asq p q:List Atom} {t:Ty} {fr:Bool} {l:List t.den} {L:Loc} (k:ObjR V w id (.box asq)) (hL:V.loc id=some L) (hc:cutCells asq off=some (p,.arr n t fr l::q)):
  ∃ c e,w.heap[L.blk]? = some (.cells c e (0,0))∧len (t:=t) l=n∧∀ i x,nth (t:=t) l i=some x→Has (V.mem fr) t x ((c.toList.drop (L.off+off+i*t.size)).take t.size):=by
 obtain⟨L',c,e,cs,h1,h2,h3,h4,h5,h6⟩:=k
 obtain rfl:=Option.some.inj (hL.symm.trans h1)
 obtain⟨_,⟨c1,c2,e1,e2,e3,_⟩,hoff,_⟩:=cut_R hc h6
 obtain⟨q1,q2,q3⟩:=e3
 refine⟨c,e,h2,q1,fun i x hx=>?_⟩
 have hi:i<List.length (α:=t.den) l:=(List.getElem?_eq_some_iff.1 hx).1
 have q1':List.length (α:=t.den) l=n:=q1
 have his:i*t.size+t.size≤n*t.size:=by
  have:(i+1)*t.size≤n*t.size:=Nat.mul_le_mul_right _ (by omega)
  rw [Nat.add_mul] at this; omega
 have hk:=q3 i x hx
 have e2':c1.length=n*t.size:=e2
 have h7:cs.drop off=c1++c2:=e1
 have h9:off+n*t.size≤cs.length:=by
  have:=congrArg List.length h7
  rw [List.length_drop,List.length_append,e2'] at this
  omega
 have hd:c1=(c.toList.drop (L.off+off)).take (n*t.size):=by
  have h8:c1=(cs.drop off).take (n*t.size):=by rw [h7,List.take_left' e2']
  rw [h8]
  conv=>lhs; rw [←h5]
  exact take_of_take_drop _ _ _ _ _ (by rw [List.length_take,List.length_drop,h5]; omega)
 rw [hd,take_of_take_drop _ _ _ _ _ (by
  rw [←hd,List.length_take,List.length_drop,e2']; omega)] at hk
 exact hk
theorem AtomR.sub_buf {V:View} {id lo hi:Nat} {cs:List Value} {t:Ty} {fr:Bool} {l:List t.den} (k:AtomR V (.sub id lo hi) cs) (hh:V.h id=some (.buf t fr l)):
  lo≤hi∧hi≤l.length∧∃ A cap,cs = [.slice A (hi-lo) cap]∧hi-lo≤cap∧(hi=lo∨∃ L,V.loc id=some L∧A=some ⟨L.blk,L.off+lo*t.size,none⟩):=by
 simp only [AtomR,hh] at k; exact k
theorem ObjR.buf {V:View} {id:Nat} {t:Ty} {fr:Bool} {l:List t.den} {L:Loc} (k:ObjR V w id (.buf t fr l)) (hL:V.loc id=some L):
  ∃ c e, w.heap[L.blk]? = some (.cells c e (0, 0)) ∧ c.size = L.size ∧ L.off + l.length * t.size ≤ L.size ∧
    ∀ i x,nth l i=some x→Has (V.mem fr) t x ((c.toList.drop (L.off+i*t.size)).take t.size):=by
 simp only [ObjR,hL] at k; exact k
theorem ObjR.box {V:View} {id:Nat} {asq:List Atom} {L:Loc} (k:ObjR V w id (.box asq)) (hL:V.loc id=some L):
  ∃ c e cs,w.heap[L.blk]? = some (.cells c e (0,0))∧c.size=L.size∧L.off+cs.length≤L.size∧(c.toList.drop L.off).take cs.length=cs∧AtomsR V asq cs:=by
 obtain⟨L',c,e,cs,k0,k⟩:=k
 obtain rfl:=Option.some.inj (hL.symm.trans k0)
 exact⟨c,e,cs,k⟩
def Loads (P:Program) (V:View) (w:World) (t:TypeId) (cs:List Value) (v:AVal):Prop:=
 ∃ b o x y,IsPtr cs b o∧(loadVar t ⟨b,o,none⟩).run P w = .ok x w∧v = .v y∧V1R V y x
theorem Loads.of {t:TypeId} {ty:Ty} (hi:IOk P t ty) {V:View} {fr:Bool} {x:ty.den} {cs ds:List Value} {b o:Nat} (hp:IsPtr cs b o) (hl:Lies w b o ds) (hh:Has (V.mem fr) ty x ds):
  Loads P V w t cs (.v (toV fr ty x)):=by
 obtain⟨v,h1,h2⟩:=run_loadVar_lies hi hl hh.length
 exact⟨b,o,v,_,hp,h1,rfl,toV_R hh h2⟩
theorem aggTy_tys (fs:List Ty):aggTy (tys fs)=true:=by cases fs <;> rfl
theorem loadAt_R (R : HRel B h loc w) (hg : ∀ id o, g id = some o → h id = some o) {t : TypeId} {d : TD} (hT : TOk P t d) {p : Atom} {cs : List Value} (hp : AtomR (viewOf B w h loc) p cs)
  {c:Bool} {v:AVal} {hs:Hp} (hl:loadAt g d p = .ok c v hs):c=true∧hs = []∧Loads P (viewOf B w h loc) w t cs v:=by
 cases p with
 | rp t' fr x =>
  simp only [loadAt] at hl
  split at hl
  ·rename_i u hu
   split at hl
   ·rename_i q hq
    simp only [Out.ok.injEq] at hl
    obtain⟨rfl,rfl,rfl⟩:=hl
    obtain⟨b,o,cc,e,hm,hh⟩:=hp
    obtain⟨e1,e2⟩:=partAt_R hq hh
    have hi:IOk P t q.t:=by rw [e1]; exact hT.iok hu
    obtain⟨el,fz,hc⟩:=mem_cells hm
    have l1:=(Lies.take hc o t'.size).sub 0 q.t.size
    exact⟨rfl,rfl,Loads.of hi e l1 e2⟩
   ·cases hl
  ·cases hl
 | ptr id i off =>
  simp only [loadAt] at hl
  split at hl
  ·rename_i t' fr l hgi
   have hh:=hg _ _ hgi
   split at hl
   ·rename_i u hu
    split at hl
    ·rename_i q hq
     simp only [Out.ok.injEq] at hl
     obtain⟨rfl,rfl,rfl⟩:=hl
     obtain⟨hi,L,hL,e⟩:=hp.ptr_buf hh
     obtain⟨cc,el,hc,_,_,hx⟩:=(R.objs id _ hh).buf hL
     have hx:=hx i _ (getD_of_lt hi)
     obtain⟨e1,e2⟩:=partAt_R hq hx
     have hio:IOk P t q.t:=by rw [e1]; exact hT.iok hu
     have l1:=(Lies.take hc (L.off+i*t'.size) t'.size).sub off q.t.size
     rw [Nat.add_assoc] at l1
     exact⟨rfl,rfl,Loads.of hio e l1 e2⟩
    ·cases hl
   ·cases hl
  ·rename_i asq hgi
   have hh:=hg _ _ hgi
   obtain⟨L,hL,e⟩:=hp.ptr_box hh
   obtain⟨cc,el,ds,hc,_,_,hd,hA⟩:=(R.objs id _ hh).box hL
   have l0:Lies w L.blk L.off ds:=by rw [←hd]; exact Lies.take hc _ _
   split at hl
   ·rename_i pre rest hcut
    obtain⟨-,hrest,hle,-⟩:=cut_R hcut hA
    split at hl
    ·rename_i fs
     split at hl
     ·rename_i m q hm
      simp only [Out.ok.injEq] at hl
      obtain⟨rfl,rfl,rfl⟩:=hl
      obtain⟨k1,_,k3,_⟩:=cut_R hm hrest
      obtain⟨x,r1,r2⟩:=run_loadVar_lies hT.1 (l0.sub off (tys fs).size) (by rw [List.length_take]; omega)
      refine⟨rfl,rfl,_,_,x,_,e,r1,rfl,_,?_,k1⟩
      simpa [Cells,aggTy_tys] using r2
     ·cases hl
    ·rename_i n e'
     split at hl
     ·rename_i m t' fr l _
      split at hl
      ·rename_i hn ht _ _
       have hn:=hn.down; have ht:=ht.down
       subst hn; subst ht
       simp only [Out.ok.injEq] at hl
       obtain⟨rfl,rfl,rfl⟩:=hl
       obtain⟨c1,c2,e1,e2,e3,_⟩:=hrest
       have hsz:c1=(ds.drop off).take (n*t'.size):=by rw [e1,List.take_left' (by rw [e2]; rfl)]
       obtain⟨x,r1,r2⟩:=run_loadVar_lies hT.1 (l0.sub off (n*t'.size)) (by rw [←hsz,e2]; rfl)
       refine⟨rfl,rfl,_,_,x,_,e,r1,rfl,c1,?_,c1,[],by simp,e2,e3,rfl⟩
       rw [←hsz] at r2; exact r2
      ·cases hl
     ·cases hl
    ·rename_i hst har
     split at hl
     ·cases hl
     ·rename_i a r hna
      simp only [Out.ok.injEq] at hl
      obtain⟨rfl,rfl,rfl⟩:=hl
      obtain⟨c1,c2,e1,e2,e3,_⟩:=hrest
      have hs1:a.size=1:=by cases a <;> first | rfl | exact(hna _ _ _ _ rfl).elim
      match c1,e2,e3,e1 with
      | [x], e2, e3, e1 =>
       have hcell:w.cell? ⟨L.blk,L.off+off,none⟩=some x:=by
        have:=(l0.sub off 1).cell 0 x (by rw [e1]; rfl)
        rw [add_at] at this; exact this
       refine⟨rfl,rfl,_,_,x,_,e,?_,rfl,hs1,e3,?_⟩
       ·have agg : ∃ dd, P.underlying t = some dd ∧ aggD dd = false := by
         cases d with
         | sc ty => obtain ⟨dd, d1, d2⟩ := hT.1.und; exact ⟨dd, d1, d2.trans hT.2.1⟩
         | sl e b => obtain ⟨dd, d1, d2⟩ := hT.1.und; exact ⟨dd, d1, d2⟩
         | st fs => exact (hst fs rfl).elim
         | ar n e => exact (har n e rfl).elim
         | pa => obtain ⟨⟨_, dd, _, _, d1, d2⟩, _⟩ := hT; exact ⟨dd, d1, d2⟩
         | cell => obtain ⟨_, dd, _, _, d1, d2, _⟩ := hT; exact ⟨dd, d1, d2⟩
         | vw => obtain ⟨_, dd, _, _, d1, d2⟩ := hT; exact ⟨dd, d1, d2⟩
        obtain⟨dd,d1,d2⟩:=agg
        simp [loadVar,run_isAgg d1,d2,hcell]
       ·cases a <;> first | trivial | exact(hna _ _ _ _ rfl).elim
      | [], e2, _, _ => rw [hs1] at e2; cases e2
      | _ :: _ :: _, e2, _, _ => rw [hs1] at e2; simp at e2
     ·cases hl
   ·cases hl
  ·cases hl
 | pel id off i =>
  simp only [loadAt] at hl
  split at hl
  ·rename_i asq hgi
   have hh:=hg _ _ hgi
   obtain⟨L,p1,n1,t1,fr1,l1,q1,hL,hcut1,hi,e⟩:=hp.pel_box hh
   obtain⟨cc,el,ds,hc,_,_,hd,hA⟩:=(R.objs id _ hh).box hL
   have l0:Lies w L.blk L.off ds:=by rw [←hd]; exact Lies.take hc _ _
   split at hl
   ·rename_i pre n t' fr l rest hcut
    rw [hcut1] at hcut
    simp only [Option.some.injEq,Prod.mk.injEq,List.cons.injEq,Atom.arr.injEq] at hcut
    obtain⟨_,⟨rfl,rfl,rfl,hll⟩,_⟩:=hcut
    have hll:=eq_of_heq hll
    subst hll
    split at hl
    ·rename_i u hu
     split at hl
     ·rename_i ht _
      have ht:=ht.down
      subst ht
      simp only [Out.ok.injEq] at hl
      obtain⟨rfl,rfl,rfl⟩:=hl
      obtain⟨_,⟨c1,c2,e1,e2,e3,_⟩,_,_⟩:=cut_R hcut1 hA
      have hsz:c1=(ds.drop off).take (n1*t1.size):=by rw [e1,List.take_left' (by rw [e2]; rfl)]
      obtain⟨k1,k2,k3⟩:=e3
      have hx:=k3 i _ (getD_of_lt (by rw [show List.length (α:=t1.den) l1=n1 from k1]; exact hi))
      have l2:=(l0.sub off (n1*t1.size)).sub (i*t1.size) t1.size
      rw [←hsz,Nat.add_assoc] at l2
      exact⟨rfl,rfl,Loads.of (hT.iok hu) e l2 hx⟩
     ·cases hl
    ·cases hl
   ·cases hl
  ·cases hl
 | bel id i off n b j =>
  simp only [loadAt] at hl
  split at hl
  ·rename_i t' fr l hgi
   have hh:=hg _ _ hgi
   obtain⟨hi,hj,L,hL,e⟩:=hp.bel_buf hh
   obtain⟨cc,el,hc,_,_,hx⟩:=(R.objs id _ hh).buf hL
   have hx:=hx i _ (getD_of_lt hi)
   split at hl
   ·rename_i u hu
    split at hl
    ·rename_i n2 b2 x hbu hq
     have hbu:=eq?_spec hbu
     subst hbu
     simp only [Out.ok.injEq] at hl
     obtain⟨rfl,rfl,rfl⟩:=hl
     obtain⟨e1,e2⟩:=partAt_R hq hx
     have e1:Ty.arr n2 b2=Ty.arr n b:=e1
     obtain⟨rfl,rfl⟩:=Ty.arr.inj e1
     obtain⟨k1,k2,k3⟩:=e2
     have hx2:=k3 j _ (getD_of_lt (by rw [show List.length (α:=b2.den) x=n2 from k1]; exact hj))
     have l1:=((Lies.take hc (L.off+i*t'.size) t'.size).sub off (n2*b2.size)).sub (j*b2.size) b2.size
     rw [Nat.add_assoc,Nat.add_assoc] at l1
     rw [Nat.add_assoc] at e
     exact⟨rfl,rfl,Loads.of (hT.iok hu) e l1 hx2⟩
    ·cases hl
   ·cases hl
  ·cases hl
 | _ => cases hl
end
end Go.Proofs.Ytijjhpmladkjdaa.E
end
section
namespace Go.Proofs.Ytijjhpmladkjdaa.E
open Go Go.RowKit
section
variable {P:Program} {B:Base} {h g:Nat→Option Obj'} {loc:Nat→Option Loc} {w:World}
structure SeesM (B:Base) (w:World) (h:Nat→Option Obj') (loc:Nat→Option Loc) (ids:List Nat) (V':View):Prop where
 m:∀ b c,(viewOf B w h loc).m b c→V'.m b c
 mf:∀ b c,(viewOf B w h loc).mf b c→V'.mf b c
 sub:∀ b c,V'.mf b c→V'.m b c
 fz:∀ i∈ids,∀ b c,LivesAt h loc i b→cellsAt w b c→V'.m b c∧V'.mf b c
theorem SeesM.mem {ids:List Nat} {V':View} (S:SeesM B w h loc ids V') (fr:Bool):∀ b c,(viewOf B w h loc).mem fr b c→V'.mem fr b c:=by
 cases fr
 ·exact S.m
 ·exact S.mf
structure Sees (B:Base) (w:World) (h:Nat→Option Obj') (loc:Nat→Option Loc) (ids:List Nat) (V':View):Prop extends SeesM B w h loc ids V' where
 le:(viewOf B w h loc).Le V'
theorem Sees.self:Sees B w h loc [] (viewOf B w h loc):=⟨⟨fun _ _ k=>k,fun _ _ k=>k,fun _ _ k=>k.1,by simp⟩,View.Le.refl _⟩
theorem Sees.mk' {ids:List Nat} {V':View} (le:(viewOf B w h loc).Le V') (sub:∀ b c,V'.mf b c→V'.m b c) (fz:∀ i∈ids,∀ b c,LivesAt h loc i b→cellsAt w b c→V'.m b c∧V'.mf b c):Sees B w h loc ids V':=
 ⟨⟨le.m,le.mf,sub,fz⟩,le⟩
theorem SeesM.and {ids:List Nat} {V':View} (S:SeesM B w h loc ids V') (a b:Bool) {t:Ty} {x:t.den} {cs:List Value} (k:Has (V'.mem a) t x cs):Has (V'.mem (a&&b)) t x cs:=by
 cases a <;> cases b <;> first | exact k | exact k.mono S.sub
theorem SeesM.and' {ids:List Nat} {V':View} (S:SeesM B w h loc ids V') (a b:Bool) {t:Ty} {x:t.den} {cs:List Value} (k:Has (V'.mem b) t x cs):Has (V'.mem (a&&b)) t x cs:=by
 cases a <;> cases b <;> first | exact k | exact k.mono S.sub
theorem SeesM.left {i1 i2:List Nat} {V':View} (S:SeesM B w h loc (i1++i2) V'):SeesM B w h loc i1 V':=⟨S.m,S.mf,S.sub,fun i hi=>S.fz i (List.mem_append_left _ hi)⟩
theorem SeesM.right {i1 i2:List Nat} {V':View} (S:SeesM B w h loc (i1++i2) V'):SeesM B w h loc i2 V':=⟨S.m,S.mf,S.sub,fun i hi=>S.fz i (List.mem_append_right _ hi)⟩
theorem nth_cutL {t:Ty} {l:List t.den} {a b i:Nat} {x:t.den} (k:nth (cutL l a b) i=some x):nth l (a+i)=some x:=by
 simp only [nth,cutL,List.getElem?_drop,List.getElem?_take] at k
 split at k
 ·exact k
 ·cases k
theorem asAtom_R (R:HRel B h loc w) (hg:∀ id o,g id=some o→h id=some o) {t:Ty} {a:Atom} {x:Got t} {cs:List Value} (ha:AtomR (viewOf B w h loc) a cs)
  (hx:asAtom g t a=some x) {V':View} (S:SeesM B w h loc x.ids V'):Has (V'.mem x.fr) t x.x cs:=by
 cases t with
 | int k =>
  cases a with
  | int l n => simp only [asAtom] at hx; split at hx; · rename_i hk _; obtain rfl := Option.some.inj hx; obtain rfl := hk.down; exact ha
               ·cases hx
  | _ => cases hx
 | bool => cases a with
  | bool b => obtain rfl := Option.some.inj hx; exact ha
  | _ => cases hx
 | str => cases a with
  | str b => obtain rfl := Option.some.inj hx; exact ha
  | _ => cases hx
 | unit => cases a <;> cases hx
 | pair a b => rename_i a'; cases a' <;> cases hx
 | sl t =>
  cases a with
  | ro u fr l =>
   simp only [asAtom] at hx
   split at hx
   ·rename_i hu _
    subst hu
    obtain rfl:=Option.some.inj hx
    exact Has.mono (S.mem fr) ha
   ·cases hx
  | nils => obtain rfl := Option.some.inj hx; exact ⟨none, 0, ha, Nat.le_refl _, .inl rfl⟩
  | e0 => obtain rfl := Option.some.inj hx; obtain ⟨A, e⟩ := ha; exact ⟨A, 0, e, Nat.le_refl _, .inl rfl⟩
  | own id =>
   simp only [asAtom] at hx
   split at hx
   ·rename_i u fr l hgi
    split at hx
    ·rename_i hu _
     subst hu
     obtain rfl:=Option.some.inj hx
     have hh:=hg _ _ hgi
     rcases ha.own_buf hh with ⟨_,⟨A,rfl⟩,rfl⟩ | ⟨L,cap,hL,rfl,hc,hf⟩
     ·exact⟨A,0,rfl,Nat.le_refl _,.inl rfl⟩
     ·obtain ⟨c, e, k1, k2, k3, k4⟩ := (R.objs id _ hh).buf hL
      have m:=S.fz id (by simp) L.blk c ⟨_,L,hh,rfl,hL,rfl⟩ ⟨e,_,k1⟩
      refine⟨_,cap,rfl,hc,.inr ⟨L.blk,L.off,c,rfl,?_,fun i y hy=>(k4 i y hy).mono (S.mem fr)⟩⟩
      cases fr
      ·exact m.1
      ·exact m.2
    ·cases hx
   ·cases hx
  | rk u n l =>
   simp only [asAtom] at hx
   split at hx
   ·rename_i hu _
    subst hu
    obtain rfl:=Option.some.inj hx
    exact Has.mono (S.mem false) ha.1
   ·cases hx
  | av id off =>
   simp only [asAtom] at hx
   split at hx
   ·rename_i asq hgi
    split at hx
    ·rename_i p n u fr l q hcut
     split at hx
     ·rename_i hu _
      subst hu
      obtain rfl:=Option.some.inj hx
      have hh:=hg _ _ hgi
      obtain⟨L,p1,n1,t1,fr1,l1,q1,hL,hcut1,rfl⟩:=ha.av_box hh
      rw [hcut1] at hcut
      simp only [Option.some.injEq,Prod.mk.injEq,List.cons.injEq,Atom.arr.injEq] at hcut
      obtain⟨rfl,⟨rfl,rfl,rfl,hll⟩,rfl⟩:=hcut
      have hll:=eq_of_heq hll
      subst hll
      obtain⟨c,e,k1,k2,k3⟩:=box_arr (R.objs id _ hh) hL hcut1
      have m:=S.fz id (by simp) L.blk c ⟨_,L,hh,rfl,hL,rfl⟩ ⟨e,_,k1⟩
      refine⟨_,n1,by rw [k2],by rw [k2]; exact Nat.le_refl _,.inr ⟨L.blk,L.off+off,c,rfl,?_,fun i y hy=>(k3 i y hy).mono (S.mem fr1)⟩⟩
      cases fr1
      ·exact m.1
      ·exact m.2
     ·cases hx
    ·cases hx
   ·cases hx
  | sub id lo hi =>
   simp only [asAtom] at hx
   split at hx
   ·rename_i u fr l hgi
    split at hx
    ·rename_i hu _
     subst hu
     obtain rfl:=Option.some.inj hx
     have hh:=hg _ _ hgi
     obtain⟨h1,h2,A,cap,rfl,hc,hd⟩:=ha.sub_buf hh
     have hlen:len (cutL l lo hi)=hi-lo:=by simp only [len,cutL,List.length_drop,List.length_take]; omega
     refine⟨A,cap,by rw [hlen],by rw [hlen]; exact hc,?_⟩
     rcases hd with hd | ⟨L,hL,rfl⟩
     ·left; rw [hlen]; omega
     ·right
      obtain⟨c,e,k1,k2,k3,k4⟩:=(R.objs id _ hh).buf hL
      have m:=S.fz id (by simp) L.blk c ⟨_,L,hh,rfl,hL,rfl⟩ ⟨e,_,k1⟩
      refine⟨L.blk,L.off+lo*u.size,c,rfl,?_,fun i y hy=>?_⟩
      ·cases fr
       ·exact m.1
       ·exact m.2
      ·have := (k4 _ y (nth_cutL hy)).mono (S.mem fr)
       rwa [Nat.add_mul,←Nat.add_assoc] at this
    ·cases hx
   ·cases hx
  | _ => cases hx
 | arr n t =>
  cases a with
  | arr m u fr l =>
   simp only [asAtom] at hx
   split at hx
   ·rename_i hn hu _ _
    obtain rfl:=hn.down
    subst hu
    obtain rfl:=Option.some.inj hx
    exact Has.mono (S.mem fr) ha
   ·cases hx
  | _ => cases hx
theorem asTy_R (R:HRel B h loc w) (hg:∀ id o,g id=some o→h id=some o) {V':View}:∀ {t:Ty} {asq rest:List Atom} {x:Got t} {cs:List Value},AtomsR (viewOf B w h loc) asq cs→
  asTy g t asq=some (x,rest)→SeesM B w h loc x.ids V'→∃ c1 c2,cs=c1++c2∧Has (V'.mem x.fr) t x.x c1∧AtomsR (viewOf B w h loc) rest c2:=by
 have leaf:∀ (t:Ty) (asq rest:List Atom) (x:Got t) (cs:List Value),(∀ a r,asq=a::r→asTy g t asq=match asAtom g t a with | some x=>some (x,r) | none=>none)→
   asTy g t []=none→AtomsR (viewOf B w h loc) asq cs→asTy g t asq=some (x,rest)→SeesM B w h loc x.ids V'→
   ∃ c1 c2,cs=c1++c2∧Has (V'.mem x.fr) t x.x c1∧AtomsR (viewOf B w h loc) rest c2:=by
  intro t asq rest x cs hcons hnil ha hx S
  cases asq with
  | nil => rw [hnil] at hx; cases hx
  | cons a r =>
   rw [hcons a r rfl] at hx
   split at hx
   ·rename_i y hy
    simp only [Option.some.injEq,Prod.mk.injEq] at hx
    obtain⟨rfl,rfl⟩:=hx
    obtain⟨c1,c2,e,_,k1,k2⟩:=ha
    exact⟨c1,c2,e,asAtom_R R hg k1 hy S,k2⟩
   ·cases hx
 intro t
 induction t with
 | unit =>
  intro asq rest x cs ha hx S
  simp only [asTy,Option.some.injEq,Prod.mk.injEq] at hx
  obtain⟨rfl,rfl⟩:=hx
  exact⟨[],cs,rfl,rfl,ha⟩
 | pair a b iha ihb =>
  intro asq rest x cs ha hx S
  simp only [asTy] at hx
  split at hx
  ·rename_i y as' hy
   split at hx
   ·rename_i z as'' hz
    simp only [Option.some.injEq,Prod.mk.injEq] at hx
    obtain⟨rfl,rfl⟩:=hx
    obtain⟨c1,c2,rfl,k1,k2⟩:=iha ha hy S.left
    obtain⟨c3,c4,rfl,k3,k4⟩:=ihb k2 hz S.right
    exact⟨c1++c3,c4,by rw [List.append_assoc],⟨c1,c3,rfl,S.and _ _ k1,S.and' _ _ k3⟩,k4⟩
   ·cases hx
  ·cases hx
 | int k => intro asq rest x cs ha hx S; exact leaf _ asq rest x cs (fun a r e => by subst e; rfl) rfl ha hx S
 | bool => intro asq rest x cs ha hx S; exact leaf _ asq rest x cs (fun a r e => by subst e; rfl) rfl ha hx S
 | str => intro asq rest x cs ha hx S; exact leaf _ asq rest x cs (fun a r e => by subst e; rfl) rfl ha hx S
 | sl t _ => intro asq rest x cs ha hx S; exact leaf _ asq rest x cs (fun a r e => by subst e; rfl) rfl ha hx S
 | arr n t _ => intro asq rest x cs ha hx S; exact leaf _ asq rest x cs (fun a r e => by subst e; rfl) rfl ha hx S
theorem V1R.cells {V:View} {v:V1} {u:Value} (k:V1R V v u):AtomsR V v.atoms u.cells.toList:=by
 cases v with
 | one a =>
  obtain⟨k1,k2,_⟩:=k
  have:=k2.one u (by simp)
  have e:u.cells.toList = [u]:=by cases u <;> first | rfl | cases this
  rw [e]
  exact⟨[u],[],rfl,k1.symm,k2,rfl⟩
 | agg asq =>
  obtain⟨cs,rfl,k⟩:=k
  exact k
theorem asV_R (R:HRel B h loc w) (hg:∀ id o,g id=some o→h id=some o) {V':View} {t:Ty} {v:V1} {x:Got t} {u:Value} (ha:V1R (viewOf B w h loc) v u)
  (hx:asV g t v=some x) (S:SeesM B w h loc x.ids V'):Has (V'.mem x.fr) t x.x u.cells.toList:=by
 simp only [asV] at hx
 split at hx
 ·rename_i y hy
  obtain rfl:=Option.some.inj hx
  obtain⟨c1,c2,e,k1,k2⟩:=asTy_R R hg ha.cells hy S
  obtain rfl:c2 = []:=k2
  rw [e,List.append_nil]; exact k1
 ·cases hx
theorem zeroAtoms_R (V:View):∀ (t:Ty),AtomsR V (zeroAtoms t) (zeroCells t)
 | .int k => ⟨_, [], rfl, rfl, rfl, rfl⟩
 | .bool => ⟨_, [], rfl, rfl, rfl, rfl⟩
 | .str => ⟨_, [], rfl, rfl, rfl, rfl⟩
 | .unit => rfl
 | .sl _ => ⟨_, [], rfl, rfl, rfl, rfl⟩
 | .pair a b => (zeroAtoms_R V a).append (zeroAtoms_R V b)
 | .arr n t => ⟨_, [], by simp, zeroCells_length (.arr n t), Has.dflt (V.mem true) (.arr n t), rfl⟩
theorem one_R {V:View} {a:Atom} {u:Value} (hs:a.size=1) (k:AtomR V a [u]) (hn:∀ n t fr l,a≠.arr n t fr l):VR V (one a) u:=by
 refine⟨hs,k,?_⟩
 cases a <;> first | trivial | exact(hn _ _ _ _ rfl).elim
theorem VR.int {V:View} {k:IntKind} {n:Int} {u:Value} (k':VR V (.v (.one (.int k n))) u):u = .int k n:=by
 have:=k'.2.1; simpa [AtomR] using this
theorem VR.bool {V:View} {b:Bool} {u:Value} (k':VR V (.v (.one (.bool b))) u):u = .bool b:=by
 have:=k'.2.1; simpa [AtomR] using this
theorem pick_R {V:View} {c:Bool} {a b:AVal} {x y:Value} (hx:VR V a x) (hy:VR V b y):VR V (pick c a b) (if c then x else y):=by
 unfold pick
 split
 ·rename_i p q
  rw [hx.bool,hy.bool]
  cases c
  ·exact⟨rfl,rfl,trivial⟩
  ·exact⟨rfl,rfl,trivial⟩
 ·cases c
  ·exact hy
  ·exact hx
variable {o:Oper} {ρ:Operand→Value} {val:Operand→AVal}
theorem intOp_R (op:BinOp) (k:IntKind) (a b:Int) (t:TypeId) {c:Bool} {v:AVal} {hs:Hp} (hi:intOp op k a b = .ok c v hs) (hc:c=true):
  hs = []∧∃ u,(binOp op t (.int k a) (.int k b)).run P w = .ok u w∧∀ V,VR V v u:=by
 have nz:∀ {c:Bool},(!(b==0))=c→c=true→b≠0:=fun h1 h2=>by rw [h2] at h1; simpa using h1
 cases op <;> simp only [intOp,Out.ok.injEq,ilt_eq,ile_eq,ieq_eq,iwrap_eq] at hi
 case add=>obtain⟨_,rfl,rfl⟩:=hi; exact⟨rfl,_,by simp [binOp,Op.intArith],fun V=>⟨rfl,rfl,trivial⟩⟩
 case sub=>obtain⟨_,rfl,rfl⟩:=hi; exact⟨rfl,_,by simp [binOp,Op.intArith],fun V=>⟨rfl,rfl,trivial⟩⟩
 case mul=>obtain⟨_,rfl,rfl⟩:=hi; exact⟨rfl,_,by simp [binOp,Op.intArith],fun V=>⟨rfl,rfl,trivial⟩⟩
 case quo=>obtain⟨h1,rfl,rfl⟩:=hi; exact⟨rfl,_,by simp [binOp,Op.intDiv,nz h1 hc],fun V=>⟨rfl,rfl,trivial⟩⟩
 case rem=>obtain⟨h1,rfl,rfl⟩:=hi; exact⟨rfl,_,by simp [binOp,Op.intDiv,nz h1 hc],fun V=>⟨rfl,rfl,trivial⟩⟩
 case eql=>obtain⟨_,rfl,rfl⟩:=hi; exact⟨rfl,_,by simp [binOp,Op.intCmp],fun V=>⟨rfl,rfl,trivial⟩⟩
 case neq=>obtain⟨_,rfl,rfl⟩:=hi; exact⟨rfl,.bool (!(a==b)),by simp [binOp,Op.intCmp]; rfl,fun V=>⟨rfl,rfl,trivial⟩⟩
 case lss=>obtain⟨_,rfl,rfl⟩:=hi; exact⟨rfl,_,by simp [binOp,Op.intCmp],fun V=>⟨rfl,rfl,trivial⟩⟩
 case leq=>obtain⟨_,rfl,rfl⟩:=hi; exact⟨rfl,_,by simp [binOp,Op.intCmp],fun V=>⟨rfl,rfl,trivial⟩⟩
 case gtr=>obtain⟨_,rfl,rfl⟩:=hi; exact⟨rfl,_,by simp [binOp,Op.intCmp],fun V=>⟨rfl,rfl,trivial⟩⟩
 case geq=>obtain⟨_,rfl,rfl⟩:=hi; exact⟨rfl,_,by simp [binOp,Op.intCmp],fun V=>⟨rfl,rfl,trivial⟩⟩
 case xor=>obtain⟨_,rfl,rfl⟩:=hi; exact⟨rfl,_,by simp [binOp,Op.intBits,ixor_eq],fun V=>⟨rfl,rfl,trivial⟩⟩
 all_goals cases hi
theorem inRange_spec {i:Int} {n:Nat} (k:inRange i n=true):0≤i∧i<(n:Int)∧i.toNat<n:=by
 simp only [inRange_eq,Bool.and_eq_true,decide_eq_true_eq] at k
 omega
theorem indexAt_R (hg:∀ id o,g id=some o→h id=some o) {t:TypeId} {d:TD} (hT:TOk P t d) {k:IntKind} {i:Int} {p:Atom} {u:Value} (hp:AtomR (viewOf B w h loc) p [u])
  {c:Bool} {v:AVal} {hs:Hp} (hl:indexAt g d i p = .ok c v hs) (hc:c=true):
  hs = []∧∃ x,(Instr.indexAt t u (.int k i)).run P w = .ok x w∧VR (viewOf B w h loc) v x:=by
 have sl:∀ (e:Ty) (b:Nat) (A:Addr) (ln cap:Nat),TOk P t (.sl e b)→0≤i→i<(ln:Int)→
   (Instr.indexAt t (.slice (some A) ln cap) (.int k i)).run P w = .ok (.pointer (some (A.add (i.toNat*e.size)))) w:=by
  intro e b A ln cap hT h0 h1
  obtain⟨_,te,ti,u1,u2,u3,_⟩:=hT
  obtain⟨i2,_,j1,j2,_⟩:=u2.info
  simp [Instr.indexAt,run_underlying u1,asIntOf,h0,h1,run_sizeOf' j1,j2]
 have ar:∀ (e:Ty) (n:Nat) (A:Addr),TOk P t (.ar n e)→0≤i→i<(n:Int)→
   (Instr.indexAt t (.pointer (some A)) (.int k i)).run P w = .ok (.pointer (some (A.add (i.toNat*e.size)))) w:=by
  intro e n A hT h0 h1
  obtain⟨_,te,u1,u2⟩:=hT
  obtain⟨i2,_,j1,j2,_⟩:=u2.info
  simp [Instr.indexAt,Instr.sureAddr,run_underlying u1,asIntOf,h0,h1,run_sizeOf' j1,j2]
 cases p with
 | ro t' fr l =>
  simp only [indexAt] at hl
  split at hl
  ·split at hl
   ·rename_i e b _ he _
    obtain rfl:=he.down
    simp only [Out.ok.injEq] at hl
    obtain⟨rfl,rfl,rfl⟩:=hl
    obtain⟨h0,h1,h2⟩:=inRange_spec hc
    obtain⟨A,cap,e1,_,hm⟩:=hp
    obtain rfl:u = .slice A (len l) cap:=by simpa using e1
    rcases hm with hm | ⟨bb,oo,cc,rfl,hm,hx⟩
    ·rw [show List.length (α:=t'.den) l=0 from hm] at h2; omega
    ·refine⟨rfl,_,sl _ b _ _ cap hT h0 h1,one_R rfl ⟨bb,oo+i.toNat*t'.size,cc,by rw [add_at],hm,hx _ _ (getD_of_lt h2)⟩ (by simp)⟩
   ·cases hl
  ·cases hl
 | own id =>
  simp only [indexAt] at hl
  split at hl
  ·rename_i e b t' fr l hgi
   split at hl
   ·rename_i he _
    obtain rfl:=he.down
    simp only [Out.ok.injEq] at hl
    obtain⟨rfl,rfl,rfl⟩:=hl
    obtain⟨h0,h1,h2⟩:=inRange_spec hc
    have hh:=hg _ _ hgi
    rcases hp.own_buf hh with ⟨_,_,rfl⟩ | ⟨L,cap,hL,e1,_,_⟩
    ·simp at h2
    ·obtain rfl : u = _ := by simpa using e1
     refine⟨rfl,_,sl _ b _ _ cap hT h0 h1,one_R rfl ?_ (by simp)⟩
     simp only [AtomR,show(viewOf B w h loc).h id=_ from hh]
     exact⟨h2,L,hL,by rw [add_at]; rfl⟩
   ·cases hl
  ·cases hl
 | ptr id i' off =>
  simp only [indexAt] at hl
  split at hl
  ·rename_i n e t' fr l hgi
   split at hl
   ·rename_i q hq
    simp only [Out.ok.injEq] at hl
    obtain⟨rfl,rfl,rfl⟩:=hl
    obtain⟨h0,h1,h2⟩:=inRange_spec hc
    have hh:=hg _ _ hgi
    obtain⟨hi',L,hL,e1⟩:=hp.ptr_buf hh
    obtain rfl:u=_:=by simpa [IsPtr] using e1
    refine⟨rfl,_,ar _ _ _ hT h0 h1,one_R rfl ?_ (by simp)⟩
    simp only [AtomR,show(viewOf B w h loc).h id=_ from hh]
    exact⟨hi',h2,L,hL,by rw [add_at]; simp [Loc.ptr,Nat.add_assoc]⟩
   ·cases hl
  ·rename_i n e asq hgi
   split at hl
   ·rename_i p' m t' fr l q hcut
    split at hl
    ·rename_i hn he _ _
     obtain rfl:=hn.down
     obtain rfl:=he.down
     simp only [Out.ok.injEq] at hl
     obtain⟨rfl,rfl,rfl⟩:=hl
     obtain⟨h0,h1,h2⟩:=inRange_spec hc
     have hh:=hg _ _ hgi
     obtain⟨L,hL,e1⟩:=hp.ptr_box hh
     obtain rfl:u=_:=by simpa [IsPtr] using e1
     refine⟨rfl,_,ar _ _ _ hT h0 h1,one_R rfl ?_ (by simp)⟩
     simp only [AtomR,show(viewOf B w h loc).h id=_ from hh]
     exact⟨L,p',n,t',fr,l,q,hL,hcut,h2,by rw [add_at]; simp [Loc.ptr,Nat.add_assoc]⟩
    ·cases hl
   ·cases hl
  ·cases hl
 | rp ty fr x =>
  cases ty with
  | arr n t' =>
   simp only [indexAt] at hl
   split at hl
   ·split at hl
    ·rename_i m e _ hn he _ _
     obtain rfl:=hn.down
     obtain rfl:=he.down
     simp only [Out.ok.injEq] at hl
     obtain⟨rfl,rfl,rfl⟩:=hl
     obtain⟨h0,h1,h2⟩:=inRange_spec hc
     obtain⟨bb,oo,cc,e1,hm,k1,k2,k3⟩:=hp
     obtain rfl:u=_:=by simpa using e1
     have hlt:i.toNat<List.length (α:=t'.den) x:=by rw [show List.length (α:=t'.den) x=n from k1]; exact h2
     have hx:=k3 i.toNat _ (getD_of_lt hlt)
     have e2:=take_of_take_drop cc.toList oo (Ty.arr n t').size (i.toNat*t'.size) t'.size hx.length
     rw [e2] at hx
     exact⟨rfl,_,ar _ _ _ hT h0 h1,one_R rfl ⟨bb,oo+i.toNat*t'.size,cc,by rw [add_at],hm,hx⟩ (by simp)⟩
    ·cases hl
   ·cases hl
  | _ => cases hl
 | _ => cases hl
theorem run_fieldAt {s:TypeId} {fs:List Ty} (hT:TOk P s (.st fs)) {f o:Nat} {u:Ty} (hf:fieldTy fs f=some (o,u)) (hu:u.size≠0) (b off:Nat):
  (Instr.fieldAt s (.pointer (some ⟨b,off,none⟩)) f).run P w = .ok (.pointer (some ⟨b,off+o,none⟩)) w:=by
 obtain⟨_,fields,u1,u2,u3⟩:=hT
 have hlt:f<fields.size:=by
  rw [u2]
  rcases Nat.lt_or_ge f fs.length with hh | hh
  ·exact hh
  ·exfalso
   have:∀ (fs:List Ty) (f:Nat),fs.length≤f→fieldTy fs f=none:=by
    intro fs
    induction fs with
    | nil => intro f _; rfl
    | cons t r ih => intro f hf; cases f with
     | zero => simp at hf
     | succ n => simp only [fieldTy, ih n (by simpa using hf)]
   rw [this fs f hh] at hf; cases hf
 obtain⟨o',u',v1,v2,v3⟩:=u3 f fields[f] (Array.getElem?_eq_getElem hlt)
 rw [hf] at v1
 simp only [Option.some.injEq,Prod.mk.injEq] at v1
 obtain⟨rfl,rfl⟩:=v1
 obtain⟨i2,_,j1,j2,_⟩:=v3.info
 have hz:¬ i2.size=0:=by rw [j2]; exact hu
 simp [Instr.fieldAt,run_underlying u1,hlt,Instr.sureAddr,fieldPlace,run_sizeOf' j1,hz,v2,add_at]
end
end Go.Proofs.Ytijjhpmladkjdaa.E
end
section
namespace Go.Proofs.Ytijjhpmladkjdaa.E
open Go Go.RowKit
section
variable {P:Program} {B:Base} {h g:Nat→Option Obj'} {loc:Nat→Option Loc} {w:World}
def Rows (m:Mem) (t:Ty) (l:List t.den) (cs:List Value):Prop:=∀ i x,nth l i=some x→Has m t x ((cs.drop (i*t.size)).take t.size)
theorem Rows.mono {m m':Mem} (hm:∀ b c,m b c→m' b c) {t:Ty} {l:List t.den} {cs:List Value} (k:Rows m t l cs):Rows m' t l cs:=fun i x hx=>(k i x hx).mono hm
theorem Rows.nil (m:Mem) (t:Ty) (cs:List Value):Rows m t [] cs:=fun i x hx=>by simp [nth] at hx
theorem nth_lt {t:Ty} {l:List t.den} {i:Nat} {x:t.den} (k:nth l i=some x):i<l.length:=(List.getElem?_eq_some_iff.1 k).1
theorem rows_of {m:Mem} {t:Ty} {l:List t.den} {c:List Value} {o:Nat} (k:∀ i x,nth l i=some x→Has m t x ((c.drop (o+i*t.size)).take t.size)):
  ((c.drop o).take (l.length*t.size)).length=l.length*t.size∧Rows m t l ((c.drop o).take (l.length*t.size)):=by
 have hlen:l.length*t.size≤c.length-o:=by
  rcases Nat.eq_zero_or_pos l.length with hz | hz
  ·rw [hz]; omega
  ·obtain ⟨n, hn⟩ : ∃ n, l.length = n + 1 := ⟨l.length - 1, by omega⟩
   have:=(k n _ (List.getElem?_eq_getElem (by omega))).length
   rw [List.length_take,List.length_drop] at this
   rcases Nat.eq_zero_or_pos t.size with hs | hs
   ·rw [hs]; omega
   ·rw [hn,Nat.add_mul]; omega
 have h1:((c.drop o).take (l.length*t.size)).length=l.length*t.size:=by rw [List.length_take,List.length_drop]; omega
 refine⟨h1,fun i x hx=>?_⟩
 have h2:=k i x hx
 have hi:=nth_lt hx
 have h3:(i+1)*t.size≤l.length*t.size:=Nat.mul_le_mul_right _ hi
 rw [Nat.add_mul] at h3
 have e:=take_of_take_drop c o (l.length*t.size) (i*t.size) t.size (by rw [List.length_take,List.length_drop,h1]; omega)
 rw [e]; exact h2
theorem rows_in {m:Mem} {t:Ty} {l:List t.den} {cs:List Value} (k:Rows m t l cs) (pre post:List Value):
  ∀ i x,nth l i=some x→Has m t x (((pre++cs++post).drop (pre.length+i*t.size)).take t.size):=by
 intro i x hx
 have h1:=k i x hx
 have hl:=h1.length
 rw [List.length_take,List.length_drop] at hl
 rw [List.append_assoc,List.drop_append,List.drop_of_length_le (by omega),List.nil_append,Nat.add_sub_cancel_left,List.drop_append,List.take_append_of_le_length (by rw [List.length_drop]; omega)]
 exact h1
theorem Rows.append {m:Mem} {t:Ty} {l l2:List t.den} {cs cs2:List Value} (k:Rows m t l cs) (k2:Rows m t l2 cs2) (hl:cs.length=l.length*t.size):Rows m t (l++l2) (cs++cs2):=by
 intro i x hx
 by_cases hi:i<l.length
 ·have hx' : nth l i = some x := by rw [← hx]; simp only [nth]; rw [List.getElem?_append_left hi]
  have h1:=k i x hx'
  have h3:=h1.length
  rw [List.length_take,List.length_drop] at h3
  rw [List.drop_append,List.take_append_of_le_length (by rw [List.length_drop]; omega)]
  exact h1
 ·have hx' : nth l2 (i - l.length) = some x := by rw [← hx]; simp only [nth]; rw [List.getElem?_append_right (by omega)]
  have h1:=k2 _ x hx'
  have e:i*t.size=cs.length+(i-l.length)*t.size:=by rw [hl,←Nat.add_mul]; congr 1; omega
  rw [List.drop_append,List.drop_of_length_le (by omega),List.nil_append,e,Nat.add_sub_cancel_left]
  exact h1
theorem Rows.cons {m:Mem} {t:Ty} {x:t.den} {l:List t.den} {cs ds:List Value} (k:Has m t x cs) (k2:Rows m t l ds):Rows m t (x::l) (cs++ds):=by
 have:Rows m t [x] cs:=by
  intro i y hy
  have hi:=nth_lt hy
  obtain rfl:i=0:=by simpa using hi
  obtain rfl:x=y:=by simpa [nth] using hy
  rw [Nat.zero_mul,List.drop_zero,←k.length,List.take_length]; exact k
 exact this.append k2 (by rw [k.length]; simp)
theorem Rows.replicate {m:Mem} {t:Ty} {x:t.den} {cs:List Value} (k:Has m t x cs):∀ n,Rows m t (List.replicate n x) (List.replicate n cs).flatten
 | 0 => Rows.nil m t _
 | n + 1 => by rw [List.replicate_succ, List.replicate_succ, List.flatten_cons]; exact Rows.cons k (Rows.replicate k n)
theorem After.alloc (R:HRel B h loc w) {nid:Nat} (hn:h nid=none) (hnx:B.nx≤nid) {v:AVal} {u:Value} (c:Array Value) (e:TypeId) (o:Obj') (ids:List Nat) (n:Nat)
  (hids:∀ i∈ids,∃ o,h i=some o)
  (hobj:∀ V:View,Sees B w h loc ids V→V.loc nid=some ⟨w.heap.size,0,c.size⟩→V.h nid=some o→ObjR V (({ w with drawn:=n }:World).alloc (.cells c e)) nid o∧VR V v u):
  After B h loc w v ((nid,o)::kill ids) u (({ w with drawn:=n }:World).alloc (.cells c e)):=by
 refine After.new R hn hnx (some ⟨w.heap.size,0,c.size⟩) _ o ids rfl rfl rfl (by simp) hids (fun b hb _=>heap_alloc_old _ _ b hb) (fun L hL=>?_) (fun V hV hsub hl hh hf=>hobj V (Sees.mk' hV hsub fun i hi b c' hlv hc=>?_) hl hh)
 ·obtain rfl := Option.some.inj hL
  exact⟨by simp,.inl (Nat.le_refl _)⟩
 ·have hb := (R.blk i b hlv).1
  refine hf i hi b c' hlv ?_ fun L hL e=>?_
  ·obtain ⟨e', fz, hc⟩ := hc
   exact⟨e',fz,(heap_alloc_old _ _ b hb).trans hc⟩
  ·obtain rfl := Option.some.inj hL
   simp only at e; omega
theorem V1R.one_cells {V:View} {v:V1} {u:Value} (k:V1R V v u):∀ x∈u.cells.toList,x.oneCell'=true:=k.cells.one
theorem take_all {α:Type} (c:Array α):(c.toList.drop 0).take c.toList.length=c.toList:=by rw [List.drop_zero,List.take_length]
theorem op_box {o:Oper} {ρ:Operand→Value} (R:HRel B h loc w) {nid:Nat} (hn:h nid=none) (hnx:B.nx≤nid) {t:TypeId} {x:Operand} (ho:o.op = .box t x) {v:V1}
  (hv:V1R (viewOf B w h loc) v (ρ x)):OpOk P B o ρ w h loc (one (.ptr nid 0 0)) [(nid,.box v.atoms)]:=by
 refine⟨.pointer (some ⟨w.heap.size,0,none⟩),w.alloc (.cells (ρ x).cells t),.inl ?_,?_⟩
 ·simp [execOp,ho,Instr.box,newVar,newRow]
 ·refine After.alloc R hn hnx (ρ x).cells t (.box v.atoms) [] w.drawn (by simp) fun V S hl hh => ⟨?_, one_R rfl ?_ (by simp)⟩
  ·exact⟨_,_,t,(ρ x).cells.toList,hl,heap_alloc_new _ _,rfl,by simp,take_all _,hv.cells.mono S.le⟩
  ·simp only [AtomR,hh]; exact⟨_,hl,rfl⟩
theorem op_alloc {o:Oper} {ρ:Operand→Value} (R:HRel B h loc w) {nid:Nat} (hn:h nid=none) (hnx:B.nx≤nid) {t:TypeId} {u:Ty} (ho:o.op = .alloc t) (hT:IOk P t u):
  OpOk P B o ρ w h loc (one (.ptr nid 0 0)) [(nid,.box (zeroAtoms u))]:=by
 obtain⟨i,z,i1,_,i3,i4,_⟩:=hT.info
 refine⟨.pointer (some ⟨w.heap.size,0,none⟩),w.alloc (.cells z.cells t),.inl ?_,?_⟩
 ·simp [execOp,ho,Instr.alloc,zeroValue,typeInfo,i1,i3,newVar,newRow]
 ·refine After.alloc R hn hnx z.cells t (.box (zeroAtoms u)) [] w.drawn (by simp) fun V S hl hh => ⟨?_, one_R rfl ?_ (by simp)⟩
  ·exact⟨_,_,t,z.cells.toList,hl,heap_alloc_new _ _,rfl,by simp,take_all _,by rw [i4]; exact zeroAtoms_R V u⟩
  ·simp only [AtomR,hh]; exact⟨_,hl,rfl⟩
theorem op_allocC {o:Oper} {ρ:Operand→Value} (R:HRel B h loc w) {nid:Nat} (hn:h nid=none) (hnx:B.nx≤nid) {t:TypeId} (ho:o.op = .alloc t) (hT:TOk P t .cell):
  OpOk P B o ρ w h loc (one (.ptr nid 0 0)) [(nid,.box [.np])]:=by
 obtain⟨i,d,i1,_,_,_,z,v,i3,i4,i5⟩:=hT
 refine⟨.pointer (some ⟨w.heap.size,0,none⟩),w.alloc (.cells z.cells t),.inl ?_,?_⟩
 ·simp [execOp,ho,Instr.alloc,zeroValue,typeInfo,i1,i3,newVar,newRow]
 ·refine After.alloc R hn hnx z.cells t (.box [.np]) [] w.drawn (by simp) fun V S hl hh => ⟨?_, one_R rfl ?_ (by simp)⟩
  ·exact⟨_,_,t,z.cells.toList,hl,heap_alloc_new _ _,rfl,by simp,take_all _,by rw [i4]; exact⟨[v],[],rfl,rfl,⟨v,rfl,i5⟩,rfl⟩⟩
  ·simp only [AtomR,hh]; exact⟨_,hl,rfl⟩
theorem run_storeVar_at {t:TypeId} {n:Nat} {i:TypeInfo} (hi:P.info? t=some i) (hs:i.size=n) {b o:Nat} {c:Array Value} {e:TypeId} (hb:w.heap[b]? = some (.cells c e (0,0)))
  {u:Value} (hu:u.cells.toList.length=n) (h1:∀ x∈u.cells.toList,x.oneCell'=true) (hfit:o+n≤c.size):
  (storeVar t ⟨b,o,none⟩ u).run P w = .ok () (w.setRow b (c.toList.take o++u.cells.toList++c.toList.drop (o+n)).toArray):=by
 have hst:=run_storeCells_at P b o e u.cells.toList 0 c w hb (by omega) h1
 have hne:¬ (u.cells.size≠i.size):=by rw [hs,←hu]; simp
 simp only [storeVar,Sem.run_bind,run_sizeOf' hi,Result.andThen_ok,if_neg hne,hst,Nat.add_zero,hu]
theorem splice_take {α:Type} (c:List α) (o n:Nat) (new:List α) (off k:Nat) (hn:new.length=n) (ho:off+o+n≤c.length) (hk:o+n≤k) (hk2:off+k≤c.length):
  ((c.take (off+o)++new++c.drop (off+o+n)).drop off).take k=(((c.drop off).take k).take o)++new++(((c.drop off).take k).drop (o+n)):=by
 apply List.ext_getElem?
 intro j
 simp only [List.getElem?_take,List.getElem?_drop,List.getElem?_append,List.length_append,List.length_take,List.length_drop]
 by_cases h1:j<k
 ·by_cases h2 : j < o
  ·rw [if_pos h1,if_pos (by omega),if_pos (by omega),if_pos (by omega),if_pos (by omega),if_pos (by omega),if_pos h2,if_pos h1]
  ·by_cases h3 : j < o + n
   ·rw [if_pos h1, if_pos (by omega), if_neg (by omega), if_pos (by omega), if_neg (by omega)]
    congr 1; omega
   ·rw [if_pos h1, if_neg (by omega), if_neg (by omega), if_pos (by omega)]
    congr 1; omega
 ·rw [if_neg h1]
  split
  ·omega
  ·split
   ·omega
   ·rfl
theorem After.box (R:HRel B h loc w) {id:Nat} {asq p m q new:List Atom} (hh:h id=some (.box asq)) {L:Loc} (hL:loc id=some L) {off n:Nat} {c:Array Value} {e:TypeId} {cs:List Value}
  (hc:w.heap[L.blk]? = some (.cells c e (0,0))) (hcs:c.size=L.size) (hle:L.off+cs.length≤L.size) (htk:(c.toList.drop L.off).take cs.length=cs) (hA:AtomsR (viewOf B w h loc) asq cs)
  (h1:cutCells asq off=some (p,m++q)) (hm:(m.map Atom.size).sum=n) {new':List Value} (hnl:new'.length=n)
  (hnew:∀ V:View,(viewOf B w h loc).Le V→(∀ b c,V.mf b c→V.m b c)→AtomsR V new new')
  (ht:Turns (.box asq) (.box (p++new++q))):
  L.off+off+n≤c.size∧
  After B h loc w .any [(id,.box (p++new++q))] undef (w.setRow L.blk (c.toList.take (L.off+off)++new'++c.toList.drop (L.off+off+n)).toArray):=by
 obtain⟨k1,k2,k3,_⟩:=cut_R h1 hA
 obtain⟨d1,d2,e1,e2,e3⟩:=k2.split
 have hd1:d1.length=n:=by rw [e2.length,hm]
 have hfit:off+n≤cs.length:=by
  have:=congrArg List.length e1
  rw [List.length_drop,List.length_append,hd1] at this
  omega
 have hd2:d2=cs.drop (off+n):=by
  have:=congrArg (List.drop n) e1
  rw [List.drop_drop] at this
  rw [this,←hd1,List.drop_left]
 refine⟨by omega,After.set R hh rfl ht rfl _ rfl rfl rfl (by simp) (fun b hb=>setRow_other _ _ _ _ fun e=>hb ⟨_,L,hh,rfl,hL,e.symm⟩) fun V hV hsub hl hv=>⟨?_,trivial⟩⟩
 have hcl:c.toList.length=c.size:=Array.length_toList
 have sp:=splice_take c.toList off n new' L.off cs.length hnl (by omega) hfit (by omega)
 rw [htk] at sp
 have hlen:(cs.take off++new'++cs.drop (off+n)).length=cs.length:=by simp only [List.length_append,List.length_take,List.length_drop]; omega
 refine⟨L,_,e,cs.take off++new'++cs.drop (off+n),hl.trans hL,setRow_heap _ _ c _ e _ hc,?_,by rw [hlen]; exact hle,by rw [hlen]; exact sp,?_⟩
 ·rw [←hcs]; simp only [List.size_toArray,List.length_append,List.length_take,List.length_drop]; omega
 ·exact((k1.mono hV).append (hnew V hV hsub)).append (hd2 ▸ e3.mono hV)
end
end Go.Proofs.Ytijjhpmladkjdaa.E
end
section
namespace Go.Proofs.Ytijjhpmladkjdaa.E
open Go Go.RowKit
theorem piece_same {α:Type} (c new:List α) (o:Nat) (ho:o≤c.length) (post:List α):((c.take o++new++post).drop o).take new.length=new:=by
 have:(c.take o).length=o:=by rw [List.length_take]; omega
 rw [List.append_assoc,List.drop_append,List.drop_of_length_le (by omega),List.nil_append,this,Nat.sub_self,List.drop_zero,List.take_left]
theorem piece_other {α:Type} (c new:List α) (o a s:Nat) (ho:o+new.length≤c.length) (hd:a+s≤o∨o+new.length≤a):
  ((c.take o++new++c.drop (o+new.length)).drop a).take s=(c.drop a).take s:=by
 apply List.ext_getElem?
 intro j
 simp only [List.getElem?_take,List.getElem?_drop,List.getElem?_append,List.length_append,List.length_take]
 by_cases h1:j<s
 ·rw [if_pos h1, if_pos h1]
  rcases hd with hd | hd
  ·rw [if_pos (by omega),if_pos (by omega),if_pos (by omega)]
  ·rw [if_neg (by omega)]; congr 1; omega
 ·rw [if_neg h1,if_neg h1]
theorem splice_in {α:Type} (c u:List α) (o m i s:Nat) (hu:u.length=s) (hi:i+s≤m) (ho:o+m≤c.length):
  c.take o++(((c.drop o).take m).take i++u++((c.drop o).take m).drop (i+s))++c.drop (o+m)=c.take (o+i)++u++c.drop (o+i+s):=by
 apply List.ext_getElem?
 intro j
 simp only [List.getElem?_take,List.getElem?_drop,List.getElem?_append,List.length_append,List.length_take,List.length_drop]
 by_cases h1:j<o
 ·rw [if_pos (by omega),if_pos (by omega),if_pos (by omega),if_pos (by omega),if_pos (by omega),if_pos (by omega)]
 ·by_cases h2 : j < o + i
  ·rw [if_pos (by omega), if_neg (by omega), if_pos (by omega), if_pos (by omega), if_pos (by omega), if_pos (by omega), if_pos (by omega), if_pos (by omega), if_pos (by omega)]
   congr 1; omega
  ·by_cases h3 : j < o + i + s
   ·rw [if_pos (by omega), if_neg (by omega), if_pos (by omega), if_neg (by omega), if_pos (by omega), if_neg (by omega)]
    congr 1; omega
   ·by_cases h4 : j < o + m
    ·rw [if_pos (by omega), if_neg (by omega), if_neg (by omega), if_pos (by omega), if_neg (by omega)]
     congr 1; omega
    ·rw [if_neg (by omega), if_neg (by omega)]
     congr 1; omega
section
variable {P:Program} {B:Base} {h g:Nat→Option Obj'} {loc:Nat→Option Loc} {w:World}
def TD.cells:TD→Nat
 | .st fs => (tys fs).size | .ar n e => n * e.size | _ => 1
theorem TOk.size1 {t:TypeId} {d:TD} (hT:TOk P t d):∃ i,P.info? t=some i∧i.size=d.cells:=by
 cases d with
 | sc ty => obtain ⟨i, z, i1, i2, _⟩ := hT.1.info; exact ⟨i, i1, i2.trans (by have := hT.2.1; cases ty <;> first | rfl | cases this)⟩
 | sl e b => obtain ⟨i, z, i1, i2, _⟩ := hT.1.info; exact ⟨i, i1, i2⟩
 | st fs => obtain ⟨i, z, i1, i2, _⟩ := hT.1.info; exact ⟨i, i1, i2⟩
 | ar n e => obtain ⟨i, z, i1, i2, _⟩ := hT.1.info; exact ⟨i, i1, i2⟩
 | pa => obtain ⟨⟨i, d, i1, i2, _⟩, _⟩ := hT; exact ⟨i, i1, i2⟩
 | cell => obtain ⟨i, d, i1, i2, _⟩ := hT; exact ⟨i, i1, i2⟩
 | vw => obtain ⟨i, d, i1, i2, _⟩ := hT; exact ⟨i, i1, i2⟩
theorem TOk.size2 {t:TypeId} {d:TD} {u:Ty} (hT:TOk P t d) (hu:d.ty=some u):∃ i,P.info? t=some i∧i.size=u.size:=by
 obtain⟨i,_,i1,i2,_⟩:=(hT.iok hu).info; exact⟨i,i1,i2⟩
theorem ObjR.mkBuf {V:View} {id:Nat} {t:Ty} {fr:Bool} {l:List t.den} {L:Loc} (hL:V.loc id=some L)
  (k:∃ c e,w.heap[L.blk]? = some (.cells c e (0,0))∧c.size=L.size∧L.off+l.length*t.size≤L.size∧
    ∀ i x,nth l i=some x→Has (V.mem fr) t x ((c.toList.drop (L.off+i*t.size)).take t.size)):ObjR V w id (.buf t fr l):=by
 simp only [ObjR,hL]; exact k
theorem ObjR.mkNone {V:View} {id:Nat} {t:Ty} {fr:Bool} (hL:V.loc id=none):ObjR V w id (.buf t fr []):=by
 simp only [ObjR,hL]
theorem Turns.buf {t:Ty} {fr fr':Bool} {l l':List t.den} (k:l.length=l'.length):Turns (.buf t fr l) (.buf t fr' l'):=⟨rfl,k⟩
def Stores (P:Program) (B:Base) (w:World) (h:Nat→Option Obj') (loc:Nat→Option Loc) (t:TypeId) (cs:List Value) (u:Value) (hs:Hp):Prop:=
 ∃ b o w',IsPtr cs b o∧(storeVar t ⟨b,o,none⟩ u).run P w = .ok () w'∧After B h loc w .any hs undef w'
theorem nth_set_eq {t:Ty} {l:List t.den} {i j:Nat} {x y:t.den} (k:nth (l.set i x) j=some y):(j=i∧y=x)∨(j≠i∧nth l j=some y):=by
 simp only [nth,List.getElem?_set] at k
 by_cases e:i=j
 ·rw [if_pos e] at k
  split at k
  ·exact .inl ⟨e.symm,(Option.some.inj k).symm⟩
  ·cases k
 ·rw [if_neg e] at k; exact .inr ⟨fun e'=>e e'.symm,k⟩
theorem cutCells_append:∀ {asq:List Atom} {n:Nat} {p q:List Atom},cutCells asq n=some (p,q)→asq=p++q
 | [], 0, _, _, hc => by simp [cutCells] at hc; obtain ⟨rfl, rfl⟩ := hc; rfl
 | [], _ + 1, _, _, hc => by simp [cutCells] at hc
 | a :: asq, 0, _, _, hc => by simp [cutCells] at hc; obtain ⟨rfl, rfl⟩ := hc; rfl
 | a :: asq, n + 1, p, q, hc => by
  simp only [cutCells] at hc
  split at hc
  ·split at hc
   ·rename_i p' q' hr
    simp only [Option.some.injEq,Prod.mk.injEq] at hc
    obtain⟨rfl,rfl⟩:=hc
    rw [cutCells_append hr]; rfl
   ·cases hc
  ·cases hc
theorem cutCells_sum:∀ {asq:List Atom} {n:Nat} {p q:List Atom},cutCells asq n=some (p,q)→(p.map Atom.size).sum=n
 | [], 0, _, _, hc => by simp [cutCells] at hc; obtain ⟨rfl, rfl⟩ := hc; rfl
 | [], _ + 1, _, _, hc => by simp [cutCells] at hc
 | a :: asq, 0, _, _, hc => by simp [cutCells] at hc; obtain ⟨rfl, rfl⟩ := hc; rfl
 | a :: asq, n + 1, p, q, hc => by
  simp only [cutCells] at hc
  split at hc
  ·rename_i hle
   have hle':a.size≤n+1:=Nat.le_of_ble_eq_true hle
   split at hc
   ·rename_i p' q' hr
    simp only [Option.some.injEq,Prod.mk.injEq] at hc
    obtain⟨rfl,rfl⟩:=hc
    simp only [List.map_cons,List.sum_cons,cutCells_sum hr]; omega
   ·cases hc
  ·cases hc
theorem sameForm_cut : ∀ {asq bs : List Atom} {off : Nat} {pp qq : List Atom} {n : Nat} {t : Ty} {fr : Bool} {l : List t.den}, sameForm asq bs = true → cutCells asq off = some (pp, .arr n t fr l :: qq) →
  ∃ p' fr' l' q',cutCells bs off=some (p',.arr n t fr' l'::q')
 | [], bs, off, _, _, _, _, _, _, _, hc => by cases off <;> simp [cutCells] at hc
 | a :: asq, [], _, _, _, _, _, _, _, hs, _ => by cases a <;> simp [sameForm] at hs
 | a :: asq, b :: bs, off, pp, qq, n, t, fr, l, hs, hc => by
  have key:sameForm asq bs=true∧a.size=b.size∧(∀ n t fr l,a = .arr n t fr l→∃ fr' l',b = .arr n t fr' l'):=by
   cases a <;> cases b <;> simp only [sameForm, Bool.false_eq_true, Bool.and_eq_true] at hs <;>
    first
     | exact ⟨hs, rfl, by simp⟩
     | (obtain ⟨h1, h2⟩ := hs
        split at h1
        ·rename_i hn ht _ _
         obtain rfl:=hn.down
         obtain rfl:=ht.down
         refine⟨h2,rfl,fun n t fr l e=>?_⟩
         simp only [Atom.arr.injEq] at e
         obtain⟨rfl,rfl,_,_⟩:=e
         exact⟨_,_,rfl⟩
        ·cases h1)
     | exact hs.elim
     | cases hs
  obtain⟨k1,k2,k3⟩:=key
  cases off with
  | zero =>
   simp only [cutCells,Option.some.injEq,Prod.mk.injEq,List.cons.injEq] at hc ⊢
   obtain⟨rfl,rfl,rfl⟩:=hc
   obtain⟨fr',l',rfl⟩:=k3 _ _ _ _ rfl
   exact⟨[],fr',l',bs,rfl,rfl,rfl⟩
  | succ off =>
   simp only [cutCells,k2] at hc ⊢
   split at hc
   ·split at hc
    ·rename_i hle _ p' q' hr
     simp only [Option.some.injEq,Prod.mk.injEq] at hc
     obtain⟨rfl,rfl⟩:=hc
     obtain⟨p2,fr',l',q2,hr2⟩:=sameForm_cut k1 hr
     exact⟨b::p2,fr',l',q2,by simp only [hr2]⟩
    ·cases hc
   ·cases hc
theorem sameForm_self (a b:List Atom) (n:Nat) (t:Ty) (f1 f2:Bool) (l1 l2:List t.den):sameForm (a ++ .arr n t f1 l1::b) (a ++ .arr n t f2 l2::b)=true:=by
 have nat:∀ n,∃ k,natEq n n=some k:=fun n=>⟨⟨rfl⟩,by simp [natEq]⟩
 have kind:∀ k,∃ x,kindEq k k=some x:=fun k=>by cases k <;> exact⟨_,rfl⟩
 have ty:∀ t:Ty,∃ k,Ty.eq? t t=some k:=fun t=>by
  induction t with
  | int k => obtain ⟨x, hx⟩ := kind k; exact ⟨⟨rfl⟩, by simp only [Ty.eq?, hx]⟩
  | bool => exact ⟨_, rfl⟩
  | str => exact ⟨_, rfl⟩
  | unit => exact ⟨_, rfl⟩
  | sl t ih => obtain ⟨x, hx⟩ := ih; exact ⟨⟨rfl⟩, by simp only [Ty.eq?, hx]⟩
  | pair a b ih1 ih2 => obtain ⟨x, hx⟩ := ih1; obtain ⟨y, hy⟩ := ih2; exact ⟨⟨rfl⟩, by simp only [Ty.eq?, hx, hy]⟩
  | arr n t ih => obtain ⟨x, hx⟩ := ih; obtain ⟨y, hy⟩ := nat n; exact ⟨⟨rfl⟩, by simp only [Ty.eq?, hx, hy]⟩
 have arr:∀ (n:Nat) (t:Ty) (f1 f2:Bool) (l1 l2:List t.den) (asq bs:List Atom),sameForm asq bs=true→sameForm (.arr n t f1 l1::asq) (.arr n t f2 l2::bs)=true:=by
  intro n t f1 f2 l1 l2 asq bs hh
  obtain⟨x,hx⟩:=nat n
  obtain⟨y,hy⟩:=ty t
  simp only [sameForm,hx,hy,hh,Bool.and_self]
 have refl:∀ asq:List Atom,sameForm asq asq=true:=fun asq=>by
  induction asq with
  | nil => rfl
  | cons a asq ih => cases a <;> first | exact arr _ _ _ _ _ _ _ _ ih | exact ih
 induction a with
 | nil => exact arr _ _ _ _ _ _ _ _ (refl b)
 | cons a asq ih => cases a <;> first | exact arr _ _ _ _ _ _ _ _ ih | exact ih
theorem Has.sc {m m':Mem} {t:Ty} (hs:ptTy t=true) {x:t.den} {cs:List Value} (k:Has m t x cs):Has m' t x cs:=by
 cases t with
 | arr n e =>
  cases e with
  | int k0 => obtain ⟨k1, k2, k3⟩ := k; exact ⟨k1, k2, fun i y hy => k3 i y hy⟩
  | _ => cases hs
 | _ => first | exact k | cases hs
theorem setPart_R {m m':Mem}:∀ {t:Ty} {x:t.den} {off:Nat} {u:Ty} {y:u.den} {x':t.den} {cs cu:List Value},setPart t x off u y=some x'→Has m t x cs→Has m' u y cu→
  off+u.size≤t.size∧Has m t x' (cs.take off++cu++cs.drop (off+u.size)):=by
 intro t
 have sc:∀ (t:Ty) (x:t.den) (off:Nat) (u:Ty) (y:u.den) (x':t.den) (cs cu:List Value),(match off with | 0=>(match ptTy t,Ty.eq? u t with | true,some ⟨h⟩=>some (h ▸ y) | _,_=>none) | _=>none)=some x'→Has m t x cs→Has m' u y cu→
   off+u.size≤t.size∧Has m t x' (cs.take off++cu++cs.drop (off+u.size)):=by
  intro t x off u y x' cs cu h hx hy
  split at h
  ·split at h
   ·rename_i e hs _
    subst e
    obtain rfl:=Option.some.inj h
    have hl:=hx.length
    rw [List.take_zero,List.nil_append,List.drop_of_length_le (by omega),List.append_nil]
    exact⟨by omega,hy.sc hs⟩
   ·cases h
  ·cases h
 induction t with
 | pair a b iha ihb =>
  intro x off u y x' cs cu h hx hy
  obtain⟨c1,c2,rfl,h1,h2⟩:=hx
  have l1:=h1.length
  have l2:=h2.length
  have lu:=hy.length
  simp only [setPart] at h
  have hsz:(Ty.pair a b).size=a.size+b.size:=rfl
  split at h
  ·rename_i hb
   split at h
   ·rename_i z hz
    obtain rfl:=Option.some.inj h
    obtain⟨k1,k2⟩:=iha hz h1 hy
    refine⟨by omega,_,c2,?_,k2,h2⟩
    rw [List.take_append_of_le_length (by omega),List.drop_append_of_le_length (by omega)]
    simp [List.append_assoc]
   ·cases h
  ·rename_i hb
   have hb:a.size≤off:=by
    rcases Nat.lt_or_ge off a.size with h3 | h3
    ·rw [show Nat.blt off a.size=true from by simp only [Nat.blt]; exact Nat.ble_eq_true_of_le h3] at hb; cases hb
    ·exact h3
   split at h
   ·rename_i z hz
    obtain rfl:=Option.some.inj h
    obtain⟨k1,k2⟩:=ihb hz h2 hy
    refine⟨by omega,c1,_,?_,h1,k2⟩
    rw [List.take_append,List.drop_append,List.take_of_length_le (by omega),List.drop_of_length_le (by omega),l1,show off+u.size-a.size=off-a.size+u.size by omega]
    simp [List.append_assoc]
   ·cases h
 | int k => intro x off u y x' cs cu h; exact sc _ x off u y x' cs cu (by cases off <;> exact h)
 | bool => intro x off u y x' cs cu h; exact sc _ x off u y x' cs cu (by cases off <;> exact h)
 | str => intro x off u y x' cs cu h; exact sc _ x off u y x' cs cu (by cases off <;> exact h)
 | unit => intro x off u y x' cs cu h; exact sc _ x off u y x' cs cu (by cases off <;> exact h)
 | sl t _ => intro x off u y x' cs cu h; exact sc _ x off u y x' cs cu (by cases off <;> exact h)
 | arr n t _ => intro x off u y x' cs cu h; exact sc _ x off u y x' cs cu (by cases off <;> exact h)
theorem storeAt_R (R : HRel B h loc w) (hg : ∀ id o, g id = some o → h id = some o) {t : TypeId} {d : TD} (hT : TOk P t d) {p : Atom} {cs : List Value} (hp : AtomR (viewOf B w h loc) p cs)
  {v:V1} {u:Value} (hv:V1R (viewOf B w h loc) v u) {c:Bool} {r:AVal} {hs:Hp} (hl:storeAt g d v p = .ok c r hs):c=true∧r = .any∧Stores P B w h loc t cs u hs:=by
 cases p with
 | ptr id i off =>
  simp only [storeAt] at hl
  split at hl
  ·rename_i t' fr l hgi
   have hh:=hg _ _ hgi
   split at hl
   ·rename_i x ty hx hty
    split at hl
    ·rename_i hids ht
     obtain rfl:=eq?_spec ht
     simp only [Out.ok.injEq] at hl
     obtain⟨rfl,rfl,rfl⟩:=hl
     obtain⟨hi,L,hL,e⟩:=hp.ptr_buf hh
     obtain⟨cc,el,hc,hsz,hfit,hx'⟩:=(R.objs id _ hh).buf hL
     obtain⟨ti,ti1,ti2⟩:=hT.size2 hty
     have hun:=fun(V:View) (S:Sees B w h loc [] V)=>asV_R R hg hv hx (V':=V) (by rw [hids]; exact S.toSeesM)
     have hul:=(hun _ Sees.self).length
     have hpos:L.off+(i*t'.size+0)+t'.size≤cc.size:=by
      have:(i+1)*t'.size≤l.length*t'.size:=Nat.mul_le_mul_right _ hi
      rw [Nat.add_mul] at this; omega
     refine⟨rfl,rfl,_,_,_,e,run_storeVar_at ti1 ti2 hc hul hv.one_cells hpos,?_⟩
     refine After.set R hh rfl (Turns.buf (by simp)) rfl _ rfl rfl rfl (by simp) (fun b hb=>setRow_other _ _ _ _ fun e=>hb ⟨_,L,hh,rfl,hL,e.symm⟩) fun V hV hsub hlV _=>⟨?_,trivial⟩
     have S:Sees B w h loc [] V:=Sees.mk' hV hsub (by simp)
     refine ObjR.mkBuf (hlV.trans hL) ?_
     have hcl:cc.toList.length=cc.size:=Array.length_toList
     have hlist:∀ (A:List Value),A.toArray.toList=A:=fun _=>rfl
     refine⟨_,el,setRow_heap _ _ cc _ el _ hc,?_,by simpa using hfit,fun j y hy=>?_⟩
     ·rw [←hsz]; simp only [List.size_toArray,List.length_append,List.length_take,List.length_drop]; omega
     ·rw [hlist]
      rcases nth_set_eq hy with ⟨rfl,rfl⟩ | ⟨hne,hy⟩
      ·have := piece_same cc.toList u.cells.toList (L.off + (j * t'.size + 0)) (by omega) (cc.toList.drop (L.off + (j * t'.size + 0) + t'.size))
       rw [hul,Nat.add_zero] at this
       rw [Nat.add_zero,this]
       exact S.and' _ _ (hun V S)
      ·have hk := (hx' j y hy).mono (hV.mem fr)
       have:=piece_other cc.toList u.cells.toList (L.off+(i*t'.size+0)) (L.off+j*t'.size) t'.size (by omega) (by
        rw [hul]
        rcases Nat.lt_or_gt_of_ne hne with h1 | h1
        ·left
         have:(j+1)*t'.size≤i*t'.size:=Nat.mul_le_mul_right _ h1
         rw [Nat.add_mul] at this; omega
        ·right
         have:(i+1)*t'.size≤j*t'.size:=Nat.mul_le_mul_right _ h1
         rw [Nat.add_mul] at this; omega)
       rw [hul] at this
       rw [this]
       exact S.and _ _ hk
    ·cases hl
   ·rename_i off _ _ _ ty hty hnot
    split at hl
    ·rename_i x hsc hx
     split at hl
     ·rename_i y hset
      simp only [Out.ok.injEq] at hl
      obtain⟨rfl,rfl,rfl⟩:=hl
      obtain⟨hi,L,hL,e⟩:=hp.ptr_buf hh
      obtain⟨cc,el,hc,hsz,hfit,hx'⟩:=(R.objs id _ hh).buf hL
      obtain⟨ti,ti1,ti2⟩:=hT.size2 hty
      have hids : x.ids = [] := by
       cases ty <;> first | (cases hsc; done) | skip
       all_goals
        simp only [asV] at hx
        split at hx
        ·rename_i hh0
         obtain rfl:=Option.some.inj hx
         cases hv0:v.atoms with
         | nil => rw [hv0] at hh0; simp [asTy] at hh0
         | cons a asq =>
          rw [hv0] at hh0
          simp only [asTy] at hh0
          split at hh0
          ·rename_i z hz
           obtain⟨rfl,_⟩:=Prod.mk.inj (Option.some.inj hh0)
           cases a <;> simp only [asAtom] at hz <;> first | (cases hz; done) | (obtain rfl:=Option.some.inj hz; rfl) | skip
           all_goals
            split at hz
            ·obtain rfl:=Option.some.inj hz; rfl
            ·cases hz
          ·cases hh0
        ·cases hx
      have hun:=fun(V:View) (S:Sees B w h loc [] V)=>asV_R R hg hv hx (V':=V) (by rw [hids]; exact S.toSeesM)
      have hul:=(hun _ Sees.self).length
      have hrow:=hx' i (l.getD i t'.dflt) (getD_of_lt hi)
      obtain⟨ks,kh⟩:=setPart_R hset hrow (hun _ Sees.self)
      have hpos0:L.off+i*t'.size+t'.size≤cc.size:=by
       have:(i+1)*t'.size≤l.length*t'.size:=Nat.mul_le_mul_right _ hi
       rw [Nat.add_mul] at this; omega
      have hpos:L.off+(i*t'.size+off)+ty.size≤cc.size:=by omega
      refine⟨rfl,rfl,_,_,_,e,run_storeVar_at ti1 ti2 hc hul hv.one_cells hpos,?_⟩
      refine After.set R hh rfl (Turns.buf (by simp)) rfl _ rfl rfl rfl (by simp) (fun b hb=>setRow_other _ _ _ _ fun e=>hb ⟨_,L,hh,rfl,hL,e.symm⟩) fun V hV hsub hlV _=>⟨?_,trivial⟩
      refine ObjR.mkBuf (hlV.trans hL) ?_
      have hcl:cc.toList.length=cc.size:=Array.length_toList
      have hlist:∀ (A:List Value),A.toArray.toList=A:=fun _=>rfl
      refine⟨_,el,setRow_heap _ _ cc _ el _ hc,?_,by simpa using hfit,fun j y hy=>?_⟩
      ·rw [←hsz]; simp only [List.size_toArray,List.length_append,List.length_take,List.length_drop]; omega
      ·rw [hlist]
       rcases nth_set_eq hy with ⟨rfl,rfl⟩ | ⟨hne,hy⟩
       ·have := splice_take cc.toList off ty.size u.cells.toList (L.off + j * t'.size) t'.size hul (by omega) ks (by omega)
        rw [show L.off+(j*t'.size+off)=L.off+j*t'.size+off by omega,this]
        exact kh.mono (hV.mem fr)
       ·have hk := (hx' j y hy).mono (hV.mem fr)
        have:=piece_other cc.toList u.cells.toList (L.off+(i*t'.size+off)) (L.off+j*t'.size) t'.size (by omega) (by
         rw [hul]
         rcases Nat.lt_or_gt_of_ne hne with h1 | h1
         ·left
          have:(j+1)*t'.size≤i*t'.size:=Nat.mul_le_mul_right _ h1
          rw [Nat.add_mul] at this; omega
         ·right
          have:(i+1)*t'.size≤j*t'.size:=Nat.mul_le_mul_right _ h1
          rw [Nat.add_mul] at this; omega)
        rw [hul] at this
        rw [this]
        exact hk
     ·cases hl
    ·cases hl
   ·cases hl
  ·rename_i asq hgi
   have hh:=hg _ _ hgi
   split at hl
   ·rename_i m hm
    split at hl
    ·rename_i as' hsp
     split at hl
     ·rename_i hform
      simp only [Out.ok.injEq] at hl
      obtain⟨rfl,rfl,rfl⟩:=hl
      obtain⟨L,hL,e⟩:=hp.ptr_box hh
      obtain⟨cc,el,ds,hc,hsz,hle,hd,hA⟩:=(R.objs id _ hh).box hL
      obtain⟨ti,ti1,ti2⟩:=hT.size1
      obtain⟨_,_,_,hma⟩:=cut_R hm hv.cells
      have hul:u.cells.toList.length=d.cells:=by
       have:=cutCells_sum hm
       rw [List.append_nil] at hma
       rw [hv.cells.length,hma,this]; cases d <;> rfl
      simp only [splice] at hsp
      split at hsp
      ·rename_i p' rest h1
       split at hsp
       ·rename_i m' q' h2
        obtain rfl:=Option.some.inj hsp
        have hr:=cutCells_append h2
        have ha:=cutCells_append h1
        subst hr
        have hn:(m'.map Atom.size).sum=d.cells:=by rw [cutCells_sum h2]; cases d <;> rfl
        have key:=After.box R hh hL hc hsz hle hd hA h1 hn hul (fun V hV _=>hv.cells.mono hV) (fun off pp n t fr l qq k=>sameForm_cut hform k)
        refine⟨rfl,rfl,_,_,_,e,run_storeVar_at ti1 ti2 hc hul hv.one_cells key.1,key.2⟩
       ·cases hsp
      ·cases hsp
     ·cases hl
    ·cases hl
   ·cases hl
  ·cases hl
 | pel id off i =>
  simp only [storeAt] at hl
  split at hl
  ·rename_i asq hgi
   have hh:=hg _ _ hgi
   split at hl
   ·rename_i p' n t' fr l q hcut
    split at hl
    ·rename_i x ty hx hty
     split at hl
     ·rename_i hids ht
      obtain rfl:=eq?_spec ht
      simp only [Out.ok.injEq] at hl
      obtain⟨rfl,rfl,rfl⟩:=hl
      obtain⟨L,p1,n1,t1,fr1,l1,q1,hL,hcut1,hi,e⟩:=hp.pel_box hh
      rw [hcut1] at hcut
      simp only [Option.some.injEq,Prod.mk.injEq,List.cons.injEq,Atom.arr.injEq] at hcut
      obtain⟨rfl,⟨rfl,rfl,rfl,hll⟩,rfl⟩:=hcut
      have hll:=eq_of_heq hll
      subst hll
      obtain⟨cc,el,ds,hc,hsz,hle,hd,hA⟩:=(R.objs id _ hh).box hL
      obtain⟨ti,ti1,ti2⟩:=hT.size2 hty
      have hun:=fun(V:View) (S:Sees B w h loc [] V)=>asV_R R hg hv hx (V':=V) (by rw [hids]; exact S.toSeesM)
      have hul:=(hun _ Sees.self).length
      obtain⟨_,⟨c1,c2,e1,e2,e3,_⟩,k3,_⟩:=cut_R hcut1 hA
      have e2':c1.length=n1*t1.size:=e2
      have hsz1:c1=(ds.drop off).take (n1*t1.size):=by rw [e1,List.take_left' e2']
      obtain⟨q1',q2',q3'⟩:=e3
      have his:i*t1.size+t1.size≤n1*t1.size:=by
       have:(i+1)*t1.size≤n1*t1.size:=Nat.mul_le_mul_right _ hi
       rw [Nat.add_mul] at this; omega
      have hlen1:off+n1*t1.size≤ds.length:=by
       have:=congrArg List.length e1
       rw [List.length_drop,List.length_append,e2'] at this
       rcases Nat.eq_zero_or_pos (n1*t1.size) with hz | hz <;> omega
      have hcl:cc.toList.length=cc.size:=Array.length_toList
      have hc1:c1=(cc.toList.drop (L.off+off)).take (n1*t1.size):=by
       rw [hsz1]
       conv=>lhs; rw [←hd]
       exact take_of_take_drop _ _ _ _ _ (by rw [List.length_take,List.length_drop,hd]; omega)
      have key := After.box R hh hL hc hsz hle hd hA (p := p1) (m := [.arr n1 t1 fr1 l1]) (q := q1) (new := [.arr n1 t1 (fr1 && x.fr) (l1.set i x.x)]) (off := off) (n := n1 * t1.size)
       (new':=c1.take (i*t1.size)++u.cells.toList++c1.drop (i*t1.size+t1.size)) hcut1 (by simp [Atom.size])
       (by simp only [List.length_append,List.length_take,List.length_drop]; omega)
       (fun V hV hsub => by
        have S:Sees B w h loc [] V:=Sees.mk' hV hsub (by simp)
        refine⟨_,[],by rw [List.append_nil],?_,⟨?_,?_,fun j y hy=>?_⟩,rfl⟩
        ·simp only [Atom.size,List.length_append,List.length_take,List.length_drop]; omega
        ·simp only [len,List.length_set]; exact q1'
        ·simp only [List.length_append,List.length_take,List.length_drop]; omega
        ·rcases nth_set_eq hy with ⟨rfl, rfl⟩ | ⟨hne, hy⟩
         ·have := piece_same c1 u.cells.toList (j * t1.size) (by omega) (c1.drop (j * t1.size + t1.size))
          rw [hul] at this
          rw [this]
          exact S.and' _ _ (hun V S)
         ·have hk := (q3' j y hy).mono (hV.mem fr1)
          have:=piece_other c1 u.cells.toList (i*t1.size) (j*t1.size) t1.size (by omega) (by
           rw [hul]
           rcases Nat.lt_or_gt_of_ne hne with h1 | h1
           ·left
            have:(j+1)*t1.size≤i*t1.size:=Nat.mul_le_mul_right _ h1
            rw [Nat.add_mul] at this; omega
           ·right
            have:(i+1)*t1.size≤j*t1.size:=Nat.mul_le_mul_right _ h1
            rw [Nat.add_mul] at this; omega)
          rw [hul] at this
          rw [this]
          exact S.and _ _ hk)
       (fun off2 pp n t fr l qq k => by
        have ha:=cutCells_append hcut1
        have:=sameForm_self p1 q1 n1 t1 fr1 (fr1&&x.fr) l1 (l1.set i x.x)
        rw [List.append_assoc,List.singleton_append]
        rw [ha] at k
        exact sameForm_cut this k)
      have hw:=splice_in cc.toList u.cells.toList (L.off+off) (n1*t1.size) (i*t1.size) t1.size hul his (by omega)
      rw [←hc1] at hw
      rw [hw] at key
      have hpos:L.off+(off+i*t1.size)+t1.size≤cc.size:=by omega
      have hrun:=run_storeVar_at (P:=P) (t:=t) ti1 ti2 hc hul hv.one_cells hpos
      rw [←Nat.add_assoc] at hrun e
      rw [List.append_assoc,List.singleton_append] at key
      exact⟨rfl,rfl,_,_,_,e,hrun,key.2⟩
     ·cases hl
    ·cases hl
   ·cases hl
  ·cases hl
 | _ => cases hl
end
end Go.Proofs.Ytijjhpmladkjdaa.E
end
section
namespace Go.Proofs.Ytijjhpmladkjdaa.E
open Go Go.RowKit
section
variable {P:Program} {B:Base} {h g:Nat→Option Obj'} {loc:Nat→Option Loc} {w:World}
def ReadsRow (P:World) (V:View) (t:Ty) (fr:Bool) (l:List t.den) (u:Value):Prop:=
 ∃ A cap,u = .slice A l.length cap∧l.length≤cap∧(l.length=0∨∃ b o c,A=some ⟨b,o,none⟩∧cellsAt P b c∧
  ∀ i x,nth l i=some x→Has (V.mem fr) t x ((c.toList.drop (o+i*t.size)).take t.size))
theorem asRow_R (R:HRel B h loc w) (hg:∀ id o,g id=some o→h id=some o) {t:Ty} {a:Atom} {x:Got (.sl t)} {u:Value} (ha:AtomR (viewOf B w h loc) a [u])
  (hx:asAtom g (.sl t) a=some x):ReadsRow w (viewOf B w h loc) t x.fr x.x u:=by
 cases a with
 | ro u' fr l =>
  simp only [asAtom] at hx
  split at hx
  ·rename_i hu _
   subst hu
   obtain rfl:=Option.some.inj hx
   obtain⟨A,cap,e,k1,k2⟩:=ha
   refine⟨A,cap,by simpa [len] using e,k1,k2.imp (fun x=>x) fun⟨b,o,c,e,hm,hx⟩=>⟨b,o,c,e,mem_cells hm,hx⟩⟩
  ·cases hx
 | nils => obtain rfl := Option.some.inj hx; exact ⟨none, 0, by simpa [AtomR] using ha, Nat.le_refl _, .inl rfl⟩
 | e0 => obtain rfl := Option.some.inj hx; obtain ⟨A, e⟩ := ha; exact ⟨A, 0, by simpa using e, Nat.le_refl _, .inl rfl⟩
 | own id =>
  simp only [asAtom] at hx
  split at hx
  ·rename_i u' fr l hgi
   split at hx
   ·rename_i hu _
    subst hu
    obtain rfl:=Option.some.inj hx
    have hh:=hg _ _ hgi
    rcases ha.own_buf hh with ⟨_,⟨A,e⟩,rfl⟩ | ⟨L,cap,hL,e,hc,hf⟩
    ·exact⟨A,0,by simpa using e,Nat.le_refl _,.inl rfl⟩
    ·obtain ⟨c, e', k1, k2, k3, k4⟩ := (R.objs id _ hh).buf hL
     exact⟨_,cap,by simpa using e,hc,.inr ⟨L.blk,L.off,c,rfl,⟨e',_,k1⟩,k4⟩⟩
   ·cases hx
  ·cases hx
 | rk u n l =>
  simp only [asAtom] at hx
  split at hx
  ·rename_i hu _
   subst hu
   obtain rfl:=Option.some.inj hx
   obtain⟨⟨A,cap,e,k1,k2⟩,_⟩:=ha
   refine⟨A,cap,by simpa [len] using e,k1,k2.imp (fun x=>x) fun⟨b,o,c,e,hm,hx⟩=>⟨b,o,c,e,mem_cells (fr:=false) hm,hx⟩⟩
  ·cases hx
 | av id off =>
  simp only [asAtom] at hx
  split at hx
  ·rename_i asq hgi
   split at hx
   ·rename_i p n u fr l q hcut
    split at hx
    ·rename_i hu _
     subst hu
     obtain rfl:=Option.some.inj hx
     have hh:=hg _ _ hgi
     obtain⟨L,p1,n1,t1,fr1,l1,q1,hL,hcut1,e⟩:=ha.av_box hh
     rw [hcut1] at hcut
     simp only [Option.some.injEq,Prod.mk.injEq,List.cons.injEq,Atom.arr.injEq] at hcut
     obtain⟨rfl,⟨rfl,rfl,rfl,hll⟩,rfl⟩:=hcut
     have hll:=eq_of_heq hll
     subst hll
     obtain⟨c,e',k1,k2,k3⟩:=box_arr (R.objs id _ hh) hL hcut1
     have k2:List.length (α:=t1.den) l1=n1:=k2
     exact⟨_,n1,by rw [k2]; simpa using e,by rw [k2]; exact Nat.le_refl _,.inr ⟨L.blk,L.off+off,c,rfl,⟨e',_,k1⟩,k3⟩⟩
    ·cases hx
   ·cases hx
  ·cases hx
 | sub id lo hi =>
  simp only [asAtom] at hx
  split at hx
  ·rename_i u' fr l hgi
   split at hx
   ·rename_i hu _
    subst hu
    obtain rfl:=Option.some.inj hx
    have hh:=hg _ _ hgi
    obtain⟨h1,h2,A,cap,e,hc,hd⟩:=ha.sub_buf hh
    have hlen:(cutL l lo hi).length=hi-lo:=by simp only [cutL,List.length_drop,List.length_take]; omega
    refine⟨A,cap,by rw [hlen]; simpa using e,by rw [hlen]; exact hc,?_⟩
    rcases hd with hd | ⟨L,hL,rfl⟩
    ·left; rw [hlen]; omega
    ·right
     obtain⟨c,e',k1,k2,k3,k4⟩:=(R.objs id _ hh).buf hL
     refine⟨L.blk,L.off+lo*u'.size,c,rfl,⟨e',_,k1⟩,fun i y hy=>?_⟩
     have:=k4 _ y (nth_cutL hy)
     rwa [Nat.add_mul,←Nat.add_assoc] at this
   ·cases hx
  ·cases hx
 | _ => cases hx
theorem After.row (R:HRel B h loc w) {nid:Nat} (hn:h nid=none) (hnx:B.nx≤nid) {t:Ty} {fr:Bool} {l:List t.den} (ids:List Nat) (hids:∀ i∈ids,∃ o,h i=some o)
  (c:Array Value) (e:TypeId) (n cap:Nat) (hcap:l.length≤cap) (hsz:cap*t.size≤c.size)
  (hr:∀ V:View,Sees B w h loc ids V→Rows (V.mem fr) t l c.toList):
  After B h loc w (one (.own nid)) ((nid,.buf t fr l)::kill ids) (.slice (some ⟨w.heap.size,0,none⟩) l.length cap) (({ w with drawn:=n }:World).alloc (.cells c e)):=by
 refine After.alloc R hn hnx c e (.buf t fr l) ids n hids fun V S hl hh=>⟨ObjR.mkBuf hl ⟨c,e,heap_alloc_new _ _,rfl,?_,fun i x hx=>?_⟩,one_R rfl ?_ (by simp)⟩
 ·simp only; have:=Nat.mul_le_mul_right t.size hcap; omega
 ·have := hr V S i x hx
  simpa using this
 ·simp only [AtomR, hh, hl]
  exact⟨cap,rfl,hcap,show 0+cap*t.size≤c.size by omega⟩
theorem madeCells_rows {m:Mem} {t:Ty} {z:Array Value} (hz:z.toList=zeroCells t) (n:Nat) (l:Nat) (hl:l≤n):Rows m t (List.replicate l t.dflt) (madeCells z (n*t.size)).toList:=by
 intro i x hx
 have hi:i<l:=by have:=nth_lt hx; simpa using this
 obtain rfl:t.dflt=x:=by simpa [nth,hi] using hx
 have hs:z.size=t.size:=by rw [←zeroCells_length t,←hz]; simp
 have:((madeCells z (n*t.size)).toList.drop (i*t.size)).take t.size=zeroCells t:=by
  rw [←hz]
  apply List.ext_getElem?
  intro j
  rw [List.getElem?_take]
  by_cases hj:j<t.size
  ·rw [if_pos hj, List.getElem?_drop]
   have hlt:i*t.size+j<n*t.size:=by
    have:(i+1)*t.size≤n*t.size:=Nat.mul_le_mul_right _ (by omega)
    rw [Nat.add_mul] at this; omega
   simp only [madeCells,Array.toList_map,Array.toList_range,List.getElem?_map,List.getElem?_range hlt,Option.map_some]
   rw [hs,Nat.mul_comm i,Nat.mul_add_mod,Nat.mod_eq_of_lt hj]
   rw [getElem!_pos z j (by omega)]
   rw [Array.getElem?_toList,Array.getElem?_eq_getElem]
  ·rw [if_neg hj,List.getElem?_eq_none (by rw [hz,zeroCells_length]; omega)]
 rw [this]; exact Has.dflt m t
theorem op_make (R:HRel B h loc w) {nid:Nat} (hn:h nid=none) (hnx:B.nx≤nid) {o:Oper} {ρ:Operand→Value} {t:TypeId} {x y:Operand} (ho:o.op = .makeSlice t x y) {e:Ty} {b:Nat} (hT:TOk P t (.sl e b))
  (hb:b≤1024) {a c:Int} (hx:ρ x = .int .i64 a) (hy:ρ y = .int .i64 c) (h0:0≤a) (h1:a≤c) (h2:c<(most:Int)):
  OpOk P B o ρ w h loc (one (.own nid)) [(nid,.buf e true (List.replicate a.toNat e.dflt))]:=by
 obtain⟨_,te,i,u1,u2,u3,u4⟩:=hT
 obtain⟨i2,z,j1,j2,j3,j4,_⟩:=u2.info
 obtain rfl:i=i2:=Option.some.inj (u3.symm.trans j1)
 simp only [most] at h2
 have hr:=run_make (P:=P) w t te i z u1 u3 j3 .i64 .i64 a c h0 h1 (by
  have:(i.bytes:Int)≤1024:=by rw [u4]; omega
  have h3:(i.bytes:Int)*c≤1024*c:=Int.mul_le_mul_of_nonneg_right this (by omega)
  omega) (by omega)
 rw [j2] at hr
 refine⟨.slice (some ⟨w.heap.size,0,none⟩) a.toNat c.toNat,w.alloc (.cells (madeCells z.cells (c.toNat*e.size)) te),.inl (by simp [execOp,ho,hx,hy,hr]),?_⟩
 have:=After.row R hn hnx (t:=e) (fr:=true) (l:=List.replicate a.toNat e.dflt) [] (by simp) (madeCells z.cells (c.toNat*e.size)) te w.drawn c.toNat (by simp; omega) (by rw [size_madeCells]; exact Nat.le_refl _)
  (fun V _=>madeCells_rows j4 c.toNat a.toNat (by omega))
 rw [List.length_replicate] at this
 exact this
theorem ReadsRow.cells {V:View} {t:Ty} {fr:Bool} {l:List t.den} {u:Value} (k:ReadsRow w V t fr l u):∃ A cap news,u = .slice A l.length cap∧news.length=l.length*t.size∧
  Rows (V.mem fr) t l news∧(l.length=0∨∃ b o,A=some ⟨b,o,none⟩∧Lies w b o news):=by
 obtain⟨A,cap,e,_,hm⟩:=k
 rcases hm with hm | ⟨b,o,c,e2,⟨el,fz,hc⟩,hx⟩
 ·have : l = [] := List.eq_nil_of_length_eq_zero hm
  subst this
  exact⟨A,cap,[],e,by simp,Rows.nil _ _ _,.inl hm⟩
 ·obtain ⟨h1, h2⟩ := rows_of hx
  exact⟨A,cap,_,e,h1,h2,.inr ⟨b,o,e2,Lies.take hc _ _⟩⟩
theorem run_append_zero {t ty e:TypeId} {i:TypeInfo} (ht:P.underlying t=some (.slice e)) (hi:P.info? e=some i) (A A2:Option Addr) (n cap cap2:Nat) (hc:n≤cap):
  (Builtin.append_ #[t,t] ty #[.slice A n cap,.slice A2 0 cap2]).run P w = .ok (.slice A n cap) w:=by
 cases A2 <;> cases A <;> simp [Builtin.append_,run_underlying ht,sizeOf,typeInfo,hi,Builtin.lenOf,hc,Builtin.firstCells,loadCells,loadCellsFrom,storeCells]
theorem piece_len {m:Mem} {t:Ty} {l:List t.den} {cs:List Value} (hs:cs.length=l.length*t.size) (k:Rows m t l cs):∀ u∈cs,u.oneCell'=true:=by
 intro u hu
 obtain⟨j,hj,rfl⟩:=List.getElem_of_mem hu
 have hpos:0<t.size:=by
  rcases Nat.eq_zero_or_pos t.size with hz | hz
  ·rw [hs,hz] at hj; omega
  ·exact hz
 have hi:j / t.size<l.length:=by rw [hs] at hj; exact Nat.div_lt_of_lt_mul (by rw [Nat.mul_comm]; exact hj)
 refine(k _ _ (List.getElem?_eq_getElem hi)).one _ ?_
 rw [List.mem_iff_getElem?]
 refine⟨j%t.size,?_⟩
 have hm:=Nat.mod_lt j hpos
 have hd:=Nat.div_add_mod j t.size
 rw [Nat.mul_comm] at hd
 rw [List.getElem?_take_of_lt hm,List.getElem?_drop,hd,List.getElem?_eq_getElem hj]
theorem append_empty (R:HRel B h loc w) {nid:Nat} (hn:h nid=none) (hnx:B.nx≤nid) {t:TypeId} {ty:TypeId} {e:Ty} {b:Nat} (hT:TOk P t (.sl e b)) (hb:b≤1024) {fr:Bool} {l:List e.den} {u:Value}
  (hu:ReadsRow w (viewOf B w h loc) e fr l u) (hl:l.length<most) (A:Option Addr) (ids:List Nat) (hids:∀ i∈ids,∃ o,h i=some o) {fr':Bool}
  (hw:∀ (V:View) (cs:List Value),Sees B w h loc ids V→Rows ((viewOf B w h loc).mem fr) e l cs→Rows (V.mem fr') e l cs):
  ∃ v w',(Builtin.append_ #[t,t] ty #[.slice A 0 0,u]).run P w = .ok v w'∧After B h loc w (one (.own nid)) ((nid,.buf e fr' l)::kill ids) v w':=by
 obtain⟨_,te,i,u1,u2,u3,u4⟩:=hT
 obtain⟨i2,z,j1,j2,j3,j4,_⟩:=u2.info
 obtain rfl:i=i2:=Option.some.inj (u3.symm.trans j1)
 obtain⟨A2,cap,news,rfl,hnl,hrows,hm⟩:=hu.cells
 simp only [most] at hl
 rcases hm with hm | ⟨b2,o2,rfl,hlies⟩
 ·have : l = [] := List.eq_nil_of_length_eq_zero hm
  subst this
  refine⟨_,_,run_append_zero u1 u3 A A2 0 0 cap (Nat.le_refl _),?_⟩
  refine After.new R hn hnx none w _ ids rfl rfl rfl (Nat.le_refl _) hids (fun _ _ _=>rfl) (by simp) fun V _ _ hl2 hh _=>⟨ObjR.mkNone hl2,one_R rfl ?_ (by simp)⟩
  simp only [AtomR,hh,hl2]; exact⟨⟨A,rfl⟩,trivial⟩
 ·by_cases h0 : l.length = 0
  ·have : l = [] := List.eq_nil_of_length_eq_zero h0
   subst this
   refine⟨_,_,run_append_zero u1 u3 A _ 0 0 cap (Nat.le_refl _),?_⟩
   refine After.new R hn hnx none w _ ids rfl rfl rfl (Nat.le_refl _) hids (fun _ _ _=>rfl) (by simp) fun V _ _ hl2 hh _=>⟨ObjR.mkNone hl2,one_R rfl ?_ (by simp)⟩
   simp only [AtomR,hh,hl2]; exact⟨⟨A,rfl⟩,trivial⟩
  ·have hby : l.length * i.bytes ≤ 1073741824 * 1024 := Nat.mul_le_mul (by omega) (by omega)
   have hge:=grownCap_ge w l.length 0 te
   have fin:∀ (c:Array Value),c.toList=news++(Builtin.zeroCells z.cells (grownCap w l.length 0 te-l.length)).toList→
     After B h loc w (one (.own nid)) ((nid,.buf e fr' l)::kill ids) (.slice (some ⟨w.heap.size,0,none⟩) l.length (grownCap w l.length 0 te)) (({ w with drawn:=w.drawn+1 }:World).alloc (.cells c te)):=by
    intro c hc
    have hzs:z.cells.size=e.size:=by rw [←zeroCells_length e,←j4]; simp
    refine After.row R hn hnx ids hids c te (w.drawn+1) _ hge ?_ fun V S=>?_
    ·rw [← Array.length_toList, hc, List.length_append, hnl, Array.length_toList (xs := Builtin.zeroCells _ _), size_zeroCells, hzs, ← Nat.add_mul]
     exact Nat.mul_le_mul_right _ (by omega)
    ·rw [hc]
     have:=rows_in (hw V _ S hrows) [] (Builtin.zeroCells z.cells (grownCap w l.length 0 te-l.length)).toList
     intro i x hx
     have:=this i x hx
     simpa using this
   cases A with
   | none =>
    have hr:=run_append_nil (P:=P) w t ty te i z u1 u3 j3 ⟨b2,o2,none⟩ l.length cap news (by rw [hnl,j2]) hlies.cell (by omega) (by omega) (by omega)
    exact⟨_,_,hr,fin _ (by simp)⟩
   | some a =>
    have hr:=run_append_grow (P:=P) w t ty te i z u1 u3 j3 a 0 0 [] (by simp) (by simp) ⟨b2,o2,none⟩ l.length cap news (by rw [hnl,j2]) hlies.cell (by omega) (by omega) (growslice_fits (by omega) (by rw [Nat.zero_add]; omega))
    simp only [Nat.zero_add] at hr
    exact⟨_,_,hr,fin _ (by simp)⟩
theorem append_own (R:HRel B h loc w) {nid:Nat} (hn:h nid=none) (hnx:B.nx≤nid) {t:TypeId} {ty:TypeId} {e:Ty} {b:Nat} (hT:TOk P t (.sl e b)) (hb:b≤1024) {fr fr2:Bool} {l l2:List e.den} {u u0:Value}
  (hu:ReadsRow w (viewOf B w h loc) e fr2 l2 u) (hl:(l++l2).length<most) {id:Nat} (hh:h id=some (.buf e fr l)) (hown:AtomR (viewOf B w h loc) (.own id) [u0]):
  ∃ v w',(Builtin.append_ #[t,t] ty #[u0,u]).run P w = .ok v w'∧After B h loc w (one (.own nid)) ((nid,.buf e (fr&&fr2) (l++l2))::kill [id]) v w':=by
 have hids:∀ i∈[id],∃ o,h i=some o:=fun i hi=>by simp at hi; subst hi; exact⟨_,hh⟩
 have hand:∀ (V:View) (l:List e.den) (cs:List Value),Sees B w h loc [id] V→Rows ((viewOf B w h loc).mem fr) e l cs→Rows (V.mem (fr&&fr2)) e l cs:=
  fun V l cs S k i x hx=>S.and _ _ ((k i x hx).mono (S.le.mem fr))
 have hand2:∀ (V:View) (l:List e.den) (cs:List Value),Sees B w h loc [id] V→Rows ((viewOf B w h loc).mem fr2) e l cs→Rows (V.mem (fr&&fr2)) e l cs:=
  fun V l cs S k i x hx=>S.and' _ _ ((k i x hx).mono (S.le.mem fr2))
 rcases hown.own_buf hh with ⟨hL,⟨A,e1⟩,rfl⟩ | ⟨L,cap0,hL,e1,hcap0,hfit0⟩
 ·obtain rfl : u0 = .slice A 0 0 := by simpa using e1
  exact append_empty R hn hnx (ty:=ty) hT hb hu (by simpa using hl) A [id] hids fun V cs S k=>hand2 V _ cs S k
 ·obtain rfl : u0 = .slice (some ⟨L.blk, L.off, none⟩) l.length cap0 := by simpa using e1
  obtain⟨cc,el,hc,hsz,hfit,hx⟩:=(R.objs id _ hh).buf hL
  obtain⟨hol,horows⟩:=rows_of hx
  obtain⟨_,te,i,u1,u2,u3,u4⟩:=hT
  obtain⟨i2,z,j1,j2,j3,j4,_⟩:=u2.info
  obtain rfl:i=i2:=Option.some.inj (u3.symm.trans j1)
  obtain⟨A2,cap,news,rfl,hnl,hrows,hm⟩:=hu.cells
  simp only [most,List.length_append] at hl
  have lives:LivesAt h loc id L.blk:=⟨_,L,hh,rfl,hL,rfl⟩
  have hcl:cc.toList.length=cc.size:=Array.length_toList
  by_cases h0:l2.length=0
  ·have : l2 = [] := List.eq_nil_of_length_eq_zero h0
   subst this
   refine⟨_,_,run_append_zero u1 u3 _ A2 _ cap0 cap hcap0,?_⟩
   rw [List.append_nil]
   refine After.new R hn hnx (some L) w _ [id] rfl rfl rfl (Nat.le_refl _) hids (fun _ _ _=>rfl) (fun L' e=>?_) fun V hV hsub hl2 hh2 _=>⟨ObjR.mkBuf hl2 ⟨cc,el,hc,hsz,hfit,fun i x hx'=>?_⟩,one_R rfl ?_ (by simp)⟩
   ·obtain rfl:=Option.some.inj e; exact⟨(R.blk _ _ lives).1,.inr ⟨id,by simp,lives⟩⟩
   ·have k := (hx i x hx').mono (hV.mem fr)
    revert k
    cases fr <;> cases fr2 <;> intro k <;> first | exact k | exact k.mono hsub
   ·simp only [AtomR,hh2,hl2]; exact⟨cap0,rfl,hcap0,hfit0⟩
  ·rcases hm with hm | ⟨b2, o2, rfl, hlies⟩
   ·exact(h0 hm).elim
   ·by_cases hroom : l.length + l2.length ≤ cap0
    ·have hk : (l.length + l2.length) * e.size ≤ cap0 * e.size := Nat.mul_le_mul_right _ hroom
     rw [Nat.add_mul] at hk
     have hst:=run_storeCells_at P L.blk (L.off+l.length*e.size) el news 0 cc w hc (by omega) (piece_len hnl hrows)
     have hf:=run_firstCells_some (P:=P) w e.size l2.length ⟨b2,o2,none⟩ l2.length cap news hnl hlies.cell
     rw [Nat.add_zero] at hst
     have hr:(Builtin.append_ #[t,t] ty #[.slice (some ⟨L.blk,L.off,none⟩) l.length cap0,.slice (some ⟨b2,o2,none⟩) l2.length cap]).run P w =
       .ok (.slice (some ⟨L.blk,L.off,none⟩) (l.length+l2.length) cap0) (w.setRow L.blk (cc.toList.take (L.off+l.length*e.size)++news++cc.toList.drop (L.off+l.length*e.size+news.length)).toArray):=by
      simp [Builtin.append_,run_underlying u1,sizeOf,typeInfo,u3,j2,Builtin.lenOf,hroom,hf,add_at,hst]
     refine⟨_,_,hr,?_⟩
     have hlist:∀ (A:List Value),A.toArray.toList=A:=fun _=>rfl
     rw [show l.length+l2.length=(l++l2).length by simp]
     refine After.new R hn hnx (some L) _ _ [id] rfl rfl rfl (by simp) hids (fun b _ hb=>setRow_other _ _ _ _ fun e=>hb id (by simp) (e ▸ lives)) (fun L' e=>?_) fun V hV hsub hl2 hh2 _=>
      ⟨ObjR.mkBuf hl2 ⟨_,el,setRow_heap _ _ cc _ el _ hc,?_,?_,fun i x hx'=>?_⟩,one_R rfl ?_ (by simp)⟩
     ·obtain rfl:=Option.some.inj e; exact⟨by have:=(R.blk _ _ lives).1; simpa using this,.inr ⟨id,by simp,lives⟩⟩
     ·rw [←hsz]; simp only [List.size_toArray,List.length_append,List.length_take,List.length_drop]; omega
     ·rw [List.length_append,Nat.add_mul]; omega
     ·rw [hlist]
      have S0:∀ (l:List e.den) (cs:List Value) (f:Bool),Rows ((viewOf B w h loc).mem f) e l cs→Rows (V.mem f) e l cs:=fun l cs f k=>k.mono (hV.mem f)
      have weak1:Rows (V.mem fr) e l ((cc.toList.drop L.off).take (l.length*e.size))→Rows (V.mem (fr&&fr2)) e l ((cc.toList.drop L.off).take (l.length*e.size)):=fun k=>by
       cases fr <;> cases fr2 <;> first | exact k | exact k.mono hsub
      have weak2:Rows (V.mem fr2) e l2 news→Rows (V.mem (fr&&fr2)) e l2 news:=fun k=>by
       cases fr <;> cases fr2 <;> first | exact k | exact k.mono hsub
      have both:=(weak1 (S0 _ _ _ horows)).append (weak2 (S0 _ _ _ hrows)) hol
      have:=rows_in both (cc.toList.take L.off) (cc.toList.drop (L.off+l.length*e.size+news.length)) i x hx'
      have hto:(cc.toList.take L.off).length=L.off:=by rw [List.length_take]; omega
      rw [hto] at this
      have split:cc.toList.take (L.off+l.length*e.size)=cc.toList.take L.off++(cc.toList.drop L.off).take (l.length*e.size):=by rw [List.take_add]
      rw [split,List.append_assoc (cc.toList.take L.off)]
      exact this
     ·simp only [AtomR,hh2,hl2]; exact⟨cap0,rfl,by rw [List.length_append]; exact hroom,hfit0⟩
    ·have hby : (l.length + l2.length) * i.bytes ≤ 1073741824 * 1024 := Nat.mul_le_mul (by omega) (by omega)
     have holds:Lies w L.blk L.off ((cc.toList.drop L.off).take (l.length*e.size)):=Lies.take hc _ _
     have hr:=run_append_grow (P:=P) w t ty te i z u1 u3 j3 ⟨L.blk,L.off,none⟩ l.length cap0 _ (by rw [hol,j2]) holds.cell ⟨b2,o2,none⟩ l2.length cap news (by rw [hnl,j2]) hlies.cell (by omega) (by omega) (growslice_fits (by omega) (by omega))
     have hge:=grownCap_ge w (l.length+l2.length) cap0 te
     refine⟨_,_,hr,?_⟩
     have hzs:z.cells.size=e.size:=by rw [←zeroCells_length e,←j4]; simp
     have:=After.row R hn hnx (t:=e) (fr:=fr&&fr2) (l:=l++l2) [id] hids
      (((cc.toList.drop L.off).take (l.length*e.size)).toArray++news.toArray++Builtin.zeroCells z.cells (grownCap w (l.length+l2.length) cap0 te-(l.length+l2.length))) te (w.drawn+1)
      (grownCap w (l.length + l2.length) cap0 te) (by rw [List.length_append]; exact hge) (by
       simp only [Array.size_append,List.size_toArray,size_zeroCells,hzs,hol,hnl,←Nat.add_mul]
       exact Nat.mul_le_mul_right _ (by omega)) (fun V S=>by
       have both:=(hand V _ _ S horows).append (hand2 V _ _ S hrows) hol
       have:=rows_in both [] (Builtin.zeroCells z.cells (grownCap w (l.length+l2.length) cap0 te-(l.length+l2.length))).toList
       intro i x hx'
       have:=this i x hx'
       simpa using this)
     rw [List.length_append] at this
     exact this
end
end Go.Proofs.Ytijjhpmladkjdaa.E
end
section
namespace Go.Proofs.Ytijjhpmladkjdaa.E
open Go Go.RowKit
section
variable {P:Program} {B:Base} {h g:Nat→Option Obj'} {loc:Nat→Option Loc} {w:World}
def Bound (v:Option Value) (d a:Int):Prop:=match v with | none=>a=d | some u=>∃ k,u = .int k a
theorem run_sliceBounds {ln cap:Nat} {lo hi mx:Option Value} {a b c:Int} (ha:Bound lo 0 a) (hb:Bound hi ln b) (hc:Bound mx cap c) (h0:0≤a) (h1:a≤b) (h2:b≤c) (h3:c≤cap)
  (hm:hi=none→mx=none):(Instr.sliceBounds true ln cap lo hi mx).run P w = .ok (a.toNat,b.toNat,c.toNat) w:=by
 have bd:∀ (u:Value) (x:Int) (y:Nat) (code:BoundsCode),(∃ k,u = .int k x)→0≤x→x≤y→(Instr.sliceBound u y code).run P w = .ok x.toNat w:=by
  rintro u x y code ⟨k,rfl⟩ k0 k1
  simp [Instr.sliceBound,asIntOf,k0,k1]
 have hcn:((c.toNat:Nat):Int)=c:=by omega
 have hbn:((b.toNat:Nat):Int)=b:=by omega
 cases mx with
 | some m =>
  cases hi with
  | none => cases hm rfl
  | some hv =>
   have e1:=bd m c cap .slice3Acap hc (by omega) h3
   have e2:=bd hv b c.toNat .slice3B hb (by omega) (by omega)
   cases lo with
   | none =>
    obtain rfl:a=0:=ha
    simp [Instr.sliceBounds,e1,e2]
   | some lv =>
    have e3:=bd lv a b.toNat .slice3C ha h0 (by omega)
    simp [Instr.sliceBounds,e1,e2,e3]
 | none =>
  obtain rfl:c=cap:=hc
  cases hi with
  | none =>
   obtain rfl:b=ln:=hb
   cases lo with
   | none =>
    obtain rfl:a=0:=ha
    simp [Instr.sliceBounds]
   | some lv =>
    have e3:=bd lv a ln .sliceB ha h0 (by omega)
    simp [Instr.sliceBounds,e3]
  | some hv =>
   have e2:=bd hv b cap .sliceAcap hb (by omega) h2
   cases lo with
   | none =>
    obtain rfl:a=0:=ha
    simp [Instr.sliceBounds,e2]
   | some lv =>
    have e3:=bd lv a b.toNat .sliceB ha h0 (by omega)
    simp [Instr.sliceBounds,e2,e3]
theorem run_sliceAt {t:TypeId} {e:Ty} {b':Nat} (hT:TOk P t (.sl e b')) {A:Option Addr} {ln cap:Nat} {lo hi mx:Option Value} {a b c:Int} (ha:Bound lo 0 a) (hb:Bound hi ln b) (hc:Bound mx cap c)
  (h0:0≤a) (h1:a≤b) (h2:b≤c) (h3:c≤cap) (hm:hi=none→mx=none):
  (Instr.sliceAt t (.slice A ln cap) lo hi mx).run P w = .ok (.slice (if c.toNat = a.toNat then A else A.map (·.add (a.toNat * e.size))) (b.toNat - a.toNat) (c.toNat - a.toNat)) w := by
 obtain⟨_,te,i,u1,u2,_,_⟩:=hT
 obtain⟨i2,z,j1,j2,_⟩:=u2.info
 simp [Instr.sliceAt,Instr.slice,run_underlying u1,run_sliceBounds ha hb hc h0 h1 h2 h3 hm,run_sizeOf' j1,j2]
theorem optInt_R {V:View} {d d':Int} {x:Option Operand} {val:Operand→AVal} {ρ:Operand→Value} (hv:∀ y,x=some y→VR V (val y) (ρ y)) {a:Int} (k:optInt d (x.map val)=some a) (hd:d=d'∨x≠none):Bound (x.map ρ) d' a:=by
 cases x with
 | none =>
  rcases hd with rfl | hd
  ·exact(Option.some.inj k).symm
  ·exact(hd rfl).elim
 | some y =>
  have hv:=hv y rfl
  simp only [Option.map_some,optInt] at k
  split at k
  ·rename_i he; cases he
  ·rename_i kk n he
   obtain rfl:=Option.some.inj k
   have:val y = .v (.one (.int kk n)):=Option.some.inj he
   rw [this] at hv
   exact⟨kk,hv.int⟩
  ·cases k
theorem nth_cut {t:Ty} {l:List t.den} {a b i:Nat} {x:t.den} (k:nth (cut l a b) i=some x):nth l (a+i)=some x:=nth_cutL k
theorem sliceRo_R (R:HRel B h loc w) (_hg:∀ id o,g id=some o→h id=some o) {nid:Nat} {t:TypeId} {e:Ty} {b':Nat} (hT:TOk P t (.sl e b')) {lo hi mx:Option Operand} (hm:hi=none→mx=none)
  {val:Operand→AVal} {ρ:Operand→Value} (hv:∀ y,lo=some y∨hi=some y∨mx=some y→VR (viewOf B w h loc) (val y) (ρ y)) (hz:∀ y,isZero (some y)=true→∃ k,ρ y = .int k 0)
  {t':Ty} {fr:Bool} {l:List t'.den} {u:Value} (hp:AtomR (viewOf B w h loc) (.ro t' fr l) [u]) {c:Bool} {r:AVal} {hs:Hp}
  (hl:sliceAt g nid e (isZero mx&&isZero hi&&lo.isNone) (lo.map val) (hi.map val) (mx.map val) (.ro t' fr l) = .ok c r hs) (hc:c=true):
  ∃ v w',(Instr.sliceAt t u (lo.map ρ) (hi.map ρ) (mx.map ρ)).run P w = .ok v w'∧After B h loc w r hs v w':=by
 have hm':hi.map ρ=none→mx.map ρ=none:=fun k=>by rw [hm (by simpa using k)]; rfl
 simp only [sliceAt] at hl
 split at hl
 ·cases hl
 ·rename_i he hzz
  simp only [Out.ok.injEq] at hl
  obtain⟨rfl,rfl,rfl⟩:=hl
  simp only [Bool.and_eq_true] at hzz
  obtain⟨⟨z1,z2⟩,z3⟩:=hzz
  obtain⟨A,cap,e1,_,_⟩:=hp
  obtain rfl:u = .slice A (len l) cap:=by simpa using e1
  obtain⟨m,rfl⟩:∃ m,mx=some m:=by cases mx with | none=>cases z1 | some m=>exact⟨m,rfl⟩
  obtain⟨hh,rfl⟩:∃ m,hi=some m:=by cases hi with | none=>cases z2 | some m=>exact⟨m,rfl⟩
  obtain rfl:lo=none:=by simpa using z3
  have hr:=run_sliceAt (w:=w) hT (A:=A) (ln:=len l) (cap:=cap) (lo:=none) (hi:=some (ρ hh)) (mx:=some (ρ m)) (a:=0) (b:=0) (c:=0) rfl (hz _ z2) (hz _ z1) (by omega) (by omega) (by omega) (by omega) (by simp)
  exact⟨_,w,hr,After.pure R (one_R rfl ⟨_,rfl⟩ (by simp))⟩
 ·rename_i he hzz
  split at hl
  ·rename_i a b cc ka kb kc
   simp only [Out.ok.injEq] at hl
   obtain⟨rfl,rfl,rfl⟩:=hl
   obtain rfl:=eq?_spec he
   simp only [ile_eq,Bool.and_eq_true,decide_eq_true_eq] at hc
   obtain⟨⟨⟨c0,c1⟩,c2⟩,c3⟩:=hc
   obtain⟨A,cap,e1,hcap,hcont⟩:=hp
   obtain rfl:u = .slice A (len l) cap:=by simpa using e1
   have ba:=optInt_R (V:=viewOf B w h loc) (d':=0) (fun y hy=>hv y (.inl hy)) ka (.inl rfl)
   have bb:=optInt_R (V:=viewOf B w h loc) (d':=(len l:Int)) (fun y hy=>hv y (.inr (.inl hy))) kb (.inl rfl)
   have fin:∀ c':Int,b≤c'→c'≤cap→Bound (mx.map ρ) cap c'→∃ v w',(Instr.sliceAt t (.slice A (len l) cap) (lo.map ρ) (hi.map ρ) (mx.map ρ)).run P w = .ok v w'∧
     After B h loc w (one (.ro t' fr (cut l a.toNat b.toNat))) [] v w':=by
    intro c' k1 k2 bc
    have hr:=run_sliceAt (w:=w) hT (A:=A) ba bb bc c0 c1 k1 k2 hm'
    have hlc:len (cut l a.toNat b.toNat)=b.toNat-a.toNat:=by
     simp only [len,cut,cutL,List.length_drop,List.length_take]
     omega
    refine⟨_,w,hr,After.pure R (one_R rfl ?_ (by simp))⟩
    refine⟨_,c'.toNat-a.toNat,by rw [hlc],by rw [hlc]; omega,?_⟩
    by_cases hab:b.toNat=a.toNat
    ·left; rw [hlc]; omega
    ·rcases hcont with hcont | ⟨b0, o0, cells, rfl, hmem, hx⟩
     ·have hcont' : List.length (α := t'.den) l = 0 := hcont
      omega
     ·right
      refine⟨b0,o0+a.toNat*t'.size,cells,by rw [if_neg (by omega)]; simp [add_at],hmem,fun i x hi'=>?_⟩
      have:=hx _ x (nth_cut hi')
      rwa [Nat.add_mul,←Nat.add_assoc] at this
   have hlen:List.length (α:=t'.den) l≤cap:=hcap
   cases mx with
   | none => exact fin cap (by simp only [optInt, Option.map_none, Option.some.injEq] at kc; omega) (Int.le_refl _) rfl
   | some m => exact fin cc c2 (by omega) (optInt_R (V := viewOf B w h loc) (d' := (cap : Int)) (fun y hy => hv y (.inr (.inr hy))) kc (.inr (by simp)))
  ·cases hl
theorem sliceSub_R (R:HRel B h loc w) (hg:∀ id o,g id=some o→h id=some o) {t:TypeId} {e:Ty} {b':Nat} (hT:TOk P t (.sl e b')) {lo hi mx:Option Operand} (hm:hi=none→mx=none)
  {val:Operand→AVal} {ρ:Operand→Value} (hv:∀ y,lo=some y∨hi=some y∨mx=some y→VR (viewOf B w h loc) (val y) (ρ y))
  {id:Nat} {u:Value} (hp:AtomR (viewOf B w h loc) (.own id) [u]) {t':Ty} {fr:Bool} {l:List t'.den} (hgi:g id=some (.buf t' fr l)) {c:Bool} {r:AVal} {hs:Hp}
  (hl : (match Ty.eq? t' e, optInt 0 (lo.map val), optInt l.length (hi.map val), optInt l.length (mx.map val) with
   | some _, some a, some b, some c => .ok (ile 0 a && ile a b && ile b c && ile c l.length) (one (.sub id a.toNat b.toNat)) []
   | _, _, _, _ => .fail) = Out.ok c r hs) (hc : c = true) :
  ∃ v w',(Instr.sliceAt t u (lo.map ρ) (hi.map ρ) (mx.map ρ)).run P w = .ok v w'∧After B h loc w r hs v w':=by
 have hm':hi.map ρ=none→mx.map ρ=none:=fun k=>by rw [hm (by simpa using k)]; rfl
 have hh:=hg _ _ hgi
 split at hl
 ·rename_i a b cc he ka kb kc
  obtain rfl:=eq?_spec he
  simp only [Out.ok.injEq] at hl
  obtain⟨rfl,rfl,rfl⟩:=hl
  simp only [ile_eq,Bool.and_eq_true,decide_eq_true_eq] at hc
  obtain⟨⟨⟨c0,c1⟩,c2⟩,c3⟩:=hc
  have ba:=optInt_R (V:=viewOf B w h loc) (d':=0) (fun y hy=>hv y (.inl hy)) ka (.inl rfl)
  rcases hp.own_buf hh with ⟨hL,⟨A,e1⟩,rfl⟩ | ⟨L,cap,hL,e1,hcap,hfit⟩
  ·obtain rfl : u = .slice A 0 0 := by simpa using e1
   have bb:=optInt_R (V:=viewOf B w h loc) (d':=((0:Nat):Int)) (fun y hy=>hv y (.inr (.inl hy))) kb (.inl (by simp))
   have bc:=optInt_R (V:=viewOf B w h loc) (d':=((0:Nat):Int)) (fun y hy=>hv y (.inr (.inr hy))) kc (.inl (by simp))
   simp only [List.length_nil] at c3
   have hb0:b=0:=by omega
   have ha0:a=0:=by omega
   have hcc0:cc=0:=by omega
   subst hb0 ha0 hcc0
   have hr:=run_sliceAt (w:=w) hT (A:=A) (ln:=0) (cap:=0) ba bb bc (by omega) (by omega) (by omega) (by omega) hm'
   refine⟨_,w,hr,After.pure R (one_R rfl ?_ (by simp))⟩
   simp only [AtomR,viewOf,hh]
   refine⟨Nat.le_refl _,Nat.le_refl _,_,_,rfl,Nat.le_refl _,?_⟩
   simp
  ·obtain rfl : u = .slice (some ⟨L.blk, L.off, none⟩) l.length cap := by simpa using e1
   have bb:=optInt_R (V:=viewOf B w h loc) (d':=(l.length:Int)) (fun y hy=>hv y (.inr (.inl hy))) kb (.inl rfl)
   have fin:∀ c':Int,b≤c'→c'≤cap→Bound (mx.map ρ) cap c'→∃ v w',(Instr.sliceAt t (.slice (some ⟨L.blk,L.off,none⟩) l.length cap) (lo.map ρ) (hi.map ρ) (mx.map ρ)).run P w = .ok v w'∧
     After B h loc w (one (.sub id a.toNat b.toNat)) [] v w':=by
    intro c' q1 q2 bc
    have hr:=run_sliceAt (w:=w) hT (A:=some ⟨L.blk,L.off,none⟩) ba bb bc c0 c1 q1 q2 hm'
    refine⟨_,w,hr,After.pure R (one_R rfl ?_ (by simp))⟩
    simp only [AtomR,viewOf,hh]
    refine⟨by omega,by omega,_,_,rfl,by omega,?_⟩
    by_cases hab:b.toNat=a.toNat
    ·exact .inl hab
    ·exact .inr ⟨L,hL,by rw [if_neg (by omega)]; simp only [Option.map_some,add_at]⟩
   cases mx with
   | none => exact fin cap (by omega) (Int.le_refl _) rfl
   | some m => exact fin cc c2 (by omega) (optInt_R (V := viewOf B w h loc) (d' := (cap : Int)) (fun y hy => hv y (.inr (.inr hy))) kc (.inr (by simp)))
 ·cases hl
theorem sliceAt_R (R : HRel B h loc w) (hg : ∀ id o, g id = some o → h id = some o) {nid : Nat} (hn : h nid = none) (hnx : B.nx ≤ nid) {t : TypeId} {e : Ty} {b' : Nat} (hT : TOk P t (.sl e b')) {lo hi mx : Option Operand} (hm : hi = none → mx = none)
  {val:Operand→AVal} {ρ:Operand→Value} (hv:∀ y,lo=some y∨hi=some y∨mx=some y→VR (viewOf B w h loc) (val y) (ρ y)) (hz:∀ y,isZero (some y)=true→∃ k,ρ y = .int k 0)
  {p:Atom} {u:Value} (hp:AtomR (viewOf B w h loc) p [u]) {c:Bool} {r:AVal} {hs:Hp}
  (hl:sliceAt g nid e (isZero mx&&isZero hi&&lo.isNone) (lo.map val) (hi.map val) (mx.map val) p = .ok c r hs) (hc:c=true):
  ∃ v w',(Instr.sliceAt t u (lo.map ρ) (hi.map ρ) (mx.map ρ)).run P w = .ok v w'∧After B h loc w r hs v w':=by
 have hm':hi.map ρ=none→mx.map ρ=none:=fun k=>by rw [hm (by simpa using k)]; rfl
 cases p with
 | ro t' fr l => exact sliceRo_R R hg hT hm hv hz hp hl hc
 | own id =>
  simp only [sliceAt] at hl
  split at hl
  ·rename_i t' fr l hlo hgi
   obtain rfl:lo=none:=by simpa using hlo
   have hh:=hg _ _ hgi
   split at hl
   ·rename_i b cc he kb kc
    obtain rfl:=eq?_spec he
    split at hl
    ·simp only [Out.ok.injEq] at hl
     obtain⟨rfl,rfl,rfl⟩:=hl
     simp only [ile_eq,Bool.and_eq_true,decide_eq_true_eq] at hc
     obtain⟨⟨c0,c2⟩,c3⟩:=hc
     have hids:∀ i∈[id],∃ o,h i=some o:=fun i hi=>by simp at hi; subst hi; exact⟨_,hh⟩
     have hlt:(l.take b.toNat).length=b.toNat:=by rw [List.length_take]; omega
     rcases hp.own_buf hh with ⟨hL,⟨A,e1⟩,rfl⟩ | ⟨L,cap,hL,e1,hcap,hfit⟩
     ·obtain rfl : u = .slice A 0 0 := by simpa using e1
      have bb:=optInt_R (V:=viewOf B w h loc) (d':=((0:Nat):Int)) (fun y hy=>hv y (.inr (.inl hy))) kb (.inl (by simp))
      have bc:=optInt_R (V:=viewOf B w h loc) (d':=((0:Nat):Int)) (fun y hy=>hv y (.inr (.inr hy))) kc (.inl (by simp))
      simp only [List.length_nil] at c3
      have hb0:b=0:=by omega
      have hcc0:cc=0:=by omega
      subst hb0 hcc0
      have hr:=run_sliceAt (w:=w) hT (A:=A) (ln:=0) (cap:=0) (lo:=none) (a:=0) rfl bb bc (by omega) (by omega) (by omega) (by omega) hm'
      refine⟨_,w,hr,After.new R hn hnx none w _ [id] rfl rfl rfl (Nat.le_refl _) hids (fun _ _ _=>rfl) (by simp) fun V _ _ hl2 hh2 _=>⟨?_,one_R rfl ?_ (by simp)⟩⟩
      ·simp only [ObjR,hl2]; rfl
      ·simp only [AtomR,hh2,hl2]; exact⟨⟨_,rfl⟩,rfl⟩
     ·obtain rfl : u = .slice (some ⟨L.blk, L.off, none⟩) l.length cap := by simpa using e1
      have lives:LivesAt h loc id L.blk:=⟨_,L,hh,rfl,hL,rfl⟩
      obtain⟨c1,el,k1,k2,k3,k4⟩:=(R.objs id _ hh).buf hL
      have bb:=optInt_R (V:=viewOf B w h loc) (d':=(l.length:Int)) (fun y hy=>hv y (.inr (.inl hy))) kb (.inl rfl)
      have fin:∀ c':Int,b≤c'→c'≤cap→Bound (mx.map ρ) cap c'→∃ v w',(Instr.sliceAt t (.slice (some ⟨L.blk,L.off,none⟩) l.length cap) (Option.map ρ none) (hi.map ρ) (mx.map ρ)).run P w = .ok v w'∧
        After B h loc w (one (.own nid)) [(nid,.buf t' fr (l.take b.toNat)),(id,.dead)] v w':=by
       intro c' q1 q2 bc
       have hr:=run_sliceAt (w:=w) hT (A:=some ⟨L.blk,L.off,none⟩) (lo:=none) (a:=0) rfl bb bc (by omega) c0 q1 q2 hm'
       refine⟨_,w,hr,After.new R hn hnx (some L) w _ [id] rfl rfl rfl (Nat.le_refl _) hids (fun _ _ _=>rfl) (fun L' e=>?_) fun V hV hsub hl2 hh2 _=>⟨ObjR.mkBuf hl2 ⟨c1,el,k1,k2,?_,fun i x hx=>?_⟩,one_R rfl ?_ (by simp)⟩⟩
       ·obtain rfl:=Option.some.inj e; exact⟨(R.blk _ _ lives).1,.inr ⟨id,by simp,lives⟩⟩
       ·have : (l.take b.toNat).length * t'.size ≤ l.length * t'.size := Nat.mul_le_mul_right _ (by rw [hlt]; omega)
        omega
       ·have hx' : nth l i = some x := by
         simp only [nth,List.getElem?_take] at hx
         split at hx
         ·exact hx
         ·cases hx
        exact(k4 i x hx').mono (hV.mem fr)
       ·simp only [AtomR, hh2, hl2]
        refine⟨c'.toNat,?_,by rw [hlt]; omega,?_⟩
        ·rw [hlt]
         have z0:(⟨L.blk,L.off,none⟩:Addr).add ((0:Int).toNat*t'.size)=⟨L.blk,L.off,none⟩:=by rw [add_at]; simp
         split
         ·simp
         ·simp only [Option.map_some,z0]; simp
        ·have : c'.toNat * t'.size ≤ cap * t'.size := Nat.mul_le_mul_right _ (by omega)
         omega
      cases mx with
      | none => exact fin cap (by omega) (Int.le_refl _) rfl
      | some m => exact fin cc c2 (by omega) (optInt_R (V := viewOf B w h loc) (d' := (cap : Int)) (fun y hy => hv y (.inr (.inr hy))) kc (.inr (by simp)))
    ·cases hl
   ·cases hl
  ·rename_i lv t' fr l hlo hgi
   exact sliceSub_R R hg hT hm hv hp hgi hl hc
  ·cases hl
 | rk t' nb l =>
  simp only [sliceAt] at hl
  split at hl
  ·rename_i he hzz
   simp only [Out.ok.injEq] at hl
   obtain⟨rfl,rfl,rfl⟩:=hl
   simp only [Bool.and_eq_true] at hzz
   obtain⟨⟨z1,z2⟩,z3⟩:=hzz
   obtain⟨⟨A,cap,e1,_,_⟩,_⟩:=hp
   obtain rfl:u = .slice A (len l) cap:=by simpa using e1
   obtain⟨m,rfl⟩:∃ m,mx=some m:=by cases mx with | none=>cases z1 | some m=>exact⟨m,rfl⟩
   obtain⟨hh,rfl⟩:∃ m,hi=some m:=by cases hi with | none=>cases z2 | some m=>exact⟨m,rfl⟩
   obtain rfl:lo=none:=by simpa using z3
   have hr:=run_sliceAt (w:=w) hT (A:=A) (ln:=len l) (cap:=cap) (lo:=none) (hi:=some (ρ hh)) (mx:=some (ρ m)) (a:=0) (b:=0) (c:=0) rfl (hz _ z2) (hz _ z1) (by omega) (by omega) (by omega) (by omega) (by simp)
   exact⟨_,w,hr,After.pure R (one_R rfl ⟨_,rfl⟩ (by simp))⟩
  ·cases hl
 | _ => cases hl
end
end Go.Proofs.Ytijjhpmladkjdaa.E
end
section
namespace Go.Proofs.Ytijjhpmladkjdaa.E
open Go Go.RowKit
theorem fold_splice:∀ (v:List Value) (k:Nat) (c:Array Value) (off:Nat),off+k+v.length≤c.size→
  ((v.zipIdx k).foldl (fun(cs:Array Value) (x:Value×Nat)=>cs.setIfInBounds (off+x.2) x.1) c).toList=c.toList.take (off+k)++v++c.toList.drop (off+k+v.length)
 | [], k, c, off, _ => by simp
 | x :: v, k, c, off, hb => by
  simp only [List.zipIdx_cons,List.foldl_cons]
  rw [fold_splice v (k+1) (c.setIfInBounds (off+k) x) off (by simp at hb ⊢; omega)]
  simp only [Array.toList_setIfInBounds]
  apply List.ext_getElem?
  intro j
  simp only [List.length_cons] at hb
  have hcl:c.toList.length=c.size:=Array.length_toList
  simp only [List.getElem?_take,List.getElem?_drop,List.getElem?_append,List.length_append,List.length_take,List.length_cons,List.getElem?_set,List.length_set]
  by_cases h1:j<off+k
  ·rw [if_pos (by omega),if_pos (by omega),if_pos (by omega),if_neg (by omega),if_pos (by omega),if_pos (by omega),if_pos (by omega)]
  ·by_cases h2 : j = off + k
   ·subst h2
    rw [if_pos (by omega),if_pos (by omega),if_pos (by omega),if_pos (by omega),if_pos (by omega),if_pos (by omega),if_neg (by omega)]
    have:off+k-min (off+k) c.toList.length=0:=by omega
    rw [this]; rfl
   ·by_cases h3 : j < off + k + (v.length + 1)
    ·rw [if_pos (by omega), if_neg (by omega), if_pos (by omega), if_neg (by omega)]
     have:j-min (off+k) c.toList.length=(j-min (off+(k+1)) c.toList.length)+1:=by omega
     rw [this,List.getElem?_cons_succ]
    ·rw [if_neg (by omega), if_neg (by omega), if_neg (by omega)]
     congr 1; omega
def putSegs (parts:List (Nat×Value)) (segs:List (List Value)):List (List Value):=parts.foldl (fun s p=>s.set p.1 p.2.cells.toList) segs
theorem flatten_set (segs:List (List Value)) (i:Nat) (new:List Value) (hi:i<segs.length) (hl:new.length=segs[i].length):
  (segs.set i new).flatten=segs.flatten.take (segs.take i).flatten.length++new++segs.flatten.drop ((segs.take i).flatten.length+new.length):=by
 have e:segs=segs.take i++segs[i]::segs.drop (i+1):=by rw [List.getElem_cons_drop,List.take_append_drop]
 have e1:segs.flatten=(segs.take i).flatten++(segs[i]++(segs.drop (i+1)).flatten):=by conv=>lhs; rw [e]; rw [List.flatten_append,List.flatten_cons]
 have e2:(segs.set i new).flatten=(segs.take i).flatten++(new++(segs.drop (i+1)).flatten):=by
  rw [List.set_eq_take_append_cons_drop,if_pos hi,List.flatten_append,List.flatten_cons]
 have e3:∀ (x y z:List Value),(x++(y++z)).drop (x.length+y.length)=z:=fun x y z=>by
  rw [←List.append_assoc,←List.length_append,List.drop_left]
 rw [e2,e1,List.take_left,hl,e3,List.append_assoc]
theorem fill_segs (place:Nat→Option (Nat×Nat)):∀ (parts:List (Nat×Value)) (segs:List (List Value)) (cells:Array Value),cells.toList=segs.flatten→
  (∀ p∈parts,∃ seg,segs[p.1]? = some seg∧p.2.cells.toList.length=seg.length)→(∀ i seg,segs[i]? = some seg→place i=some ((segs.take i).flatten.length,seg.length))→
  ∃ out,Instr.fill place cells parts=some out∧out.toList=(putSegs parts segs).flatten
 | [], segs, cells, hc, _, _ => ⟨cells, rfl, hc⟩
 | (i, v) :: r, segs, cells, hc, hp, hpl => by
  obtain⟨seg,h1,h2⟩:=hp (i,v) (by simp)
  obtain⟨hi,rfl⟩:=List.getElem?_eq_some_iff.1 h1
  replace hi:i<segs.length:=hi
  replace h2:v.cells.toList.length=segs[i].length:=h2
  replace h1:segs[i]? = some segs[i]:=h1
  have hplace:=hpl i _ h1
  have hfl:=flatten_set segs i v.cells.toList hi h2
  have hvl:v.cells.toList.length=v.cells.size:=Array.length_toList
  have hcl:cells.toList.length=cells.size:=Array.length_toList
  have hfit:(segs.take i).flatten.length+v.cells.toList.length≤cells.size:=by
   rw [←hcl,hc,h2]
   have e:segs=segs.take i++segs[i]::segs.drop (i+1):=by rw [List.getElem_cons_drop,List.take_append_drop]
   have:segs.flatten.length=((segs.take i).flatten++(segs[i]++(segs.drop (i+1)).flatten)).length:=by conv=>lhs; rw [e]; rw [List.flatten_append,List.flatten_cons]
   rw [this]; simp only [List.length_append]; omega
  have hf:=fold_splice v.cells.toList 0 cells (segs.take i).flatten.length (by omega)
  rw [Nat.add_zero,hc,←hfl] at hf
  have hlen:∀ j,((segs.set i v.cells.toList).take j).flatten.length=(segs.take j).flatten.length:=by
   intro j
   rw [List.length_flatten,List.length_flatten]
   congr 1
   apply List.ext_getElem?
   intro k
   simp only [List.getElem?_map,List.getElem?_take,List.getElem?_set]
   split
   ·split
    ·rename_i hik
     subst hik
     rw [List.getElem?_eq_getElem hi]
     simp only [Option.map_some]
     exact congrArg some h2
    ·rfl
   ·rfl
  obtain⟨out,k1,k2⟩:=fill_segs place r (segs.set i v.cells.toList) _ hf
   (fun p hpm => by
    obtain⟨seg,q1,q2⟩:=hp p (by simp [hpm])
    rw [List.getElem?_set]
    by_cases e:i=p.1
    ·rw [if_pos e, if_pos hi]
     refine⟨_,rfl,?_⟩
     have:seg=segs[i]:=by
      have:segs[i]? = some seg:=e ▸ q1
      rw [List.getElem?_eq_getElem hi] at this; exact(Option.some.inj this).symm
     rw [q2,this,h2]
    ·rw [if_neg e]; exact⟨seg,q1,q2⟩)
   (fun j seg hj => by
    rw [hlen j]
    rw [List.getElem?_set] at hj
    split at hj
    ·rename_i e
     subst e
     obtain rfl:=Option.some.inj hj
     rw [hplace,h2]
    ·exact hpl j seg hj)
  refine⟨out,?_,k2⟩
  rw [Instr.fill,hplace]
  simp only
  rw [if_neg (by simp only [ne_eq,Bool.or_eq_true,not_or,decide_eq_true_eq]; omega)]
  have harr:(v.cells.zipIdx.foldl (fun cs (x:Value×Nat)=>cs.setIfInBounds ((segs.take i).flatten.length+x.2) x.1) cells) =
    ((v.cells.toList.zipIdx 0).foldl (fun(cs:Array Value) (x:Value×Nat)=>cs.setIfInBounds ((segs.take i).flatten.length+x.2) x.1) cells):=by
   rw [←Array.foldl_toList]; simp [Array.toList_zipIdx]
  rw [←harr] at k1
  exact k1
theorem get_mem {α:Type}:∀ {l:List (Nat×α)} {p:Nat×α},distinctKeys l=true→p∈l→get p.1 l=some p.2
 | (k, v) :: r, p, hd, hp => by
  simp only [distinctKeys,Bool.and_eq_true] at hd
  rcases List.mem_cons.1 hp with rfl | hp
  ·simp only [get,Nat.beq_refl]
  ·have ih := get_mem hd.2 hp
   by_cases e:k=p.1
   ·subst e
    have h1:=hd.1
    rw [ih] at h1; cases h1
   ·simp only [get,beq_ne e]; exact ih
theorem putSegs_length:∀ (parts:List (Nat×Value)) (segs:List (List Value)),(putSegs parts segs).length=segs.length
 | [], _ => rfl
 | p :: r, segs => by
  have:=putSegs_length r (segs.set p.1 p.2.cells.toList)
  rw [List.length_set] at this
  exact this
theorem putSegs_get:∀ (parts:List (Nat×Value)) (segs:List (List Value)) (i:Nat),distinctKeys parts=true→i<segs.length→
  (putSegs parts segs)[i]? = match get i parts with | some u=>some u.cells.toList | none=>segs[i]?
 | [], segs, i, _, _ => by simp [putSegs, get]
 | (k, u) :: r, segs, i, hd, hi => by
  simp only [distinctKeys,Bool.and_eq_true] at hd
  have ih:=putSegs_get r (segs.set k u.cells.toList) i hd.2 (by rw [List.length_set]; exact hi)
  simp only [putSegs,List.foldl_cons] at ih ⊢
  rw [ih]
  by_cases e:k=i
  ·subst e
   have hnone:get k r=none:=by
    have h1:=hd.1
    revert h1
    cases get k r with
    | none => intro _; rfl
    | some x => intro h; cases h
   simp only [hnone,get,Nat.beq_refl]
   rw [List.getElem?_set_self hi]
  ·simp only [get, beq_ne e]
   split
   ·rfl
   ·rw [List.getElem?_set_ne e]
section
variable {P:Program} {B:Base} {h g:Nat→Option Obj'} {loc:Nat→Option Loc} {w:World}
inductive PartsR (V:View):List (Nat×V1)→List (Nat×Value)→Prop
 | nil : PartsR V [] []
 | cons {i : Nat} {v : V1} {u : Value} {r : List (Nat × V1)} {s : List (Nat × Value)} : V1R V v u → PartsR V r s → PartsR V ((i, v) :: r) ((i, u) :: s)
theorem partsOf_R {V:View} {val:Operand→AVal} {ρ:Operand→Value}:∀ {ps:List (Nat×Operand)} {vs:List (Nat×V1)},(∀ p∈ps,VR V (val p.2) (ρ p.2))→partsOf val ps=some vs→
  PartsR V vs (ps.map fun p=>(p.1,ρ p.2))
 | [], vs, _, hp => by obtain rfl := Option.some.inj hp; exact .nil
 | (i, x) :: r, vs, hv, hp => by
  simp only [partsOf] at hp
  split at hp
  ·rename_i v vs' hx hr
   obtain rfl:=Option.some.inj hp
   refine .cons ?_ (partsOf_R (fun p hm=>hv p (by simp [hm])) hr)
   have:=hv (i,x) (by simp)
   rw [hx] at this; exact this
  ·cases hp
theorem PartsR.get {V:View} {vs:List (Nat×V1)} {us:List (Nat×Value)} (k:PartsR V vs us) (i:Nat):
  (get i vs=none∧get i us=none)∨∃ v u,get i vs=some v∧get i us=some u∧V1R V v u:=by
 induction k with
 | nil => exact .inl ⟨rfl, rfl⟩
 | cons hv _ ih =>
  rename_i j v u r s _
  by_cases e:j=i
  ·subst e; exact .inr ⟨v,u,by simp [E.get],by simp [E.get],hv⟩
  ·simp only [E.get,beq_ne e]; exact ih
theorem PartsR.distinct {V:View} {vs:List (Nat×V1)} {us:List (Nat×Value)} (k:PartsR V vs us) (hd:distinctKeys vs=true):distinctKeys us=true:=by
 induction k with
 | nil => rfl
 | cons hv k ih =>
  rename_i j v u r s
  simp only [distinctKeys,Bool.and_eq_true] at hd ⊢
  refine⟨?_,ih hd.2⟩
  rcases k.get j with ⟨_,k2⟩ | ⟨_,_,k1,_⟩
  ·rw [k2]
  ·rw [k1] at hd; cases hd.1
theorem keysBelow {V:View} {vs:List (Nat×V1)} {us:List (Nat×Value)} (k:PartsR V vs us) {n:Nat} (hb:below n vs=true):∀ p∈us,p.1<n:=by
 induction k with
 | nil => simp
 | cons hv k ih =>
  simp only [below,Bool.and_eq_true] at hb
  intro p hp
  rcases List.mem_cons.1 hp with rfl | hp
  ·exact by simpa using hb.1
  ·exact ih hb.2 p hp
theorem fillFields_R {V : View} {vs : List (Nat × V1)} {us : List (Nat × Value)} (k : PartsR V vs us) : ∀ {fs : List Ty} {i : Nat} {asq : List Atom} {segs : List (List Value)}, fillFields vs g i fs = some asq →
  segs.length=fs.length→(∀ j t,fs[j]? = some t→segs[j]? = some (match get (i+j) us with | some u=>u.cells.toList | none=>zeroCells t))→
  AtomsR V asq segs.flatten∧∀ j t u,fs[j]? = some t→get (i+j) us=some u→u.cells.toList.length=t.size
 | [], i, asq, segs, hf, hl, _ => by
  obtain rfl:=Option.some.inj hf
  obtain rfl:=List.eq_nil_of_length_eq_zero hl
  exact⟨rfl,by simp⟩
 | t :: r, i, asq, segs, hf, hl, hs => by
  cases segs with
  | nil => simp at hl
  | cons s segs =>
   simp only [fillFields] at hf
   split at hf
   ·cases hf
   ·rename_i rest hr
    have h0:=hs 0 t rfl
    simp only [List.getElem?_cons_zero,Nat.add_zero,Option.some.injEq] at h0
    obtain⟨ih1,ih2⟩:=fillFields_R k hr (segs:=segs) (by simpa using hl) (fun j t' hj=>by
     have:=hs (j+1) t' (by simpa using hj)
     rw [List.getElem?_cons_succ] at this
     rw [this,show i+(j+1)=i+1+j by omega])
    have step:∀ j t' u,(t::r)[j]? = some t'→get (i+j) us=some u→(∀ u,get i us=some u→u.cells.toList.length=t.size)→u.cells.toList.length=t'.size:=by
     intro j t' u hj hu h00
     cases j with
     | zero => obtain rfl : t = t' := by simpa using hj
               exact h00 u hu
     | succ j => exact ih2 j t' u (by simpa using hj) (by rw [← hu]; congr 1; omega)
    rcases k.get i with ⟨k1,k2⟩ | ⟨v,u,k1,k2,k3⟩
    ·rw [k1] at hf
     obtain rfl:=Option.some.inj hf
     rw [k2] at h0
     subst h0
     exact⟨(zeroAtoms_R V t).append ih1,fun j t' u hj hu=>step j t' u hj hu (fun u hu=>by rw [k2] at hu; cases hu)⟩
    ·rw [k1] at hf
     simp only at hf
     split at hf
     ·rename_i hsh
      obtain rfl:=Option.some.inj hf
      rw [k2] at h0
      subst h0
      have hlen:u.cells.toList.length=t.size:=by
       simp only [fillFields.shapeOf] at hsh
       split at hsh
       ·rename_i m hm
        have e1:=cutCells_append hm
        have e2:=cutCells_sum hm
        rw [List.append_nil] at e1
        rw [k3.cells.length,e1,e2]
       ·cases hsh
      exact⟨k3.cells.append ih1,fun j t' u' hj hu=>step j t' u' hj hu (fun u2 hu2=>by rw [k2] at hu2; obtain rfl:=Option.some.inj hu2; exact hlen)⟩
     ·cases hf
theorem SeesM.all (ids:List Nat):SeesM B w h loc ids ⟨h,loc,cellsAt w,cellsAt w⟩:=
 ⟨fun _ _ k=>k.1,fun _ _ k=>k.1.1,fun _ _ k=>k,fun _ _ _ _ _ k=>⟨k,k⟩⟩
theorem asV_len (R:HRel B h loc w) (hg:∀ id o,g id=some o→h id=some o) {u:Value} {v:V1} {t:Ty} {y:Got t} (k3:V1R (viewOf B w h loc) v u) (hy:asV g t v=some y):u.cells.toList.length=t.size:=
 (asV_R R hg k3 hy (SeesM.all _)).length
theorem asAtom_ids {t:Ty} {a:Atom} {y:Got t} (hy:asAtom g t a=some y):∀ id∈y.ids,∃ o,g id=some o:=by
 have nil:y.ids = []→∀ id∈y.ids,∃ o,g id=some o:=fun e=>by rw [e]; simp
 cases t with
 | int k => cases a with
  | int l n => simp only [asAtom] at hy; split at hy; · obtain rfl := Option.some.inj hy; exact nil rfl
               ·cases hy
  | _ => cases hy
 | bool => cases a with
  | bool b => obtain rfl := Option.some.inj hy; exact nil rfl
  | _ => cases hy
 | str => cases a with
  | str b => obtain rfl := Option.some.inj hy; exact nil rfl
  | _ => cases hy
 | unit => cases a <;> cases hy
 | pair a b => rename_i a'; cases a' <;> cases hy
 | sl t => cases a with
  | ro u fr l => simp only [asAtom] at hy; split at hy; · obtain rfl := Option.some.inj hy; exact nil rfl
                 ·cases hy
  | nils => obtain rfl := Option.some.inj hy; exact nil rfl
  | e0 => obtain rfl := Option.some.inj hy; exact nil rfl
  | own id =>
   simp only [asAtom] at hy
   split at hy
   ·rename_i u fr l hgi
    split at hy
    ·obtain rfl := Option.some.inj hy
     intro i hi
     simp at hi
     subst hi
     exact⟨_,hgi⟩
    ·cases hy
   ·cases hy
  | rk u n l => simp only [asAtom] at hy; split at hy; · obtain rfl := Option.some.inj hy; exact nil rfl
                ·cases hy
  | av id off =>
   simp only [asAtom] at hy
   split at hy
   ·rename_i asq hgi
    split at hy
    ·split at hy
     ·obtain rfl := Option.some.inj hy
      intro i hi
      simp at hi
      subst hi
      exact⟨_,hgi⟩
     ·cases hy
    ·cases hy
   ·cases hy
  | sub id lo hi' =>
   simp only [asAtom] at hy
   split at hy
   ·rename_i u fr l hgi
    split at hy
    ·obtain rfl := Option.some.inj hy
     intro i hi
     simp at hi
     subst hi
     exact⟨_,hgi⟩
    ·cases hy
   ·cases hy
  | _ => cases hy
 | arr n t => cases a with
  | arr m u fr l => simp only [asAtom] at hy; split at hy; · obtain rfl := Option.some.inj hy; exact nil rfl
                    ·cases hy
  | _ => cases hy
theorem asTy_ids:∀ {t:Ty} {asq rest:List Atom} {y:Got t},asTy g t asq=some (y,rest)→∀ id∈y.ids,∃ o,g id=some o:=by
 have leaf:∀ (t:Ty) (asq rest:List Atom) (y:Got t),(∀ a r,asq=a::r→asTy g t asq=match asAtom g t a with | some x=>some (x,r) | none=>none)→asTy g t []=none→
   asTy g t asq=some (y,rest)→∀ id∈y.ids,∃ o,g id=some o:=by
  intro t asq rest y hcons hnil hy
  cases asq with
  | nil => rw [hnil] at hy; cases hy
  | cons a r =>
   rw [hcons a r rfl] at hy
   split at hy
   ·rename_i z hz
    simp only [Option.some.injEq,Prod.mk.injEq] at hy
    obtain⟨rfl,rfl⟩:=hy
    exact asAtom_ids hz
   ·cases hy
 intro t
 induction t with
 | unit =>
  intro asq rest y hy
  simp only [asTy,Option.some.injEq,Prod.mk.injEq] at hy
  obtain⟨rfl,rfl⟩:=hy
  simp
 | pair a b iha ihb =>
  intro asq rest y hy
  simp only [asTy] at hy
  split at hy
  ·rename_i y1 as' h1
   split at hy
   ·rename_i z as'' h2
    simp only [Option.some.injEq,Prod.mk.injEq] at hy
    obtain⟨rfl,rfl⟩:=hy
    intro id hid
    rcases List.mem_append.1 hid with hid | hid
    ·exact iha h1 id hid
    ·exact ihb h2 id hid
   ·cases hy
  ·cases hy
 | int k => intro asq rest y hy; exact leaf _ asq rest y (fun a r e => by subst e; rfl) rfl hy
 | bool => intro asq rest y hy; exact leaf _ asq rest y (fun a r e => by subst e; rfl) rfl hy
 | str => intro asq rest y hy; exact leaf _ asq rest y (fun a r e => by subst e; rfl) rfl hy
 | sl t _ => intro asq rest y hy; exact leaf _ asq rest y (fun a r e => by subst e; rfl) rfl hy
 | arr n t _ => intro asq rest y hy; exact leaf _ asq rest y (fun a r e => by subst e; rfl) rfl hy
theorem asV_ids' {t:Ty} {v:V1} {y:Got t} (hy:asV g t v=some y):∀ id∈y.ids,∃ o,g id=some o:=by
 simp only [asV] at hy
 split at hy
 ·rename_i z hz
  obtain rfl:=Option.some.inj hy
  exact asTy_ids hz
 ·cases hy
theorem asV_ids (hg:∀ id o,g id=some o→h id=some o) {t:Ty} {v:V1} {y:Got t} (hy:asV g t v=some y):∀ id∈y.ids,∃ o,h id=some o:=fun id hid=>by
 obtain⟨_,k⟩:=asV_ids' hy id hid
 exact⟨_,hg _ _ k⟩
theorem fillElems_R (R:HRel B h loc w) (hg:∀ id o,g id=some o→h id=some o) {vs:List (Nat×V1)} {us:List (Nat×Value)} (k:PartsR (viewOf B w h loc) vs us) {t:Ty}:∀ {n i:Nat} {x:Got (.sl t)} {segs:List (List Value)},
  fillElems vs g t i n=some x→segs.length=n→(∀ j,j<n→segs[j]? = some (match get (i+j) us with | some u=>u.cells.toList | none=>zeroCells t))→
  (∀ V',SeesM B w h loc x.ids V'→Rows (V'.mem x.fr) t x.x segs.flatten)∧List.length (α:=t.den) x.x=n∧(∀ j u,j<n→get (i+j) us=some u→u.cells.toList.length=t.size)∧∀ id∈x.ids,∃ o,h id=some o
 | 0, i, x, segs, hf, hl, _ => by
  obtain rfl:=Option.some.inj hf
  exact⟨fun V' _=>Rows.nil _ _ _,rfl,by simp,by simp⟩
 | n + 1, i, x, segs, hf, hl, hs => by
  cases segs with
  | nil => simp at hl
  | cons s segs =>
   simp only [fillElems] at hf
   split at hf
   ·cases hf
   ·rename_i rest hr
    have h0:=hs 0 (by omega)
    simp only [List.getElem?_cons_zero,Nat.add_zero,Option.some.injEq] at h0
    obtain⟨ih1,ih2,ih3,ih4⟩:=fillElems_R R hg k hr (segs:=segs) (by simpa using hl) (fun j hj=>by
     have:=hs (j+1) (by omega)
     rw [List.getElem?_cons_succ] at this
     rw [this,show i+(j+1)=i+1+j by omega])
    have step:∀ j u,j<n+1→get (i+j) us=some u→(∀ u,get i us=some u→u.cells.toList.length=t.size)→u.cells.toList.length=t.size:=by
     intro j u hj hu h00
     cases j with
     | zero => exact h00 u hu
     | succ j => exact ih3 j u (by omega) (by rw [← hu]; congr 1; omega)
    rcases k.get i with ⟨k1,k2⟩ | ⟨v,u,k1,k2,k3⟩
    ·rw [k1] at hf
     obtain rfl:=Option.some.inj hf
     rw [k2] at h0
     subst h0
     exact ⟨fun V' S => Rows.cons (Has.dflt _ t) (ih1 V' S), congrArg (· + 1) ih2, fun j u hj hu => step j u hj hu (fun u hu => by rw [k2] at hu; cases hu), ih4⟩
    ·rw [k1] at hf
     simp only at hf
     split at hf
     ·rename_i y hy
      obtain rfl:=Option.some.inj hf
      rw [k2] at h0
      subst h0
      refine ⟨fun V' S => Rows.cons (S.left.and _ _ (asV_R R hg k3 hy S.left)) (fun j z hz => S.right.and' _ _ (ih1 V' S.right j z hz)), congrArg (· + 1) ih2, fun j u' hj hu => step j u' hj hu (fun u2 hu2 => ?_), fun id hid => ?_⟩
      ·rw [k2] at hu2
       obtain rfl:=Option.some.inj hu2
       exact asV_len R hg k3 hy
      ·rcases List.mem_append.1 hid with hid | hid
       ·exact asV_ids hg hy id hid
       ·exact ih4 id hid
     ·cases hf
theorem list_mapM_some {α β:Type} (f:α→Option β) (gg:α→β):∀ (l:List α),(∀ x∈l,f x=some (gg x))→l.mapM f=some (l.map gg)
 | [], _ => rfl
 | x :: l, hx => by
  rw [List.mapM_cons,hx x (by simp),list_mapM_some f gg l (fun y hy=>hx y (by simp [hy]))]; rfl
theorem fieldTy_some:∀ {fs:List Ty} {i:Nat} {t:Ty},fs[i]? = some t→fieldTy fs i=some (((fs.take i).map Ty.size).sum,t)
 | [], _, _, hf => by simp at hf
 | u :: r, 0, t, hf => by obtain rfl : u = t := by simpa using hf
                          simp [fieldTy]
 | u :: r, i + 1, t, hf => by
  have:=fieldTy_some (fs:=r) (i:=i) (t:=t) (by simpa using hf)
  simp only [fieldTy,this,List.take_succ_cons,List.map_cons,List.sum_cons]
theorem zeroCells_tys:∀ fs:List Ty,zeroCells (tys fs)=(fs.map zeroCells).flatten
 | [] => rfl
 | t :: r => by simp only [tys, zeroCells, List.map_cons, List.flatten_cons, zeroCells_tys r]
theorem flatten_zero_length (fs:List Ty) (i:Nat):(((fs.map zeroCells).take i).flatten).length=((fs.take i).map Ty.size).sum:=by
 rw [List.length_flatten,←List.map_take,List.map_map]
 congr 1
 exact List.map_congr_left fun t _=>zeroCells_length t
theorem op_struct (R:HRel B h loc w) {t:TypeId} {fs:List Ty} (hT:TOk P t (.st fs)) {vs:List (Nat×V1)} {us:List (Nat×Value)} (k:PartsR (viewOf B w h loc) vs us) (hd:distinctKeys vs=true) (hb:below fs.length vs=true)
  {asq:List Atom} (hf:fillFields vs g 0 fs=some asq):∃ cells:Array Value,(Instr.build t us.toArray).run P w = .ok (.agg cells) w∧AtomsR (viewOf B w h loc) asq cells.toList:=by
 obtain⟨hi,fields,u1,u2,u3⟩:=hT
 obtain⟨it,z,i1,i2,i3,i4,_⟩:=hi.info
 have hdu:=k.distinct hd
 have segs0:∀ (i:Nat) (seg:List Value),(fs.map zeroCells)[i]? = some seg→∃ t:Ty,fs[i]? = some t∧seg=zeroCells t:=by
  intro i seg hs
  rw [List.getElem?_map] at hs
  cases hfi:fs[i]? with
  | none => rw [hfi] at hs; cases hs
  | some t => rw [hfi] at hs; exact ⟨t, rfl, (Option.some.inj hs).symm⟩
 have hfin:=fillFields_R k hf (segs:=putSegs us (fs.map zeroCells)) (by rw [putSegs_length,List.length_map]) (fun j t hj=>by
  have hlt:j<fs.length:=(List.getElem?_eq_some_iff.1 hj).1
  rw [putSegs_get us _ j hdu (by rw [List.length_map]; exact hlt),Nat.zero_add]
  split
  ·rfl
  ·rw [List.getElem?_map,hj]; rfl)
 have places : fields.toList.mapM (fun f => (P.info? f.type).map fun i => (f.offset, i.size)) = some (fields.toList.map fun f => (f.offset, ((P.info? f.type).map (·.size)).getD 0)) := by
  refine list_mapM_some _ _ _ fun f hf=>?_
  obtain⟨i,hi⟩:=List.getElem?_of_mem hf
  obtain⟨o,u,_,_,v3⟩:=u3 i f (by simpa using hi)
  obtain⟨j,_,j1,_⟩:=v3.info
  rw [j1]; rfl
 have hplace : ∀ (i : Nat) (seg : List Value), (fs.map zeroCells)[i]? = some seg → (fields.toList.map fun f => (f.offset, ((P.info? f.type).map (·.size)).getD 0)).toArray[i]? = some ((((fs.map zeroCells).take i).flatten).length, seg.length) := by
  intro i seg hs
  obtain⟨t,ht,rfl⟩:=segs0 i seg hs
  have hlt:i<fields.size:=by rw [u2]; exact(List.getElem?_eq_some_iff.1 ht).1
  obtain⟨o,u,v1,v2,v3⟩:=u3 i fields[i] (Array.getElem?_eq_getElem hlt)
  rw [fieldTy_some ht] at v1
  simp only [Option.some.injEq,Prod.mk.injEq] at v1
  obtain⟨rfl,rfl⟩:=v1
  obtain⟨j,_,j1,j2,_⟩:=v3.info
  simp only [List.getElem?_toArray,List.getElem?_map,Array.getElem?_toList,Array.getElem?_eq_getElem hlt,Option.map_some,j1,v2,j2,Option.getD_some,flatten_zero_length,zeroCells_length]
 obtain ⟨out, o1, o2⟩ := fill_segs (fun i => (fields.toList.map fun f => (f.offset, ((P.info? f.type).map (·.size)).getD 0)).toArray[i]?) us (fs.map zeroCells) z.cells (by rw [i4, zeroCells_tys])
  (fun (p : Nat × Value) hp => by
   have hlt:=keysBelow k hb p hp
   obtain⟨t,ht⟩:∃ t,fs[p.1]? = some t:=⟨_,List.getElem?_eq_getElem hlt⟩
   refine⟨zeroCells t,by rw [List.getElem?_map,ht]; rfl,?_⟩
   rw [zeroCells_length]
   exact hfin.2 p.1 t p.2 ht (by rw [Nat.zero_add]; exact get_mem hdu hp)) hplace
 refine⟨out,run_build w t us.toArray out ?_,by rw [o2]; exact hfin.1⟩
 simp only [Program.built,i1,u1,i3,places]
 exact o1
theorem replicate_take_flatten (l:List Value) (n i:Nat) (hi:i≤n):((List.replicate n l).take i).flatten.length=i*l.length:=by
 rw [List.take_replicate,flatten_replicate_length,Nat.min_eq_left hi]
theorem fill_elems (R:HRel B h loc w) (hg:∀ id o,g id=some o→h id=some o) {vs:List (Nat×V1)} {us:List (Nat×Value)} (k:PartsR (viewOf B w h loc) vs us) (hd:distinctKeys vs=true) {n:Nat} (hb:below n vs=true)
  {t:Ty} {x:Got (.sl t)} (hf:fillElems vs g t 0 n=some x) {cells:Array Value} (hc:cells.toList=(List.replicate n (zeroCells t)).flatten):
  ∃ out,Instr.fill (fun i=>some (i*t.size,t.size)) cells us=some out∧(∀ V',SeesM B w h loc x.ids V'→Rows (V'.mem x.fr) t x.x out.toList)∧List.length (α:=t.den) x.x=n∧out.size=n*t.size∧∀ id∈x.ids,∃ o,h id=some o:=by
 have hdu:=k.distinct hd
 obtain⟨f1,f2,f3,f4⟩:=fillElems_R R hg k hf (segs:=putSegs us (List.replicate n (zeroCells t))) (by rw [putSegs_length,List.length_replicate]) (fun j hj=>by
  rw [putSegs_get us _ j hdu (by rw [List.length_replicate]; exact hj),Nat.zero_add]
  split
  ·rfl
  ·simp [hj])
 obtain⟨out,o1,o2⟩:=fill_segs (fun i=>some (i*t.size,t.size)) us (List.replicate n (zeroCells t)) cells hc
  (fun (p : Nat × Value) hp => by
   have hlt:=keysBelow k hb p hp
   refine⟨zeroCells t,by simp [hlt],?_⟩
   rw [zeroCells_length]
   exact f3 p.1 p.2 hlt (by rw [Nat.zero_add]; exact get_mem hdu hp))
  (fun i seg hs => by
   have hlt:i<n:=by have:=(List.getElem?_eq_some_iff.1 hs).1; simpa using this
   obtain rfl:zeroCells t=seg:=by simpa [hlt] using hs
   rw [replicate_take_flatten _ _ _ (by omega),zeroCells_length])
 refine⟨out,o1,fun V' S=>by rw [o2]; exact f1 V' S,f2,?_,f4⟩
 rw [←Array.length_toList,o2,List.length_flatten]
 have:(putSegs us (List.replicate n (zeroCells t))).map List.length=List.replicate n t.size:=by
  apply List.ext_getElem?
  intro j
  rw [List.getElem?_map]
  by_cases hj:j<n
  ·rw [putSegs_get us _ j hdu (by rw [List.length_replicate]; exact hj)]
   split
   ·rename_i u hu
    simp only [Option.map_some,List.getElem?_replicate,hj,if_true]
    rw [f3 j u hj (by rw [Nat.zero_add]; exact hu)]
   ·simp [hj,zeroCells_length]
  ·rw [List.getElem?_eq_none (by rw [putSegs_length,List.length_replicate]; omega),List.getElem?_eq_none (by simp; omega)]; rfl
 rw [this]; simp
end
end Go.Proofs.Ytijjhpmladkjdaa.E
end
section
namespace Go.Proofs.Ytijjhpmladkjdaa.E
open Go Go.RowKit
section
variable {P:Program} {B:Base} {h g:Nat→Option Obj'} {loc:Nat→Option Loc} {w:World}
theorem madeCells_flatten {z : Array Value} {t : Ty} (hz : z.toList = zeroCells t) (n : Nat) : (madeCells z (n * t.size)).toList = (List.replicate n (zeroCells t)).flatten := by
 have hs:z.size=t.size:=by rw [←zeroCells_length t,←hz]; simp
 apply List.ext_getElem?
 intro j
 by_cases hj:j<n*t.size
 ·have hpos : 0 < t.size := by rcases Nat.eq_zero_or_pos t.size with h0 | h0; · rw [h0] at hj; omega
                               ·exact h0
  have hi:j / t.size<n:=Nat.div_lt_of_lt_mul (by rw [Nat.mul_comm]; exact hj)
  have hm:=Nat.mod_lt j hpos
  have hp:=piece_replicate (zeroCells t) n (j / t.size) hi
  have hd:=Nat.div_add_mod j t.size
  rw [Nat.mul_comm] at hd
  have h1:((List.replicate n (zeroCells t)).flatten)[j]? = (zeroCells t)[j%t.size]?:=by
   conv=>rhs; rw [←hp]
   rw [zeroCells_length,List.getElem?_take_of_lt hm,List.getElem?_drop,hd]
  rw [h1,←hz]
  simp only [madeCells,Array.toList_map,Array.toList_range,List.getElem?_map,List.getElem?_range hj,Option.map_some]
  rw [hs,getElem!_pos z (j%t.size) (by omega),Array.getElem?_toList,Array.getElem?_eq_getElem]
 ·rw [List.getElem?_eq_none (by rw [Array.length_toList,size_madeCells]; omega),List.getElem?_eq_none (by rw [flatten_replicate_length,zeroCells_length]; omega)]
theorem zeros_rows {m:Mem} {z:Array Value} {t:Ty} (hz:z.toList=zeroCells t) (n:Nat):Rows m t (List.replicate n t.dflt) (Builtin.zeroCells z n).toList:=by
 have hs:z.size=t.size:=by rw [←zeroCells_length t,←hz]; simp
 have e:Builtin.zeroCells z n=madeCells z (n*t.size):=by rw [←hs]; rfl
 rw [e,madeCells_flatten hz]
 exact Rows.replicate (Has.dflt m t) n
theorem run_append_none {t tn ty e:TypeId} {i:TypeInfo} (ht:P.underlying t=some (.slice e)) (htn:P.underlying tn=some (.int .i64)) (hi:P.info? e=some i) (A:Option Addr) (n cap:Nat) (hc:n≤cap):
  (Builtin.append_ #[t,tn] ty #[.slice A n cap,.int .i64 0]).run P w = .ok (.slice A n cap) w:=by
 have hw:IntKind.i64.wrap (0:Int)=0:=by rw [IntKind.wrap_i64]; omega
 cases A <;> simp [Builtin.append_,run_underlying ht,run_underlying htn,sizeOf,typeInfo,hi,hw,asInt,asIntOf,hc,storeCells]
theorem append_zeros (R:HRel B h loc w) {nid:Nat} (hn:h nid=none) (hnx:B.nx≤nid) {t tn:TypeId} {ty:TypeId} {e:Ty} {b:Nat} (hT:TOk P t (.sl e b)) (htn:P.underlying tn=some (.int .i64)) (hb:b≤1024) (he:0<e.size)
  {k:Nat} {fr:Bool} {l:List e.den} {u0:Value} {ids:List Nat} (hids:∀ i∈ids,∃ o,h i=some o) (hl:(l++List.replicate k e.dflt).length<most)
  (hrow:(l = []∧∃ A,u0 = .slice A 0 0)∨(∃ id,ids = [id]∧h id=some (.buf e fr l)∧AtomR (viewOf B w h loc) (.own id) [u0])):
  ∃ v w',(Builtin.append_ #[t,tn] ty #[u0,.int .i64 (k:Int)]).run P w = .ok v w'∧After B h loc w (one (.own nid)) ((nid,.buf e (fr&&true) (l++List.replicate k e.dflt))::kill ids) v w':=by
 obtain⟨_,te,i,u1,u2,u3,u4⟩:=hT
 obtain⟨i2,z,j1,j2,j3,j4,_⟩:=u2.info
 obtain rfl:i=i2:=Option.some.inj (u3.symm.trans j1)
 have hzs:z.cells.size=e.size:=by rw [←zeroCells_length e,←j4]; simp
 have hlk:(l++List.replicate k e.dflt).length=l.length+k:=by rw [List.length_append,List.length_replicate]
 rw [hlk] at hl
 simp only [most] at hl
 have empty:∀ A,l = []→u0 = .slice A 0 0→∃ v w',(Builtin.append_ #[t,tn] ty #[u0,.int .i64 (k:Int)]).run P w = .ok v w'∧After B h loc w (one (.own nid)) ((nid,.buf e (fr&&true) (l++List.replicate k e.dflt))::kill ids) v w':=by
  rintro A rfl rfl
  rw [List.nil_append]
  rcases Nat.eq_zero_or_pos k with rfl | hk
  ·refine ⟨_, _, run_append_none u1 htn u3 A 0 0 (Nat.le_refl _), ?_⟩
   refine After.new R hn hnx none w _ ids rfl rfl rfl (Nat.le_refl _) hids (fun _ _ _=>rfl) (by simp) fun V _ _ hl2 hh _=>⟨ObjR.mkNone hl2,one_R rfl ?_ (by simp)⟩
   simp only [AtomR,hh,hl2]; exact⟨⟨A,rfl⟩,rfl⟩
  ·simp only [List.length_nil, Nat.zero_add] at hl
   have hby:k*i.bytes≤1073741824*1024:=Nat.mul_le_mul (by omega) (by omega)
   have hge:=grownCap_ge w k 0 te
   have hold:(Builtin.firstCells i.size 0 (.slice A 0 0)).run P w.drew = .ok ([]:List Value).toArray w.drew:=by
    cases A <;> simp [Builtin.firstCells,loadCells,loadCellsFrom]
   have hr:=Lib.run_append_grow_zeros (P:=P) w t tn ty te i z .i64 .i64 u1 htn u3 j3 A 0 0 [] hold k hk (by omega) (by omega) (by omega) (by omega) (growslice_fits (by omega) (by rw [Nat.zero_add]; omega))
   simp only [Nat.zero_add] at hr
   refine⟨_,_,hr,?_⟩
   have:=After.row R hn hnx (t:=e) (fr:=fr&&true) (l:=List.replicate k e.dflt) ids hids ((([]:List Value).toArray++Builtin.zeroCells z.cells k)++Builtin.zeroCells z.cells (grownCap w k 0 te-k)) te (w.drawn+1)
    (grownCap w k 0 te) (by rw [List.length_replicate]; exact hge) (by
     simp only [Array.size_append,List.size_toArray,size_zeroCells,hzs,List.length_nil,Nat.zero_add,←Nat.add_mul]
     exact Nat.mul_le_mul_right _ (by omega)) (fun V S=>by
     have:=rows_in (zeros_rows (m:=V.mem (fr&&true)) j4 k) [] (Builtin.zeroCells z.cells (grownCap w k 0 te-k)).toList
     intro i x hx'
     have:=this i x hx'
     simpa using this)
   rw [List.length_replicate] at this
   exact this
 rcases hrow with ⟨hl0,A,hu0⟩ | ⟨id,rfl,hh,hown⟩
 ·exact empty A hl0 hu0
 ·rcases hown.own_buf hh with ⟨hL, ⟨A, e1⟩, hl0⟩ | ⟨L, cap0, hL, e1, hcap0, hfit0⟩
  ·exact empty A hl0 (by simpa using e1)
  ·obtain rfl : u0 = .slice (some ⟨L.blk, L.off, none⟩) l.length cap0 := by simpa using e1
   obtain⟨cc,el,hc,hsz,hfit,hx⟩:=(R.objs id _ hh).buf hL
   obtain⟨hol,horows⟩:=rows_of hx
   have lives:LivesAt h loc id L.blk:=⟨_,L,hh,rfl,hL,rfl⟩
   have hcl:cc.toList.length=cc.size:=Array.length_toList
   have hnl:(Builtin.zeroCells z.cells k).toList.length=k*e.size:=by rw [Array.length_toList,size_zeroCells,hzs]
   have hone:∀ u∈(Builtin.zeroCells z.cells k).toList,u.oneCell'=true:=piece_len (l:=List.replicate k e.dflt) (by rw [List.length_replicate]; exact hnl) (zeros_rows (m:=fun _ _=>True) j4 k)
   rcases Nat.eq_zero_or_pos k with rfl | hk
   ·refine ⟨_, _, run_append_none u1 htn u3 _ _ cap0 hcap0, ?_⟩
    rw [List.replicate_zero,List.append_nil]
    refine After.new R hn hnx (some L) w _ [id] rfl rfl rfl (Nat.le_refl _) hids (fun _ _ _=>rfl) (fun L' e=>?_) fun V hV hsub hl2 hh2 _=>⟨ObjR.mkBuf hl2 ⟨cc,el,hc,hsz,hfit,fun i x hx'=>?_⟩,one_R rfl ?_ (by simp)⟩
    ·obtain rfl:=Option.some.inj e; exact⟨(R.blk _ _ lives).1,.inr ⟨id,by simp,lives⟩⟩
    ·have k := (hx i x hx').mono (hV.mem fr)
     rw [Bool.and_true]; exact k
    ·simp only [AtomR,hh2,hl2]; exact⟨cap0,rfl,hcap0,hfit0⟩
   ·have hw : IntKind.i64.wrap (k : Int) = k := by rw [IntKind.wrap_i64]; omega
    by_cases hroom:l.length+k≤cap0
    ·have hk' : (l.length + k) * e.size ≤ cap0 * e.size := Nat.mul_le_mul_right _ hroom
     rw [Nat.add_mul] at hk'
     have hst:=run_storeCells_at P L.blk (L.off+l.length*e.size) el (Builtin.zeroCells z.cells k).toList 0 cc w hc (by omega) hone
     rw [Nat.add_zero] at hst
     have hneg:¬ ((k:Int)<0):=by omega
     have h48i:¬ (281474976710656<(k:Int)*(i.bytes:Int)):=by
      rw [←Int.natCast_mul]
      have hby:k*i.bytes≤1073741824*1024:=Nat.mul_le_mul (by omega) (by omega)
      omega
     have hns:¬ (k*e.size=0):=Nat.mul_ne_zero (by omega) (by omega)
     have hr:(Builtin.append_ #[t,tn] ty #[.slice (some ⟨L.blk,L.off,none⟩) l.length cap0,.int .i64 (k:Int)]).run P w =
       .ok (.slice (some ⟨L.blk,L.off,none⟩) (l.length+k) cap0) (w.setRow L.blk (cc.toList.take (L.off+l.length*e.size)++(Builtin.zeroCells z.cells k).toList++cc.toList.drop (L.off+l.length*e.size+(Builtin.zeroCells z.cells k).toList.length)).toArray):=by
      simp [Builtin.append_,run_underlying u1,run_underlying htn,sizeOf,typeInfo,zeroValue,u3,j2,j3,asInt,asIntOf,hw,hneg,h48i,hns,hroom,add_at] at hst ⊢
      simp [hst]
     refine⟨_,_,hr,?_⟩
     have hlist:∀ (A:List Value),A.toArray.toList=A:=fun _=>rfl
     rw [show l.length+k=(l++List.replicate k e.dflt).length by simp]
     refine After.new R hn hnx (some L) _ _ [id] rfl rfl rfl (by simp) hids (fun b _ hb=>setRow_other _ _ _ _ fun e=>hb id (by simp) (e ▸ lives)) (fun L' e=>?_) fun V hV hsub hl2 hh2 _=>
      ⟨ObjR.mkBuf hl2 ⟨_,el,setRow_heap _ _ cc _ el _ hc,?_,?_,fun i x hx'=>?_⟩,one_R rfl ?_ (by simp)⟩
     ·obtain rfl:=Option.some.inj e; exact⟨by have:=(R.blk _ _ lives).1; simpa using this,.inr ⟨id,by simp,lives⟩⟩
     ·rw [←hsz]; simp only [List.size_toArray,List.length_append,List.length_take,List.length_drop]; omega
     ·rw [hlk,Nat.add_mul]; omega
     ·rw [hlist, Bool.and_true]
      have both:=(horows.mono (hV.mem fr)).append (zeros_rows (m:=V.mem fr) j4 k) hol
      have:=rows_in both (cc.toList.take L.off) (cc.toList.drop (L.off+l.length*e.size+(Builtin.zeroCells z.cells k).toList.length)) i x hx'
      have hto:(cc.toList.take L.off).length=L.off:=by rw [List.length_take]; omega
      rw [hto] at this
      have split:cc.toList.take (L.off+l.length*e.size)=cc.toList.take L.off++(cc.toList.drop L.off).take (l.length*e.size):=by rw [List.take_add]
      rw [split,List.append_assoc (cc.toList.take L.off)]
      exact this
     ·simp only [AtomR,hh2,hl2]; exact⟨cap0,rfl,by rw [hlk]; exact hroom,hfit0⟩
    ·have hby : (l.length + k) * i.bytes ≤ 1073741824 * 1024 := Nat.mul_le_mul (by omega) (by omega)
     have holds:Lies w L.blk L.off ((cc.toList.drop L.off).take (l.length*e.size)):=Lies.take hc _ _
     have hold:(Builtin.firstCells i.size l.length (.slice (some ⟨L.blk,L.off,none⟩) l.length cap0)).run P w.drew = .ok ((cc.toList.drop L.off).take (l.length*e.size)).toArray w.drew:=
      run_firstCells_some (P:=P) w.drew i.size l.length ⟨L.blk,L.off,none⟩ l.length cap0 _ (by rw [hol,j2]) (by simpa using holds.cell)
     have hb1:k*i.bytes≤(l.length+k)*i.bytes:=Nat.mul_le_mul_right _ (by omega)
     have hr:=Lib.run_append_grow_zeros (P:=P) w t tn ty te i z .i64 .i64 u1 htn u3 j3 (some ⟨L.blk,L.off,none⟩) l.length cap0 _ hold k hk (by omega) (by omega) (by omega) (by omega) (growslice_fits (by omega) (by omega))
     have hge:=grownCap_ge w (l.length+k) cap0 te
     refine⟨_,_,hr,?_⟩
     have:=After.row R hn hnx (t:=e) (fr:=fr&&true) (l:=l++List.replicate k e.dflt) [id] hids
      (((cc.toList.drop L.off).take (l.length*e.size)).toArray++Builtin.zeroCells z.cells k++Builtin.zeroCells z.cells (grownCap w (l.length+k) cap0 te-(l.length+k))) te (w.drawn+1)
      (grownCap w (l.length + k) cap0 te) (by rw [hlk]; exact hge) (by
       simp only [Array.size_append,List.size_toArray,size_zeroCells,hzs,hol,←Nat.add_mul]
       exact Nat.mul_le_mul_right _ (by omega)) (fun V S=>by
       have h1:Rows (V.mem (fr&&true)) e l ((cc.toList.drop L.off).take (l.length*e.size)):=by rw [Bool.and_true]; exact horows.mono (S.le.mem fr)
       have both:=h1.append (zeros_rows (m:=V.mem (fr&&true)) j4 k) hol
       have:=rows_in both [] (Builtin.zeroCells z.cells (grownCap w (l.length+k) cap0 te-(l.length+k))).toList
       intro i x hx'
       have:=this i x hx'
       simpa using this)
     rw [hlk] at this
     exact this
theorem op_buildSlice (R:HRel B h loc w) (hg:∀ id o,g id=some o→h id=some o) {nid:Nat} (hn:h nid=none) (hnx:B.nx≤nid) {t:TypeId} {e:Ty} {b n:Nat} (hT:TOk P t (.sl e b)) {vs:List (Nat×V1)} {us:List (Nat×Value)}
  (k:PartsR (viewOf B w h loc) vs us) (hd:distinctKeys vs=true) (hb:below n vs=true) (hsz:n*e.size≤16777216) {x:Got (.sl e)} (hf:fillElems vs g e 0 n=some x):
  ∃ v w',(Instr.buildSlice t n us.toArray).run P w = .ok v w'∧After B h loc w (one (.own nid)) ((nid,.buf e x.fr x.x)::kill x.ids) v w':=by
 obtain⟨_,te,i,u1,u2,u3,_⟩:=hT
 obtain⟨i2,z,j1,j2,j3,j4,_⟩:=u2.info
 obtain⟨out,f1,f2,f3,f4,f5⟩:=fill_elems R hg k hd hb hf (madeCells_flatten j4 n)
 have hrun:(Instr.buildSlice t n us.toArray).run P w = .ok (.slice (some ⟨w.heap.size,0,none⟩) n n) (w.alloc (.cells out te)):=by
  have hle:¬ (16777216<n*e.size):=by omega
  by_cases h0:n*e.size=0
  ·have hm : madeCells z.cells 0 = #[] := by simp [madeCells]
   rw [h0,hm] at f1
   simp [Instr.buildSlice,run_underlying u1,run_sizeOf' j1,j2,h0,Array.range_zero',f1,newRow]
  ·simp only [madeCells] at f1
   simp [Instr.buildSlice,run_underlying u1,run_sizeOf' j1,j2,h0,hle,zeroValue,typeInfo,j1,j3,f1,newRow]
 refine⟨_,_,hrun,?_⟩
 have:=After.row R hn hnx (t:=e) (fr:=x.fr) (l:=x.x) x.ids f5 out te w.drawn n (Nat.le_of_eq f3) (by rw [f4]; exact Nat.le_refl _) (fun V S=>f2 V S.toSeesM)
 rw [show List.length (α:=e.den) x.x=n from f3] at this
 exact this
variable {o:Oper} {ρ:Operand→Value} {val:Operand→AVal} {T:Nat→Option TD}
theorem V1sR.get {V:View}:∀ {xs:List V1} {vs:List Value} {i:Nat} {x:V1},V1sR V xs vs→xs[i]? = some x→∃ v,vs[i]? = some v∧V1R V x v:=by
 intro xs
 induction xs with
 | nil => intro vs i x _ hx; simp at hx
 | cons a xs ih =>
  rintro vs i x ⟨v,r,rfl,k1,k2⟩ hx
  cases i with
  | zero => obtain rfl : a = x := by simpa using hx
            exact⟨v,rfl,k1⟩
  | succ i => obtain ⟨u, h1, h2⟩ := ih k2 (by simpa using hx)
              exact⟨u,by simpa using h1,h2⟩
theorem run_v {s:Sem Value} {u:Value} {w':World} (k:s.run P w = .ok u w'):(do pure (Next.value (←s)):Sem Next).run P w = .ok (.value u) w':=by simp [k]
theorem capIds_R {V:View}:∀ {xs:List Operand} {ids:List Nat},(∀ x,VR V (val x) (ρ x))→capIds g (xs.map val)=some ids→
  (xs.map ρ).length=ids.length∧∀ (n i:Nat),ids[n]? = some i→∃ v,(xs.map ρ)[n]? = some v∧AtomR V (.ptr i 0 0) [v]∧∃ asq,g i=some (.box asq):=by
 intro xs
 induction xs with
 | nil => intro ids _ hc; obtain rfl := Option.some.inj hc; exact ⟨rfl, by simp⟩
 | cons x xs ih =>
  intro ids hv hc
  simp only [List.map_cons,capIds] at hc
  split at hc
  ·rename_i id i off hx
   split at hc
   ·rename_i _ _ asq l hgi hl
    obtain rfl:=Option.some.inj hc
    obtain⟨k1,k2⟩:=ih hv hl
    refine⟨by simpa using k1,fun n i hi=>?_⟩
    cases n with
    | zero =>
     obtain rfl:id=i:=by simpa using hi
     refine⟨ρ x,by simp,?_⟩
     have:=hv x
     rw [hx] at this
     exact⟨this.2.1,asq,hgi⟩
    | succ n => simpa using k2 n i (by simpa using hi)
   ·cases hc
  ·cases hc
theorem ptr_cap {V : View} {i : Nat} {v : Value} (k : AtomR V (.ptr i 0 0) [v]) (hb : ∃ asq, V.h i = some (.box asq)) : match V.h i with
        | some (.box _) => ∃ L, V.loc i = some L ∧ v = L.ptr 0
        | some .dead => v.oneCell' = true
        | _ => False := by
 obtain⟨asq,hb⟩:=hb
 obtain⟨L,hL,e⟩:=k.ptr_box hb
 rw [hb]
 exact⟨L,hL,by simpa [IsPtr,Loc.ptr] using e⟩
theorem natEq_spec {a b:Nat} {x:PLift (a=b)} (_:natEq a b=some x):a=b:=x.down
structure Hyp (P:Program) (B:Base) (h g:Nat→Option Obj') (loc:Nat→Option Loc) (w:World) (T:Nat→Option TD) (val:Operand→AVal) (ρ:Operand→Value) (nid:Nat):Prop where
 hT:∀ t d,T t=some d→TOk P t d
 R:HRel B h loc w
 hg:∀ id o,g id=some o→h id=some o
 hnx:B.nx≤nid
 hv:∀ x,VR (viewOf B w h loc) (val x) (ρ x)
 hρ:∀ c,ρ (.const c)=c
variable {nid:Nat} {c:Bool} {v:AVal} {hs:Hp}
theorem Hyp.lit (H:Hyp P B h g loc w T val ρ nid) {x:Operand} {a:Atom} (e:val x = .v (.one a)):AtomR (viewOf B w h loc) a [ρ x]:=by
 have:=H.hv x; rw [e] at this; exact this.2.1
theorem Hyp.litV (H:Hyp P B h g loc w T val ρ nid) {x:Operand} {y:V1} (e:val x = .v y):V1R (viewOf B w h loc) y (ρ x):=by
 have:=H.hv x; rw [e] at this; exact this
theorem Hyp.int (H:Hyp P B h g loc w T val ρ nid) {x:Operand} {k:IntKind} {n:Int} (e:val x = .v (.one (.int k n))):ρ x = .int k n:=by
 have:=H.lit e; simpa [AtomR] using this
theorem Hyp.bool (H:Hyp P B h g loc w T val ρ nid) {x:Operand} {b:Bool} (e:val x = .v (.one (.bool b))):ρ x = .bool b:=by
 have:=H.lit e; simpa [AtomR] using this
theorem run_equalIn_bool (d:Nat) {t:TypeId} (hu:P.underlying t=some .bool) (a b:Bool):(Op.equalIn (d+1) t (.bool a) (.bool b)).run P w = .ok (a==b) w:=by
 simp [Op.equalIn,run_underlying hu]
theorem run_equal_bool {t:TypeId} (hu:P.underlying t=some .bool) (a b:Bool):(Op.equal t (.bool a) (.bool b)).run P w = .ok (a==b) w:=run_equalIn_bool 9999 hu a b
set_option maxHeartbeats 1000000 in
theorem act_move (H:Hyp P B h g loc w T val ρ nid) {x:Operand} (ho:o.op = .move x) (ha:act T (.move x) val g nid = .ok c v hs) (hc:c=true) (hfr:nid∈keys hs→g nid=none→h nid=none):OpOk P B o ρ w h loc v hs:=by
 simp only [act] at ha
 simp only [Out.ok.injEq] at ha
 obtain⟨_,rfl,rfl⟩:=ha
 exact OpOk.pure H.R (by simp [execOp,ho]) (H.hv x)
set_option maxHeartbeats 1000000 in
theorem act_assign (H:Hyp P B h g loc w T val ρ nid) {x:Operand} (ho:o.op = .assign x) (ha:act T (.assign x) val g nid = .ok c v hs) (hc:c=true) (hfr:nid∈keys hs→g nid=none→h nid=none):OpOk P B o ρ w h loc v hs:=by
 simp only [act] at ha
 simp only [Out.ok.injEq] at ha
 obtain⟨_,rfl,rfl⟩:=ha
 exact OpOk.pure H.R (by simp [execOp,ho]) (H.hv x)
set_option maxHeartbeats 1000000 in
theorem act_pick (H:Hyp P B h g loc w T val ρ nid) {p:Operand} {a:Operand} {b:Operand} (ho:o.op = .pick p a b) (ha:act T (.pick p a b) val g nid = .ok c v hs) (hc:c=true) (hfr:nid∈keys hs→g nid=none→h nid=none):OpOk P B o ρ w h loc v hs:=by
 simp only [act] at ha
 split at ha
 ·rename_i t hp
  simp only [Out.ok.injEq] at ha
  obtain⟨_,rfl,rfl⟩:=ha
  exact OpOk.pure H.R (by simp [execOp,ho,H.bool hp,asBool]) (pick_R (H.hv a) (H.hv b))
 ·cases ha
set_option maxHeartbeats 1000000 in
theorem act_alloc (H:Hyp P B h g loc w T val ρ nid) {t:TypeId} (ho:o.op = .alloc t) (ha:act T (.alloc t) val g nid = .ok c v hs) (hc:c=true) (hfr:nid∈keys hs→g nid=none→h nid=none):OpOk P B o ρ w h loc v hs:=by
 simp only [act] at ha
 split at ha
 ·rename_i hd
  simp only [newObj] at ha
  split at ha
  ·rename_i hn
   simp only [Out.ok.injEq] at ha
   obtain⟨_,rfl,rfl⟩:=ha
   exact op_allocC H.R (hfr (by simp [keys]) hn) H.hnx ho (H.hT _ _ hd)
  ·cases ha
 ·rename_i d _ hd
  split at ha
  ·rename_i u hu
   simp only [newObj] at ha
   split at ha
   ·rename_i hn
    simp only [Out.ok.injEq] at ha
    obtain⟨_,rfl,rfl⟩:=ha
    exact op_alloc H.R (hfr (by simp [keys]) hn) H.hnx ho ((H.hT _ _ hd).iok hu)
   ·cases ha
  ·cases ha
 ·cases ha
set_option maxHeartbeats 1000000 in
theorem act_box (H:Hyp P B h g loc w T val ρ nid) {t:TypeId} {x:Operand} (ho:o.op = .box t x) (ha:act T (.box t x) val g nid = .ok c v hs) (hc:c=true) (hfr:nid∈keys hs→g nid=none→h nid=none):OpOk P B o ρ w h loc v hs:=by
 simp only [act] at ha
 split at ha
 ·rename_i y hy
  simp only [newObj] at ha
  split at ha
  ·rename_i hn
   simp only [Out.ok.injEq] at ha
   obtain⟨_,rfl,rfl⟩:=ha
   exact op_box H.R (hfr (by simp [keys]) hn) H.hnx ho (H.litV hy)
  ·cases ha
 ·cases ha
set_option maxHeartbeats 1000000 in
theorem act_build (H:Hyp P B h g loc w T val ρ nid) {t:TypeId} {ps:Array (Nat×Operand)} (ho:o.op = .build t ps) (ha:act T (.build t ps) val g nid = .ok c v hs) (hc:c=true) (hfr:nid∈keys hs→g nid=none→h nid=none):OpOk P B o ρ w h loc v hs:=by
 simp only [act] at ha
 have parts:∀ vs,partsOf val ps.toList=some vs→PartsR (viewOf B w h loc) vs (ps.toList.map fun p=>(p.1,ρ p.2)):=fun vs hp=>partsOf_R (fun p _=>H.hv p.2) hp
 have hps:(ps.map fun(i,x)=>(i,ρ x))=(ps.toList.map fun p=>(p.1,ρ p.2)).toArray:=by apply Array.ext'; simp
 split at ha
 ·rename_i fs vs hd hp
  split at ha
  ·rename_i asq hk hf
   simp only [Bool.and_eq_true] at hk
   simp only [Out.ok.injEq] at ha
   obtain⟨_,rfl,rfl⟩:=ha
   obtain⟨cells,r1,r2⟩:=op_struct H.R (H.hT _ _ hd) (parts vs hp) hk.1 hk.2 hf
   exact OpOk.pure H.R (by unfold execOp; rw [ho]; exact run_v (by rw [hps]; exact r1)) ⟨cells.toList,by simp,r2⟩
  ·cases ha
 ·rename_i n e vs hd hp
  split at ha
  ·rename_i x fr hk hf
   simp only [Bool.and_eq_true] at hk
   simp only [Out.ok.injEq] at ha
   obtain⟨_,rfl,rfl⟩:=ha
   obtain⟨hi,te,u1,u2⟩:=H.hT _ _ hd
   obtain⟨it,z,i1,i2,i3,i4,_⟩:=hi.info
   obtain⟨ie,_,j1,j2,_⟩:=u2.info
   obtain⟨out,f1,f2,f3,f4,_⟩:=fill_elems H.R H.hg (parts vs hp) hk.1 hk.2 hf (cells:=z.cells) i4
   have hb:(Instr.build t (ps.toList.map fun p=>(p.1,ρ p.2)).toArray).run P w = .ok (.agg out) w:=by
    refine run_build w t _ out ?_
    simp only [Program.built,i1,u1,i3,j1,j2]
    exact f1
   have hrow:=f2 _ Sees.self.toSeesM
   refine OpOk.pure H.R (by unfold execOp; rw [ho]; exact run_v (by rw [hps]; exact hb)) ⟨out.toList,by simp,out.toList,[],by simp,?_,⟨f3,?_,hrow⟩,rfl⟩
   ·rw [Array.length_toList,f4]; rfl
   ·rw [Array.length_toList,f4]
  ·cases ha
 ·cases ha
set_option maxHeartbeats 1000000 in
theorem act_buildSlice (H:Hyp P B h g loc w T val ρ nid) {t:TypeId} {n:Nat} {ps:Array (Nat×Operand)} (ho:o.op = .buildSlice t n ps) (ha:act T (.buildSlice t n ps) val g nid = .ok c v hs) (hc:c=true) (hfr:nid∈keys hs→g nid=none→h nid=none):OpOk P B o ρ w h loc v hs:=by
 simp only [act] at ha
 have parts:∀ vs,partsOf val ps.toList=some vs→PartsR (viewOf B w h loc) vs (ps.toList.map fun p=>(p.1,ρ p.2)):=fun vs hp=>partsOf_R (fun p _=>H.hv p.2) hp
 have hps:(ps.map fun(i,x)=>(i,ρ x))=(ps.toList.map fun p=>(p.1,ρ p.2)).toArray:=by apply Array.ext'; simp
 split at ha
 ·rename_i e b vs hd hp
  split at ha
  ·rename_i x fr ids hk hf
   simp only [Bool.and_eq_true] at hk
   simp only [newObj] at ha
   split at ha
   ·rename_i hn
    simp only [Out.ok.injEq] at ha
    obtain⟨_,rfl,rfl⟩:=ha
    obtain⟨u,w',r1,r2⟩:=op_buildSlice H.R H.hg (hfr (by simp [keys]) hn) H.hnx (H.hT _ _ hd) (parts vs hp) hk.1.1 hk.1.2 (Nat.le_of_ble_eq_true hk.2) hf
    exact⟨u,w',.inl (by unfold execOp; rw [ho]; exact run_v (by rw [hps]; exact r1)),r2⟩
   ·cases ha
  ·cases ha
 ·cases ha
set_option maxHeartbeats 1000000 in
theorem act_load (H:Hyp P B h g loc w T val ρ nid) {t:TypeId} {a:Operand} (ho:o.op = .load t a) (ha:act T (.load t a) val g nid = .ok c v hs) (hc:c=true) (hfr:nid∈keys hs→g nid=none→h nid=none):OpOk P B o ρ w h loc v hs:=by
 simp only [act] at ha
 split at ha
 ·rename_i d p hd hp
  obtain⟨_,rfl,b,off,x,y,e,r1,rfl,r2⟩:=loadAt_R H.R H.hg (H.hT _ _ hd) (H.lit hp) ha
  obtain e2:ρ a = .pointer (some ⟨b,off,none⟩):=by simpa [IsPtr] using e
  exact OpOk.pure H.R (by simp only [execOp,ho,e2,Instr.loadAt,Instr.sureAddr,Sem.run_bind,Sem.run_pure,r1,Result.andThen_ok]) r2
 ·cases ha
set_option maxHeartbeats 1000000 in
theorem act_store (H:Hyp P B h g loc w T val ρ nid) {t:TypeId} {a:Operand} {x:Operand} (ho:o.op = .store t a x) (ha:act T (.store t a x) val g nid = .ok c v hs) (hc:c=true) (hfr:nid∈keys hs→g nid=none→h nid=none):OpOk P B o ρ w h loc v hs:=by
 simp only [act] at ha
 split at ha
 ·rename_i d p y hd hp hy
  obtain⟨_,rfl,b,off,w',e,r1,r2⟩:=storeAt_R H.R H.hg (H.hT _ _ hd) (H.lit hp) (H.litV hy) ha
  obtain e2:ρ a = .pointer (some ⟨b,off,none⟩):=by simpa [IsPtr] using e
  exact⟨undef,w',.inr ⟨by simp only [execOp,ho,e2,Instr.storeAt,Instr.sureAddr,Sem.run_bind,Sem.run_pure,r1,Result.andThen_ok],rfl⟩,r2⟩
 ·cases ha
set_option maxHeartbeats 1000000 in
theorem act_nilCheck (H:Hyp P B h g loc w T val ρ nid) {x:Operand} (ho:o.op = .nilCheck x) (ha:act T (.nilCheck x) val g nid = .ok c v hs) (hc:c=true) (hfr:nid∈keys hs→g nid=none→h nid=none):OpOk P B o ρ w h loc v hs:=by
 simp only [act] at ha
 have go:∀ (A:Addr),ρ x = .pointer (some A)→(execOp ρ o).run P w = .ok (.value (ρ x)) w:=fun A e=>by simp [execOp,ho,e]
 split at ha
 ·rename_i id i off e
  have k:=H.lit e
  split at ha
  ·rename_i asq hgi
   simp only [Out.ok.injEq] at ha
   obtain⟨_,rfl,rfl⟩:=ha
   obtain⟨L,_,e2⟩:=k.ptr_box (H.hg _ _ hgi)
   exact OpOk.pure H.R (go _ (by simpa [IsPtr] using e2)) (one_R rfl k (by simp))
  ·rename_i t fr l hgi
   simp only [Out.ok.injEq] at ha
   obtain⟨_,rfl,rfl⟩:=ha
   obtain⟨_,L,_,e2⟩:=k.ptr_buf (H.hg _ _ hgi)
   exact OpOk.pure H.R (go _ (by simpa [IsPtr] using e2)) (one_R rfl k (by simp))
  ·cases ha
 ·rename_i t fr y e
  simp only [Out.ok.injEq] at ha
  obtain⟨_,rfl,rfl⟩:=ha
  have k:=H.lit e
  have k':=k
  obtain⟨b,off,cc,e2,_⟩:=k'
  exact OpOk.pure H.R (go _ (by simpa using e2)) (one_R rfl k (by simp))
 ·rename_i f cs e
  simp only [Out.ok.injEq] at ha
  obtain⟨_,rfl,rfl⟩:=ha
  have k:=H.lit e
  have k':=k
  obtain⟨vs,e2,_⟩:=k'
  obtain e3:ρ x=_:=by simpa using e2
  exact OpOk.pure H.R (u:=ρ x) (by simp [execOp,ho,e3]) (one_R rfl k (by simp))
 ·cases ha
theorem run_eqNil {t te:TypeId} (hu:P.underlying t=some (.slice te)) (d:Nat) (A:Option Addr) (k c:Nat):(Op.equalIn (d+1) t (.slice A k c) (.slice none 0 0)).run P w = .ok A.isNone w:=by
 cases A <;> simp [Op.equalIn,run_underlying hu]
set_option maxHeartbeats 1000000 in
theorem act_binOp (H:Hyp P B h g loc w T val ρ nid) {op:BinOp} {t:TypeId} {x:Operand} {y:Operand} {t2:TypeId} (ho:o.op = .binOp op t x y t2) (ha:act T (.binOp op t x y t2) val g nid = .ok c v hs) (hc:c=true) (hfr:nid∈keys hs→g nid=none→h nid=none):OpOk P B o ρ w h loc v hs:=by
 simp only [act] at ha
 split at ha
 ·rename_i k a l b hx hy
  split at ha
  ·rename_i hk0 hk
   obtain rfl:=hk0.down
   obtain⟨rfl,u,r1,r2⟩:=intOp_R (P:=P) (w:=w) op k a b t ha hc
   refine OpOk.pure H.R (u:=u) ?_ (r2 _)
   unfold execOp
   rw [ho]
   refine run_v ?_
   rw [H.int hx,H.int hy]
   have hgd:(eqGuard op t x y (.int k a) (.int k b)).run P w = .ok () w:=by
    unfold eqGuard
    split <;> simp
   simp [hgd,r1]
  ·cases ha
 ·rename_i a b hx hy
  have und:∀ tt,T tt=some (.sc .bool)→P.underlying tt=some .bool:=fun tt hh=>(H.hT _ _ hh).2.2.2 rfl
  split at ha
  ·rename_i hd
   simp only [Out.ok.injEq] at ha
   obtain⟨_,rfl,rfl⟩:=ha
   refine OpOk.pure H.R (u:=.bool (a==b)) ?_ ⟨rfl,rfl,trivial⟩
   unfold execOp
   rw [ho]
   refine run_v ?_
   rw [H.bool hx,H.bool hy]
   simp [eqGuard,binOp,run_equal_bool (und _ hd)]
  ·rename_i hd
   simp only [Out.ok.injEq] at ha
   obtain⟨_,rfl,rfl⟩:=ha
   refine OpOk.pure H.R (u:=.bool (a != b)) ?_ ⟨rfl,rfl,trivial⟩
   unfold execOp
   rw [ho]
   refine run_v ?_
   rw [H.bool hx,H.bool hy]
   simp [eqGuard,binOp,run_equal_bool (und _ hd)]
   cases a <;> cases b <;> rfl
  ·cases ha
 ·rename_i t' nb l hx hy
  split at ha
  ·rename_i e b' hd
   obtain⟨_,te,_,u1,_⟩:=H.hT _ _ hd
   have kx:=(H.lit hx).2
   have ky:ρ y = .slice none 0 0:=by have:=H.lit hy; simpa [AtomR] using this
   have hr:(Op.equal t (ρ x) (.slice none 0 0)).run P w = .ok nb w:=by
    show(Op.equalIn (9999+1) t _ _).run P w=_
    cases nb with
    | true =>
     obtain⟨k,c',e1⟩:=kx
     rw [show ρ x = .slice none k c' from by simpa using e1]
     exact run_eqNil u1 9999 none k c'
    | false =>
     obtain⟨a',k,c',e1⟩:=kx
     rw [show ρ x = .slice (some a') k c' from by simpa using e1]
     exact run_eqNil u1 9999 (some a') k c'
   have hsl:∃ A k c',ρ x = .slice A k c':=by
    cases nb with
    | true => obtain ⟨k, c', e1⟩ := kx; exact ⟨none, k, c', by simpa using e1⟩
    | false => obtain ⟨a', k, c', e1⟩ := kx; exact ⟨some a', k, c', by simpa using e1⟩
   obtain⟨A,k,c',e1⟩:=hsl
   have hgd:(eqGuard op t x y (.slice A k c') (.slice none 0 0)).run P w = .ok () w:=by cases op <;> simp [eqGuard]
   unfold eqOut at ha
   split at ha
   ·simp only [Out.ok.injEq] at ha
    obtain⟨_,rfl,rfl⟩:=ha
    refine OpOk.pure H.R (u:=.bool nb) ?_ ⟨rfl,rfl,trivial⟩
    unfold execOp
    rw [ho]
    refine run_v ?_
    rw [ky]
    rw [e1] at hr ⊢
    simp only [Sem.run_bind,hgd,Result.andThen_ok]
    simp only [binOp,Sem.run_bind,hr,Result.andThen_ok,Sem.run_pure]
   ·simp only [Out.ok.injEq] at ha
    obtain⟨_,rfl,rfl⟩:=ha
    refine OpOk.pure H.R (u:=.bool (!nb)) ?_ ⟨rfl,rfl,trivial⟩
    unfold execOp
    rw [ho]
    refine run_v ?_
    rw [ky]
    rw [e1] at hr ⊢
    simp only [Sem.run_bind,hgd,Result.andThen_ok]
    simp only [binOp,Sem.run_bind,hr,Result.andThen_ok,Sem.run_pure]
   ·cases ha
  ·cases ha
 ·rename_i asq bs hx hy
  split at ha
  ·rename_i d hd
   split at ha
   ·rename_i u hu
    split at ha
    ·rename_i x0 fx y0 fy heq hax hay
     obtain⟨hg0,hE⟩:=((H.hT _ _ hd).iok hu).eq (by rw [Bool.and_eq_true] at heq; exact heq.1)
     have kx:=H.litV hx
     have ky:=H.litV hy
     obtain⟨c1,e1,_⟩:=id kx
     obtain⟨c2,e2,_⟩:=id ky
     have hx1:=asV_R H.R H.hg kx hax Sees.self.toSeesM
     have hy1:=asV_R H.R H.hg ky hay Sees.self.toSeesM
     rw [e1] at hx1
     rw [e2] at hy1
     have hr:(Op.equal t (.agg c1.toArray) (.agg c2.toArray)).run P w = .ok (eqV u x0 y0) w:=hE _ _ _ _ _ _ w hx1 hy1
     have hgd:(eqGuard op t x y (.agg c1.toArray) (.agg c2.toArray)).run P w = .ok () w:=run_eqGuard_agg w op t x y _ _ hg0
     unfold eqOut at ha
     split at ha
     ·simp only [Out.ok.injEq] at ha
      obtain⟨_,rfl,rfl⟩:=ha
      refine OpOk.pure H.R (u:=.bool (eqV u x0 y0)) ?_ ⟨rfl,rfl,trivial⟩
      unfold execOp
      rw [ho]
      refine run_v ?_
      rw [e1,e2]
      simp only [Sem.run_bind,hgd,Result.andThen_ok]
      simp only [binOp,Sem.run_bind,hr,Result.andThen_ok,Sem.run_pure]
     ·simp only [Out.ok.injEq] at ha
      obtain⟨_,rfl,rfl⟩:=ha
      refine OpOk.pure H.R (u:=.bool (!eqV u x0 y0)) ?_ ⟨rfl,rfl,trivial⟩
      unfold execOp
      rw [ho]
      refine run_v ?_
      rw [e1,e2]
      simp only [Sem.run_bind,hgd,Result.andThen_ok]
      simp only [binOp,Sem.run_bind,hr,Result.andThen_ok,Sem.run_pure]
     ·cases ha
    ·cases ha
   ·cases ha
  ·cases ha
 ·cases ha
set_option maxHeartbeats 1000000 in
theorem act_unOp (H:Hyp P B h g loc w T val ρ nid) {op:UnOp} {t:TypeId} {x:Operand} (ho:o.op = .unOp op t x) (ha:act T (.unOp op t x) val g nid = .ok c v hs) (hc:c=true) (hfr:nid∈keys hs→g nid=none→h nid=none):OpOk P B o ρ w h loc v hs:=by
 simp only [act] at ha
 split at ha
 ·rename_i b hx
  simp only [Out.ok.injEq] at ha
  obtain⟨_,rfl,rfl⟩:=ha
  exact OpOk.pure H.R (u:=.bool (!b)) (by unfold execOp; rw [ho]; exact run_v (by rw [H.bool hx]; rfl)) ⟨rfl,rfl,trivial⟩
 ·rename_i k n hx
  simp only [Out.ok.injEq,iwrap_eq] at ha
  obtain⟨_,rfl,rfl⟩:=ha
  exact OpOk.pure H.R (u:=.int k (k.wrap (0-n))) (by unfold execOp; rw [ho]; exact run_v (by rw [H.int hx]; rfl)) ⟨rfl,rfl,trivial⟩
 ·cases ha
set_option maxHeartbeats 1000000 in
theorem act_convert (H:Hyp P B h g loc w T val ρ nid) {s:TypeId} {d:TypeId} {x:Operand} (ho:o.op = .convert s d x) (ha:act T (.convert s d x) val g nid = .ok c v hs) (hc:c=true) (hfr:nid∈keys hs→g nid=none→h nid=none):OpOk P B o ρ w h loc v hs:=by
 simp only [act] at ha
 split at ha
 ·rename_i ds k kk n hs hd hx
  simp only [Out.ok.injEq,iwrap_eq] at ha
  obtain⟨_,rfl,rfl⟩:=ha
  have h1:∃ d,P.underlying s=some d:=by
   cases ds with
   | sc _ => obtain ⟨d, k, _⟩ := (H.hT _ _ hs).1.und; exact ⟨d, k⟩
   | sl _ _ => obtain ⟨d, k, _⟩ := (H.hT _ _ hs).1.und; exact ⟨d, k⟩
   | st _ => obtain ⟨d, k, _⟩ := (H.hT _ _ hs).1.und; exact ⟨d, k⟩
   | ar _ _ => obtain ⟨d, k, _⟩ := (H.hT _ _ hs).1.und; exact ⟨d, k⟩
   | pa _ _ => obtain ⟨⟨_, d, _, _, k, _⟩, _⟩ := H.hT _ _ hs; exact ⟨d, k⟩
   | cell => obtain ⟨_, d, _, _, k, _⟩ := H.hT _ _ hs; exact ⟨d, k⟩
   | vw => obtain ⟨_, d, _, _, k, _⟩ := H.hT _ _ hs; exact ⟨d, k⟩
  obtain⟨d1,h1⟩:=h1
  have h2:=(H.hT _ _ hd).2.2.1 k rfl
  exact OpOk.pure H.R (u:=.int k (k.wrap n)) (by unfold execOp; rw [ho]; exact run_v (by rw [H.int hx]; simp [convert,run_underlying h1,run_underlying h2,Conv.intToInt])) ⟨rfl,rfl,trivial⟩
 ·cases ha
set_option maxHeartbeats 1000000 in
theorem act_slice (H : Hyp P B h g loc w T val ρ nid) {t : TypeId} {x : Operand} {lo : Option Operand} {hi : Option Operand} {mx : Option Operand} (ho : o.op = .slice t x lo hi mx) (ha : act T (.slice t x lo hi mx) val g nid = .ok c v hs) (hc : c = true) (hfr : nid ∈ keys hs → g nid = none → h nid = none) : OpOk P B o ρ w h loc v hs := by
 simp only [act] at ha
 have hz:∀ y,isZero (some y)=true→∃ k,ρ y = .int k 0:=by
  intro y hy
  simp only [isZero] at hy
  split at hy
  ·rename_i k e
   obtain rfl:=Option.some.inj e
   exact⟨k,H.hρ _⟩
  ·cases hy
 have hz:∀ y,isZero (some y)=true→∃ k,ρ y = .int k 0:=by
  intro y hy
  simp only [isZero] at hy
  split at hy
  ·rename_i k e
   obtain rfl:=Option.some.inj e
   exact⟨k,H.hρ _⟩
  ·cases hy
 split at ha
 ·rename_i e b a hd hp hok
  have hm:hi=none→mx=none:=fun e1=>by
   subst e1
   cases mx with
   | none => rfl
   | some m => cases hok
  cases hvw:vwOf T hi with
  | true =>
   rw [hvw] at ha
   cases a <;> simp only [sliceVw] at ha <;> first | (cases ha; done) | skip
   rename_i id
   split at ha
   ·rename_i t' fr l hgi
    obtain⟨u,w',r1,r2⟩:=sliceSub_R (P:=P) H.R H.hg (H.hT _ _ hd) hm (fun y _=>H.hv y) (H.lit hp) hgi ha hc
    exact⟨u,w',.inl (by unfold execOp; rw [ho]; exact run_v r1),r2⟩
   ·cases ha
  | false =>
  rw [hvw] at ha
  have ro:∀ {t':Ty} {fr:Bool} {l:List t'.den},a = .ro t' fr l→OpOk P B o ρ w h loc v hs:=by
   rintro t' fr l rfl
   obtain⟨u,w',r1,r2⟩:=sliceRo_R (P:=P) H.R H.hg (H.hT _ _ hd) hm (fun y _=>H.hv y) hz (H.lit hp) ha hc
   exact⟨u,w',.inl (by unfold execOp; rw [ho]; exact run_v r1),r2⟩
  cases a with
  | ro t' fr l => exact ro rfl
  | own id =>
   by_cases hlo:lo.map val=none
   ·have hgn : g nid = none ∧ nid ∈ keys hs := by
     simp only [sliceAt,hlo] at ha
     split at ha
     ·split at ha
      ·split at ha
       ·rename_i hn
        simp only [Out.ok.injEq] at ha
        obtain⟨_,_,rfl⟩:=ha
        exact⟨hn,by simp [keys]⟩
       ·cases ha
      ·cases ha
     ·rename_i hx _; cases hx
     ·cases ha
    obtain⟨u,w',r1,r2⟩:=sliceAt_R (P:=P) H.R H.hg (hfr hgn.2 hgn.1) H.hnx (H.hT _ _ hd) hm (fun y _=>H.hv y) hz (H.lit hp) ha hc
    exact⟨u,w',.inl (by unfold execOp; rw [ho]; exact run_v r1),r2⟩
   ·simp only [sliceAt] at ha
    split at ha
    ·rename_i hx _; exact(hlo hx).elim
    ·rename_i lv t' fr l hx hgi
     obtain⟨u,w',r1,r2⟩:=sliceSub_R (P:=P) H.R H.hg (H.hT _ _ hd) hm (fun y _=>H.hv y) (H.lit hp) hgi ha hc
     exact⟨u,w',.inl (by unfold execOp; rw [ho]; exact run_v r1),r2⟩
    ·cases ha
  | rk t' nb l =>
   simp only [sliceAt] at ha
   split at ha
   ·rename_i he hzz
    simp only [Out.ok.injEq] at ha
    obtain⟨rfl,rfl,rfl⟩:=ha
    simp only [Bool.and_eq_true] at hzz
    obtain⟨⟨z1,z2⟩,z3⟩:=hzz
    obtain⟨⟨A,cap,e1,_,_⟩,_⟩:=H.lit hp
    obtain⟨m,rfl⟩:∃ m,mx=some m:=by cases mx with | none=>cases z1 | some m=>exact⟨m,rfl⟩
    obtain⟨hh,rfl⟩:∃ m,hi=some m:=by cases hi with | none=>cases z2 | some m=>exact⟨m,rfl⟩
    obtain rfl:lo=none:=by simpa using z3
    have hr:=run_sliceAt (w:=w) (H.hT _ _ hd) (A:=A) (ln:=len l) (cap:=cap) (lo:=none) (hi:=some (ρ hh)) (mx:=some (ρ m)) (a:=0) (b:=0) (c:=0) rfl (hz _ z2) (hz _ z1) (by omega) (by omega) (by omega) (by omega) (by simp)
    refine OpOk.pure H.R (u:=.slice A 0 0) ?_ (one_R rfl ⟨_,rfl⟩ (by simp))
    unfold execOp; rw [ho]
    refine run_v ?_
    rw [show ρ x = .slice A (len l) cap from by simpa using e1]
    exact hr
   ·cases ha
  | _ => cases ha
 ·rename_i n e id i off hd _
  split at ha
  ·rename_i hgi hx
   split at ha
   ·rename_i p m u fr l q hcut
    split at ha
    ·rename_i hn hu
     obtain rfl:=natEq_spec hn
     obtain rfl:=eq?_spec hu
     simp only [Out.ok.injEq] at ha
     obtain⟨_,rfl,rfl⟩:=ha
     have hh:=H.hg _ _ hgi
     obtain⟨L,hL,e1⟩:=(H.lit hx).ptr_box hh
     obtain⟨_,te,u1,u3⟩:=H.hT _ _ hd
     obtain⟨i2,z,j1,j2,_⟩:=u3.info
     have e1:ρ x = .pointer (some ⟨L.blk,L.off+off,none⟩):=by simpa [IsPtr] using e1
     refine OpOk.pure H.R (u:=.slice (some ⟨L.blk,L.off+off,none⟩) n n) ?_ (one_R rfl ?_ (by simp))
     ·unfold execOp; rw [ho]
      refine run_v ?_
      rw [e1]
      simp [Instr.sliceAt,run_underlying u1,Instr.sureAddr,Instr.sliceBounds,run_sizeOf' j1]
      try (intro _; rw [add_at]; rfl)
     ·simp only [AtomR, viewOf, hh]
      exact⟨L,p,n,u,fr,l,q,hL,hcut,rfl⟩
    ·cases ha
   ·cases ha
  ·cases ha
 ·cases ha
theorem cpy_len {α:Type} {l y:List α} {lo hi:Nat} (k1:lo≤hi) (k2:hi≤l.length):(cpy l lo hi y).length=l.length:=by
 unfold cpy; simp only [List.length_append,List.length_take,List.length_drop]; omega
set_option maxHeartbeats 1000000 in
theorem copy_R (H:Hyp P B h g loc w T val ρ nid) {x y:Operand} {t t2:TypeId} (ho:o.op = .call { callee:=.builtin .copy,args:=#[x,y],argTypes:=#[t,t2] })
  {e:Ty} {b:Nat} (hT:TOk P t (.sl e b)) (hsc:scTy e=true) {id:Nat} {fr:Bool} {l:List e.den} (hh:h id=some (.buf e fr l)) {lo hi:Nat} (k1:lo≤hi) (k2:hi≤l.length)
  {A:Option Addr} {cap:Nat} (k3:ρ x = .slice A (hi-lo) cap) (k5:hi=lo∨∃ L,loc id=some L∧A=some ⟨L.blk,L.off+lo*e.size,none⟩)
  {a:Atom} {r:Got (.sl e)} (ha:AtomR (viewOf B w h loc) a [ρ y]) (hr:asAtom g (.sl e) a=some r):
  OpOk P B o ρ w h loc (one (.int .i64 (min (hi-lo) (List.length (α:=e.den) r.x):Nat))) [(id,.buf e fr (cpy l lo hi r.x))]:=by
 obtain⟨rx,rfr,rids⟩:=r
 obtain⟨R,hR⟩:∃ R:List e.den,R=rx:=⟨rx,rfl⟩
 subst hR
 have hs1:e.size=1:=by cases e <;> first | rfl | cases hsc
 obtain⟨_,te,i,u1,u2,u3,u4⟩:=hT
 obtain⟨i2,z,j1,j2,j3,j4,_⟩:=u2.info
 have hsz : (P.info? te).map (·.size) = some 1 := by rw [j1, ← hs1, ← j2]; rfl
 obtain⟨A2,cap2,q1,q2,q3⟩:=asRow_R H.R H.hg ha hr
 have q1:ρ y = .slice A2 R.length cap2:=q1
 have q3:R.length=0∨∃ b o c,A2=some ⟨b,o,none⟩∧cellsAt w b c∧∀ i x,nth R i=some x→Has ((viewOf B w h loc).mem rfr) e x ((c.toList.drop (o+i*e.size)).take e.size):=q3
 have hval:∀ n:Nat,VR (viewOf B w h loc) (one (.int .i64 (n:Int))) (goInt n):=fun n=>⟨rfl,rfl,trivial⟩
 have go:∀ (u:Value) (w':World),(Builtin.copy_ #[t,t2] o.type #[.slice A (hi-lo) cap,.slice A2 R.length cap2]).run P w = .ok u w'→(execOp ρ o).run P w = .ok (.value u) w':=fun u w' hc=>by
  simp only [execOp,ho,resolve,invoke,builtin,k3,q1,List.map_toArray,List.map_cons,List.map_nil,Sem.run_bind,Sem.run_pure,Result.andThen_ok,hc]
 by_cases hn:min (hi-lo) R.length=0
 ·have same : cpy l lo hi R = l := by
   have:R.take (hi-lo) = []:=List.eq_nil_of_length_eq_zero (by rw [List.length_take]; exact hn)
   unfold cpy
   rw [hn,this,Nat.add_zero,List.append_nil,List.take_append_drop]
  refine⟨goInt 0,w,.inl (go _ _ (run_copy_none w t t2 o.type te A A2 (hi-lo) cap R.length cap2 u1 hsz ((Nat.min_comm _ _).trans hn))),?_⟩
  show After B h loc w (one (.int .i64 (min (hi-lo) R.length:Nat))) [(id,.buf e fr (cpy l lo hi R))] (goInt 0) w
  rw [same,hn]
  have hup:upd [(id,.buf e fr l)] h=h:=by
   funext j
   by_cases hj:j=id
   ·subst hj; rw [upd_new_self,hh]
   ·exact upd_new_other _ [] (by simp) hj
  unfold After
  rw [hup]
  exact⟨loc,View.Le.refl _,H.R,hval 0⟩
 ·obtain ⟨L, hL, rfl⟩ := k5.resolve_left (by omega)
  obtain⟨b2,o2,c2,rfl,⟨e2,fz,hc2⟩,hrow⟩:=q3.resolve_left (by omega)
  obtain⟨cc,el,hc1,hszL,hfit,hxx⟩:=(H.R.objs id _ hh).buf hL
  have hcl':cc.toList.length=cc.size:=Array.length_toList
  rw [hs1] at hrow hfit hxx
  have hin:o2+R.length≤c2.size:=by
   have hlt:R.length-1<R.length:=by omega
   have:=(hrow (R.length-1) R[R.length-1] (List.getElem?_eq_getElem hlt)).length
   rw [hs1,List.length_take,List.length_drop,Array.length_toList] at this
   omega
  obtain⟨cs,hcs⟩:∃ cs,cs=(c2.toList.drop o2).take (min (hi-lo) R.length):=⟨_,rfl⟩
  have hcl:cs.length=min (hi-lo) R.length:=by have:=Array.length_toList (xs:=c2); rw [hcs,List.length_take,List.length_drop]; omega
  have hcg:∀ j,j<cs.length→cs[j]? = c2.toList[o2+j]?:=fun j hj=>by rw [hcs,List.getElem?_take_of_lt (by omega),List.getElem?_drop]
  have hcell:∀ (j:Nat) (x:e.den),j<cs.length→nth R j=some x→Has ((viewOf B w h loc).mem rfr) e x ((cs.drop j).take 1):=fun j x hj hx=>by
   have:=hrow j x hx
   rw [Nat.mul_one] at this
   have hd:(cs.drop j).take 1=(c2.toList.drop (o2+j)).take 1:=by
    apply List.ext_getElem?
    intro k
    simp only [List.getElem?_take,List.getElem?_drop]
    split
    ·rename_i hk
     obtain rfl:k=0:=by omega
     rw [Nat.add_zero,Nat.add_zero]
     exact hcg j hj
    ·rfl
   rw [hd]; exact this
  have hsrc:∀ j v,cs[j]? = some v→w.cell? ((⟨b2,o2,none⟩:Addr).add j)=some v:=fun j v hv=>by
   have hj:j<cs.length:=(List.getElem?_eq_some_iff.1 hv).1
   rw [hcg j hj] at hv
   simp only [World.cell?,add_at,hc2]
   simpa using hv
  have h1:∀ v∈cs,v.oneCell'=true:=fun v hv=>by
   obtain⟨j,hj,rfl⟩:=List.getElem_of_mem hv
   have hjR:j<R.length:=by omega
   refine(hcell j R[j] hj (List.getElem?_eq_getElem hjR)).one _ ?_
   rw [List.drop_eq_getElem_cons hj]
   exact List.mem_cons_self
  have hcr:=run_copy_row P w t t2 o.type te L.blk (L.off+lo*e.size) (hi-lo) cap ⟨b2,o2,none⟩ R.length cap2 cc el cs u1 hsz hc1 (by rw [hcl,Nat.min_comm]) hsrc (by rw [hs1]; omega) h1
  refine⟨_,_,.inl (go _ _ hcr),?_⟩
  show After B h loc w (one (.int .i64 (min (hi-lo) R.length:Nat))) [(id,.buf e fr (cpy l lo hi R))] _ _
  refine After.set H.R hh rfl (Turns.buf (cpy_len k1 k2).symm) rfl _ rfl rfl rfl (by simp) (fun b hb=>setRow_other _ _ _ _ fun e=>hb ⟨_,L,hh,rfl,hL,e.symm⟩) fun V hV hsub hlV _=>⟨?_,by rw [hcl]; exact⟨rfl,rfl,trivial⟩⟩
  refine ObjR.mkBuf (hlV.trans hL) ?_
  have hlist:∀ (A:List Value),A.toArray.toList=A:=fun _=>rfl
  rw [hs1,Nat.mul_one]
  refine⟨_,el,setRow_heap _ _ cc _ el _ hc1,?_,by rw [cpy_len k1 k2]; exact hfit,fun j y hy=>?_⟩
  ·rw [←hszL]; simp only [List.size_toArray,List.length_append,List.length_take,List.length_drop]; omega
  ·rw [hlist, Nat.mul_one]
   have hto:(cc.toList.take (L.off+lo)).length=L.off+lo:=by rw [List.length_take]; omega
   have hT2:(R.take (hi-lo)).length=min (hi-lo) R.length:=List.length_take
   simp only [nth,cpy,List.getElem?_append,List.length_append,List.length_take] at hy
   rcases Nat.lt_or_ge j lo with hj | hj
   ·rw [if_pos (by omega), if_pos (by omega), List.getElem?_take_of_lt hj] at hy
    have:=piece_other cc.toList cs (L.off+lo) (L.off+j) 1 (by omega) (by left; omega)
    rw [this]
    have:=(hxx j y hy).mono (hV.mem fr)
    rwa [Nat.mul_one] at this
   ·rcases Nat.lt_or_ge j (lo + min (hi - lo) R.length) with hj2 | hj2
    ·rw [if_pos (by omega), if_neg (by omega), List.getElem?_take_of_lt (by omega)] at hy
     have hy2:nth R (j-lo)=some y:=by
      rw [←hy]; simp only [nth]; congr 1; omega
     have hc3:=hcell (j-lo) y (by omega) hy2
     have hd:((cc.toList.take (L.off+lo)++cs++cc.toList.drop (L.off+lo+cs.length)).drop (L.off+j)).take 1=(cs.drop (j-lo)).take 1:=by
      rw [List.append_assoc,List.drop_append,List.drop_of_length_le (by omega),List.nil_append,hto,show L.off+j-(L.off+lo)=j-lo by omega,List.drop_append,List.take_append_of_le_length (by rw [List.length_drop]; omega)]
     rw [hd]
     cases e <;> first | exact hc3 | cases hsc
    ·rw [if_neg (by omega)] at hy
     have hy2:nth l j=some y:=by
      rw [List.getElem?_drop] at hy
      rw [←hy]; simp only [nth]; congr 1; omega
     have:=piece_other cc.toList cs (L.off+lo) (L.off+j) 1 (by omega) (by right; omega)
     rw [this]
     have:=(hxx j y hy2).mono (hV.mem fr)
     rwa [Nat.mul_one] at this
set_option maxHeartbeats 1000000 in
theorem act_copy (H:Hyp P B h g loc w T val ρ nid) {asq:Array Operand} {ts:Array TypeId} (ho:o.op = .call { callee:=.builtin .copy,args:=asq,argTypes:=ts })
  (ha:act T (.call { callee:=.builtin .copy,args:=asq,argTypes:=ts }) val g nid = .ok c v hs):OpOk P B o ρ w h loc v hs:=by
 simp only [act] at ha
 split at ha
 ·rename_i x y t t2 hx ht
  have e1:asq = #[x,y]:=by apply Array.ext'; simpa using hx
  have e2:ts = #[t,t2]:=by apply Array.ext'; simpa using ht
  subst e1 e2
  split at ha
  ·rename_i e b dst src hd hvx hvy
   split at ha
   ·rename_i r id lo hi hsc hr
    split at ha
    ·rename_i u fr l hgi
     split at ha
     ·rename_i he _
      subst he
      simp only [Out.ok.injEq] at ha
      obtain⟨_,rfl,rfl⟩:=ha
      have hh:=H.hg _ _ hgi
      obtain⟨k1,k2,A,cap,k3,k4,k5⟩:=(H.lit hvx).sub_buf hh
      exact copy_R H ho (H.hT _ _ hd) hsc hh k1 k2 (List.cons.inj k3).1 k5 (H.lit hvy) hr
     ·cases ha
    ·cases ha
   ·rename_i r id hsc hr
    split at ha
    ·rename_i u fr l hgi
     split at ha
     ·rename_i he _
      subst he
      simp only [Out.ok.injEq] at ha
      obtain⟨_,rfl,rfl⟩:=ha
      have hh:=H.hg _ _ hgi
      have fin:∀ A cap,ρ x = .slice A (l.length-0) cap→(l.length=0∨∃ L,loc id=some L∧A=some ⟨L.blk,L.off+0*e.size,none⟩)→OpOk P B o ρ w h loc (one (.int .i64 (min l.length (List.length (α:=e.den) r.x):Nat))) [(id,.buf e fr (cpy l 0 l.length r.x))]:=fun A cap k3 k5=>
       copy_R H ho (H.hT _ _ hd) hsc hh (Nat.zero_le _) (Nat.le_refl _) k3 k5 (H.lit hvy) hr
      rcases (H.lit hvx).own_buf hh with ⟨_,⟨A,e1⟩,rfl⟩ | ⟨L,cap,hL,e1,hcap,hfit⟩
      ·exact fin A 0 (List.cons.inj e1).1 (.inl rfl)
      ·exact fin _ cap (List.cons.inj e1).1 (.inr ⟨L,hL,by rw [Nat.zero_mul,Nat.add_zero]⟩)
     ·cases ha
    ·cases ha
   ·cases ha
  ·cases ha
 ·cases ha
set_option maxHeartbeats 1000000 in
theorem act_clear (H : Hyp P B h g loc w T val ρ nid) {asq : Array Operand} {ts : Array TypeId} (ho : o.op = .call { callee := .builtin .clear, args := asq, argTypes := ts })
  (ha:act T (.call { callee:=.builtin .clear,args:=asq,argTypes:=ts }) val g nid = .ok c v hs):OpOk P B o ρ w h loc v hs:=by
 simp only [act] at ha
 split at ha
 ·rename_i x t hx ht
  have e1:asq = #[x]:=by apply Array.ext'; simpa using hx
  have e2:ts = #[t]:=by apply Array.ext'; simpa using ht
  subst e1 e2
  split at ha
  ·rename_i e b id lo hi hd hv
   split at ha
   ·rename_i t' fr l hgi
    split at ha
    ·rename_i he
     obtain rfl:=eq?_spec he
     simp only [Out.ok.injEq] at ha
     obtain⟨_,rfl,rfl⟩:=ha
     have hh:=H.hg _ _ hgi
     obtain⟨_,te,i,u1,u2,u3,u4⟩:=H.hT _ _ hd
     obtain⟨i2,z,j1,j2,j3,j4,_⟩:=u2.info
     obtain rfl:i=i2:=Option.some.inj (u3.symm.trans j1)
     obtain⟨k1,k2,A,cap,k3,k4,k5⟩:=(H.lit hv).sub_buf hh
     have k3:ρ x = .slice A (hi-lo) cap:=by simpa using k3
     have hcl:clr t'.dflt l lo hi=l.take lo++List.replicate (hi-lo) t'.dflt++l.drop hi:=rfl
     have hlen:(clr t'.dflt l lo hi).length=l.length:=by
      rw [hcl]; simp only [List.length_append,List.length_take,List.length_drop,List.length_replicate]; omega
     have hzs:z.cells.size=t'.size:=by rw [←zeroCells_length t',←j4]; simp
     have none':hi=lo→∃ V:Value,(execOp ρ o).run P w = .ok (.value V) w:=by
      rintro rfl
      refine⟨.tuple #[],?_⟩
      cases A <;> simp [execOp,ho,resolve,invoke,builtin,k3,Builtin.clear_,run_underlying u1]
     have same:hi=lo→clr t'.dflt l lo hi=l:=by
      rintro rfl
      rw [hcl,Nat.sub_self,List.replicate_zero,List.append_nil,List.take_append_drop]
     have setSame:∀ u:Value,hi=lo→After B h loc w .any [(id,.buf t' fr (clr t'.dflt l lo hi))] u w:=by
      intro u hq
      rw [same hq]
      have hup:upd [(id,.buf t' fr l)] h=h:=by
       funext j
       by_cases hj:j=id
       ·subst hj; rw [upd_new_self,hh]
       ·exact upd_new_other _ [] (by simp) hj
      unfold After
      rw [hup]
      exact⟨loc,View.Le.refl _,H.R,trivial⟩
     rcases k5 with k5 | ⟨L,hL,rfl⟩
     ·obtain ⟨u, hr⟩ := none' k5
      exact⟨u,w,.inl hr,setSame u k5⟩
     ·by_cases hq : hi = lo
      ·obtain ⟨u, hr⟩ := none' hq
       exact⟨u,w,.inl hr,setSame u hq⟩
      ·obtain ⟨cc, el, hc1, hsz, hfit, hxx⟩ := (H.R.objs id _ hh).buf hL
       have hcl':cc.toList.length=cc.size:=Array.length_toList
       have hnl:(Builtin.zeroCells z.cells (hi-lo)).toList.length=(hi-lo)*t'.size:=by rw [Array.length_toList,size_zeroCells,hzs]
       have hm1:lo*t'.size+(hi-lo)*t'.size=hi*t'.size:=by rw [←Nat.add_mul]; congr 1; omega
       have hm2:hi*t'.size≤l.length*t'.size:=Nat.mul_le_mul_right _ k2
       have hone:∀ u∈(Builtin.zeroCells z.cells (hi-lo)).toList,u.oneCell'=true:=piece_len (l:=List.replicate (hi-lo) t'.dflt) (by rw [List.length_replicate]; exact hnl) (zeros_rows (m:=fun _ _=>True) j4 _)
       have hst:=run_storeCells_at P L.blk (L.off+lo*t'.size) el (Builtin.zeroCells z.cells (hi-lo)).toList 0 cc w hc1 (by omega) hone
       rw [Nat.add_zero] at hst
       obtain⟨q,hq'⟩:∃ q,hi-lo=q+1:=⟨hi-lo-1,by omega⟩
       have hcr:(Builtin.clear_ #[t] o.type #[.slice (some ⟨L.blk,L.off+lo*t'.size,none⟩) (hi-lo) cap]).run P w = .ok (.tuple #[]) (w.setRow L.blk (cc.toList.take (L.off+lo*t'.size)++(Builtin.zeroCells z.cells (hi-lo)).toList++cc.toList.drop (L.off+lo*t'.size+(Builtin.zeroCells z.cells (hi-lo)).toList.length)).toArray):=by
        rw [hq'] at hst ⊢
        simp only [Builtin.clear_,Sem.run_bind,run_underlying u1,Result.andThen_ok,zeroValue,typeInfo,u3,j3]
        simp [run_underlying u1,zeroValue,typeInfo,u3,j3] at hst ⊢
        simp [hst]
       refine⟨.tuple #[],_,.inl (by
        simp only [execOp,ho,resolve,invoke,builtin,k3,List.map_toArray,List.map_cons,List.map_nil,Sem.run_bind,Sem.run_pure,Result.andThen_ok,hcr]
        rfl),?_⟩
       refine After.set H.R hh rfl (Turns.buf hlen.symm) rfl _ rfl rfl rfl (by simp) (fun b hb=>setRow_other _ _ _ _ fun e=>hb ⟨_,L,hh,rfl,hL,e.symm⟩) fun V hV hsub hlV _=>⟨?_,trivial⟩
       refine ObjR.mkBuf (hlV.trans hL) ?_
       have hlist:∀ (A:List Value),A.toArray.toList=A:=fun _=>rfl
       refine⟨_,el,setRow_heap _ _ cc _ el _ hc1,?_,by rw [hlen]; exact hfit,fun j y hy=>?_⟩
       ·rw [←hsz]; simp only [List.size_toArray,List.length_append,List.length_take,List.length_drop,hnl]; omega
       ·rw [hlist]
        have hto:(cc.toList.take (L.off+lo*t'.size)).length=L.off+lo*t'.size:=by rw [List.length_take]; omega
        simp only [nth,hcl,List.getElem?_append,List.length_append,List.length_take,List.length_replicate] at hy
        rcases Nat.lt_or_ge j lo with hj | hj
        ·rw [if_pos (by omega), if_pos (by omega), List.getElem?_take_of_lt hj] at hy
         have:=piece_other cc.toList (Builtin.zeroCells z.cells (hi-lo)).toList (L.off+lo*t'.size) (L.off+j*t'.size) t'.size (by omega) (by
          left
          have:(j+1)*t'.size≤lo*t'.size:=Nat.mul_le_mul_right _ hj
          rw [Nat.add_mul] at this; omega)
         rw [this]
         exact(hxx j y hy).mono (hV.mem fr)
        ·rcases Nat.lt_or_ge j hi with hj2 | hj2
         ·rw [if_pos (by omega), if_neg (by omega)] at hy
          have hy2:nth (List.replicate (hi-lo) t'.dflt) (j-lo)=some y:=by
           rw [←hy]; simp only [nth]; congr 1; omega
          have:=rows_in (zeros_rows (m:=V.mem fr) j4 (hi-lo)) (cc.toList.take (L.off+lo*t'.size)) (cc.toList.drop (L.off+lo*t'.size+(Builtin.zeroCells z.cells (hi-lo)).toList.length)) _ _ hy2
          rw [hto,Nat.add_assoc,←Nat.add_mul,show lo+(j-lo)=j by omega] at this
          exact this
         ·rw [if_neg (by omega)] at hy
          have hy2:nth l j=some y:=by
           rw [List.getElem?_drop] at hy
           rw [←hy]; simp only [nth]; congr 1; omega
          have:=piece_other cc.toList (Builtin.zeroCells z.cells (hi-lo)).toList (L.off+lo*t'.size) (L.off+j*t'.size) t'.size (by omega) (by
           right
           have:hi*t'.size≤j*t'.size:=Nat.mul_le_mul_right _ hj2
           omega)
          rw [this]
          exact(hxx j y hy2).mono (hV.mem fr)
    ·cases ha
   ·cases ha
  ·cases ha
 ·cases ha
set_option maxHeartbeats 1000000 in
theorem act_fieldAddr (H:Hyp P B h g loc w T val ρ nid) {s:TypeId} {x:Operand} {f:Nat} (ho:o.op = .fieldAddr s x f) (ha:act T (.fieldAddr s x f) val g nid = .ok c v hs) (hc:c=true) (hfr:nid∈keys hs→g nid=none→h nid=none):OpOk P B o ρ w h loc v hs:=by
 simp only [act] at ha
 split at ha
 ·rename_i fs p hd hp
  split at ha
  ·rename_i off u hf
   have hTs:=H.hT _ _ hd
   split at ha
   ·rename_i id i o2
    have k:=H.lit hp
    split at ha
    ·rename_i asq hz hgi
     have hz:u.size≠0:=fun e=>by rw [e] at hz; cases hz
     simp only [Out.ok.injEq] at ha
     obtain⟨_,rfl,rfl⟩:=ha
     have hh:=H.hg _ _ hgi
     obtain⟨L,hL,e⟩:=k.ptr_box hh
     obtain e2:ρ x=_:=by simpa [IsPtr] using e
     refine OpOk.pure H.R (u:=.pointer (some ⟨L.blk,L.off+o2+off,none⟩)) (by unfold execOp; rw [ho]; exact run_v (by rw [e2]; exact run_fieldAt hTs hf hz _ _)) (one_R rfl ?_ (by simp))
     simp only [AtomR,show(viewOf B w h loc).h id=_ from hh]
     exact⟨L,hL,by simp [Loc.ptr,Nat.add_assoc]⟩
    ·rename_i t fr l hz hgi
     have hz:u.size≠0:=fun e=>by rw [e] at hz; cases hz
     simp only [Out.ok.injEq] at ha
     obtain⟨_,rfl,rfl⟩:=ha
     have hh:=H.hg _ _ hgi
     obtain⟨hi,L,hL,e⟩:=k.ptr_buf hh
     obtain e2:ρ x=_:=by simpa [IsPtr] using e
     refine OpOk.pure H.R (u:=.pointer (some ⟨L.blk,L.off+(i*t.size+o2)+off,none⟩)) (by unfold execOp; rw [ho]; exact run_v (by rw [e2]; exact run_fieldAt hTs hf hz _ _)) (one_R rfl ?_ (by simp))
     simp only [AtomR,show(viewOf B w h loc).h id=_ from hh]
     exact⟨hi,L,hL,by simp [Loc.ptr,Nat.add_assoc]⟩
    ·cases ha
   ·rename_i t fr y
    split at ha
    ·rename_i q ht hq
     rename_i ht2
     split at ha
     ·cases ha
     ·rename_i hz
      have hz:u.size≠0:=fun e=>by rw [e] at hz; cases hz
      simp only [Out.ok.injEq] at ha
      obtain⟨_,rfl,rfl⟩:=ha
      obtain⟨b,o1,cc,e,hm,hh⟩:=H.lit hp
      obtain e2:ρ x = .pointer (some ⟨b,o1,none⟩):=by simpa using e
      obtain⟨q1,q2⟩:=partAt_R hq hh
      have e4:=take_of_take_drop cc.toList o1 t.size off q.t.size q2.length
      rw [e4] at q2
      refine OpOk.pure H.R (u:=.pointer (some ⟨b,o1+off,none⟩)) ?_ (one_R rfl ⟨b,o1+off,cc,rfl,hm,q2⟩ (by simp))
      unfold execOp
      rw [ho]
      exact run_v (by rw [e2]; exact run_fieldAt hTs hf hz b o1)
    ·cases ha
   ·cases ha
  ·cases ha
 ·cases ha
set_option maxHeartbeats 1000000 in
theorem act_indexAddr (H:Hyp P B h g loc w T val ρ nid) {t:TypeId} {x:Operand} {i:Operand} (ho:o.op = .indexAddr t x i) (ha:act T (.indexAddr t x i) val g nid = .ok c v hs) (hc:c=true) (hfr:nid∈keys hs→g nid=none→h nid=none):OpOk P B o ρ w h loc v hs:=by
 simp only [act] at ha
 split at ha
 ·rename_i d p k n hd hp hi
  obtain⟨rfl,u,r1,r2⟩:=indexAt_R (P:=P) H.hg (H.hT _ _ hd) (k:=k) (H.lit hp) ha hc
  exact OpOk.pure H.R (by unfold execOp; rw [ho]; exact run_v (by rw [H.int hi]; exact r1)) r2
 ·cases ha
set_option maxHeartbeats 1000000 in
theorem act_index (H:Hyp P B h g loc w T val ρ nid) {t:TypeId} {x:Operand} {i:Operand} (ho:o.op = .index t x i) (ha:act T (.index t x i) val g nid = .ok c v hs) (hc:c=true) (hfr:nid∈keys hs→g nid=none→h nid=none):OpOk P B o ρ w h loc v hs:=by
 simp only [act] at ha
 split at ha
 ·rename_i n e m u fr l k kk hd hx hi
  split at ha
  ·rename_i hn hu _ _
   obtain rfl:=hn.down
   obtain rfl:=hu.down
   simp only [Out.ok.injEq] at ha
   obtain⟨rfl,rfl,rfl⟩:=ha
   obtain⟨h0,h1,h2⟩:=inRange_spec hc
   obtain⟨_,te,u1,u2⟩:=H.hT _ _ hd
   obtain⟨cs,e,c1,c2,e1,e2,⟨q1,q2,q3⟩,e3⟩:=H.litV hx
   obtain rfl:c2 = []:=e3
   rw [List.append_nil] at e1
   subst e1
   have hlt:kk.toNat<List.length (α:=u.den) l:=by rw [show List.length (α:=u.den) l=n from q1]; exact h2
   have hp:=q3 kk.toNat _ (getD_of_lt hlt)
   obtain⟨x1,r1,r2⟩:∃ x1,(part te cs.toArray (kk.toNat*u.size)).run P w = .ok x1 w∧Cells u x1 ((cs.drop (kk.toNat*u.size)).take u.size):=by
    obtain⟨i2,z,j1,j2,_⟩:=u2.info
    obtain⟨dd,d1,d2⟩:=u2.und
    have hl:=hp.length
    cases hag:aggTy u with
    | true =>
     refine⟨.agg (cs.toArray.extract (kk.toNat*u.size) (kk.toNat*u.size+u.size)),?_,?_⟩
     ·simp [part,run_isAgg d1,d2,hag,run_sizeOf' j1,j2]
     ·simp only [Cells, hag]
      congr 1
      apply Array.ext'
      simp [List.extract_eq_take_drop,List.drop_take]
    | false =>
     have hs1:u.size=1:=by cases u <;> first | rfl | cases hag
     have hlt2:kk.toNat*u.size<cs.length:=by
      rw [List.length_take,List.length_drop] at hl; omega
     refine⟨cs[kk.toNat*u.size],?_,?_⟩
     ·simp [part,run_isAgg d1,d2,hag,List.getElem?_eq_getElem hlt2]
     ·simp only [Cells, hag]
      have hd2:∀ (s k:Nat) (hk:k<cs.length),s=1→(cs.drop k).take s = [cs[k]]:=fun s k hk e=>by
       subst e; rw [List.drop_eq_getElem_cons hk]; rfl
      exact hd2 _ _ hlt2 hs1
   refine OpOk.pure H.R (u:=x1) ?_ (toV_R hp r2)
   obtain⟨i2,z,j1,j2,_⟩:=u2.info
   unfold execOp
   rw [ho]
   refine run_v ?_
   rw [H.int hi,e]
   simp [Instr.index,run_underlying u1,asIntOf,h0,h1,run_sizeOf' j1,j2,r1]
  ·cases ha
 ·cases ha
set_option maxHeartbeats 1000000 in
theorem act_extract (H:Hyp P B h g loc w T val ρ nid) {x:Operand} {i:Nat} (ho:o.op = .extract x i) (ha:act T (.extract x i) val g nid = .ok c v hs) (hc:c=true) (hfr:nid∈keys hs→g nid=none→h nid=none):OpOk P B o ρ w h loc v hs:=by
 simp only [act] at ha
 split at ha
 ·rename_i vs hx
  split at ha
  ·rename_i y hy
   simp only [Out.ok.injEq] at ha
   obtain⟨_,rfl,rfl⟩:=ha
   have k:=H.hv x
   rw [hx] at k
   obtain⟨us,e,k⟩:=k
   obtain⟨u,h1,h2⟩:=k.get hy
   refine OpOk.pure H.R (u:=u) ?_ h2
   unfold execOp
   rw [ho]
   refine run_v ?_
   rw [e]
   simp [Instr.extract,h1]
  ·cases ha
 ·cases ha
set_option maxHeartbeats 1000000 in
theorem act_makeFunc (H:Hyp P B h g loc w T val ρ nid) {f:Nat} {first caps:Array Operand} (ho:o.op = .makeFunc (.func f) first caps) (ha:act T (.makeFunc (.func f) first caps) val g nid = .ok c v hs):OpOk P B o ρ w h loc v hs:=by
 simp only [act] at ha
 split at ha
 ·rename_i ids hf0 hcap
  simp only [Out.ok.injEq] at ha
  obtain⟨_,rfl,rfl⟩:=ha
  obtain⟨k1,k2⟩:=capIds_R (V:=viewOf B w h loc) H.hv hcap
  have hf0':first = #[]:=by apply Array.ext'; simpa using hf0
  refine OpOk.pure H.R (u:=.func (.func f) #[] (caps.toList.map ρ).toArray) ?_ (one_R (a:=.fn f ids) rfl ⟨caps.toList.map ρ,rfl,k1,fun n i hi=>?_⟩ (by simp))
  ·unfold execOp
   rw [ho]
   refine run_v ?_
   subst hf0'
   have:Array.map ρ caps=(List.map ρ caps.toList).toArray:=by apply Array.ext'; simp
   simp [Instr.makeFunc,this]
  ·obtain ⟨v, v1, v2, asq, v3⟩ := k2 n i hi
   exact⟨v,v1,ptr_cap v2 ⟨asq,H.hg _ _ v3⟩⟩
 ·cases ha
set_option maxHeartbeats 1000000 in
theorem act_makeSlice (H:Hyp P B h g loc w T val ρ nid) {t:TypeId} {n:Operand} {cc:Operand} (ho:o.op = .makeSlice t n cc) (ha:act T (.makeSlice t n cc) val g nid = .ok c v hs) (hc:c=true) (hfr:nid∈keys hs→g nid=none→h nid=none):OpOk P B o ρ w h loc v hs:=by
 simp only [act] at ha
 split at ha
 ·rename_i e b x y hd hx hy
  split at ha
  ·rename_i hn hb
   simp only [Out.ok.injEq] at ha
   obtain⟨rfl,rfl,rfl⟩:=ha
   simp only [ile_eq,fewer_eq,Bool.and_eq_true,decide_eq_true_eq] at hc
   have hlt:y.toNat<most:=by simpa using hc.2
   exact op_make H.R (hfr (by simp [keys]) hn) H.hnx ho (H.hT _ _ hd) (Nat.le_of_ble_eq_true hb) (H.int hx) (H.int hy) hc.1.1 hc.1.2 (by omega)
  ·cases ha
 ·cases ha
set_option maxHeartbeats 1000000 in
theorem act_len (H:Hyp P B h g loc w T val ρ nid) {asq:Array Operand} {ts:Array TypeId} (ho:o.op = .call { callee:=.builtin .len,args:=asq,argTypes:=ts })
  (ha:act T (.call { callee:=.builtin .len,args:=asq,argTypes:=ts }) val g nid = .ok c v hs):OpOk P B o ρ w h loc v hs:=by
 simp only [act] at ha
 split at ha
 ·rename_i x t hx ht
  have e1:asq = #[x]:=by apply Array.ext'; simpa using hx
  have e2:ts = #[t]:=by apply Array.ext'; simpa using ht
  subst e1 e2
  split at ha
  ·rename_i e b a hd hv
   obtain⟨_,te,_,u1,_⟩:=H.hT _ _ hd
   have k:=H.lit hv
   have fin:∀ (A:Option Addr) (n cap:Nat),ρ x = .slice A n cap→(execOp ρ o).run P w = .ok (.value (.int .i64 n)) w:=by
    intro A n cap e
    simp [execOp,ho,resolve,invoke,builtin,e,Builtin.len_,run_underlying u1,goInt]
   split at ha
   ·cases ha
   ·split at ha
    ·rename_i n hn
     simp only [Out.ok.injEq] at ha
     obtain⟨_,rfl,rfl⟩:=ha
     cases a <;> simp only [lenOf] at hn
     case ro=>
      obtain rfl:=Option.some.inj hn
      obtain⟨A,cap,e1,_⟩:=k
      exact OpOk.pure H.R (fin A _ cap (by simpa [len] using e1)) ⟨rfl,rfl,trivial⟩
     case rk t' nb l=>
      obtain rfl:=Option.some.inj hn
      obtain⟨⟨A,cap,e1,_⟩,_⟩:=k
      exact OpOk.pure H.R (fin A _ cap (by simpa [len] using e1)) ⟨rfl,rfl,trivial⟩
     case own id=>
      split at hn
      ·rename_i t' fr l hgi
       obtain rfl:=Option.some.inj hn
       rcases k.own_buf (H.hg _ _ hgi) with ⟨_,⟨A,e1⟩,rfl⟩ | ⟨L,cap,_,e1,_⟩
       ·exact OpOk.pure H.R (fin A 0 0 (by simpa using e1)) ⟨rfl,rfl,trivial⟩
       ·exact OpOk.pure H.R (fin _ l.length cap (by simpa using e1)) ⟨rfl,rfl,trivial⟩
      ·cases hn
     case str hstr=>exact(hstr _ rfl).elim
     case nils=>
      obtain rfl:=Option.some.inj hn
      exact OpOk.pure H.R (fin none 0 0 (by simpa [AtomR] using k)) ⟨rfl,rfl,trivial⟩
     case e0=>
      obtain rfl:=Option.some.inj hn
      obtain⟨A,e1⟩:=k
      exact OpOk.pure H.R (fin A 0 0 (by simpa using e1)) ⟨rfl,rfl,trivial⟩
     all_goals cases hn
    ·cases ha
  ·cases ha
 ·cases ha
set_option maxHeartbeats 1000000 in
theorem act_append (H : Hyp P B h g loc w T val ρ nid) {asq : Array Operand} {ts : Array TypeId} (ho : o.op = .call { callee := .builtin .append, args := asq, argTypes := ts })
  (ha:act T (.call { callee:=.builtin .append,args:=asq,argTypes:=ts }) val g nid = .ok c v hs) (hc:c=true) (hfr:nid∈keys hs→g nid=none→h nid=none):OpOk P B o ρ w h loc v hs:=by
 simp only [act] at ha
 split at ha
 ·rename_i s x t u9 hx ht
  have e1:asq = #[s,x]:=by apply Array.ext'; simpa using hx
  have e2:ts = #[t,u9]:=by apply Array.ext'; simpa using ht
  subst e1 e2
  split at ha
  ·rename_i e b sa xa hu hd hs1 hx1
   split at ha
   ·rename_i hb
    have hb:=Nat.le_of_ble_eq_true hb
    obtain rfl:t=u9:=natEq_spec hu
    have ks:=H.lit hs1
    have kx:=H.lit hx1
    simp only [appendTo] at ha
    split at ha
    ·cases ha
    ·rename_i y hy
     have row:=asRow_R H.R H.hg kx hy
     have fin:∀ (u:Value) (w':World) (s1:Value),ρ s=s1→(Builtin.append_ #[t,t] o.type #[s1,ρ x]).run P w = .ok u w'→(execOp ρ o).run P w = .ok (.value u) w':=by
      intro u w' s1 e k
      simp [execOp,ho,resolve,invoke,builtin,e,k]
     have lt:∀ {n:Nat},fewer n=true→n<most:=fun k=>by rw [fewer_eq] at k; simpa using k
     simp only [appendRow] at ha
     split at ha
     ·simp only [newRow'] at ha
      split at ha
      ·rename_i hn
       simp only [Out.ok.injEq,Bool.true_and] at ha
       obtain⟨rfl,rfl,rfl⟩:=ha
       obtain⟨v,w',r1,r2⟩:=append_empty H.R (hfr (by simp [keys]) hn) H.hnx (ty:=o.type) (H.hT _ _ hd) hb row (lt hc) none [] (by simp) (fun V cs S k=>k.mono (S.le.mem _))
       exact⟨v,w',.inl (fin v w' _ (by simpa [AtomR] using ks) r1),r2⟩
      ·cases ha
     ·simp only [newRow'] at ha
      split at ha
      ·rename_i hn
       simp only [Out.ok.injEq,Bool.true_and] at ha
       obtain⟨rfl,rfl,rfl⟩:=ha
       obtain⟨A,e1⟩:=ks
       obtain⟨v,w',r1,r2⟩:=append_empty H.R (hfr (by simp [keys]) hn) H.hnx (ty:=o.type) (H.hT _ _ hd) hb row (lt hc) A [] (by simp) (fun V cs S k=>k.mono (S.le.mem _))
       exact⟨v,w',.inl (fin v w' _ (by simpa using e1) r1),r2⟩
      ·cases ha
     ·split at ha
      ·rename_i u' fr l hgi
       split at ha
       ·rename_i he _
        subst he
        simp only [newRow'] at ha
        split at ha
        ·rename_i hn
         simp only [Out.ok.injEq,Bool.true_and] at ha
         obtain⟨rfl,rfl,rfl⟩:=ha
         obtain⟨v,w',r1,r2⟩:=append_own H.R (hfr (by simp [keys]) hn) H.hnx (ty:=o.type) (H.hT _ _ hd) hb row (lt hc) (H.hg _ _ hgi) ks
         exact⟨v,w',.inl (fin v w' _ rfl r1),r2⟩
        ·cases ha
       ·cases ha
      ·cases ha
     ·cases ha
   ·cases ha
  ·rename_i k b sa n hu hd hs1 hx1
   split at ha
   ·rename_i hb hu1
    have hb:=Nat.le_of_ble_eq_true hb
    have htn:=(H.hT _ _ hu1).2.2.1 _ rfl
    have ks:=H.lit hs1
    have kx:=H.int hx1
    have fin:∀ (u:Value) (w':World),(Builtin.append_ #[t,u9] o.type #[ρ s,.int .i64 n]).run P w = .ok u w'→(execOp ρ o).run P w = .ok (.value u) w':=by
     intro u w' k
     simp [execOp,ho,resolve,invoke,builtin,kx,k]
    have lt:∀ {n:Nat},fewer n=true→n<most:=fun k=>by rw [fewer_eq] at k; simpa using k
    simp only [appendRow] at ha
    split at ha
    ·simp only [newRow'] at ha
     split at ha
     ·rename_i hn
      simp only [Out.ok.injEq] at ha
      obtain⟨rfl,rfl,rfl⟩:=ha
      rw [Bool.and_eq_true,ile_eq,decide_eq_true_eq] at hc
      obtain⟨m,rfl⟩:=Int.eq_ofNat_of_zero_le hc.1
      obtain⟨v,w',r1,r2⟩:=append_zeros H.R (hfr (by simp [keys]) hn) H.hnx (ty:=o.type) (H.hT _ _ hd) htn hb Nat.one_pos (k:=m) (fr:=true) (l:=[]) (ids:=[]) (by simp) (by simpa using lt hc.2) (.inl ⟨rfl,none,by simpa [AtomR] using ks⟩)
      exact⟨v,w',.inl (fin v w' r1),r2⟩
     ·cases ha
    ·simp only [newRow'] at ha
     split at ha
     ·rename_i hn
      simp only [Out.ok.injEq] at ha
      obtain⟨rfl,rfl,rfl⟩:=ha
      rw [Bool.and_eq_true,ile_eq,decide_eq_true_eq] at hc
      obtain⟨m,rfl⟩:=Int.eq_ofNat_of_zero_le hc.1
      obtain⟨A,e1⟩:=ks
      obtain⟨v,w',r1,r2⟩:=append_zeros H.R (hfr (by simp [keys]) hn) H.hnx (ty:=o.type) (H.hT _ _ hd) htn hb Nat.one_pos (k:=m) (fr:=true) (l:=[]) (ids:=[]) (by simp) (by simpa using lt hc.2) (.inl ⟨rfl,A,by simpa using e1⟩)
      exact⟨v,w',.inl (fin v w' r1),r2⟩
     ·cases ha
    ·rename_i id
     split at ha
     ·rename_i u' fr l hgi
      split at ha
      ·rename_i he _
       subst he
       simp only [newRow'] at ha
       split at ha
       ·rename_i hn
        simp only [Out.ok.injEq] at ha
        obtain⟨rfl,rfl,rfl⟩:=ha
        rw [Bool.and_eq_true,ile_eq,decide_eq_true_eq] at hc
        obtain⟨m,rfl⟩:=Int.eq_ofNat_of_zero_le hc.1
        obtain⟨v,w',r1,r2⟩:=append_zeros H.R (hfr (by simp [keys]) hn) H.hnx (ty:=o.type) (H.hT _ _ hd) htn hb Nat.one_pos (k:=m) (fr:=fr) (l:=l) (ids:=[id]) (fun i hi=>by simp at hi; subst hi; exact⟨_,H.hg _ _ hgi⟩) (lt hc.2) (.inr ⟨id,rfl,H.hg _ _ hgi,ks⟩)
        exact⟨v,w',.inl (fin v w' r1),r2⟩
       ·cases ha
      ·cases ha
     ·cases ha
    ·cases ha
   ·cases ha
  ·cases ha
 ·cases ha
set_option maxHeartbeats 1000000 in
theorem act_max (H:Hyp P B h g loc w T val ρ nid) {asq:Array Operand} {ts:Array TypeId} (ho:o.op = .call { callee:=.builtin .max,args:=asq,argTypes:=ts })
  (ha:act T (.call { callee:=.builtin .max,args:=asq,argTypes:=ts }) val g nid = .ok c v hs):OpOk P B o ρ w h loc v hs:=by
 simp only [act] at ha
 split at ha
 ·rename_i x y hx
  have e1:asq = #[x,y]:=by apply Array.ext'; simpa using hx
  subst e1
  split at ha
  ·rename_i k a l b hx1 hy1
   split at ha
   ·rename_i hk0 hk
    obtain rfl:=hk0.down
    simp only [Out.ok.injEq] at ha
    obtain⟨_,rfl,rfl⟩:=ha
    refine OpOk.pure H.R (u:=.int k (imax a b)) ?_ ⟨rfl,rfl,trivial⟩
    simp [execOp,ho,resolve,invoke,builtin,H.int hx1,H.int hy1,Builtin.max_,Builtin.max2,imax_eq]
   ·cases ha
  ·cases ha
 ·cases ha
theorem act_R (H:Hyp P B h g loc w T val ρ nid) (ha:act T o.op val g nid = .ok c v hs) (hc:c=true) (hfr:nid∈keys hs→g nid=none→h nid=none):OpOk P B o ρ w h loc v hs:=by
 cases ho:o.op <;> rw [ho] at ha
 case move x=>exact act_move H ho ha hc hfr
 case assign x=>exact act_assign H ho ha hc hfr
 case pick p a b=>exact act_pick H ho ha hc hfr
 case alloc t=>exact act_alloc H ho ha hc hfr
 case box t x=>exact act_box H ho ha hc hfr
 case build t ps=>exact act_build H ho ha hc hfr
 case buildSlice t n ps=>exact act_buildSlice H ho ha hc hfr
 case load t a=>exact act_load H ho ha hc hfr
 case store t a x=>exact act_store H ho ha hc hfr
 case nilCheck x=>exact act_nilCheck H ho ha hc hfr
 case binOp op t x y t2=>exact act_binOp H ho ha hc hfr
 case unOp op t x=>exact act_unOp H ho ha hc hfr
 case convert s d x=>exact act_convert H ho ha hc hfr
 case slice t x lo hi mx=>exact act_slice H ho ha hc hfr
 case fieldAddr s x f=>exact act_fieldAddr H ho ha hc hfr
 case indexAddr t x i=>exact act_indexAddr H ho ha hc hfr
 case index t x i=>exact act_index H ho ha hc hfr
 case extract x i=>exact act_extract H ho ha hc hfr
 case makeFunc f first caps=>
  cases f with
  | func f => exact act_makeFunc H ho ha
  | _ => simp only [act] at ha; cases ha
 case makeSlice t n cc=>exact act_makeSlice H ho ha hc hfr
 case call cl=>
  obtain⟨callee,args,ts⟩:=cl
  cases callee with
  | builtin b =>
   cases b
   case len=>exact act_len H ho ha
   case append=>exact act_append H ho ha hc hfr
   case max=>exact act_max H ho ha
   case clear=>exact act_clear H ho ha
   case copy=>exact act_copy H ho ha
   all_goals (simp only [act] at ha; cases ha)
  | value f => simp only [act] at ha; cases ha
  | invoke r m => simp only [act] at ha; cases ha
 all_goals (simp only [act] at ha; cases ha)
end
end Go.Proofs.Ytijjhpmladkjdaa.E
end
