/- An evaluator of the program form over unknown cells, and its relation to the model: values, memory. -/
import Derived.Calls
import Derived.Orders
import Derived.Below
import Derived.WalkKit
set_option linter.unusedVariables false
set_option linter.unusedSimpArgs false
section
namespace Go.Ev
/-- A table from numbers to values, as a binary tree. -/
inductive Tri (α:Type) where
 | leaf
 | node (l:Tri α) (v:Option α) (r:Tri α)
namespace Tri
variable {α:Type}
def get:Tri α→Nat→Option α
 | .leaf,_ =>none
 | .node _ v _,0 =>v
 | .node l _ r,k + 1 =>bif Nat.beq (k % 2) 0 then l.get (k / 2) else r.get (k / 2)
def upd:Nat→Tri α→Nat→Option α→Tri α
 | 0,t,_,_ =>t
 | _ + 1,.leaf,0,o =>.node .leaf o .leaf
 | f + 1,.leaf,k + 1,o =>bif Nat.beq (k % 2) 0 then .node (upd f .leaf (k / 2) o) none .leaf else .node .leaf none (upd f .leaf (k / 2) o)
 | _ + 1,.node l _ r,0,o =>.node l o r
 | f + 1,.node l v r,k + 1,o =>bif Nat.beq (k % 2) 0 then .node (upd f l (k / 2) o) v r else .node l v (upd f r (k / 2) o)
def evens:List α→List α
 | [] =>[]
 | [x] =>[x]
 | x :: _ :: l =>x :: evens l
def odds:List α→List α
 | [] =>[]
 | [_] =>[]
 | _ :: y :: l =>y :: odds l
/-- A list as a table. -/
def mk:Nat→List α→Tri α
 | 0,_ =>.leaf
 | _ + 1,[] =>.leaf
 | f + 1,x :: l =>.node (mk f (evens l)) (some x) (mk f (odds l))
/-- Frames have fewer temporaries than this. -/
def lid:Nat:=1000000
def put (t:Tri α) (n:Nat) (o:Option α):Tri α:=upd (n + 1) t n o
end Tri
/-- A slice's capacity: known, or not (its array then ends no earlier than the capacity says, elements of sz cells each). -/
inductive Cap where
 | is (n:Nat)
 | up (sz:Nat)
 /-- of an empty slice: neither is known where it begins -/
 | lost
 deriving Inhabited,DecidableEq
/-- The capacity, as far as it is known. -/
def Cap.sure (c:Cap) (len:Nat):Nat:=match c with
 | .is n =>n
 | _ =>len
/-- An abstract value. -/
inductive AV where
 | bool (b:Bool)
 | int (k:IntKind) (n:Int)
 | str (s:List Nat)
 | nilptr
 | ptr (b off:Nat)
 | nilslice
 | slice (b off len:Nat) (cap:Cap)
 | nilmap
 | map (b:Nat)
 | func (f:FuncId) (first caps:List AV)
 | yield (l:Nat)
 | nilfunc
 | iface (t:TypeId) (v:AV)
 | niliface
 | agg (l:List AV)
 | tuple (l:List AV)
 /-- a cell of which nothing is known -/
 | hole
 /-- a pointer, not nil, that nobody follows -/
 | opq (k:Nat)
 deriving Inhabited
mutual
def AV.beq:AV→AV→Bool
 | .bool a,.bool b =>a == b
 | .int j a,.int k b =>decide (j = k) && decide (a = b)
 | .str a,.str b =>decide (a = b)
 | .nilptr,.nilptr =>true
 | .ptr a b,.ptr c d =>Nat.beq a c && Nat.beq b d
 | .nilslice,.nilslice =>true
 | .slice a b c d,.slice a' b' c' d' =>Nat.beq a a' && Nat.beq b b' && Nat.beq c c' && decide (d = d')
 | .nilmap,.nilmap =>true
 | .map a,.map b =>Nat.beq a b
 | .func f a b,.func g c d =>Nat.beq f g && Ym a c && Ym b d
 | .yield a,.yield b =>Nat.beq a b
 | .nilfunc,.nilfunc =>true
 | .iface t v,.iface u w =>Nat.beq t u && AV.beq v w
 | .niliface,.niliface =>true
 | .agg a,.agg b =>Ym a b
 | .tuple a,.tuple b =>Ym a b
 | .opq a,.opq b =>Nat.beq a b
 | _,_ =>false
def Ym:List AV→List AV→Bool
 | [],[] =>true
 | a :: l,b :: m =>AV.beq a b && Ym l m
 | _,_ =>false
end
def AV.cells:AV→List AV
 | .agg l =>l
 | v =>[v]
/-- A block. cells: what is known of its first cells; cells below fz may be frozen; mk: the place behind its end may be marked; ro: it was there before the run began. -/
inductive AB where
 | cells (elem:TypeId) (c:List AV) (fz:Nat) (mk:Bool) (ro:Bool)
 | map (l:List (AV × AV)) (ro:Bool)
 | siter (s:List Nat) (pos:Nat)
 | loop (state:LoopState) (pending:Option Code) (fn:FuncId) (n:Nat) (tmps:Tri AV) (params:List Tmp) (assign body:Code) (defers:Nat)
 | deferred (live:Bool)
structure AH where
 t:Tri AB
 next:Nat
def X1 (s:ByteArray):List Nat:=s.data.toList.map UInt8.toNat
mutual
def Zd:Value→Option AV
 | .bool b =>some (.bool b)
 | .int k n =>some (.int k n)
 | .string s =>some (.str (X1 s))
 | .pointer none =>some .nilptr
 | .slice none 0 0 =>some .nilslice
 | .map none =>some .nilmap
 | .nilFunc =>some .nilfunc
 | .nilIface =>some .niliface
 | .iface t v =>(Zd v).map (.iface t)
 | .agg ⟨l⟩ =>(ofConsts l).map .agg
 | .tuple ⟨l⟩ =>(ofConsts l).map .tuple
 | .func (.func f) ⟨[]⟩ ⟨[]⟩ =>some (.func f [] [])
 | _ =>none
def ofConsts:List Value→Option (List AV)
 | [] =>some []
 | v :: l =>match Zd v,ofConsts l with
  | some a,some m =>some (a :: m)
  | _,_ =>none
end
def Zg (t:Tri AV):Operand→Option AV
 | .tmp i =>t.get i
 | .const v =>Zd v
 | .global g =>if Nat.blt g 64 then some (.ptr g 0) else none
 | .func f =>some (.func f [] [])
def ZN (t:Tri AV):List Operand→Option (List AV)
 | [] =>some []
 | x :: l =>match Zg t x,ZN t l with
  | some a,some m =>some (a :: m)
  | _,_ =>none
section ops
variable (P:Program)
/-- The program's tables, quick to look into. -/
def infoU (t:TypeId):Option TypeInfo:=(Tri.mk 20 P.types.toList).get t
def funcU (f:FuncId):Option Func:=(Tri.mk 20 P.funcs.toList).get f
def YR (t:TypeId):Option TypeDesc:=match infoU P t with
 | some i =>match i.desc with
  | .named _ u =>(infoU P u).map (·.desc)
  | d =>some d
 | none =>none
def szU (t:TypeId):Option Nat:=(infoU P t).map (·.size)
def Wi (t:TypeId):Option AV:=match infoU P t with
 | some i =>match i.zero with
  | some v =>Zd v
  | none =>none
 | none =>none
def Xj (t:TypeId):Option Bool:=match YR P t with
 | some (.struct _) =>some true
 | some (.array ..) =>some true
 | some _ =>some false
 | none =>none
def ZO:AV→Bool
 | .hole =>false
 | _ =>true
def solid:Option AV→Option AV
 | some v =>if ZO v then some v else none
 | none =>none
/-- 'len' elements from 'off' on, all known. -/
def cut (l:List AV) (off len:Nat):Option (List AV) :=
 let r:=(l.drop off).take len
 if Nat.beq r.length len && r.all ZO then some r else none
def partU (t:TypeId) (cs:List AV) (off:Nat):Option AV :=
 match Xj P t with
 | some true =>match szU P t with
  | some n =>(cut cs off n).map .agg
  | none =>none
 | some false =>cs[off]?
 | none =>none
/-- '==' on values without memory, by their type. -/
def eqlU:Nat→TypeId→AV→AV→Option Bool
 | 0,_,_,_ =>none
 | d + 1,t,x,y =>
  match YR P t,x,y with
  | some .bool,.bool a,.bool b =>some (a == b)
  | some (.int _),.int k a,.int k' b =>if k = k' then some (a == b) else none
  | some .string,.str a,.str b =>some (a == b)
  | some (.pointer _),.nilptr,.nilptr =>some true
  | some (.pointer _),.nilptr,.ptr _ _ =>some false
  | some (.pointer _),.ptr _ _,.nilptr =>some false
  | some (.pointer e),.ptr a i,.ptr b j =>
   match szU P e with
   | some (_ + 1) =>if Nat.beq a b then some (Nat.beq i j) else none
   | _ =>none
  | some (.slice _),.nilslice,.nilslice =>some true
  | some (.slice _),.nilslice,.slice .. =>some false
  | some (.slice _),.slice ..,.nilslice =>some false
  | some (.map _ _),.nilmap,.nilmap =>some true
  | some (.map _ _),.nilmap,.map _ =>some false
  | some (.map _ _),.map _,.nilmap =>some false
  | some (.func ..),.nilfunc,.nilfunc =>some true
  | some (.func ..),.nilfunc,.func .. =>some false
  | some (.func ..),.func ..,.nilfunc =>some false
  | some (.interface _),.niliface,.niliface =>some true
  | some (.interface _),.niliface,.iface .. =>some false
  | some (.interface _),.iface ..,.niliface =>some false
  | some (.interface _),.iface tx vx,.iface ty vy =>
   if Nat.beq tx ty then
    match infoU P tx with
    | some i =>if i.comparable then eqlU d tx vx vy else none
    | none =>none
   else some false
  | some (.struct fields),.agg xs,.agg ys =>
   if P.stoodInHeld t then none else
   fields.toList.foldr (fun f r =>
    if f.name = "_" then r else
    match partU P f.type xs f.offset,partU P f.type ys f.offset with
    | some a,some b =>match eqlU d f.type a b with
     | some true =>r
     | some false =>some false
     | none =>none
    | _,_ =>none) (some true)
  | _,_,_ =>none
def constO:Operand→Bool
 | .const _ =>true
 | _ =>false
def guardV (t:TypeId) (x y:Operand) (a b:AV):Bool:=match a,b with
 | .niliface,.niliface =>constO x || constO y
 | .agg _,.agg _ =>!(P.eqGuardType P.depth t)
 | _,_ =>true
def YY (op:BinOp) (t:TypeId) (x y:Operand) (a b:AV):Bool :=
 match op with
 | .eql | .neq =>guardV P t x y a b
 | _ =>true
def lessL:List Nat→List Nat→Bool
 | _,[] =>false
 | [],_ :: _ =>true
 | a :: x,b :: y =>Nat.blt a b || (Nat.beq a b && lessL x y)
def intOp (op:BinOp) (k:IntKind) (a b:Int):Option AV :=
 match op with
 | .add =>some (.int k (k.wrap (a + b)))
 | .sub =>some (.int k (k.wrap (a - b)))
 | .mul =>some (.int k (k.wrap (a * b)))
 | .quo =>if b = 0 then none else some (.int k (k.wrap (a.tdiv b)))
 | .rem =>if b = 0 then none else some (.int k (a.tmod b))
 | .and =>some (.int k (k.wrap (BitVec.ofInt k.bits a &&& BitVec.ofInt k.bits b).toNat))
 | .or =>some (.int k (k.wrap (BitVec.ofInt k.bits a ||| BitVec.ofInt k.bits b).toNat))
 | .xor =>some (.int k (k.wrap (BitVec.ofInt k.bits a ^^^ BitVec.ofInt k.bits b).toNat))
 | .andNot =>some (.int k (k.wrap (BitVec.ofInt k.bits a &&& ~~~ BitVec.ofInt k.bits b).toNat))
 | .eql =>some (.bool (a == b))
 | .neq =>some (.bool (a != b))
 | .lss =>some (.bool (a < b))
 | .leq =>some (.bool (a≤b))
 | .gtr =>some (.bool (a > b))
 | .geq =>some (.bool (a ≥ b))
 | _ =>none
def X6 (op:BinOp) (t:TypeId) (x y:AV):Option AV :=
 match x,y with
 | .int k a,.int yk b =>
  match op with
  | .shl =>if b < 0 then none else some (.int k (k.wrap (a * 2 ^ (min b.toNat k.bits))))
  | .shr =>if b < 0 then none else some (.int k (a.fdiv (2 ^ (min b.toNat k.bits))))
  | _ =>if k = yk then intOp op k a b else none
 | .str a,.str b =>
  match op with
  | .add =>if Nat.blt (a.length + b.length) 100000000 then some (.str (a ++ b)) else none
  | .eql =>some (.bool (a == b))
  | .neq =>some (.bool !(a == b))
  | .lss =>some (.bool (lessL a b))
  | .leq =>some (.bool (lessL a b || a == b))
  | .gtr =>some (.bool !(lessL a b || a == b))
  | .geq =>some (.bool !(lessL a b))
  | _ =>none
 | x,y =>
  match op with
  | .eql =>(eqlU P Op.maxDepth t x y).map .bool
  | .neq =>(eqlU P Op.maxDepth t x y).map fun b =>.bool !b
  | _ =>none
def unU (op:UnOp) (x:AV):Option AV :=
 match op,x with
 | .neg,.int k n =>some (.int k (k.wrap (0 - n)))
 | .xor,.int k n =>intOp .xor k (if k.signed then -1 else k.max) n
 | .not,.bool b =>some (.bool !b)
 | _,_ =>none
/-- Conversions that touch no memory. -/
def Y0 (src dst:TypeId) (x:AV):Option AV :=
 match YR P src,YR P dst,x with
 | some _,some (.int k),.int _ n =>some (.int k (k.wrap n))
 | some _,some .string,.int _ n =>if 0≤n∧n < 128 then some (.str [n.toNat]) else none
 | some _,some .string,.str s =>some (.str s)
 | some (.slice e),some .string,.nilslice =>match YR P e with
  | some (.int .u8) =>some (.str [])
  | _ =>none
 | _,_,_ =>none
def fillU (place:Nat→Option (Nat × Nat)) (cells:List AV):List (Nat × AV)→Option (List AV)
 | [] =>some cells
 | (i,v) :: rest =>
  match place i with
  | none =>none
  | some (off,size) =>
   let c:=v.cells
   if Nat.beq c.length size && Nat.ble (off + c.length) cells.length then
    fillU place (cells.take off ++ c ++ cells.drop (off + c.length)) rest
   else none
def placesU:List Field→Option (List (Nat × Nat))
 | [] =>some []
 | f :: l =>match szU P f.type,placesU l with
  | some n,some m =>some ((f.offset,n) :: m)
  | _,_ =>none
def Zs (t:Tri AV):List (Nat × Operand)→Option (List (Nat × AV))
 | [] =>some []
 | (i,x) :: l =>match Zg t x,Zs t l with
  | some a,some m =>some ((i,a) :: m)
  | _,_ =>none
def Wg (t:TypeId) (parts:List (Nat × AV)):Option AV :=
 match Wi P t,YR P t with
 | some z,some (.struct fields) =>match placesU P fields.toList with
  | some ps =>(fillU (fun i =>ps[i]?) z.cells parts).map .agg
  | none =>none
 | some z,some (.array _ e) =>match szU P e with
  | some n =>(fillU (fun i =>some (i * n,n)) z.cells parts).map .agg
  | none =>none
 | _,_ =>none
def byteV (n:Nat):AV:=.int .u8 (Int.ofNat n)
def idxU (i:AV) (n:Nat):Option Nat :=
 match i with
 | .int _ (.ofNat i) =>if Nat.blt i n then some i else none
 | _ =>none
def indexU (t:TypeId) (x i:AV):Option AV :=
 match YR P t,x with
 | some (.array len e),.agg cs =>match idxU i len,szU P e with
  | some i,some n =>partU P e cs (i * n)
  | _,_ =>none
 | some .string,.str s =>match idxU i s.length with
  | some i =>(s[i]?).map byteV
  | none =>none
 | _,_ =>none
def X3 (t:TypeId) (x i:AV):Option AV :=
 match YR P t,x with
 | some (.array len e),.ptr b off =>match idxU i len,szU P e with
  | some i,some n =>some (.ptr b (off + i * n))
  | _,_ =>none
 | some (.slice e),.slice b off len _ =>match idxU i len,szU P e with
  | some i,some n =>some (.ptr b (off + i * n))
  | _,_ =>none
 | _,_ =>none
def ZS (t:TypeId) (x:AV) (f:Nat):Option AV :=
 match YR P t,x with
 | some (.struct fs),.ptr b off =>match fs[f]? with
  | some f =>match szU P f.type with
   | some (_ + 1) =>some (.ptr b (off + f.offset))
   | _ =>none
  | none =>none
 | _,_ =>none
def fieldU (t:TypeId) (x:AV) (f:Nat):Option AV :=
 match YR P t,x with
 | some (.struct fs),.agg cs =>match fs[f]? with
  | some f =>partU P f.type cs f.offset
  | none =>none
 | _,_ =>none
/-- A bound of a slice expression: the default, or a number at most 'most'. -/
def XV (x:Option AV) (dflt most:Nat):Option Nat :=
 match x with
 | none =>some dflt
 | some (.int _ (.ofNat i)) =>if Nat.ble i most then some i else none
 | some _ =>none
def sliceStr (s:List Nat) (lo hi:Option AV):Option AV:=match XV hi s.length s.length with
 | some h =>match XV lo 0 h with
  | some l =>some (.str ((s.drop l).take (h - l)))
  | none =>none
 | none =>none
def X2 (n b off len:Nat) (cap:Cap) (lo hi:Option AV):Option AV:=match XV hi len (cap.sure len) with
 | some h =>match XV lo 0 h with
  | some l =>match cap with
   | .is c =>some (.slice b (if Nat.beq c l then off else off + l * n) (h - l) (.is (c - l)))
   | .up sz =>if !Nat.beq sz n then none else if Nat.beq h l && !Nat.beq l 0 then some (.slice b off 0 .lost) else some (.slice b (off + l * n) (h - l) (.up sz))
   | .lost =>some (.slice b off 0 .lost)
  | none =>none
 | none =>none
def sliceSl3 (n b off len:Nat) (cap:Cap) (lo hi mx:AV):Option AV:=match cap with
 | .lost =>none
 | _ =>match XV (some mx) 0 (cap.sure len) with
  | some m =>match XV (some hi) 0 m with
   | some h =>match XV (some lo) 0 h with
    | some l =>some (.slice b (if Nat.beq m l then off else off + l * n) (h - l) (.is (m - l)))
    | none =>none
   | none =>none
  | none =>none
def sliceArr (n k b off:Nat) (lo hi:Option AV):Option AV:=match XV hi k k with
 | some h =>match XV lo 0 h with
  | some l =>some (.slice b (if Nat.beq k l then off else off + l * n) (h - l) (.is (k - l)))
  | none =>none
 | none =>none
def sliceNil (lo hi:Option AV):Option AV:=match XV hi 0 0,XV lo 0 0 with
 | some _,some _ =>some .nilslice
 | _,_ =>none
def YW (t:TypeId) (x:AV) (lo hi mx:Option AV):Option AV :=
 match YR P t,x with
 | some .string,.str s =>match mx with
  | none =>sliceStr s lo hi
  | some _ =>none
 | some (.slice e),.slice b off len cap =>match szU P e,mx with
  | some n,none =>X2 n b off len cap lo hi
  | some n,some m =>match lo,hi with
   | some l,some h =>sliceSl3 n b off len cap l h m
   | _,_ =>none
  | none,_ =>none
 | some (.slice e),.nilslice =>match szU P e,mx with
  | some _,none =>sliceNil lo hi
  | _,_ =>none
 | some (.array k e),.ptr b off =>match szU P e,mx with
  | some n,none =>sliceArr n k b off lo hi
  | _,_ =>none
 | _,_ =>none
def optO (t:Tri AV):Option Operand→Option (Option AV)
 | none =>some none
 | some x =>(Zg t x).map some
def maxL (k:IntKind) (a:Int):List AV→Option AV
 | [] =>some (.int k a)
 | .int _ b :: l =>maxL k (if b > a then b else a) l
 | _ =>none
def maxU:List AV→Option AV
 | .int k a :: l =>maxL k a l
 | _ =>none
def minL (k:IntKind) (a:Int):List AV→Option AV
 | [] =>some (.int k a)
 | .int _ b :: l =>minL k (if b < a then b else a) l
 | _ =>none
def minU:List AV→Option AV
 | .int k a :: l =>minL k a l
 | _ =>none
/-- Built-in functions that touch no memory. -/
def Wq (b:Builtin) (ts:List TypeId) (args:List AV):Option AV :=
 match b,ts,args with
 | .len,t :: _,x :: _ =>match YR P t,x with
  | some .string,.str s =>some (.int .i64 s.length)
  | some (.slice _),.nilslice =>some (.int .i64 0)
  | some (.slice _),.slice _ _ n _ =>some (.int .i64 n)
  | some (.array n _),_ =>some (.int .i64 n)
  | some (.map ..),.nilmap =>some (.int .i64 0)
  | _,_ =>none
 | .cap,t :: _,x :: _ =>match YR P t,x with
  | some (.slice _),.nilslice =>some (.int .i64 0)
  | some (.slice _),.slice _ _ _ (.is c) =>some (.int .i64 c)
  | some (.array n _),_ =>some (.int .i64 n)
  | _,_ =>none
 | .max,_,l =>maxU l
 | .min,_,l =>minU l
 | .unsafeSliceData,_,[.nilslice] =>some .nilptr
 | .unsafeSliceData,_,[.slice b off (_ + 1) _] =>some (.ptr b off)
 | _,_,_ =>none
def pickP (t:Tri AV) (c a b:Operand):Option AV:=match Zg t c with
 | some (.bool true) =>Zg t a
 | some (.bool false) =>Zg t b
 | _ =>none
def buildP (t:Tri AV) (ty:TypeId) (parts:Array (Nat × Operand)):Option AV:=match Zs t parts.toList with
 | some ps =>Wg P ty ps
 | none =>none
def nilP:Option AV→Option AV
 | some (.ptr b i) =>some (.ptr b i)
 | some (.func f a b) =>some (.func f a b)
 | _ =>none
def binP (t:Tri AV) (op:BinOp) (ty:TypeId) (x y:Operand):Option AV:=match Zg t x,Zg t y with
 | some a,some b =>if YY P op ty x y a b then X6 P op ty a b else none
 | _,_ =>none
def unP (op:UnOp):Option AV→Option AV
 | some a =>unU op a
 | none =>none
def convP (s d:TypeId):Option AV→Option AV
 | some a =>Y0 P s d a
 | none =>none
def ifaceP (ty:TypeId) (x:Option AV):Option AV:=match YR P ty,x with
 | some (.interface _),_ =>none
 | some _,some a =>some (.iface ty a)
 | _,_ =>none
def makeP (t:Tri AV) (fn:Fn) (first caps:Array Operand):Option AV:=match fn,ZN t first.toList,ZN t caps.toList with
 | .func f,some a,some b =>some (.func f a b)
 | _,_,_ =>none
def sliceP (t:Tri AV) (ty:TypeId) (x:Operand) (lo hi mx:Option Operand):Option AV:=match Zg t x,optO t lo,optO t hi,optO t mx with
 | some a,some l,some h,some m =>YW P ty a l h m
 | _,_,_,_ =>none
def fieldAddrP (ty:TypeId) (x:Option AV) (f:Nat):Option AV:=match x with
 | some a =>ZS P ty a f
 | none =>none
def fieldP (ty:TypeId) (x:Option AV) (f:Nat):Option AV:=match x with
 | some a =>fieldU P ty a f
 | none =>none
def indexAddrP (ty:TypeId) (x i:Option AV):Option AV:=match x,i with
 | some a,some b =>X3 P ty a b
 | _,_ =>none
def indexP (ty:TypeId) (x i:Option AV):Option AV:=match x,i with
 | some a,some b =>indexU P ty a b
 | _,_ =>none
def extractP (x:Option AV) (i:Nat):Option AV:=match x with
 | some (.tuple l) =>l[i]?
 | _ =>none
def builtinP (t:Tri AV) (b:Builtin) (args:Array Operand) (ts:Array TypeId):Option AV:=match ZN t args.toList with
 | some l =>Wq P b ts.toList l
 | none =>none
def callP (t:Tri AV) (c:Callee) (args:Array Operand) (ts:Array TypeId):Option AV:=match c with
 | .builtin b =>builtinP P t b args ts
 | _ =>none
def assertP (ty:TypeId) (ok:Bool) (x:Option AV):Option AV:=match YR P ty,x with
 | some (.interface _),_ =>none
 | some _,some (.iface u v) =>
  if Nat.beq u ty then some (if ok then .tuple [v,.bool true] else v)
  else if ok then (Wi P ty).map fun z =>.tuple [z,.bool false] else none
 | some _,some .niliface =>if ok then (Wi P ty).map fun z =>.tuple [z,.bool false] else none
 | _,_ =>none
/-- Operations that touch no memory. -/
def pureU (t:Tri AV) (op:Op):Option AV :=
 match op with
 | .move x | .assign x =>Zg t x
 | .pick c a b =>pickP t c a b
 | .build ty parts =>buildP P t ty parts
 | .nilCheck x =>nilP (Zg t x)
 | .binOp op ty x y _ =>binP P t op ty x y
 | .unOp op _ x =>unP op (Zg t x)
 | .convert s d x =>convP P s d (Zg t x)
 | .makeInterface ty x =>ifaceP P ty (Zg t x)
 | .makeFunc fn first caps =>makeP t fn first caps
 | .slice ty x lo hi mx =>sliceP P t ty x lo hi mx
 | .fieldAddr ty x f =>fieldAddrP P ty (Zg t x) f
 | .field ty x f =>fieldP P ty (Zg t x) f
 | .indexAddr ty x i =>indexAddrP P ty (Zg t x) (Zg t i)
 | .index ty x i =>indexP P ty (Zg t x) (Zg t i)
 | .extract x i =>extractP (Zg t x) i
 | .call c =>callP P t c.callee c.args c.argTypes
 | .typeAssert x _ ty ok =>assertP P ty ok (Zg t x)
 | _ =>none
def AH.cellsAt (H:AH) (b:Nat):Option (List AV) :=
 match H.t.get b with
 | some (.cells _ c _ _ _) =>some c
 | _ =>none
def loadVarU (ty:TypeId) (b off:Nat) (H:AH):Option AV :=
 match H.cellsAt b,Xj P ty with
 | some c,some true =>match szU P ty with
  | some n =>(cut c off n).map .agg
  | none =>none
 | some c,some false =>solid c[off]?
 | _,_ =>none
def byteL:List AV→Option (List Nat)
 | [] =>some []
 | .int .u8 (.ofNat n) :: l =>if Nat.blt n 256 then (byteL l).map (n :: ·) else none
 | _ =>none
/-- May a value be a map's key: numbers, texts, bools, structs of such. -/
def keyU:Nat→TypeId→AV→Bool
 | 0,_,_ =>false
 | d + 1,t,v =>match YR P t,v with
  | some .bool,_ =>true
  | some (.int _),_ =>true
  | some .string,_ =>true
  | some (.struct fields), .agg cs => fields.toList.all fun f => f.name = "_" || match partU P f.type cs f.offset with
   | some u =>keyU d f.type u
   | none =>false
  | _,_ =>false
/-- The entry of a key, every entry asked. none: it cannot be told. -/
def findU (kt:TypeId) (k:AV):List (AV × AV)→Option (Option AV)
 | [] =>some none
 | (j,v) :: l =>match findU kt k l,eqlU P Op.maxDepth kt k j with
  | some none,some true =>some (some v)
  | some r,some false =>some r
  | _,_ =>none
def mapAt (x:AV) (H:AH):Option (List (AV × AV)):=match x with
 | .nilmap =>some []
 | .map b =>match H.t.get b with
  | some (.map l _) =>some l
  | _ =>none
 | _ =>none
def lookupU (ty:TypeId) (x i:AV) (ok:Bool) (H:AH):Option AV :=
 match YR P ty,mapAt x H with
 | some (.map kt e),some l =>if keyU P 4 kt i then
   match findU P kt i l with
   | some (some v) =>some (if ok then .tuple [v,.bool true] else v)
   | some none =>match Wi P e with
    | some z =>some (if ok then .tuple [z,.bool false] else z)
    | none =>none
   | none =>none
  else none
 | _,_ =>none
def loadP (ty:TypeId) (x:Option AV) (H:AH):Option AV:=match x with
 | some (.ptr b off) =>loadVarU P ty b off H
 | _ =>none
def lookupP (ty:TypeId) (x i:Option AV) (ok:Bool) (H:AH):Option AV:=match x,i with
 | some a,some b =>lookupU P ty a b ok H
 | _,_ =>none
def convL (s d:TypeId) (x:Option AV) (H:AH):Option AV:=match YR P s,YR P d,x with
 | some (.slice e),some .string,some (.slice b off len _) =>match YR P e with
  | some (.int .u8) =>if Nat.beq len 0 then some (.str []) else match H.cellsAt b with
   | some c =>match cut c off len with
    | some l =>(byteL l).map .str
    | none =>none
   | none =>none
  | _ =>none
 | some (.slice e),some .string,some .nilslice =>match YR P e with
  | some (.int .u8) =>some (.str [])
  | _ =>none
 | _,_,_ =>none
def lenL (t:Tri AV) (args:List Operand) (ts:List TypeId) (H:AH):Option AV:=match args,ts with
 | [x],[ty] =>match YR P ty,Zg t x with
  | some (.map ..),some (.map b) =>match H.t.get b with
   | some (.map l _) =>some (.int .i64 l.length)
   | _ =>none
  | _,_ =>none
 | _,_ =>none
def callL (t:Tri AV) (c:Callee) (args:Array Operand) (ts:Array TypeId) (H:AH):Option AV:=match c with
 | .builtin .len =>lenL P t args.toList ts.toList H
 | _ =>none
/-- Operations that read memory and change nothing. -/
def WM (t:Tri AV) (op:Op) (H:AH):Option AV :=
 match op with
 | .load ty a =>loadP P ty (Zg t a) H
 | .lookup ty x i ok =>lookupP P ty (Zg t x) (Zg t i) ok H
 | .convert s d x =>convL P s d (Zg t x) H
 | .call c =>callL P t c.callee c.args c.argTypes H
 | _ =>none
abbrev New:=AB × (Nat→AV)
def allocN (e:TypeId):Option New:=match Wi P e with
 | some z =>some (.cells e z.cells 0 false false,fun b =>.ptr b 0)
 | none =>none
def boxN (e:TypeId) (x:Option AV):Option New:=match x with
 | some v =>some (.cells e v.cells 0 false false,fun b =>.ptr b 0)
 | none =>none
def Yk (t:Tri AV) (ty:TypeId) (len:Nat) (parts:Array (Nat × Operand)):Option New:=match YR P ty,Zs t parts.toList with
 | some (.slice e),some ps =>match szU P e,Wi P e with
  | some (n + 1),some z =>if Nat.ble (len * (n + 1)) 100000 && Nat.beq z.cells.length (n + 1) then
    match fillU (fun i =>some (i * (n + 1),n + 1)) (List.replicate len z.cells).flatten ps with
    | some c =>some (.cells e c 0 false false,fun b =>.slice b 0 len (.is len))
    | none =>none
   else none
  | _,_ =>none
 | _,_ =>none
def makeSliceN (ty:TypeId) (l c:Option AV):Option New:=match YR P ty,l,c with
 | some (.slice e),some (.int .i64 (.ofNat l)),some (.int .i64 (.ofNat c)) =>match infoU P e,Wi P e with
  | some i,some z =>if Nat.ble l c && Nat.ble c 100000000 && Nat.ble i.bytes 100000 && Nat.beq z.cells.length i.size && !Nat.beq i.size 0 then
    some (.cells e (List.replicate c z.cells).flatten 0 false false,fun b =>.slice b 0 l (.is c))
   else none
  | _,_ =>none
 | _,_,_ =>none
def rangeN (ty:TypeId) (x:Option AV):Option New:=match YR P ty,x with
 | some .string,some (.str s) =>some (.siter s 0,fun b =>.ptr b 0)
 | _,_ =>none
/-- Operations that make a block and do nothing else: the block, and their value, given the block's name. -/
def newU (t:Tri AV) (op:Op):Option New :=
 match op with
 | .alloc e =>allocN P e
 | .box e x =>boxN e (Zg t x)
 | .buildSlice ty len parts =>Yk P t ty len parts
 | .makeMap _ none =>some (.map [] false,fun b =>.map b)
 | .makeSlice ty l c =>makeSliceN P ty (Zg t l) (Zg t c)
 | .range ty x =>rangeN P ty (Zg t x)
 | _ =>none
inductive Xb where
 | val (v:AV)
 | enter (f:FuncId) (args:List AV)
 | round (l:Nat) (fn n:Nat) (tmps:Tri AV) (assign body:Code)
 | defer (f:FuncId) (args caps:List AV)
 | recover
 | panic (v:AV)
/-- A value of one cell. -/
def Yn:AV→Bool
 | .agg _ =>false
 | .tuple _ =>false
 | _ =>true
def AB.one:AB→Bool
 | .cells _ c _ _ _ =>c.all Yn
 | _ =>true
def AH.set (H:AH) (b:Nat) (blk:AB):AH:={ H with t:=H.t.put b (some blk) }
def AH.new (H:AH) (blk:AB):Option AH:=if blk.one then some ⟨H.t.put H.next (some blk),H.next + 1⟩ else none
/-- Cells written from 'off' on. -/
def over (c:List AV) (off:Nat) (vs:List AV):Option (List AV) :=
 if Nat.ble (off + vs.length) c.length && vs.all Yn then some (c.take off ++ vs ++ c.drop (off + vs.length)) else none
def Zr (ty:TypeId) (b off:Nat) (v:AV) (H:AH):Option AH :=
 match H.t.get b,szU P ty with
 | some (.cells e c fz mk false),some n =>
  if Nat.beq v.cells.length n && Nat.ble fz off then
   match over c off v.cells with
   | some c =>some (H.set b (.cells e c fz mk false))
   | none =>none
  else none
 | _,_ =>none
/-- The cells that are appended. -/
def YG (sz:Nat) (x:AV) (H:AH):Option (Nat × List AV) :=
 match x with
 | .nilslice =>some (0,[])
 | .slice b off len _ =>if Nat.beq len 0 then some (0,[]) else match H.cellsAt b with
  | some c =>(cut c off (len * sz)).map (len,·)
  | none =>none
 | .str s =>if Nat.beq sz 1 then some (s.length,s.map byteV) else none
 | _ =>none
/-- The cells that 'append' is to add, and how many elements they are. -/
def addedU (ud:TypeDesc) (x:AV) (sz:Nat) (z:List AV) (H:AH):Option (Nat × List AV):=match ud with
 | .int _ =>match x with
  | .int _ (.ofNat n) =>if Nat.ble n 274877906944 then some (n,(List.replicate n z).flatten) else none
  | _ =>none
 | _ =>YG sz x H
/-- Onto a slice with room: in place. -/
def appendRoom (b off len cap n sz:Nat) (cs:List AV) (H:AH):Option (AV × AH):=match H.t.get b with
 | some (.cells e' c fz mk false) =>if Nat.ble fz (off + len * sz) then
   match over c (off + len * sz) cs with
   | some c =>some (.slice b off (len + n) (.is cap),H.set b (.cells e' c fz mk false))
   | none =>none
  else none
 | _ =>none
/-- Onto a slice without room: a new array. -/
def appendGrow (e b off len n sz:Nat) (cs:List AV) (H:AH):Option (AV × AH):=match H.cellsAt b with
 | some c =>match cut c off (len * sz) with
  | some old =>match H.new (.cells e (old ++ cs) 0 false false) with
   | some H' =>some (.slice H.next 0 (len + n) (.up sz),H')
   | none =>none
  | none =>none
 | none =>none
/-- Onto a slice of which it is not known: the array that was appended to is forgotten: it may be the new one's. -/
def appendUp (e b off len n sz:Nat) (cs:List AV) (H:AH):Option (AV × AH):=match H.t.get b with
 | some (.cells e' c fz mk false) =>if Nat.beq e e' && Nat.ble fz (off + len * sz) && Nat.beq off 0 then
   match cut c off (len * sz) with
   | some old =>match AH.new { H with t:=H.t.put b none } (.cells e (old ++ cs) fz mk false) with
    | some H' =>some (.slice H.next 0 (len + n) (.up sz),H')
    | none =>none
   | none =>none
  else none
 | _ =>none
def appendNil (e n sz:Nat) (cs:List AV) (H:AH):Option (AV × AH) :=
 if Nat.beq n 0 then some (.nilslice,H) else
 if Nat.ble n 274877906944 then match H.new (.cells e cs 0 false false) with
  | some H' =>some (.slice H.next 0 n (.up sz),H')
  | none =>none
 else none
def Yq (e sz:Nat) (s:AV) (n:Nat) (cs:List AV) (H:AH):Option (AV × AH):=match s with
 | .nilslice =>appendNil e n sz cs H
 | .slice b off len (.is cap) =>
  if Nat.ble (len + n) 274877906944 then
   if Nat.ble (len + n) cap then appendRoom b off len cap n sz cs H else appendGrow e b off len n sz cs H
  else none
 | .slice b off len (.up sz') =>
  if Nat.ble (len + n) 274877906944 && Nat.beq sz' sz then
   if Nat.beq n 0 then some (.slice b off len (.up sz'),H) else appendUp e b off len n sz cs H
  else none
 | _ =>none
def X8 (ts:List TypeId) (args:List AV) (H:AH):Option (AV × AH) :=
 match ts,args with
 | t :: u :: _,[s,x] =>match YR P t,YR P u with
  | some (.slice e),some ud =>match infoU P e,Wi P e with
   | some i,some z =>
    if Nat.ble i.bytes 512 && Nat.beq z.cells.length i.size && !Nat.beq i.size 0 then
     match addedU ud x i.size z.cells H with
     | some (n,cs) =>Yq e i.size s n cs H
     | none =>none
    else none
   | _,_ =>none
  | _,_ =>none
 | _,_ =>none
def lenA:AV→Option Nat
 | .nilslice =>some 0
 | .slice _ _ n _ =>some n
 | .str s =>some s.length
 | _ =>none
def lenS:AV→Option Nat
 | .nilslice =>some 0
 | .slice _ _ n _ =>some n
 | _ =>none
def headA (n:Nat):AV→AV
 | .slice b off _ c =>.slice b off n c
 | .str s =>.str (s.take n)
 | v =>v
def copyTo (sz n:Nat) (d x:AV) (H:AH):Option (AV × AH):=match YG sz (headA n x) H,d with
 | some (_,cs),.slice b off _ _ =>match H.t.get b with
  | some (.cells e' c fz mk false) =>if Nat.ble fz off then
    match over c off cs with
    | some c =>some (.int .i64 n,H.set b (.cells e' c fz mk false))
    | none =>none
   else none
  | _ =>none
 | _,_ =>none
def copyU (ts:List TypeId) (args:List AV) (H:AH):Option (AV × AH) :=
 match ts,args with
 | t :: _,[d,x] =>match YR P t with
  | some (.slice e) =>match szU P e,lenS d,lenA x with
   | some sz,some dl,some xl =>if Nat.beq (min xl dl) 0 then some (.int .i64 0,H) else copyTo sz (min xl dl) d x H
   | _,_,_ =>none
  | _ =>none
 | _,_ =>none
/-- A new key's entry. -/
def mapUpdateU (kt:TypeId) (m k v:AV) (H:AH):Option AH :=
 match m with
 | .map b =>match H.t.get b with
  | some (.map l false) =>if keyU P 4 kt k then
    match findU P kt k l with
    | some none =>some (H.set b (.map (l ++ [(k,v)]) false))
    | _ =>none
   else none
  | _ =>none
 | _ =>none
def unsafeStringU (ts:List TypeId) (args:List AV) (H:AH):Option (AV × AH) :=
 match ts,args with
 | pt :: _,[.nilptr,.int _ 0] =>(YR P pt).bind fun _ =>some (.str [],H)
 | pt :: _,[.ptr b off,.int _ (.ofNat n)] =>
  if Nat.beq n 0 then some (.str [],H) else
  match YR P pt,H.t.get b with
  | some (.pointer u),some (.cells e c fz false false) =>
   if Nat.beq u e && Nat.ble n 100000000 then
    match YR P u,szU P u,cut c off n with
    | some (.int .u8),some 1,some l =>match byteL l with
     | some s =>some (.str s,H.set b (.cells e c (max fz (off + n)) false false))
     | none =>none
    | _,_,_ =>none
   else none
  | _,_ =>none
 | _,_ =>none
/-- Functions without a Go body. -/
def noEscapeX (args:List AV) (H:AH):Option (AV × AH):=match args with
 | [x] =>some (x,H)
 | _ =>none
def indexByteX (args:List AV) (H:AH):Option (AV × AH):=match args with
 | [.str s,.int .u8 (.ofNat c)] =>if Nat.blt c 256 then match s.findIdx? (fun b =>Nat.beq b c) with
   | some i =>some (.int .i64 i,H)
   | none =>some (.int .i64 (-1),H)
  else none
 | _ =>none
def makeNoZeroX (results:List TypeId) (args:List AV) (H:AH):Option (AV × AH):=match results,args with
 | [t],[.int .i64 (.ofNat n)] =>match YR P t with
  | some (.slice e) =>if Nat.ble n 100000000 then match H.new (.cells e [] 0 false false) with
    | some H' =>some (.slice H.next 0 n (.up 1),H')
    | none =>none
   else none
  | _ =>none
 | _,_ =>none
def externU (fn:Func) (args:List AV) (H:AH):Option (AV × AH) :=
 if fn.origin ≠ "" then none
 else if fn.name = "internal/abi.NoEscape" then noEscapeX args H
 else if fn.name = "internal/bytealg.IndexByteString" then indexByteX args H
 else if fn.name = "internal/bytealg.MakeNoZero" then makeNoZeroX P fn.resultTypes.toList args H
 else none
/-- The loop's temporaries, the round's parameters in them. -/
def putParams (n:Nat):List (Tmp × AV)→Tri AV→Option (Tri AV)
 | [],t =>some t
 | (d,v) :: l,t =>if Nat.blt d n && Nat.blt d Tri.lid then putParams n l (t.put d (some v)) else none
def yieldU (l:Nat) (args:List AV) (H:AH):Option (Xb × AH):=match H.t.get l with
 | some (.loop _ _ fn n tmps params assign body _) =>
  if Nat.beq args.length params.length && Nat.ble n Tri.lid then
   match putParams n (params.zip args) tmps with
   | some t =>some (.round l fn n t assign body,H)
   | none =>none
  else none
 | _ =>none
def Yh (f:AV) (args:List AV) (H:AH):Option (Xb × AH) :=
 match f with
 | .func f first caps =>match funcU P f with
  | some fn =>match fn.body with
   | some _ =>some (.enter f (first ++ args ++ caps),H)
   | none =>match externU P fn (first ++ args ++ caps) H with
    | some (v,H) =>some (.val v,H)
    | none =>none
  | none =>none
 | .yield l =>yieldU l args H
 | _ =>none
/-- Conversions that write, or draw. -/
def convE (s d:TypeId) (x:AV) (H:AH):Option (AV × AH) :=
 match YR P s,YR P d,x with
 | some _,some (.slice e),.str s =>match YR P e with
  | some (.int .u8) =>match H.new (.cells e (s.map byteV) 0 true false) with
   | some H' =>some (.slice H.next 0 s.length (.up 1),H')
   | none =>none
  | _ =>none
 | some (.slice _),some (.slice e),.slice b off len cap =>match YR P e,Nat.beq s d with
  | some (.int .u8),true =>if cap = .lost then none else match H.t.get b with
   | some (.cells e' c 0 _ false) =>some (.slice b off len cap,H.set b (.cells e' c 0 true false))
   | _ =>none
  | _,_ =>none
 | some (.pointer t),some .unsafePointer,.ptr b off =>match H.t.get b,szU P t with
  | some (.cells _ c _ _ _),some (_ + 1) =>if Nat.blt off c.length then some (.ptr b off,H) else none
  | _,_ =>none
 | some .unsafePointer,some (.pointer u),.ptr b off =>match H.t.get b with
  | some (.cells e c _ _ _) =>if Nat.beq e u && Nat.beq off 0 && Nat.beq c.length ((szU P u).getD 0) && !Nat.beq c.length 0 then some (.ptr b off,H) else none
  | _ =>none
 | _,_,_ =>none
/-- The string's next rune, if it is ASCII. -/
def nextU (b:Nat) (H:AH):Option (AV × AH) :=
 match H.t.get b with
 | some (.siter s pos) =>match s[pos]? with
  | some c =>if Nat.blt c 128 then some (.tuple [.bool true,.int .i64 pos,.int .i32 c],H.set b (.siter s (pos + 1))) else none
  | none =>some (.tuple [.bool false],H)
 | _ =>none
def valE (r:Option (AV × AH)):Option (Xb × AH):=match r with
 | some (v,H) =>some (.val v,H)
 | none =>none
def heapE (r:Option AH):Option (Xb × AH):=match r with
 | some H =>some (.val (.tuple []),H)
 | none =>none
def storeE (ty:TypeId) (a x:Option AV) (H:AH):Option (Xb × AH):=match a,x with
 | some (.ptr b off),some v =>heapE (Zr P ty b off v H)
 | _,_ =>none
def mapE (ty:TypeId) (m k x:Option AV) (H:AH):Option (Xb × AH):=match YR P ty,m,k,x with
 | some (.map kt _),some m,some k,some v =>heapE (mapUpdateU P kt m k v H)
 | _,_,_,_ =>none
def convertE (s d:TypeId) (x:Option AV) (H:AH):Option (Xb × AH):=match x with
 | some a =>valE (convE P s d a H)
 | none =>none
def nextE (it:Option AV) (H:AH):Option (Xb × AH):=match it with
 | some (.ptr b 0) =>valE (nextU b H)
 | _ =>none
def builtinE (b:Builtin) (ts:List TypeId) (args:List AV) (H:AH):Option (Xb × AH):=match b with
 | .append =>valE (X8 P ts args H)
 | .copy =>valE (copyU P ts args H)
 | .unsafeString =>valE (unsafeStringU P ts args H)
 | .recover =>some (.recover,H)
 | _ =>none
def callE (t:Tri AV) (c:Callee) (args:Array Operand) (ts:Array TypeId) (H:AH):Option (Xb × AH):=match c,ZN t args.toList with
 | .value f,some l =>match Zg t f with
  | some g =>Yh P g l H
  | none =>none
 | .builtin b,some l =>builtinE P b ts.toList l H
 | _,_ =>none
def deferE (t:Tri AV) (c:Callee) (args:Array Operand) (H:AH):Option (Xb × AH):=match c,ZN t args.toList with
 | .value f,some l =>match Zg t f with
  | some (.func f a b) =>some (.defer f (a ++ l) b,H)
  | _ =>none
 | _,_ =>none
def WG (x:Option AV) (H:AH):Option (Xb × AH):=match x with
 | some (.iface ty v) =>some (.panic (.iface ty v),H)
 | _ =>none
def assignE (x:Option AV) (H:AH):Option (Xb × AH):=match x with
 | some v =>some (.val v,H)
 | none =>none
/-- Operations that change memory, or run code. -/
def effU (t:Tri AV) (op:Op) (H:AH):Option (Xb × AH) :=
 match op with
 | .assign x =>assignE (Zg t x) H
 | .store ty a x =>storeE P ty (Zg t a) (Zg t x) H
 | .insert ty m k x | .mapUpdate ty m k x =>mapE P ty (Zg t m) (Zg t k) (Zg t x) H
 | .convert s d x =>convertE P s d (Zg t x) H
 | .next it true =>nextE (Zg t it) H
 | .call c =>callE P t c.callee c.args c.argTypes H
 | .defer c =>deferE t c.callee c.args H
 | .panic x =>WG (Zg t x) H
 | _ =>none
/-- What an operation is to a region that draws its order. -/
inductive Cls where
 | pure | load | new | eff
 deriving DecidableEq
def clsConv (s d:TypeId):Cls:=match YR P s,YR P d with
 | some _,some (.int _) =>.pure
 | some .string,some .string =>.pure
 | some (.slice _),some .string =>.load
 | _,_ =>.eff
def clsLen (ts:List TypeId):Cls:=match ts with
 | [ty] =>match YR P ty with
  | some (.map ..) =>.load
  | _ =>.pure
 | _ =>.pure
def clsCall (c:Callee) (ts:Array TypeId):Cls:=match c with
 | .builtin .len =>clsLen P ts.toList
 | .builtin .cap | .builtin .max | .builtin .min | .builtin .unsafeSliceData =>.pure
 | _ =>.eff
def cls (op:Op):Cls :=
 match op with
 | .move _|.pick ..|.build ..|.nilCheck _|.binOp ..|.unOp ..|.makeInterface ..|.makeFunc ..|.slice ..|.fieldAddr ..|.field ..|.indexAddr ..|.index ..|.extract ..|.typeAssert .. =>.pure
 | .load .. | .lookup .. =>.load
 | .alloc _ | .box .. | .buildSlice .. | .makeMap .. | .makeSlice .. | .range .. =>.new
 | .convert s d _ =>clsConv P s d
 | .call c =>clsCall P c.callee c.argTypes
 | _ =>.eff
def pureX (t:Tri AV) (op:Op) (H:AH):Option (Xb × AH):=match pureU P t op with
 | some v =>some (.val v,H)
 | none =>none
def loadX (t:Tri AV) (op:Op) (H:AH):Option (Xb × AH):=match WM P t op H with
 | some v =>some (.val v,H)
 | none =>pureX P t op H
def newX (t:Tri AV) (op:Op) (H:AH):Option (Xb × AH):=match newU P t op with
 | some (blk,mk) =>match H.new blk with
  | some H' =>some (.val (mk H.next),H')
  | none =>none
 | none =>none
def effX (t:Tri AV) (op:Op) (H:AH):Option (Xb × AH):=match effU P t op H with
 | some r =>some r
 | none =>pureX P t op H
/-- An operation outside a region that draws its order. -/
def Xr (t:Tri AV) (op:Op) (H:AH):Option (Xb × AH) :=
 match cls P op with
 | .pure =>pureX P t op H
 | .load =>loadX P t op H
 | .new =>newX P t op H
 | .eff =>effX P t op H
end ops
end Go.Ev
end
section
namespace Go.Ev
inductive AI where
 | code (c:Code)
 | inBlock (id:Nat)
 | inLoop (c:Code)
 | inScope (c:Code)
 | inRegion (ops:Array Oper) (todo:List Nat)
 /-- A region that draws its order: what has been done (a Xg each), and the operation whose call runs. -/
 | drawn (ops:Array Oper) (done:Nat) (cur:Option Nat)
 | inRangeFunc (l:Nat)
 | endRangeFunc (l:Nat)
 | beginRound
inductive AM where
 | run
 | returning
 | panicking (chain:List (AV × Bool))
inductive AD where
 | call (f:FuncId) (args caps:List AV)
 | collected (b:Nat)
structure AF where
 fn:FuncId
 n:Nat
 tmps:Tri AV
 todo:List AI
 defers:List AD
 mode:AM
 kind:CallKind
 roundOf:Option Nat
structure Yc where
 fr:AF
 cs:List AF
 H:AH
section
variable (P:Program)
def putT (fr:AF) (d:Option Tmp) (v:AV):Option AF :=
 match d with
 | none =>some fr
 | some d =>if Nat.blt d fr.n then some { fr with tmps:=fr.tmps.put d (some v) } else none
/-- Is an operation wanted? none: its guard is not known. -/
def Zb (ops:Array Oper) (t:Tri AV) (o:Oper):Option Bool :=
 match o.guard with
 | none =>some true
 | some (j,want) =>match (ops[j]?).bind (·.dst) with
  | some d =>match t.get d with
   | some (.bool b) =>some (b == want)
   | some _ =>some false
   | none =>none
  | none =>some false
def Xg (D i:Nat):Bool:=Nat.testBit D i
def ins (D i:Nat):Nat:=D ||| 2 ^ i
/-- Is everything done that an operation waits for? -/
def Xv (D:Nat) (o:Oper):Bool:=o.after.all fun e =>!Region.binds .any e || Xg D e.on
def WN (o:Oper):Bool:=cls P o.op = .eff
/-- One operation that may be done whenever it is free: done, if it is. -/
def Wy (ops:Array Oper) (i:Nat) (s:Option (AF × AH × Nat)):Option (AF × AH × Nat) :=
 match s,ops[i]? with
 | some (fr,H,D),some o =>
  if Xg D i || !Xv D o || WN P o then some (fr,H,D) else
  match Zb ops fr.tmps o with
  | none =>none
  | some false =>(putT fr o.dst (.tuple [])).map (·,H,ins D i)
  | some true =>
   match cls P o.op with
   | .pure =>match pureU P fr.tmps o.op with
    | some v =>(putT fr o.dst v).map (·,H,ins D i)
    | none =>none
   | .load =>match WM P fr.tmps o.op H with
    | some v =>(putT fr o.dst v).map (·,H,ins D i)
    | none =>none
   | .new =>match newU P fr.tmps o.op with
    | some (blk,mk) =>match H.new blk,putT fr o.dst (mk H.next) with
     | some H',some fr =>some (fr,H',ins D i)
     | _,_ =>none
    | none =>none
   | .eff =>none
 | _,_ =>none
def settle (ops:Array Oper) (fr:AF) (H:AH) (D:Nat):Option (AF × AH × Nat) :=
 (List.range ops.size).foldl (fun s i =>Wy P ops i s) (some (fr,H,D))
/-- Behind operation e: every read that may still be to come reads what it did. -/
def WQ (ops:Array Oper) (fr:AF) (H:AH) (D e:Nat):Bool :=
 let anc:=(Region.before ops).getD e 0
 (List.range ops.size).all fun i =>!Xg D i || Xg anc i ||
  match ops[i]? with
  | some o =>match cls P o.op with
   | .load =>match Zb ops fr.tmps o with
    | some false =>true
    | some true =>match WM P fr.tmps o.op H,o.dst with
     | some v,some d =>match fr.tmps.get d with
      | some u =>AV.beq v u
      | none =>false
     | _,_ =>false
    | none =>false
   | _ =>true
  | none =>true
def looksAt (ops:Array Oper) (o:Oper):List Tmp:=Oper.looksAt ops o
/-- What is asked of a region that draws its order, of its text alone. -/
def regOK (ops:Array Oper):Bool :=
 let anc:=Region.before ops
 (List.range ops.size).all fun j =>match ops[j]? with
  | none =>false
  | some oj =>
   oj.after.all (fun e =>!Region.binds .any e || Nat.blt e.on j) &&
   match oj.dst with
   | none =>true
   | some d =>(List.range ops.size).all fun i =>(Nat.beq i j && (WN P oj || !(Oper.looksAt ops oj).contains d)) || match ops[i]? with
    | none =>false
    | some oi =>
     (oi.dst != some d) &&
     (!(Oper.looksAt ops oi).contains d || Xg (anc.getD i 0) j || (WN P oj && Xg (anc.getD j 0) i))
/-- The effects that are free. -/
def WP (ops:Array Oper) (D:Nat):List Nat :=
 (List.range ops.size).filter fun i =>!Xg D i && match ops[i]? with
  | some o =>Xv D o
  | none =>false
/-- A value comes back to a frame. -/
def YZ (fr:AF) (v:AV) (H:AH):Option AF :=
 match fr.todo with
 | .inRegion ops (i :: rest) :: k =>(putT fr ((ops[i]?).bind (·.dst)) v).map fun fr =>{ fr with todo:=.inRegion ops rest :: k }
 | .drawn ops D (some e) :: k =>match putT fr ((ops[e]?).bind (·.dst)) v with
  | some fr =>if WQ P ops fr H D e then some { fr with todo:=.drawn ops (ins D e) none :: k } else none
  | none =>none
 | .inRangeFunc l :: k =>some { fr with todo:=.endRangeFunc l :: k }
 | .beginRound :: k =>some { fr with todo:=k }
 | _ =>none
/-- What a region was to fill is forgotten. -/
def dropT:List Oper→Tri AV→Tri AV
 | [],t =>t
 | o :: l,t =>match o.dst with
  | some d =>if Nat.blt d Tri.lid then dropT l (t.put d none) else .leaf
  | none =>dropT l t
def shed (fr:AF):AF:=match fr.todo with
 | .drawn ops _ _ :: _ =>{ fr with tmps:=dropT ops.toList fr.tmps,todo:=[] }
 | _ =>{ fr with todo:=[] }
def raiseU (fr:AF) (vs:List (AV × Bool)):AF :=
 let fr:=shed fr
 match fr.mode with
 | .panicking chain =>{ fr with mode:=.panicking (vs ++ chain) }
 | _ =>{ fr with mode:=.panicking vs }
def Zn:Nat→List AV→Tri AV→Tri AV
 | _,[],t =>t
 | i,v :: l,t =>Zn (i + 1) l (t.put i (some v))
def ZQ (f:FuncId) (args:List AV) (kind:CallKind):Option AF :=
 match funcU P f with
 | some fn =>match fn.body with
  | some c =>
   if Nat.blt fn.ntmps 5000 && Nat.blt args.length 5000 then
    some { fn:=f,n:=args.length + (fn.ntmps - args.length),tmps:=Zn 0 args .leaf,todo:=[.code c],defers:=[],mode:=.run,kind,roundOf:=none }
   else none
  | none =>none
 | none =>none
def exitU (id:Nat):List AI→Option (List AI)
 | .inBlock id' :: k =>if Nat.beq id' id then some k else exitU id k
 | _ :: k =>exitU id k
 | [] =>none
def gotoU (l:Nat):List AI→Option (List AI)
 | .inScope body :: k =>match findLabel body l with
  | some rest =>some (.code rest :: .inScope body :: k)
  | none =>gotoU l k
 | _ :: k =>gotoU l k
 | [] =>none
/-- Behind an operation. -/
def Y1 (fr:AF) (cs:List AF) (r:Xb × AH):Option Yc :=
 match r with
 | (.val v,H) =>(YZ P fr v H).map fun fr =>⟨fr,cs,H⟩
 | (.enter f args,H) =>(ZQ P f args .normal).map fun g =>⟨g,fr :: cs,H⟩
 | (.defer f args caps,H) =>match fr.roundOf with
  | some _ =>none
  | none =>(YZ P { fr with defers:=.call f args caps :: fr.defers } (.tuple []) H).map fun fr =>⟨fr,cs,H⟩
 | (.panic v,H) =>some ⟨raiseU fr [(v,false)],cs,H⟩
 | (.recover,H) =>
  match fr.roundOf with
  | some _ =>none
  | none =>match fr.kind,cs with
   | .deferred,c :: cs =>match c.mode with
    | .panicking ((v,false) :: older) =>(YZ P fr v H).map fun fr =>⟨fr,{ c with mode:=.panicking ((v,true) :: older) } :: cs,H⟩
    | _ =>(YZ P fr .niliface H).map fun fr =>⟨fr,c :: cs,H⟩
   | .deferred,[] =>none
   | .normal,_ =>(YZ P fr .niliface H).map fun fr =>⟨fr,cs,H⟩
   | _,_ =>none
 | (.round l fn n t assign body,H) =>some ⟨{ fn:=fn,n:=n,tmps:=t,todo:=[.code assign,.beginRound,.code body],defers:=[],mode:=.run,kind:=.normal,roundOf:=some l },fr :: cs,H⟩
/-- A round, or a function, is left. -/
def leaveU (fr:AF) (cs:List AF) (H:AH) (jump:Option Code):Option Yc :=
 match fr.roundOf with
 | none =>match jump with
  | none =>some ⟨{ fr with mode:=.returning },cs,H⟩
  | some .ret =>some ⟨{ fr with mode:=.returning },cs,H⟩
  | _ =>none
 | some l =>match fr.kind,cs,H.t.get l with
  | .normal,c :: cs,some (.loop _ _ fn n tmps params assign body defers) =>
   let H':=H.set l (.loop (if jump.isNone then .ready else .done) jump fn n tmps params assign body defers)
   match c.mode with
   | .run =>(YZ P c (.bool jump.isNone) H').map fun c =>⟨c,cs,H'⟩
   | _ =>none
  | _,_,_ =>none
/-- A region whose operations fill one new map, in whatever order. -/
def isMapLit (ops:Array Oper):Bool :=
 ops.toList.any fun o =>match o.op with | .makeMap _ none =>true | _ =>false
/-- What is asked of the text of such a region: the map first, then values and insertions, then moves and assignments behind all. -/
def mapLitOK (ops:Array Oper):Option Tmp :=
 match ops[0]? with
 | some (Oper.mk (some m) (.makeMap _ none) _ _ _ none) =>
  if (ops.toList.drop 1).all (fun o =>o.guard.isNone && match o.op with
   | .build .. =>true
   | .insert _ (.tmp m') _ _ =>Nat.beq m m'
   | .move _ | .assign _ =>true
   | _ =>false) then some m else none
 | _ =>none
/-- The temporaries that such a region fills, in the text's order. -/
def litRun:List Oper→AF→Option AF
 | [],fr =>some fr
 | o :: l,fr =>match o.op with
  | .insert .. =>litRun l fr
  | op =>match pureU P fr.tmps op with
   | some v =>match putT fr o.dst v with
    | some fr =>litRun l fr
    | none =>none
   | none =>none
/-- An insertion's entry. -/
def entU (t:Tri AV) (o:Oper):Option (AV × AV):=match o.op with
 | .insert _ _ k x =>match Zg t k,Zg t x with
  | some k,some v =>some (k,v)
  | _,_ =>none
 | _ =>none
/-- Does every operation, asked again behind all, say what it said? -/
def litOne (ops:Array Oper) (m:Tmp) (t:Tri AV) (i:Nat):Bool:=Nat.beq i 0 || match ops[i]? with
 | some o =>match o.op with
  | .insert ty (.tmp m') _ _ =>Nat.beq m m' && o.dst.isNone && match YR P ty,entU t o with
   | some (.map kt _),some (k,_) =>keyU P 4 kt k && (List.range ops.size).all fun j =>Nat.beq i j || match (ops[j]?).bind (entU t) with
    | some (k',_) =>eqlU P Op.maxDepth kt k k' == some false
    | none =>true
   | _,_ =>false
  | .insert .. =>false
  | op =>match pureU P t op with
   | some v =>match o.dst with
    | some d =>match t.get d with
     | some u =>AV.beq v u
     | none =>false
    | none =>true
   | none =>false
 | none =>false
/-- Nobody looks at what is filled later. -/
def strictOK (ops:Array Oper):Bool :=
 let anc:=Region.before ops
 (List.range ops.size).all fun j =>match ops[j]? with
  | none =>false
  | some oj =>
   oj.after.all (fun e =>!Region.binds .any e || Nat.blt e.on j) &&
   match oj.dst with
   | none =>true
   | some d =>!(Oper.looksAt ops oj).contains d && (List.range ops.size).all fun i =>Nat.beq i j || match ops[i]? with
    | none =>false
    | some oi =>(oi.dst != some d) && (!(Oper.looksAt ops oi).contains d || Xg (anc.getD i 0) j)
def toA (fr:AF) (cs:List AF) (H:AH) (k:List AI):Option Yc:=some ⟨{ fr with todo:=k },cs,H⟩
def condA (fr:AF) (cs:List AF) (H:AH) (v:Option AV) (a b:Code) (k:List AI):Option Yc:=match v with
 | some (.bool true) =>toA fr cs H (.code a :: k)
 | some (.bool false) =>toA fr cs H (.code b :: k)
 | _ =>none
def exitA (fr:AF) (cs:List AF) (H:AH) (id:Nat) (k:List AI):Option Yc:=match exitU id k with
 | some k =>toA fr cs H k
 | none =>leaveU P fr cs H (some (.exit id))
def gotoA (fr:AF) (cs:List AF) (H:AH) (l:Nat) (k:List AI):Option Yc:=match gotoU l k with
 | some k =>toA fr cs H k
 | none =>leaveU P fr cs H (some (.goto l))
def rangeA (fr:AF) (cs:List AF) (H:AH) (f:Operand) (params:Array Tmp) (assign body:Code) (k:List AI):Option Yc :=
 let a:Option (AH × Nat × List AD):=match fr.roundOf with
  | some l =>match H.t.get l with
   | some (.loop _ _ _ _ _ _ _ _ d) =>some (H,d,[])
   | _ =>none
  | none =>match H.new (.deferred true) with
   | some H' =>some (H',H.next,[.collected H.next])
   | none =>none
 match a,Zg fr.tmps f with
 | some (H,d,mark),some f =>
  match H.new (.loop .ready none fr.fn fr.n fr.tmps params.toList assign body d) with
  | some H' =>
   match Yh P f [.yield H.next] H' with
   | some r =>Y1 P { fr with todo:=.inRangeFunc H.next :: k,defers:=mark ++ fr.defers } cs r
   | none =>none
  | none =>none
 | _,_ =>none
def beginA (fr:AF) (cs:List AF) (H:AH):Option Yc:=match fr.roundOf with
 | some l =>match H.t.get l with
  | some (.loop .ready p fn n tmps params assign body d) =>
   let H':=H.set l (.loop .busy p fn n tmps params assign body d)
   match YZ P fr (.tuple []) H' with
   | some fr =>some ⟨fr,cs,H'⟩
   | none =>none
  | _ =>none
 | none =>none
def endRangeA (fr:AF) (cs:List AF) (H:AH) (l:Nat) (k:List AI):Option Yc:=match H.t.get l with
 | some (.loop st p fn n tmps params assign body d) =>
  match st with
  | .busy =>none
  | _ =>some ⟨{ fr with todo:=(p.map AI.code).toList ++ k },cs,H.set l (.loop .exhausted p fn n tmps params assign body d)⟩
 | _ =>none
def mapLitA (fr:AF) (cs:List AF) (H:AH) (ops:Array Oper) (k:List AI):Option Yc:=match mapLitOK ops with
 | some m =>if strictOK ops then match putT fr (some m) (.map H.next) with
   | some fr1 =>match litRun P (ops.toList.drop 1) fr1 with
    | some fr2 =>if (List.range ops.size).all (litOne P ops m fr2.tmps) && (match fr2.tmps.get m with | some (.map b) =>Nat.beq b H.next | _ =>false) then
      match H.new (.map (ops.toList.filterMap (entU fr2.tmps)) false) with
      | some H' =>some ⟨{ fr2 with todo:=k },cs,H'⟩
      | none =>none
     else none
    | none =>none
   | none =>none
  else none
 | none =>none
def regionA (fr:AF) (cs:List AF) (H:AH) (ops:Array Oper) (draw:Bool) (k:List AI):Option Yc :=
 if !draw then toA fr cs H (.inRegion ops (List.range ops.size) :: k)
 else if isMapLit ops then mapLitA P fr cs H ops k
 else if regOK P ops then toA fr cs H (.drawn ops 0 none :: k)
 else none
def skipA (fr:AF) (cs:List AF) (H:AH):Option Yc:=match YZ P fr (.tuple []) H with
 | some fr =>some ⟨fr,cs,H⟩
 | none =>none
def XW (fr:AF) (cs:List AF) (r:Option (Xb × AH)):Option Yc:=match r with
 | some r =>Y1 P fr cs r
 | none =>none
def operA (fr:AF) (cs:List AF) (H:AH) (ops:Array Oper) (i:Nat):Option Yc:=match ops[i]? with
 | some o =>match Zb ops fr.tmps o with
  | some true =>XW P fr cs (Xr P fr.tmps o.op H)
  | some false =>skipA P fr cs H
  | none =>none
 | none =>none
def effA (fr:AF) (cs:List AF) (H:AH) (ops:Array Oper) (e:Nat):Option Yc:=match ops[e]? with
 | some o =>match Zb ops fr.tmps o with
  | some true =>XW P fr cs (effU P fr.tmps o.op H)
  | some false =>skipA P fr cs H
  | none =>none
 | none =>none
def drawnA (fr:AF) (cs:List AF) (H:AH) (ops:Array Oper) (D:Nat) (k:List AI):Option Yc:=match settle P ops fr H D with
 | some (fr,H,D) =>match WP ops D with
  | [] =>if (List.range ops.size).all (Xg D) then toA fr cs H k else none
  | [e] =>effA P { fr with todo:=.drawn ops D (some e) :: k } cs H ops e
  | _ =>none
 | none =>none
def codeA (fr:AF) (cs:List AF) (H:AH) (c:Code) (k:List AI):Option Yc :=
 match c with
 | .ret =>leaveU P fr cs H (some .ret)
 | .skip | .label _ =>toA fr cs H k
 | .seq a b =>toA fr cs H (.code a :: .code b :: k)
 | .cond c a b =>condA fr cs H (Zg fr.tmps c) a b k
 | .block id c =>toA fr cs H (.code c :: .inBlock id :: k)
 | .loop c =>toA fr cs H (.code c :: .inLoop c :: k)
 | .scope c =>toA fr cs H (.code c :: .inScope c :: k)
 | .exit id =>exitA P fr cs H id k
 | .goto l =>gotoA P fr cs H l k
 | .rangeFunc f params assign body =>rangeA P fr cs H f params assign body k
 | .region _ ops draw =>regionA P fr cs H ops draw k
 | .refuse _ =>none
def Xq (fr:AF) (cs:List AF) (H:AH) (x:AI) (k:List AI):Option Yc :=
 match x with
 | .code c =>codeA P fr cs H c k
 | .inBlock _ | .inScope _ =>toA fr cs H k
 | .inLoop c =>toA fr cs H (.code c :: .inLoop c :: k)
 | .beginRound =>beginA P fr cs H
 | .endRangeFunc l =>endRangeA fr cs H l k
 | .inRegion _ [] =>toA fr cs H k
 | .inRegion ops (i :: _) =>operA P fr cs H ops i
 | .drawn ops D none =>drawnA P fr cs H ops D k
 | .drawn _ _ (some _) =>none
 | .inRangeFunc _ =>none
def Xs (fr:AF) (cs:List AF) (H:AH):Option Yc :=
 match fr.todo with
 | [] =>leaveU P fr cs H none
 | x :: k =>Xq P fr cs H x k
def Zi (t:Tri AV) (H:AH):List ResultVar→Option (List AV)
 | [] =>some []
 | .tmp i :: l =>match t.get i,Zi t H l with
  | some v,some vs =>some (v :: vs)
  | _,_ =>none
 | .cell a ty :: l =>match t.get a,Zi t H l with
  | some (.ptr b off),some vs =>(loadVarU P ty b off H).map (· :: vs)
  | _,_ =>none
def ZI (fr:AF) (H:AH):Option AV :=
 match funcU P fr.fn with
 | some fn =>match Zi P fr.tmps H fn.results.toList with
  | some [v] =>some v
  | some vs =>some (.tuple vs)
  | none =>none
 | none =>none
def settleMode:AM→AM
 | .panicking ((_,true) :: _) =>.returning
 | m =>m
def unwindA (fr:AF) (cs:List AF) (H:AH):Option Yc :=
 match fr.defers with
 | .collected b :: ds =>match H.t.get b with
  | some (.deferred true) =>some ⟨{ fr with defers:=ds },cs,H.set b (.deferred false)⟩
  | _ =>none
 | .call f args caps :: ds =>(ZQ P f (args ++ caps) .deferred).map fun g =>⟨g,{ fr with defers:=ds } :: cs,H⟩
 | [] =>match fr.mode,cs with
  | .panicking chain,c :: cs =>some ⟨raiseU c chain,cs,H⟩
  | .returning,c :: cs =>match ZI P fr H with
   | some v =>match fr.kind with
    | .normal =>match c.mode with
     | .run =>(YZ P c v H).map fun c =>⟨c,cs,H⟩
     | _ =>none
    | .deferred =>some ⟨{ c with mode:=settleMode c.mode },cs,H⟩
    | _ =>none
   | none =>none
  | _,_ =>none
def YU (m:Yc):Option Yc :=
 match m.fr.mode with
 | .run =>Xs P m.fr m.cs m.H
 | _ =>unwindA P m.fr m.cs m.H
/-- The run is over: the first frame returns. -/
def doneA (m:Yc):Bool :=
 match m.cs,m.fr.mode,m.fr.defers,m.fr.kind with
 | [],.returning,[],.normal =>true
 | _,_,_,_ =>false
def runA:Nat→Yc→Option Yc
 | 0,m =>some m
 | n + 1,m =>if doneA m then some m else match YU P m with
  | some m' =>runA n m'
  | none =>none
end
end Go.Ev
end
section
namespace Go.Ev
/-- A code and all that it is made of. -/
def subs:Code→List Code
 | .seq a b =>.seq a b :: (subs a ++ subs b)
 | .cond c a b =>.cond c a b :: (subs a ++ subs b)
 | .block id c =>.block id c :: subs c
 | .loop c =>.loop c :: subs c
 | .scope c =>.scope c :: subs c
 | .rangeFunc f p a b =>.rangeFunc f p a b :: (subs a ++ subs b)
 | c =>[c]
def subAt (P:Program) (f i:Nat):Code:=match funcU P f with
 | some fn =>match fn.body with
  | some c =>(subs c).getD i .skip
  | none =>.skip
 | none =>.skip
def opsAt (P:Program) (f i:Nat):Array Oper:=match subAt P f i with
 | .region _ ops _ =>ops
 | _ =>#[]
/-- Short names, for states written down. -/
def AV.i (n:Int):AV:=.int .i64 n
def AV.y (n:Int):AV:=.int .u8 n
def AV.T:AV:=.bool true
def AV.F:AV:=.bool false
def AV.E:AV:=.tuple []
def AV.s (b o n c:Nat):AV:=.slice b o n (.is c)
def AV.u (b o n z:Nat):AV:=.slice b o n (.up z)
def AB.c (e:TypeId) (l:List AV):AB:=.cells e l 0 false false
/-- Tables written down: keys and what stands there, one behind the other. -/
def YH:Tri AV→List (Nat × Option AV)→Tri AV
 | t,[] =>t
 | t,(k,v) :: l =>YH (t.put k v) l
def putB:Tri AB→List (Nat × Option AB)→Tri AB
 | t,[] =>t
 | t,(k,v) :: l =>putB (t.put k v) l
end Go.Ev
end
section
namespace Go.Ev
open Go.RowKit
/-! ### tables -/
namespace Tri
variable {α:Type}
theorem get_upd (f:Nat):∀(t:Tri α) (n:Nat) (o:Option α) (m:Nat),n + 1 < 2 ^ f→get (upd f t n o) m = if m = n then o else get t m:=by
 induction f with
 | zero =>intro t n o m h;simp at h
 | succ f ih =>
  intro t n o m h
  have hk:∀k,n = k + 1→k / 2 + 1 < 2 ^ f:=by intro k hk;rw [Nat.pow_succ] at h;omega
  cases n with
  | zero =>
   cases t with
   | leaf =>cases m with
    | zero =>simp [upd,get]
    | succ m =>simp only [upd,get];cases Nat.beq (m % 2) 0 <;> simp
   | node l v r =>cases m <;> simp [upd,get]
  | succ k =>
   have hk:=hk k rfl
   have key:∀(j:Nat),Nat.beq (j % 2) 0 = Nat.beq (k % 2) 0→(j / 2 = k / 2 ↔ j = k):=by
    intro j hj
    have e1:j % 2 = k % 2:=by
     cases hb:Nat.beq (k % 2) 0 with
     | true =>rw [hb] at hj;have a:=Nat.eq_of_beq_eq_true hb;have b:=Nat.eq_of_beq_eq_true hj;omega
     | false =>rw [hb] at hj;have a:=Nat.ne_of_beq_eq_false hb;have b:=Nat.ne_of_beq_eq_false hj;omega
    omega
   cases t with
   | leaf =>
    cases hb:Nat.beq (k % 2) 0 with
    | true =>
     simp only [upd,hb,cond_true]
     cases m with
     | zero =>simp [get]
     | succ m =>
      simp only [get]
      cases hm:Nat.beq (m % 2) 0 with
      | true =>
       simp only [cond_true,ih _ _ _ _ hk]
       have:=key m (by rw [hm,hb])
       by_cases e:m = k
       ·simp [e]
       ·rw [if_neg (by omega),if_neg (by omega)];simp [get]
      | false =>
       simp only [cond_false]
       have:m ≠ k:=by rintro rfl;rw [hm] at hb;cases hb
       rw [if_neg (by omega)]
    | false =>
     simp only [upd,hb,cond_false]
     cases m with
     | zero =>simp [get]
     | succ m =>
      simp only [get]
      cases hm:Nat.beq (m % 2) 0 with
      | false =>
       simp only [cond_false,ih _ _ _ _ hk]
       have:=key m (by rw [hm,hb])
       by_cases e:m = k
       ·simp [e]
       ·rw [if_neg (by omega),if_neg (by omega)];simp [get]
      | true =>
       simp only [cond_true]
       have:m ≠ k:=by rintro rfl;rw [hm] at hb;cases hb
       rw [if_neg (by omega)]
   | node l v r =>
    cases hb:Nat.beq (k % 2) 0 with
    | true =>
     simp only [upd,hb,cond_true]
     cases m with
     | zero =>simp [get]
     | succ m =>
      simp only [get]
      cases hm:Nat.beq (m % 2) 0 with
      | true =>
       simp only [cond_true,ih _ _ _ _ hk]
       have:=key m (by rw [hm,hb])
       by_cases e:m = k
       ·simp [e]
       ·rw [if_neg (by omega),if_neg (by omega)]
      | false =>
       simp only [cond_false]
       have:m ≠ k:=by rintro rfl;rw [hm] at hb;cases hb
       rw [if_neg (by omega)]
    | false =>
     simp only [upd,hb,cond_false]
     cases m with
     | zero =>simp [get]
     | succ m =>
      simp only [get]
      cases hm:Nat.beq (m % 2) 0 with
      | false =>
       simp only [cond_false,ih _ _ _ _ hk]
       have:=key m (by rw [hm,hb])
       by_cases e:m = k
       ·simp [e]
       ·rw [if_neg (by omega),if_neg (by omega)]
      | true =>
       simp only [cond_true]
       have:m ≠ k:=by rintro rfl;rw [hm] at hb;cases hb
       rw [if_neg (by omega)]
theorem get_put {p:Prop} {t:Tri α} {n:Nat} {o:Option α} (_:p) (m:Nat):get (t.put n o) m = if m = n then o else get t m :=
 get_upd (n + 1) t n o m Nat.lt_two_pow_self
theorem get_leaf (n:Nat):get (leaf:Tri α) n = none:=by simp [get]
theorem evens_get:∀(l:List α) (n:Nat),(evens l)[n]? = l[2 * n]?
 | [],n =>by simp [evens]
 | [x],n =>by cases n <;> simp [evens]
 | x :: y :: l,n =>by
  cases n with
  | zero =>simp [evens]
  | succ n =>
   have:=evens_get l n
   simp only [evens,List.getElem?_cons_succ]
   rw [show 2 * (n + 1) = 2 * n + 1 + 1 from by omega]
   simpa using this
theorem odds_get:∀(l:List α) (n:Nat),(odds l)[n]? = l[2 * n + 1]?
 | [],n =>by simp [odds]
 | [x],n =>by simp [odds]
 | x :: y :: l,n =>by
  cases n with
  | zero =>simp [odds]
  | succ n =>
   have:=odds_get l n
   simp only [odds,List.getElem?_cons_succ]
   rw [show 2 * (n + 1) = 2 * n + 1 + 1 from by omega]
   simpa using this
theorem get_mk (f:Nat):∀(l:List α) (n:Nat) (v:α),get (mk f l) n = some v→l[n]? = some v:=by
 induction f with
 | zero =>intro l n v h;simp [mk,get] at h
 | succ f ih =>
  intro l n v h
  cases l with
  | nil =>simp [mk,get] at h
  | cons x l =>
   cases n with
   | zero =>simpa [mk,get] using h
   | succ k =>
    simp only [mk,get] at h
    simp only [List.getElem?_cons_succ]
    cases hb:Nat.beq (k % 2) 0 with
    | true =>
     rw [hb,cond_true] at h
     have a:=Nat.eq_of_beq_eq_true hb
     have:=ih _ _ _ h
     rw [evens_get,show 2 * (k / 2) = k from by omega] at this
     exact this
    | false =>
     rw [hb,cond_false] at h
     have a:=Nat.ne_of_beq_eq_false hb
     have:=ih _ _ _ h
     rw [odds_get,show 2 * (k / 2) + 1 = k from by omega] at this
     exact this
end Tri
/-! ### values -/
/-- Where an abstract block lies: its number, and how many cells it has. -/
abbrev Yl:=Nat→Option (Nat × Nat)
mutual
inductive VR (ρ:Yl):AV→Value→Prop
 | bool (b:Bool):VR ρ (.bool b) (.bool b)
 | int (k:IntKind) (n:Int):VR ρ (.int k n) (.int k n)
 | str (s:ByteArray):VR ρ (.str (X1 s)) (.string s)
 | nilptr:VR ρ .nilptr (.pointer none)
 | ptr {b c n off:Nat} (h:ρ b = some (c,n)):VR ρ (.ptr b off) (.pointer (some ⟨c,off,none⟩))
 | nilslice:VR ρ .nilslice (.slice none 0 0)
 | sliceIs {b c n off len cap:Nat} (h:ρ b = some (c,n)) (hl:len≤cap):VR ρ (.slice b off len (.is cap)) (.slice (some ⟨c,off,none⟩) len cap)
 | sliceUp {b c n off len sz cap:Nat} (h:ρ b = some (c,n)) (hl:len≤cap) (hr:off + cap * sz≤n):VR ρ (.slice b off len (.up sz)) (.slice (some ⟨c,off,none⟩) len cap)
 | sliceLost {b off:Nat} {a:Addr} {cap:Nat}:VR ρ (.slice b off 0 .lost) (.slice (some a) 0 cap)
 | nilmap:VR ρ .nilmap (.map none)
 | map {b c n:Nat} (h:ρ b = some (c,n)):VR ρ (.map b) (.map (some c))
 | func {f:FuncId} {a b:List AV} {a' b':Array Value} (ha:Xy ρ a a'.toList) (hb:Xy ρ b b'.toList):VR ρ (.func f a b) (.func (.func f) a' b')
 | yield {l c n:Nat} (h:ρ l = some (c,n)):VR ρ (.yield l) (.func (.yield c) #[] #[])
 | nilfunc:VR ρ .nilfunc .nilFunc
 | iface {t:TypeId} {v:AV} {v':Value} (h:VR ρ v v'):VR ρ (.iface t v) (.iface t v')
 | niliface:VR ρ .niliface .nilIface
 | agg {l:List AV} {l':Array Value} (h:Xy ρ l l'.toList):VR ρ (.agg l) (.agg l')
 | tuple {l:List AV} {l':Array Value} (h:Xy ρ l l'.toList):VR ρ (.tuple l) (.tuple l')
 | opq {k:Nat} {a:Addr}:VR ρ (.opq k) (.pointer (some a))
inductive Xy (ρ:Yl):List AV→List Value→Prop
 | nil:Xy ρ [] []
 | cons {v:AV} {x:Value} {l:List AV} {m:List Value} (h:VR ρ v x) (hs:Xy ρ l m):Xy ρ (v :: l) (x :: m)
end
/-- Blocks that have a place keep it. -/
def Xo (ρ ρ':Yl):Prop:=∀b x,ρ b = some x→ρ' b = some x
theorem Xo.refl (ρ:Yl):Xo ρ ρ:=fun _ _ h =>h
theorem Xo.trans {ρ ρ' ρ'':Yl} (h:Xo ρ ρ') (k:Xo ρ' ρ''):Xo ρ ρ'':=fun b x e =>k b x (h b x e)
mutual
theorem VR.ext {ρ ρ':Yl} (e:Xo ρ ρ'):∀{v:AV} {x:Value},VR ρ v x→VR ρ' v x
 | _,_,.bool b =>.bool b
 | _,_,.int k n =>.int k n
 | _,_,.str s =>.str s
 | _,_,.nilptr =>.nilptr
 | _,_,.ptr h =>.ptr (e _ _ h)
 | _,_,.nilslice =>.nilslice
 | _,_,.sliceIs h hl =>.sliceIs (e _ _ h) hl
 | _,_,.sliceUp h hl hr =>.sliceUp (e _ _ h) hl hr
 | _,_,.sliceLost =>.sliceLost
 | _,_,.nilmap =>.nilmap
 | _,_,.map h =>.map (e _ _ h)
 | _,_,.func ha hb =>.func (Xy.ext e ha) (Xy.ext e hb)
 | _,_,.yield h =>.yield (e _ _ h)
 | _,_,.nilfunc =>.nilfunc
 | _,_,.iface h =>.iface (VR.ext e h)
 | _,_,.niliface =>.niliface
 | _,_,.agg h =>.agg (Xy.ext e h)
 | _,_,.tuple h =>.tuple (Xy.ext e h)
 | _,_,.opq =>.opq
theorem Xy.ext {ρ ρ':Yl} (e:Xo ρ ρ'):∀{l:List AV} {m:List Value},Xy ρ l m→Xy ρ' l m
 | _,_,.nil =>.nil
 | _,_,.cons h hs =>.cons (VR.ext e h) (Xy.ext e hs)
end
namespace Xy
variable {ρ:Yl}
theorem length {l:List AV} {m:List Value} (h:Xy ρ l m):l.length = m.length:=by
 induction l generalizing m with
 | nil =>cases h;rfl
 | cons v l ih =>cases h with | cons h hs =>simp [ih hs]
theorem append {l l':List AV} {m m':List Value} (h:Xy ρ l m) (h':Xy ρ l' m'):Xy ρ (l ++ l') (m ++ m'):=by
 induction l generalizing m with
 | nil =>cases h;exact h'
 | cons v l ih =>cases h with | cons h hs =>exact .cons h (ih hs)
theorem get {l:List AV} {m:List Value} (h:Xy ρ l m) {i:Nat} {v:AV} (hv:l[i]? = some v):∃x,m[i]? = some x∧VR ρ v x:=by
 induction l generalizing m i with
 | nil =>simp at hv
 | cons u l ih =>cases h with
  | cons h hs =>cases i with
   | zero =>simp at hv;subst hv;exact⟨_,rfl,h⟩
   | succ i =>simp at hv ⊢;exact ih hs hv
theorem take {l:List AV} {m:List Value} (h:Xy ρ l m) (n:Nat):Xy ρ (l.take n) (m.take n):=by
 induction l generalizing m n with
 | nil =>cases h;simp;exact .nil
 | cons u l ih =>cases h with
  | cons h hs =>cases n with
   | zero =>simp;exact .nil
   | succ n =>simp;exact .cons h (ih hs n)
theorem drop {l:List AV} {m:List Value} (h:Xy ρ l m) (n:Nat):Xy ρ (l.drop n) (m.drop n):=by
 induction l generalizing m n with
 | nil =>cases h;simp;exact .nil
 | cons u l ih =>cases h with
  | cons h hs =>cases n with
   | zero =>simp;exact .cons h hs
   | succ n =>simp;exact ih hs n
theorem of_get {l:List AV} {m:List Value} (hl:l.length = m.length) (h:∀(i:Nat) (v:AV) (x:Value),l[i]? = some v→m[i]? = some x→VR ρ v x):Xy ρ l m:=by
 induction l generalizing m with
 | nil =>cases m with
  | nil =>exact .nil
  | cons =>simp at hl
 | cons u l ih =>cases m with
  | nil =>simp at hl
  | cons x m =>
   refine .cons (h 0 u x (by simp) (by simp)) (ih (by simpa using hl) fun i v y hv hy =>h (i + 1) v y (by simpa using hv) (by simpa using hy))
theorem replicate {v:AV} {x:Value} (h:VR ρ v x):∀n,Xy ρ (List.replicate n v) (List.replicate n x)
 | 0 =>.nil
 | n + 1 =>by simp only [List.replicate_succ];exact .cons h (replicate h n)
end Xy
theorem VR.cells {ρ:Yl} {v:AV} {x:Value} (h:VR ρ v x):Xy ρ v.cells x.cells.toList:=by
 cases h <;> simp only [AV.cells,Value.cells] <;> first | assumption | exact .cons (by constructor <;> assumption) .nil
/-! ### constants -/
mutual
theorem ofConst_sound (ρ:Yl):∀{x:Value} {v:AV},Zd x = some v→VR ρ v x
 | .bool b,v,h =>by simp only [Zd,Option.some.injEq] at h;subst h;exact .bool b
 | .int k n,v,h =>by simp only [Zd,Option.some.injEq] at h;subst h;exact .int k n
 | .string s,v,h =>by simp only [Zd,Option.some.injEq] at h;subst h;exact .str s
 | .pointer none,v,h =>by simp only [Zd,Option.some.injEq] at h;subst h;exact .nilptr
 | .pointer (some _),v,h =>by simp [Zd] at h
 | .slice none 0 0,v,h =>by simp only [Zd,Option.some.injEq] at h;subst h;exact .nilslice
 | .slice none 0 (_ + 1),v,h =>by simp [Zd] at h
 | .slice none (_ + 1) _,v,h =>by simp [Zd] at h
 | .slice (some _) _ _,v,h =>by simp [Zd] at h
 | .map none,v,h =>by simp only [Zd,Option.some.injEq] at h;subst h;exact .nilmap
 | .map (some _),v,h =>by simp [Zd] at h
 | .nilFunc,v,h =>by simp only [Zd,Option.some.injEq] at h;subst h;exact .nilfunc
 | .nilIface,v,h =>by simp only [Zd,Option.some.injEq] at h;subst h;exact .niliface
 | .iface t x,v,h =>by
  simp only [Zd,Option.map_eq_some_iff] at h
  obtain⟨u,hu,rfl⟩:=h
  exact .iface (ofConst_sound ρ hu)
 | .agg ⟨l⟩,v,h =>by
  simp only [Zd,Option.map_eq_some_iff] at h
  obtain⟨u,hu,rfl⟩:=h
  exact .agg (ofConsts_sound ρ hu)
 | .tuple ⟨l⟩,v,h =>by
  simp only [Zd,Option.map_eq_some_iff] at h
  obtain⟨u,hu,rfl⟩:=h
  exact .tuple (ofConsts_sound ρ hu)
 | .func (.func f) ⟨[]⟩ ⟨[]⟩,v,h =>by simp only [Zd,Option.some.injEq] at h;subst h;exact .func .nil .nil
 | .func (.func f) ⟨_ :: _⟩ _,v,h =>by simp [Zd] at h
 | .func (.func f) ⟨[]⟩ ⟨_ :: _⟩,v,h =>by simp [Zd] at h
 | .func (.method _) _ _,v,h =>by simp [Zd] at h
 | .func (.methodOf _ _) _ _,v,h =>by simp [Zd] at h
 | .func (.via _ _ _ _) _ _,v,h =>by simp [Zd] at h
 | .func (.yield _) _ _,v,h =>by simp [Zd] at h
 | .float _ _,v,h =>by simp [Zd] at h
 | .complex _ _ _,v,h =>by simp [Zd] at h
 | .chan _,v,h =>by simp [Zd] at h
theorem ofConsts_sound (ρ:Yl):∀{m:List Value} {l:List AV},ofConsts m = some l→Xy ρ l m
 | [],l,h =>by simp only [ofConsts,Option.some.injEq] at h;subst h;exact .nil
 | x :: m,l,h =>by
  simp only [ofConsts] at h
  split at h
  ·rename_i a r ha hr
   simp only [Option.some.injEq] at h
   subst h
   exact .cons (ofConst_sound ρ ha) (ofConsts_sound ρ hr)
  ·simp at h
end
/-! ### operands -/
/-- What an operand is known as, it is. -/
def EvR (ρ:Yl) (t:Tri AV) (ev:Operand→Value) (x:Operand):Prop:=∀v,Zg t x = some v→VR ρ v (ev x)
theorem Wo {ρ:Yl} {t:Tri AV} {ev:Operand→Value}:∀{xs:List Operand} {l:List AV},(∀x ∈ xs,EvR ρ t ev x)→ZN t xs = some l→Xy ρ l (xs.map ev)
 | [],l,_,h =>by simp only [ZN,Option.some.injEq] at h;subst h;exact .nil
 | x :: xs,l,hx,h =>by
  simp only [ZN] at h
  split at h
  ·rename_i a r ha hr
   simp only [Option.some.injEq] at h
   subst h
   exact .cons (hx x (by simp) a ha) (Wo (fun y hy =>hx y (by simp [hy])) hr)
  ·simp at h
/-! ### types -/
section
variable {P:Program}
theorem Xm {t:TypeId} {i:TypeInfo} (h:infoU P t = some i):P.info? t = some i:=by
 have:=Tri.get_mk 20 _ _ _ h
 have hl:t < P.types.size:=by
  rcases Nat.lt_or_ge t P.types.size with h' | h'
  ·exact h'
  ·rw [List.getElem?_eq_none (by simpa using h')] at this;cases this
 unfold Tables.info?
 rw [if_pos hl]
 simpa using this
theorem funcU_sound {f:FuncId} {fn:Func} (h:funcU P f = some fn):P.funcs[f]? = some fn:=by
 have:=Tri.get_mk 20 _ _ _ h
 simpa using this
theorem Zm {t:TypeId} {d:TypeDesc} (h:YR P t = some d):P.underlying t = some d:=by
 unfold YR at h
 split at h
 ·rename_i i hi
  have hi:=Xm hi
  unfold Program.underlying
  rw [hi]
  obtain⟨desc,_⟩:=i
  dsimp only at h ⊢
  split at h
  ·rename_i n u
   simp only [Option.map_eq_some_iff] at h
   obtain⟨j,hj,rfl⟩:=h
   simp [Xm hj]
  ·rename_i hne
   cases desc <;> simp_all
 ·simp at h
theorem szU_sound {t:TypeId} {n:Nat} (h:szU P t = some n):∃i,P.info? t = some i∧i.size = n:=by
 unfold szU at h
 simp only [Option.map_eq_some_iff] at h
 obtain⟨i,hi,rfl⟩:=h
 exact⟨i,Xm hi,rfl⟩
theorem zeroU_sound (ρ:Yl) {t:TypeId} {z:AV} (h:Wi P t = some z):∃i x,P.info? t = some i∧i.zero = some x∧VR ρ z x:=by
 unfold Wi at h
 split at h
 ·rename_i i hi
  split at h
  ·rename_i v hv
   exact⟨i,v,Xm hi,hv,ofConst_sound ρ h⟩
  ·simp at h
 ·simp at h
end
end Go.Ev
end
section
namespace Go.Ev
open Go.RowKit
/-- An answer that does not hang on the world. -/
def Xd (P:Program) (ρ:Yl) (v:AV) (s:Sem Value):Prop:=∃x,VR ρ v x∧∀w,s.run P w = .ok x w
section
variable {P:Program} {ρ:Yl}
theorem YM {t:TypeId} {n:Nat} (h:szU P t = some n) (w:World):(sizeOf t).run P w = .ok n w:=by
 obtain⟨i,hi,rfl⟩:=szU_sound h
 simp [sizeOf,typeInfo,hi]
theorem run_isAggU {t:TypeId} {b:Bool} (h:Xj P t = some b) (w:World):(isAgg t).run P w = .ok b w:=by
 unfold Xj at h
 split at h <;> simp only [Option.some.injEq,reduceCtorEq] at h
 ·rename_i f hu;subst h;simp [isAgg,run_underlying (Zm hu)]
 ·rename_i n e hu;subst h;simp [isAgg,run_underlying (Zm hu)]
 ·rename_i d hs ha hu
  subst h
  simp only [isAgg,Sem.run_bind,run_underlying (Zm hu),Result.andThen_ok]
  cases d <;> simp_all
theorem cut_eq {l:List AV} {off n:Nat} {r:List AV} (h:cut l off n = some r):r = (l.drop off).take n∧r.length = n:=by
 unfold cut at h
 dsimp only at h
 split at h
 ·rename_i hb
  simp only [Option.some.injEq] at h
  subst h
  exact⟨rfl,Nat.eq_of_beq_eq_true (Bool.and_eq_true _ _ ▸ hb).1⟩
 ·simp at h
theorem cut_noHole {l:List AV} {off n:Nat} {r:List AV} (h:cut l off n = some r):∀v ∈ r,v ≠ .hole:=by
 unfold cut at h
 dsimp only at h
 split at h
 ·rename_i hb
  simp only [Option.some.injEq] at h
  subst h
  intro v hv e
  have:=List.all_eq_true.1 (Bool.and_eq_true _ _ ▸ hb).2 v hv
  rw [e] at this
  cases this
 ·simp at h
theorem solid_some {x:Option AV} {v:AV} (h:solid x = some v):x = some v∧v ≠ .hole:=by
 cases x with
 | none =>cases h
 | some y =>
  simp only [solid] at h
  split at h
  ·rename_i hn
   simp only [Option.some.injEq] at h
   subst h
   exact⟨rfl,by rintro rfl;cases hn⟩
  ·cases h
theorem toList_extract' {α:Type} (a:Array α) (i j:Nat):(a.extract i j).toList = (a.toList.drop i).take (j - i):=by
 simp [Array.toList_extract,List.extract]
theorem partU_sound {t:TypeId} {cs:List AV} {cs':Array Value} {off:Nat} {v:AV} (hc:Xy ρ cs cs'.toList) (h:partU P t cs off = some v):Xd P ρ v (part t cs' off):=by
 unfold partU at h
 split at h
 ·rename_i ha
  split at h
  ·rename_i n hn
   simp only [Option.map_eq_some_iff] at h
   obtain⟨r,hr,rfl⟩:=h
   obtain⟨rfl,_⟩:=cut_eq hr
   refine⟨.agg (cs'.extract off (off + n)),.agg ?_,fun w =>?_⟩
   ·rw [toList_extract',show off + n - off = n from by omega];exact (hc.drop off).take n
   ·simp [part,run_isAggU ha,YM hn]
  ·simp at h
 ·rename_i ha
  obtain⟨x,hx,hv⟩:=hc.get h
  refine⟨x,hv,fun w =>?_⟩
  simp only [Array.getElem?_toList] at hx
  simp [part,run_isAggU ha,hx]
 ·simp at h
theorem bts_inj {s t:ByteArray} (h:X1 s = X1 t):s = t:=by
 obtain⟨⟨x⟩⟩:=s
 obtain⟨⟨y⟩⟩:=t
 simp only [X1] at h
 have:x = y:=by
  induction x generalizing y with
  | nil =>cases y <;> simp_all
  | cons a x ih =>cases y with
   | nil =>simp at h
   | cons b y =>simp at h;obtain⟨h1,h2⟩:=h;rw [ih _ h2,UInt8.toNat_inj.1 h1]
 rw [this]
theorem bts_beq (s t:ByteArray):(X1 s == X1 t) = (s.toList == t.toList):=by
 rw [ByteArray.toList_eq,ByteArray.toList_eq,Bool.eq_iff_iff,beq_iff_eq,beq_iff_eq]
 constructor
 ·intro h;rw [bts_inj h]
 ·intro h;simp only [X1];rw [h]
theorem Wr (s:ByteArray):(X1 s).length = s.size:=by simp [X1]
set_option maxHeartbeats 2000000 in
theorem eqlU_sound:∀(d:Nat) (t:TypeId) {x y:AV} {x' y':Value} {b:Bool},VR ρ x x'→VR ρ y y'→eqlU P d t x y = some b→∀w,(Op.equalIn d t x' y').run P w = .ok b w:=by
 intro d
 induction d with
 | zero =>intro t x y x' y' b _ _ h;simp [eqlU] at h
 | succ d ih =>
  intro t x y x' y' b hx hy h w
  unfold eqlU at h
  split at h <;> try (simp only [Option.some.injEq,reduceCtorEq] at h)
  case _ hu =>cases hx;cases hy;subst h;exact run_equalIn_bool' w d t _ _ (Zm hu)
  case _ hu =>
   cases hx;cases hy
   split at h
   ·rename_i e;subst e;simp only [Option.some.injEq] at h;subst h;exact run_equalIn_int w d t _ _ _ _ (Zm hu)
   ·simp at h
  case _ hu =>
   cases hx;cases hy;subst h
   rw [bts_beq]
   exact run_equalIn_string w d t _ _ (Zm hu)
  case _ hu =>cases hx;cases hy;subst h;simp [Op.equalIn,run_underlying (Zm hu)]
  case _ hu =>cases hx;cases hy;subst h;simp [Op.equalIn,run_underlying (Zm hu)]
  case _ hu =>cases hx;cases hy;subst h;simp [Op.equalIn,run_underlying (Zm hu)]
  case _ hu =>
   cases hx with | ptr h1 =>cases hy with | ptr h2 =>
   split at h
   ·rename_i n hn
    split at h
    ·rename_i hb
     have:=Nat.eq_of_beq_eq_true hb
     subst this
     rw [h1] at h2
     simp only [Option.some.injEq,Prod.mk.injEq] at h2
     obtain⟨rfl,rfl⟩:=h2
     simp only [Option.some.injEq] at h
     subst h
     have hs:=YM hn
     simp only [Op.equalIn,Sem.run_bind,run_underlying (Zm hu),Result.andThen_ok,hs,sameAddr,beq_self_eq_true,if_true]
     simp
     rw [Bool.eq_iff_iff];simp [Nat.beq_eq]
    ·simp at h
   ·simp at h
  case _ hu =>cases hx;cases hy;subst h;simp [Op.equalIn,run_underlying (Zm hu)]
  case _ hu =>cases hx;cases hy <;> (subst h;simp [Op.equalIn,run_underlying (Zm hu)])
  case _ hu =>cases hx <;> cases hy <;> (subst h;simp [Op.equalIn,run_underlying (Zm hu)])
  case _ hu =>cases hx;cases hy;subst h;simp [Op.equalIn,run_underlying (Zm hu)]
  case _ hu =>cases hx;cases hy;subst h;simp [Op.equalIn,run_underlying (Zm hu)]
  case _ hu =>cases hx;cases hy;subst h;simp [Op.equalIn,run_underlying (Zm hu)]
  case _ hu =>cases hx;cases hy;subst h;simp [Op.equalIn,run_underlying (Zm hu)]
  case _ hu =>cases hx;cases hy;subst h;simp [Op.equalIn,run_underlying (Zm hu)]
  case _ hu =>cases hx;cases hy;subst h;simp [Op.equalIn,run_underlying (Zm hu)]
  case _ hu =>cases hx;cases hy;subst h;simp [Op.equalIn,run_underlying (Zm hu)]
  case _ hu =>cases hx;cases hy;subst h;simp [Op.equalIn,run_underlying (Zm hu)]
  case _ hu =>cases hx;cases hy;subst h;simp [Op.equalIn,run_underlying (Zm hu)]
  case _ hu =>
   cases hx with | iface h1 =>cases hy with | iface h2 =>
   rename_i tx _ ty _ _ _
   by_cases e:tx = ty
   ·subst e
    rw [show Nat.beq tx tx = true from Nat.beq_refl tx] at h
    simp only [if_true] at h
    split at h
    ·rename_i i hi
     split at h
     ·rename_i hc
      have:=ih tx h1 h2 h
      simp [Op.equalIn,run_underlying (Zm hu),typeInfo,Xm hi,hc,this]
     ·simp at h
    ·simp at h
   ·have hb:Nat.beq tx ty = false:=by
     cases hb:Nat.beq tx ty with
     | false =>rfl
     | true =>exact absurd (Nat.eq_of_beq_eq_true hb) e
    rw [hb] at h
    simp only [Bool.false_eq_true,if_false,Option.some.injEq] at h
    subst h
    simp [Op.equalIn,run_underlying (Zm hu),e]
  case _ fields xs ys hu =>
   cases hx with | agg h1 =>cases hy with | agg h2 =>
   split at h
   ·simp at h
   ·rename_i hp
    have hp:P.stoodInHeld t = false:=by simpa using hp
    have hf:P.fieldsOf t = fields:=by unfold Program.fieldsOf;rw [Zm hu]
    rw [run_equalIn_struct w d t _ _ (by rw [hf];exact Zm hu) hp,hf]
    clear hf hu
    generalize fields.toList = fs at h
    induction fs generalizing w with
    | nil =>simp only [List.foldr_nil,Option.some.injEq] at h;subst h;simp [Op.eqFields]
    | cons f fs ihf =>
     simp only [List.foldr_cons] at h
     simp only [Op.eqFields]
     split at h
     ·rename_i hn
      rw [if_neg (by simp [hn])]
      exact ihf w h
     ·rename_i hn
      rw [if_pos (by simp [hn])]
      split at h
      ·rename_i a b ha hb
       obtain⟨a',ra,ha'⟩:=partU_sound h1 ha
       obtain⟨b',rb,hb'⟩:=partU_sound h2 hb
       split at h
       ·rename_i he
        have:=ih _ ra rb he
        simp only [Sem.run_bind,ha',hb',this,Result.andThen_ok,Bool.not_true,Bool.false_eq_true,if_false]
        exact ihf w h
       ·rename_i he
        have:=ih _ ra rb he
        simp only [Option.some.injEq] at h
        subst h
        simp [Sem.run_bind,ha',hb',this]
       ·simp at h
      ·simp at h
end
end Go.Ev
end
section
namespace Go.Ev
open Go.RowKit
section
variable {P:Program} {ρ:Yl}
theorem Xd.pure {v:AV} {x:Value} (h:VR ρ v x):Xd P ρ v (Pure.pure x):=⟨x,h,fun _ =>rfl⟩
theorem eqGuard_nil {t:TypeId} {op:BinOp} (ox oy:Operand) (h:(constO ox || constO oy) = true) (w:World):(eqGuard op t ox oy .nilIface .nilIface).run P w = .ok () w:=by
 cases op <;> simp only [eqGuard] <;> first | rfl | (cases ox <;> cases oy <;> simp_all [constO])
theorem eqGuard_other {t:TypeId} {op:BinOp} (ox oy:Operand) (x y:Value) (h:∀a b,x = .agg a→y = .agg b→False) (h':x = .nilIface→y = .nilIface→False) (w:World):(eqGuard op t ox oy x y).run P w = .ok () w:=by
 cases op <;> simp only [eqGuard] <;> first | rfl | (split <;> first | rfl | (exact (h' rfl rfl).elim) | (exact (h _ _ rfl rfl).elim))
theorem guardOk_sound {op:BinOp} {t:TypeId} {ox oy:Operand} {x y:AV} {x' y':Value} (hx:VR ρ x x') (hy:VR ρ y y')
  (h:YY P op t ox oy x y = true) (w:World):(eqGuard op t ox oy x' y').run P w = .ok () w:=by
 by_cases h1:x' = .nilIface∧y' = .nilIface
 ·obtain⟨rfl,rfl⟩:=h1
  cases hx;cases hy
  by_cases hop:op = .eql ∨ op = .neq
  ·exact eqGuard_nil ox oy (by rcases hop with rfl | rfl <;> simpa [YY,guardV] using h) w
  ·cases op <;> simp at hop <;> rfl
 ·by_cases h2:∃a b,x' = .agg a∧y' = .agg b
  ·obtain⟨a,b,rfl,rfl⟩:=h2
   cases hx;cases hy
   by_cases hop:op = .eql ∨ op = .neq
   ·exact run_eqGuard_agg (P:=P) w op t ox oy _ _ (by rcases hop with rfl | rfl <;> simpa [YY,guardV] using h)
   ·cases op <;> simp at hop <;> rfl
  ·exact eqGuard_other ox oy x' y' (fun a b ha hb =>h2 ⟨a,b,ha,hb⟩) (fun ha hb =>h1 ⟨ha,hb⟩) w
theorem lessL_sound (x y:List UInt8):lessL (x.map UInt8.toNat) (y.map UInt8.toNat) = Op.bytesLess x y:=by
 induction x generalizing y with
 | nil =>cases y <;> simp [lessL,Op.bytesLess]
 | cons a x ih =>cases y with
  | nil =>simp [lessL,Op.bytesLess]
  | cons b y =>
   simp only [List.map_cons,lessL,Op.bytesLess,ih]
   have e1:Nat.blt a.toNat b.toNat = decide (a < b):=by
    rw [Bool.eq_iff_iff,Nat.blt_eq];simp [UInt8.lt_iff_toNat_lt]
   have e2:Nat.beq a.toNat b.toNat = (a == b):=by
    rw [Bool.eq_iff_iff,Nat.beq_eq,beq_iff_eq,UInt8.toNat_inj]
   rw [e1,e2]
theorem bts_append (s t:ByteArray):X1 (s ++ t) = X1 s ++ X1 t:=by
 simp [X1,ByteArray.data_append]
theorem intOp_sound {op:BinOp} {k:IntKind} {a b:Int} {v:AV} (t:TypeId) (h:intOp op k a b = some v):Xd P ρ v (binOp op t (.int k a) (.int k b)):=by
 unfold intOp at h
 split at h <;> (try split at h) <;> simp only [Option.some.injEq,reduceCtorEq] at h <;> subst h <;> first
  | exact⟨_,.int _ _,fun w =>by simp_all [binOp,Op.intArith,Op.intDiv,Op.intBits]⟩
  | exact⟨_,.bool _,fun w =>by simp [binOp,Op.intCmp]⟩
theorem binU_sound {op:BinOp} {t:TypeId} {x y v:AV} {x' y':Value} (hx:VR ρ x x') (hy:VR ρ y y') (h:X6 P op t x y = some v):Xd P ρ v (binOp op t x' y'):=by
 unfold X6 at h
 split at h
 ·cases hx;cases hy
  split at h
  ·split at h <;> simp only [Option.some.injEq,reduceCtorEq] at h
   rename_i hb
   subst h
   exact⟨_,.int _ _,fun w =>by simp only [binOp,Op.shift,if_neg hb];rfl⟩
  ·split at h <;> simp only [Option.some.injEq,reduceCtorEq] at h
   rename_i hb
   subst h
   exact⟨_,.int _ _,fun w =>by simp only [binOp,Op.shift,if_neg hb];rfl⟩
  ·split at h
   ·rename_i e;subst e;exact intOp_sound t h
   ·simp at h
 ·cases hx;cases hy
  rename_i a b
  split at h
  ·split at h <;> simp only [Option.some.injEq,reduceCtorEq] at h
   rename_i hl
   subst h
   rw [Nat.blt_eq,Wr,Wr] at hl
   rw [← bts_append]
   refine⟨_,.str _,fun w =>?_⟩
   have:¬ (((a.size + b.size:Nat):Int) > IntKind.i64.max):=by
    have:IntKind.i64.max = 9223372036854775807:=rfl
    omega
   simp only [binOp,Op.stringOp,this,if_false];rfl
  ·simp only [Option.some.injEq] at h;subst h;rw [bts_beq];exact⟨_,.bool _,fun w =>by simp [binOp,Op.stringOp]⟩
  ·simp only [Option.some.injEq] at h;subst h;rw [bts_beq];exact⟨_,.bool _,fun w =>by simp [binOp,Op.stringOp]⟩
  all_goals first
   | (simp only [Option.some.injEq] at h;subst h;(try rw [bts_beq]);rw [show lessL (X1 a) (X1 b) = Op.bytesLess a.toList b.toList from by rw [ByteArray.toList_eq,ByteArray.toList_eq];exact lessL_sound _ _];exact⟨_,.bool _,fun w =>by simp [binOp,Op.stringOp]⟩)
   | (simp at h)
 ·rename_i hni hns
  split at h
  ·simp only [Option.map_eq_some_iff] at h
   obtain⟨b,hb,rfl⟩:=h
   have he:=eqlU_sound Op.maxDepth t hx hy hb
   refine⟨.bool b,.bool b,fun w =>?_⟩
   have:binOp .eql t x' y' = (do Pure.pure (.bool (← Op.equal t x' y')):Sem Value):=by
    clear he hb
    cases hx <;> first | (cases hy <;> first | rfl | (exact (hni _ _ _ _ rfl rfl).elim) | (exact (hns _ _ rfl rfl).elim))
   rw [this]
   simp [Op.equal,he]
  ·simp only [Option.map_eq_some_iff] at h
   obtain⟨b,hb,rfl⟩:=h
   have he:=eqlU_sound Op.maxDepth t hx hy hb
   refine⟨.bool !b,.bool _,fun w =>?_⟩
   have:binOp .neq t x' y' = (do Pure.pure (.bool (!(← Op.equal t x' y'))):Sem Value):=by
    clear he hb
    cases hx <;> first | (cases hy <;> first | rfl | (exact (hni _ _ _ _ rfl rfl).elim) | (exact (hns _ _ rfl rfl).elim))
   rw [this]
   simp [Op.equal,he]
  ·simp at h
end
end Go.Ev
end
section
namespace Go.Ev
open Go.RowKit
section
variable {P:Program} {ρ:Yl}
theorem unU_sound {op:UnOp} {x v:AV} {x':Value} (hx:VR ρ x x') (h:unU op x = some v):Xd P ρ v (Op.unary op x'):=by
 unfold unU at h
 split at h
 ·cases hx;simp only [Option.some.injEq] at h;subst h;exact⟨_,.int _ _,fun w =>by simp [Op.unary,Op.intArith]⟩
 ·cases hx
  simp only [intOp,Option.some.injEq] at h
  subst h
  exact⟨_,.int _ _,fun w =>by simp only [Op.unary,Op.intBits];rfl⟩
 ·cases hx;simp only [Option.some.injEq] at h;subst h;exact⟨_,.bool _,fun w =>by simp [Op.unary]⟩
 ·simp at h
theorem places_sound {fs:List Field} {ps:List (Nat × Nat)} (h:placesU P fs = some ps) (w:World) :
  (fs.mapM (fun f =>do Pure.pure (f.offset,← sizeOf f.type):Field→Sem (Nat × Nat))).run P w = .ok ps w:=by
 induction fs generalizing ps with
 | nil =>simp only [placesU,Option.some.injEq] at h;subst h;simp
 | cons f fs ih =>
  simp only [placesU] at h
  split at h
  ·rename_i n m hn hm
   simp only [Option.some.injEq] at h
   subst h
   simp only [List.mapM_cons,Sem.run_bind,YM hn,Result.andThen_ok,Sem.run_pure,ih hm]
  ·simp at h
theorem foldl_set (cs:Array Value) (off:Nat) (v:List Value) (k:Nat) (h:off + k + v.length≤cs.size) :
  ((v.zipIdx k).foldl (fun cs (c,j) =>cs.setIfInBounds (off + j) c) cs).toList = cs.toList.take (off + k) ++ v ++ cs.toList.drop (off + k + v.length):=by
 induction v generalizing cs k with
 | nil =>simp
 | cons x v ih =>
  simp only [List.zipIdx_cons,List.foldl_cons]
  rw [ih _ (k + 1) (by simp at h ⊢;omega)]
  simp only [Array.toList_setIfInBounds,List.length_cons]
  simp only [List.length_cons] at h
  have hlt:off + k < cs.toList.length:=by simp;omega
  rw [show off + (k + 1) = (off + k) + 1 from by omega,List.take_succ_eq_append_getElem (by simpa using hlt),List.getElem_set_self,List.take_set_of_le (Nat.le_refl _)]
  rw [show off + k + 1 + v.length = off + k + (v.length + 1) from by omega,List.drop_set_of_lt (by omega)]
  simp
theorem zipIdx_foldl_array (v:Array Value) (cs:Array Value) (off:Nat) :
  (v.zipIdx.foldl (fun cs (c,j) =>cs.setIfInBounds (off + j) c) cs) = (v.toList.zipIdx.foldl (fun cs (c,j) =>cs.setIfInBounds (off + j) c) cs):=by
 rw [← Array.foldl_toList,Array.toList_zipIdx]
/-- The parts of a literal. -/
inductive PR (ρ:Yl):List (Nat × AV)→List (Nat × Value)→Prop
 | nil:PR ρ [] []
 | cons {i:Nat} {v:AV} {x:Value} {l:List (Nat × AV)} {m:List (Nat × Value)} (h:VR ρ v x) (hs:PR ρ l m):PR ρ ((i,v) :: l) ((i,x) :: m)
theorem partsU_sound {t:Tri AV} {ev:Operand→Value}:∀{ps:List (Nat × Operand)} {l:List (Nat × AV)},(∀p ∈ ps,EvR ρ t ev p.2)→Zs t ps = some l→PR ρ l (ps.map fun (i,x) =>(i,ev x))
 | [],l,_,h =>by simp only [Zs,Option.some.injEq] at h;subst h;exact .nil
 | (i,x) :: ps,l,hx,h =>by
  simp only [Zs] at h
  split at h
  ·rename_i a r ha hr
   simp only [Option.some.injEq] at h
   subst h
   exact .cons (hx (i,x) (by simp) a ha) (partsU_sound (fun y hy =>hx y (by simp [hy])) hr)
  ·simp at h
theorem fillU_sound {place place':Nat→Option (Nat × Nat)} (hp:∀i x,place i = some x→place' i = some x) {ps:List (Nat × AV)} {ps':List (Nat × Value)} (h:PR ρ ps ps') :
  ∀{cs:List AV} {cs':Array Value} {r:List AV},Xy ρ cs cs'.toList→fillU place cs ps = some r→∃r',Instr.fill place' cs' ps' = some r'∧Xy ρ r r'.toList:=by
 induction h with
 | nil =>intro cs cs' r hc h;simp only [fillU,Option.some.injEq] at h;subst h;exact⟨cs',rfl,hc⟩
 | @cons i v x l m hv hs ih =>
  intro cs cs' r hc h
  simp only [fillU] at h
  split at h
  ·simp at h
  ·rename_i off size hpl
   split at h
   ·rename_i hb
    rw [Bool.and_eq_true] at hb
    have h1:=Nat.eq_of_beq_eq_true hb.1
    have h2:=Nat.le_of_ble_eq_true hb.2
    have hvl:=hv.cells.length
    have hcl:=hc.length
    simp only [Array.length_toList] at hvl hcl
    simp only [Instr.fill,hp _ _ hpl]
    rw [if_neg (by simp;omega),zipIdx_foldl_array]
    refine ih ?_ h
    have:=foldl_set cs' off x.cells.toList 0 (by simp;omega)
    simp only [Nat.add_zero] at this
    rw [this]
    simp only [Array.length_toList,← hvl]
    exact ((hc.take off).append hv.cells).append (hc.drop _)
   ·simp at h
theorem W2 {t:TypeId} {z:AV} (h:Wi P t = some z):∃x,VR ρ z x∧∀w,(zeroValue t).run P w = .ok x w:=by
 obtain⟨i,x,hi,hz,hv⟩:=zeroU_sound ρ h
 exact⟨x,hv,fun w =>by simp [zeroValue,typeInfo,hi,hz]⟩
theorem buildU_sound {t:TypeId} {ps:List (Nat × AV)} {ps':Array (Nat × Value)} {v:AV} (hp:PR ρ ps ps'.toList) (h:Wg P t ps = some v):Xd P ρ v (Instr.build t ps'):=by
 unfold Wg at h
 split at h
 ·rename_i z fields hz hu
  split at h
  ·rename_i pl hpl
   simp only [Option.map_eq_some_iff] at h
   obtain⟨r,hr,rfl⟩:=h
   obtain⟨x,hx,hxz⟩:=W2 (ρ:=ρ) hz
   obtain⟨r',hr',hrr⟩:=fillU_sound (place':=fun i =>pl.toArray[i]?) (fun i x h =>by simpa using h) hp hx.cells hr
   refine⟨.agg r',.agg hrr,fun w =>?_⟩
   have:=places_sound hpl
   simp only [Instr.build,Sem.run_bind,hxz,Result.andThen_ok,run_underlying (Zm hu)]
   have e:(fields.mapM (fun f =>do Pure.pure (f.offset,← sizeOf f.type):Field→Sem (Nat × Nat))).run P w = .ok pl.toArray w:=by
    rw [Array.mapM_eq_mapM_toList,Sem.run_map,this w]
    rfl
   rw [e]
   simp only [Result.andThen_ok,hr',Sem.run_pure]
  ·simp at h
 ·rename_i z n e hz hu
  split at h
  ·rename_i sz hsz
   simp only [Option.map_eq_some_iff] at h
   obtain⟨r,hr,rfl⟩:=h
   obtain⟨x,hx,hxz⟩:=W2 (ρ:=ρ) hz
   obtain⟨r',hr',hrr⟩:=fillU_sound (place':=fun i =>some (i * sz,sz)) (fun i x h =>h) hp hx.cells hr
   refine⟨.agg r',.agg hrr,fun w =>?_⟩
   simp [Instr.build,hxz,run_underlying (Zm hu),YM hsz,hr']
  ·simp at h
 ·simp at h
theorem bts_get (s:ByteArray) (i:Nat):(X1 s)[i]? = (s.data[i]?).map UInt8.toNat:=by simp [X1]
theorem bts_extract (s:ByteArray) (l h:Nat):X1 (s.extract l h) = ((X1 s).drop l).take (h - l):=by
 simp only [X1,ByteArray.data_extract,toList_extract',List.map_take,List.map_drop]
theorem convU_sound {s d:TypeId} {x v:AV} {x':Value} (hx:VR ρ x x') (h:Y0 P s d x = some v):Xd P ρ v (convert s d x'):=by
 unfold Y0 at h
 split at h
 ·rename_i hs hd
  cases hx
  simp only [Option.some.injEq] at h;subst h
  exact⟨_,.int _ _,fun w =>by simp [convert,run_underlying (Zm hs),run_underlying (Zm hd),Conv.intToInt]⟩
 ·rename_i n hs hd
  cases hx
  split at h <;> simp only [Option.some.injEq,reduceCtorEq] at h
  rename_i hn
  subst h
  obtain⟨h0,h1⟩:=hn
  obtain⟨m,rfl⟩:=Int.eq_ofNat_of_zero_le h0
  have hv:Utf8.encode (m:Int) = ⟨#[UInt8.ofNat m]⟩:=by
   unfold Utf8.encode
   have:Utf8.valid (m:Int) = true:=by simp [Utf8.valid];omega
   simp only [this,if_true,Int.toNat_natCast]
   rw [if_pos (by omega)]
  have hb:X1 (Utf8.encode (m:Int)) = [m]:=by
   rw [hv]
   simp [X1]
   omega
  refine⟨.string (Utf8.encode (m:Int)),?_,fun w =>by simp [convert,run_underlying (Zm hs),run_underlying (Zm hd),Conv.intToString]⟩
  rw [Int.toNat_natCast,← hb]
  exact .str _
 ·rename_i hs hd
  cases hx
  simp only [Option.some.injEq] at h;subst h
  exact⟨_,.str _,fun w =>by simp [convert,run_underlying (Zm hs),run_underlying (Zm hd)]⟩
 ·rename_i e hs hd
  cases hx
  split at h <;> simp only [Option.some.injEq,reduceCtorEq] at h
  rename_i he
  subst h
  refine⟨.string .empty,?_,fun w =>by simp [convert,run_underlying (Zm hs),run_underlying (Zm hd),run_underlying (Zm he),Conv.bytesToString]⟩
  have:X1 ByteArray.empty = []:=rfl
  rw [← this]
  exact .str _
 ·simp at h
theorem idxU_sound {i:AV} {i':Value} {n j:Nat} (hi:VR ρ i i') (h:idxU i n = some j):∃k,i' = .int k (j:Int)∧j < n:=by
 unfold idxU at h
 split at h
 ·cases hi
  split at h <;> simp only [Option.some.injEq,reduceCtorEq] at h
  rename_i hb
  subst h
  exact⟨_,rfl,by simpa [Nat.blt_eq] using hb⟩
 ·simp at h
theorem Wu (c off n:Nat):(Addr.add ⟨c,off,none⟩ n) = ⟨c,off + n,none⟩:=by
 unfold Addr.add
 split
 ·rename_i h;subst h;simp
 ·rfl
theorem indexU_sound {t:TypeId} {x i v:AV} {x' i':Value} (hx:VR ρ x x') (hi:VR ρ i i') (h:indexU P t x i = some v):Xd P ρ v (Instr.index t x' i'):=by
 unfold indexU at h
 split at h
 ·rename_i len e cs hu
  cases hx with | agg hc =>
  split at h
  ·rename_i j n hj hn
   obtain⟨k,rfl,hlt⟩:=idxU_sound hi hj
   obtain⟨r,hr,hrr⟩:=partU_sound hc h
   refine⟨r,hr,fun w =>?_⟩
   simp [Instr.index,asIntOf,run_underlying (Zm hu),YM hn,hlt,hrr]
  ·simp at h
 ·rename_i s hu
  cases hx with | str s =>
  split at h
  ·rename_i j hj
   obtain⟨k,rfl,hlt⟩:=idxU_sound hi hj
   rw [bts_get] at h
   simp only [Option.map_eq_some_iff] at h
   obtain⟨_,⟨b,hb,rfl⟩,rfl⟩:=h
   refine⟨.int .u8 b.toNat,.int _ _,fun w =>?_⟩
   rw [Wr] at hlt
   rw [run_index_string w t s k j (Zm hu)]
   have e:s[j]'hlt = b:=by
    rw [Array.getElem?_eq_getElem (by simpa using hlt)] at hb
    exact Option.some.inj hb
   simp [hlt,e]
  ·simp at h
 ·simp at h
theorem indexAddrU_sound {t:TypeId} {x i v:AV} {x' i':Value} (hx:VR ρ x x') (hi:VR ρ i i') (h:X3 P t x i = some v):Xd P ρ v (Instr.indexAt t x' i'):=by
 unfold X3 at h
 split at h
 ·rename_i len e b off hu
  cases hx with | ptr hb =>
  split at h
  ·rename_i j n hj hn
   obtain⟨k,rfl,hlt⟩:=idxU_sound hi hj
   simp only [Option.some.injEq] at h;subst h
   refine⟨_,.ptr hb,fun w =>?_⟩
   simp [Instr.indexAt,asIntOf,Instr.sureAddr,run_underlying (Zm hu),YM hn,hlt,Wu]
  ·simp at h
 ·rename_i e b off len cap hu
  split at h
  ·rename_i j n hj hn
   obtain⟨k,rfl,hlt⟩:=idxU_sound hi hj
   simp only [Option.some.injEq] at h;subst h
   cases hx with
   | sliceIs hb hl =>
    refine⟨_,.ptr hb,fun w =>?_⟩
    simp [Instr.indexAt,asIntOf,run_underlying (Zm hu),YM hn,hlt,Wu]
   | sliceUp hb hl hr =>
    refine⟨_,.ptr hb,fun w =>?_⟩
    simp [Instr.indexAt,asIntOf,run_underlying (Zm hu),YM hn,hlt,Wu]
   | sliceLost =>omega
  ·simp at h
 ·simp at h
theorem fieldAddrU_sound {t:TypeId} {x v:AV} {x':Value} {f:Nat} (hx:VR ρ x x') (h:ZS P t x f = some v):Xd P ρ v (Instr.fieldAt t x' f):=by
 unfold ZS at h
 split at h
 ·rename_i fs b off hu
  cases hx with | ptr hb =>
  split at h
  ·rename_i fd hf
   split at h <;> simp only [Option.some.injEq,reduceCtorEq] at h
   rename_i n hn
   subst h
   refine⟨_,.ptr hb,fun w =>?_⟩
   simp [Instr.fieldAt,Instr.sureAddr,fieldPlace,run_underlying (Zm hu),hf,YM hn,Wu]
  ·simp at h
 ·simp at h
theorem fieldU_sound {t:TypeId} {x v:AV} {x':Value} {f:Nat} (hx:VR ρ x x') (h:fieldU P t x f = some v):Xd P ρ v (Instr.field t x' f):=by
 unfold fieldU at h
 split at h
 ·rename_i fs cs hu
  cases hx with | agg hc =>
  split at h
  ·rename_i fd hf
   obtain⟨r,hr,hrr⟩:=partU_sound hc h
   refine⟨r,hr,fun w =>?_⟩
   simp [Instr.field,asAgg,run_underlying (Zm hu),hf,hrr]
  ·simp at h
 ·simp at h
/-- The bounds of a slice expression. -/
inductive OR (ρ:Yl):Option AV→Option Value→Prop
 | none:OR ρ none none
 | some {v:AV} {x:Value} (h:VR ρ v x):OR ρ (some v) (some x)
theorem optO_sound {t:Tri AV} {ev:Operand→Value} {x:Option Operand} {v:Option AV} (hx:∀y,x = some y→EvR ρ t ev y) (h:optO t x = some v):OR ρ v (x.map ev):=by
 cases x with
 | none =>simp only [optO,Option.some.injEq] at h;subst h;exact .none
 | some y =>
  simp only [optO,Option.map_eq_some_iff] at h
  obtain⟨u,hu,rfl⟩:=h
  exact .some (hx y rfl u hu)
theorem Xl {x:Option AV} {x':Option Value} {dflt most n:Nat} (hx:OR ρ x x') (h:XV x dflt most = some n) :
  (x' = none∧n = dflt) ∨ (∃k,x' = some (.int k (n:Int))∧n≤most):=by
 unfold XV at h
 split at h
 ·cases hx;simp only [Option.some.injEq] at h;exact .inl ⟨rfl,h.symm⟩
 ·cases hx with | some hv =>
  cases hv
  split at h <;> simp only [Option.some.injEq,reduceCtorEq] at h
  rename_i hb
  subst h
  exact .inr ⟨_,rfl,Nat.le_of_ble_eq_true hb⟩
 ·simp at h
theorem run_sliceBd {k:IntKind} {n y:Nat} (h:n≤y) (code:BoundsCode) (w:World):(Instr.sliceBound (.int k (n:Int)) y code).run P w = .ok n w:=by
 simp only [Instr.sliceBound,asIntOf,Sem.run_bind,Sem.run_pure,Result.andThen_ok]
 rw [if_pos ⟨by omega,by omega⟩]
 simp
/-- Bounds without a third one. -/
theorem run_bounds2 {lo hi:Option Value} {l h len cap most:Nat} (hh:(hi = none∧h = len) ∨ (∃k,hi = some (.int k (h:Int))∧h≤most)) (hm:most≤cap)
  (hl:(lo = none∧l = 0) ∨ (∃k,lo = some (.int k (l:Int))∧l≤h)) (isSlice:Bool) (w:World) :
  (Instr.sliceBounds isSlice len cap lo hi none).run P w = .ok (l,h,cap) w:=by
 unfold Instr.sliceBounds
 rcases hh with ⟨rfl,rfl⟩ | ⟨k,rfl,hh⟩ <;> rcases hl with ⟨rfl,rfl⟩ | ⟨k',rfl,hl⟩
 ·simp
 ·simp [run_sliceBd,hl]
 ·simp [run_sliceBd,Nat.le_trans hh hm]
 ·simp [run_sliceBd,Nat.le_trans hh hm,hl]
/-- Bounds with a third one. -/
theorem run_bounds3 {l h m len cap:Nat} {k k' k'':IntKind} (hm:m≤cap) (hh:h≤m) (hl:l≤h) (isSlice:Bool) (w:World) :
  (Instr.sliceBounds isSlice len cap (some (.int k' (l:Int))) (some (.int k'' (h:Int))) (some (.int k (m:Int)))).run P w = .ok (l,h,m) w:=by
 unfold Instr.sliceBounds
 simp [run_sliceBd,hm,hh,hl]
theorem beq_ite {a b:Nat} {α:Type} (x y:α):(if Nat.beq a b = true then x else y) = if a = b then x else y:=by
 by_cases h:a = b
 ·subst h;simp
 ·rw [if_neg h,if_neg (by rw [Nat.beq_eq];exact h)]
theorem WL {t:TypeId} {d:TypeDesc} (hu:P.underlying t = some d) (h:∀n e,d ≠ .array n e) (x:Value) (lo hi mx:Option Value) (w:World) :
  (Instr.sliceAt t x lo hi mx).run P w = (Instr.slice t x lo hi mx).run P w:=by
 simp only [Instr.sliceAt,Sem.run_bind,run_underlying hu,Result.andThen_ok]
theorem bound_some {x:AV} {x':Value} {dflt most n:Nat} (hx:VR ρ x x') (h:XV (some x) dflt most = some n):∃k,x' = .int k (n:Int)∧n≤most:=by
 rcases Xl (.some hx) h with ⟨h0,_⟩ | ⟨k,hk,hn⟩
 ·simp at h0
 ·exact⟨k,Option.some.inj hk,hn⟩
theorem sliceStr_sound {t:TypeId} {s:ByteArray} {v:AV} {lo hi:Option AV} {lo' hi':Option Value} (hu:P.underlying t = some .string) (hlo:OR ρ lo lo') (hhi:OR ρ hi hi')
  (h:sliceStr (X1 s) lo hi = some v):Xd P ρ v (Instr.sliceAt t (.string s) lo' hi' none):=by
 unfold sliceStr at h
 split at h
 ·rename_i h1 hh
  split at h <;> simp only [Option.some.injEq,reduceCtorEq] at h
  rename_i l1 hl
  subst h
  have hh:=Xl hhi hh
  have hl:=Xl hlo hl
  rw [Wr] at hh
  rw [← bts_extract]
  refine⟨_,.str _,fun w =>?_⟩
  rw [WL hu (by simp)]
  simp only [Instr.slice,Sem.run_bind,run_underlying hu,Result.andThen_ok,Option.isSome_none,Bool.false_eq_true,if_false]
  rw [run_bounds2 hh (Nat.le_refl _) hl]
  rfl
 ·simp at h
theorem sliceSl_sound {t e n b off len:Nat} {cap:Cap} {x':Value} {v:AV} {lo hi:Option AV} {lo' hi':Option Value} (hu:P.underlying t = some (.slice e)) (hn:szU P e = some n)
  (hx:VR ρ (.slice b off len cap) x') (hlo:OR ρ lo lo') (hhi:OR ρ hi hi') (h:X2 n b off len cap lo hi = some v):Xd P ρ v (Instr.sliceAt t x' lo' hi' none):=by
 unfold X2 at h
 split at h
 ·rename_i h1 hh
  have hh:=Xl hhi hh
  split at h
  ·rename_i l1 hl
   have hl:=Xl hlo hl
   have fin:∀(c:Nat) (cap' off':Nat),cap.sure len≤cap'→∀w,
     (Instr.sliceAt t (.slice (some ⟨c,off',none⟩) len cap') lo' hi' none).run P w =
      .ok (.slice (some ⟨c,if cap' = l1 then off' else off' + l1 * n,none⟩) (h1 - l1) (cap' - l1)) w:=by
    intro c cap' off' hcap w
    rw [WL hu (by simp)]
    simp only [Instr.slice,Sem.run_bind,run_underlying hu,Result.andThen_ok]
    rw [run_bounds2 hh hcap hl]
    simp only [Result.andThen_ok,YM hn,Sem.run_pure]
    split <;> simp [Wu]
   cases cap with
   | is c =>
    simp only [Option.some.injEq] at h
    subst h
    cases hx with | sliceIs hb hle =>
    rw [beq_ite]
    refine⟨_,.sliceIs hb ?_,fun w =>fin _ _ _ (Nat.le_refl _) w⟩
    have:h1≤c:=by
     rcases hh with ⟨_,rfl⟩ | ⟨_,_,hh⟩
     ·exact hle
     ·exact hh
    omega
   | up sz =>
    cases hx with | sliceUp hb hle hr =>
    rename_i cc nn cap'
    dsimp only at h
    split at h
    ·simp at h
    ·rename_i hsz
     have hsz:sz = n:=Nat.eq_of_beq_eq_true (by simpa using hsz)
     subst hsz
     have hle1:l1≤h1:=by
      rcases hl with ⟨_,rfl⟩ | ⟨_,_,hl⟩
      ·omega
      ·exact hl
     have hh1:h1≤cap':=by
      rcases hh with ⟨_,rfl⟩ | ⟨_,_,hh⟩
      ·exact hle
      ·exact Nat.le_trans hh hle
     split at h
     ·rename_i hz
      simp only [Option.some.injEq] at h
      subst h
      rw [Bool.and_eq_true] at hz
      have:=Nat.eq_of_beq_eq_true hz.1
      subst this
      refine⟨.slice (some ⟨cc,if cap' = h1 then off else off + h1 * sz,none⟩) 0 (cap' - h1),.sliceLost,fun w =>?_⟩
      rw [fin _ _ _ hle w,Nat.sub_self]
     ·rename_i hz
      simp only [Option.some.injEq] at h
      subst h
      refine⟨_,.sliceUp hb (cap:=cap' - l1) (by omega) ?_,fun w =>?_⟩
      ·have:(cap' - l1) * sz = cap' * sz - l1 * sz:=Nat.sub_mul _ _ _
       have:l1 * sz≤cap' * sz:=Nat.mul_le_mul_right _ (by omega)
       omega
      ·rw [fin _ _ _ hle w]
       by_cases e:cap' = l1
       ·have:l1 = 0:=by
         rcases Nat.eq_zero_or_pos l1 with h0 | h0
         ·exact h0
         ·exfalso;apply hz;rw [Bool.and_eq_true]
          have e1:h1 = l1:=by omega
          refine⟨by rw [Nat.beq_eq];exact e1,?_⟩
          cases hb0:Nat.beq l1 0 with
          | false =>rfl
          | true =>exact absurd (Nat.eq_of_beq_eq_true hb0) (by omega)
        rw [if_pos e,this];simp
       ·rw [if_neg e]
   | lost =>
    simp only [Option.some.injEq] at h
    subst h
    cases hx with | @sliceLost _ _ a cap' =>
    have hh0:h1 = 0:=by
     rcases hh with ⟨_,rfl⟩ | ⟨_,_,hh⟩
     ·rfl
     ·simpa [Cap.sure] using hh
    subst hh0
    refine⟨.slice (some (if cap' = l1 then a else a.add (l1 * n))) 0 (cap' - l1),.sliceLost,fun w =>?_⟩
    rw [WL hu (by simp)]
    simp only [Instr.slice,Sem.run_bind,run_underlying hu,Result.andThen_ok]
    rw [run_bounds2 hh (by simp [Cap.sure]) hl]
    simp only [Result.andThen_ok,YM hn,Sem.run_pure,Nat.zero_sub]
    split <;> simp_all
  ·simp at h
 ·simp at h
theorem sliceSl3_sound {t e n b off len:Nat} {cap:Cap} {x' lo' hi' mx':Value} {v lo hi mx:AV} (hu:P.underlying t = some (.slice e)) (hn:szU P e = some n)
  (hx:VR ρ (.slice b off len cap) x') (hlo:VR ρ lo lo') (hhi:VR ρ hi hi') (hmx:VR ρ mx mx') (h:sliceSl3 n b off len cap lo hi mx = some v) :
  Xd P ρ v (Instr.sliceAt t x' (some lo') (some hi') (some mx')):=by
 unfold sliceSl3 at h
 split at h
 ·simp at h
 ·rename_i hnl
  split at h
  ·rename_i m hm
   split at h
   ·rename_i h1 hh
    split at h <;> simp only [Option.some.injEq,reduceCtorEq] at h
    rename_i l1 hl
    subst h
    obtain⟨k,rfl,hm⟩:=bound_some hmx hm
    obtain⟨k',rfl,hh⟩:=bound_some hhi hh
    obtain⟨k'',rfl,hl⟩:=bound_some hlo hl
    have fin:∀(c:Nat) (cap' off':Nat),cap.sure len≤cap'→∀w,
      (Instr.sliceAt t (.slice (some ⟨c,off',none⟩) len cap') (some (.int k'' (l1:Int))) (some (.int k' (h1:Int))) (some (.int k (m:Int)))).run P w =
       .ok (.slice (some ⟨c,if m = l1 then off' else off' + l1 * n,none⟩) (h1 - l1) (m - l1)) w:=by
     intro c cap' off' hcap w
     rw [WL hu (by simp)]
     simp only [Instr.slice,Sem.run_bind,run_underlying hu,Result.andThen_ok]
     rw [run_bounds3 (Nat.le_trans hm hcap) hh hl]
     simp only [Result.andThen_ok,YM hn]
     split <;> simp [Wu]
    rw [beq_ite]
    cases hx with
    | sliceIs hb hl' =>exact⟨_,.sliceIs hb (by omega),fun w =>fin _ _ _ (Nat.le_refl _) w⟩
    | sliceUp hb hl' hr =>exact⟨_,.sliceIs hb (by omega),fun w =>fin _ _ _ hl' w⟩
    | sliceLost =>exact absurd rfl hnl
   ·simp at h
  ·simp at h
theorem sliceArr_sound {t e n k b off:Nat} {x':Value} {v:AV} {lo hi:Option AV} {lo' hi':Option Value} (hu:P.underlying t = some (.array k e)) (hn:szU P e = some n)
  (hx:VR ρ (.ptr b off) x') (hlo:OR ρ lo lo') (hhi:OR ρ hi hi') (h:sliceArr n k b off lo hi = some v):Xd P ρ v (Instr.sliceAt t x' lo' hi' none):=by
 unfold sliceArr at h
 split at h
 ·rename_i h1 hh
  split at h <;> simp only [Option.some.injEq,reduceCtorEq] at h
  rename_i l1 hl
  subst h
  have hh:=Xl hhi hh
  have hl:=Xl hlo hl
  cases hx with | ptr hb =>
  rw [beq_ite]
  refine⟨_,.sliceIs hb ?_,fun w =>?_⟩
  ·have:h1≤k:=by
    rcases hh with ⟨_,rfl⟩ | ⟨_,_,hh⟩
    ·exact Nat.le_refl _
    ·exact hh
   omega
  ·simp only [Instr.sliceAt,Sem.run_bind,run_underlying hu,Result.andThen_ok,Instr.sureAddr,Sem.run_pure]
   rw [run_bounds2 hh (Nat.le_refl _) hl]
   simp only [Result.andThen_ok,YM hn]
   split <;> simp [Wu]
 ·simp at h
theorem sliceNil_sound {t e n:Nat} {v:AV} {lo hi:Option AV} {lo' hi':Option Value} (hu:P.underlying t = some (.slice e)) (hn:szU P e = some n)
  (hlo:OR ρ lo lo') (hhi:OR ρ hi hi') (h:sliceNil lo hi = some v):Xd P ρ v (Instr.sliceAt t (.slice none 0 0) lo' hi' none):=by
 unfold sliceNil at h
 split at h
 ·rename_i h1 l1 hh hl
  simp only [Option.some.injEq] at h
  subst h
  have hh:=Xl hhi hh
  have hl:=Xl hlo hl
  have h10:h1 = 0:=by
   rcases hh with ⟨_,rfl⟩ | ⟨_,_,hh⟩
   ·rfl
   ·omega
  have l10:l1 = 0:=by
   rcases hl with ⟨_,rfl⟩ | ⟨_,_,hl⟩
   ·rfl
   ·omega
  subst h10
  subst l10
  refine⟨_,.nilslice,fun w =>?_⟩
  rw [WL hu (by simp)]
  simp only [Instr.slice,Sem.run_bind,run_underlying hu,Result.andThen_ok]
  rw [run_bounds2 hh (Nat.le_refl _) hl]
  simp [YM hn]
 ·simp at h
theorem sliceU_sound {t:TypeId} {x v:AV} {x':Value} {lo hi mx:Option AV} {lo' hi' mx':Option Value} (hx:VR ρ x x') (hlo:OR ρ lo lo') (hhi:OR ρ hi hi') (hmx:OR ρ mx mx')
  (h:YW P t x lo hi mx = some v):Xd P ρ v (Instr.sliceAt t x' lo' hi' mx'):=by
 unfold YW at h
 split at h
 ·rename_i hu
  cases hx
  split at h
  ·cases hmx;exact sliceStr_sound (Zm hu) hlo hhi h
  ·simp at h
 ·rename_i hu
  split at h
  ·rename_i hn;cases hmx;exact sliceSl_sound (Zm hu) hn hx hlo hhi h
  ·rename_i hn
   cases hmx with | some hm =>
   split at h
   ·cases hlo with | some hl =>cases hhi with | some hh =>exact sliceSl3_sound (Zm hu) hn hx hl hh hm h
   ·simp at h
  ·simp at h
 ·rename_i hu
  cases hx
  split at h
  ·rename_i hn;cases hmx;exact sliceNil_sound (Zm hu) hn hlo hhi h
  ·simp at h
 ·rename_i hu
  split at h
  ·rename_i hn;cases hmx;exact sliceArr_sound (Zm hu) hn hx hlo hhi h
  ·simp at h
 ·simp at h
theorem maxL_sound {k:IntKind} {a:Int} {l:List AV} {l':List Value} {v:AV} (hl:Xy ρ l l') (h:maxL k a l = some v) :
  ∃x,VR ρ v x∧∀w,(l'.foldlM Builtin.max2 (.int k a):Sem Value).run P w = .ok x w:=by
 induction l generalizing a l' with
 | nil =>cases hl;simp only [maxL,Option.some.injEq] at h;subst h;exact⟨_,.int _ _,fun w =>rfl⟩
 | cons u l ih =>
  cases hl with | cons hu hs =>
  unfold maxL at h
  split at h
  ·rename_i hh;cases hh
  ·rename_i hh
   cases hh
   cases hu
   obtain⟨x,hx,hr⟩:=ih hs h
   exact⟨x,hx,fun w =>by simp only [List.foldlM_cons,Builtin.max2,Sem.run_bind,Sem.run_pure,Result.andThen_ok];exact hr w⟩
  ·simp at h
theorem minL_sound {k:IntKind} {a:Int} {l:List AV} {l':List Value} {v:AV} (hl:Xy ρ l l') (h:minL k a l = some v) :
  ∃x,VR ρ v x∧∀w,(l'.foldlM Builtin.min2 (.int k a):Sem Value).run P w = .ok x w:=by
 induction l generalizing a l' with
 | nil =>cases hl;simp only [minL,Option.some.injEq] at h;subst h;exact⟨_,.int _ _,fun w =>rfl⟩
 | cons u l ih =>
  cases hl with | cons hu hs =>
  unfold minL at h
  split at h
  ·rename_i hh;cases hh
  ·rename_i hh
   cases hh
   cases hu
   obtain⟨x,hx,hr⟩:=ih hs h
   exact⟨x,hx,fun w =>by simp only [List.foldlM_cons,Builtin.min2,Sem.run_bind,Sem.run_pure,Result.andThen_ok];exact hr w⟩
  ·simp at h
theorem sliceData_run (ts:Array TypeId) (ty:TypeId) (a:Addr) (n c:Nat) (h:c ≠ 0) (w:World):(Builtin.unsafeSliceData_ ts ty #[.slice (some a) n c]).run P w = .ok (.pointer (some a)) w:=by
 show ((if c ≠ 0 then (Pure.pure (.pointer (some a)):Sem Value) else _)).run P w = _
 rw [if_pos h]
 rfl
/-- A built-in function's answer. -/
def YieldN (P:Program) (ρ:Yl) (v:AV) (s:Sem Next):Prop:=∃x,VR ρ v x∧∀w,s.run P w = .ok (.value x) w
theorem Xd.next {v:AV} {s:Sem Value} (h:Xd P ρ v s):YieldN P ρ v (do Pure.pure (.value (← s))):=by
 obtain⟨x,hx,hr⟩:=h
 exact⟨x,hx,fun w =>by simp [hr]⟩
theorem builtinU_sound {b:Builtin} {ts:Array TypeId} {args:List AV} {args':Array Value} {v:AV} (ty:TypeId) (consts:Array Bool) (ha:Xy ρ args args'.toList) (h:Wq P b ts.toList args = some v) :
  YieldN P ρ v (builtin b ts ty consts args'):=by
 obtain⟨l'⟩:=args'
 obtain⟨ts⟩:=ts
 dsimp only at ha h
 unfold Wq at h
 split at h
 ·
  cases ha with | cons hx hs =>
  refine Xd.next ?_
  split at h <;> simp only [Option.some.injEq,reduceCtorEq] at h
  ·rename_i hu;cases hx;subst h;rw [Wr];exact⟨_,.int _ _,fun w =>by simp [Builtin.len_,run_underlying (Zm hu),goInt]⟩
  ·rename_i hu;cases hx;subst h;exact⟨_,.int _ _,fun w =>by simp [Builtin.len_,run_underlying (Zm hu),goInt]⟩
  ·rename_i hu;subst h;cases hx <;> exact⟨_,.int _ _,fun w =>by simp [Builtin.len_,run_underlying (Zm hu),goInt]⟩
  ·rename_i hu;subst h;exact⟨_,.int _ _,fun w =>by simp [Builtin.len_,run_underlying (Zm hu),goInt]⟩
  ·rename_i hu;cases hx;subst h;exact⟨_,.int _ _,fun w =>by simp [Builtin.len_,run_underlying (Zm hu),goInt]⟩
 ·
  cases ha with | cons hx hs =>
  refine Xd.next ?_
  split at h <;> simp only [Option.some.injEq,reduceCtorEq] at h
  ·rename_i hu;cases hx;subst h;exact⟨_,.int _ _,fun w =>by simp [Builtin.cap_,run_underlying (Zm hu),goInt]⟩
  ·rename_i hu;cases hx;subst h;exact⟨_,.int _ _,fun w =>by simp [Builtin.cap_,run_underlying (Zm hu),goInt]⟩
  ·rename_i hu;subst h;exact⟨_,.int _ _,fun w =>by simp [Builtin.cap_,run_underlying (Zm hu),goInt]⟩
 ·
  refine Xd.next ?_
  unfold maxU at h
  split at h
  ·cases ha with | cons hx hs =>
   cases hx
   obtain⟨x,hx,hr⟩:=maxL_sound (P:=P) hs h
   exact⟨x,hx,fun w =>by simp only [Builtin.max_];exact hr w⟩
  ·simp at h
 ·
  refine Xd.next ?_
  unfold minU at h
  split at h
  ·cases ha with | cons hx hs =>
   cases hx
   obtain⟨x,hx,hr⟩:=minL_sound (P:=P) hs h
   exact⟨x,hx,fun w =>by simp only [Builtin.min_];exact hr w⟩
  ·simp at h
 ·cases ha with | cons hx hs =>
  cases hs
  cases hx
  simp only [Option.some.injEq] at h;subst h
  exact Xd.next ⟨.pointer none,.nilptr,fun w =>rfl⟩
 ·cases ha with | cons hx hs =>
  cases hs
  simp only [Option.some.injEq] at h;subst h
  refine Xd.next ?_
  cases hx with
  | sliceIs hb hl =>exact⟨_,.ptr hb,fun w =>sliceData_run _ _ _ _ _ (by omega) w⟩
  | sliceUp hb hl hr =>exact⟨_,.ptr hb,fun w =>sliceData_run _ _ _ _ _ (by omega) w⟩
 ·simp at h
theorem assertP_sound {t xt:TypeId} {ok:Bool} {x v:AV} {x':Value} (hx:VR ρ x x') (h:assertP P t ok (some x) = some v):Xd P ρ v (Instr.typeAssert x' xt t ok):=by
 unfold assertP at h
 split at h
 ·simp at h
 ·rename_i d u y hni hu heq
  simp only [Option.some.injEq] at heq
  subst heq
  cases hx with | iface hv =>
  rename_i v'
  have hd:∀ms,d ≠ .interface ms:=fun ms e =>hni ms e
  by_cases e:u = t
  ·subst e
   rw [show Nat.beq u u = true from Nat.beq_refl u] at h
   simp only [if_true,Option.some.injEq] at h
   subst h
   have key:∀w,(Instr.typeAssert (.iface u v') xt u ok).run P w = .ok (if ok then .tuple #[v',.bool true] else v') w:=by
    intro w
    simp only [Instr.typeAssert,Sem.run_bind,run_underlying (Zm hu),Result.andThen_ok]
    cases d <;> first | exact absurd rfl (hd _) | simp
   refine⟨_,?_,key⟩
   cases ok
   ·exact hv
   ·exact .tuple (.cons hv (.cons (.bool _) .nil))
  ·have hb:Nat.beq u t = false:=by
    cases hb:Nat.beq u t with
    | false =>rfl
    | true =>exact absurd (Nat.eq_of_beq_eq_true hb) e
   rw [hb] at h
   simp only [Bool.false_eq_true,if_false] at h
   split at h
   ·rename_i hok
    subst hok
    simp only [Option.map_eq_some_iff] at h
    obtain⟨z,hz,rfl⟩:=h
    obtain⟨zx,hzx,hzr⟩:=W2 (ρ:=ρ) hz
    refine⟨.tuple #[zx,.bool false],.tuple (.cons hzx (.cons (.bool _) .nil)),fun w =>?_⟩
    simp only [Instr.typeAssert,Sem.run_bind,run_underlying (Zm hu),Result.andThen_ok]
    cases d <;> first | exact absurd rfl (hd _) | simp [e,hzr]
   ·simp at h
 ·rename_i d hni hu heq
  simp only [Option.some.injEq] at heq
  subst heq
  cases hx
  have hd:∀ms,d ≠ .interface ms:=fun ms e =>hni ms e
  split at h
  ·rename_i hok
   subst hok
   simp only [Option.map_eq_some_iff] at h
   obtain⟨z,hz,rfl⟩:=h
   obtain⟨zx,hzx,hzr⟩:=W2 (ρ:=ρ) hz
   refine⟨.tuple #[zx,.bool false],.tuple (.cons hzx (.cons (.bool _) .nil)),fun w =>?_⟩
   simp only [Instr.typeAssert,Sem.run_bind,run_underlying (Zm hu),Result.andThen_ok]
   cases d <;> first | exact absurd rfl (hd _) | simp [hzr]
  ·simp at h
 ·simp at h
theorem pureU_sound {t:Tri AV} {ev:Operand→Value} {o:Oper} {v:AV} (hev:∀x ∈ o.op.operands,EvR ρ t ev x) (h:pureU P t o.op = some v):YieldN P ρ v (execOp ev o):=by
 obtain⟨dst,op,type,pos,after,guard⟩:=o
 dsimp only at hev h
 unfold pureU at h
 split at h
 ·exact⟨_,hev _ (by simp [Op.operands]) _ h,fun w =>rfl⟩
 ·exact⟨_,hev _ (by simp [Op.operands]) _ h,fun w =>rfl⟩
 ·rename_i c a b
  unfold pickP at h
  split at h
  ·rename_i hc
   have hc:=hev c (by simp [Op.operands]) _ hc
   generalize hcv:ev c = cv at hc
   cases hc
   exact⟨_,hev a (by simp [Op.operands]) _ h,fun w =>by simp [execOp,hcv,asBool]⟩
  ·rename_i hc
   have hc:=hev c (by simp [Op.operands]) _ hc
   generalize hcv:ev c = cv at hc
   cases hc
   exact⟨_,hev b (by simp [Op.operands]) _ h,fun w =>by simp [execOp,hcv,asBool]⟩
  ·simp at h
 ·rename_i ty parts
  unfold buildP at h
  split at h
  ·rename_i ps hps
   refine Xd.next (buildU_sound (ps:=ps) ?_ h)
   have:=partsU_sound (ρ:=ρ) (ev:=ev) (fun p hp =>hev p.2 (by
    simp only [Op.operands,List.mem_toArray,List.mem_map]
    exact⟨p,hp,rfl⟩)) hps
   simpa using this
  ·simp at h
 ·rename_i x
  unfold nilP at h
  split at h
  ·rename_i b i hx
   simp only [Option.some.injEq] at h;subst h
   have hx:=hev x (by simp [Op.operands]) _ hx
   generalize hcv:ev x = cv at hx
   cases hx with | ptr hb =>
   exact⟨_,.ptr hb,fun w =>by simp [execOp,hcv]⟩
  ·rename_i f a b hx
   simp only [Option.some.injEq] at h;subst h
   have hx:=hev x (by simp [Op.operands]) _ hx
   generalize hcv:ev x = cv at hx
   cases hx with | func ha hb =>
   exact⟨_,.func ha hb,fun w =>by simp [execOp,hcv]⟩
  ·simp at h
 ·rename_i op ty x y _
  unfold binP at h
  split at h
  ·rename_i a b ha hb
   split at h
   ·rename_i hg
    have ha:=hev x (by simp [Op.operands]) _ ha
    have hb:=hev y (by simp [Op.operands]) _ hb
    obtain⟨r,hr,hrr⟩:=binU_sound ha hb h
    exact⟨r,hr,fun w =>by simp [execOp,guardOk_sound ha hb hg,hrr]⟩
   ·simp at h
  ·simp at h
 ·rename_i op ty x
  unfold unP at h
  split at h
  ·rename_i a ha
   exact Xd.next (unU_sound (hev x (by simp [Op.operands]) _ ha) h)
  ·simp at h
 ·rename_i s d x
  unfold convP at h
  split at h
  ·rename_i a ha
   exact Xd.next (convU_sound (hev x (by simp [Op.operands]) _ ha) h)
  ·simp at h
 ·rename_i ty x
  unfold ifaceP at h
  split at h
  ·simp at h
  ·rename_i d a hni hu ha
   simp only [Option.some.injEq] at h;subst h
   have ha:=hev x (by simp [Op.operands]) _ ha
   refine⟨_,.iface ha,fun w =>?_⟩
   have hd:∀ms,d ≠ .interface ms:=fun ms e =>hni ms e
   simp only [execOp,Instr.makeInterface,Sem.run_bind,run_underlying (Zm hu),Result.andThen_ok]
   cases d <;> first | exact absurd rfl (hd _) | rfl
  ·simp at h
 ·rename_i fn first caps
  unfold makeP at h
  split at h
  ·rename_i f a b ha hb
   simp only [Option.some.injEq] at h;subst h
   have ha:=Wo (ρ:=ρ) (ev:=ev) (fun x hx =>hev x (by simp [Op.operands];exact .inl (by simpa using hx))) ha
   have hb:=Wo (ρ:=ρ) (ev:=ev) (fun x hx =>hev x (by simp [Op.operands];exact .inr (by simpa using hx))) hb
   exact⟨.func (.func f) (first.map ev) (caps.map ev),.func (by simpa using ha) (by simpa using hb),fun w =>by simp [execOp,Instr.makeFunc]⟩
  ·simp at h
 ·rename_i ty x lo hi mx
  unfold sliceP at h
  split at h
  ·rename_i a l hh m ha hl hhi hm
   exact Xd.next (sliceU_sound (hev x (by simp [Op.operands]) _ ha)
    (optO_sound (ev:=ev) (fun y hy =>hev y (by subst hy;simp [Op.operands])) hl)
    (optO_sound (ev:=ev) (fun y hy =>hev y (by subst hy;simp [Op.operands])) hhi)
    (optO_sound (ev:=ev) (fun y hy =>hev y (by subst hy;simp [Op.operands])) hm) h)
  ·simp at h
 ·rename_i ty x f
  unfold fieldAddrP at h
  split at h
  ·rename_i a ha
   exact Xd.next (fieldAddrU_sound (hev x (by simp [Op.operands]) _ ha) h)
  ·simp at h
 ·rename_i ty x f
  unfold fieldP at h
  split at h
  ·rename_i a ha
   exact Xd.next (fieldU_sound (hev x (by simp [Op.operands]) _ ha) h)
  ·simp at h
 ·rename_i ty x i
  unfold indexAddrP at h
  split at h
  ·rename_i a b ha hb
   exact Xd.next (indexAddrU_sound (hev x (by simp [Op.operands]) _ ha) (hev i (by simp [Op.operands]) _ hb) h)
  ·simp at h
 ·rename_i ty x i
  unfold indexP at h
  split at h
  ·rename_i a b ha hb
   exact Xd.next (indexU_sound (hev x (by simp [Op.operands]) _ ha) (hev i (by simp [Op.operands]) _ hb) h)
  ·simp at h
 ·rename_i x i
  unfold extractP at h
  split at h
  ·rename_i l hx
   have hx:=hev x (by simp [Op.operands]) _ hx
   generalize hcv:ev x = cv at hx
   cases hx with | tuple hl =>
   obtain⟨y,hy,hv⟩:=hl.get h
   exact⟨y,hv,fun w =>by simp [execOp,hcv,Instr.extract,← Array.getElem?_toList,hy]⟩
  ·simp at h
 ·rename_i c
  obtain⟨callee,args,ts⟩:=c
  unfold callP at h
  dsimp only at h
  split at h
  ·rename_i b
   unfold builtinP at h
   split at h
   ·rename_i l hl
    have hl:=Wo (ρ:=ρ) (ev:=ev) (fun x hx =>hev x (by simp [Op.operands,Call.operands];simpa using hx)) hl
    have:=builtinU_sound (args':=args.map ev) type (args.map fun | .const _ =>true | _ =>false) (by simpa using hl) h
    obtain⟨r,hr,hrr⟩:=this
    exact⟨r,hr,fun w =>by simp [execOp,resolve,invoke];exact hrr w⟩
   ·simp at h
  ·simp at h
 ·rename_i x _ ty ok
  cases hx:Zg t x with
  | none =>rw [hx] at h;unfold assertP at h;split at h <;> simp_all
  | some a =>
   rw [hx] at h
   exact Xd.next (assertP_sound (hev x (by simp [Op.operands]) _ hx) h)
 ·simp at h
end
end Go.Ev
end
section
namespace Go.Ev
open Go.RowKit
/-! ### blocks -/
inductive ER (ρ:Yl):List (AV × AV)→List MapEntry→Prop
 | nil:ER ρ [] []
 | cons {k v:AV} {e:MapEntry} {l:List (AV × AV)} {m:List MapEntry} (hk:VR ρ k e.key) (hv:VR ρ v e.val) (hs:ER ρ l m):ER ρ ((k,v) :: l) (e :: m)
/-- What temporaries hold. -/
def TR (ρ:Yl) (t:Tri AV) (n:Nat) (a:Array Value):Prop:=a.size = n∧∀(i:Nat) (v:AV),t.get i = some v→VR ρ v (a.getD i undef)
inductive BR (ρ:Yl) (n:Nat):AB→Obj→Prop
 | cells {e:TypeId} {c:List AV} {fz:Nat} {mk ro:Bool} {a:Array Value} {lo hi:Nat} (hn:a.size = n) (hl:c.length≤n)
   (hc:∀(i:Nat) (v:AV),c[i]? = some v→v ≠ .hole→∃x,a[i]? = some x∧VR ρ v x∧Yn v = true)
   (hf:ro = false→lo≤hi∧∀i,lo≤i→i < hi→i < fz ∨ (mk = true∧n≤i)):BR ρ n (.cells e c fz mk ro) (.cells a e (lo,hi))
 | map {l l':List (AV × AV)} {es:Array MapEntry} {clock:Nat} {ro:Bool} (hp:l'.Perm l) (he:ER ρ l' es.toList):BR ρ n (.map l ro) (.map es clock)
 | siter (s:ByteArray) (pos:Nat):BR ρ n (.siter (X1 s) pos) (.stringIter s pos)
 | loop {state:LoopState} {pending:Option Code} {fn:FuncId} {k:Nat} {t:Tri AV} {a:Array Value} {params:Array Tmp} {assign body:Code} {d d' m:Nat} (ht:TR ρ t k a) (hd:ρ d = some (d',m)) :
   BR ρ n (.loop state pending fn k t params.toList assign body d) (.loop { state,pending,fn,tmps:=a,params,assign,body,defers:=d' })
 | live:BR ρ n (.deferred true) (.deferred (some []))
 | taken:BR ρ n (.deferred false) (.deferred none)
def AB.ro:AB→Bool
 | .cells _ _ _ _ ro =>ro
 | .map _ ro =>ro
 | _ =>false
section
variable {ρ ρ':Yl}
theorem ER.ext (e:Xo ρ ρ') {l:List (AV × AV)} {m:List MapEntry} (h:ER ρ l m):ER ρ' l m:=by
 induction h with
 | nil =>exact .nil
 | cons hk hv hs ih =>exact .cons (hk.ext e) (hv.ext e) ih
theorem ER.length {l:List (AV × AV)} {m:List MapEntry} (h:ER ρ l m):l.length = m.length:=by
 induction h with
 | nil =>rfl
 | cons hk hv hs ih =>simp [ih]
theorem TR.ext (e:Xo ρ ρ') {t:Tri AV} {n:Nat} {a:Array Value} (h:TR ρ t n a):TR ρ' t n a:=⟨h.1,fun i v hv =>(h.2 i v hv).ext e⟩
theorem BR.ext (e:Xo ρ ρ') {n:Nat} {B:AB} {o:Obj} (h:BR ρ n B o):BR ρ' n B o:=by
 cases h with
 | cells hn hl hc hf =>exact .cells hn hl (fun i v hv hh =>let ⟨x,hx,hr,h1⟩:=hc i v hv hh;⟨x,hx,hr.ext e,h1⟩) hf
 | map hp he =>exact .map hp (he.ext e)
 | siter s pos =>exact .siter s pos
 | loop ht hd =>exact .loop (ht.ext e) (e _ _ hd)
 | live =>exact .live
 | taken =>exact .taken
end
/-- The abstract heap stands for the world; what was there at w0 is as it was. -/
structure WR (w0:World) (ρ:Yl) (H:AH) (w:World):Prop where
 blk:∀b B c n,H.t.get b = some B→ρ b = some (c,n)→∃o,w.heap[c]? = some o∧BR ρ n B o
 inj:∀b b' B B' c n n',H.t.get b = some B→H.t.get b' = some B'→ρ b = some (c,n)→ρ b' = some (c,n')→b = b'
 own:∀b B c n,H.t.get b = some B→ρ b = some (c,n)→B.ro = false→w0.heap.size≤c
 dom:∀b x,ρ b = some x→b < H.next
 bnd:∀b B,H.t.get b = some B→b < H.next
 lid:True
 below:Below w0.heap.size w0 w
/-- What a step may do: blocks get places; names that have none are left alone. -/
structure Xz (ρ:Yl) (H:AH) (ρ':Yl) (H':AH):Prop where
 ext:Xo ρ ρ'
 next:H.next≤H'.next
 keep:∀b,b < H.next→ρ b = none→ρ' b = none∧H'.t.get b = H.t.get b
theorem Xz.refl (ρ:Yl) (H:AH):Xz ρ H ρ H:=⟨Xo.refl ρ,Nat.le_refl _,fun _ _ h =>⟨h,rfl⟩⟩
theorem Xz.trans {ρ ρ' ρ'':Yl} {H H' H'':AH} (h:Xz ρ H ρ' H') (k:Xz ρ' H' ρ'' H''):Xz ρ H ρ'' H'' :=
 ⟨h.ext.trans k.ext,Nat.le_trans h.next k.next,fun b hb hn =>by
  obtain⟨h1,h2⟩:=h.keep b hb hn
  obtain⟨k1,k2⟩:=k.keep b (Nat.lt_of_lt_of_le hb h.next) h1
  exact⟨k1,k2.trans h2⟩⟩
section
variable {w0:World} {ρ:Yl} {H:AH} {w:World}
theorem WR.drew (h:WR w0 ρ H w):WR w0 ρ H w.drew:={ h with below:=h.below.drew }
theorem cell?_of_heap {w:World} {c:Nat} {a:Array Value} {e:TypeId} {f:Nat × Nat} (h:w.heap[c]? = some (.cells a e f)) (i:Nat):w.cell? ⟨c,i,none⟩ = a[i]?:=by
 simp [World.cell?,h]
theorem WR.cells (h:WR w0 ρ H w) {b c n:Nat} {l:List AV} (hb:ρ b = some (c,n)) (hl:H.cellsAt b = some l) :
  l.length≤n∧∃a e f,w.heap[c]? = some (.cells a e f)∧a.size = n∧∀(i:Nat) (v:AV),l[i]? = some v→v ≠ .hole→∃x,a[i]? = some x∧VR ρ v x∧Yn v = true:=by
 unfold AH.cellsAt at hl
 split at hl
 ·rename_i e c' fz mk ro hg
  simp only [Option.some.injEq] at hl
  subst hl
  obtain⟨o,ho,hB⟩:=h.blk _ _ _ _ hg hb
  cases hB with | cells hn hle hc hf =>exact⟨hle,_,_,_,ho,hn,hc⟩
 ·simp at hl
theorem cell_of {a:Array Value} {l:List AV} (ha:∀(i:Nat) (v:AV),l[i]? = some v→v ≠ .hole→∃x,a[i]? = some x∧VR ρ v x∧Yn v = true) {off n:Nat} {r:List AV} (hr:cut l off n = some r) :
  Xy ρ r ((a.toList.drop off).take n)∧r.length = n∧(∀v ∈ r,Yn v = true):=by
 obtain⟨rfl,hlen⟩:=cut_eq hr
 have hle:n = 0 ∨ off + n≤l.length:=by
  simp at hlen
  omega
 have hnh:=cut_noHole hr
 have hal:n = 0 ∨ off + n≤a.size:=by
  rcases Nat.eq_zero_or_pos n with h0 | h0
  ·omega
  ·have hlt:off + (n - 1) < l.length:=by omega
   have hel:((l.drop off).take n)[n - 1]? = some l[off + (n - 1)]:=by
    rw [List.getElem?_take,if_pos (by omega),List.getElem?_drop,List.getElem?_eq_getElem hlt]
   obtain⟨x,hx,_⟩:=ha (off + (n - 1)) l[off + (n - 1)] (List.getElem?_eq_getElem hlt) (hnh _ (List.mem_of_getElem? hel))
   have:=(Array.getElem?_eq_some_iff.1 hx).1
   omega
 refine⟨Xy.of_get ?_ ?_,hlen,?_⟩
 ·simp;omega
 ·intro i v x hv hx
  have hvm:=hnh _ (List.mem_of_getElem? hv)
  rw [List.getElem?_take] at hv hx
  split at hv
  ·rename_i hi
   rw [if_pos hi] at hx
   rw [List.getElem?_drop] at hv hx
   obtain⟨y,hy,hr,_⟩:=ha _ _ hv hvm
   rw [Array.getElem?_toList,hy] at hx
   simp only [Option.some.injEq] at hx
   subst hx
   exact hr
  ·simp at hv
 ·intro v hv
  have hvm:=hnh _ hv
  obtain⟨i,hi⟩:=List.mem_iff_getElem?.1 hv
  rw [List.getElem?_take] at hi
  split at hi
  ·rw [List.getElem?_drop] at hi
   obtain⟨_,_,_,h1⟩:=ha _ _ hi hvm
   exact h1
  ·simp at hi
theorem run_loadCut {P:Program} {a:Array Value} {c off n:Nat} {e:TypeId} {f:Nat × Nat} (h:w.heap[c]? = some (.cells a e f)) (hn:off + n≤a.size ∨ n = 0) :
  (loadCells ⟨c,off,none⟩ n).run P w = .ok ((a.toList.drop off).take n).toArray w:=by
 have hl:((a.toList.drop off).take n).length = n:=by simp;omega
 have:=run_loadCells_list (P:=P) w ⟨c,off,none⟩ ((a.toList.drop off).take n) (fun j v hv =>by
  rw [Wu,cell?_of_heap h]
  rw [List.getElem?_take] at hv
  split at hv
  ·rw [List.getElem?_drop] at hv
   simpa using hv
  ·simp at hv)
 rw [hl] at this
 exact this
theorem loadVarU_sound {P:Program} (h:WR w0 ρ H w) {ty:TypeId} {b off c n:Nat} {v:AV} (hb:ρ b = some (c,n)) (hv:loadVarU P ty b off H = some v) :
  ∃x,VR ρ v x∧(loadVar ty ⟨c,off,none⟩).run P w = .ok x w:=by
 unfold loadVarU at hv
 split at hv
 ·rename_i l hl ha
  split at hv
  ·rename_i sz hsz
   simp only [Option.map_eq_some_iff] at hv
   obtain⟨r,hr,rfl⟩:=hv
   obtain⟨hle,a,e,f,hh,hn,hc⟩:=h.cells hb hl
   obtain⟨h1,h2,_⟩:=cell_of hc hr
   refine⟨.agg ((a.toList.drop off).take sz).toArray,.agg h1,?_⟩
   have hlen:=h1.length
   have:=run_loadCut (P:=P) (n:=sz) (off:=off) hh (by simp at hlen;omega)
   simp only [loadVar,Sem.run_bind,run_isAggU ha,Result.andThen_ok,if_true,YM hsz,this,Sem.run_pure]
  ·simp at hv
 ·rename_i l hl ha
  obtain⟨hle,a,e,f,hh,hn,hc⟩:=h.cells hb hl
  obtain⟨hv,hvh⟩:=solid_some hv
  obtain⟨x,hx,hr,_⟩:=hc _ _ hv hvh
  refine⟨x,hr,?_⟩
  simp only [loadVar,Sem.run_bind,run_isAggU ha,Result.andThen_ok,Bool.false_eq_true,if_false,run_load,cell?_of_heap hh,hx]
 ·simp at hv
end
end Go.Ev
end
section
namespace Go.Ev
open Go.RowKit
section
variable {P:Program} {w0:World} {ρ:Yl} {H:AH} {w:World}
theorem findU_perm {kt:TypeId} {k:AV} {l l':List (AV × AV)} (hp:l'.Perm l):∀{r:Option AV},findU P kt k l = some r→findU P kt k l' = some r:=by
 induction hp with
 | nil =>exact fun h =>h
 | cons x _ ih =>
  intro r h
  obtain⟨j,v⟩:=x
  simp only [findU] at h ⊢
  split at h
  ·rename_i h1 h2
   rw [ih h1,h2]
   exact h
  ·rename_i r' h1 h2
   rw [ih h1,h2]
   simp only [Option.some.injEq] at h
   subst h
   cases r' <;> rfl
  ·simp at h
 | swap x y l =>
  intro r h
  obtain⟨i,u⟩:=x
  obtain⟨j,v⟩:=y
  simp only [findU] at h ⊢
  generalize findU P kt k l = f at h ⊢
  generalize eqlU P Op.maxDepth kt k i = a at h ⊢
  generalize eqlU P Op.maxDepth kt k j = b at h ⊢
  cases f with
  | none =>simp at h
  | some f =>cases a with
   | none =>cases b with
    | none =>simp at h
    | some b =>cases f <;> cases b <;> simp at h
   | some a =>cases b with
    | none =>cases f <;> cases a <;> simp at h
    | some b =>cases f <;> cases a <;> cases b <;> simp_all
 | trans _ _ ih1 ih2 =>exact fun h =>ih1 (ih2 h)
theorem same_equal {kt:TypeId} {kind:TypeDesc} (hu:P.underlying kt = some kind) {a b:Value} {r:Bool} (h:Instr.sameNow kind a b = some r) (w:World):(Op.equal kt a b).run P w = .ok r w:=by
 unfold Instr.sameNow at h
 split at h
 ·split at h
  ·rename_i e;subst e;simp only [Option.some.injEq] at h;subst h;exact run_equalIn_int w 9999 kt _ _ _ _ hu
  ·simp at h
 ·simp only [Option.some.injEq] at h;subst h;rw [beq_toListBytes];exact run_equalIn_string w 9999 kt _ _ hu
 ·simp only [Option.some.injEq] at h;subst h;exact run_equalIn_bool' w 9999 kt _ _ hu
 ·simp at h
/-- What was found stands to what is found. -/
def FR (ρ:Yl):Option AV→Option (Nat × Value)→Prop
 | none,none =>True
 | some v,some (_,x) =>VR ρ v x
 | _,_ =>False
theorem findAsking_sound {kt:TypeId} {k:AV} {k':Value} (hk:VR ρ k k') {l:List (AV × AV)} {es:List MapEntry} (he:ER ρ l es):∀{r:Option AV} (i:Nat),findU P kt k l = some r →
  ∃r',FR ρ r r'∧∀w,(Instr.findAsking kt k' es i).run P w = .ok r' w:=by
 induction he with
 | nil =>intro r i h;simp only [findU,Option.some.injEq] at h;subst h;exact⟨none,trivial,fun w =>rfl⟩
 | @cons j v e l m hj hv hs ih =>
  intro r i h
  simp only [findU] at h
  split at h
  ·rename_i h1 h2
   simp only [Option.some.injEq] at h;subst h
   have:=eqlU_sound Op.maxDepth kt hk hj h2
   exact⟨some (i,e.val),hv,fun w =>by simp [Instr.findAsking,Op.equal,this]⟩
  ·rename_i r' h1 h2
   simp only [Option.some.injEq] at h;subst h
   have:=eqlU_sound Op.maxDepth kt hk hj h2
   obtain⟨q,hq,hr⟩:=ih (i + 1) h1
   exact⟨q,hq,fun w =>by simp [Instr.findAsking,Op.equal,this,hr]⟩
  ·simp at h
theorem findNow_sound {kt:TypeId} {kind:TypeDesc} (hu:P.underlying kt = some kind) {k:AV} {k':Value} (hk:VR ρ k k') {l:List (AV × AV)} {es:List MapEntry} (he:ER ρ l es) :
  ∀{r:Option AV} {q:Option (Nat × Value)} (i:Nat),findU P kt k l = some r→Instr.findNow kind k' es i = some q→FR ρ r q:=by
 induction he with
 | nil =>intro r q i h hq;simp only [findU,Option.some.injEq] at h;subst h;simp only [Instr.findNow,Option.some.injEq] at hq;subst hq;trivial
 | @cons j v e l m hj hv hs ih =>
  intro r q i h hq
  have key:∀b b',eqlU P Op.maxDepth kt k j = some b→Instr.sameNow kind k' e.key = some b'→b = b':=by
   intro b b' hb hb'
   have h1:=eqlU_sound Op.maxDepth kt hk hj hb default
   have h2:=same_equal hu hb' default
   unfold Op.equal at h2
   rw [h1] at h2
   simp only [Result.ok.injEq,and_true] at h2
   exact h2
  simp only [findU] at h
  simp only [Instr.findNow] at hq
  split at h
  ·rename_i h1 h2
   simp only [Option.some.injEq] at h;subst h
   split at hq
   ·simp only [Option.some.injEq] at hq;subst hq;exact hv
   ·rename_i hs';have:=key _ _ h2 hs';simp at this
   ·simp at hq
  ·rename_i r' h1 h2
   simp only [Option.some.injEq] at h;subst h
   split at hq
   ·rename_i hs';have:=key _ _ h2 hs';simp at this
   ·exact ih (i + 1) h1 hq
   ·simp at hq
  ·simp at h
theorem findKey_sound {kt:TypeId} {kind:TypeDesc} (hu:P.underlying kt = some kind) {k:AV} {k':Value} (hk:VR ρ k k') {l:List (AV × AV)} {es:List MapEntry} (he:ER ρ l es) {r:Option AV} (h:findU P kt k l = some r) :
  ∃r',FR ρ r r'∧∀w,(Instr.findKey kt k' es).run P w = .ok r' w:=by
 cases hn:Instr.findNow kind k' es 0 with
 | some q =>exact⟨q,findNow_sound hu hk he 0 h hn,fun w =>by simp [Instr.findKey,run_underlying hu,hn]⟩
 | none =>
  obtain⟨q,hq,hr⟩:=findAsking_sound hk he 0 h
  exact⟨q,hq,fun w =>by simp [Instr.findKey,run_underlying hu,hn,hr]⟩
theorem keyU_sound (empty:Bool):∀(d:Nat) (t:TypeId) {v:AV} {x:Value} (n:Nat),VR ρ v x→keyU P d t v = true→∀w,(Instr.checkKey empty (d + n) t x).run P w = .ok () w:=by
 intro d
 induction d with
 | zero =>intro t v x n _ h;simp [keyU] at h
 | succ d ih =>
  intro t v x n hx h w
  rw [show d + 1 + n = (d + n) + 1 from by omega]
  unfold keyU at h
  split at h
  ·rename_i hu;simp [Instr.checkKey,run_underlying (Zm hu)]
  ·rename_i hu;simp [Instr.checkKey,run_underlying (Zm hu)]
  ·rename_i hu;simp [Instr.checkKey,run_underlying (Zm hu)]
  ·rename_i fields cs hu
   cases hx with | agg hc =>
   rename_i cs'
   simp only [Instr.checkKey,Sem.run_bind,run_underlying (Zm hu),Result.andThen_ok]
   rw [← Array.forIn_toList]
   generalize fields.toList = fs at h
   clear hu
   induction fs generalizing w with
   | nil =>simp
   | cons f fs ihf =>
    simp only [List.all_cons,Bool.and_eq_true,Bool.or_eq_true,decide_eq_true_eq] at h
    simp only [List.forIn_cons,Sem.run_bind]
    by_cases hn : f.name = "_"
    ·simp only [hn,ne_eq,not_true_eq_false,if_false,Sem.run_pure,Result.andThen_ok]
     exact ihf w h.2
    ·have h1:=h.1.resolve_left hn
     split at h1
     ·rename_i u hp
      obtain⟨y,hy,hr⟩:=partU_sound hc hp
      have:=ih f.type n hy h1
      simp only [hn,ne_eq,not_false_eq_true,if_true,Sem.run_bind,hr,this,Sem.run_pure,Result.andThen_ok]
      exact ihf w h.2
     ·simp at h1
  ·simp at h
theorem mapAt_sound (h:WR w0 ρ H w) {x:AV} {x':Value} {l:List (AV × AV)} (hx:VR ρ x x') (hm:mapAt x H = some l) :
  (x' = .map none∧l = []) ∨ ∃c es clock l',x' = .map (some c)∧w.heap[c]? = some (.map es clock)∧l'.Perm l∧ER ρ l' es.toList:=by
 unfold mapAt at hm
 split at hm
 ·cases hx;simp only [Option.some.injEq] at hm;exact .inl ⟨rfl,hm.symm⟩
 ·cases hx with | map hb =>
  split at hm
  ·rename_i hg
   simp only [Option.some.injEq] at hm
   subst hm
   obtain⟨o,ho,hB⟩:=h.blk _ _ _ _ hg hb
   cases hB with | map hp he =>exact .inr ⟨_,_,_,_,rfl,ho,hp,he⟩
  ·simp at hm
 ·simp at hm
def isRow:Obj→Bool
 | .cells .. =>true
 | _ =>false
theorem WZ {w:World} {c:Nat} {o:Obj} (h:w.heap[c]? = some o) (hc:isRow o = false):(getObj c).run P w = .ok o w:=by
 cases o <;> simp [getObj,Sem.run,h,isRow] at hc ⊢
theorem lookupU_sound (h:WR w0 ρ H w) {ty:TypeId} {x i v:AV} {x' i':Value} {ok:Bool} (hx:VR ρ x x') (hi:VR ρ i i') (hv:lookupU P ty x i ok H = some v) :
  ∃y,VR ρ v y∧(Instr.lookup ty x' i' ok).run P w = .ok y w:=by
 unfold lookupU at hv
 split at hv
 ·rename_i kt e l hu hm
  split at hv
  ·rename_i hk
   have hm:=mapAt_sound h hx hm
   have run:∀(es:List MapEntry) (q:Option (Nat × Value)) (y:Value) (b:Bool),(∀w,(Instr.findKey kt i' es).run P w = .ok q w) →
     (match q with | some (_,v) =>b = true∧y = v | none =>b = false∧∀w,(zeroValue e).run P w = .ok y w) →
     ((x' = .map none∧es = []) ∨ ∃c em clock,x' = .map (some c)∧w.heap[c]? = some (.map em clock)∧em.toList = es) →
     (Instr.lookup ty x' i' ok).run P w = .ok (if ok then .tuple #[y,.bool b] else y) w:=by
    intro es q y b hq hyb hx'
    have hck:=fun em =>keyU_sound (P:=P) (ρ:=ρ) em 4 kt 9996 hi hk
    rcases hx' with ⟨rfl,rfl⟩ | ⟨c,em,clock,rfl,hh,rfl⟩
    ·simp only [Instr.lookup,Sem.run_bind,run_underlying (Zm hu),Result.andThen_ok,Sem.run_pure,hck,hq]
     cases q with
     | none =>obtain⟨rfl,hz⟩:=hyb;simp [hz]
     | some p =>obtain⟨rfl,rfl⟩:=hyb;simp
    ·simp only [Instr.lookup,Sem.run_bind,run_underlying (Zm hu),Result.andThen_ok,Sem.run_pure,WZ hh rfl,hck,hq]
     cases q with
     | none =>obtain⟨rfl,hz⟩:=hyb;simp [hz]
     | some p =>obtain⟨rfl,rfl⟩:=hyb;simp
   have hes:∃es l',((x' = .map none∧es = []) ∨ ∃c em clock,x' = .map (some c)∧w.heap[c]? = some (.map em clock)∧em.toList = es)∧l'.Perm l∧ER ρ l' es:=by
    rcases hm with ⟨rfl,rfl⟩ | ⟨c,es,clock,l',rfl,hh,hp,he⟩
    ·exact⟨[],[],.inl ⟨rfl,rfl⟩,.nil,.nil⟩
    ·exact⟨es.toList,l',.inr ⟨c,es,clock,rfl,hh,rfl⟩,hp,he⟩
   obtain⟨es,l',hx',hp,he⟩:=hes
   have huk:∃kind,P.underlying kt = some kind:=by
    cases hk':YR P kt with
    | some d =>exact⟨d,Zm hk'⟩
    | none =>unfold keyU at hk;rw [hk'] at hk;simp at hk
   obtain⟨kind,huk⟩:=huk
   split at hv
   ·rename_i u hf
    simp only [Option.some.injEq] at hv
    obtain⟨q,hq,hrun⟩:=findKey_sound huk hi he (findU_perm hp hf)
    cases q with
    | none =>exact hq.elim
    | some p =>
     obtain⟨j,y⟩:=p
     refine⟨_,?_,run es _ y true hrun ⟨rfl,rfl⟩ hx'⟩
     subst hv
     cases ok
     ·exact hq
     ·exact .tuple (.cons hq (.cons (.bool _) .nil))
   ·rename_i hf
    split at hv
    ·rename_i z hz
     simp only [Option.some.injEq] at hv
     obtain⟨q,hq,hrun⟩:=findKey_sound huk hi he (findU_perm hp hf)
     cases q with
     | some p =>exact hq.elim
     | none =>
      obtain⟨zx,hzx,hzr⟩:=W2 (ρ:=ρ) hz
      refine⟨_,?_,run es _ zx false hrun ⟨rfl,hzr⟩ hx'⟩
      subst hv
      cases ok
      ·exact hzx
      ·exact .tuple (.cons hzx (.cons (.bool _) .nil))
    ·simp at hv
   ·simp at hv
  ·simp at hv
 ·simp at hv
end
end Go.Ev
end
section
namespace Go.Ev
open Go.RowKit
section
variable {P:Program} {w0:World} {ρ:Yl} {H:AH} {w:World}
theorem byteL_sound {l:List AV} {m:List Value} {s:List Nat} (h:Xy ρ l m) (hb:byteL l = some s):m = s.map (fun n:Nat =>Value.int .u8 (n:Int))∧∀n ∈ s,n < 256:=by
 induction l generalizing m s with
 | nil =>cases h;simp only [byteL,Option.some.injEq] at hb;subst hb;simp
 | cons v l ih =>
  cases h with | cons hv hs =>
  unfold byteL at hb
  split at hb
  ·rename_i hh;cases hh
  ·rename_i n l' hh
   cases hh
   split at hb
   ·rename_i hn
    simp only [Option.map_eq_some_iff] at hb
    obtain⟨r,hr,rfl⟩:=hb
    cases hv
    obtain⟨rfl,h2⟩:=ih hs hr
    refine⟨rfl,?_⟩
    intro k hk
    rcases List.mem_cons.1 hk with rfl | hk
    ·simpa [Nat.blt_eq] using hn
    ·exact h2 k hk
   ·simp at hb
  ·simp at hb
theorem push_bytes (s:List Nat):∀b:ByteArray,(∀n ∈ s,n < 256)→X1 (s.foldl (fun r n =>r.push (UInt8.ofNat n)) b) = X1 b ++ s:=by
 induction s with
 | nil =>intro b _;simp
 | cons n s ih =>
  intro b h
  simp only [List.foldl_cons]
  rw [ih _ (fun k hk =>h k (by simp [hk]))]
  have:X1 (b.push (UInt8.ofNat n)) = X1 b ++ [n]:=by
   have:=h n (by simp)
   simp [X1,ByteArray.push]
   omega
  rw [this]
  simp
theorem loadU_sound (h:WR w0 ρ H w) {t:Tri AV} {ev:Operand→Value} {o:Oper} {v:AV} (hev:∀x ∈ o.op.operands,EvR ρ t ev x) (hv:WM P t o.op H = some v) :
  ∃x,VR ρ v x∧(execOp ev o).run P w = .ok (.value x) w:=by
 obtain⟨dst,op,type,pos,after,guard⟩:=o
 dsimp only at hev hv
 unfold WM at hv
 split at hv
 ·rename_i ty a
  unfold loadP at hv
  split at hv
  ·rename_i b off ha
   have ha:=hev a (by simp [Op.operands]) _ ha
   generalize hcv:ev a = cv at ha
   cases ha with | ptr hb =>
   obtain⟨x,hx,hr⟩:=loadVarU_sound h hb hv
   exact⟨x,hx,by simp [execOp,hcv,Instr.loadAt,Instr.sureAddr,hr]⟩
  ·simp at hv
 ·rename_i ty x i ok
  unfold lookupP at hv
  split at hv
  ·rename_i a b ha hb
   obtain⟨y,hy,hr⟩:=lookupU_sound h (hev x (by simp [Op.operands]) _ ha) (hev i (by simp [Op.operands]) _ hb) hv
   exact⟨y,hy,by simp [execOp,hr]⟩
  ·simp at hv
 ·rename_i s d x
  unfold convL at hv
  split at hv
  ·rename_i e b off len cap hs hd hx
   split at hv
   ·rename_i he
    split at hv
    ·rename_i hz
     obtain rfl:=Nat.eq_of_beq_eq_true hz
     simp only [Option.some.injEq] at hv
     subst hv
     have hx:=hev x (by simp [Op.operands]) _ hx
     generalize hcv:ev x = cv at hx
     have key:∀(a:Addr) (cap':Nat),∃y,VR ρ (.str []) y∧(convert s d (.slice (some a) 0 cap')).run P w = .ok y w:=by
      intro a cap'
      refine⟨.string ByteArray.empty,?_,?_⟩
      ·have:X1 ByteArray.empty = []:=rfl
       rw [← this];exact .str _
      ·have hst:=run_bytesToString (P:=P) w a 0 cap' [] (by simp [loadCells,loadCellsFrom])
       simp [run_convert_bytes_string w s d e _ _ _ (Zm hs) (Zm he) (Zm hd),hst]
     cases hx with
     | @sliceIs _ cc nn _ _ cap' hb _ =>obtain⟨y,hy,hr⟩:=key ⟨cc,off,none⟩ cap';exact⟨y,hy,by simp [execOp,hcv,hr]⟩
     | @sliceUp _ cc nn _ _ _ cap' hb _ _ =>obtain⟨y,hy,hr⟩:=key ⟨cc,off,none⟩ cap';exact⟨y,hy,by simp [execOp,hcv,hr]⟩
     | @sliceLost _ _ a cap' =>obtain⟨y,hy,hr⟩:=key a cap';exact⟨y,hy,by simp [execOp,hcv,hr]⟩
    split at hv
    rotate_left
    ·simp at hv
    rename_i c hc
    split at hv
    ·rename_i l hl
     simp only [Option.map_eq_some_iff] at hv
     obtain⟨bs,hbs,rfl⟩:=hv
     have hx:=hev x (by simp [Op.operands]) _ hx
     generalize hcv:ev x = cv at hx
     have key:∀(cb n cap':Nat),ρ b = some (cb,n)→∃y,VR ρ (.str bs) y∧(convert s d (.slice (some ⟨cb,off,none⟩) len cap')).run P w = .ok y w:=by
      intro cb n cap' hb
      obtain⟨hle,a,e',f,hh,hn,hcc⟩:=h.cells hb hc
      obtain⟨h1,h2,_⟩:=cell_of hcc hl
      obtain⟨h3,h4⟩:=byteL_sound h1 hbs
      have hlen:=h1.length
      have hld:=run_loadCut (P:=P) (n:=len) (off:=off) hh (by simp at hlen;omega)
      rw [h3] at hld
      have hmap:(bs.map (fun n:Nat =>Value.int .u8 (n:Int))).toArray = ((bs.map (fun n:Nat =>(n:Int))).map (Value.int .u8)).toArray:=by simp
      rw [hmap] at hld
      have hst:=run_bytesToString (P:=P) w ⟨cb,off,none⟩ len cap' (bs.map (fun n:Nat =>(n:Int))) hld
      refine⟨.string ((bs.map (fun n:Nat =>(n:Int))).foldl (fun r n =>r.push (UInt8.ofNat n.toNat)) ByteArray.empty),?_,?_⟩
      ·have:X1 ((bs.map (fun n:Nat =>(n:Int))).foldl (fun r n =>r.push (UInt8.ofNat n.toNat)) ByteArray.empty) = bs:=by
        rw [List.foldl_map]
        simp only [Int.toNat_natCast]
        rw [push_bytes bs _ h4]
        rfl
       conv =>lhs;rw [← this]
       exact .str _
      ·rw [run_convert_bytes_string w s d e _ _ _ (Zm hs) (Zm he) (Zm hd)]
       exact hst
     cases hx with
     | @sliceIs _ cc nn _ _ cap' hb _ =>obtain⟨y,hy,hr⟩:=key cc nn cap' hb;exact⟨y,hy,by simp [execOp,hcv,hr]⟩
     | @sliceUp _ cc nn _ _ _ cap' hb _ _ =>obtain⟨y,hy,hr⟩:=key cc nn cap' hb;exact⟨y,hy,by simp [execOp,hcv,hr]⟩
     | @sliceLost _ _ a cap' =>
      have h0:l = []:=by
       obtain⟨rfl,hlen⟩:=cut_eq hl
       exact List.length_eq_zero_iff.1 hlen
      subst h0
      simp only [byteL,Option.some.injEq] at hbs
      subst hbs
      refine⟨.string ByteArray.empty,?_,?_⟩
      ·have:X1 ByteArray.empty = []:=rfl
       rw [← this];exact .str _
      ·have hst:=run_bytesToString (P:=P) w a 0 cap' [] (by simp [loadCells,loadCellsFrom])
       simp [execOp,hcv,run_convert_bytes_string w s d e _ _ _ (Zm hs) (Zm he) (Zm hd),hst]
    ·simp at hv
   ·simp at hv
  ·rename_i e hs hd hx
   split at hv
   ·rename_i he
    simp only [Option.some.injEq] at hv
    subst hv
    have hx:=hev x (by simp [Op.operands]) _ hx
    obtain⟨y,hy,hr⟩:=convU_sound (P:=P) (s:=s) (d:=d) (v:=.str []) hx (by simp only [Y0,hs,hd,he])
    exact⟨y,hy,by simp [execOp,hr w]⟩
   ·simp at hv
  ·simp at hv
 ·rename_i c
  obtain⟨callee,args,ts⟩:=c
  unfold callL at hv
  dsimp only at hv
  split at hv
  ·unfold lenL at hv
   split at hv
   ·rename_i x ty hax hts
    split at hv
    ·rename_i k e b hu hx
     split at hv
     ·rename_i l ro hg
      simp only [Option.some.injEq] at hv
      subst hv
      have hargs:args = #[x]:=by obtain⟨l⟩:=args;simp at hax;simp [hax]
      have htss:ts = #[ty]:=by obtain⟨l⟩:=ts;simp at hts;simp [hts]
      subst hargs
      subst htss
      have hx:=hev x (by simp [Op.operands,Call.operands]) _ hx
      generalize hcv:ev x = cv at hx
      cases hx with | map hb =>
      obtain⟨o,ho,hB⟩:=h.blk _ _ _ _ hg hb
      cases hB with | map hp he =>
      rename_i l' es clock
      have hlen:l.length = es.size:=by rw [← hp.length_eq,he.length];simp
      refine⟨_,.int _ _,?_⟩
      simp only [execOp,resolve,invoke]
      simp [builtin,Builtin.len_,hcv,run_underlying (Zm hu),WZ ho rfl,goInt,hlen]
     ·simp at hv
    ·simp at hv
   ·simp at hv
  ·simp at hv
 ·simp at hv
end
end Go.Ev
end
section
namespace Go.Ev
open Go.RowKit
section
variable {P:Program} {w0:World} {ρ:Yl} {H:AH} {w:World}
/-! ### how worlds turn -/
/-- A block gets its place. -/
def Yl.at (ρ:Yl) (b c n:Nat):Yl:=fun b' =>if b' = b then some (c,n) else ρ b'
theorem YK (ρ:Yl) (b c n:Nat):ρ.at b c n b = some (c,n):=by simp [Yl.at]
theorem Yl.at_ext {ρ:Yl} {b:Nat} (h:ρ b = none) (c n:Nat):Xo ρ (ρ.at b c n):=by
 intro b' x hx
 unfold Yl.at
 split
 ·rename_i e;subst e;rw [h] at hx;cases hx
 ·exact hx
theorem Wa {H H':AH} {B:AB} (h:H.new B = some H'):True∧B.one = true∧H' = ⟨H.t.put H.next (some B),H.next + 1⟩:=by
 unfold AH.new at h
 split at h
 ·rename_i hb
  simp only [Option.some.injEq] at h
  exact⟨trivial,hb,h.symm⟩
 ·simp at h
theorem heap_alloc_old (w:World) (o:Obj) {c:Nat} {x:Obj} (h:w.heap[c]? = some x):(w.alloc o).heap[c]? = some x:=by
 have hlt:=(Array.getElem?_eq_some_iff.1 h).1
 show (w.heap.push o)[c]? = _
 rw [Array.getElem?_push,if_neg (by omega)]
 exact h
theorem heap_alloc_new (w:World) (o:Obj):(w.alloc o).heap[w.heap.size]? = some o:=by
 show (w.heap.push o)[w.heap.size]? = _
 simp
theorem WR.lt (h:WR w0 ρ H w) {b:Nat} {B:AB} {c n:Nat} (hg:H.t.get b = some B) (hb:ρ b = some (c,n)):c < w.heap.size:=by
 obtain⟨o,ho,_⟩:=h.blk _ _ _ _ hg hb
 exact (Array.getElem?_eq_some_iff.1 ho).1
/-- A block that is made under the next name, and has its place at once. -/
theorem WR.alloc (h:WR w0 ρ H w) {B:AB} {H':AH} {obj:Obj} {n:Nat} (hn:H.new B = some H') (hB:BR ρ n B obj) :
  WR w0 (ρ.at H.next w.heap.size n) H' (w.alloc obj)∧Xz ρ H (ρ.at H.next w.heap.size n) H':=by
 obtain⟨hlid,hone,rfl⟩:=Wa hn
 have hnone:ρ H.next = none:=by
  cases hx:ρ H.next with
  | none =>rfl
  | some x =>exact absurd (h.dom _ _ hx) (by omega)
 have hext:Xo ρ (ρ.at H.next w.heap.size n):=Yl.at_ext hnone _ _
 have hget:∀b,(H.t.put H.next (some B)).get b = if b = H.next then some B else H.t.get b:=fun b =>Tri.get_put hlid b
 refine⟨⟨?_,?_,?_,?_,?_,?_,?_⟩,⟨hext,Nat.le_succ _,?_⟩⟩
 ·intro b B' c m hg hb
  rw [hget] at hg
  unfold Yl.at at hb
  by_cases e:b = H.next
  ·rw [if_pos e] at hg hb
   simp only [Option.some.injEq,Prod.mk.injEq] at hg hb
   obtain⟨rfl,rfl⟩:=hb
   subst hg
   exact⟨obj,heap_alloc_new w obj,hB.ext hext⟩
  ·rw [if_neg e] at hg hb
   obtain⟨o,ho,hBB⟩:=h.blk _ _ _ _ hg hb
   exact⟨o,heap_alloc_old w obj ho,hBB.ext hext⟩
 ·intro b b' B1 B2 c m m' hg hg' hb hb'
  rw [hget] at hg hg'
  unfold Yl.at at hb hb'
  by_cases e:b = H.next
  ·by_cases e':b' = H.next
   ·rw [e,e']
   ·rw [if_pos e] at hb
    rw [if_neg e'] at hg' hb'
    simp only [Option.some.injEq,Prod.mk.injEq] at hb
    have:=h.lt hg' hb'
    omega
  ·rw [if_neg e] at hg hb
   by_cases e':b' = H.next
   ·rw [if_pos e'] at hb'
    simp only [Option.some.injEq,Prod.mk.injEq] at hb'
    have:=h.lt hg hb
    omega
   ·rw [if_neg e'] at hg' hb'
    exact h.inj _ _ _ _ _ _ _ hg hg' hb hb'
 ·intro b B' c m hg hb hro
  rw [hget] at hg
  unfold Yl.at at hb
  by_cases e:b = H.next
  ·rw [if_pos e] at hb
   simp only [Option.some.injEq,Prod.mk.injEq] at hb
   have:=h.below.size
   omega
  ·rw [if_neg e] at hg hb
   exact h.own _ _ _ _ hg hb hro
 ·intro b x hb
  unfold Yl.at at hb
  show b < H.next + 1
  by_cases e:b = H.next
  ·omega
  ·rw [if_neg e] at hb
   have:=h.dom _ _ hb
   omega
 ·intro b B' hg
  rw [hget] at hg
  show b < H.next + 1
  by_cases e:b = H.next
  ·omega
  ·rw [if_neg e] at hg
   have:=h.bnd _ _ hg
   omega
 ·trivial
 ·exact h.below.alloc h.below.size obj
 ·intro b hb hnb
  refine⟨?_,?_⟩
  ·unfold Yl.at;rw [if_neg (by omega)];exact hnb
  ·show (H.t.put H.next (some B)).get b = _
   rw [hget,if_neg (by omega)]
/-- A block that is made under the next name, and has no place yet. -/
theorem WR.plan (h:WR w0 ρ H w) {B:AB} {H':AH} (hn:H.new B = some H'):WR w0 ρ H' w∧Xz ρ H ρ H'∧ρ H.next = none∧H'.t.get H.next = some B∧H'.next = H.next + 1:=by
 obtain⟨hlid,hone,rfl⟩:=Wa hn
 have hnone:ρ H.next = none:=by
  cases hx:ρ H.next with
  | none =>rfl
  | some x =>exact absurd (h.dom _ _ hx) (by omega)
 have hget:∀b,(H.t.put H.next (some B)).get b = if b = H.next then some B else H.t.get b:=fun b =>Tri.get_put hlid b
 have old:∀b B' x,(H.t.put H.next (some B)).get b = some B'→ρ b = some x→H.t.get b = some B':=by
  intro b B' x hg hb
  rw [hget] at hg
  by_cases e:b = H.next
  ·subst e;rw [hnone] at hb;cases hb
  ·rwa [if_neg e] at hg
 refine⟨⟨?_,?_,?_,?_,?_,?_,h.below⟩,⟨Xo.refl ρ,Nat.le_succ _,?_⟩,hnone,?_,rfl⟩
 ·exact fun b B' c m hg hb =>h.blk _ _ _ _ (old _ _ _ hg hb) hb
 ·exact fun b b' B1 B2 c m m' hg hg' hb hb' =>h.inj _ _ _ _ _ _ _ (old _ _ _ hg hb) (old _ _ _ hg' hb') hb hb'
 ·exact fun b B' c m hg hb hro =>h.own _ _ _ _ (old _ _ _ hg hb) hb hro
 ·exact fun b x hb =>Nat.lt_succ_of_lt (h.dom _ _ hb)
 ·intro b B' hg
  rw [hget] at hg
  show b < H.next + 1
  by_cases e:b = H.next
  ·omega
  ·rw [if_neg e] at hg;have:=h.bnd _ _ hg;omega
 ·trivial
 ·intro b hb hnb
  refine⟨hnb,?_⟩
  show (H.t.put H.next (some B)).get b = _
  rw [hget,if_neg (by omega)]
 ·show (H.t.put H.next (some B)).get H.next = _
  rw [hget,if_pos rfl]
/-- A planned block gets its place. -/
theorem WR.land (h:WR w0 ρ H w) {b:Nat} {B:AB} {obj:Obj} {n:Nat} (hg:H.t.get b = some B) (hnone:ρ b = none) (hB:BR ρ n B obj) :
  WR w0 (ρ.at b w.heap.size n) H (w.alloc obj)∧Xo ρ (ρ.at b w.heap.size n)∧∀b',b' ≠ b→(ρ.at b w.heap.size n) b' = ρ b':=by
 have hext:Xo ρ (ρ.at b w.heap.size n):=Yl.at_ext hnone _ _
 refine⟨⟨?_,?_,?_,?_,h.bnd,h.lid,h.below.alloc h.below.size obj⟩,hext,fun b' hb' =>by unfold Yl.at;rw [if_neg hb']⟩
 ·intro b1 B' c m hg1 hb1
  unfold Yl.at at hb1
  by_cases e:b1 = b
  ·rw [if_pos e] at hb1
   subst e
   rw [hg] at hg1
   simp only [Option.some.injEq,Prod.mk.injEq] at hb1 hg1
   obtain⟨rfl,rfl⟩:=hb1
   subst hg1
   exact⟨obj,heap_alloc_new w obj,hB.ext hext⟩
  ·rw [if_neg e] at hb1
   obtain⟨o,ho,hBB⟩:=h.blk _ _ _ _ hg1 hb1
   exact⟨o,heap_alloc_old w obj ho,hBB.ext hext⟩
 ·intro b1 b2 B1 B2 c m m' hg1 hg2 hb1 hb2
  unfold Yl.at at hb1 hb2
  by_cases e:b1 = b
  ·by_cases e':b2 = b
   ·rw [e,e']
   ·rw [if_pos e] at hb1
    rw [if_neg e'] at hb2
    simp only [Option.some.injEq,Prod.mk.injEq] at hb1
    have:=h.lt hg2 hb2
    omega
  ·rw [if_neg e] at hb1
   by_cases e':b2 = b
   ·rw [if_pos e'] at hb2
    simp only [Option.some.injEq,Prod.mk.injEq] at hb2
    have:=h.lt hg1 hb1
    omega
   ·rw [if_neg e'] at hb2
    exact h.inj _ _ _ _ _ _ _ hg1 hg2 hb1 hb2
 ·intro b1 B' c m hg1 hb1 hro
  unfold Yl.at at hb1
  by_cases e:b1 = b
  ·rw [if_pos e] at hb1
   simp only [Option.some.injEq,Prod.mk.injEq] at hb1
   have:=h.below.size
   omega
  ·rw [if_neg e] at hb1
   exact h.own _ _ _ _ hg1 hb1 hro
 ·intro b1 x hb1
  unfold Yl.at at hb1
  by_cases e:b1 = b
  ·rw [e];exact h.bnd _ _ hg
  ·rw [if_neg e] at hb1;exact h.dom _ _ hb1
/-- A block of the run's own turns. -/
theorem WR.turn (h:WR w0 ρ H w) {b c n:Nat} {B B':AB} {o':Obj} {w':World} (hg:H.t.get b = some B) (hb:ρ b = some (c,n)) (hro:B.ro = false)
  (hB:BR ρ n B' o') (hnew:w'.heap[c]? = some o') (hold:∀c',c' ≠ c→w'.heap[c']? = w.heap[c']?) (hsz:w'.heap.size = w.heap.size)
  (hw:w'.os = w.os∧w'.tape = w.tape∧w'.output = w.output):WR w0 ρ (H.set b B') w'∧Xz ρ H ρ (H.set b B'):=by
 have hlid:True:=trivial
 have hget:∀b',(H.set b B').t.get b' = if b' = b then some B' else H.t.get b':=fun b' =>Tri.get_put hlid b'
 refine⟨⟨?_,?_,?_,h.dom,?_,h.lid,?_⟩,⟨Xo.refl ρ,Nat.le_refl _,?_⟩⟩
 ·intro b1 B1 c1 m hg1 hb1
  rw [hget] at hg1
  by_cases e:b1 = b
  ·subst e
   rw [if_pos rfl] at hg1
   rw [hb] at hb1
   simp only [Option.some.injEq,Prod.mk.injEq] at hg1 hb1
   obtain⟨rfl,rfl⟩:=hb1
   subst hg1
   exact⟨o',hnew,hB⟩
  ·rw [if_neg e] at hg1
   obtain⟨o,ho,hBB⟩:=h.blk _ _ _ _ hg1 hb1
   have hne:c1 ≠ c:=by
    intro e'
    subst e'
    exact e (h.inj _ _ _ _ _ _ _ hg1 hg hb1 hb)
   exact⟨o,by rw [hold _ hne];exact ho,hBB⟩
 ·intro b1 b2 B1 B2 c1 m m' hg1 hg2 hb1 hb2
  have old:∀b1 B1,(H.set b B').t.get b1 = some B1→∃B2,H.t.get b1 = some B2:=by
   intro b1 B1 hg1
   rw [hget] at hg1
   by_cases e:b1 = b
   ·exact⟨B,e ▸ hg⟩
   ·rw [if_neg e] at hg1;exact⟨_,hg1⟩
  obtain⟨_,h1⟩:=old _ _ hg1
  obtain⟨_,h2⟩:=old _ _ hg2
  exact h.inj _ _ _ _ _ _ _ h1 h2 hb1 hb2
 ·intro b1 B1 c1 m hg1 hb1 hro1
  rw [hget] at hg1
  by_cases e:b1 = b
  ·subst e
   exact h.own _ _ _ _ hg hb1 hro
  ·rw [if_neg e] at hg1
   exact h.own _ _ _ _ hg1 hb1 hro1
 ·intro b1 B1 hg1
  rw [hget] at hg1
  by_cases e:b1 = b
  ·rw [e];exact h.bnd _ _ hg
  ·rw [if_neg e] at hg1;exact h.bnd _ _ hg1
 ·have hc:=h.own _ _ _ _ hg hb hro
  exact⟨hw.1.trans h.below.os,hw.2.1.trans h.below.tape,hw.2.2.trans h.below.output,by rw [hsz];exact h.below.size,fun k hk =>by rw [hold _ (by omega)];exact h.below.block k hk⟩
 ·intro b1 hb1 hnb
  refine⟨hnb,?_⟩
  rw [hget,if_neg]
  intro e
  subst e
  rw [hb] at hnb
  cases hnb
/-- A block is forgotten. -/
theorem WR.forget (h:WR w0 ρ H w) (b:Nat) (hlid:True):WR w0 ρ { H with t:=H.t.put b none } w:=by
 have hget:∀b',(H.t.put b none).get b' = if b' = b then none else H.t.get b':=fun b' =>Tri.get_put hlid b'
 have old:∀b1 B1,(H.t.put b none).get b1 = some B1→H.t.get b1 = some B1:=by
  intro b1 B1 hg1
  rw [hget] at hg1
  by_cases e:b1 = b
  ·rw [if_pos e] at hg1;cases hg1
  ·rwa [if_neg e] at hg1
 exact⟨fun b B c n hg hb =>h.blk _ _ _ _ (old _ _ hg) hb,fun b b' B B' c n n' hg hg' hb hb' =>h.inj _ _ _ _ _ _ _ (old _ _ hg) (old _ _ hg') hb hb',
  fun b B c n hg hb hro =>h.own _ _ _ _ (old _ _ hg) hb hro,h.dom,fun b B hg =>h.bnd _ _ (old _ _ hg),h.lid,h.below⟩
/-! ### operations that make a block -/
theorem BR.fresh {e:TypeId} {l:List AV} {a:Array Value} (h:Xy ρ l a.toList) (h1:l.all Yn = true) (fz:Nat) (mk ro:Bool):BR ρ a.size (.cells e l fz mk ro) (.cells a e (0,0)):=by
 refine .cells rfl (by have:=h.length;simp at this;omega) (fun i v hv _ =>?_) fun _ =>⟨by omega,fun i hi hi' =>by omega⟩
 obtain⟨x,hx,hr⟩:=h.get hv
 exact⟨x,by simpa using hx,hr,List.all_eq_true.1 h1 _ (List.mem_of_getElem? hv)⟩
theorem flat_get {α:Type} (z:List α) (k:Nat) (hk:z.length = k) (h0:0 < k):∀(n i:Nat),i < n * k→(List.replicate n z).flatten[i]? = z[i % k]?
 | 0,i,h =>by simp at h
 | n + 1,i,h =>by
  rw [List.replicate_succ,List.flatten_cons]
  rcases Nat.lt_or_ge i k with hi | hi
  ·rw [List.getElem?_append_left (by omega),Nat.mod_eq_of_lt hi]
  ·rw [List.getElem?_append_right (by omega),hk,flat_get z k hk h0 n (i - k) (by rw [Nat.add_mul] at h;omega)]
   rw [← Nat.mod_eq_sub_mod hi]
theorem rep_sound {z:List AV} {zx:Array Value} (hz:Xy ρ z zx.toList) (h0:0 < zx.size) (n:Nat) :
  Xy ρ (List.replicate n z).flatten ((Array.range (n * zx.size)).map fun i =>zx[i % zx.size]!).toList:=by
 have hlen:=hz.length
 simp only [Array.length_toList] at hlen
 refine Xy.of_get (by simp [hlen]) fun i v x hv hx =>?_
 have hi:i < n * zx.size:=by
  have:=(List.getElem?_eq_some_iff.1 hv).1
  simpa [hlen] using this
 rw [flat_get z zx.size hlen h0 n i hi] at hv
 obtain⟨y,hy,hr⟩:=hz.get hv
 have hm:i % zx.size < zx.size:=Nat.mod_lt _ h0
 simp [hi] at hx
 rw [Array.getElem?_toList,Array.getElem?_eq_getElem hm] at hy
 simp only [Option.some.injEq] at hy
 have hx':zx[i % zx.size] = x:=by
  rw [← hx]
  simp [hm]
 rw [← hx',hy]
 exact hr
theorem wrap_nat (n:Nat) (h:n < 9223372036854775808):IntKind.i64.wrap (n:Int) = n:=by
 have hm:(n:Int) % (2 ^ 64:Int) = n:=Int.emod_eq_of_lt (by omega) (by omega)
 simp only [IntKind.wrap,IntKind.bits,IntKind.signed,Bool.true_and,hm]
 rw [if_neg]
 simp only [ge_iff_le,decide_eq_true_eq]
 omega
/-- A new block, and the value that leads to it. -/
def Makes (P:Program) (ρ:Yl) (B:AB) (mk:Nat→AV) (s:Sem Next):Prop :=
 ∃(obj:Obj) (n:Nat) (val:Nat→Value),BR ρ n B obj∧(∀(ρ':Yl) (b c:Nat),Xo ρ ρ'→ρ' b = some (c,n)→VR ρ' (mk b) (val c)) ∧
  ∀w,s.run P w = .ok (.value (val w.heap.size)) (w.alloc obj)
theorem newU_sound {t:Tri AV} {ev:Operand→Value} {o:Oper} {B:AB} {mk:Nat→AV} (hev:∀x ∈ o.op.operands,EvR ρ t ev x) (hv:newU P t o.op = some (B,mk)) (hone:B.one = true) :
  Makes P ρ B mk (execOp ev o):=by
 obtain⟨dst,op,type,pos,after,guard⟩:=o
 dsimp only at hev hv
 unfold newU at hv
 split at hv
 ·rename_i e
  unfold allocN at hv
  split at hv
  ·rename_i z hz
   simp only [Option.some.injEq,Prod.mk.injEq] at hv
   obtain⟨rfl,rfl⟩:=hv
   obtain⟨zx,hzx,hzr⟩:=W2 (ρ:=ρ) hz
   refine⟨.cells zx.cells e (0,0),zx.cells.size,fun c =>.pointer (some ⟨c,0,none⟩),BR.fresh hzx.cells hone _ _ _,fun ρ' b c _ hb =>.ptr hb,fun w =>?_⟩
   simp [execOp,Instr.alloc,hzr,newVar,newRow]
  ·simp at hv
 ·rename_i e x
  unfold boxN at hv
  split at hv
  ·rename_i v hx
   simp only [Option.some.injEq,Prod.mk.injEq] at hv
   obtain⟨rfl,rfl⟩:=hv
   have hx:=hev x (by simp [Op.operands]) _ hx
   refine⟨.cells (ev x).cells e (0,0),(ev x).cells.size,fun c =>.pointer (some ⟨c,0,none⟩),BR.fresh hx.cells hone _ _ _,fun ρ' b c _ hb =>.ptr hb,fun w =>?_⟩
   simp [execOp,Instr.box,newVar,newRow]
  ·simp at hv
 ·rename_i ty len parts
  unfold Yk at hv
  split at hv
  ·rename_i e ps hu hps
   split at hv
   ·rename_i n z hsz hz
    split at hv
    ·rename_i hb
     rw [Bool.and_eq_true] at hb
     have hle:=Nat.le_of_ble_eq_true hb.1
     have hzl:=Nat.eq_of_beq_eq_true hb.2
     split at hv
     ·rename_i c hc
      simp only [Option.some.injEq,Prod.mk.injEq] at hv
      obtain⟨rfl,rfl⟩:=hv
      obtain⟨zx,hzx,hzr⟩:=W2 (ρ:=ρ) hz
      have hzs:zx.cells.size = n + 1:=by have:=hzx.cells.length;simp at this;omega
      have hpr:=partsU_sound (ρ:=ρ) (ev:=ev) (fun p hp =>hev p.2 (by
       simp only [Op.operands,List.mem_toArray,List.mem_map]
       exact⟨p,hp,rfl⟩)) hps
      have hrep:=rep_sound hzx.cells (by omega) len
      rw [hzs] at hrep
      obtain⟨r,hr,hrr⟩:=fillU_sound (place':=fun i =>some (i * (n + 1),n + 1)) (fun i x h =>h) hpr hrep hc
      refine⟨.cells r e (0,0),r.size,fun c =>.slice (some ⟨c,0,none⟩) len len,BR.fresh hrr hone _ _ _,fun ρ' b c _ hb =>.sliceIs hb (Nat.le_refl _),fun w =>?_⟩
      have hle':¬ (len * n.succ > 2 ^ 24):=by
       have:len * n.succ = len * (n + 1):=rfl
       omega
      simp only [execOp,Instr.buildSlice,Sem.run_bind,run_underlying (Zm hu),Result.andThen_ok,YM hsz]
      rw [if_neg hle']
      have fin:∀zero:Array Value,((Array.range (len * n.succ)).map fun i =>zero[i % zero.size]!) = ((Array.range (len * (n + 1))).map fun i =>zx.cells[i % (n + 1)]!) →
        (match Instr.fill (fun i =>some (i * n.succ,n.succ)) ((Array.range (len * n.succ)).map fun i =>zero[i % zero.size]!) (parts.map fun (i,x) =>(i,ev x)).toList with
         | some cells =>do
          let a ← newRow e cells
          Pure.pure (Value.slice (some a) len len)
         | x => stuck "buildSlice: a part of the wrong size" : Sem Value).run P w = .ok (.slice (some ⟨w.heap.size, 0, none⟩) len len) (w.alloc (.cells r e)) := by
       intro zero hz0
       rw [hz0,Array.toList_map]
       have:Instr.fill (fun i =>some (i * n.succ,n.succ)) ((Array.range (len * (n + 1))).map fun i =>zx.cells[i % (n + 1)]!) (parts.toList.map fun (i,x) =>(i,ev x)) = some r:=hr
       rw [this]
       simp [newRow]
      by_cases h0:len * n.succ = 0
      ·rw [if_pos h0]
       simp only [Sem.run_bind,Sem.run_pure,Result.andThen_ok]
       have:=fin #[] (by
        have e1:Array.range (len * n.succ) = #[]:=by rw [h0];rfl
        rw [e1];simp)
       exact (congrArg (fun r:Result Value =>r.andThen fun a w' =>.ok (Next.value a) w') this).trans rfl
      ·rw [if_neg h0]
       simp only [Sem.run_bind,Sem.run_pure,Result.andThen_ok,hzr]
       have:=fin zx.cells (by rw [hzs])
       exact (congrArg (fun r:Result Value =>r.andThen fun a w' =>.ok (Next.value a) w') this).trans rfl
     ·simp at hv
    ·simp at hv
   ·simp at hv
  ·simp at hv
 ·simp only [Option.some.injEq,Prod.mk.injEq] at hv
  obtain⟨rfl,rfl⟩:=hv
  refine⟨.map #[] 0,0,fun c =>.map (some c),.map .nil .nil,fun ρ' b c _ hb =>.map hb,fun w =>?_⟩
  simp [execOp,Instr.makeMap]
 ·rename_i ty l c
  unfold makeSliceN at hv
  split at hv
  ·rename_i e l' c' hu hl hc
   split at hv
   ·rename_i i z hi hz
    split at hv
    ·rename_i hb
     simp only [Bool.and_eq_true,Bool.not_eq_true'] at hb
     obtain⟨⟨⟨⟨h1,h2⟩,h3⟩,h4⟩,h5⟩:=hb
     have h1:=Nat.le_of_ble_eq_true h1
     have h2:=Nat.le_of_ble_eq_true h2
     have h3:=Nat.le_of_ble_eq_true h3
     have h4:=Nat.eq_of_beq_eq_true h4
     have h5:=Nat.ne_of_beq_eq_false h5
     simp only [Option.some.injEq,Prod.mk.injEq] at hv
     obtain⟨rfl,rfl⟩:=hv
     obtain⟨zx,hzx,hzr⟩:=W2 (ρ:=ρ) hz
     have hzs:zx.cells.size = i.size:=by have:=hzx.cells.length;simp at this;omega
     have hrep:=rep_sound hzx.cells (by omega) c'
     have hl:=hev l (by simp [Op.operands]) _ hl
     have hc:=hev c (by simp [Op.operands]) _ hc
     generalize hlv:ev l = lv at hl
     generalize hcv:ev c = cv at hc
     cases hl
     cases hc
     have hi:=Xm hi
     refine⟨.cells ((Array.range (c' * i.size)).map fun j =>zx.cells[j % i.size]!) e (0,0),_,fun b =>.slice (some ⟨b,0,none⟩) l' c',BR.fresh (by rw [hzs] at hrep;exact hrep) hone _ _ _,fun ρ' b c _ hb =>.sliceIs hb h1,fun w =>?_⟩
     have hwl:IntKind.i64.wrap (l':Int) = l':=wrap_nat l' (by omega)
     have hwc:IntKind.i64.wrap (c':Int) = c':=wrap_nat c' (by omega)
     have hbig:(i.bytes:Int) * c'≤10000000000000:=by
      have:i.bytes * c'≤100000 * 100000000:=Nat.mul_le_mul h3 h2
      have:((i.bytes * c':Nat):Int)≤10000000000000:=by omega
      simpa using this
     have hcond:((decide ((c':Int) < 0) || decide ((i.bytes:Int) * c' > 2 ^ 48)) = true ∨ (l':Int) < 0) ∨ (l':Int) > c'→False:=by
      rintro ((hh | hh) | hh)
      ·simp at hh;omega
      ·omega
      ·omega
     have hrun:(Instr.makeSlice ty (.int .i64 l') (.int .i64 c')).run P w = .ok (.slice (some ⟨w.heap.size,0,none⟩) l' c') (w.alloc (.cells ((Array.range (c' * i.size)).map fun j =>zx.cells[j % i.size]!) e)):=by
      have hti:∀w,(typeInfo e).run P w = .ok i w:=fun w =>by simp [typeInfo,hi]
      have hsi:∀w,(sizeOf e).run P w = .ok i.size w:=fun w =>by simp [sizeOf,typeInfo,hi]
      simp only [Instr.makeSlice,Sem.run_bind,run_underlying (Zm hu),Result.andThen_ok,asInt,asIntOf,Sem.run_pure,hti,hwl,hwc]
      rw [if_neg (by simpa only [Bool.or_eq_true,decide_eq_true_eq] using hcond)]
      simp only [Sem.run_bind,run_askRoom,Result.andThen_ok,hsi,Int.toNat_natCast]
      by_cases h0:c' * i.size = 0
      ·rw [if_pos h0]
       simp only [Sem.run_bind,Sem.run_pure,Result.andThen_ok]
       have e1:Array.range (c' * i.size) = #[]:=by rw [h0];rfl
       simp [newRow,e1]
      ·rw [if_neg h0]
       simp only [Sem.run_bind,Sem.run_pure,Result.andThen_ok,hzr,hzs]
       simp [newRow]
     simp only [execOp,hlv,hcv,Sem.run_bind]
     rw [show ((Int.ofNat l':Int)) = (l':Int) from rfl,show ((Int.ofNat c':Int)) = (c':Int) from rfl,hrun]
     rfl
    ·simp at hv
   ·simp at hv
  ·simp at hv
 ·rename_i ty x
  unfold rangeN at hv
  split at hv
  ·rename_i s hu hx
   simp only [Option.some.injEq,Prod.mk.injEq] at hv
   obtain⟨rfl,rfl⟩:=hv
   have hx:=hev x (by simp [Op.operands]) _ hx
   generalize hcv:ev x = cv at hx
   cases hx with | str s =>
   refine⟨.stringIter s 0,0,fun c =>.pointer (some ⟨c,0,none⟩),.siter s 0,fun ρ' b c _ hb =>.ptr hb,fun w =>?_⟩
   simp [execOp,Instr.range,hcv,run_underlying (Zm hu)]
  ·simp at hv
 ·simp at hv
end
end Go.Ev
end