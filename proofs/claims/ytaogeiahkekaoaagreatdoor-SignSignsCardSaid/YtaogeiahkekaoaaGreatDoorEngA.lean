/-
  A CALCULATOR OVER THE MODEL: part 1 of 3. It holds for every program; its own names only.
-/
import Derived.Calls
import Derived.MapKept
import Derived.Laws.Rows
import Derived.Laws.IdiomCopy
import Derived.Laws.AppendOwn
import Derived.Laws.StructEq
import Derived.ChangeKeysEq
set_option linter.unusedVariables false
set_option linter.unusedSimpArgs false
namespace Go.Eng
inductive Lay where
 |one
 |unit
 |pair (a b:Lay)
 |arr (n:Nat) (l:Lay)
 deriving DecidableEq,Inhabited
def Lay.size:Lay->Nat
 |.one=>1
 |.unit=>0
 |.pair a b=>a.size+b.size
 |.arr n l=>n*l.size
def locL:Lay->List Nat->Option (Nat×Lay)
 |l,[]=>some (0,l)
 |l,i::p=>match l with
  |.pair a b=>(match i with
   |0=>locL a p
   |i+1=>match locL b (i::p) with
    |some (o,l)=>some (a.size+o,l)
    |none=>none)
  |.arr n l=>if i<n then (match locL l p with
    |some (o,l')=>some (i*l.size+o,l')
    |none=>none) else none
  |_=>none
termination_by structural x=>x
inductive DV where
 |sc (v:Value)
 |bl (b:Bool)
 |str (l:List UInt8)
 |ints (k:IntKind) (n:Nat) (l:List Int)
 |nil
 |cons (d ds:DV)
 |fam (n:Nat) (l:Lay) (f:Nat->DV)
 |roI (k:IntKind) (l:List Int)
 |ro (l:Lay) (n:Nat) (f:Nat->DV)
 deriving Inhabited
inductive AV where
 |any
 |dv (d:DV)
 |cons (x xs:AV)
 |ptr (b:Nat) (p:List Nat) (l:Lay)
 |rp (d:DV)
 |sl (b:Nat) (p:List Nat) (l:Lay) (off:Nat) (len:Nat)
 |fn (f:FuncId) (caps:List AV)
 |tup (xs:List AV)
 |ifc (t:TypeId) (x:AV)
 |mp (b:Nat)
 |stamp (b:Nat)
 |yld (b:Nat)
 |vs (b off len:Nat)
 |slc (b off len cap:Nat)
 |emp
 |nq (neg:Bool) (n:Nat)
 deriving Inhabited
inductive KF where
 |int (k:IntKind)
 |str
 |ints (k:IntKind) (n:Nat)
 deriving Inhabited
inductive LSt where
 |ready
 |busy
 |done (c:Code)
 deriving Inhabited
def lpRec (L:Loop):LSt->Loop
 |.ready=>{ L with state := .ready,pending:=none }
 |.busy=>{ L with state := .busy,pending:=none }
 |.done c=>{ L with state := .done,pending:=some c }
inductive Blk where
 |dead
 |var (x:AV)
 |rowI (k:IntKind) (l:List Int)
 |row (l:Lay) (n:Nat) (f:Nat->DV)
 |frzI (k:IntKind) (l:List Int)
 |frz (l:Lay) (n:Nat) (f:Nat->DV)
 |mp (f:KF) (es:List (DV×DV))
 |mpn (f:KF) (es:List (DV×DV)) (k:DV) (c:Nat)
 |lp (L:Loop) (s:LSt)
 deriving Inhabited
def Lay.isAgg:Lay->Bool
 |.one=>false
 |_=>true
def DV.lay:DV->Lay
 |.ints _ n _ => .arr n .one
 |.nil => .unit
 |.cons d ds => .pair d.lay ds.lay
 |.fam n l _ => .arr n l
 |_ => .one
def AV.lay:AV->Lay
 |.dv d=>d.lay
 |.cons x xs => .pair x.lay xs.lay
 |_ => .one
def vecLay:Nat->Lay
 |0 => .unit
 |n+1 => .pair .one (vecLay n)
def vecOf:List AV->AV
 |[] => .dv .nil
 |x::r => .cons x (vecOf r)
def AV.isAgg (x:AV):Bool:=x.lay.isAgg
abbrev AV.int (k:IntKind) (x:Int):AV := .dv (.sc (.int k x))
abbrev AV.bl (b:Bool):AV := .dv (.bl b)
def DV.part:DV->Nat->DV
 |.cons d ds,i=>(match i with
  |0=>d
  |i+1=>ds.part i)
 |.ints k _ l,i => .sc (.int k (l.getD i 0))
 |.fam _ _ f,i=>f i
 |_,_ => .nil
def AV.part:AV->Nat->AV
 |.cons x xs,i=>(match i with
  |0=>x
  |i+1=>xs.part i)
 |.dv d,i => .dv (d.part i)
 |_,_ => .any
def AV.at:AV->List Nat->AV
 |x,[]=>x
 |x,i::p=>(x.part i).at p
def DV.at:DV->List Nat->DV
 |x,[]=>x
 |x,i::p=>(x.part i).at p
def kindEq:IntKind->IntKind->Bool
 |.i8,k=>(match k with | .i8=>true|_=>false)
 |.i16,k=>(match k with | .i16=>true|_=>false)
 |.i32,k=>(match k with | .i32=>true|_=>false)
 |.i64,k=>(match k with | .i64=>true|_=>false)
 |.u8,k=>(match k with | .u8=>true|_=>false)
 |.u16,k=>(match k with | .u16=>true|_=>false)
 |.u32,k=>(match k with | .u32=>true|_=>false)
 |.u64,k=>(match k with | .u64=>true|_=>false)
theorem kindEq_eq {a b:IntKind} (h:kindEq a b=true):a=b:=by cases a<;>cases b<;>first|rfl|cases h
def mkCons:AV->AV->AV
 |.dv d,.dv ds => .dv (.cons d ds)
 |x,xs => .cons x xs
def DV.setA:DV->List Nat->AV->AV
 |_,[],y=>y
 |d,i::p,y=>match d with
  |.cons d ds=>(match i with
   |0=>mkCons (d.setA p y) (.dv ds)
   |i+1=>mkCons (.dv d) (ds.setA (i::p) y))
  |.ints k n l=>(match p,y with
   |[],.dv (.sc (.int k' x))=>(match kindEq k k' with|true => .dv (.ints k n (l.set i x))|false => .any)
   |_,_ => .any)
  |.fam n l f=>(match (f i).setA p y with
   |.dv d=>(match decide (d.lay=l) with
    |true => .dv (.fam n l fun j=>if j=i then d else f j)
    |false => .any)
   |_ => .any)
  |_ => .any
termination_by structural x=>x
def AV.setP:AV->List Nat->AV->AV
 |_,[],y=>y
 |x,i::p,y=>match x with
  |.dv d=>d.setA (i::p) y
  |.cons x xs=>(match i with
   |0=>mkCons (x.setP p y) xs
   |i+1=>mkCons x (xs.setP (i::p) y))
  |_ => .any
termination_by structural x=>x
def KF.same:KF->KF->Bool
 |.int a,b=>(match b with | .int c=>kindEq a c|_=>false)
 |.str,b=>(match b with | .str=>true|_=>false)
 |.ints a n,b=>(match b with
  |.ints c m=>(match kindEq a c,Nat.beq n m with|true,true=>true|_,_=>false)
  |_=>false)
def KF.has:KF->DV->Bool
 |.int a,d=>(match d with | .sc (.int c _)=>kindEq a c|_=>false)
 |.str,d=>(match d with | .str _=>true|_=>false)
 |.ints a n,d=>(match d with
  |.ints c m _=>(match kindEq a c,Nat.beq n m with|true,true=>true|_,_=>false)
  |_=>false)
def keyEq:DV->DV->Bool
 |.sc (.int _ x),b=>(match b with | .sc (.int _ y)=>x==y|_=>false)
 |.str x,b=>(match b with | .str y=>x==y|_=>false)
 |.ints _ _ x,b=>(match b with | .ints _ _ y=>x==y|_=>false)
 |_,_=>false
def alook (k:DV):List (DV×DV)->Option DV
 |[]=>none
 |e::r=>match keyEq k e.1 with
  |true=>some e.2
  |false=>alook k r
def aset (k v:DV):List (DV×DV)->List (DV×DV)
 |[]=>[(k,v)]
 |e::r=>match keyEq k e.1 with
  |true=>(k,v)::r
  |false=>e::aset k v r
def adel (k:DV):List (DV×DV)->List (DV×DV)
 |[]=>[]
 |e::r=>match keyEq k e.1 with
  |true=>r
  |false=>e::adel k r
end Go.Eng

namespace Go.Eng
inductive TK where
 |int (k:IntKind)
 |bool
 |str
 |arr (n:Nat) (e:TypeId)
 |sli (e:TypeId)
 |struct (fs:List (Nat×TypeId))
 |ptr (e:TypeId)
 |iface
 |func
 |map (k e:TypeId)
 |other
structure TInf where
 kind:TK
 size:Nat
 bytes:Nat
 lay:Lay
 zero:DV
 eq:Bool
inductive Tr where
 |leaf
 |node (l:Tr) (k:Nat) (v:TInf) (r:Tr)
def Tr.get:Tr->Nat->TInf
 |.leaf,_=>⟨.other,0,0,.one,.nil,false⟩
 |.node l k v r,i=>match Nat.beq i k with
  |true=>v
  |false=>(match Nat.blt i k with
   |true=>l.get i
   |false=>r.get i)
def ofConst:Value->AV
 |.bool b => .dv (.sc (.bool b))
 |.int k n => .dv (.sc (.int k n))
 |.string s => .dv (.str s.data.toList)
 |.pointer none => .dv (.sc (.pointer none))
 |.slice none 0 0 => .dv (.sc (.slice none 0 0))
 |.map none => .dv (.sc (.map none))
 |.nilFunc => .dv (.sc .nilFunc)
 |.nilIface => .dv (.sc .nilIface)
 |_ => .any
def norm:AV->AV
 |.dv d=>(match d with
  |.sc v=>(match v with
   |.bool b => .dv (.bl b)
   |v => .dv (.sc v))
  |d => .dv d)
 |x=>x
def solid:AV->Bool
 |.any=>false
 |.tup _=>false
 |.cons x xs=>(match solid x with|true=>solid xs|false=>false)
 |_=>true
def addO (a b:Nat):Nat:=match a with
 |0=>b
 |a+1=>a+1+b
theorem addO_eq (a b:Nat):addO a b=a+b:=by cases a<;>simp [addO]
def intsIn (k:IntKind) (H:Nat->Blk):AV->Option (List Int)
 |.dv (.roI k' l)=>(match kindEq k k' with|true=>some l|false=>none)
 |.dv (.sc (.slice none 0 0))=>some []
 |.sl b p _ off len=>(match H b with
  |.rowI k' l | .frzI k' l=>(match p,kindEq k k' with|[],true=>some ((l.drop off).take len)|_,_=>none)
  |.var x=>(match x.at p with
   |.dv (.ints k' _ l)=>(match kindEq k k' with|true=>some ((l.drop off).take len)|false=>none)
   |_=>none)
  |_=>none)
 |_=>none
def elemsIn (H:Nat->Blk):AV->Option (Nat×(Nat->DV))
 |.dv (.ro _ n f)=>some (n,f)
 |.dv (.sc (.slice none 0 0))=>some (0,fun _ => .nil)
 |.sl b p _ off len=>(match H b with
  |.row _ _ f | .frz _ _ f=>(match p with|[]=>some (len,fun j=>f (addO off j))|_=>none)
  |_=>none)
 |_=>none
def elemLay (H:Nat->Blk):AV->Option Lay
 |.dv (.ro la _ _)=>some la
 |.sl b _ _ _ _=>(match H b with
  |.row la _ _ | .frz la _ _=>some la
  |_=>none)
 |_=>none
def refsOf:AV->List Nat
 |.sl b _ _ _ _=>[b]
 |_=>[]
def AV.refs:AV->List Nat
 |.ptr b _ _=>[b]
 |.sl b _ _ _ _=>[b]
 |.cons x xs=>x.refs++xs.refs
 |.ifc _ x=>x.refs
 |.mp b=>[b]
 |.slc b _ _ _=>[b]
 |_=>[]
def split (b:Bool) (K:Bool->Prop):Prop:=(b=true->K true)/\(b=false->K false)
def boolK:AV->(Bool->Prop)->Prop
 |.dv (.sc (.bool b)),K=>K b
 |.dv (.bl b),K=>split b K
 |_,_=>False
def intK:AV->(IntKind->Int->Prop)->Prop
 |.dv (.sc (.int k x)),K=>K k x
 |_,_=>False
def int2K (x y:AV) (K:IntKind->Int->Int->Prop):Prop :=
 intK x fun k a=>intK y fun k' b=>match kindEq k k' with|true=>K k a b|false=>False
def bits (k:IntKind) (op:BinOp) (x y:Int):Int :=
 let a:=BitVec.ofInt k.bits x
 let b:=BitVec.ofInt k.bits y
 match op with
 |.and=>k.wrap (a&&&b).toNat
 |.or=>k.wrap (a|||b).toNat
 |.xor=>k.wrap (a^^^b).toNat
 |_=>k.wrap (a &&& ~~~b).toNat
def eqS (tk:TK) (a b:DV) (K:Bool->Prop):Prop:=match tk with
 |.int _=>(match a with
  |.sc (.int k x)=>(match b with
   |.sc (.int k' y)=>(match kindEq k k' with|true=>K (x==y)|false=>False)
   |_=>False)
  |_=>False)
 |.bool=>(match a with
  |.sc (.bool a)=>(match b with
   |.sc (.bool b)=>K (a==b)
   |.bl b=>K (a==b)
   |_=>False)
  |.bl a=>(match b with
   |.sc (.bool b)=>K (a==b)
   |.bl b=>K (a==b)
   |_=>False)
  |_=>False)
 |.str=>(match a with
  |.str a=>(match b with | .str b=>K (a==b)|_=>False)
  |_=>False)
 |.iface=>(match a with
  |.sc .nilIface=>(match b with
   |.sc (.iface _ _)=>K false
   |.sc .nilIface=>K true
   |_=>False)
  |.sc (.iface _ _)=>(match b with
   |.sc .nilIface=>K false
   |_=>False)
  |_=>False)
 |.ptr _=>(match a with
  |.sc (.pointer none)=>(match b with
   |.sc (.pointer none)=>K true
   |_=>False)
  |_=>False)
 |_=>False
def partOK (T:Tr) (l:Lay) (i o:Nat) (ft:TypeId):Bool:=match locL l [i] with
 |some (o',l')=>(match Nat.beq o o',Nat.beq l'.size (T.get ft).size,l'.isAgg,(T.get ft).lay.isAgg with
  |true,true,true,true=>true
  |true,true,false,false=>true
  |_,_,_,_=>false)
 |none=>false
def eqF (T:Tr) (eq:TypeId->DV->DV->(Bool->Prop)->Prop):List (Nat×TypeId)->Nat->DV->DV->(Bool->Prop)->Prop
 |[],_,_,_,K=>K true
 |(o,ft)::r,i,a,b,K=>match partOK T a.lay i o ft,partOK T b.lay i o ft with
  |true,true=>eq ft (a.part i) (b.part i) fun x=>eqF T eq r (i+1) a b fun y=>K (x&&y)
  |_,_=>False
def eqT (T:Tr):Nat->TypeId->DV->DV->(Bool->Prop)->Prop
 |0,_,_,_,_=>False
 |d+1,t,a,b,K=>match (T.get t).kind with
  |.arr n e=>(match a with
   |.ints k m l=>(match b with
    |.ints k' m' l'=>(match (T.get e).kind with
     |.int _=>(match kindEq k k',Nat.beq n m,Nat.beq n m',(T.get t).eq with
      |true,true,true,true=>K (l==l')
      |_,_,_,_=>False)
     |_=>False)
    |_=>False)
   |_=>False)
  |.struct fs=>(match (T.get t).eq,a.lay.isAgg,b.lay.isAgg with
   |true,true,true=>eqF T (eqT T d) fs 0 a b K
   |_,_,_=>False)
  |tk=>eqS tk a b K
def eqAV (T:Tr) (t:TypeId):AV->AV->(Bool->Prop)->Prop
 |x,y,K=>match x with
  |.dv a=>(match y with
   |.dv b=>eqT T 12 t a b K
   |.ptr _ _ _=>(match a,(T.get t).kind with | .sc (.pointer none),.ptr _=>K false|_,_=>False)
   |.rp _=>(match a,(T.get t).kind with | .sc (.pointer none),.ptr _=>K false|_,_=>False)
   |.ifc _ _=>(match a,(T.get t).kind with | .sc .nilIface,.iface=>K false|_,_=>False)
   |_=>False)
  |.ptr _ _ _=>(match y,(T.get t).kind with | .dv (.sc (.pointer none)),.ptr _=>K false|_,_=>False)
  |.rp _=>(match y,(T.get t).kind with | .dv (.sc (.pointer none)),.ptr _=>K false|_,_=>False)
  |.ifc _ _=>(match y,(T.get t).kind with | .dv (.sc .nilIface),.iface=>K false|_,_=>False)
  |_=>False
def isC:Operand->Bool
 |.const _=>true
 |_=>false
def nilNil (x _y:AV) (cx cy:Bool):Bool:=match cx,cy with
 |false,false=>(match x with
  |.dv (.sc .nilIface)=>true
  |_=>false)
 |_,_=>false
def nilLen:AV->AV->Option Nat
 |.sl _ _ _ _ len,.dv (.sc (.slice none 0 0))=>some len
 |.dv (.roI _ l),.dv (.sc (.slice none 0 0))=>some l.length
 |.dv (.ro _ n _),.dv (.sc (.slice none 0 0))=>some n
 |_,_=>none
def binK (T:Tr) (op:BinOp) (t:TypeId) (cx cy:Bool) (x y:AV) (K:AV->Prop):Prop :=
 match op with
 |.eql=>(match nilLen x y with
  |some n=>(match (T.get t).kind with | .sli _=>K (.nq false n)|_=>False)
  |none=>(match nilNil x y cx cy with|false=>eqAV T t x y fun b=>K (.bl b)|true=>False))
 |.neq=>(match nilLen x y with
  |some n=>(match (T.get t).kind with | .sli _=>K (.nq true n)|_=>False)
  |none=>(match nilNil x y cx cy with|false=>eqAV T t x y fun b=>K (.bl (!b))|true=>False))
 |.shl=>intK x fun k a=>intK y fun _ n=>0≤n/\K (.int k (k.wrap (a*2^(min n.toNat k.bits))))
 |.shr=>intK x fun k a=>intK y fun _ n=>0≤n/\K (.int k (a.fdiv (2^(min n.toNat k.bits))))
 |.add=>(match x with
  |.dv (.str a)=>(match y with
   |.dv (.str b)=>((a.length:Int)+b.length≤9223372036854775807)/\K (.dv (.str (a++b)))
   |_=>False)
  |x=>int2K x y fun k a b=>K (.int k (k.wrap (a+b))))
 |.sub=>int2K x y fun k a b=>K (.int k (k.wrap (a-b)))
 |.mul=>int2K x y fun k a b=>K (.int k (k.wrap (a*b)))
 |.quo=>int2K x y fun k a b=>b≠0/\K (.int k (k.wrap (a.tdiv b)))
 |.rem=>int2K x y fun k a b=>b≠0/\K (.int k (a.tmod b))
 |.and | .or | .xor | .andNot=>int2K x y fun k a b=>K (.int k (bits k op a b))
 |.lss=>int2K x y fun _ a b=>K (.bl (decide (a<b)))
 |.leq=>int2K x y fun _ a b=>K (.bl (decide (a≤b)))
 |.gtr=>int2K x y fun _ a b=>K (.bl (decide (a>b)))
 |.geq=>int2K x y fun _ a b=>K (.bl (decide (a≥b)))
def unK (op:UnOp) (x:AV) (K:AV->Prop):Prop :=
 match op with
 |.not=>(match x with
  |.dv (.sc (.bool b))=>K (.dv (.sc (.bool !b)))
  |.dv (.bl b)=>K (.bl !b)
  |_=>False)
 |.neg=>intK x fun k n=>K (.int k (k.wrap (0-n)))
 |.xor=>intK x fun k n=>K (.int k (bits k .xor (if k.signed then -1 else k.max) n))
 |_=>False
def idxK (o:Operand) (x:AV) (len:Int) (K:Nat->Prop):Prop :=
 match o with
 |.const (.int _ (.ofNat n))=>((n:Int)<len)/\K n
 |_=>intK x fun _ i=>(0≤i/\i<len)/\K i.toNat
abbrev Cont:=List Nat->List (Nat×Blk)->AV->Prop
section ops
variable (T:Tr)
def intElem? (t:TypeId):Option IntKind:=match (T.get t).kind with
 |.int k=>some k
 |_=>none
def fits (t:TypeId) (l:Lay):Bool:=match Nat.beq l.size (T.get t).size with
 |true=>(match l.isAgg,(T.get t).lay.isAgg with
  |true,true=>true
  |false,false=>true
  |_,_=>false)
 |false=>false
def loadK (t:TypeId) (H:Nat->Blk) (a:AV) (K:Cont):Prop :=
 match a with
 |.rp d=>(match fits T t d.lay with|true=>K [] [] (.dv d)|false=>False)
 |.ptr b p l=>(match fits T t l with
  |true=>(match H b with
   |.var x=>K [b] [] (x.at p)
   |.rowI k li=>(match p with|[i]=>K [b] [] (.int k (li.getD i 0))|[]=>(match l with | .arr n _=>K [b] [] (.dv (.ints k n li))|_=>False)|_=>False)
   |.frzI k l=>(match p with|[i]=>K [b] [] (.int k (l.getD i 0))|_=>False)
   |.row _ _ f | .frz _ _ f=>(match p with|i::q=>K [b] [] (.dv ((f i).at q))|_=>False)
   |_=>False)
  |false=>False)
 |_=>False
def storeK (t:TypeId) (H:Nat->Blk) (a x:AV) (K:Cont):Prop :=
 match a with
 |.ptr b p l=>(match solid x,fits T t x.lay,decide (x.lay=l) with
  |true,true,true=>(match H b with
   |.var y=>(match decide ((y.setP p (norm x)).lay=y.lay) with|true=>K [b] [(b,.var (y.setP p (norm x)))] .any|false=>False)
   |.rowI k l=>(match p with
    |[i]=>intK x fun k' n=>(match kindEq k k' with|true=>K [b] [(b,.rowI k (l.set i n))] .any|false=>False)
    |_=>False)
   |.row lay m f=>(match p,norm x with
    |i::q,.dv d=>(match (f i).setA q (.dv d) with
     |.dv e=>(match decide (e.lay=lay) with|true=>K [b] [(b,.row lay m fun j=>if j=i then e else f j)] .any|false=>False)
     |_=>False)
    |_,_=>False)
   |_=>False)
  |_,_,_=>False)
 |_=>False
def indexAddrK (t:TypeId) (x:AV) (o:Operand) (i:AV) (K:Cont):Prop :=
 match (T.get t).kind with
 |.arr n e=>(match x with
  |.ptr b p l=>(match l with
   |.arr m le=>(match Nat.beq n m,fits T e le with
    |true,true=>idxK o i n fun j=>K [] [] (.ptr b (p++[j]) le)
    |_,_=>False)
   |_=>False)
  |.rp d=>(match d.lay with
   |.arr m le=>(match Nat.beq n m,fits T e le with
    |true,true=>idxK o i n fun j=>K [] [] (.rp (d.part j))
    |_,_=>False)
   |_=>False)
  |_=>False)
 |.sli e=>(match x with
  |.sl b p le off len=>(match fits T e le with
   |true=>idxK o i len fun j=>K [] [] (.ptr b (p++[addO off j]) le)
   |false=>False)
  |.vs b off len=>(match fits T e .one with
   |true=>idxK o i len fun j=>K [] [] (.ptr b [addO off j] .one)
   |false=>False)
  |.dv (.roI k l)=>(match fits T e .one with
   |true=>idxK o i l.length fun j=>K [] [] (.rp (.sc (.int k (l.getD j 0))))
   |false=>False)
  |.dv (.ro le n f)=>(match fits T e le with
   |true=>idxK o i n fun j=>K [] [] (.rp (f j))
   |false=>False)
  |_=>False)
 |_=>False
def indexK (t:TypeId) (x:AV) (o:Operand) (i:AV) (K:Cont):Prop :=
 match (T.get t).kind with
 |.arr n e=>(match x with
  |.dv d=>(match d.lay with
   |.arr m le=>(match Nat.beq n m,fits T e le with
    |true,true=>idxK o i n fun j=>K [] [] (.dv (d.part j))
    |_,_=>False)
   |_=>False)
  |_=>False)
 |.str=>(match x with
  |.dv (.str l)=>idxK o i l.length fun j=>K [] [] (.int .u8 (l.getD j 0).toNat)
  |_=>False)
 |_=>False
def fieldK (t:TypeId) (f:Nat) (l:Lay) (K:Lay->Prop):Prop :=
 match (T.get t).kind with
 |.struct fs=>(match fs[f]? with
  |some (o,ft)=>(match locL l [f] with
   |some (o',l')=>(match Nat.beq o o',fits T ft l',Nat.beq (T.get ft).size 0 with
    |true,true,false=>K l'
    |_,_,_=>False)
   |none=>False)
  |none=>False)
 |_=>False
def freezeK (H:Nat->Blk):AV->(List Nat->List (Nat×Blk)->DV->Prop)->Prop
 |.dv d,K=>K [] [] d
 |.sl b p _ off len,K=>(match H b with
  |.rowI k l | .frzI k l=>(match p with|[]=>K [b] [(b,.frzI k l)] (.roI k ((l.drop off).take len))|_=>False)
  |.row lay n f | .frz lay n f=>(match p with|[]=>K [b] [(b,.frz lay n f)] (.ro lay len fun j=>f (addO off j))|_=>False)
  |_=>False)
 |_,_=>False
def updB (H:Nat->Blk):List (Nat×Blk)->Nat->Blk
 |[],c=>H c
 |(b,x)::r,c=>updB (fun c=>match Nat.beq c b with|true=>x|false=>H c) r c
def freezesK:(Nat->Blk)->List (Nat×AV)->(List Nat->List (Nat×Blk)->List (Nat×DV)->Prop)->Prop
 |_,[],K=>K [] [] []
 |H,(i,x)::r,K=>freezeK H (norm x) fun rd wr d=>freezesK (updB H wr) r fun rd' wr' ds=>K (rd++rd') (wr++wr') ((i,d)::ds)
termination_by structural _ ps=>ps
def putInts (k:IntKind) (n:Nat):List (Nat×AV)->List Int->(List Int->Prop)->Prop
 |[],l,K=>K l
 |(i,x)::r,l,K=>intK x fun k' v=>match kindEq k k',Nat.blt i n with
  |true,true=>putInts k n r (l.set i v) K
  |_,_=>False
def putParts:(Nat->DV)->List (Nat×DV)->Nat->DV
 |f,[]=>f
 |f,(i,d)::r=>putParts (fun j=>match Nat.beq j i with|true=>d|false=>f j) r
def layAll (n:Nat) (l:Lay):List (Nat×DV)->Bool
 |[]=>true
 |(i,d)::r=>match Nat.blt i n,decide (d.lay=l) with
  |true,true=>layAll n l r
  |_,_=>false
def fillK (t:TypeId):List (Nat×AV)->AV->(AV->Prop)->Prop
 |[],x,K=>K x
 |(i,y)::r,x,K=>match solid y with
  |true=>fieldK T t i x.lay fun l=>(match decide (y.lay=l) with
   |true=>(match decide ((x.setP [i] (norm y)).lay=x.lay) with|true=>fillK t r (x.setP [i] (norm y)) K|false=>False)
   |false=>False)
  |false=>False
def buildK (t:TypeId) (parts:List (Nat×AV)) (H:Nat->Blk) (K:Cont):Prop :=
 match (T.get t).kind with
 |.arr n e=>(match (T.get t).zero with
  |.ints k m l=>(match Nat.beq n m,fits T e .one with
   |true,true=>putInts k n parts l fun l=>K [] [] (.dv (.ints k n l))
   |_,_=>False)
  |.fam m la f=>freezesK H parts fun rd wr ds=>(match Nat.beq n m,fits T e la,layAll n la ds with
   |true,true,true=>K rd wr (.dv (.fam n la (putParts f ds)))
   |_,_,_=>False)
  |_=>False)
 |.struct _=>fillK T t parts (.dv (T.get t).zero) fun x=>K [] [] x
 |_=>False
def vecPK:Nat->List (Nat×AV)->(List AV->Prop)->Prop
 |_,[],K=>K []
 |i,(j,x)::r,K=>(match Nat.beq i j,solid x,x.isAgg with
  |true,true,false=>vecPK (i+1) r fun xs=>K (norm x::xs)
  |_,_,_=>False)
def buildSliceK (key:Nat) (t:TypeId) (len:Nat) (H:Nat->Blk) (parts:List (Nat×AV)) (K:Cont):Prop :=
 match (T.get t).kind with
 |.sli e=>(match Nat.ble (len*(T.get e).size) 100000,fits T e (T.get e).lay with
  |true,true=>(match (T.get e).zero with
   |.sc (.int k z)=>putInts k len parts (List.replicate len z) fun l=>K [] [(key,.rowI k l)] (.sl key [] .one 0 len)
   |_=>(freezesK H parts fun rd wr ds=>(match layAll len (T.get e).lay ds with
    |true=>K rd (wr++[(key,.row (T.get e).lay len (putParts (fun _=>(T.get e).zero) ds))]) (.sl key [] (T.get e).lay 0 len)
    |_=>False))\/(vecPK 0 parts fun xs=>(match Nat.beq xs.length len,Nat.beq (T.get e).lay.size 1 with
     |true,true=>K [] [(key,.var (vecOf xs))] (.vs key 0 len)
     |_,_=>False)))
  |_,_=>False)
 |_=>False
def lenK (t:TypeId) (H:Nat->Blk) (x:AV) (K:List Nat->Int->Prop):Prop :=
 match (T.get t).kind with
 |.sli _=>(match x with
  |.dv (.roI _ l)=>K [] l.length
  |.dv (.ro _ n _)=>K [] n
  |.dv (.sc (.slice none 0 0))=>K [] 0
  |.sl _ _ _ _ len=>K [] len
  |.vs _ _ len=>K [] len
  |.slc _ _ len _=>K [] len
  |.emp=>K [] 0
  |_=>False)
 |.str=>(match x with
  |.dv (.str l)=>K [] l.length
  |_=>False)
 |.arr n _=>K [] n
 |.map _ _=>(match x with
  |.mp b=>(match H b with
   |.mp _ es=>K [b] es.length
   |_=>False)
  |.dv (.sc (.map none))=>K [] 0
  |_=>False)
 |_=>False
def srcI (k:IntKind) (H:Nat->Blk) (t:TypeId) (x:AV):Option (List Int) :=
 match (T.get t).kind with
 |.sli _=>intsIn k H x
 |.str=>(match k,x with
  |.u8,.dv (.str l)=>some (l.map fun b=>(b.toNat:Int))
  |_,_=>none)
 |_=>none
def appendZK (key:Nat) (t:TypeId) (H:Nat->Blk) (s x:AV) (K:Cont):Prop :=
 match (T.get t).kind with
 |.sli e=>(match fits T e .one,Nat.blt 0 (T.get e).bytes,(T.get e).zero with
  |true,true,.sc (.int k z)=>(match s with
   |.dv (.sc (.slice none 0 0))=>intK x fun _ n=>(0≤n/\n*(T.get e).bytes≤140737488355328)/\K [] [(key,.rowI k (List.replicate n.toNat z))] (.sl key [] .one 0 n.toNat)
   |.emp=>intK x fun _ n=>(0≤n/\n*(T.get e).bytes≤140737488355328)/\K [] [(key,.rowI k (List.replicate n.toNat z))] (.sl key [] .one 0 n.toNat)
   |.sl b p _ off len=>(match H b with
    |.rowI k' l=>(match p,kindEq k k' with
     |[],true=>intK x fun _ n=>(0≤n/\((len:Int)+n)*(T.get e).bytes≤140737488355328)/\K [b] [(b,.dead),(key,.rowI k ((l.drop off).take len++List.replicate n.toNat z))] (.sl key [] .one 0 (len+n.toNat))
     |_,_=>False)
    |_=>False)
   |_=>False)
  |_,_,_=>False)
 |_=>False
def isIntT (t:TypeId):Bool:=match (T.get t).kind with
 |.int _=>true
 |_=>false
def appendK (key:Nat) (ts:List TypeId) (H:Nat->Blk) (s x:AV) (K:Cont):Prop :=
 match ts with
 |[t,t2]=>(match (T.get t).kind with
  |.sli e=>(match fits T e (T.get e).lay,Nat.blt 0 (T.get e).bytes with
   |true,true=>(match intElem? T e with
    |some k=>(match srcI T k H t2 x,fits T e .one with
     |some m,true=>(match s with
      |.dv (.sc (.slice none 0 0))=>((m.length:Int)*(T.get e).bytes≤140737488355328)/\K (refsOf x) [(key,.rowI k m)] (.sl key [] .one 0 m.length)
      |.emp=>((m.length:Int)*(T.get e).bytes≤140737488355328)/\K (refsOf x) [(key,.rowI k m)] (.sl key [] .one 0 m.length)
      |.sl b p _ off len=>(match H b with
       |.rowI k' l=>(match p,kindEq k k' with
        |[],true=>(((len:Int)+m.length)*(T.get e).bytes≤140737488355328)/\K (b::refsOf x) [(b,.dead),(key,.rowI k ((l.drop off).take len++m))] (.sl key [] .one 0 (len+m.length))
        |_,_=>False)
       |_=>False)
      |.slc b off len c=>(match H b with
       |.rowI k' l=>(match kindEq k k' with
        |true=>(0<c/\len+m.length≤c/\(((len:Int)+m.length)*(T.get e).bytes≤140737488355328))/\K (b::refsOf x) [(b,.dead),(key,.rowI k ((l.drop off).take len++m))] (.slc key 0 (len+m.length) c)
        |false=>False)
       |_=>False)
      |_=>False)
     |_,_=>False)
    |none=>(match (T.get t2).kind with
     |.sli _=>(match elemsIn H x,elemLay H x with
      |some (m,g),some la=>(match decide (la=(T.get e).lay) with
       |true=>(match s with
        |.dv (.sc (.slice none 0 0))=>((m:Int)*(T.get e).bytes≤140737488355328)/\K (refsOf x) [(key,.row la m g)] (.sl key [] la 0 m)
        |.emp=>((m:Int)*(T.get e).bytes≤140737488355328)/\K (refsOf x) [(key,.row la m g)] (.sl key [] la 0 m)
        |.sl b p _ off len=>(match H b with
         |.row la' _ f=>(match p,decide (la'=la) with
          |[],true=>(((len:Int)+m)*(T.get e).bytes≤140737488355328)/\K (b::refsOf x) [(b,.dead),(key,.row la (len+m) fun j=>if j<len then f (off+j) else g (j-len))] (.sl key [] la 0 (len+m))
          |_,_=>False)
         |_=>False)
        |_=>False)
       |false=>False)
      |_,_=>False)
     |_=>False))
   |_,_=>False)
  |_=>False)
 |_=>False
def over (l:List Int) (at_:Nat) (m:List Int):List Int:=l.take at_++m++l.drop (at_+m.length)
def srcK (k:IntKind) (H:Nat->Blk) (ts:List TypeId) (x:AV) (K:List Nat->List Int->Prop):Prop :=
 match ts with
 |[_,t2]=>(match srcI T k H t2 x with
  |some m=>K (refsOf x) m
  |none=>False)
 |_=>False
def copyK (ts:List TypeId) (H:Nat->Blk) (s x:AV) (K:Cont):Prop :=
 match ts with
 |t::_=>(match (T.get t).kind with
  |.sli e=>(match intElem? T e with
   |some k =>
    srcK T k H ts x fun rd m=>(match s with
     |.sl b p _ off len=>(match H b with
      |.rowI k' l=>(match p,kindEq k k' with
       |[],true=>K (b::rd) [(b,.rowI k (over l off (m.take len)))] (.int .i64 (min m.length len:Nat))
       |_,_=>False)
      |.var y=>(match y.at p with
       |.dv (.ints k' n l)=>(match kindEq k k',decide ((y.setP p (.dv (.ints k n (over l off (m.take len))))).lay=y.lay) with
        |true,true=>K (b::rd) [(b,.var (y.setP p (.dv (.ints k n (over l off (m.take len))))))] (.int .i64 (min m.length len:Nat))
        |_,_=>False)
       |_=>False)
      |_=>False)
     |_=>False)
   |none=>False)
  |_=>False)
 |_=>False
def makeSliceK (key:Nat) (t:TypeId) (l c:AV) (K:Cont):Prop :=
 match (T.get t).kind with
 |.sli e=>(match fits T e (T.get e).lay with
  |true=>intK l fun _ n=>intK c fun _ m=>(0≤n/\n≤m/\m≤9223372036854775807/\m*(T.get e).bytes≤140737488355328) /\
   (match (T.get e).zero with
   |.sc (.int k z)=>K [] [(key,.rowI k (List.replicate n.toNat z))] (.sl key [] .one 0 n.toNat)\/(0<m/\K [] [(key,.rowI k (List.replicate n.toNat z))] (.slc key 0 n.toNat m.toNat))
   |z=>K [] [(key,.row (T.get e).lay n.toNat fun _=>z)] (.sl key [] (T.get e).lay 0 n.toNat))
  |false=>False)
 |_=>False
def boundsK (len:Int) (lo hi:Option AV) (K:Int->Int->Prop):Prop :=
 let l (b:Int):Prop:=match lo with
  |none=>0≤b/\K 0 b
  |some x=>intK x fun _ a=>(0≤a/\a≤b)/\K a b
 match hi with
 |none=>l len
 |some x=>intK x fun _ b=>b≤len/\l b
def isSli:AV->Bool
 |.sl .. | .dv (.roI ..) | .dv (.ro ..) | .dv (.sc (.slice none 0 0)) | .emp=>true
 |_=>false
def slice3K (t:TypeId) (x:AV) (lo:Option AV) (hi:Option AV) (mx:AV) (K:Cont):Prop :=
 match (T.get t).kind,hi with
 |.sli e,some hi=>(match lo,hi,mx with
  |none,.dv (.sc (.int _ (.ofNat 0))),.dv (.sc (.int _ (.ofNat 0)))=>(match isSli x with|true=>K [] [] .emp|false=>False)
  |some lo,hi,mx=>intK lo fun _ a=>intK hi fun _ c=>intK mx fun _ d=>(0≤a/\a≤c/\c≤d)/\(match x with
   |.sl b p le off len=>(match fits T e le with
    |true=>d≤len/\K [] [] (.sl b p le (off+a.toNat) (c-a).toNat)
    |false=>False)
   |.dv (.roI k l)=>(match fits T e .one with
    |true=>d≤l.length/\K [] [] (.dv (.roI k ((l.drop a.toNat).take (c-a).toNat)))
    |false=>False)
   |_=>False)
  |_,_,_=>False)
 |_,_=>False
def sliceK (t:TypeId) (H:Nat->Blk) (x:AV) (lo hi mx:Option AV) (K:Cont):Prop :=
 match mx with
 |some mx=>slice3K T t x lo hi mx K
 |none=>(match (T.get t).kind with
  |.arr n e=>(match x with
   |.ptr b p l=>(match l with
    |.arr m le=>(match Nat.beq n m,fits T e le with
     |true,true=>(boundsK n lo hi fun a c=>K [] [] (.sl b p le a.toNat (c-a).toNat))\/(match H b,p with
      |.var (.dv (.ints k _ l)),[]=>boundsK n lo hi fun a c=>K [b] [(b,.rowI k l)] (.sl b [] le a.toNat (c-a).toNat)
      |_,_=>False)
     |_,_=>False)
    |_=>False)
   |.rp (.ints k m l)=>(match Nat.beq n m,fits T e .one with
    |true,true=>boundsK n lo hi fun a c=>K [] [] (.dv (.roI k ((l.drop a.toNat).take (c-a).toNat)))
    |_,_=>False)
   |_=>False)
  |.sli e=>(match x with
   |.sl b p le off len=>(match fits T e le with
    |true=>boundsK len lo hi fun a c=>K [] [] (.sl b p le (off+a.toNat) (c-a).toNat)
    |false=>False)
   |.dv (.roI k l)=>(match fits T e .one with
    |true=>boundsK l.length lo hi fun a c=>K [] [] (.dv (.roI k ((l.drop a.toNat).take (c-a).toNat)))
    |false=>False)
   |.dv (.ro le n f)=>(match fits T e le with
    |true=>boundsK n lo hi fun a c=>K [] [] (.dv (.ro le (c-a).toNat fun j=>f (a.toNat+j)))
    |false=>False)
   |.dv (.sc (.slice none 0 0))=>boundsK 0 lo hi fun _ _=>K [] [] (.dv (.sc (.slice none 0 0)))
   |.slc b off len c=>(match H b,fits T e .one with
    |.rowI _ l,true=>boundsK (match hi with|none=>(len:Int)|some _=>(c:Int)) lo hi fun a h=>((off:Int)+h≤l.length/\a<c)/\(K [b] [] (.sl b [] .one (off+a.toNat) (h-a).toNat)\/K [b] [] (.slc b (off+a.toNat) (h-a).toNat (c-a.toNat)))
    |_,_=>False)
   |_=>False)
  |.str=>(match x with
   |.dv (.str l)=>boundsK l.length lo hi fun a c=>K [] [] (.dv (.str ((l.drop a.toNat).take (c-a).toNat)))
   |_=>False)
  |_=>False)
def convertK (key:Nat) (src dst:TypeId) (H:Nat->Blk) (x:AV) (K:Cont):Prop :=
 match (T.get dst).kind with
 |.int k=>(match (T.get src).kind with
  |.int _=>intK x fun _ n=>K [] [] (.int k (k.wrap n))
  |_=>False)
 |.str=>(match (T.get src).kind with
  |.str=>(match x with
   |.dv (.str l)=>K [] [] (.dv (.str l))
   |_=>False)
  |.sli e=>(match intElem? T e with
   |some .u8=>(match intsIn .u8 H x with
    |some l=>K (refsOf x) [] (.dv (.str (l.map fun n=>UInt8.ofNat n.toNat)))
    |none=>False)
   |_=>False)
  |_=>False)
 |.sli e=>(match (T.get src).kind with
  |.str=>(match x,intElem? T e with
   |.dv (.str l),some .u8=>K [] [(key,.rowI .u8 (l.map fun b=>(b.toNat:Int)))] (.sl key [] .one 0 l.length)
   |_,_=>False)
  |.sli _=>(match Nat.beq src dst,intElem? T e,x with
   |true,some .u8,.sl b [] la off (len+1)=>(match H b with
    |.rowI k l=>K [b] [(b,.frzI k l)] (.sl b [] la off (len+1))
    |_=>False)
   |_,_,_=>False)
  |_=>False)
 |_=>False
def arrayPtrK (t:TypeId) (H:Nat->Blk) (x:AV) (K:Cont):Prop :=
 match (T.get t).kind with
 |.arr n _=>(match Nat.blt 0 n with
  |true=>freezeK H x fun rd wr d=>(match d with
   |.roI k l=>n≤l.length/\∃ l',l'=l.take n/\K rd wr (.rp (.ints k n l'))
   |_=>False)
  |false=>False)
 |_=>False
end ops
end Go.Eng

namespace Go.Eng
structure Glob where
 av:Nat->AV
 fact:(Nat->Option Obj)->Prop
instance:CoeFun Glob (fun _=>Nat->AV):=⟨Glob.av⟩
inductive Place where
 |unborn
 |nowhere
 |at (r o:Nat)
 deriving Inhabited
structure Env where
 pl:Nat->Place
 lay:Nat->Lay
 top:Nat->Nat
 rd:Nat->Nat->Option Value
 fx:Nat->Option Obj
def single:Value->Prop
 |.agg _ | .tuple _=>False
 |_=>True
def ofCells (agg:Bool) (cs:List Value):Value:=if agg then .agg cs.toArray else cs.headD undef
abbrev Rd:=Nat->Nat->Option Value
def Reads (rd:Rd) (r o:Nat) (cs:List Value):Prop:=∀ j (h:j<cs.length),rd r (o+j)=some cs[j]
inductive RepD (rd:Rd):DV->List Value->Prop where
 |sc (v:Value) (h:single v):RepD rd (.sc v) [v]
 |bl (b:Bool):RepD rd (.bl b) [.bool b]
 |str (l:List UInt8):RepD rd (.str l) [.string ⟨⟨l⟩⟩]
 |ints (k:IntKind) (n:Nat) (l:List Int) (h:l.length=n):RepD rd (.ints k n l) (l.map (.int k))
 |nil:RepD rd .nil []
 |cons {d ds:DV} {cs cs':List Value} (h:RepD rd d cs) (h':RepD rd ds cs'):RepD rd (.cons d ds) (cs++cs')
 |fam (n:Nat) (l:Lay) (f:Nat->DV) (css:Nat->List Value) (h:∀ i,i<n->RepD rd (f i) (css i)) (hl:∀ i,i<n->(f i).lay=l) :
   RepD rd (.fam n l f) ((List.range n).flatMap css)
 |roI (k:IntKind) (l:List Int) (r o c:Nat) (hc:l.length≤c) (h:Reads rd r o (l.map (.int k))):RepD rd (.roI k l) [.slice (some ⟨r,o,none⟩) l.length c]
 |roI0 (k:IntKind) (a:Option Addr) (c:Nat) (h:a=none->c=0):RepD rd (.roI k []) [.slice a 0 c]
 |ro (l:Lay) (n:Nat) (f:Nat->DV) (css:Nat->List Value) (r o c:Nat) (hc:n≤c) (h:∀ i,i<n->RepD rd (f i) (css i)) (hl:∀ i,i<n->(f i).lay=l)
   (hr:∀ i,i<n->Reads rd r (o+i*l.size) (css i)):RepD rd (.ro l n f) [.slice (some ⟨r,o,none⟩) n c]
 |ro0 (l:Lay) (f:Nat->DV) (a:Option Addr) (c:Nat) (h:a=none->c=0):RepD rd (.ro l 0 f) [.slice a 0 c]
inductive RepA (E:Env):AV->List Value->Prop where
 |dv {d:DV} {cs:List Value} (h:RepD E.rd d cs):RepA E (.dv d) cs
 |cons {x xs:AV} {cs cs':List Value} (h:RepA E x cs) (h':RepA E xs cs'):RepA E (.cons x xs) (cs++cs')
 |ptr (b:Nat) (p:List Nat) (l:Lay) (r o off:Nat) (hp:E.pl b = .at r o) (hl:locL (E.lay b) p=some (off,l)):RepA E (.ptr b p l) [.pointer (some ⟨r,o+off,none⟩)]
 |rp {d:DV} (r o:Nat) {cs:List Value} (h:RepD E.rd d cs) (hr:Reads E.rd r o cs):RepA E (.rp d) [.pointer (some ⟨r,o,none⟩)]
 |sl (b:Nat) (p:List Nat) (l:Lay) (off len r o so n c:Nat) (hp:E.pl b = .at r o) (hl:locL (E.lay b) p=some (so,.arr n l)) (hn:off+len≤n) (hc:len≤c)
   (ht:o+so+(off+c)*l.size≤E.top b):RepA E (.sl b p l off len) [.slice (some ⟨r,o+so+off*l.size,none⟩) len c]
 |sl0 (b:Nat) (p:List Nat) (l:Lay) (off:Nat) (a:Option Addr) (so n:Nat) (hp:E.pl b ≠ .unborn) (hl:locL (E.lay b) p=some (so,.arr n l)) (hn:off≤n):RepA E (.sl b p l off 0) [.slice a 0 0]
 |fn (f:FuncId) (caps:List AV) (css:List (List Value)) (hlen:css.length=caps.length) (h:∀ i (h:i<caps.length),RepA E caps[i] (css[i]'(hlen▸h))) :
   RepA E (.fn f caps) [.func (.func f) #[] ((caps.zip css).map fun x=>ofCells x.1.isAgg x.2).toArray]
 |tup (xs:List AV) (css:List (List Value)) (hlen:css.length=xs.length) (h:∀ i (h:i<xs.length),RepA E xs[i] (css[i]'(hlen▸h))) :
   RepA E (.tup xs) [.tuple ((xs.zip css).map fun x=>ofCells x.1.isAgg x.2).toArray]
 |mp (b r:Nat) (hp:E.pl b = .at r 0) (hl:E.lay b = .unit):RepA E (.mp b) [.map (some r)]
 |stamp (b n:Nat) (hp:E.pl b = .nowhere) (ht:E.top b=n):RepA E (.stamp b) [.int .i64 n]
 |yld (b r:Nat) (hp:E.pl b = .at r 0):RepA E (.yld b) [.func (.yield r) #[] #[]]
 |vs (b off len r o n c:Nat) (hp:E.pl b = .at r o) (hl:E.lay b=vecLay n) (hn:off+len≤n) (hc:len≤c):RepA E (.vs b off len) [.slice (some ⟨r,o+off,none⟩) len c]
 |slc (b off len c r o n:Nat) (hp:E.pl b = .at r o) (hl:E.lay b = .arr n .one) (hn:off+len≤n) (hc:len≤c) (ht:o+(off+c)≤E.top b):RepA E (.slc b off len c) [.slice (some ⟨r,o+off,none⟩) len c]
 |emp (a:Option Addr):RepA E .emp [.slice a 0 0]
 |nq (neg:Bool) (n:Nat) (b:Bool) (h:b=true->n=0):RepA E (.nq neg n) [.bool (b != neg)]
 |ifc (t:TypeId) {x:AV} {cs:List Value} (h:RepA E x cs):RepA E (.ifc t x) [.iface t (ofCells x.isAgg cs)]
def RepV (E:Env) (x:AV) (v:Value):Prop:=x = .any\/∃ cs,RepA E x cs/\v=ofCells x.isAgg cs
def cellAt (w:World):Rd:=fun r j=>w.cell? ⟨r,j,none⟩
def RepEnts (rd:Rd):List (DV×DV)->List MapEntry->Prop
 |[],[]=>True
 |(k,v)::es,m::ms=>(RepD rd k m.key.cells.toList/\m.key=ofCells k.lay.isAgg m.key.cells.toList/\RepD rd v m.val.cells.toList/\m.val=ofCells v.lay.isAgg m.val.cells.toList)/\RepEnts rd es ms
 |_,_=>False
def Blk.own:Blk->Bool
 |.var _ | .rowI .. | .row .. | .mp .. | .mpn .. | .lp .. => true
 |_=>false
def Room (E:Env) (b:Nat) (w:World) (r o size:Nat):Prop :=
 o+size≤E.top b/\∀ j,o≤j->j<E.top b->(∃ v,w.cell? ⟨r,j,none⟩=some v)/\w.frozen? ⟨r,j,none⟩=false
def BlkRel (E:Env) (b:Nat) (w:World):Blk->Prop
 |.dead=>True
 |.var x=>∃ r o cs,E.pl b = .at r o/\E.lay b=x.lay/\RepA E x cs/\Reads (cellAt w) r o cs/\E.top b=o+cs.length/\Room E b w r o cs.length
 |.rowI k l=>E.lay b = .arr l.length .one/\((E.pl b = .nowhere/\l=[])\/∃ r o,E.pl b = .at r o/\Reads (cellAt w) r o (l.map (.int k))/\Room E b w r o l.length)
 |.row lay n f=>E.lay b = .arr n lay/\((E.pl b = .nowhere/\n=0)\/∃ (r o:Nat) (css:Nat->List Value),E.pl b = .at r o/\(∀ i,i<n->RepD E.rd (f i) (css i))/\(∀ i,i<n->(f i).lay=lay) /\
   (∀ i,i<n->Reads (cellAt w) r (o+i*lay.size) (css i))/\Room E b w r o (n*lay.size))
 |.mp f es=>∃ r entries clock,E.pl b = .at r 0/\E.lay b = .unit/\E.top b=0/\w.heap[r]?=some (.map entries clock)/\RepEnts E.rd es entries.toList/\(∀ e,e∈es->f.has e.1=true)/\MapKept.Stamped entries clock
 |.mpn f es k c=>E.pl c = .nowhere/\∃ r entries clock,E.pl b = .at r 0/\E.lay b = .unit/\E.top b=0/\w.heap[r]?=some (.map entries clock)/\RepEnts E.rd es entries.toList/\(∀ e,e∈es->f.has e.1=true)/\MapKept.Stamped entries clock /\
   ∃ (j:Nat) (v:DV) (m:MapEntry),es[j]?=some (k,v)/\entries.toList[j]?=some m/\m.born=E.top c
 |.lp L s=>∃ r,E.pl b = .at r 0/\E.lay b = .unit/\E.top b=0/\w.heap[r]?=some (.loop (lpRec L s))
 |.frzI k l=>E.lay b = .arr l.length .one/\((E.pl b = .nowhere/\l=[])\/∃ r o,E.pl b = .at r o/\Reads E.rd r o (l.map (.int k)))
 |.frz lay n f=>E.lay b = .arr n lay/\((E.pl b = .nowhere/\n=0)\/∃ (r o:Nat) (css:Nat->List Value),E.pl b = .at r o/\(∀ i,i<n->RepD E.rd (f i) (css i))/\(∀ i,i<n->(f i).lay=lay) /\
   (∀ i,i<n->Reads E.rd r (o+i*lay.size) (css i)))
structure Rel (E:Env) (H:Nat->Blk) (w:World):Prop where
 rd:∀ r j v,E.rd r j=some v->w.cell? ⟨r,j,none⟩=some v
 blk:∀ b,BlkRel E b w (H b)
 sep:∀ b b' r o r' o',b≠b'->(H b).own=true->(H b').own=true->E.pl b = .at r o->E.pl b' = .at r' o'->r≠r'
 apart:∀ b r o j v,(H b).own=true->E.pl b = .at r o->E.rd r j=some v->False
 old:∀ b r o,E.pl b = .at r o->r<w.heap.size
 born:∀ b,E.pl b = .unborn->H b = .dead
 fit:∀ b r o,E.pl b = .at r o->o+(E.lay b).size≤E.top b
 fx:∀ r o,E.fx r=some o->w.heap[r]?=some o
 fxa:∀ b r o ob,(H b).own=true->E.pl b = .at r o->E.fx r=some ob->False
structure Ext (E E':Env):Prop where
 pl:∀ b,E.pl b ≠ .unborn->E'.pl b=E.pl b
 lay:∀ b,E.pl b ≠ .unborn->E'.lay b=E.lay b
 top:∀ b,E.pl b ≠ .unborn->E'.top b=E.top b
 rd:∀ r j v,E.rd r j=some v->E'.rd r j=some v
 fx:E'.fx=E.fx
structure Mem (E:Env) (H:Nat->Blk) (w:World) (E':Env) (w':World):Prop where
 os:w'.os=w.os
 tape:w'.tape=w.tape
 output:w'.output=w.output
 size:w.heap.size≤w'.heap.size
 same:∀ r,r<w.heap.size->(∀ b o,(H b).own=true->E.pl b = .at r o->False)->w'.heap[r]?=w.heap[r]?
 rd:∀ r j v,E'.rd r j=some v->E.rd r j=some v\/w.heap.size≤r\/∃ b o,(H b).own=true/\E.pl b = .at r o/\o≤j/\j<E.top b
 new:∀ b r o,E.pl b = .unborn->E'.pl b = .at r o->w.heap.size≤r\/∃ b' o',(H b').own=true/\E.pl b' = .at r o'/\o'≤o/\E'.top b≤E.top b'
def upd1 (H:Nat->Blk) (i:Nat) (x:Blk):Nat->Blk:=fun b=>if b=i then x else H b
def upds:(Nat->Blk)->List (Nat×Blk)->Nat->Blk
 |H,[]=>H
 |H,(i,x)::r=>upds (upd1 H i x) r
def GOK (E:Env) (G:Glob):Prop:=(∀ g,RepV E (G g) (.pointer (some ⟨g,0,none⟩)))/\G.fact E.fx
def RepVs (E:Env) (xs:List AV) (vs:List Value):Prop:=vs.length=xs.length/\∀ i (h:i<xs.length) (h':i<vs.length),RepV E xs[i] vs[i]
def Callable (P:Program) (f:FuncId):Prop:=∀ args w,(callFunc f args).run P w = .ok (.enter f args) w
structure Step (E:Env) (H:Nat->Blk) (w:World) (wr:List (Nat×Blk)) (r:AV) (v:Value) (E':Env) (w':World):Prop where
 val:RepV E' r v
 rel:Rel E' (upds H wr) w'
 ext:Ext E E'
 mem:Mem E H w E' w'
 born:∀ b,E.pl b = .unborn->E'.pl b ≠ .unborn->b∈wr.map (·.1)
 live:∀ b,(upds H wr b).own=true->(H b).own=true\/E.pl b = .unborn
 others:∀ b r o,(H b).own=true->E.pl b = .at r o->b ∉ wr.map (·.1)->w'.heap[r]?=w.heap[r]?
def Fn (P:Program) (G:Glob) (f:FuncId) (args:List AV) (S:List (Nat×Blk)) (r:AV) (wr:List (Nat×Blk)):Prop :=
 Callable P f/\∀ E H w vs,Rel E H w->GOK E G->(∀ x,x∈S->H x.1=x.2)->(∀ x,x∈wr->x.1∈S.map (·.1)\/E.pl x.1 = .unborn)->RepVs E args vs ->
  Calls P f vs.toArray w fun e w'=>∃ v E',e = .returned v/\Step E H w wr r v E' w'
end Go.Eng

namespace Go.Eng
section
variable (P:Program) (G:Glob) (T:Tr)
def view (H:Nat->Blk):AV->AV
 |.sl b p l off len=>(match H b with
  |.rowI k m | .frzI k m=>(match p with|[] => .dv (.roI k ((m.drop off).take len))|_ => .sl b p l off len)
  |.row lay _ f | .frz lay _ f=>(match p with|[] => .dv (.ro lay len fun j=>f (addO off j))|_ => .sl b p l off len)
  |.var x=>(match x.at p with
   |.dv (.ints k _ m) => .dv (.roI k ((m.drop off).take len))
   |_ => .sl b p l off len)
  |_ => .sl b p l off len)
 |.slc b off len c=>(match H b with
  |.rowI k m | .frzI k m => .dv (.roI k ((m.drop off).take len))
  |_ => .slc b off len c)
 |.ptr b p l=>(match H b with
  |.var x=>(match x.at p with
   |.dv d=>(match decide (d.lay=l) with|true => .rp d|false => .ptr b p l)
   |_ => .ptr b p l)
  |_ => .ptr b p l)
 |x=>x
def DV.free:DV->Bool
 |.roI .. | .ro .. => false
 |.cons d ds=>(match d.free with|true=>ds.free|false=>false)
 |.fam .. => false
 |_=>true
def AV.free:AV->Bool
 |.dv d=>d.free
 |.cons x xs=>(match x.free with|true=>xs.free|false=>false)
 |.rp _=>false
 |.ifc _ x=>x.free
 |.fn .. => false
 |.stamp _=>false
 |.yld _=>false
 |.tup xs=>xs.all fun x=>match x with
  |.dv d=>d.free
  |.sl .. | .ptr .. | .mp _=>true
  |.vs .. | .emp | .slc .. => true
  |_=>false
 |_=>true
def Blk.free:Blk->Bool
 |.var x=>x.free
 |.rowI .. | .dead=>true
 |_=>false
def memN:List Nat->Nat->Bool
 |[],_=>false
 |x::r,y=>match Nat.beq x y with
  |true=>true
  |false=>memN r y
def viewAll (H:Nat->Blk):List Bool->List AV->List AV
 |[],xs=>xs
 |_::_,[]=>[]
 |b::m,x::r=>(match b with|true=>view H x|false=>x)::viewAll H m r
def lentOf:List Bool->List AV->List Nat
 |[],_=>[]
 |_::_,[]=>[]
 |b::m,x::r=>match b with|true=>x.refs++lentOf m r|false=>lentOf m r
def isDead:Blk->Bool
 |.dead=>true
 |_=>false
def SOK (H:Nat->Blk) (lent:List Nat):List (Nat×Blk)->Prop
 |[]=>True
 |(b,x)::S=>(memN lent b=false/\H b=x)/\SOK H lent S
def freeAll:List (Nat×Blk)->Bool
 |[]=>true
 |(_,x)::r=>match x.free with|true=>freeAll r|false=>false
def bornIn (H:Nat->Blk) (S:List (Nat×Blk)):List (Nat×Blk)->Bool
 |[]=>true
 |(b,_)::r=>match memN (S.map Prod.fst) b,isDead (H b) with
  |false,false=>false
  |_,_=>bornIn H S r
def wrOK (H:Nat->Blk) (S:List (Nat×Blk)) (lent:List Nat) (r:AV) (wr:List (Nat×Blk)):Bool :=
 match lent with
 |[]=>bornIn H S wr
 |_=>(match r.free,freeAll wr with
  |true,true=>bornIn H S wr
  |_,_=>false)
def ViewEq (x y:AV):Prop:=x=y\/(∃ la n f g,y = .dv (.ro la n f)/\x = .dv (.ro la n g)/\∀ j,j<n->g j=f j)\/(y = .dv (.sc (.slice none 0 0))/\((∃ k,x = .dv (.roI k []))\/∃ la f,x = .dv (.ro la 0 f)))
def ViewEqs:List AV->List AV->Prop
 |[],[]=>True
 |x::xs,y::ys=>ViewEq x y/\ViewEqs xs ys
 |_,_=>False
def CallP (f:FuncId) (args:List AV) (H:Nat->Blk) (m:List Bool) (S:List (Nat×Blk)) (r:AV) (wr:List (Nat×Blk)):Prop :=
 (∃ args',Fn P G f args' S r wr/\ViewEqs args' (viewAll H m args))/\SOK H (lentOf m args) S/\wrOK H S (lentOf m args) r wr=true
def capK (t:TypeId) (x:AV) (K:Int->Prop):Prop :=
 match (T.get t).kind with
 |.sli _=>(match x with
  |.dv (.sc (.slice none 0 0))=>K 0
  |.emp=>K 0
  |.slc _ _ _ c=>K c
  |_=>False)
 |_=>False
def callK (key:Nat) (c:Call) (ρ:Operand->AV) (H:Nat->Blk) (K:Cont):Prop :=
 match c.callee with
 |.value g=>(match ρ g with
  |.fn f caps=>∃ m S r wr,CallP P G f (c.args.toList.map (fun x=>norm (ρ x))++caps) H m S r wr/\K (lentOf m (c.args.toList.map (fun x=>norm (ρ x))++caps)++S.map Prod.fst) wr r
  |_=>False)
 |.builtin .len=>(match c.args.toList,c.argTypes.toList with|[x],[t]=>lenK T t H (ρ x) fun rd n=>K rd [] (.int .i64 n)|_,_=>False)
 |.builtin .append=>(match c.args.toList with|[s,x]=>(match c.argTypes.toList with|[t,t2]=>(match isIntT T t2 with|true=>appendZK T key t H (ρ s) (ρ x) K|false=>appendK T key c.argTypes.toList H (ρ s) (ρ x) K)|_=>False)|_=>False)
 |.builtin .min=>(match c.args.toList with|[x,y]=>(intK (ρ x) fun k a=>intK (ρ y) fun _ b=>K [] [] (.int k (if b<a then b else a)))|_=>False)
 |.builtin .cap=>(match c.args.toList,c.argTypes.toList with|[x],[t]=>capK T t (ρ x) fun n=>K [] [] (.int .i64 n)|_,_=>False)
 |.builtin .copy=>(match c.args.toList with|[s,x]=>copyK T c.argTypes.toList H (ρ s) (ρ x) K|_=>False)
 |_=>False
def opK (key:Nat) (o:Op) (ρ:Operand->AV) (H:Nat->Blk) (K:Cont):Prop :=
 match o with
 |.move x | .assign x=>K [] [] (ρ x)
 |.pick c a b=>boolK (ρ c) fun t=>(match t with|true=>K [] [] (ρ a)|false=>K [] [] (ρ b))
 |.alloc t=>(match Nat.blt 0 (T.get t).size with|true=>K [] [(key,.var (.dv (T.get t).zero))] (.ptr key [] (T.get t).lay)|false=>False)
 |.box t x=>(match solid (ρ x),decide ((ρ x).lay=(T.get t).lay) with|true,true=>K [] [(key,.var (norm (ρ x)))] (.ptr key [] (T.get t).lay)|_,_=>False)
 |.build t parts=>buildK T t (parts.toList.map fun (i,x)=>(i,ρ x)) H K
 |.buildSlice t len parts=>buildSliceK T key t len H (parts.toList.map fun (i,x)=>(i,ρ x)) K
 |.load t a=>loadK T t H (ρ a) K
 |.store t a x=>storeK T t H (ρ a) (ρ x) K
 |.nilCheck x=>(match ρ x with | .ptr b p l=>K [] [] (.ptr b p l) | .rp d=>K [] [] (.rp d) | .fn f c=>K [] [] (.fn f c)|_=>False)
 |.binOp op t x y _=>binK T op t (isC x) (isC y) (ρ x) (ρ y) fun v=>K [] [] v
 |.unOp op _ x=>unK op (ρ x) fun v=>K [] [] v
 |.convert s d x=>convertK T key s d H (ρ x) K
 |.makeSlice t l c=>makeSliceK T key t (ρ l) (ρ c) K
 |.slice t x lo hi mx=>sliceK T t H (ρ x) (lo.map ρ) (hi.map ρ) (mx.map ρ) K
 |.fieldAddr t x f=>(match ρ x with
  |.ptr b p l=>fieldK T t f l fun l'=>K [] [] (.ptr b (p++[f]) l')
  |.rp d=>fieldK T t f d.lay fun _=>K [] [] (.rp (d.part f))
  |_=>False)
 |.field t x f=>fieldK T t f (ρ x).lay fun _=>K [] [] ((ρ x).part f)
 |.indexAddr t x i=>indexAddrK T t (ρ x) i (ρ i) K
 |.index t x i=>indexK T t (ρ x) i (ρ i) K
 |.extract x i=>(match ρ x with | .tup xs=>(match xs[i]? with|some y=>K [] [] y|none=>False)|_=>False)
 |.call c=>callK P G T key c ρ H K
 |.makeFunc fn first caps=>(match fn with
  |.func f=>(match first.toList,caps.toList.all (fun x=>solid (ρ x)) with|[],true=>K [] [] (.fn f (caps.toList.map fun x=>norm (ρ x)))|_,_=>False)
  |_=>False)
 |.sliceToArrayPointer t x=>arrayPtrK T t H (ρ x) K
 |_=>False
def hOf (bs:List Blk) (i:Nat):Blk:=bs.getD i .dead
def ev (ts:List AV):Operand->AV
 |.tmp t=>ts.getD t .any
 |.const v=>ofConst v
 |.global g=>G g
 |.func f => .fn f []
def setK {α:Type}:List α->Nat->α->(List α->Prop)->Prop
 |[],_,_,_=>False
 |x::r,i,y,K=>match i with
  |0=>K (y::r)
  |i+1=>setK r i y fun r'=>K (x::r')
def padK:List Blk->Nat->Blk->(List Blk->Prop)->Prop
 |[],i,y,K=>(match i with
  |0=>K [y]
  |i+1=>padK [] i y fun r'=>K (.dead::r'))
 |x::r,i,y,K=>match i with
  |0=>K (y::r)
  |i+1=>padK r i y fun r'=>K (x::r')
termination_by structural _ i=>i
def forceV:Value->(Value->Prop)->Prop
 |.bool b,K=>K (.bool b)
 |.int k n,K=>K (.int k n)
 |.iface t v,K=>K (.iface t v)
 |v,K=>K v
def forceD:DV->(DV->Prop)->Prop
 |.sc v,K=>forceV v fun v=>K (.sc v)
 |.bl b,K=>K (.bl b)
 |.str l,K=>K (.str l)
 |.ints k n l,K=>K (.ints k n l)
 |.nil,K=>K .nil
 |.cons d ds,K=>forceD d fun d=>forceD ds fun ds=>K (.cons d ds)
 |.fam n l f,K=>K (.fam n l f)
 |.roI k l,K=>K (.roI k l)
 |.ro l n f,K=>K (.ro l n f)
termination_by structural x=>x
def forceL:Lay->(Lay->Prop)->Prop
 |.one,K=>K .one
 |.unit,K=>K .unit
 |.pair a b,K=>forceL a fun a=>forceL b fun b=>K (.pair a b)
 |.arr n l,K=>forceL l fun l=>K (.arr n l)
termination_by structural x=>x
def forceA:AV->(AV->Prop)->Prop
 |.any,K=>K .any
 |.dv d,K=>forceD d fun d=>K (.dv d)
 |.cons x xs,K=>forceA x fun x=>forceA xs fun xs=>K (.cons x xs)
 |.ptr b p l,K=>forceL l fun l=>K (.ptr b p l)
 |.rp d,K=>forceD d fun d=>K (.rp d)
 |.sl b p l o n,K=>forceL l fun l=>K (.sl b p l o n)
 |.fn f c,K=>K (.fn f c)
 |.tup xs,K=>K (.tup xs)
 |.mp b,K=>K (.mp b)
 |.stamp b,K=>K (.stamp b)
 |.yld b,K=>K (.yld b)
 |.vs b o n,K=>K (.vs b o n)
 |.slc b o n c,K=>K (.slc b o n c)
 |.emp,K=>K .emp
 |.nq g n,K=>K (.nq g n)
 |.ifc t x,K=>forceA x fun x=>K (.ifc t x)
termination_by structural x=>x
def forceB:Blk->(Blk->Prop)->Prop
 |.dead,K=>K .dead
 |.var x,K=>forceA x fun x=>K (.var x)
 |.rowI k l,K=>K (.rowI k l)
 |.row l n f,K=>K (.row l n f)
 |.frzI k l,K=>K (.frzI k l)
 |.frz l n f,K=>K (.frz l n f)
 |.mp f es,K=>K (.mp f es)
 |.mpn f es k c,K=>K (.mpn f es k c)
 |.lp L s,K=>K (.lp L s)
def putK (ts:List AV) (d:Option Nat) (x:AV) (K:List AV->Prop):Prop :=
 match d with
 |none=>K ts
 |some d=>forceA x fun x=>setK ts d x K
def wrK:List Blk->List (Nat×Blk)->(List Blk->Prop)->Prop
 |bs,[],K=>K bs
 |bs,(i,b)::r,K=>forceB b fun b=>padK bs i b fun bs'=>wrK bs' r K
termination_by structural _ wr=>wr
inductive Ex where
 |normal
 |exit (id:Nat)
 |goto (l:Nat)
 |ret
abbrev Post:=Ex->List AV->List Blk->Prop
abbrev Foot:=List Nat×List Nat
def newOK (bs:List Blk):List (Nat×Blk)->Bool
 |[]=>true
 |(b,_)::r=>match isDead (hOf bs b),Nat.blt b bs.length with
  |true,true=>false
  |_,_=>newOK bs r
def guardK (all:List Oper) (o:Oper) (ts:List AV) (K:Bool->List AV->Prop):Prop :=
 match o.guard with
 |none=>K true ts
 |some (j,want)=>match (all.getD j default).dst with
  |none=>False
  |some d=>match ts.getD d .any with
   |.dv (.sc (.bool b))=>(match b,want with
    |true,true=>K true ts
    |false,false=>K true ts
    |_,_=>K false ts)
   |.dv (.bl b)=>split b fun b'=>setK ts d (.dv (.sc (.bool b'))) fun ts=>(match b',want with
    |true,true=>K true ts
    |false,false=>K true ts
    |_,_=>K false ts)
   |.tup []=>K false ts
   |_=>False
def hintOp:Op->Nat
 |.store .. => 1
 |.buildSlice .. => 1
 |.makeSlice .. => 2
 |.mapUpdate .. => 1
 |.insert .. => 1
 |.mapEntry .. => 1
 |.entryStore .. => 1
 |.slice .. => 2
 |.convert .. => 2
 |.call c=>(match c.callee with
  |.builtin b=>(match b with
   |.append=>2
   |.copy=>2
   |.delete=>1
   |_=>0)
  |_=>0)
 |_=>0
def hintB (m:Nat) (x:Blk) (K:Blk->Prop):Prop:=match m with
 |0=>K x
 |m+1=>match x with
  |.row la n f=>∃ n' g,(n'=n/\∀ j,j<n->g j=f j)/\K (.row la n' g)
  |.rowI k l=>(match m with
   |0=>K (.rowI k l)
   |_+1=>∃ l',l'=l/\K (.rowI k l'))
  |.mp f es=>∃ es',es'=es/\K (.mp f es')
  |.mpn f es k c=>∃ es',es'=es/\K (.mpn f es' k c)
  |x=>K x
def hintW (m:Nat):List (Nat×Blk)->(List (Nat×Blk)->Prop)->Prop
 |[],K=>K []
 |(b,x)::r,K=>hintB m x fun y=>hintW m r fun r'=>K ((b,y)::r')
def hintV (m:Nat) (x:AV) (K:AV->Prop):Prop:=match m with
 |2=>(match x with
  |.sl b p l off len=>∃ off' len',(off'=off/\len'=len)/\K (.sl b p l off' len')
  |.dv d=>(match d with
   |.str l=>∃ l',l'=l/\K (.dv (.str l'))
   |.roI k l=>∃ l',l'=l/\K (.dv (.roI k l'))
   |.ro la n f=>∃ n' g,(n'=n/\∀ j,j<n->g j=f j)/\K (.dv (.ro la n' g))
   |d=>K (.dv d))
  |x=>K x)
 |_=>K x
def shutOp:Op->Bool
 |.buildSlice .. => true
 |.makeSlice .. => true
 |.convert .. => true
 |.extract .. => true
 |.call _=>true
 |_=>false
def shutK (m:Bool) (H:Nat->Blk) (rd:List Nat) (wr:List (Nat×Blk)) (v:AV) (K:Cont):Prop:=match m with
 |true=>(match v with
  |.sl b p la off len=>K rd wr (.sl b p la off len)\/freezeK (updB H wr) (.sl b p la off len) fun rd' wr' d=>hintV 2 (.dv d) fun v=>K (rd++rd') (wr++wr') v
  |v=>K rd wr v)
 |false=>K rd wr v
abbrev RoundT:=Nat->List (List AV)->List AV->(Bool->List Blk->Prop)->List Blk->Prop
def noY:RoundT:=fun _ _ _ _ _=>False
def yldOf (ρ:Operand->AV):Op->Option (Nat×List AV)
 |.call c=>(match c.callee with
  |.value g=>(match ρ g with
   |.yld yb=>some (yb,c.args.toList.map fun x=>norm (ρ x))
   |_=>none)
  |_=>none)
 |_=>none
def opsK (O:List (List AV)) (Y:RoundT) (all:List Oper):List Oper->List AV->List Blk->List Foot->(List AV->List Blk->List Foot->Prop)->Prop
 |[],ts,bs,fs,K=>K ts bs fs
 |o::r,ts,bs,fs,K=>guardK all o ts fun b ts=>(match b with
  |true=>(match yldOf (ev G ts) o.op with
   |some (yb,args)=>Y yb (ts::O) args (fun b bs'=>putK ts o.dst (.dv (.sc (.bool b))) fun ts'=>opsK O Y all r ts' bs' (([],[])::fs) K) bs
   |none=>opK P G T bs.length o.op (ev G ts) (hOf bs) fun rd wr v=>hintW (hintOp o.op) wr fun wr=>hintV (hintOp o.op) v fun v=>shutK (shutOp o.op) (hOf bs) rd wr v fun rd wr v=>(match newOK bs wr with
    |true=>putK ts o.dst v fun ts'=>wrK bs wr fun bs'=>opsK O Y all r ts' bs' ((rd,wr.map Prod.fst)::fs) K
    |false=>False))
  |false=>putK ts o.dst (.tup []) fun ts'=>opsK O Y all r ts' bs (([],[])::fs) K)
def edgesOf (o:Oper):List Nat:=o.after.toList.filterMap fun e=>match Region.binds .any e with
 |true=>some e.on
 |false=>none
def addNs:List Nat->List Nat->List Nat
 |[],a=>a
 |x::r,a=>match memN a x with
  |true=>addNs r a
  |false=>addNs r (x::a)
def ancOf (acc:List (List Nat)):List Nat->List Nat->List Nat
 |[],a=>a
 |e::r,a=>match memN a e with
  |true=>ancOf acc r a
  |false=>ancOf acc r (addNs (acc.getD e []) (e::a))
def ancs:List Oper->List (List Nat)->List (List Nat)
 |[],acc=>acc
 |o::r,acc=>ancs r (acc++[ancOf acc (edgesOf o) []])
def reads (all:List Oper) (o:Oper):List Nat :=
 (o.op.operands.toList.filterMap fun x=>match x with | .tmp t=>some t|_=>none) ++
 (match o.guard with
  |some (g,_)=>(match (all.getD g default).dst with|some d=>[d]|none=>[])
  |none=>[])
def meetN (a b:List Nat):Bool:=match a with
 |[]=>false
 |x::r=>match memN b x with
  |true=>true
  |false=>meetN r b
def hasN (d:Option Nat) (l:List Nat):Bool:=match d with
 |some d=>memN l d
 |none=>false
def sameN (d e:Option Nat):Bool:=match d,e with
 |some d,some e=>Nat.beq d e
 |_,_=>false
def clash (all:List Oper) (oi:Oper) (fi:Foot) (oj:Oper) (fj:Foot):Bool :=
 match hasN oi.dst (reads all oj),hasN oj.dst (reads all oi),sameN oi.dst oj.dst,meetN fi.2 fj.1,meetN fi.2 fj.2,meetN fi.1 fj.2 with
 |false,false,false,false,false,false=>false
 |_,_,_,_,_,_=>true
def drawRow (all:List Oper) (oj:Oper) (fj:Foot) (anc:List Nat):Nat->List Oper->List Foot->Bool
 |_,[],_=>true
 |_,_::_,[]=>true
 |i,oi::os,fi::fs=>match memN anc i with
  |true=>drawRow all oj fj anc (i+1) os fs
  |false=>(match clash all oi fi oj fj with
   |true=>false
   |false=>drawRow all oj fj anc (i+1) os fs)
def allBelow (j:Nat):List Nat->Bool
 |[]=>true
 |e::r=>match Nat.blt e j with
  |true=>allBelow j r
  |false=>false
def drawGo (all:List Oper) (fs:List Foot) (an:List (List Nat)):Nat->List Oper->Bool
 |_,[]=>true
 |j,oj::r=>match allBelow j (edgesOf oj),drawRow all oj (fs.getD j ([],[])) (an.getD j []) 0 (all.take j) fs with
  |true,true=>drawGo all fs an (j+1) r
  |_,_=>false
def drawB (all:List Oper) (fs:List Foot):Bool:=drawGo all fs (ancs all []) 0 all
def thenK (K':List AV->List Blk->Prop) (K:Post):Post
 |.normal,ts,bs=>K' ts bs
 |.exit i,ts,bs=>K (.exit i) ts bs
 |.goto i,ts,bs=>K (.goto i) ts bs
 |.ret,ts,bs=>K .ret ts bs
def blockK (id:Nat) (K:Post):Post
 |.normal,ts,bs=>K .normal ts bs
 |.exit i,ts,bs=>match Nat.beq i id with
  |true=>K .normal ts bs
  |false=>K (.exit i) ts bs
 |.goto i,ts,bs=>K (.goto i) ts bs
 |.ret,ts,bs=>K .ret ts bs
def look:List (Nat×Nat)->Nat->Nat
 |[],b=>b
 |(i,j)::r,b=>match Nat.beq b i with
  |true=>j
  |false=>look r b
def AV.ren1 (σ:List (Nat×Nat)):AV->AV
 |.ptr b p l => .ptr (look σ b) p l
 |.sl b p l o n => .sl (look σ b) p l o n
 |.mp b => .mp (look σ b)
 |.vs b o n => .vs (look σ b) o n
 |.slc b o n c => .slc (look σ b) o n c
 |x=>x
def AV.ren (σ:List (Nat×Nat)):AV->AV
 |.ptr b p l => .ptr (look σ b) p l
 |.sl b p l o n => .sl (look σ b) p l o n
 |.mp b => .mp (look σ b)
 |.stamp b => .stamp (look σ b)
 |.yld b => .yld (look σ b)
 |.vs b o n => .vs (look σ b) o n
 |.slc b o n c => .slc (look σ b) o n c
 |.cons x xs => .cons (x.ren σ) (xs.ren σ)
 |.ifc t x => .ifc t (x.ren σ)
 |.fn f caps => .fn f (caps.map (AV.ren1 σ))
 |.tup xs => .tup (xs.map (AV.ren1 σ))
 |x=>x
def Blk.ren (σ:List (Nat×Nat)):Blk->Blk
 |.var x => .var (x.ren σ)
 |.mpn f es k c => .mpn f es k (look σ c)
 |x=>x
def AV.inB1 (p:Nat->Bool):AV->Bool
 |.ptr b _ _=>p b
 |.sl b _ _ _ _=>p b
 |.mp b=>p b
 |.vs b _ _=>p b
 |.slc b _ _ _=>p b
 |.dv _=>true
 |.rp _=>true
 |.any=>true
 |.emp=>true
 |_=>false
def allB1 (p:Nat->Bool):List AV->Bool
 |[]=>true
 |x::r=>match x.inB1 p with|true=>allB1 p r|false=>false
def AV.inB (p:Nat->Bool):AV->Bool
 |.ptr b _ _=>p b
 |.sl b _ _ _ _=>p b
 |.mp b=>p b
 |.stamp b=>p b
 |.yld b=>p b
 |.vs b _ _=>p b
 |.slc b _ _ _=>p b
 |.cons x xs=>(match x.inB p with|true=>xs.inB p|false=>false)
 |.ifc _ x=>x.inB p
 |.fn _ caps=>allB1 p caps
 |.tup xs=>allB1 p xs
 |_=>true
def Blk.inB (p:Nat->Bool):Blk->Bool
 |.var x=>x.inB p
 |.mpn _ _ _ c=>p c
 |_=>true
def below (n:Nat):Nat->Bool:=fun b=>Nat.blt b n
def fixB (σ:List (Nat×Nat)) (n:Nat):Nat->Bool:=fun b=>match Nat.blt b n with|true=>Nat.beq (look σ b) b|false=>false
def getU {α:Type}:List (Nat×α)->Nat->Option α
 |[],_=>none
 |(i,v)::r,j=>match Nat.beq j i with
  |true=>some v
  |false=>getU r j
def startK (D:List Nat) (U:List (Nat×AV)):Nat->List AV->(List AV->Prop)->Prop
 |_,[],K=>K []
 |i,x::r,K=>match getU U i with
  |some v=>forceA v fun v=>startK D U (i+1) r fun r'=>K (v::r')
  |none=>(match memN D i with
   |true=>startK D U (i+1) r fun r'=>K (.any::r')
   |false=>startK D U (i+1) r fun r'=>K (x::r'))
termination_by structural _ ts=>ts
def startB (B:List (Nat×Blk)):Nat->List Blk->(List Blk->Prop)->Prop
 |_,[],K=>K []
 |i,x::r,K=>match getU B i with
  |some v=>forceB v fun v=>startB B (i+1) r fun r'=>K (v::r')
  |none=>startB B (i+1) r fun r'=>K (x::r')
termination_by structural _ bs=>bs
def maskT (D:List Nat):Nat->List AV->List AV
 |_,[]=>[]
 |i,x::r=>(match memN D i with|true => .any|false=>x)::maskT D (i+1) r
termination_by structural _ ts=>ts
def eqBlk (σ:List (Nat×Nat)) (bs1:List Blk) (i:Nat) (x:Blk):Prop:=match x with
 |.dead=>True
 |x=>bs1.getD (look σ i) .dead=x.ren σ
def eqB (σ:List (Nat×Nat)) (B:List (Nat×Blk)) (bs1:List Blk):Nat->List Blk->Prop
 |_,[]=>True
 |i,x::r=>match getU B i with
  |some v=>eqBlk σ bs1 i v/\eqB σ B bs1 (i+1) r
  |none=>eqBlk σ bs1 i x/\eqB σ B bs1 (i+1) r
termination_by structural _ bs=>bs
def eqU (σ:List (Nat×Nat)) (ts1:List AV):List (Nat×AV)->Prop
 |[]=>True
 |(i,v)::r=>(match v with | .any=>eqU σ ts1 r|v=>ts1.getD i .any=v.ren σ/\eqU σ ts1 r)
def wrs:Code->List Nat
 |.region _ ops _=>ops.toList.filterMap fun o=>o.dst
 |.seq a b=>wrs a++wrs b
 |.cond _ a b=>wrs a++wrs b
 |.block _ b=>wrs b
 |.loop b=>wrs b
 |.scope b=>wrs b
 |_=>[]
def nilsK:List (Nat×Blk)->List AV->List Blk->(List AV->List Blk->Prop)->Prop
 |[],ts,bs,K=>K ts bs
 |(t,x)::r,ts,bs,K=>match ts.getD t .any with
  |.dv (.sc (.slice none 0 0))=>(match x with
   |.rowI k l=>(match l with
    |[]=>setK ts t (.sl bs.length [] .one 0 0) fun ts=>padK bs bs.length (.rowI k []) fun bs=>nilsK r ts bs K
    |_=>False)
   |.row l n f=>(match n with
    |0=>setK ts t (.sl bs.length [] l 0 0) fun ts=>padK bs bs.length (.row l 0 f) fun bs=>nilsK r ts bs K
    |_=>False)
   |_=>False)
  |_=>False
def nilsB:List (Nat×List Nat×Blk)->List Blk->(List Blk->Prop)->Prop
 |[],bs,K=>K bs
 |(b,p,y)::r,bs,K=>match hOf bs b with
  |.var x=>(match x.at p,locL x.lay p with
   |.dv (.sc (.slice none 0 0)),some (_,.one)=>(match y with
    |.rowI k l=>(match l with
     |[]=>(match decide ((x.setP p (.sl bs.length [] .one 0 0)).lay=x.lay) with
      |true=>forceA (x.setP p (.sl bs.length [] .one 0 0)) fun x'=>padK bs bs.length (.rowI k []) fun bs=>padK bs b (.var x') fun bs=>nilsB r bs K
      |false=>False)
     |_=>False)
    |.row la n f=>(match n with
     |0=>(match decide ((x.setP p (.sl bs.length [] la 0 0)).lay=x.lay) with
      |true=>forceA (x.setP p (.sl bs.length [] la 0 0)) fun x'=>padK bs bs.length (.row la 0 f) fun bs=>padK bs b (.var x') fun bs=>nilsB r bs K
      |false=>False)
     |_=>False)
    |_=>False)
   |_,_=>False)
  |_=>False
structure Fam (X:Type) where
 U:X->List (Nat×AV)
 B:X->List (Nat×Blk)
 μ:X->Nat
def stayT (p:Nat->Bool) (D:List Nat) (U:List (Nat×AV)):Nat->List AV->Bool
 |_,[]=>true
 |i,x::r=>match getU U i,memN D i with
  |none,false=>(match x.inB p with|true=>stayT p D U (i+1) r|false=>false)
  |_,_=>stayT p D U (i+1) r
termination_by structural _ ts=>ts
def underU (p:Nat->Bool):List (Nat×AV)->Bool
 |[]=>true
 |(_,v)::r=>match v.inB p with|true=>underU p r|false=>false
def underB (p:Nat->Bool) (B:List (Nat×Blk)):Nat->List Blk->Bool
 |_,[]=>true
 |i,x::r=>match getU B i with
  |some v=>(match v.inB p with|true=>underB p B (i+1) r|false=>false)
  |none=>(match x.inB p with|true=>underB p B (i+1) r|false=>false)
termination_by structural _ bs=>bs
def nodupN:List Nat->Bool
 |[]=>true
 |x::r=>match memN r x with|true=>false|false=>nodupN r
def keysB (k:Nat):List (Nat×Nat)->Bool
 |[]=>true
 |(i,_)::r=>match Nat.ble k i with|true=>keysB k r|false=>false
def outB (p:Nat->Bool):List (List AV)->Bool
 |[]=>true
 |ts::r=>match underU p (ts.map fun x=>(0,x)) with|true=>outB p r|false=>false
def meetB {X:Type} (F:Fam X) (k:Nat) (O:List (List AV)) (D:List Nat) (ts:List AV) (bs:List Blk) (y:X) (σ:List (Nat×Nat)):Bool :=
 match underU (below bs.length) (F.U y),underB (below bs.length) (F.B y) 0 bs,stayT (fixB σ bs.length) D (F.U y) 0 ts,outB (fixB σ bs.length) O with
 |true,true,true,true=>(match σ with
  |[]=>true
  |σ=>(match keysB k σ,nodupN ((List.range bs.length).map (look σ)) with|true,true=>true|_,_=>false))
 |_,_,_,_=>false
def Meets {X:Type} (F:Fam X) (k:Nat) (O:List (List AV)) (D:List Nat) (ts:List AV) (bs:List Blk) (ts1:List AV) (bs1:List Blk) (y:X) (σ:List (Nat×Nat)):Prop :=
 maskT D 0 ts1=maskT D 0 ts/\eqU σ ts1 (F.U y)/\eqB σ (F.B y) bs1 0 bs/\meetB F k O D ts bs y σ=true
def LoopP (k:Nat) (O:List (List AV)) (D:List Nat) (body:Post->List AV->List Blk->Prop) (K:Post) (ts:List AV) (bs:List Blk):Prop :=
 ∃ (Z:List Nat) (X:Type) (F:Fam X) (N:List (Nat×Blk)) (M:List (Nat×List Nat×Blk)) (x:X),nilsK N ts bs fun ts bs=>nilsB M bs fun bs =>
  Meets F k O (Z++D) ts bs ts bs x []/\∀ x,startK (Z++D) (F.U x) 0 ts fun ts'=>startB (F.B x) 0 bs fun bs' =>
   body (thenK (fun ts1 bs1=>∃ y σ,Meets F k O (Z++D) ts bs ts1 bs1 y σ/\F.μ y<F.μ x) K) ts' bs'
def unrK (body:Post->List AV->List Blk->Prop) (K:Post):Nat->List AV->List Blk->Prop
 |0,_,_=>False
 |n+1,ts,bs=>body (thenK (unrK body K n) K) ts bs
def LoopQ (k:Nat) (O:List (List AV)) (D:List Nat) (body:Post->List AV->List Blk->Prop) (K:Post) (ts:List AV) (bs:List Blk):Prop :=
 LoopP k O D body K ts bs\/∃ n,unrK body K n ts bs
def padN:Nat->List Blk->(List Blk->Prop)->Prop
 |0,bs,K=>K bs
 |n+1,bs,K=>padK bs bs.length .dead fun bs=>padN n bs K
def JoinP (k:Nat) (O:List (List AV)) (D:List Nat) (go:Post->Prop) (K:Post) (ts:List AV) (bs:List Blk):Prop :=
 go K\/∃ (Z:List Nat) (X:Type) (F:Fam X) (n:Nat),padN n bs fun bs=>(∀ x,startK (Z++D) (F.U x) 0 ts fun ts'=>startB (F.B x) 0 bs fun bs'=>K .normal ts' bs') /\
  go (thenK (fun ts1 bs1=>∃ (N:List (Nat×Blk)) (M:List (Nat×List Nat×Blk)),nilsK N ts1 bs1 fun ts1 bs1=>nilsB M bs1 fun bs1=>∃ y σ,Meets F k O (Z++D) ts bs ts1 bs1 y σ) K)
def leavesC:Code->Bool
 |.ret=>true
 |.exit _=>true
 |.goto _=>true
 |.seq a b=>(match leavesC a with|true=>true|false=>leavesC b)
 |.cond _ a b=>(match leavesC a with|true=>leavesC b|false=>false)
 |_=>false
def gotoK (l:Nat) (N:List AV->List Blk->Prop) (oth:Nat->List AV->List Blk->Prop) (K:Post):Post
 |.normal,ts,bs=>K .normal ts bs
 |.exit i,ts,bs=>K (.exit i) ts bs
 |.goto i,ts,bs=>match Nat.beq i l with
  |true=>N ts bs
  |false=>oth i ts bs
 |.ret,ts,bs=>K .ret ts bs
def JumpP (k:Nat) (O:List (List AV)) (D:List Nat) (body:Post->List AV->List Blk->Prop) (l:Nat) (oth:Nat->List AV->List Blk->Prop) (K:Post) (ts:List AV) (bs:List Blk):Prop :=
 body (gotoK l (fun _ _=>False) oth K) ts bs \/
 ∃ (Z:List Nat) (X:Type) (F:Fam X) (N:List (Nat×Blk)) (M:List (Nat×List Nat×Blk)) (x:X),nilsK N ts bs fun ts bs=>nilsB M bs fun bs =>
  Meets F k O (Z++D) ts bs ts bs x []/\∀ x,startK (Z++D) (F.U x) 0 ts fun ts'=>startB (F.B x) 0 bs fun bs' =>
   body (gotoK l (fun ts1 bs1=>∃ y σ,Meets F k O (Z++D) ts bs ts1 bs1 y σ/\F.μ y<F.μ x) oth K) ts' bs'
def jumps (k:Nat) (O:List (List AV)) (D:List Nat) (body:Nat->Post->List AV->List Blk->Prop) (K:Post):Nat->Nat->List AV->List Blk->Prop
 |0,_,_,_=>False
 |n+1,l,ts,bs=>JumpP k O D (body l) l (jumps k O D body K n) K ts bs
def scopeK (J:Nat->List AV->List Blk->Prop) (K:Post):Post
 |.normal,ts,bs=>K .normal ts bs
 |.exit i,ts,bs=>K (.exit i) ts bs
 |.goto i,ts,bs=>J i ts bs
 |.ret,ts,bs=>K .ret ts bs
def setLp (bs:List Blk) (yb:Nat) (st:LSt) (K:List Blk->Prop):Prop:=match hOf bs yb with
 |.lp L s=>(match s with
  |.busy=>padK bs yb (.lp L st) K
  |_=>False)
 |_=>False
def startLp (bs:List Blk) (yb:Nat) (K:List Blk->Prop):Prop:=match hOf bs yb with
 |.lp L s=>(match s with
  |.ready=>padK bs yb (.lp L .busy) K
  |_=>False)
 |_=>False
def roundPost (yb:Nat) (Kc:Bool->List Blk->Prop):Post
 |.normal,_,bs=>setLp bs yb .ready (Kc true)
 |.exit i,_,bs=>setLp bs yb (.done (.exit i)) (Kc false)
 |.goto l,_,bs=>setLp bs yb (.done (.goto l)) (Kc false)
 |.ret,_,bs=>setLp bs yb (.done .ret) (Kc false)
def setsK:List AV->List Tmp->List AV->(List AV->Prop)->Prop
 |ts,[],[],K=>K ts
 |ts,p::ps,x::xs,K=>forceA x fun x=>setK ts p x fun ts=>setsK ts ps xs K
 |_,_,_,_=>False
def afterK (yb:Nat) (ts:List AV) (K:Post) (bs:List Blk):Prop:=match hOf bs yb with
 |.lp _ s=>padK bs yb .dead fun bs=>(match s with
  |.ready=>K .normal ts bs
  |.done c=>(match c with
   |.exit i=>K (.exit i) ts bs
   |.goto l=>K (.goto l) ts bs
   |.ret=>K .ret ts bs
   |_=>False)
  |.busy=>False)
 |_=>False
abbrev ItT:=FuncId->Nat->List (List AV)->List AV->RoundT->(List Blk->Prop)->List Blk->Prop
def noIt:ItT:=fun _ _ _ _ _ _ _=>False
def roundK (L:Loop) (body:List (List AV)->Post->List AV->List Blk->Prop) (assign:List (List AV)->Post->List AV->List Blk->Prop) (yb:Nat) (ts:List AV) (ps:List Tmp):RoundT :=
 fun yb' O' args Kc bs=>match Nat.beq yb yb',hOf bs yb with
  |true,.lp L' s=>(match s with
   |.ready=>L'=L/\setsK ts ps args fun ts1 =>
    assign O' (thenK (fun ts2 bs2=>startLp bs2 yb fun bs3=>body O' (roundPost yb Kc) ts2 bs3) (fun _ _ _=>False)) ts1 bs
   |_=>False)
  |_,_=>False
def vcB (It:ItT) (k:Nat) (Y:RoundT) (ir:Bool):Code->List (List AV)->Option Nat->Post->List AV->List Blk->Prop
 |.skip,_,none,K,ts,bs=>K .normal ts bs
 |.region _ ops d,O,none,K,ts,bs=>(match d with
  |false=>opsK P G T O Y ops.toList ops.toList ts bs [] fun ts bs _=>K .normal ts bs
  |true=>opsK P G T O noY ops.toList ops.toList ts bs [] fun ts bs fs=>(match drawB ops.toList fs.reverse with
   |true=>K .normal ts bs
   |false=>False))
 |.seq a b,O,none,K,ts,bs=>vcB It k Y ir a O none (thenK (vcB It k Y ir b O none K) K) ts bs
 |.seq a b,O,some l,K,ts,bs=>(match (findLabel a l).isSome with
  |true=>vcB It k Y ir a O (some l) (thenK (vcB It k Y ir b O none K) K) ts bs
  |false=>vcB It k Y ir b O (some l) K ts bs)
 |.cond c a b,O,none,K,ts,bs=>(match c with
  |.tmp t=>(match ts.getD t .any with
   |.dv (.sc (.bool b'))=>(match b' with|true=>vcB It k Y ir a O none K ts bs|false=>vcB It k Y ir b O none K ts bs)
   |.nq g n=>(match g with
    |false=>(match leavesC a,leavesC b with
     |false,false=>JoinP k O (wrs a++wrs b) (fun K=>(n=0->vcB It k Y ir a O none K ts bs)/\vcB It k Y ir b O none K ts bs) K ts bs
     |_,_=>(n=0->vcB It k Y ir a O none K ts bs)/\vcB It k Y ir b O none K ts bs)
    |true=>(match leavesC a,leavesC b with
     |false,false=>JoinP k O (wrs a++wrs b) (fun K=>vcB It k Y ir a O none K ts bs/\(n=0->vcB It k Y ir b O none K ts bs)) K ts bs
     |_,_=>vcB It k Y ir a O none K ts bs/\(n=0->vcB It k Y ir b O none K ts bs)))
   |.dv (.bl b')=>(match leavesC a,leavesC b with
    |false,false=>JoinP k O (t::(wrs a++wrs b)) (fun K=>split b' fun b''=>setK ts t (.dv (.sc (.bool b''))) fun ts=>match b'' with|true=>vcB It k Y ir a O none K ts bs|false=>vcB It k Y ir b O none K ts bs) K ts bs
    |_,_=>split b' fun b''=>setK ts t (.dv (.sc (.bool b''))) fun ts=>match b'' with|true=>vcB It k Y ir a O none K ts bs|false=>vcB It k Y ir b O none K ts bs)
   |_=>False)
  |.const (.bool b')=>(match b' with|true=>vcB It k Y ir a O none K ts bs|false=>vcB It k Y ir b O none K ts bs)
  |_=>False)
 |.block id b,O,none,K,ts,bs=>JoinP k O (wrs b) (fun K=>vcB It k Y ir b O none (blockK id K) ts bs) K ts bs
 |.loop b,O,none,K,ts,bs=>LoopQ k O (wrs b) (vcB It k Y ir b O none) K ts bs
 |.exit i,_,none,K,ts,bs=>K (.exit i) ts bs
 |.label _,_,none,K,ts,bs=>K .normal ts bs
 |.label l',_,some l,K,ts,bs=>(match l'==l with|true=>K .normal ts bs|false=>False)
 |.goto l,_,none,K,ts,bs=>K (.goto l) ts bs
 |.ret,_,none,K,ts,bs=>K .ret ts bs
 |.scope b,O,none,K,ts,bs=>vcB It k Y ir b O none (scopeK (jumps k O (wrs b) (fun l=>vcB It k Y ir b O (some l)) K 4) K) ts bs
 |.rangeFunc g ps assign body,O,none,K,ts,bs=>(match ir,ev G ts g with
  |false,.fn f caps=>∀ L:Loop,padK bs bs.length .dead fun bs0=>padK bs0 bs0.length (.lp L .ready) fun bs1 =>
   It f k ([.yld bs0.length]::ts::O) (.yld bs0.length::caps) (roundK L (fun O'=>vcB It k Y true body O' none) (fun O'=>vcB It k Y true assign O' none) bs0.length ts ps.toList) (afterK bs0.length ts K) bs1
  |_,_=>False)
 |_,_,_,_,_,_=>False
termination_by structural c=>c
def vc (It:ItT) (k:Nat) (c:Code):Post->List AV->List Blk->Prop:=vcB P G T It k noY false c [] none
def itPost (K:List Blk->Prop):Post
 |.normal,_,bs=>K bs
 |.ret,_,bs=>K bs
 |_,_,_=>False
def itN:Nat->ItT
 |0=>noIt
 |n+1=>fun f k O args Y K bs=>∃ fn c,(P.funcs[f]?=some fn/\fn.body=some c/\(fn.name == "runtime.NumGoroutine")=false/\fn.results = #[]) /\
  vcB P G T (itN n) k Y false c O none (itPost K) (args++List.replicate (fn.ntmps-args.length) .any) bs
end
end Go.Eng

namespace Go.Eng
theorem locL_nil (l:Lay):locL l []=some (0,l):=by cases l<;>rfl
theorem locL_pair0 (a b:Lay) (p:List Nat):locL (.pair a b) (0::p)=locL a p:=rfl
theorem locL_pairS (a b:Lay) (i:Nat) (p:List Nat):locL (.pair a b) ((i+1)::p)=match locL b (i::p) with
  |some (o,l)=>some (a.size+o,l)
  |none=>none:=rfl
theorem locL_arr (n:Nat) (l:Lay) (i:Nat) (p:List Nat):locL (.arr n l) (i::p)=if i<n then (match locL l p with
    |some (o,l')=>some (i*l.size+o,l')
    |none=>none) else none:=rfl
theorem locL_cons {L:Lay}:∀ {i:Nat} {p:List Nat} {o:Nat} {l:Lay},locL L (i::p)=some (o,l) ->
  ∃ o1 l1 o2,locL L [i]=some (o1,l1)/\locL l1 p=some (o2,l)/\o=o1+o2:=by
 induction L with
 |one=>intro i p o l h;cases h
 |unit=>intro i p o l h;cases h
 |pair a b iha ihb =>
  intro i p o l h
  cases i with
  |zero=>rw [locL_pair0] at h;exact ⟨0,a,o,by rw [locL_pair0,locL_nil],h,by omega⟩
  |succ i =>
   rw [locL_pairS] at h
   split at h
   ·rename_i o' l' hb
    cases h
    obtain ⟨o1,l1,o2,h1,h2,h3⟩:=ihb hb
    exact ⟨a.size+o1,l1,o2,by rw [locL_pairS,h1],h2,by omega⟩
   ·cases h
 |arr n l1 ih =>
  intro i p o l h
  rw [locL_arr] at h
  split at h
  ·rename_i hi
   split at h
   ·rename_i o' l' hb
    cases h
    exact ⟨i*l1.size,l1,o',by rw [locL_arr,if_pos hi,locL_nil];rfl,hb,rfl⟩
   ·cases h
  ·cases h
theorem locL_append {p:List Nat}:∀ {L:Lay} {o1:Nat} {l1:Lay} {q:List Nat} {o2:Nat} {l:Lay},locL L p=some (o1,l1)->locL l1 q=some (o2,l)->locL L (p++q)=some (o1+o2,l):=by
 induction p with
 |nil=>intro L o1 l1 q o2 l h h2;rw [locL_nil] at h;cases h;simpa using h2
 |cons i p ih =>
  intro L o1 l1 q o2 l h h2
  obtain ⟨a,la,b,ha,hb,rfl⟩:=locL_cons h
  have hq:=ih hb h2
  clear ih h
  show locL L (i::(p++q))=_
  induction L generalizing i a with
  |one=>cases ha
  |unit=>cases ha
  |pair x y ihx ihy =>
   cases i with
   |zero=>rw [locL_pair0,locL_nil] at ha;cases ha;rw [locL_pair0,hq];simp
   |succ i =>
    rw [locL_pairS] at ha
    split at ha
    ·rename_i o' l' hy
     cases ha
     rw [locL_pairS,ihy i o' hy]
     simp;omega
    ·cases ha
  |arr n x ih =>
   rw [locL_arr] at ha
   split at ha
   ·rename_i hi
    rw [locL_nil] at ha
    cases ha
    rw [locL_arr,if_pos hi,hq]
    simp;omega
   ·cases ha
theorem locL_le {L:Lay}:∀ {p:List Nat} {o:Nat} {l:Lay},locL L p=some (o,l)->o+l.size≤L.size:=by
 induction L with
 |one=>intro p o l h;cases p with
  |nil=>rw [locL_nil] at h;cases h;simp
  |cons i p=>cases h
 |unit=>intro p o l h;cases p with
  |nil=>rw [locL_nil] at h;cases h;simp
  |cons i p=>cases h
 |pair a b iha ihb =>
  intro p o l h
  cases p with
  |nil=>rw [locL_nil] at h;cases h;simp
  |cons i p =>
   cases i with
   |zero=>rw [locL_pair0] at h;have:=iha h;simp only [Lay.size];omega
   |succ i =>
    rw [locL_pairS] at h
    split at h
    ·rename_i o' l' hb
     cases h
     have:=ihb hb
     simp only [Lay.size];omega
    ·cases h
 |arr n l1 ih =>
  intro p o l h
  cases p with
  |nil=>rw [locL_nil] at h;cases h;simp
  |cons i p =>
   rw [locL_arr] at h
   split at h
   ·rename_i hi
    split at h
    ·rename_i o' l' hb
     cases h
     have:=ih hb
     simp only [Lay.size]
     have h2:(i+1)*l1.size≤n*l1.size:=Nat.mul_le_mul_right _ hi
     rw [Nat.add_mul,Nat.one_mul] at h2
     omega
    ·cases h
   ·cases h
theorem flat_length (css:Nat->List Value) (s:Nat):∀ n,(∀ i,i<n->(css i).length=s)->((List.range n).flatMap css).length=n*s:=by
 intro n
 induction n with
 |zero=>intro _;simp
 |succ n ih =>
  intro h
  rw [List.range_succ,List.flatMap_append,List.length_append,ih fun i hi=>h i (by omega)]
  simp only [List.flatMap_cons,List.flatMap_nil,List.append_nil,h n (by omega)]
  rw [Nat.add_mul,Nat.one_mul]
theorem RepD.len {rd:Rd} {d:DV} {cs:List Value} (h:RepD rd d cs):cs.length=d.lay.size:=by
 induction h with
 |ints k n l h=>simp [DV.lay,Lay.size,h]
 |nil=>rfl
 |cons h h' ih ih'=>simp [DV.lay,Lay.size,ih,ih']
 |fam n l f css h hl ih=>rw [flat_length css l.size n fun i hi=>by rw [ih i hi,hl i hi]];rfl
 |_=>rfl
theorem RepA.len {E:Env} {x:AV} {cs:List Value} (h:RepA E x cs):cs.length=x.lay.size:=by
 induction h with
 |dv h=>exact h.len
 |cons h h' ih ih'=>simp [AV.lay,Lay.size,ih,ih']
 |_=>rfl
theorem RepD.one {rd:Rd} {d:DV} {cs:List Value} (h:RepD rd d cs) (hl:d.lay = .one):∃ v,cs=[v]/\(single v):=by
 cases h<;>first|exact ⟨_,rfl,by assumption⟩|exact ⟨_,rfl,trivial⟩|cases hl
theorem RepD.cells {rd:Rd} {d:DV} {cs:List Value} (h:RepD rd d cs):∀ v,v∈cs->single v:=by
 induction h with
 |sc v h=>intro u hu;rw [List.mem_singleton] at hu;rw [hu];exact h
 |ints k n l h=>intro u hu;rw [List.mem_map] at hu;obtain ⟨x,_,rfl⟩:=hu;trivial
 |nil=>intro u hu;cases hu
 |cons h h' ih ih'=>intro u hu;rcases List.mem_append.1 hu with hu|hu;exact ih u hu;exact ih' u hu
 |fam n l f css h hl ih =>
  intro u hu
  obtain ⟨i,hi,hu⟩:=List.mem_flatMap.1 hu
  exact ih i (List.mem_range.1 hi) u hu
 |_=>intro u hu;rw [List.mem_singleton] at hu;rw [hu];trivial
theorem take_drop_append {α:Type} (a b:List α) (n m:Nat) (h:a.length=n):((a++b).drop (n+m))=b.drop m:=by
 subst h;rw [List.drop_append];simp
theorem flat_drop (css:Nat->List Value) (s:Nat):∀ n i,(∀ i,i<n->(css i).length=s)->i<n->(((List.range n).flatMap css).drop (i*s)).take s=css i:=by
 intro n
 induction n with
 |zero=>intro i _ hi;omega
 |succ n ih =>
  intro i h hi
  have hlen:=flat_length css s n fun i hi=>h i (by omega)
  rw [List.range_succ,List.flatMap_append]
  simp only [List.flatMap_cons,List.flatMap_nil,List.append_nil]
  by_cases hin:i<n
  ·have hle:(i+1)*s≤n*s:=Nat.mul_le_mul_right _ hin
   rw [Nat.add_mul,Nat.one_mul] at hle
   rw [List.drop_append_of_le_length (by omega),List.take_append_of_le_length (by rw [List.length_drop];omega)]
   exact ih i (fun i hi=>h i (by omega)) hin
  ·obtain rfl:i=n:=by omega
   rw [List.drop_append,hlen,List.drop_eq_nil_of_le (Nat.le_of_eq hlen),Nat.sub_self,List.drop_zero,List.nil_append]
   rw [List.take_of_length_le (Nat.le_of_eq (h i hi))]
theorem RepD.part {rd:Rd} {d:DV} {cs:List Value} (h:RepD rd d cs):∀ {i o:Nat} {l:Lay},locL d.lay [i]=some (o,l) ->
  RepD rd (d.part i) ((cs.drop o).take l.size)/\(d.part i).lay=l:=by
 induction h with
 |ints k n l h =>
  intro i o l' hl
  simp only [DV.lay,locL_arr,locL_nil] at hl
  split at hl
  ·rename_i hi
   cases hl
   simp only [Lay.size,Nat.mul_one,DV.part,Nat.add_zero]
   refine ⟨?_,rfl⟩
   have hi':i<l.length:=by omega
   have e:((l.map (Value.int k)).drop i).take 1=[.int k (l.getD i 0)]:=by
    rw [List.drop_eq_getElem_cons (by simpa using hi')]
    simp [List.getD_eq_getElem?_getD,List.getElem?_eq_getElem hi']
   rw [e]
   exact .sc _ trivial
  ·cases hl
 |nil=>intro i o l hl;cases hl
 |cons h h' ih ih' =>
  rename_i d ds cs cs'
  intro i o l hl
  cases i with
  |zero =>
   simp only [DV.lay] at hl
   rw [locL_pair0,locL_nil] at hl
   cases hl
   refine ⟨?_,rfl⟩
   simp only [List.drop_zero,DV.part]
   rw [←h.len,List.take_left]
   exact h
  |succ i =>
   simp only [DV.lay] at hl
   rw [locL_pairS] at hl
   split at hl
   ·rename_i o' l' hb
    cases hl
    rw [take_drop_append _ _ _ _ h.len]
    exact ih' hb
   ·cases hl
 |fam n l f css h hl ih =>
  intro i o l' hl'
  simp only [DV.lay,locL_arr,locL_nil] at hl'
  split at hl'
  ·rename_i hi
   cases hl'
   simp only [DV.part,Nat.add_zero]
   rw [flat_drop css l.size n i (fun i hi=>by rw [(h i hi).len,hl i hi]) hi]
   exact ⟨h i hi,hl i hi⟩
  ·cases hl'
 |_=>intro i o l hl;cases hl
theorem take_take_drop {α:Type} (cs:List α) (o1 o2 s1 s2:Nat) (h:o2+s2≤s1):(((cs.drop o1).take s1).drop o2).take s2=(cs.drop (o1+o2)).take s2:=by
 rw [List.drop_take,List.take_take,List.drop_drop]
 congr 1
 omega
theorem RepD.at {rd:Rd} {p:List Nat}:∀ {d:DV} {cs:List Value},RepD rd d cs->∀ {o:Nat} {l:Lay},locL d.lay p=some (o,l) ->
  RepD rd (d.at p) ((cs.drop o).take l.size)/\(d.at p).lay=l:=by
 induction p with
 |nil =>
  intro d cs h o l hl
  rw [locL_nil] at hl
  cases hl
  rw [List.drop_zero,←h.len,List.take_length]
  exact ⟨h,rfl⟩
 |cons i p ih =>
  intro d cs h o l hl
  obtain ⟨o1,l1,o2,h1,h2,rfl⟩:=locL_cons hl
  obtain ⟨hp,hpl⟩:=h.part h1
  have:=ih hp (by rw [hpl];exact h2)
  rw [take_take_drop _ _ _ _ _ (locL_le h2)] at this
  exact this
theorem RepA.part {E:Env} {x:AV} {cs:List Value} (h:RepA E x cs):∀ {i o:Nat} {l:Lay},locL x.lay [i]=some (o,l) ->
  RepA E (x.part i) ((cs.drop o).take l.size)/\(x.part i).lay=l:=by
 induction h with
 |dv h=>intro i o l hl;obtain ⟨h1,h2⟩:=h.part hl;exact ⟨.dv h1,h2⟩
 |cons h h' ih ih' =>
  intro i o l hl
  cases i with
  |zero =>
   simp only [AV.lay] at hl
   rw [locL_pair0,locL_nil] at hl
   cases hl
   refine ⟨?_,rfl⟩
   simp only [List.drop_zero,AV.part]
   rw [←h.len,List.take_left]
   exact h
  |succ i =>
   simp only [AV.lay] at hl
   rw [locL_pairS] at hl
   split at hl
   ·rename_i o' l' hb
    cases hl
    rw [take_drop_append _ _ _ _ h.len]
    exact ih' hb
   ·cases hl
 |_=>intro i o l hl;cases hl
theorem RepA.at {E:Env} {p:List Nat}:∀ {x:AV} {cs:List Value},RepA E x cs->∀ {o:Nat} {l:Lay},locL x.lay p=some (o,l) ->
  RepA E (x.at p) ((cs.drop o).take l.size)/\(x.at p).lay=l:=by
 induction p with
 |nil =>
  intro d cs h o l hl
  rw [locL_nil] at hl
  cases hl
  rw [List.drop_zero,←h.len,List.take_length]
  exact ⟨h,rfl⟩
 |cons i p ih =>
  intro d cs h o l hl
  obtain ⟨o1,l1,o2,h1,h2,rfl⟩:=locL_cons hl
  obtain ⟨hp,hpl⟩:=h.part h1
  have:=ih hp (by rw [hpl];exact h2)
  rw [take_take_drop _ _ _ _ _ (locL_le h2)] at this
  exact this
def splice (cs:List Value) (o:Nat) (cy:List Value):List Value:=cs.take o++cy++cs.drop (o+cy.length)
theorem mkCons_lay (x xs:AV):(mkCons x xs).lay = .pair x.lay xs.lay:=by
 unfold mkCons;split<;>rfl
theorem RepA.dv_inv {E:Env} {d:DV} {cs:List Value} (h:RepA E (.dv d) cs):RepD E.rd d cs:=by cases h;assumption
theorem RepA.mkCons {E:Env} {x xs:AV} {cs cs':List Value} (h:RepA E x cs) (h':RepA E xs cs'):RepA E (mkCons x xs) (cs++cs'):=by
 unfold Eng.mkCons
 split
 ·exact .dv (.cons h.dv_inv h'.dv_inv)
 ·exact .cons h h'
theorem splice_left (a b cy:List Value) (o:Nat) (h:o+cy.length≤a.length):splice (a++b) o cy=splice a o cy++b:=by
 unfold splice
 rw [List.take_append_of_le_length (by omega),List.drop_append_of_le_length h]
 simp
theorem splice_right (a b cy:List Value) (o:Nat):splice (a++b) (a.length+o) cy=a++splice b o cy:=by
 unfold splice
 rw [List.take_append,List.drop_append]
 simp [Nat.add_assoc,Nat.add_sub_cancel_left]
 rw [List.take_of_length_le (by omega),List.drop_eq_nil_of_le (by omega)]
 simp
theorem flat_splice (css:Nat->List Value) (c:List Value) (s:Nat):∀ n i,(∀ i,i<n->(css i).length=s)->c.length=s->i<n ->
  (List.range n).flatMap (fun j=>if j=i then c else css j)=splice ((List.range n).flatMap css) (i*s) c:=by
 intro n
 induction n with
 |zero=>intro i _ _ hi;omega
 |succ n ih =>
  intro i h hc hi
  have hlen:=flat_length css s n fun i hi=>h i (by omega)
  simp only [List.range_succ,List.flatMap_append,List.flatMap_cons,List.flatMap_nil,List.append_nil]
  by_cases hin:i<n
  ·have hle:(i+1)*s≤n*s:=Nat.mul_le_mul_right _ hin
   rw [Nat.add_mul,Nat.one_mul] at hle
   rw [splice_left _ _ _ _ (by omega),ih i (fun i hi=>h i (by omega)) hc hin,if_neg (by omega)]
  ·obtain rfl:i=n:=by omega
   have e:(List.range i).flatMap (fun j=>if j=i then c else css j)=(List.range i).flatMap css:=by
    have:∀ (l:List Nat),(∀ j,j∈l->j≠i)->l.flatMap (fun j=>if j=i then c else css j)=l.flatMap css:=by
     intro l
     induction l with
     |nil=>intro _;rfl
     |cons x l ihl =>
      intro hl
      simp only [List.flatMap_cons]
      rw [if_neg (hl x (List.mem_cons_self ..)),ihl fun j hj=>hl j (List.mem_cons_of_mem _ hj)]
    exact this _ fun j hj=>by have:=List.mem_range.1 hj;omega
   rw [e,if_pos rfl]
   have:=splice_right ((List.range i).flatMap css) (css i) c 0
   rw [hlen,Nat.add_zero] at this
   rw [this]
   unfold splice
   rw [List.drop_of_length_le (by rw [h i hi];omega)]
   simp
theorem map_set_splice (k:IntKind) (l:List Int) (i:Nat) (x:Int) (h:i<l.length):(l.set i x).map (Value.int k)=splice (l.map (Value.int k)) i [.int k x]:=by
 unfold splice
 rw [List.set_eq_take_append_cons_drop,if_pos h]
 simp [List.map_take,List.map_drop]
theorem splice_take_drop (cs cy:List Value) (o1 s1 o2:Nat) (h:o2+cy.length≤s1) (hs:o1+s1≤cs.length) :
  splice cs o1 (splice ((cs.drop o1).take s1) o2 cy)=splice cs (o1+o2) cy:=by
 have hlen:(splice ((cs.drop o1).take s1) o2 cy).length=s1:=by
  unfold splice
  simp only [List.length_append,List.length_take,List.length_drop]
  omega
 unfold splice at hlen ⊢
 rw [hlen]
 have e1:((cs.drop o1).take s1).take o2=(cs.drop o1).take o2:=by rw [List.take_take];congr 1;omega
 have e2:((cs.drop o1).take s1).drop (o2+cy.length)=(cs.drop (o1+(o2+cy.length))).take (s1-(o2+cy.length)):=by
  rw [List.drop_take,List.drop_drop]
 rw [e1,e2]
 have e3:cs.take (o1+o2)=cs.take o1++(cs.drop o1).take o2:=by rw [List.take_add]
 have e4:cs.drop (o1+o2+cy.length)=(cs.drop (o1+(o2+cy.length))).take (s1-(o2+cy.length))++cs.drop (o1+s1):=by
  have:cs.drop (o1+s1)=(cs.drop (o1+(o2+cy.length))).drop (s1-(o2+cy.length)):=by rw [List.drop_drop];congr 1;omega
  rw [this,List.take_append_drop,Nat.add_assoc]
 rw [e3,e4]
 simp only [List.append_assoc]
theorem RepD.setA {E:Env} {d:DV} {cs:List Value} (h:RepD E.rd d cs):∀ {p:List Nat} {o:Nat} {l:Lay} {y:AV} {cy:List Value},locL d.lay p=some (o,l) ->
  RepA E y cy->y.lay=l->(d.setA p y).lay=d.lay->RepA E (d.setA p y) (splice cs o cy):=by
 induction h with
 |ints k n li hn =>
  intro p o l y cy hl hy hyl hz
  cases p with
  |nil =>
   rw [locL_nil] at hl;cases hl
   have e:splice (li.map (Value.int k)) 0 cy=cy:=by
    unfold splice;rw [List.take_zero,List.nil_append,Nat.zero_add,List.drop_of_length_le (by rw [hy.len,hyl];simp [DV.lay,Lay.size,hn])];simp
   rw [e];exact hy
  |cons i p =>
   simp only [DV.lay,locL_arr] at hl
   split at hl
   ·rename_i hi
    split at hl
    ·rename_i o' l' hb
     cases hl
     cases p with
     |nil =>
      rw [locL_nil] at hb;cases hb
      simp only [DV.setA] at hz ⊢
      split at hz
      ·rename_i k' x _
       split at hz
       ·rename_i hk
        obtain rfl:=kindEq_eq hk
        cases hy.dv_inv
        simp only [Lay.size,Nat.mul_one,Nat.add_zero]
        rw [←map_set_splice k li i x (by omega)]
        exact .dv (.ints _ _ _ (by simpa using hn))
       ·cases hz
      ·cases hz
     |cons j p=>cases hb
    ·cases hl
   ·cases hl
 |nil =>
  intro p o l y cy hl hy hyl hz
  cases p with
  |nil =>
   rw [locL_nil] at hl;cases hl
   have e:splice [] 0 cy=cy:=by unfold splice;simp
   rw [e];exact hy
  |cons i p=>cases hl
 |cons h h' ih ih' =>
  rename_i d ds cs cs'
  intro p o l y cy hl hy hyl hz
  cases p with
  |nil =>
   rw [locL_nil] at hl;cases hl
   have e:splice (cs++cs') 0 cy=cy:=by
    unfold splice;rw [List.take_zero,List.nil_append,Nat.zero_add,List.drop_of_length_le (by rw [hy.len,hyl];simp [DV.lay,Lay.size,h.len,h'.len])];simp
   rw [e];exact hy
  |cons i p =>
   have hcy:cy.length=l.size:=by rw [hy.len,hyl]
   cases i with
   |zero =>
    simp only [DV.lay] at hl
    rw [locL_pair0] at hl
    simp only [DV.setA] at hz ⊢
    rw [mkCons_lay] at hz
    injection hz with hz1 hz2
    rw [splice_left _ _ _ _ (by rw [h.len,hcy];exact locL_le hl)]
    exact (ih hl hy hyl hz1).mkCons (.dv h')
   |succ i =>
    simp only [DV.lay] at hl
    rw [locL_pairS] at hl
    split at hl
    ·rename_i o' l' hb
     cases hl
     simp only [DV.setA] at hz ⊢
     rw [mkCons_lay] at hz
     injection hz with hz1 hz2
     rw [←h.len,splice_right]
     exact RepA.mkCons (.dv h) (ih' hb hy hyl hz2)
    ·cases hl
 |fam n la f css h hla ih =>
  intro p o l y cy hl hy hyl hz
  cases p with
  |nil =>
   rw [locL_nil] at hl;cases hl
   have e:splice ((List.range n).flatMap css) 0 cy=cy:=by
    unfold splice;rw [List.take_zero,List.nil_append,Nat.zero_add,List.drop_of_length_le (by rw [hy.len,hyl,flat_length css la.size n fun i hi=>by rw [(h i hi).len,hla i hi]];simp [DV.lay,Lay.size])];simp
   rw [e];exact hy
  |cons i p =>
   have hcy:cy.length=l.size:=by rw [hy.len,hyl]
   simp only [DV.lay,locL_arr] at hl
   split at hl
   ·rename_i hi
    split at hl
    ·rename_i o' l' hb
     cases hl
     simp only [DV.setA] at hz ⊢
     split at hz
     ·rename_i d' hd'
      split at hz
      ·rename_i hdl
       have hdl:=of_decide_eq_true hdl
       have hr:=ih i hi (p:=p) (y:=y) (by rw [hla i hi];exact hb) hy hyl (by rw [hd',hla i hi];exact hdl)
       rw [hd'] at hr
       have hr:=hr.dv_inv
       have hlen:∀ j,j<n->(css j).length=la.size:=fun j hj=>by rw [(h j hj).len,hla j hj]
       have hcs:=flat_drop css la.size n i hlen hi
       have e:splice ((List.range n).flatMap css) (i*la.size+o') cy=(List.range n).flatMap (fun j=>if j=i then splice (css i) o' cy else css j):=by
        have hs:(splice (css i) o' cy).length=la.size:=by rw [hr.len,hdl]
        have hle:=locL_le hb
        have h2:(i+1)*la.size≤n*la.size:=Nat.mul_le_mul_right _ hi
        rw [Nat.add_mul,Nat.one_mul] at h2
        rw [flat_splice css _ la.size n i hlen hs hi,←splice_take_drop _ cy (i*la.size) la.size o' (by omega) (by rw [flat_length css la.size n hlen];exact h2),hcs]
       rw [e]
       refine .dv (.fam n la _ _ ?_ ?_)
       ·intro j hj
        by_cases e:j=i
        ·subst e;simp only [if_pos];exact hr
        ·simp only [if_neg e];exact h j hj
       ·intro j hj
        by_cases e:j=i
        ·subst e;simp only [if_pos];exact hdl
        ·simp only [if_neg e];exact hla j hj
      ·cases hz
     ·cases hz
    ·cases hl
   ·cases hl
 |_ =>
  intro p o l y cy hl hy hyl hz
  cases p with
  |nil =>
   rw [locL_nil] at hl;cases hl
   unfold splice
   simp only [List.take_zero,List.nil_append,Nat.zero_add]
   rw [List.drop_of_length_le (by rw [hy.len,hyl];simp [DV.lay,Lay.size]),List.append_nil]
   exact hy
  |cons i p=>cases hl
theorem RepA.setP {E:Env} {x:AV} {cs:List Value} (h:RepA E x cs):∀ {p:List Nat} {o:Nat} {l:Lay} {y:AV} {cy:List Value},locL x.lay p=some (o,l) ->
  RepA E y cy->y.lay=l->(x.setP p y).lay=x.lay->RepA E (x.setP p y) (splice cs o cy):=by
 have h0:∀ {x:AV} {cs:List Value},RepA E x cs->∀ {y:AV} {cy:List Value},RepA E y cy->y.lay=x.lay->splice cs 0 cy=cy:=by
  intro x cs h y cy hy hyl
  unfold splice
  rw [List.take_zero,List.nil_append,Nat.zero_add,List.drop_of_length_le (by rw [hy.len,hyl,h.len];exact Nat.le_refl _),List.append_nil]
 induction h with
 |dv h =>
  intro p o l y cy hl hy hyl hz
  cases p with
  |nil =>
   rw [locL_nil] at hl;cases hl
   rw [h0 (.dv h) hy hyl];exact hy
  |cons i p=>exact h.setA hl hy hyl hz
 |cons h h' ih ih' =>
  rename_i x xs cs cs'
  intro p o l y cy hl hy hyl hz
  cases p with
  |nil =>
   rw [locL_nil] at hl;cases hl
   rw [h0 (.cons h h') hy hyl];exact hy
  |cons i p =>
   have hcy:cy.length=l.size:=by rw [hy.len,hyl]
   cases i with
   |zero =>
    simp only [AV.lay] at hl
    rw [locL_pair0] at hl
    simp only [AV.setP] at hz ⊢
    rw [mkCons_lay] at hz
    injection hz with hz1 hz2
    rw [splice_left _ _ _ _ (by rw [h.len,hcy];exact locL_le hl)]
    exact (ih hl hy hyl hz1).mkCons h'
   |succ i =>
    simp only [AV.lay] at hl
    rw [locL_pairS] at hl
    split at hl
    ·rename_i o' l' hb
     cases hl
     simp only [AV.setP] at hz ⊢
     rw [mkCons_lay] at hz
     injection hz with hz1 hz2
     rw [←h.len,splice_right]
     exact RepA.mkCons h (ih' hb hy hyl hz2)
    ·cases hl
 |_ =>
  intro p o l y cy hl hy hyl hz
  cases p with
  |nil =>
   rw [locL_nil] at hl;cases hl
   unfold splice
   simp only [List.take_zero,List.nil_append,Nat.zero_add]
   rw [List.drop_of_length_le (by rw [hy.len,hyl];simp [AV.lay,Lay.size]),List.append_nil]
   exact hy
  |cons i p=>cases hl
end Go.Eng

namespace Go.Eng
theorem RepD.mono {rd rd':Rd} (hr:∀ r j v,rd r j=some v->rd' r j=some v) {d:DV} {cs:List Value} (h:RepD rd d cs):RepD rd' d cs:=by
 induction h with
 |sc v h=>exact .sc v h
 |bl b=>exact .bl b
 |str l=>exact .str l
 |ints k n l h=>exact .ints k n l h
 |nil=>exact .nil
 |cons h h' ih ih'=>exact .cons ih ih'
 |fam n l f css h hl ih=>exact .fam n l f css ih hl
 |roI k l r o c hc h=>exact .roI k l r o c hc fun j hj=>hr _ _ _ (h j hj)
 |roI0 k a c h=>exact .roI0 k a c h
 |ro l n f css r o c hc h hl hrd ih=>exact .ro l n f css r o c hc ih hl fun i hi j hj=>hr _ _ _ (hrd i hi j hj)
 |ro0 l f a c h=>exact .ro0 l f a c h
theorem RepA.ext {E E':Env} (hE:Ext E E') {x:AV} {cs:List Value} (h:RepA E x cs):RepA E' x cs:=by
 induction h with
 |dv h=>exact .dv (h.mono hE.rd)
 |cons h h' ih ih'=>exact .cons ih ih'
 |ptr b p l r o off hp hl =>
  have hb:E.pl b ≠ .unborn:=by rw [hp];intro h;cases h
  exact .ptr b p l r o off (by rw [hE.pl b hb];exact hp) (by rw [hE.lay b hb];exact hl)
 |rp r o h hr=>exact .rp r o (h.mono hE.rd) fun j hj=>hE.rd _ _ _ (hr j hj)
 |sl b p l off len r o so n c hp hl hn hc ht =>
  have hb:E.pl b ≠ .unborn:=by rw [hp];intro h;cases h
  exact .sl b p l off len r o so n c (by rw [hE.pl b hb];exact hp) (by rw [hE.lay b hb];exact hl) hn hc (by rw [hE.top b hb];exact ht)
 |sl0 b p l off a so n hp hl hn=>exact .sl0 b p l off a so n (by rw [hE.pl b hp];exact hp) (by rw [hE.lay b hp];exact hl) hn
 |mp b r hp hl =>
  have hb:E.pl b ≠ .unborn:=by rw [hp];intro h;cases h
  exact .mp b r (by rw [hE.pl b hb];exact hp) (by rw [hE.lay b hb];exact hl)
 |stamp b n hp ht =>
  have hb:E.pl b ≠ .unborn:=by rw [hp];intro h;cases h
  exact .stamp b n (by rw [hE.pl b hb];exact hp) (by rw [hE.top b hb];exact ht)
 |yld b r hp =>
  have hb:E.pl b ≠ .unborn:=by rw [hp];intro h;cases h
  exact .yld b r (by rw [hE.pl b hb];exact hp)
 |vs b off len r o n c hp hl hn hc =>
  have hb:E.pl b ≠ .unborn:=by rw [hp];intro h;cases h
  exact .vs b off len r o n c (by rw [hE.pl b hb];exact hp) (by rw [hE.lay b hb];exact hl) hn hc
 |slc b off len c r o n hp hl hn hc ht =>
  have hb:E.pl b ≠ .unborn:=by rw [hp];intro h;cases h
  exact .slc b off len c r o n (by rw [hE.pl b hb];exact hp) (by rw [hE.lay b hb];exact hl) hn hc (by rw [hE.top b hb];exact ht)
 |emp a=>exact .emp a
 |nq g n b h=>exact .nq g n b h
 |fn f caps css hlen h ih=>exact .fn f caps css hlen ih
 |tup xs css hlen h ih=>exact .tup xs css hlen ih
 |ifc t h ih=>exact .ifc t ih
theorem RepV.ext {E E':Env} (hE:Ext E E') {x:AV} {v:Value} (h:RepV E x v):RepV E' x v:=by
 rcases h with h|⟨cs,h,e⟩
 ·exact .inl h
 ·exact .inr ⟨cs,h.ext hE,e⟩
theorem Ext.refl (E:Env):Ext E E:=⟨fun _ _=>rfl,fun _ _=>rfl,fun _ _=>rfl,fun _ _ _ h=>h,rfl⟩
theorem Ext.trans {A B C:Env} (h:Ext A B) (k:Ext B C):Ext A C :=
 ⟨fun b hb=>(k.pl b (by rw [h.pl b hb];exact hb)).trans (h.pl b hb),fun b hb=>(k.lay b (by rw [h.pl b hb];exact hb)).trans (h.lay b hb),
  fun b hb=>(k.top b (by rw [h.pl b hb];exact hb)).trans (h.top b hb),fun _ _ _ hr=>k.rd _ _ _ (h.rd _ _ _ hr),k.fx.trans h.fx⟩
theorem GOK.ext {E E':Env} (hE:Ext E E') {G:Glob} (h:GOK E G):GOK E' G:=⟨fun g=>(h.1 g).ext hE,by rw [hE.fx];exact h.2⟩
theorem Mem.refl (E:Env) (H:Nat->Blk) (w:World):Mem E H w E w :=
 ⟨rfl,rfl,rfl,Nat.le_refl _,fun _ _ _=>rfl,fun _ _ _ h => .inl h,
  fun b r o h h'=>by rw [h] at h';cases h'⟩
theorem Mem.drew {E E':Env} {H:Nat->Blk} {w w':World} (h:Mem E H w.drew E' w'):Mem E H w E' w':=⟨h.os,h.tape,h.output,h.size,h.same,h.rd,h.new⟩
theorem Rel.drew {E:Env} {H:Nat->Blk} {w:World} (h:Rel E H w):Rel E H w.drew :=
 ⟨h.rd,h.blk,h.sep,h.apart,h.old,h.born,h.fit,h.fx,h.fxa⟩
theorem lt_of_heap {w:World} {r:Nat} {o:Obj} (h:w.heap[r]?=some o):r<w.heap.size:=(Array.getElem?_eq_some_iff.1 h).1
theorem Rel.fx_of {E:Env} {H:Nat->Blk} {w w':World} (hR:Rel E H w) (hs:∀ r,r<w.heap.size->(∀ b o,(H b).own=true->E.pl b = .at r o->False)->w'.heap[r]?=w.heap[r]?) {r:Nat} {o:Obj} (h:E.fx r=some o):w'.heap[r]?=some o:=by
 have h1:=hR.fx r o h
 rw [hs r (lt_of_heap h1) fun b q hb hp=>hR.fxa b r q o hb hp h,h1]
theorem Rel.fx_new {E:Env} {H:Nat->Blk} {w:World} (hR:Rel E H w) {r:Nat} {o:Obj} (h:E.fx r=some o):r<w.heap.size:=lt_of_heap (hR.fx r o h)
theorem Step.pure {E:Env} {H:Nat->Blk} {w:World} {x:AV} {v:Value} (hR:Rel E H w) (h:RepV E x v):Step E H w [] x v E w :=
 ⟨h,hR,.refl E,.refl E H w,fun _ h h'=>absurd h h',fun _ h => .inl h,fun _ _ _ _ _ _=>rfl⟩
theorem Step.drew {E E':Env} {H:Nat->Blk} {w w':World} {wr:List (Nat×Blk)} {x:AV} {v:Value} (h:Step E H w.drew wr x v E' w'):Step E H w wr x v E' w' :=
 ⟨h.val,h.rel,h.ext,h.mem.drew,h.born,h.live,h.others⟩
theorem RepV.any (E:Env) (v:Value):RepV E .any v := .inl rfl
theorem RepV.of {E:Env} {x:AV} {cs:List Value} {v:Value} (h:RepA E x cs) (e:v=ofCells x.isAgg cs):RepV E x v := .inr ⟨cs,h,e⟩
theorem RepV.one {E:Env} {x:AV} {v:Value} (h:RepA E x [v]) (hx:x.lay = .one):RepV E x v := .of h (by unfold AV.isAgg;rw [hx];rfl)
theorem RepV.agg {E:Env} {x:AV} {cs:List Value} (h:RepA E x cs) (hx:x.isAgg=true):RepV E x (.agg cs.toArray) := .of h (by rw [hx];rfl)
theorem isAgg_size {l:Lay} (h:l.isAgg=false):l = .one:=by cases l<;>first|rfl|cases h
theorem RepV.inv {E:Env} {x:AV} {v:Value} (h:RepV E x v) (hx:solid x=true):∃ cs,RepA E x cs/\v.cells.toList=cs/\v=ofCells x.isAgg cs:=by
 rcases h with rfl|⟨cs,h,e⟩
 ·cases hx
 ·refine ⟨cs,h,?_,e⟩
  cases ha:x.isAgg with
  |true=>rw [ha] at e;subst e;rfl
  |false =>
   have hl:=isAgg_size ha
   have hlen:=h.len
   rw [hl] at hlen
   obtain ⟨u,rfl⟩:∃ u,cs=[u]:=by
    cases cs with
    |nil=>cases hlen
    |cons u r=>cases r with
     |nil=>exact ⟨u,rfl⟩
     |cons _ _=>simp [Lay.size] at hlen
   have e':v=u:=by rw [ha] at e;exact e
   subst e'
   have:∀ (u:Value),u.cells.toList=[u]\/∃ q,u = .agg q:=by intro u;cases u<;>first|exact .inl rfl|exact .inr ⟨_,rfl⟩
   rcases this v with h1|⟨q,rfl⟩
   ·exact h1
   ·exfalso
    generalize hq:[Value.agg q]=cs at h
    cases h with
    |dv h=>obtain ⟨u,hu,hs⟩:=h.one hl;rw [←hq] at hu;injection hu with hu _;rw [←hu] at hs;exact hs
    |cons _ _=>cases hl
    |_=>injection hq with hq _;cases hq
theorem norm_rep {E:Env} {x:AV} {v:Value} (h:RepV E x v):RepV E (norm x) v:=by
 unfold norm
 split
 ·split
  ·split
   ·rcases h with h|⟨cs,h,e⟩
    ·cases h
    ·cases h.dv_inv
     exact .inr ⟨_,.dv (.bl _),e⟩
   ·exact h
  ·exact h
 ·exact h
theorem norm_lay (x:AV):(norm x).lay=x.lay:=by
 unfold norm
 split
 ·split
  ·split<;>rfl
  ·rfl
 ·rfl
theorem norm_solid (x:AV) (h:solid x=true):solid (norm x)=true:=by
 unfold norm
 split
 ·split
  ·split<;>rfl
  ·rfl
 ·exact h
theorem single_cell {v:Value} (h:single v):v.oneCell'=true:=by cases v<;>first|rfl|exact h.elim
theorem RepA.cells {E:Env} {x:AV} {cs:List Value} (h:RepA E x cs) (hx:solid x=true):∀ v,v∈cs->single v:=by
 induction h with
 |dv h=>exact h.cells
 |cons h h' ih ih' =>
  simp only [solid] at hx
  split at hx
  ·rename_i hx1
   intro u hu;rcases List.mem_append.1 hu with hu|hu;exact ih hx1 u hu;exact ih' hx u hu
  ·cases hx
 |tup _ _ _ _=>cases hx
 |_=>intro u hu;rw [List.mem_singleton] at hu;rw [hu];trivial
def zeq:Value->Value->Bool
 |.bool a,.bool b=>a==b
 |.int k a,.int k' b=>kindEq k k'&&a==b
 |.string a,.string b=>a.data.toList==[]&&b.data.toList==[]
 |.pointer none,.pointer none=>true
 |.slice none a b,.slice none c d=>a==c&&b==d
 |.map none,.map none=>true
 |.nilFunc,.nilFunc=>true
 |.nilIface,.nilIface=>true
 |_,_=>false
theorem zeq_eq {a b:Value} (h:zeq a b=true):a=b:=by
 unfold zeq at h
 split at h
 all_goals first
  |rfl
  |(simp at h;subst h;rfl)
  |(simp at h;obtain ⟨h1,h2⟩:=h;subst h2;first|subst h1;rfl|(rw [kindEq_eq h1]))
  |skip
 ·simp at h
  obtain ⟨h1,h2⟩:=h
  rename_i a b
  obtain ⟨⟨a⟩⟩:=a
  obtain ⟨⟨b⟩⟩:=b
  simp at h1 h2
  subst h1;subst h2;rfl
 ·cases h
def zcells:DV->Option (List Value)
 |.sc v=>if zeq v v then some [v] else none
 |.str l=>match l with
  |[]=>some [.string ⟨⟨[]⟩⟩]
  |_=>none
 |.ints k n l=>if l.length=n then some (l.map (.int k)) else none
 |.nil=>some []
 |.cons d ds=>match zcells d,zcells ds with
  |some a,some b=>some (a++b)
  |_,_=>none
 |.fam n l f=>if (List.range n).all (fun i=>decide ((f i).lay=l)&&(zcells (f i)).isSome) then some ((List.range n).flatMap fun i=>(zcells (f i)).getD []) else none
 |_=>none
theorem zcells_rep (rd:Rd):∀ {d:DV} {cs:List Value},zcells d=some cs->RepD rd d cs:=by
 intro d
 induction d with
 |sc v =>
  intro cs h
  simp only [zcells] at h
  split at h
  ·rename_i hz
   cases h
   refine .sc v ?_
   unfold zeq at hz
   split at hz<;>first|trivial|cases hz
  ·cases h
 |str l =>
  intro cs h
  simp only [zcells] at h
  split at h
  ·cases h;exact .str []
  ·cases h
 |ints k n l =>
  intro cs h
  simp only [zcells] at h
  split at h
  ·rename_i hn;cases h;exact .ints k n l hn
  ·cases h
 |nil=>intro cs h;simp only [zcells] at h;cases h;exact .nil
 |cons d ds ih ih' =>
  intro cs h
  simp only [zcells] at h
  split at h
  ·rename_i a b ha hb;cases h;exact .cons (ih ha) (ih' hb)
  ·cases h
 |fam n l f ih =>
  intro cs h
  simp only [zcells] at h
  split at h
  ·rename_i hall
   cases h
   rw [List.all_eq_true] at hall
   refine .fam n l f _ ?_ ?_
   ·intro i hi
    have:=hall i (List.mem_range.2 hi)
    simp only [Bool.and_eq_true,Option.isSome_iff_exists] at this
    obtain ⟨_,c,hc⟩:=this
    rw [hc]
    exact ih i hc
   ·intro i hi
    have:=hall i (List.mem_range.2 hi)
    simp only [Bool.and_eq_true,decide_eq_true_eq] at this
    exact this.1
  ·cases h
 |_=>intro cs h;cases h
def allzeq:List Value->List Value->Bool
 |[],[]=>true
 |a::r,b::s=>zeq a b&&allzeq r s
 |_,_=>false
theorem allzeq_eq:∀ {a b:List Value},allzeq a b=true->a=b
 |[],[],_=>rfl
 |a::r,b::s,h=>by
  simp only [allzeq,Bool.and_eq_true] at h
  rw [zeq_eq h.1,allzeq_eq h.2]
 |[],_::_,h=>by cases h
 |_::_,[],h=>by cases h
def kindB (P:Program) (T:Tr) (d:TypeDesc) (k:TK):Bool :=
 match k,d with
 |.int k,.int k'=>kindEq k k'
 |.bool,.bool=>true
 |.str,.string=>true
 |.arr n e,.array n' e'=>n==n'&&e==e'&&(P.info? e).isSome
 |.sli e,.slice e'=>e==e'&&(P.info? e).isSome
 |.struct fs,.struct fs'=>(fs'.toList.map fun f=>(f.offset,f.type))==fs&&fs.all fun f=>match P.info? f.2 with
  |some i=>i.size==(T.get f.2).size
  |none=>false
 |.ptr e,.pointer e'=>e==e'
 |.iface,.interface _=>true
 |.func,.func .. => true
 |.map k e,.map k' e'=>k==k'&&e==e'
 |.other,_=>true
 |_,_=>false
def aggB:TypeDesc->Bool
 |.struct _ | .array .. => true
 |_=>false
def aggV:Value->Bool
 |.agg _=>true
 |_=>false
def entryB (P:Program) (T:Tr) (t:TypeId):Bool :=
 match P.info? t,P.underlying t with
 |some i,some d=>kindB P T d (T.get t).kind&&i.size==(T.get t).size&&i.bytes==(T.get t).bytes&&(T.get t).lay.size==i.size&&(T.get t).lay.isAgg==aggB d &&
  decide ((T.get t).zero.lay=(T.get t).lay) &&
  (match i.zero,zcells (T.get t).zero with
  |some z,some cs=>allzeq z.cells.toList cs&&aggV z==aggB d
  |_,_=>false) &&
  (!(T.get t).eq||((P.eqGuardType P.depth t==false)&&(match d with
   |.struct fs=>P.stoodInHeld t==false&&fs.toList.all fun f=>f.name != "_"
   |_=>true)))
 |_,_=>false
def Tr.keys:Tr->List Nat
 |.leaf=>[]
 |.node l k _ r=>l.keys++k::r.keys
theorem Tr.get_mem {T:Tr} {t:Nat} (h:t ∉ T.keys):T.get t=⟨.other,0,0,.one,.nil,false⟩:=by
 induction T with
 |leaf=>rfl
 |node l k v r ihl ihr =>
  simp only [Tr.keys,List.mem_append,List.mem_cons,not_or] at h
  simp only [Tr.get]
  split
  ·rename_i hk;exact absurd (Nat.eq_of_beq_eq_true hk) h.2.1
  ·split
   ·exact ihl h.1
   ·exact ihr h.2.2
def TabOK (P:Program) (T:Tr):Prop:=(T.keys.all (entryB P T))=true
structure Entry (P:Program) (T:Tr) (t:TypeId):Prop where
 aggz:∀ i z,P.info? t=some i->i.zero=some z->aggV z=(T.get t).lay.isAgg
 info:∃ i d z cs,P.info? t=some i/\P.underlying t=some d/\kindB P T d (T.get t).kind=true/\i.size=(T.get t).size/\i.bytes=(T.get t).bytes /\
  (T.get t).lay.size=(T.get t).size/\(T.get t).lay.isAgg=aggB d/\(T.get t).zero.lay=(T.get t).lay/\i.zero=some z/\z.cells.toList=cs/\zcells (T.get t).zero=some cs /\
  ((T.get t).eq=true->P.eqGuardType P.depth t=false/\∀ fs,d = .struct fs->P.stoodInHeld t=false/\∀ f,f∈fs.toList->f.name ≠ "_")
theorem TabOK.entry {P:Program} {T:Tr} (h:TabOK P T) {t:TypeId} (ht:t∈T.keys):Entry P T t:=by
 unfold TabOK at h
 rw [List.all_eq_true] at h
 have h:=h t ht
 unfold entryB at h
 split at h
 ·rename_i i d hi hd
  simp only [Bool.and_eq_true,beq_iff_eq,decide_eq_true_eq] at h
  obtain ⟨⟨⟨⟨⟨⟨⟨h1,h2⟩,h3⟩,h4⟩,h5⟩,h6⟩,h7⟩,h8⟩:=h
  split at h7
  ·rename_i z cs hz hcs
   simp only [Bool.and_eq_true,beq_iff_eq] at h7
   obtain ⟨h7,h7'⟩:=h7
   refine ⟨fun i' z' hi' hz'=>by
    rw [hi] at hi';cases hi';rw [hz] at hz';cases hz';rw [h7',h5],?_⟩
   exact ⟨i,d,z,_,hi,hd,h1,h2,h3,by omega,h5,h6,hz,rfl,by rw [hcs,allzeq_eq h7],fun he=>by
    rw [he] at h8
    simp only [Bool.not_true,Bool.false_or,Bool.and_eq_true,beq_iff_eq] at h8
    refine ⟨h8.1,fun fs hfs => ?_⟩
    subst hfs
    have h9:=h8.2
    simp only [Bool.and_eq_true,beq_iff_eq,List.all_eq_true,bne_iff_ne] at h9
    exact h9⟩
  ·cases h7
 ·cases h
theorem mem_of_kind {T:Tr} {t:TypeId} (h:(T.get t).kind ≠ .other):t∈T.keys:=by
 by_cases ht:t∈T.keys
 ·exact ht
 ·rw [Tr.get_mem ht] at h;exact absurd rfl h
end Go.Eng

namespace Go.Eng
theorem upds_append (H:Nat->Blk) (a b:List (Nat×Blk)):upds H (a++b)=upds (upds H a) b:=by
 induction a generalizing H with
 |nil=>rfl
 |cons x a ih=>exact ih _
theorem upds_notin {c:Nat}:∀ {wr:List (Nat×Blk)} {H:Nat->Blk},(∀ z,z∈wr->z.1≠c)->upds H wr c=H c
 |[],_,_=>rfl
 |(i,x)::wr,H,h=>by
  show upds (upd1 H i x) wr c=H c
  rw [upds_notin fun z hz=>h z (List.mem_cons_of_mem _ hz)]
  unfold upd1
  rw [if_neg fun e=>h (i,x) (List.mem_cons_self ..) e.symm]
theorem at_born {E:Env} {b r o:Nat} (hp:E.pl b = .at r o):E.pl b ≠ .unborn:=by intro hu;rw [hp] at hu;cases hu
theorem Step.trans {E E1 E2:Env} {H:Nat->Blk} {w w1 w2:World} {wr wr':List (Nat×Blk)} {x y:AV} {u v:Value} (hR:Rel E H w) (h:Step E H w wr x u E1 w1) (k:Step E1 (upds H wr) w1 wr' y v E2 w2) :
  Step E H w (wr++wr') y v E2 w2:=by
 have hown:∀ b r o,(upds H wr b).own=true->E1.pl b = .at r o->w.heap.size≤r\/∃ b' o',(H b').own=true/\E.pl b' = .at r o'/\o'≤o/\E1.top b≤E.top b':=by
  intro b r o hb hp
  by_cases hu:E.pl b = .unborn
  ·exact h.mem.new b r o hu hp
  ·rcases h.live b hb with hl|hl
   ·exact .inr ⟨b,o,hl,by rw [←h.ext.pl b hu];exact hp,Nat.le_refl _,Nat.le_of_eq (h.ext.top b hu)⟩
   ·exact absurd hl hu
 refine ⟨k.val,by rw [upds_append];exact k.rel,h.ext.trans k.ext,?_,?_,?_,?_⟩
 ·refine ⟨k.mem.os.trans h.mem.os,k.mem.tape.trans h.mem.tape,k.mem.output.trans h.mem.output,Nat.le_trans h.mem.size k.mem.size,?_,?_,?_⟩
  ·intro r hr hno
   rw [←h.mem.same r hr hno]
   refine k.mem.same r (Nat.lt_of_lt_of_le hr h.mem.size) ?_
   intro b o hb hp
   rcases hown b r o hb hp with hs|⟨b',o',hb',hp',_,_⟩
   ·omega
   ·exact hno b' o' hb' hp'
  ·intro r j v hv
   rcases k.mem.rd r j v hv with hv|hv|⟨b,o,hb,hp,ho,ht⟩
   ·exact h.mem.rd r j v hv
   ·exact .inr (.inl (Nat.le_trans h.mem.size hv))
   ·rcases hown b r o hb hp with hs|⟨b',o',hb',hp',ho',ht'⟩
    ·exact .inr (.inl hs)
    ·exact .inr (.inr ⟨b',o',hb',hp',by omega,by omega⟩)
  ·intro b r o hu hp
   by_cases h1:E1.pl b = .unborn
   ·rcases k.mem.new b r o h1 hp with hs|⟨b',o',hb',hp',ho',ht'⟩
    ·exact .inl (Nat.le_trans h.mem.size hs)
    ·rcases hown b' r o' hb' hp' with hs|⟨b'',o'',hb'',hp'',ho'',ht''⟩
     ·exact .inl hs
     ·exact .inr ⟨b'',o'',hb'',hp'',by omega,by omega⟩
   ·rw [k.ext.pl b h1] at hp
    rw [k.ext.top b h1]
    exact h.mem.new b r o hu hp
 ·intro b hu hb
  rw [List.map_append,List.mem_append]
  by_cases h1:E1.pl b = .unborn
  ·exact .inr (k.born b h1 hb)
  ·exact .inl (h.born b hu h1)
 ·intro b hb
  rw [upds_append] at hb
  rcases k.live b hb with hl|hl
  ·exact h.live b hl
  ·refine .inr ?_
   refine Classical.byContradiction fun hne => ?_
   rw [h.ext.pl b hne] at hl
   exact hne hl
 ·intro b r o hb hp hno
  rw [List.map_append,List.mem_append] at hno
  have h1:=h.others b r o hb hp fun e=>hno (.inl e)
  rw [←h1]
  refine k.others b r o ?_ ?_ fun e=>hno (.inr e)
  ·rw [upds_notin fun z hz e=>hno (.inl (List.mem_map.2 ⟨z,hz,e⟩))];exact hb
  ·rw [h.ext.pl b (at_born hp)];exact hp
theorem add_at (r o j:Nat):(⟨r,o,none⟩:Addr).add j=⟨r,o+j,none⟩:=by
 unfold Addr.add;split
 ·rename_i h;subst h;rfl
 ·rfl
theorem cell_same {w w':World} {r:Nat} (h:w'.heap[r]?=w.heap[r]?) (j:Nat):w'.cell? ⟨r,j,none⟩=w.cell? ⟨r,j,none⟩:=by simp only [World.cell?,h]
theorem frozen_same {w w':World} {r:Nat} (h:w'.heap[r]?=w.heap[r]?) (j:Nat):w'.frozen? ⟨r,j,none⟩=w.frozen? ⟨r,j,none⟩:=by simp only [World.frozen?,h]
theorem BlkRel.congr {E:Env} {b:Nat} {w w':World} {x:Blk} (h:BlkRel E b w x) (hq:x.own=true->∀ r o,E.pl b = .at r o->w'.heap[r]?=w.heap[r]?):BlkRel E b w' x:=by
 have hc:x.own=true->∀ r o,E.pl b = .at r o->∀ j,w'.cell? ⟨r,j,none⟩=w.cell? ⟨r,j,none⟩/\w'.frozen? ⟨r,j,none⟩=w.frozen? ⟨r,j,none⟩:=fun h r o hp j=>⟨cell_same (hq h r o hp) j,frozen_same (hq h r o hp) j⟩
 have room:∀ r o s,(∀ j,w'.cell? ⟨r,j,none⟩=w.cell? ⟨r,j,none⟩/\w'.frozen? ⟨r,j,none⟩=w.frozen? ⟨r,j,none⟩)->Room E b w r o s->Room E b w' r o s:=by
  intro r o s hc ⟨h1,h2⟩
  exact ⟨h1,fun j hj hj'=>by rw [(hc j).1,(hc j).2];exact h2 j hj hj'⟩
 have rds:∀ r o cs,(∀ j,w'.cell? ⟨r,j,none⟩=w.cell? ⟨r,j,none⟩/\w'.frozen? ⟨r,j,none⟩=w.frozen? ⟨r,j,none⟩)->Reads (cellAt w) r o cs->Reads (cellAt w') r o cs:=by
  intro r o cs hc h j hj
  show w'.cell? _=_
  rw [(hc _).1];exact h j hj
 cases x with
 |dead=>trivial
 |var x =>
  obtain ⟨r,o,cs,hp,hl,hx,hr,ht,hm⟩:=h
  exact ⟨r,o,cs,hp,hl,hx,rds _ _ _ (hc rfl r o hp) hr,ht,room _ _ _ (hc rfl r o hp) hm⟩
 |rowI k l =>
  obtain ⟨hl,h|⟨r,o,hp,hr,hm⟩⟩:=h
  ·exact ⟨hl,.inl h⟩
  ·exact ⟨hl,.inr ⟨r,o,hp,rds _ _ _ (hc rfl r o hp) hr,room _ _ _ (hc rfl r o hp) hm⟩⟩
 |row la n f =>
  obtain ⟨hl,h|⟨r,o,css,hp,hf,hfl,hr,hm⟩⟩:=h
  ·exact ⟨hl,.inl h⟩
  ·exact ⟨hl,.inr ⟨r,o,css,hp,hf,hfl,fun i hi=>rds _ _ _ (hc rfl r o hp) (hr i hi),room _ _ _ (hc rfl r o hp) hm⟩⟩
 |frzI k l=>exact h
 |frz la n f=>exact h
 |mp f0 es =>
  obtain ⟨r,entries,clock,hp,hl,ht,hm,he⟩:=h
  exact ⟨r,entries,clock,hp,hl,ht,by rw [hq rfl r 0 hp];exact hm,he⟩
 |mpn f0 es kd c =>
  obtain ⟨hc,r,entries,clock,hp,hl,ht,hm,he⟩:=h
  exact ⟨hc,r,entries,clock,hp,hl,ht,by rw [hq rfl r 0 hp];exact hm,he⟩
 |lp L s =>
  obtain ⟨r,hp,hl,ht,hm⟩:=h
  exact ⟨r,hp,hl,ht,by rw [hq rfl r 0 hp];exact hm⟩
theorem RepEnts.mono {rd rd':Rd} (hr:∀ r j v,rd r j=some v->rd' r j=some v):∀ {es:List (DV×DV)} {ms:List MapEntry},RepEnts rd es ms->RepEnts rd' es ms
 |[],[],_=>trivial
 |(k,v)::es,m::ms,h=>⟨⟨h.1.1.mono hr,h.1.2.1,h.1.2.2.1.mono hr,h.1.2.2.2⟩,RepEnts.mono hr h.2⟩
 |[],_::_,h=>h.elim
 |_::_,[],h=>h.elim
theorem BlkRel.ext {E E':Env} (hE:Ext E E') {b:Nat} {w:World} {x:Blk} (hb:x ≠ .dead->E.pl b ≠ .unborn) (h:BlkRel E b w x):BlkRel E' b w x:=by
 cases x with
 |dead=>trivial
 |var x =>
  have hb:=hb (by intro h;cases h)
  obtain ⟨r,o,cs,hp,hl,hx,hr,ht,hm⟩:=h
  exact ⟨r,o,cs,by rw [hE.pl b hb];exact hp,by rw [hE.lay b hb];exact hl,hx.ext hE,hr,by rw [hE.top b hb];exact ht,by unfold Room;rw [hE.top b hb];exact hm⟩
 |rowI k l =>
  have hb:=hb (by intro h;cases h)
  obtain ⟨hl,h|⟨r,o,hp,hr,hm⟩⟩:=h
  ·exact ⟨by rw [hE.lay b hb];exact hl,.inl (by rw [hE.pl b hb];exact h)⟩
  ·exact ⟨by rw [hE.lay b hb];exact hl,.inr ⟨r,o,by rw [hE.pl b hb];exact hp,hr,by unfold Room;rw [hE.top b hb];exact hm⟩⟩
 |row la n f =>
  have hb:=hb (by intro h;cases h)
  obtain ⟨hl,h|⟨r,o,css,hp,hf,hfl,hr,hm⟩⟩:=h
  ·exact ⟨by rw [hE.lay b hb];exact hl,.inl (by rw [hE.pl b hb];exact h)⟩
  ·exact ⟨by rw [hE.lay b hb];exact hl,.inr ⟨r,o,css,by rw [hE.pl b hb];exact hp,fun i hi=>(hf i hi).mono hE.rd,hfl,hr,by unfold Room;rw [hE.top b hb];exact hm⟩⟩
 |mp f0 es =>
  have hb:=hb (by intro h;cases h)
  obtain ⟨r,entries,clock,hp,hl,ht,hm,he⟩:=h
  exact ⟨r,entries,clock,by rw [hE.pl b hb];exact hp,by rw [hE.lay b hb];exact hl,by rw [hE.top b hb];exact ht,hm,he.1.mono hE.rd,he.2⟩
 |mpn f0 es kd c =>
  have hb:=hb (by intro h;cases h)
  obtain ⟨hc,r,entries,clock,hp,hl,ht,hm,he,hes,hst,j,v,m,h1,h2,h3⟩:=h
  have hcb:E.pl c ≠ .unborn:=by rw [hc];intro h;cases h
  exact ⟨by rw [hE.pl c hcb];exact hc,r,entries,clock,by rw [hE.pl b hb];exact hp,by rw [hE.lay b hb];exact hl,by rw [hE.top b hb];exact ht,hm,he.mono hE.rd,hes,hst,j,v,m,h1,h2,by rw [hE.top c hcb];exact h3⟩
 |lp L s =>
  have hb:=hb (by intro h;cases h)
  obtain ⟨r,hp,hl,ht,hm⟩:=h
  exact ⟨r,by rw [hE.pl b hb];exact hp,by rw [hE.lay b hb];exact hl,by rw [hE.top b hb];exact ht,hm⟩
 |frzI k l =>
  have hb:=hb (by intro h;cases h)
  obtain ⟨hl,h|⟨r,o,hp,hr⟩⟩:=h
  ·exact ⟨by rw [hE.lay b hb];exact hl,.inl (by rw [hE.pl b hb];exact h)⟩
  ·exact ⟨by rw [hE.lay b hb];exact hl,.inr ⟨r,o,by rw [hE.pl b hb];exact hp,fun j hj=>hE.rd _ _ _ (hr j hj)⟩⟩
 |frz la n f =>
  have hb:=hb (by intro h;cases h)
  obtain ⟨hl,h|⟨r,o,css,hp,hf,hfl,hr⟩⟩:=h
  ·exact ⟨by rw [hE.lay b hb];exact hl,.inl (by rw [hE.pl b hb];exact h)⟩
  ·exact ⟨by rw [hE.lay b hb];exact hl,.inr ⟨r,o,css,by rw [hE.pl b hb];exact hp,fun i hi=>(hf i hi).mono hE.rd,hfl,fun i hi j hj=>hE.rd _ _ _ (hr i hi j hj)⟩⟩
theorem own_born {E:Env} {H:Nat->Blk} {w:World} (hR:Rel E H w) {b:Nat} (hb:H b ≠ .dead):E.pl b ≠ .unborn:=fun hu=>hb (hR.born b hu)
theorem own_dead {x:Blk} (h:x.own=true):x ≠ .dead:=by intro e;subst e;cases h
theorem Step.writeB {E:Env} {H:Nat->Blk} {w w':World} (hR:Rel E H w) {b r o:Nat} (hb:(H b).own=true) (hp:E.pl b = .at r o) {x:Blk}
  (hos:w'.os=w.os) (htape:w'.tape=w.tape) (hout:w'.output=w.output) (hsize:w'.heap.size=w.heap.size)
  (hother:∀ r',r'≠r->w'.heap[r']?=w.heap[r']?)
  (hblk:BlkRel E b w' x) {v:AV} {u:Value} (hv:RepV E v u):Step E H w [(b,x)] v u E w':=by
 have hH:∀ c,upds H [(b,x)] c=if c=b then x else H c:=fun c=>rfl
 have hne:∀ c r' o',c≠b->(H c).own=true->E.pl c = .at r' o'->r'≠r:=fun c r' o' hc hco hcp=>hR.sep c b r' o' r o hc hco hb hcp hp
 have hownb:∀ c,(upds H [(b,x)] c).own=true->(H c).own=true:=by
  intro c hc;rw [hH] at hc;split at hc
  ·rename_i e;rw [e];exact hb
  ·exact hc
 refine ⟨hv,⟨?_,?_,?_,?_,?_,?_,hR.fit,fun q ob h=>hR.fx_of (fun r' _ hno=>hother r' fun e=>hno b o hb (e▸hp)) h,fun c q p ob h1 h2 h3=>hR.fxa c q p ob (hownb c h1) h2 h3⟩,.refl E,⟨hos,htape,hout,Nat.le_of_eq hsize.symm,?_,fun _ _ _ h => .inl h,?_⟩,fun _ h h'=>absurd h h',fun c hc => .inl (hownb c hc),fun c r' o' hc hcp hno=>hother r' (hne c r' o' (fun e=>hno (by rw [e];exact List.mem_singleton.2 rfl)) hc hcp)⟩
 ·intro r' j v hv
  have hrr:r'≠r:=fun e=>hR.apart b r o j v hb hp (e▸hv)
  rw [cell_same (hother r' hrr)]
  exact hR.rd r' j v hv
 ·intro c
  rw [hH]
  split
  ·rename_i e;rw [e];exact hblk
  ·rename_i e
   refine (hR.blk c).congr fun hco r' o' hcp => ?_
   have hrr:=hne c r' o' e hco hcp
   exact hother r' hrr
 ·exact fun c c' r o r' o' hcc h1 h2=>hR.sep c c' r o r' o' hcc (hownb c h1) (hownb c' h2)
 ·exact fun c r o j v h1 h2 h3=>hR.apart c r o j v (hownb c h1) h2 h3
 ·exact fun c r o h1=>by rw [hsize];exact hR.old c r o h1
 ·intro c hc
  rw [hH]
  split
  ·rename_i e;rw [e] at hc;exact absurd hc (at_born hp)
  ·exact hR.born c hc
 ·exact fun r' _ hno=>hother r' fun e=>hno b o hb (e▸hp)
 ·intro c r' o' h1 h2
  rw [h1] at h2;cases h2
theorem Step.write {E:Env} {H:Nat->Blk} {w w':World} (hR:Rel E H w) {b r o:Nat} (hb:(H b).own=true) (hp:E.pl b = .at r o) {x:Blk}
  (hos:w'.os=w.os) (htape:w'.tape=w.tape) (hout:w'.output=w.output) (hsize:w'.heap.size=w.heap.size)
  (hother:∀ r',r'≠r->w'.heap[r']?=w.heap[r']?) (_hround:∀ j,(j<o\/E.top b≤j)->w'.cell? ⟨r,j,none⟩=w.cell? ⟨r,j,none⟩)
  (_hfrozen:∀ j,w'.frozen? ⟨r,j,none⟩=w.frozen? ⟨r,j,none⟩) (_hshape:w'.shape? r=w.shape? r) (hblk:BlkRel E b w' x) {v:AV} {u:Value} (hv:RepV E v u):Step E H w [(b,x)] v u E w' :=
 Step.writeB hR hb hp hos htape hout hsize hother hblk hv
def Env.birth (E:Env) (key r o:Nat) (l:Lay) (top:Nat):Env :=
 {E with pl:=fun b=>if b=key then .at r o else E.pl b,lay:=fun b=>if b=key then l else E.lay b,top:=fun b=>if b=key then top else E.top b }
theorem Env.birth_ext {E:Env} {key:Nat} (hk:E.pl key = .unborn) (r o:Nat) (l:Lay) (top:Nat):Ext E (E.birth key r o l top):=by
 have hne:∀ b,E.pl b ≠ .unborn->b≠key:=fun b hb e=>hb (e▸hk)
 exact ⟨fun b hb=>if_neg (hne b hb),fun b hb=>if_neg (hne b hb),fun b hb=>if_neg (hne b hb),fun _ _ _ h=>h,rfl⟩
theorem Step.alloc {E:Env} {H:Nat->Blk} {w:World} (hR:Rel E H w) {key:Nat} (hk:E.pl key = .unborn) (ob:Obj) (l:Lay) (top:Nat) (hfit:l.size≤top) {x:Blk}
  (hblk:BlkRel (E.birth key w.heap.size 0 l top) key (w.alloc ob) x) {v:AV} {u:Value} (hv:RepV (E.birth key w.heap.size 0 l top) v u) :
  Step E H w [(key,x)] v u (E.birth key w.heap.size 0 l top) (w.alloc ob):=by
 have hE:=Env.birth_ext hk w.heap.size 0 l top
 have hH:∀ c,upds H [(key,x)] c=if c=key then x else H c:=fun c=>rfl
 have hold:∀ r,r<w.heap.size->(w.alloc ob).heap[r]?=w.heap[r]?:=fun r hr=>heap_alloc_old w _ r hr
 have hpk:(E.birth key w.heap.size 0 l top).pl key = .at w.heap.size 0:=if_pos rfl
 have hpo:∀ c,c≠key->(E.birth key w.heap.size 0 l top).pl c=E.pl c:=fun c hc=>if_neg hc
 have hrd:∀ r j v,E.rd r j=some v->r<w.heap.size:=fun r j v h=>World.block_lt_of_cell? w _ (hR.rd r j v h)
 have hfit':∀ b r o,(E.birth key w.heap.size 0 l top).pl b = .at r o->o+((E.birth key w.heap.size 0 l top).lay b).size≤(E.birth key w.heap.size 0 l top).top b:=by
  intro b r o hb
  by_cases e:b=key
  ·subst e
   rw [hpk] at hb
   injection hb with _ h2
   show _+(if b=b then l else E.lay b).size≤(if b=b then top else E.top b)
   rw [if_pos rfl,if_pos rfl];omega
  ·rw [hpo b e] at hb
   show _+(if b=key then l else E.lay b).size≤(if b=key then top else E.top b)
   rw [if_neg e,if_neg e]
   exact hR.fit b r o hb
 refine ⟨hv,⟨?_,?_,?_,?_,?_,?_,hfit',fun r o h=>hR.fx_of (fun r hr _=>hold r hr) h,fun c r o ob h1 h2 h3 => ?fxa⟩,hE,⟨rfl,rfl,rfl,by simp,fun r hr _=>hold r hr,fun _ _ _ h => .inl h,?_⟩,?_,?_,fun b r o _ hp _=>hold r (hR.old b r o hp)⟩
 case fxa =>
  by_cases e:c=key
  ·subst e
   rw [hpk] at h2
   injection h2 with h2 _
   have:=hR.fx_new (show E.fx r=some ob from h3)
   omega
  ·rw [hH,if_neg e] at h1
   rw [hpo c e] at h2
   exact hR.fxa c r o ob h1 h2 h3
 ·intro r j v h
  rw [cell_same (hold r (hrd r j v h))]
  exact hR.rd r j v h
 ·intro c
  rw [hH]
  split
  ·rename_i e;rw [e];exact hblk
  ·rename_i e
   refine BlkRel.ext hE (fun hd=>own_born hR hd) ((hR.blk c).congr fun _ r o hcp => ?_)
   have hlt:=hR.old c r o hcp
   exact hold r hlt
 ·intro c c' r o r' o' hcc h1 h2 h3 h4
  rw [hH] at h1 h2
  by_cases e:c=key
  ·subst e
   rw [hpk] at h3
   injection h3 with h3 _
   rw [if_neg (fun e=>hcc e.symm)] at h2
   rw [hpo c' (fun e=>hcc e.symm)] at h4
   have:=hR.old c' r' o' h4
   omega
  ·rw [if_neg e] at h1
   rw [hpo c e] at h3
   by_cases e':c'=key
   ·subst e'
    rw [hpk] at h4
    injection h4 with h4 _
    have:=hR.old c r o h3
    omega
   ·rw [if_neg e'] at h2
    rw [hpo c' e'] at h4
    exact hR.sep c c' r o r' o' hcc h1 h2 h3 h4
 ·intro c r o j v h1 h2 h3
  rw [hH] at h1
  by_cases e:c=key
  ·subst e
   rw [hpk] at h2
   injection h2 with h2 _
   have:=hrd r j v h3
   omega
  ·rw [if_neg e] at h1
   rw [hpo c e] at h2
   exact hR.apart c r o j v h1 h2 h3
 ·intro c r o h1
  by_cases e:c=key
  ·subst e
   rw [hpk] at h1
   injection h1 with h1 _
   simp;omega
  ·rw [hpo c e] at h1
   have:=hR.old c r o h1
   simp;omega
 ·intro c h1
  by_cases e:c=key
  ·subst e;rw [hpk] at h1;cases h1
  ·rw [hpo c e] at h1
   rw [hH,if_neg e]
   exact hR.born c h1
 ·intro c r o h1 h2
  by_cases e:c=key
  ·subst e;rw [hpk] at h2;injection h2 with h2 _;exact .inl (by omega)
  ·rw [hpo c e,h1] at h2;cases h2
 ·intro c h1 h2
  by_cases e:c=key
  ·subst e;simp
  ·rw [hpo c e] at h2;exact absurd h1 h2
 ·intro c hc
  rw [hH] at hc
  split at hc
  ·rename_i e;subst e;exact .inr hk
  ·exact .inl hc
end Go.Eng

namespace Go.Eng
theorem Step.shut {E:Env} {H:Nat->Blk} {w:World} (hR:Rel E H w) {b r o n:Nat} (hb:(H b).own=true) (hp:E.pl b = .at r o) (hn:o+n≤E.top b) {x:Blk} (hx:x.own=false)
  {E':Env} (hE':E'={ E with rd:=fun r' j=>if r'=r/\o≤j/\j<o+n then w.cell? ⟨r,j,none⟩ else E.rd r' j })
  (hblk:BlkRel E' b w x) {v:AV} {u:Value} (hv:RepV E' v u):Step E H w [(b,x)] v u E' w:=by
 have hH:∀ c,upds H [(b,x)] c=if c=b then x else H c:=fun c=>rfl
 have hpl:E'.pl=E.pl:=by subst hE';rfl
 have hlay:E'.lay=E.lay:=by subst hE';rfl
 have htop:E'.top=E.top:=by subst hE';rfl
 have hrd:∀ r' j,E'.rd r' j=if r'=r/\o≤j/\j<o+n then w.cell? ⟨r,j,none⟩ else E.rd r' j:=by intro r' j;subst hE';rfl
 have hfx:E'.fx=E.fx:=by subst hE';rfl
 have hE:Ext E E':=⟨fun b _=>by rw [hpl],fun b _=>by rw [hlay],fun b _=>by rw [htop],fun r' j v hv=>by
  rw [hrd,if_neg]
  ·exact hv
  ·rintro ⟨e,_⟩;subst e;exact hR.apart b r' o j v hb hp hv,hfx⟩
 have hown:∀ c,(upds H [(b,x)] c).own=true->c≠b/\(H c).own=true:=by
  intro c hc;rw [hH] at hc;split at hc
  ·rw [hx] at hc;cases hc
  ·rename_i e;exact ⟨e,hc⟩
 refine ⟨hv,⟨?_,?_,?_,?_,?_,?_,fun b r o h=>by rw [hpl] at h;rw [hlay,htop];exact hR.fit b r o h,fun r o h=>hR.fx r o (hfx▸h),fun c r o ob h1 h2 h3=>hR.fxa c r o ob (hown c h1).2 (hpl▸h2) (hfx▸h3)⟩,hE,⟨rfl,rfl,rfl,Nat.le_refl _,fun _ _ _=>rfl,?_,?_⟩,?_,?_,fun _ _ _ _ _ _=>rfl⟩
 ·intro r' j v hv
  rw [hrd] at hv
  split at hv
  ·rename_i e;obtain ⟨e,_⟩:=e;subst e;exact hv
  ·exact hR.rd r' j v hv
 ·intro c
  rw [hH]
  split
  ·rename_i e;rw [e];exact hblk
  ·exact BlkRel.ext hE (fun hd=>own_born hR hd) (hR.blk c)
 ·intro c c' r o r' o' hcc h1 h2 h3 h4
  rw [hpl] at h3 h4
  exact hR.sep c c' r o r' o' hcc (hown c h1).2 (hown c' h2).2 h3 h4
 ·intro c r' o' j v h1 h2 h3
  rw [hpl] at h2
  rw [hrd] at h3
  split at h3
  ·rename_i e
   exact hR.sep c b r' o' r o (hown c h1).1 (hown c h1).2 hb h2 hp e.1
  ·exact hR.apart c r' o' j v (hown c h1).2 h2 h3
 ·intro c r o h1;rw [hpl] at h1;exact hR.old c r o h1
 ·intro c hc
  rw [hpl] at hc
  rw [hH]
  split
  ·rename_i e;rw [e] at hc;exact absurd hc (at_born hp)
  ·exact hR.born c hc
 ·intro r' j v hv
  rw [hrd] at hv
  split at hv
  ·rename_i e;obtain ⟨e,h1,h2⟩:=e;subst e;exact .inr (.inr ⟨b,o,hb,hp,h1,by omega⟩)
  ·exact .inl hv
 ·intro c r' o' h1 h2;rw [hpl,h1] at h2;cases h2
 ·intro c h1 h2;rw [hpl] at h2;exact absurd h1 h2
 ·intro c hc;exact .inl (hown c hc).2
theorem Step.shutB {E:Env} {H:Nat->Blk} {w w':World} (hR:Rel E H w) {b r o n:Nat} (hb:(H b).own=true) (hp:E.pl b = .at r o) {x:Blk} (hx:x.own=false)
  (hos:w'.os=w.os) (htape:w'.tape=w.tape) (hout:w'.output=w.output) (hsize:w'.heap.size=w.heap.size) (hother:∀ r',r'≠r->w'.heap[r']?=w.heap[r']?)
  (hcell:∀ j,w'.cell? ⟨r,j,none⟩=w.cell? ⟨r,j,none⟩) (hn:o+n≤E.top b)
  {E':Env} (hE':E'={ E with rd:=fun r' j=>if r'=r/\o≤j/\j<o+n then w.cell? ⟨r,j,none⟩ else E.rd r' j })
  (hblk:BlkRel E' b w' x) {v:AV} {u:Value} (hv:RepV E' v u):Step E H w [(b,x)] v u E' w':=by
 have hH:∀ c,upds H [(b,x)] c=if c=b then x else H c:=fun c=>rfl
 have hpl:E'.pl=E.pl:=by subst hE';rfl
 have hlay:E'.lay=E.lay:=by subst hE';rfl
 have htop:E'.top=E.top:=by subst hE';rfl
 have hrd:∀ r' j,E'.rd r' j=if r'=r/\o≤j/\j<o+n then w.cell? ⟨r,j,none⟩ else E.rd r' j:=by intro r' j;subst hE';rfl
 have hfx:E'.fx=E.fx:=by subst hE';rfl
 have hE:Ext E E':=⟨fun b _=>by rw [hpl],fun b _=>by rw [hlay],fun b _=>by rw [htop],fun r' j v hv=>by
  rw [hrd,if_neg]
  ·exact hv
  ·rintro ⟨e,_⟩;subst e;exact hR.apart b r' o j v hb hp hv,hfx⟩
 have hown:∀ c,(upds H [(b,x)] c).own=true->c≠b/\(H c).own=true:=by
  intro c hc;rw [hH] at hc;split at hc
  ·rw [hx] at hc;cases hc
  ·rename_i e;exact ⟨e,hc⟩
 have hne:∀ c r' o',c≠b->(H c).own=true->E.pl c = .at r' o'->r'≠r:=fun c r' o' hc hco hcp=>hR.sep c b r' o' r o hc hco hb hcp hp
 refine ⟨hv,⟨?_,?_,?_,?_,?_,?_,fun b r o h=>by rw [hpl] at h;rw [hlay,htop];exact hR.fit b r o h,fun q ob h=>hR.fx_of (fun r' _ hno=>hother r' fun e=>hno b o hb (e▸hp)) (hfx▸h),fun c r o ob h1 h2 h3=>hR.fxa c r o ob (hown c h1).2 (hpl▸h2) (hfx▸h3)⟩,hE,⟨hos,htape,hout,Nat.le_of_eq hsize.symm,fun r' _ hno=>hother r' fun e=>hno b o hb (e▸hp),?_,?_⟩,?_,?_,fun c r' o' hc hcp hno=>hother r' (hne c r' o' (fun e=>hno (by rw [e];exact List.mem_singleton.2 rfl)) hc hcp)⟩
 ·intro r' j v hv
  rw [hrd] at hv
  split at hv
  ·rename_i e;obtain ⟨e,_⟩:=e;subst e;rw [hcell];exact hv
  ·have hrr:r'≠r:=fun e=>hR.apart b r o j v hb hp (e▸hv)
   rw [cell_same (hother r' hrr)]
   exact hR.rd r' j v hv
 ·intro c
  rw [hH]
  split
  ·rename_i e;rw [e];exact hblk
  ·rename_i e
   refine BlkRel.ext hE (fun hd=>own_born hR hd) ((hR.blk c).congr fun hco r' o' hcp=>hother r' (hne c r' o' e hco hcp))
 ·intro c c' r o r' o' hcc h1 h2 h3 h4
  rw [hpl] at h3 h4
  exact hR.sep c c' r o r' o' hcc (hown c h1).2 (hown c' h2).2 h3 h4
 ·intro c r' o' j v h1 h2 h3
  rw [hpl] at h2
  rw [hrd] at h3
  split at h3
  ·rename_i e
   exact hR.sep c b r' o' r o (hown c h1).1 (hown c h1).2 hb h2 hp e.1
  ·exact hR.apart c r' o' j v (hown c h1).2 h2 h3
 ·intro c r o h1;rw [hpl] at h1;rw [hsize];exact hR.old c r o h1
 ·intro c hc
  rw [hpl] at hc
  rw [hH]
  split
  ·rename_i e;rw [e] at hc;exact absurd hc (at_born hp)
  ·exact hR.born c hc
 ·intro r' j v hv
  rw [hrd] at hv
  split at hv
  ·rename_i e;obtain ⟨e,h1,h2⟩:=e;subst e;exact .inr (.inr ⟨b,o,hb,hp,h1,by omega⟩)
  ·exact .inl hv
 ·intro c r' o' h1 h2;rw [hpl,h1] at h2;cases h2
 ·intro c h1 h2;rw [hpl] at h2;exact absurd h1 h2
 ·intro c hc;exact .inl (hown c hc).2
theorem Step.told {E:Env} {H:Nat->Blk} {w:World} (hR:Rel E H w) {b:Nat} {x:Blk} (hx:x = .dead\/E.pl b = .nowhere) (hd:x.own=true->(H b).own=true) (hblk:BlkRel E b w x) {v:AV} {u:Value} (hv:RepV E v u):Step E H w [(b,x)] v u E w:=by
 have hH:∀ c,upds H [(b,x)] c=if c=b then x else H c:=fun c=>rfl
 have hown:∀ c,(upds H [(b,x)] c).own=true->(H c).own=true:=by
  intro c hc;rw [hH] at hc;split at hc
  ·rename_i e;subst e;exact hd hc
  ·exact hc
 refine ⟨hv,⟨hR.rd,?_,?_,?_,hR.old,?_,hR.fit,hR.fx,fun c r o ob h1=>hR.fxa c r o ob (hown c h1)⟩,.refl E,.refl E H w,fun _ h1 h2=>absurd h1 h2,fun c hc => .inl (hown c hc),fun _ _ _ _ _ _=>rfl⟩
 ·intro c
  rw [hH]
  split
  ·rename_i e;rw [e];exact hblk
  ·exact hR.blk c
 ·exact fun c c' r o r' o' hcc h1 h2=>hR.sep c c' r o r' o' hcc (hown c h1) (hown c' h2)
 ·exact fun c r o j v h1=>hR.apart c r o j v (hown c h1)
 ·intro c hc
  rw [hH]
  split
  ·rename_i e;subst e
   rcases hx with hx|hx
   ·exact hx
   ·rw [hx] at hc;cases hc
  ·exact hR.born c hc
theorem Step.move {E:Env} {H:Nat->Blk} {w w':World} (hR:Rel E H w) {b r o key o':Nat} {l:Lay} (hb:(H b).own=true) (hp:E.pl b = .at r o) (hk:E.pl key = .unborn) (ho:o≤o') (hfit:o'+l.size≤E.top b)
  {x:Blk} (hos:w'.os=w.os) (htape:w'.tape=w.tape) (hout:w'.output=w.output) (hsize:w'.heap.size=w.heap.size)
  (hother:∀ r',r'≠r->w'.heap[r']?=w.heap[r']?) (_hround:∀ j,(j<o\/E.top b≤j)->w'.cell? ⟨r,j,none⟩=w.cell? ⟨r,j,none⟩)
  (_hfrozen:∀ j,w'.frozen? ⟨r,j,none⟩=w.frozen? ⟨r,j,none⟩) (_hshape:w'.shape? r=w.shape? r) (hblk:BlkRel (E.birth key r o' l (E.top b)) key w' x) {v:AV} {u:Value} (hv:RepV (E.birth key r o' l (E.top b)) v u) :
  Step E H w [(b,.dead),(key,x)] v u (E.birth key r o' l (E.top b)) w':=by
 have hE:=Env.birth_ext hk r o' l (E.top b)
 have hbk:b≠key:=fun e=>by rw [e,hk] at hp;cases hp
 have hH:∀ c,upds H [(b,.dead),(key,x)] c=if c=key then x else if c=b then .dead else H c:=fun c=>rfl
 have hpk:(E.birth key r o' l (E.top b)).pl key = .at r o':=if_pos rfl
 have hpo:∀ c,c≠key->(E.birth key r o' l (E.top b)).pl c=E.pl c:=fun c hc=>if_neg hc
 have hown:∀ c,c≠key->(upds H [(b,.dead),(key,x)] c).own=true->c≠b/\(H c).own=true:=by
  intro c hc h;rw [hH,if_neg hc] at h;split at h
  ·cases h
  ·rename_i e;exact ⟨e,h⟩
 have hne:∀ c r' o',c≠b->(H c).own=true->E.pl c = .at r' o'->r'≠r:=fun c r' o' hc hco hcp=>hR.sep c b r' o' r o hc hco hb hcp hp
 have hfit':∀ c r1 o1,(E.birth key r o' l (E.top b)).pl c = .at r1 o1->o1+((E.birth key r o' l (E.top b)).lay c).size≤(E.birth key r o' l (E.top b)).top c:=by
  intro c r1 o1 hc
  by_cases e:c=key
  ·subst e
   rw [hpk] at hc
   injection hc with _ h2
   show _+(if c=c then l else E.lay c).size≤(if c=c then E.top b else E.top c)
   rw [if_pos rfl,if_pos rfl];omega
  ·rw [hpo c e] at hc
   show _+(if c=key then l else E.lay c).size≤(if c=key then E.top b else E.top c)
   rw [if_neg e,if_neg e]
   exact hR.fit c r1 o1 hc
 refine ⟨hv,⟨?_,?_,?_,?_,?_,?_,hfit',fun q ob h=>hR.fx_of (fun r' _ hno=>hother r' fun e=>hno b o hb (e▸hp)) h,fun c r1 o1 ob h1 h2 h3 => ?fxa⟩,hE,⟨hos,htape,hout,Nat.le_of_eq hsize.symm,?_,fun _ _ _ h => .inl h,?_⟩,?_,?_,fun c r' o' hc hcp hno=>hother r' (hne c r' o' (fun e=>hno (by rw [e];exact List.mem_cons_self ..)) hc hcp)⟩
 case fxa =>
  by_cases e:c=key
  ·subst e
   rw [hpk] at h2
   injection h2 with h2 _
   subst h2
   exact hR.fxa b r o ob hb hp h3
  ·rw [hpo c e] at h2
   exact hR.fxa c r1 o1 ob (hown c e h1).2 h2 h3
 ·intro r' j v hv
  have hrr:r'≠r:=fun e=>hR.apart b r o j v hb hp (e▸hv)
  rw [cell_same (hother r' hrr)]
  exact hR.rd r' j v hv
 ·intro c
  rw [hH]
  split
  ·rename_i e;rw [e];exact hblk
  ·rename_i e
   split
   ·trivial
   ·rename_i e'
    refine BlkRel.ext hE (fun hd=>own_born hR hd) ((hR.blk c).congr fun hco r' o' hcp => ?_)
    have hrr:=hne c r' o' e' hco hcp
    exact hother r' hrr
 ·intro c c' r1 o1 r2 o2 hcc h1 h2 h3 h4
  by_cases e:c=key
  ·subst e
   rw [hpk] at h3
   injection h3 with h3 _
   have hc':c'≠c:=fun e=>hcc e.symm
   rw [hpo c' hc'] at h4
   have:=hown c' hc' h2
   exact fun e=>hne c' r2 o2 this.1 this.2 h4 (by rw [←e];exact h3.symm)
  ·rw [hpo c e] at h3
   have h1':=hown c e h1
   by_cases e':c'=key
   ·subst e'
    rw [hpk] at h4
    injection h4 with h4 _
    rw [←h4]
    exact hne c r1 o1 h1'.1 h1'.2 h3
   ·rw [hpo c' e'] at h4
    exact hR.sep c c' r1 o1 r2 o2 hcc h1'.2 (hown c' e' h2).2 h3 h4
 ·intro c r1 o1 j v h1 h2 h3
  by_cases e:c=key
  ·subst e
   rw [hpk] at h2
   injection h2 with h2 _
   subst h2
   exact hR.apart b r o j v hb hp h3
  ·rw [hpo c e] at h2
   exact hR.apart c r1 o1 j v (hown c e h1).2 h2 h3
 ·intro c r1 o1 h1
  rw [hsize]
  by_cases e:c=key
  ·subst e
   rw [hpk] at h1
   injection h1 with h1 _
   subst h1
   exact hR.old b r o hp
  ·rw [hpo c e] at h1
   exact hR.old c r1 o1 h1
 ·intro c h1
  by_cases e:c=key
  ·subst e;rw [hpk] at h1;cases h1
  ·rw [hpo c e] at h1
   rw [hH,if_neg e]
   split
   ·rfl
   ·exact hR.born c h1
 ·exact fun r' _ hno=>hother r' fun e=>hno b o hb (e▸hp)
 ·intro c r1 o1 h1 h2
  by_cases e:c=key
  ·subst e
   rw [hpk] at h2
   injection h2 with h2 h3
   subst h2;subst h3
   refine .inr ⟨b,o,hb,hp,ho,?_⟩
   show (if c=c then E.top b else E.top c)≤_
   rw [if_pos rfl];exact Nat.le_refl _
  ·rw [hpo c e,h1] at h2;cases h2
 ·intro c h1 h2
  by_cases e:c=key
  ·subst e;simp
  ·rw [hpo c e] at h2;exact absurd h1 h2
 ·intro c hc
  by_cases e:c=key
  ·subst e;exact .inr hk
  ·exact .inl (hown c e hc).2
def Env.none_ (E:Env) (key:Nat) (l:Lay):Env :=
 {E with pl:=fun b=>if b=key then .nowhere else E.pl b,lay:=fun b=>if b=key then .arr 0 l else E.lay b }
theorem Step.empty {E:Env} {H:Nat->Blk} {w:World} (hR:Rel E H w) {key:Nat} (hk:E.pl key = .unborn) (l:Lay) {x:Blk} (hblk:BlkRel (E.none_ key l) key w x) {v:AV} {u:Value} (hv:RepV (E.none_ key l) v u) :
  Step E H w [(key,x)] v u (E.none_ key l) w:=by
 have hne:∀ b,E.pl b ≠ .unborn->b≠key:=fun b hb e=>hb (e▸hk)
 have hE:Ext E (E.none_ key l):=⟨fun b hb=>if_neg (hne b hb),fun b hb=>if_neg (hne b hb),fun _ _=>rfl,fun _ _ _ h=>h,rfl⟩
 have hH:∀ c,upds H [(key,x)] c=if c=key then x else H c:=fun c=>rfl
 have hpk:(E.none_ key l).pl key = .nowhere:=if_pos rfl
 have hpo:∀ c,c≠key->(E.none_ key l).pl c=E.pl c:=fun c hc=>if_neg hc
 have hat:∀ c r o,(E.none_ key l).pl c = .at r o->c≠key/\E.pl c = .at r o:=by
  intro c r o h
  by_cases e:c=key
  ·subst e;rw [hpk] at h;cases h
  ·rw [hpo c e] at h;exact ⟨e,h⟩
 have hown:∀ c,c≠key->(upds H [(key,x)] c).own=true->(H c).own=true:=by intro c hc h;rw [hH,if_neg hc] at h;exact h
 have hfit':∀ c r o,(E.none_ key l).pl c = .at r o->o+((E.none_ key l).lay c).size≤(E.none_ key l).top c:=by
  intro c r o hc
  obtain ⟨e,hc⟩:=hat c r o hc
  show _+(if c=key then _ else E.lay c).size≤E.top c
  rw [if_neg e]
  exact hR.fit c r o hc
 refine ⟨hv,⟨hR.rd,?_,?_,?_,?_,?_,hfit',hR.fx,fun c r o ob h1 h2 h3=>hR.fxa c r o ob (hown c (hat c r o h2).1 h1) (hat c r o h2).2 h3⟩,hE,⟨rfl,rfl,rfl,Nat.le_refl _,fun _ _ _=>rfl,fun _ _ _ h => .inl h,?_⟩,?_,?_,fun _ _ _ _ _ _=>rfl⟩
 ·intro c
  rw [hH]
  split
  ·rename_i e;rw [e];exact hblk
  ·exact BlkRel.ext hE (fun hd=>own_born hR hd) (hR.blk c)
 ·intro c c' r o r' o' hcc h1 h2 h3 h4
  have h3:=hat c r o h3
  have h4:=hat c' r' o' h4
  exact hR.sep c c' r o r' o' hcc (hown c h3.1 h1) (hown c' h4.1 h2) h3.2 h4.2
 ·intro c r o j v h1 h2 h3
  have h2:=hat c r o h2
  exact hR.apart c r o j v (hown c h2.1 h1) h2.2 h3
 ·intro c r o h1;exact hR.old c r o (hat c r o h1).2
 ·intro c h1
  by_cases e:c=key
  ·subst e;rw [hpk] at h1;cases h1
  ·rw [hpo c e] at h1
   rw [hH,if_neg e]
   exact hR.born c h1
 ·intro c r o h1 h2
  have:=(hat c r o h2).2
  rw [h1] at this;cases this
 ·intro c h1 h2
  by_cases e:c=key
  ·subst e;simp
  ·rw [hpo c e] at h2;exact absurd h1 h2
 ·intro c hc
  by_cases e:c=key
  ·subst e;exact .inr hk
  ·exact .inl (hown c e hc)
def opnds (o:Op):List Operand:=o.operands.toList
def OpEff (P:Program) (G:Glob) (o:Oper) (ρ:Operand->AV) (H:Nat->Blk) (rd:List Nat) (wr:List (Nat×Blk)) (v:AV):Prop :=
 ∀ E H' (a:Act) w,Rel E H' w->GOK E G->(∀ x,x∈opnds o.op->RepV E (ρ x) (a.eval x))->(∀ b,b∈rd->H' b=H b)->(∀ x,x∈wr->H x.1 = .dead->E.pl x.1 = .unborn) ->
  ∀ next Q,(∀ u E' w',Step E H' w wr v u E' w'->next (a.put o.dst u) w')->o.wp P a w next Q
theorem OpEff.of {P:Program} {G:Glob} {o:Oper} {ρ:Operand->AV} {H:Nat->Blk} {rd:List Nat} {wr:List (Nat×Blk)} {v:AV}
  (h:∀ E H' (a:Act) w,Rel E H' w->GOK E G->(∀ x,x∈opnds o.op->RepV E (ρ x) (a.eval x))->(∀ b,b∈rd->H' b=H b)->(∀ x,x∈wr->H x.1 = .dead->E.pl x.1 = .unborn) ->
   ∃ u w' E',((execOp a.eval o).run P w = .ok (.value u) w'\/((execOp a.eval o).run P w = .ok .skip w'/\u=undef))/\Step E H' w wr v u E' w'):OpEff P G o ρ H rd wr v:=by
 intro E H' a w hR hG hx hrd hwr next Q hn
 obtain ⟨u,w',E',hr,hs⟩:=h E H' a w hR hG hx hrd hwr
 unfold Oper.wp
 rcases hr with hr|⟨hr,rfl⟩
 ·rw [hr];exact hn u E' w' hs
 ·rw [hr];exact hn undef E' w' hs
theorem OpEff.pure {P:Program} {G:Glob} {o:Oper} {ρ:Operand->AV} {H:Nat->Blk} {v:AV}
  (h:∀ E (a:Act) w,(∀ x,x∈opnds o.op->RepV E (ρ x) (a.eval x))->∃ u,(execOp a.eval o).run P w = .ok (.value u) w/\RepV E v u):OpEff P G o ρ H [] [] v :=
 .of fun E _ a w hR _ hx _ _=>let ⟨u,hr,hv⟩:=h E a w hx;⟨u,w,E,.inl hr,.pure hR hv⟩
def Told (P:Program) (G:Glob) (o:Oper) (ρ:Operand->AV) (H:Nat->Blk) (K:Cont):Prop:=∃ rd wr v,K rd wr v/\OpEff P G o ρ H rd wr v
theorem intK_inv {x:AV} {K:IntKind->Int->Prop} (h:intK x K):∃ k n,x = .int k n/\K k n:=by
 unfold intK at h;split at h
 ·exact ⟨_,_,rfl,h⟩
 ·exact h.elim
theorem boolK_inv {x:AV} {K:Bool->Prop} (h:boolK x K):∃ b,(x = .dv (.sc (.bool b))\/x = .dv (.bl b))/\K b:=by
 unfold boolK at h;split at h
 ·exact ⟨_,.inl rfl,h⟩
 ·rename_i b
  cases b
  ·exact ⟨false,.inr rfl,h.2 rfl⟩
  ·exact ⟨true,.inr rfl,h.1 rfl⟩
 ·exact h.elim
theorem rep_int {E:Env} {k:IntKind} {n:Int} {v:Value} (h:RepV E (.int k n) v):v = .int k n:=by
 rcases h with h|⟨cs,h,e⟩
 ·cases h
 ·cases h.dv_inv;exact e
theorem rep_sc {E:Env} {v u:Value} (h:RepV E (.dv (.sc v)) u):u=v:=by
 rcases h with h|⟨cs,h,e⟩
 ·cases h
 ·cases h.dv_inv;exact e
theorem rep_bl {E:Env} {b:Bool} {v:Value} (h:RepV E (.dv (.bl b)) v):v = .bool b:=by
 rcases h with h|⟨cs,h,e⟩
 ·cases h
 ·cases h.dv_inv;exact e
theorem rep_str {E:Env} {l:List UInt8} {v:Value} (h:RepV E (.dv (.str l)) v):v = .string ⟨⟨l⟩⟩:=by
 rcases h with h|⟨cs,h,e⟩
 ·cases h
 ·cases h.dv_inv;exact e
theorem int_rep (E:Env) (k:IntKind) (n:Int):RepV E (.int k n) (.int k n) := .one (.dv (.sc _ trivial)) rfl
theorem bl_rep (E:Env) (b:Bool):RepV E (.bl b) (.bool b) := .one (.dv (.bl _)) rfl
theorem str_rep (E:Env) (l:List UInt8):RepV E (.dv (.str l)) (.string ⟨⟨l⟩⟩) := .one (.dv (.str _)) rfl
theorem sc_rep (E:Env) {v:Value} (h:single v):RepV E (.dv (.sc v)) v := .one (.dv (.sc _ h)) rfl
section
variable {P:Program} {G:Glob} {T:Tr} {o:Oper} {ρ:Operand->AV} {H:Nat->Blk} {K:Cont}
theorem told_move {x:Operand} (ho:o.op = .move x\/o.op = .assign x) (h:K [] [] (ρ x)):Told P G o ρ H K:=by
 refine ⟨_,_,_,h,.pure fun E a w hx=>⟨a.eval x,?_,hx x ?_⟩⟩
 ·rcases ho with ho|ho<;>simp [execOp,ho]
 ·rcases ho with ho|ho<;>simp [opnds,ho,Op.operands]
theorem told_pick {c x y:Operand} (ho:o.op = .pick c x y) (h:boolK (ρ c) fun t=>(match t with|true=>K [] [] (ρ x)|false=>K [] [] (ρ y))):Told P G o ρ H K:=by
 obtain ⟨b,hb,h⟩:=boolK_inv h
 have hc:∀ E (a:Act),(∀ x,x∈opnds o.op->RepV E (ρ x) (a.eval x))->a.eval c = .bool b:=by
  intro E a hx
  have:=hx c (by simp [opnds,ho,Op.operands])
  rcases hb with hb|hb
  ·rw [hb] at this;exact rep_sc this
  ·rw [hb] at this;exact rep_bl this
 cases b with
 |true =>
  refine ⟨_,_,_,h,.pure fun E a w hx=>⟨a.eval x,?_,hx x (by simp [opnds,ho,Op.operands])⟩⟩
  simp [execOp,ho,hc E a hx,asBool]
 |false =>
  refine ⟨_,_,_,h,.pure fun E a w hx=>⟨a.eval y,?_,hx y (by simp [opnds,ho,Op.operands])⟩⟩
  simp [execOp,ho,hc E a hx,asBool]
theorem int2K_inv {x y:AV} {K:IntKind->Int->Int->Prop} (h:int2K x y K):∃ k a b,x = .int k a/\y = .int k b/\K k a b:=by
 unfold int2K at h
 obtain ⟨k,a,rfl,h1⟩:=intK_inv (x:=x) h
 obtain ⟨k',b,rfl,h2⟩:=intK_inv (x:=y) h1
 split at h2
 ·rename_i hk;rw [kindEq_eq hk] at h2 ⊢;exact ⟨_,a,b,rfl,rfl,h2⟩
 ·exact h2.elim
end
end Go.Eng

namespace Go.Eng
section
variable {P:Program} {G:Glob} {T:Tr} {o:Oper} {ρ:Operand->AV} {H:Nat->Blk} {K:Cont}
theorem run_eqGuard_plain (w:World) (op:BinOp) (t:TypeId) (x y:Operand) {a b:Value} (h:op = .eql\/op = .neq->(∀ u v,a = .agg u->b = .agg v->False)/\(a = .nilIface->b = .nilIface->isC x=true\/isC y=true)):(eqGuard op t x y a b).run P w = .ok () w:=by
 unfold eqGuard
 cases op
 case eql =>
  obtain ⟨h1,h2⟩:=h (.inl rfl)
  simp
  split
  ·have:=h2 rfl rfl
   cases x<;>cases y<;>simp [isC] at this ⊢
  ·exact (h1 _ _ rfl rfl).elim
  ·rfl
 case neq =>
  obtain ⟨h1,h2⟩:=h (.inr rfl)
  simp
  split
  ·have:=h2 rfl rfl
   cases x<;>cases y<;>simp [isC] at this ⊢
  ·exact (h1 _ _ rfl rfl).elim
  ·rfl
 all_goals simp
theorem exec_bin {op:BinOp} {t t':TypeId} {x y:Operand} (ho:o.op = .binOp op t x y t') (a:Act) (w:World) {u v r:Value} (hu:a.eval x=u) (hv:a.eval y=v)
  (hg:(eqGuard op t x y u v).run P w = .ok () w) (hb:(binOp op t u v).run P w = .ok r w):(execOp a.eval o).run P w = .ok (.value r) w:=by
 simp [execOp,ho,hu,hv,hg,hb]
theorem told_bin_int {op:BinOp} {t t':TypeId} {x y:Operand} (ho:o.op = .binOp op t x y t') {k k':IntKind} {a b:Int} {r:AV} (hx:ρ x = .int k a) (hy:ρ y = .int k' b) {u:Value}
  (hr:∀ E,RepV E r u) (hrun:∀ w,(binOp op t (.int k a) (.int k' b)).run P w = .ok u w) (h:K [] [] r):Told P G o ρ H K:=by
 refine ⟨_,_,_,h,.pure fun E ac w hop=>⟨u,?_,hr E⟩⟩
 have e1:=rep_int (hx▸hop x (by simp [opnds,ho,Op.operands]))
 have e2:=rep_int (hy▸hop y (by simp [opnds,ho,Op.operands]))
 exact exec_bin ho ac w e1 e2 (run_eqGuard_plain w op t x y fun _=>⟨(fun _ _ h=>by cases h),(fun h=>by cases h)⟩) (hrun w)
theorem told_bin_str {op:BinOp} {t t':TypeId} {x y:Operand} (ho:o.op = .binOp op t x y t') {a b:List UInt8} {r:AV} (hx:ρ x = .dv (.str a)) (hy:ρ y = .dv (.str b)) {u:Value}
  (hr:∀ E,RepV E r u) (hrun:∀ w,(binOp op t (.string ⟨⟨a⟩⟩) (.string ⟨⟨b⟩⟩)).run P w = .ok u w) (h:K [] [] r):Told P G o ρ H K:=by
 refine ⟨_,_,_,h,.pure fun E ac w hop=>⟨u,?_,hr E⟩⟩
 have e1:=rep_str (hx▸hop x (by simp [opnds,ho,Op.operands]))
 have e2:=rep_str (hy▸hop y (by simp [opnds,ho,Op.operands]))
 exact exec_bin ho ac w e1 e2 (run_eqGuard_plain w op t x y fun _=>⟨(fun _ _ h=>by cases h),(fun h=>by cases h)⟩) (hrun w)
theorem kind_und {t:TypeId} {tk:TK} (hT:TabOK P T) (hk:(T.get t).kind=tk) (h:tk ≠ .other):∃ d,P.underlying t=some d/\kindB P T d tk=true:=by
 subst hk
 obtain ⟨i,d,z,cs,_,hd,hkb,_⟩:=(hT.entry (mem_of_kind h)).info
 exact ⟨d,hd,hkb⟩
theorem und_int {t:TypeId} {k:IntKind} (hT:TabOK P T) (hk:(T.get t).kind = .int k):P.underlying t=some (.int k):=by
 obtain ⟨d,hd,hb⟩:=kind_und hT hk (by intro h;cases h)
 cases d<;>first|(cases hb;done)|(rw [hd,kindEq_eq hb])
theorem und_bool {t:TypeId} (hT:TabOK P T) (hk:(T.get t).kind = .bool):P.underlying t=some .bool:=by
 obtain ⟨d,hd,hb⟩:=kind_und hT hk (by intro h;cases h)
 cases d<;>first|(cases hb;done)|exact hd
theorem und_str {t:TypeId} (hT:TabOK P T) (hk:(T.get t).kind = .str):P.underlying t=some .string:=by
 obtain ⟨d,hd,hb⟩:=kind_und hT hk (by intro h;cases h)
 cases d<;>first|(cases hb;done)|exact hd
theorem und_iface {t:TypeId} (hT:TabOK P T) (hk:(T.get t).kind = .iface):∃ ms,P.underlying t=some (.interface ms):=by
 obtain ⟨d,hd,hb⟩:=kind_und hT hk (by intro h;cases h)
 cases d<;>first|(cases hb;done)|exact ⟨_,hd⟩
theorem und_ptr {t:TypeId} {e:TypeId} (hT:TabOK P T) (hk:(T.get t).kind = .ptr e):P.underlying t=some (.pointer e):=by
 obtain ⟨d,hd,hb⟩:=kind_und hT hk (by intro h;cases h)
 cases d<;>first|(cases hb;done)|(simp [kindB] at hb;rw [hd,hb])
theorem und_arr {t:TypeId} {n:Nat} {e:TypeId} (hT:TabOK P T) (hk:(T.get t).kind = .arr n e):P.underlying t=some (.array n e)/\∃ i,P.info? e=some i:=by
 obtain ⟨d,hd,hb⟩:=kind_und hT hk (by intro h;cases h)
 cases d<;>first|(cases hb;done)|(simp [kindB,Option.isSome_iff_exists] at hb;obtain ⟨⟨h1,h2⟩,h3⟩:=hb;rw [hd,h1,h2];exact ⟨rfl,by rw [←h2];exact h3⟩)
theorem und_sli {t:TypeId} {e:TypeId} (hT:TabOK P T) (hk:(T.get t).kind = .sli e):P.underlying t=some (.slice e)/\∃ i,P.info? e=some i:=by
 obtain ⟨d,hd,hb⟩:=kind_und hT hk (by intro h;cases h)
 cases d<;>first|(cases hb;done)|(simp [kindB,Option.isSome_iff_exists] at hb;obtain ⟨h2,h3⟩:=hb;rw [hd,h2];exact ⟨rfl,by rw [←h2];exact h3⟩)
theorem und_struct {t:TypeId} {fs:List (Nat×TypeId)} (hT:TabOK P T) (hk:(T.get t).kind = .struct fs) :
  ∃ fields:Array Field,P.underlying t=some (.struct fields)/\(fields.toList.map fun f=>(f.offset,f.type))=fs/\∀ f,f∈fs->∃ i,P.info? f.2=some i/\i.size=(T.get f.2).size:=by
 obtain ⟨d,hd,hb⟩:=kind_und hT hk (by intro h;cases h)
 cases d<;>try (cases hb;done)
 rename_i fields
 simp only [kindB,Bool.and_eq_true,beq_iff_eq,List.all_eq_true] at hb
 refine ⟨fields,hd,hb.1,fun f hf => ?_⟩
 have:=hb.2 f hf
 split at this
 ·rename_i i hi;exact ⟨i,hi,eq_of_beq this⟩
 ·cases this
theorem run_bin_eql {t:TypeId} {x y:Value} {r:Bool} {w:World} (hx:binOp .eql t x y=(do pure (.bool (←Op.equal t x y)))) (hr:(Op.equalIn 10000 t x y).run P w = .ok r w):(binOp .eql t x y).run P w = .ok (.bool r) w:=by
 rw [hx]
 have hr:(Op.equal t x y).run P w = .ok r w:=hr
 simp only [Sem.run_bind,hr,Result.andThen_ok,Sem.run_pure]
theorem run_bin_neq {t:TypeId} {x y:Value} {r:Bool} {w:World} (hx:binOp .neq t x y=(do pure (.bool (!(←Op.equal t x y))))) (hr:(Op.equalIn 10000 t x y).run P w = .ok r w):(binOp .neq t x y).run P w = .ok (.bool (!r)) w:=by
 rw [hx]
 have hr:(Op.equal t x y).run P w = .ok r w:=hr
 simp only [Sem.run_bind,hr,Result.andThen_ok,Sem.run_pure]
theorem int_inv {rd:Rd} {k:IntKind} {n:Int} {x:Value} (h:RepD rd (.sc (.int k n)) [x]):x = .int k n:=by cases h;rfl
theorem eqS_run {a b:DV} {t:TypeId} {K:Bool->Prop} (hT:TabOK P T) (h:eqS (T.get t).kind a b K) :
  a.lay = .one/\b.lay = .one/\∃ r,K r/\∀ rd x y w,RepD rd a [x]->RepD rd b [y]->(∀ D,(Op.equalIn (D+1) t x y).run P w = .ok r w) /\
   (binOp .eql t x y).run P w = .ok (.bool r) w/\(binOp .neq t x y).run P w = .ok (.bool (!r)) w/\(x = .nilIface->a = .sc .nilIface):=by
 unfold eqS at h
 split at h
 ·rename_i k0 hk
  have hu:=und_int hT hk
  repeat' split at h
  all_goals try exact h.elim
  rename_i k x k' y hkk
  obtain rfl:=kindEq_eq hkk
  refine ⟨rfl,rfl,_,h,fun rd u v w hu' hv' => ?_⟩
  cases hu';cases hv'
  refine ⟨fun D=>by simp [Op.equalIn,run_underlying hu],?_,?_,fun e=>by cases e⟩
  ·simp only [binOp,Op.intCmp];simp
  ·simp only [binOp,Op.intCmp];simp [bne]
 ·rename_i hk
  have hu:=und_bool hT hk
  repeat' split at h
  all_goals try exact h.elim
  all_goals
   refine ⟨rfl,rfl,_,h,fun rd u v w hu' hv' => ?_⟩
   cases hu';cases hv'
   exact ⟨fun D=>run_equalIn_bool' w D t _ _ hu,run_bin_eql rfl (run_equalIn_bool' w 9999 t _ _ hu),run_bin_neq rfl (run_equalIn_bool' w 9999 t _ _ hu),fun e=>by cases e⟩
 ·rename_i hk
  have hu:=und_str hT hk
  repeat' split at h
  all_goals try exact h.elim
  refine ⟨rfl,rfl,_,h,fun rd u v w hu' hv' => ?_⟩
  cases hu';cases hv'
  refine ⟨fun D=>by rw [run_equalIn_string w D t _ _ hu];simp [ByteArray.toList_eq],?_,?_,fun e=>by cases e⟩
  ·simp only [binOp,Op.stringOp,Sem.run_pure,ByteArray.toList_eq]
  ·simp only [binOp,Op.stringOp,Sem.run_pure,ByteArray.toList_eq]
 ·rename_i hk
  obtain ⟨ms,hu⟩:=und_iface hT hk
  repeat' split at h
  all_goals try exact h.elim
  all_goals
   refine ⟨rfl,rfl,_,h,fun rd u v w hu' hv' => ?_⟩
   cases hu';cases hv'
  ·have he:∀ D q z,(Op.equalIn (D+1) t .nilIface (.iface q z)).run P w = .ok false w:=fun D q z=>by simp only [Op.equalIn,Sem.run_bind,run_underlying hu,Result.andThen_ok,Sem.run_pure]
   exact ⟨fun D=>he D _ _,run_bin_eql rfl (he 9999 _ _),run_bin_neq rfl (he 9999 _ _),fun _=>rfl⟩
  ·have he:∀ D,(Op.equalIn (D+1) t .nilIface .nilIface).run P w = .ok true w:=fun D=>by simp only [Op.equalIn,Sem.run_bind,run_underlying hu,Result.andThen_ok,Sem.run_pure]
   exact ⟨he,run_bin_eql rfl (he 9999),run_bin_neq rfl (he 9999),fun _=>rfl⟩
  ·have he:∀ D q z,(Op.equalIn (D+1) t (.iface q z) .nilIface).run P w = .ok false w:=fun D q z=>by simp only [Op.equalIn,Sem.run_bind,run_underlying hu,Result.andThen_ok,Sem.run_pure]
   exact ⟨fun D=>he D _ _,run_bin_eql rfl (he 9999 _ _),run_bin_neq rfl (he 9999 _ _),fun e=>by cases e⟩
 ·rename_i e hk
  have hu:=und_ptr hT hk
  repeat' split at h
  all_goals try exact h.elim
  refine ⟨rfl,rfl,_,h,fun rd u v w hu' hv' => ?_⟩
  cases hu';cases hv'
  have he:∀ D,(Op.equalIn (D+1) t (.pointer none) (.pointer none)).run P w = .ok true w:=fun D=>by simp only [Op.equalIn,Sem.run_bind,run_underlying hu,Result.andThen_ok,Sem.run_pure,Option.isNone_none]
  exact ⟨he,run_bin_eql rfl (he 9999),run_bin_neq rfl (he 9999),fun e=>by cases e⟩
 ·exact h.elim
theorem run_part_agg {t:TypeId} (w:World) {cs:List Value} {off s:Nat} (hu:(∃ fs,P.underlying t=some (.struct fs))\/∃ n e,P.underlying t=some (.array n e)) (hi:∃ i,P.info? t=some i/\i.size=s) :
  (part t cs.toArray off).run P w = .ok (.agg ((cs.drop off).take s).toArray) w:=by
 obtain ⟨i,hi,rfl⟩:=hi
 rcases hu with ⟨fs,hu⟩|⟨n,e',hu⟩<;>simp [part,isAgg,run_underlying hu,sizeOf,typeInfo,hi]
theorem run_part_cell {t:TypeId} (w:World) {cs:List Value} {off:Nat} {d:TypeDesc} (hu:P.underlying t=some d) (hd:aggB d=false) {v:Value} (hv:cs[off]?=some v) :
  (part t cs.toArray off).run P w = .ok v w:=by
 cases d<;>first|(cases hd;done)|simp [part,isAgg,run_underlying hu,hv]
theorem run_part {t:TypeId} (hT:TabOK P T) (w:World) {cs:List Value} {off:Nat} {l:Lay} (ht:t∈T.keys) (hs:l.size=(T.get t).size) (ha:l.isAgg=(T.get t).lay.isAgg) (hle:off+l.size≤cs.length) :
  (part t cs.toArray off).run P w = .ok (ofCells l.isAgg ((cs.drop off).take l.size)) w:=by
 obtain ⟨i,d,z,zs,hi,hd,_,hsz,_,_,hagg,_⟩:=(hT.entry ht).info
 cases hal:l.isAgg with
 |true =>
  rw [←ha,hal] at hagg
  have hu:(∃ fs,P.underlying t=some (.struct fs))\/∃ n e,P.underlying t=some (.array n e):=by
   cases d<;>first|(cases hagg;done)|exact .inl ⟨_,hd⟩|exact .inr ⟨_,_,hd⟩
  exact run_part_agg w hu ⟨i,hi,by omega⟩
 |false =>
  rw [←ha,hal] at hagg
  have hl:=isAgg_size hal
  subst hl
  simp only [Lay.size] at hle ⊢
  have hlt:off<cs.length:=by omega
  have e:(cs.drop off).take 1=[cs[off]]:=by rw [List.drop_eq_getElem_cons hlt];rfl
  rw [run_part_cell w hd hagg.symm (v:=cs[off]) (List.getElem?_eq_getElem hlt),e]
  rfl
theorem partOK_inv {l:Lay} {i o:Nat} {ft:TypeId} (h:partOK T l i o ft=true):∃ l',locL l [i]=some (o,l')/\l'.size=(T.get ft).size/\l'.isAgg=(T.get ft).lay.isAgg:=by
 unfold partOK at h
 split at h
 ·rename_i o' l' hl
  split at h
  ·rename_i h1 h2 h3 h4
   obtain rfl:=Nat.eq_of_beq_eq_true h1
   exact ⟨l',hl,Nat.eq_of_beq_eq_true h2,by rw [h3,h4]⟩
  ·rename_i h1 h2 h3 h4
   obtain rfl:=Nat.eq_of_beq_eq_true h1
   exact ⟨l',hl,Nat.eq_of_beq_eq_true h2,by rw [h3,h4]⟩
  ·cases h
 ·cases h
theorem fit_key {t:TypeId} {l:Lay} (hs:l.size=(T.get t).size) (ha:l.isAgg=(T.get t).lay.isAgg):t∈T.keys:=by
 by_cases ht:t∈T.keys
 ·exact ht
 ·rw [Tr.get_mem ht] at hs ha
  rw [isAgg_size ha] at hs
  cases hs
theorem partOK_key {l:Lay} {i o:Nat} {ft:TypeId} (h:partOK T l i o ft=true):ft∈T.keys:=by
 obtain ⟨l',_,hs,ha⟩:=partOK_inv h
 exact fit_key hs ha
theorem eqF_run (hT:TabOK P T) {eq:TypeId->DV->DV->(Bool->Prop)->Prop} (d:Nat)
  (heq:∀ {t:TypeId} {a b:DV} {K:Bool->Prop},eq t a b K->∃ r,K r/\∀ rd ca cb D w,RepD rd a ca->RepD rd b cb->d≤D->(Op.equalIn D t (ofCells a.lay.isAgg ca) (ofCells b.lay.isAgg cb)).run P w = .ok r w) :
  ∀ (fields:List Field) (i:Nat) {a b:DV} {K:Bool->Prop},eqF T eq (fields.map fun f=>(f.offset,f.type)) i a b K->(∀ f,f∈fields->f.name ≠ "_") ->
   ∃ r,K r/\∀ rd ca cb D w,RepD rd a ca->RepD rd b cb->d≤D->(Op.eqFields D ca.toArray cb.toArray fields).run P w = .ok r w
 |[],_,a,b,K,h,_=>⟨true,h,fun rd ca cb D w _ _ _=>by simp [Op.eqFields]⟩
 |f::fields,i,a,b,K,h,hn=>by
  simp only [List.map_cons,eqF] at h
  split at h
  ·rename_i h1 h2
   obtain ⟨l1,hl1,hs1,ha1⟩:=partOK_inv h1
   obtain ⟨l2,hl2,hs2,ha2⟩:=partOK_inv h2
   obtain ⟨x,hx,hxr⟩:=heq h
   obtain ⟨y,hy,hyr⟩:=eqF_run hT d heq fields (i+1) hx (fun g hg=>hn g (List.mem_cons_of_mem _ hg))
   refine ⟨x&&y,hy,fun rd ca cb D w hca hcb hD => ?_⟩
   obtain ⟨p1,q1⟩:=hca.part hl1
   obtain ⟨p2,q2⟩:=hcb.part hl2
   have hft:=partOK_key h1
   have r1:=run_part hT w hft hs1 ha1 (by rw [hca.len];exact locL_le hl1)
   have r2:=run_part hT w hft hs2 ha2 (by rw [hcb.len];exact locL_le hl2)
   have r3:=hxr rd _ _ D w p1 p2 hD
   rw [q1,q2] at r3
   simp only [Op.eqFields,if_pos (hn f (List.mem_cons_self ..)),Sem.run_bind,r1,r2,r3,Result.andThen_ok]
   cases x with
   |true=>simp [hyr rd ca cb D w hca hcb hD]
   |false=>simp
  ·exact h.elim
theorem all_range_ints:∀ (xs ys:List Int),xs.length=ys.length->((List.range xs.length).all fun i=>xs.getD i 0==ys.getD i 0)=(xs==ys)
 |[],[],_=>rfl
 |x::xs,y::ys,h=>by
  have ih:=all_range_ints xs ys (by simpa using h)
  rw [List.length_cons,List.range_succ_eq_map,List.all_cons,List.all_map]
  simp only [List.getD_cons_zero,Function.comp_def,List.getD_cons_succ,ih]
  simp [List.cons_beq_cons]
 |[],_::_,h=>by simp at h
 |_::_,[],h=>by simp at h
theorem run_eq_ints (w:World) {t e:TypeId} {n:Nat} {k kk:IntKind} (hu:P.underlying t=some (.array n e)) (hue:P.underlying e=some (.int kk)) (hi:∃ i,P.info? e=some i/\i.size=1) {l l':List Int} (h:l.length=n) (h':l'.length=n) (D:Nat) :
  (Op.equalIn (D+2) t (.agg (l.map (Value.int k)).toArray) (.agg (l'.map (Value.int k)).toArray)).run P w = .ok (l==l') w:=by
 obtain ⟨i,hi,hsz⟩:=hi
 have hc:P.cellsOf e=1:=by simp [Program.cellsOf,hi,hsz]
 rw [show D+2=(D+1)+1 from rfl,run_equalIn_array w (D+1) _ _ hu hi,hc,←all_range_ints l l' (h.trans h'.symm),h]
 have hl:∀ j,j∈List.range n->j<n:=fun j hj=>List.mem_range.1 hj
 generalize List.range n=is at hl ⊢
 induction is with
 |nil=>simp [Op.eqItems]
 |cons j is ih =>
  have hj:j<n:=hl j (by simp)
  have p1:(part e (l.map (Value.int k)).toArray (j*1)).run P w = .ok (.int k (l.getD j 0)) w:=by
   simp [part,isAgg,run_underlying hue,List.getD,List.getElem?_eq_getElem (show j<l.length by omega)]
  have p2:(part e (l'.map (Value.int k)).toArray (j*1)).run P w = .ok (.int k (l'.getD j 0)) w:=by
   simp [part,isAgg,run_underlying hue,List.getD,List.getElem?_eq_getElem (show j<l'.length by omega)]
  simp only [Op.eqItems,Sem.run_bind,p1,p2,Result.andThen_ok,run_equalIn_int w D e k kk _ _ hue,List.all_cons]
  cases hb:(l.getD j 0==l'.getD j 0)
  ·simp
  ·simp only [Bool.not_true,Bool.false_eq_true,if_false,Bool.true_and]
   exact ih fun q hq=>hl q (by simp [hq])
theorem eqT_run (hT:TabOK P T):∀ (d:Nat) {t:TypeId} {a b:DV} {K:Bool->Prop},eqT T d t a b K ->
  ∃ r,K r/\∀ rd ca cb D w,RepD rd a ca->RepD rd b cb->d+1≤D->(Op.equalIn D t (ofCells a.lay.isAgg ca) (ofCells b.lay.isAgg cb)).run P w = .ok r w
 |0,t,a,b,K,h=>h.elim
 |d+1,t,a,b,K,h=>by
  simp only [eqT] at h
  split at h
  ·rename_i n e hk
   split at h<;>try exact h.elim
   split at h<;>try exact h.elim
   rename_i k m l k' m' l'
   split at h<;>try exact h.elim
   rename_i kk hke
   split at h<;>try exact h.elim
   rename_i h1 h2 h3 h4
   obtain rfl:=kindEq_eq h1
   obtain rfl:=Nat.eq_of_beq_eq_true h2
   obtain rfl:=Nat.eq_of_beq_eq_true h3
   refine ⟨_,h,fun rd ca cb D w hca hcb hD => ?_⟩
   cases hca with
   |ints _ _ _ hl =>
    cases hcb with
    |ints _ _ _ hl' =>
     obtain ⟨D,rfl⟩:∃ q,D=q+2:=⟨D-2,by omega⟩
     obtain ⟨hu,i,hi⟩:=und_arr hT hk
     have hue:=und_int hT hke
     obtain ⟨i',d',z,cs,hi',hd',_,hsz,_,hls,hagg,_⟩:=(hT.entry (mem_of_kind (t:=e) (by rw [hke];intro h;cases h))).info
     rw [hi] at hi'
     cases hi'
     rw [hue] at hd'
     cases hd'
     have hone:=isAgg_size hagg
     exact run_eq_ints w hu hue ⟨i,hi,by rw [hsz,←hls,hone];rfl⟩ hl hl' D
  ·rename_i fs hk
   split at h<;>try exact h.elim
   rename_i heq ha hb
   obtain ⟨fields,hu,hfs,hinfo⟩:=und_struct hT hk
   obtain ⟨i',d',z,cs,hi',hd',_,hsz,_,hls,hagg,_,_,_,_,hcmp⟩:=(hT.entry (mem_of_kind (t:=t) (by rw [hk];intro h;cases h))).info
   rw [hu] at hd'
   cases hd'
   obtain ⟨hg,hf⟩:=hcmp heq
   obtain ⟨hst,hnm⟩:=hf _ rfl
   rw [←hfs] at h
   obtain ⟨r,hr,hrun⟩:=eqF_run hT (d+1) (eqT_run hT d) fields.toList 0 h hnm
   refine ⟨r,hr,fun rd ca cb D w hca hcb hD => ?_⟩
   obtain ⟨D,rfl⟩:∃ q,D=q+1:=⟨D-1,by omega⟩
   have hff:P.fieldsOf t=fields:=by simp [Program.fieldsOf,hu]
   rw [ha,hb]
   show (Op.equalIn (D+1) t (.agg ca.toArray) (.agg cb.toArray)).run P w=_
   rw [run_equalIn_struct w D t _ _ (by rw [hff];exact hu) hst,hff]
   exact hrun rd ca cb D w hca hcb (by omega)
  ·obtain ⟨ha,hb,r,hr,hrun⟩:=eqS_run hT h
   refine ⟨r,hr,fun rd ca cb D w hca hcb hD => ?_⟩
   obtain ⟨u,rfl,_⟩:=hca.one ha
   obtain ⟨v,rfl,_⟩:=hcb.one hb
   rw [ha,hb]
   obtain ⟨D,rfl⟩:∃ q,D=q+1:=⟨D-1,by omega⟩
   exact (hrun rd u v w hca hcb).1 D
theorem eqT_bin (hT:TabOK P T) {d:Nat} (hd:d≤12) {t:TypeId} {a b:DV} {K:Bool->Prop} (h:eqT T d t a b K) :
  ∃ r,K r/\∀ rd ca cb w op x y,RepD rd a ca->RepD rd b cb->(a = .sc .nilIface->isC x=true\/isC y=true) ->
   (eqGuard op t x y (ofCells a.lay.isAgg ca) (ofCells b.lay.isAgg cb)).run P w = .ok () w /\
   (binOp .eql t (ofCells a.lay.isAgg ca) (ofCells b.lay.isAgg cb)).run P w = .ok (.bool r) w/\(binOp .neq t (ofCells a.lay.isAgg ca) (ofCells b.lay.isAgg cb)).run P w = .ok (.bool (!r)) w:=by
 have hrun:=eqT_run hT d h
 cases d with
 |zero=>exact h.elim
 |succ d =>
  simp only [eqT] at h
  have agg:∀ ca cb w op x y,P.eqGuardType P.depth t=false->(eqGuard op t x y (.agg ca) (.agg cb)).run P w = .ok () w:=fun ca cb w op x y hm=>run_eqGuard_agg w op t x y ca cb hm
  have fin:(a.lay.isAgg=true/\b.lay.isAgg=true/\P.eqGuardType P.depth t=false)->∃ r,K r/\∀ rd ca cb w op x y,RepD rd a ca->RepD rd b cb->(a = .sc .nilIface->isC x=true\/isC y=true) ->
   (eqGuard op t x y (ofCells a.lay.isAgg ca) (ofCells b.lay.isAgg cb)).run P w = .ok () w /\
   (binOp .eql t (ofCells a.lay.isAgg ca) (ofCells b.lay.isAgg cb)).run P w = .ok (.bool r) w/\(binOp .neq t (ofCells a.lay.isAgg ca) (ofCells b.lay.isAgg cb)).run P w = .ok (.bool (!r)) w:=by
   rintro ⟨ha,hb,hg⟩
   obtain ⟨r,hr,hrun⟩:=hrun
   refine ⟨r,hr,fun rd ca cb w op x y hca hcb _ => ?_⟩
   have hr1:=hrun rd ca cb 10000 w hca hcb (by omega)
   rw [ha,hb] at hr1 ⊢
   have hr1:(Op.equalIn 10000 t (.agg ca.toArray) (.agg cb.toArray)).run P w = .ok r w:=hr1
   refine ⟨agg _ _ w op x y hg,?_,?_⟩
   ·show (binOp .eql t (.agg ca.toArray) (.agg cb.toArray)).run P w=_
    rw [run_eql_struct,hr1];rfl
   ·show (binOp .neq t (.agg ca.toArray) (.agg cb.toArray)).run P w=_
    rw [run_neq_struct,hr1];rfl
  split at h
  ·rename_i n e hk
   split at h<;>try exact h.elim
   split at h<;>try exact h.elim
   split at h<;>try exact h.elim
   split at h<;>try exact h.elim
   rename_i h4
   obtain ⟨i',d',z,cs,hi',hd',_,hsz,_,hls,hagg,_,_,_,_,hcmp⟩:=(hT.entry (mem_of_kind (t:=t) (by rw [hk];intro h;cases h))).info
   exact fin ⟨rfl,rfl,(hcmp h4).1⟩
  ·rename_i fs hk
   split at h<;>try exact h.elim
   rename_i heq ha hb
   obtain ⟨i',d',z,cs,hi',hd',_,hsz,_,hls,hagg,_,_,_,_,hcmp⟩:=(hT.entry (mem_of_kind (t:=t) (by rw [hk];intro h;cases h))).info
   exact fin ⟨ha,hb,(hcmp heq).1⟩
  ·obtain ⟨ha,hb,r,hr,hrun⟩:=eqS_run hT h
   refine ⟨r,hr,fun rd ca cb w op x y hca hcb hn => ?_⟩
   obtain ⟨u,rfl,hu⟩:=hca.one ha
   obtain ⟨v,rfl,hv⟩:=hcb.one hb
   rw [ha,hb]
   obtain ⟨_,h1,h2,h3⟩:=hrun rd u v w hca hcb
   refine ⟨run_eqGuard_plain w op t x y fun _=>⟨?_,fun e _=>hn (h3 e)⟩,h1,h2⟩
   intro q _ e _
   have e:u = .agg q:=e
   rw [e] at hu;exact hu
end
end Go.Eng

namespace Go.Eng
section
variable {P:Program} {G:Glob} {T:Tr} {o:Oper} {ρ:Operand->AV} {H:Nat->Blk} {K:Cont}
theorem rep_dv {E:Env} {d:DV} {v:Value} (h:RepV E (.dv d) v):∃ cs,RepD E.rd d cs/\v=ofCells d.lay.isAgg cs:=by
 rcases h with h|⟨cs,h,e⟩
 ·cases h
 ·exact ⟨cs,h.dv_inv,e⟩
theorem told_eql {op:BinOp} (hop:op = .eql\/op = .neq) {t t':TypeId} {x y:Operand} (hT:TabOK P T) (ho:o.op = .binOp op t x y t') (hn:nilNil (ρ x) (ρ y) (isC x) (isC y)=false)
  (h:eqAV T t (ρ x) (ρ y) fun b=>K [] [] (.bl (if op = .eql then b else !b))):Told P G o ρ H K:=by
 have mx:x∈opnds o.op:=by simp [opnds,ho,Op.operands]
 have my:y∈opnds o.op:=by simp [opnds,ho,Op.operands]
 have fin:∀ (r:Bool),K [] [] (.bl (if op = .eql then r else !r))->(∀ E (a:Act) w,(∀ x,x∈opnds o.op->RepV E (ρ x) (a.eval x)) ->
   (eqGuard op t x y (a.eval x) (a.eval y)).run P w = .ok () w/\(binOp .eql t (a.eval x) (a.eval y)).run P w = .ok (.bool r) w/\(binOp .neq t (a.eval x) (a.eval y)).run P w = .ok (.bool (!r)) w)->Told P G o ρ H K:=by
  intro r hr hrun
  refine ⟨_,_,_,hr,.pure fun E a w hx=>⟨_,?_,bl_rep E _⟩⟩
  obtain ⟨h1,h2,h3⟩:=hrun E a w hx
  rcases hop with rfl|rfl
  ·exact exec_bin ho a w rfl rfl h1 h2
  ·exact exec_bin ho a w rfl rfl h1 h3
 have ptrs:∀ {e:TypeId},(T.get t).kind = .ptr e->∀ (w:World) (ad:Addr),(∀ D,(Op.equalIn (D+1) t (.pointer (some ad)) (.pointer none)).run P w = .ok false w)/\(∀ D,(Op.equalIn (D+1) t (.pointer none) (.pointer (some ad))).run P w = .ok false w):=by
  intro e hk w ad
  have hu:=und_ptr hT hk
  exact ⟨fun D=>by simp only [Op.equalIn,Sem.run_bind,run_underlying hu,Result.andThen_ok,Sem.run_pure],fun D=>by simp only [Op.equalIn,Sem.run_bind,run_underlying hu,Result.andThen_ok,Sem.run_pure,Option.isNone_some]⟩
 have ptrL:∀ {e:TypeId},(T.get t).kind = .ptr e->ρ y = .dv (.sc (.pointer none))->(∀ E v,RepV E (ρ x) v->∃ ad,v = .pointer (some ad))->K [] [] (.bl (if op = .eql then false else !false))->Told P G o ρ H K:=by
  intro e hk hy hp hr
  refine fin false hr fun E a w hx => ?_
  obtain ⟨ad,e1⟩:=hp E _ (hx x mx)
  have e2:=rep_sc (hy▸hx y my)
  rw [e1,e2]
  have:=(ptrs hk w ad).1 9999
  exact ⟨run_eqGuard_plain w op t x y fun _=>⟨(fun _ _ e=>by cases e),(fun e=>by cases e)⟩,run_bin_eql rfl this,run_bin_neq rfl this⟩
 have ptrR:∀ {e:TypeId},(T.get t).kind = .ptr e->ρ x = .dv (.sc (.pointer none))->(∀ E v,RepV E (ρ y) v->∃ ad,v = .pointer (some ad))->K [] [] (.bl (if op = .eql then false else !false))->Told P G o ρ H K:=by
  intro e hk hy hp hr
  refine fin false hr fun E a w hx => ?_
  obtain ⟨ad,e1⟩:=hp E _ (hx y my)
  have e2:=rep_sc (hy▸hx x mx)
  rw [e1,e2]
  have:=(ptrs hk w ad).2 9999
  exact ⟨run_eqGuard_plain w op t x y fun _=>⟨(fun _ _ e=>by cases e),(fun e=>by cases e)⟩,run_bin_eql rfl this,run_bin_neq rfl this⟩
 have isPtr:∀ {b:Nat} {p:List Nat} {l:Lay} E v,RepV E (.ptr b p l) v->∃ ad,v = .pointer (some ad):=by
  intro b p l E v hv
  rcases hv with hv|⟨cs,hv,e⟩
  ·cases hv
  ·cases hv;exact ⟨_,e⟩
 have isRp:∀ {d:DV} E v,RepV E (.rp d) v->∃ ad,v = .pointer (some ad):=by
  intro d E v hv
  rcases hv with hv|⟨cs,hv,e⟩
  ·cases hv
  ·cases hv;exact ⟨_,e⟩
 have isIfc:∀ {q:TypeId} {z:AV} E v,RepV E (.ifc q z) v->∃ q u,v = .iface q u:=by
  intro q z E v hv
  rcases hv with hv|⟨cs,hv,e⟩
  ·cases hv
  ·cases hv;exact ⟨_,_,e⟩
 have ifcs:(T.get t).kind = .iface->∀ (w:World) q u,(∀ D,(Op.equalIn (D+1) t (.iface q u) .nilIface).run P w = .ok false w)/\(∀ D,(Op.equalIn (D+1) t .nilIface (.iface q u)).run P w = .ok false w):=by
  intro hk w q u
  obtain ⟨ms,hu⟩:=und_iface hT hk
  exact ⟨fun D=>by simp only [Op.equalIn,Sem.run_bind,run_underlying hu,Result.andThen_ok,Sem.run_pure],fun D=>by simp only [Op.equalIn,Sem.run_bind,run_underlying hu,Result.andThen_ok,Sem.run_pure]⟩
 cases hxa:ρ x with
 |dv a =>
  rw [hxa] at h hn
  cases hyb:ρ y with
  |dv b =>
   rw [hyb] at h hn
   simp only [eqAV] at h
   obtain ⟨r,hr,hrun⟩:=eqT_bin hT (Nat.le_refl _) h
   refine fin r hr fun E ac w hx => ?_
   obtain ⟨ca,h1,e1⟩:=rep_dv (hxa▸hx x mx)
   obtain ⟨cb,h2,e2⟩:=rep_dv (hyb▸hx y my)
   rw [e1,e2]
   refine hrun E.rd ca cb w op x y h1 h2 fun e => ?_
   rw [e] at hn
   cases hcx:isC x with
   |true=>exact .inl rfl
   |false=>cases hcy:isC y with
    |true=>exact .inr rfl
    |false=>rw [hcx,hcy] at hn;cases hn
  |ptr b p l =>
   rw [hyb] at h
   simp only [eqAV] at h
   split at h
   ·rename_i hk;exact ptrR hk hxa (by rw [hyb];exact isPtr) h
   ·exact h.elim
  |rp d =>
   rw [hyb] at h
   simp only [eqAV] at h
   split at h
   ·rename_i hk;exact ptrR hk hxa (by rw [hyb];exact isRp) h
   ·exact h.elim
  |ifc q z =>
   rw [hyb] at h
   simp only [eqAV] at h
   split at h
   ·rename_i hk
    refine fin false h fun E ac w hx => ?_
    obtain ⟨q,u,e1⟩:=isIfc E _ (hyb▸hx y my)
    have e2:=rep_sc (hxa▸hx x mx)
    rw [e1,e2]
    have:=(ifcs hk w q u).2 9999
    exact ⟨run_eqGuard_plain w op t x y fun _=>⟨(fun _ _ e=>by cases e),(fun _ e=>by cases e)⟩,run_bin_eql rfl this,run_bin_neq rfl this⟩
   ·exact h.elim
  |_=>rw [hyb] at h;exact h.elim
 |ptr b p l =>
  rw [hxa] at h
  simp only [eqAV] at h
  split at h
  ·rename_i hyb hk;exact ptrL hk hyb (by rw [hxa];exact isPtr) h
  ·exact h.elim
 |rp d =>
  rw [hxa] at h
  simp only [eqAV] at h
  split at h
  ·rename_i hyb hk;exact ptrL hk hyb (by rw [hxa];exact isRp) h
  ·exact h.elim
 |ifc q z =>
  rw [hxa] at h
  simp only [eqAV] at h
  split at h
  ·rename_i hyb hk
   refine fin false h fun E ac w hx => ?_
   obtain ⟨q,u,e1⟩:=isIfc E _ (hxa▸hx x mx)
   have e2:=rep_sc (hyb▸hx y my)
   rw [e1,e2]
   have:=(ifcs hk w q u).1 9999
   exact ⟨run_eqGuard_plain w op t x y fun _=>⟨(fun _ _ e=>by cases e),(fun e=>by cases e)⟩,run_bin_eql rfl this,run_bin_neq rfl this⟩
  ·exact h.elim
 |_=>rw [hxa] at h;exact h.elim
theorem nilLen_inv {x y:AV} {n:Nat} (h:nilLen x y=some n):y = .dv (.sc (.slice none 0 0))/\∀ E v,RepV E x v->∃ ad cap,v = .slice ad n cap/\(ad=none->n=0):=by
 unfold nilLen at h
 split at h
 ·cases h
  refine ⟨rfl,fun E v hv => ?_⟩
  rcases hv with hv|⟨cs,hv,e⟩
  ·cases hv
  ·cases hv with
   |sl b p l off len r o so m c _ _ _ _ _=>exact ⟨_,_,e,fun h=>by cases h⟩
   |sl0 b p l off a so m _ _ _=>exact ⟨_,_,e,fun _=>rfl⟩
 ·cases h
  refine ⟨rfl,fun E v hv => ?_⟩
  rcases hv with hv|⟨cs,hv,e⟩
  ·cases hv
  ·have hv:=hv.dv_inv
   cases hv with
   |roI k l r o c _ _=>exact ⟨_,_,e,fun h=>by cases h⟩
   |roI0 k a c _=>exact ⟨_,_,e,fun _=>rfl⟩
 ·cases h
  refine ⟨rfl,fun E v hv => ?_⟩
  rcases hv with hv|⟨cs,hv,e⟩
  ·cases hv
  ·have hv:=hv.dv_inv
   cases hv with
   |ro l n f css r o c _ _ _ _=>exact ⟨_,_,e,fun h=>by cases h⟩
   |ro0 l f a c _=>exact ⟨_,_,e,fun _=>rfl⟩
 ·cases h
theorem told_nq {op:BinOp} {t t' e:TypeId} {x y:Operand} {n:Nat} {g:Bool} (hop:op = .eql/\g=false\/op = .neq/\g=true) (hT:TabOK P T) (ho:o.op = .binOp op t x y t') (hl:nilLen (ρ x) (ρ y)=some n) (hk:(T.get t).kind = .sli e) (h:K [] [] (.nq g n)):Told P G o ρ H K:=by
 have mx:x∈opnds o.op:=by simp [opnds,ho,Op.operands]
 have my:y∈opnds o.op:=by simp [opnds,ho,Op.operands]
 obtain ⟨hy,hx⟩:=nilLen_inv hl
 obtain ⟨hu,_⟩:=und_sli hT hk
 refine ⟨_,_,_,h,.pure fun E a w hop' => ?_⟩
 obtain ⟨ad,cap,ex,had⟩:=hx E _ (hop' x mx)
 have ey:=rep_sc (hy▸hop' y my)
 have heq:∀ D,(Op.equalIn (D+1) t (.slice ad n cap) (.slice none 0 0)).run P w = .ok ad.isNone w:=fun D=>by
  cases ad with
  |none=>simp only [Op.equalIn,Sem.run_bind,run_underlying hu,Result.andThen_ok,Sem.run_pure]
  |some a=>simp only [Op.equalIn,Sem.run_bind,run_underlying hu,Result.andThen_ok,Sem.run_pure];rfl
 have hg:∀ op,(eqGuard op t x y (a.eval x) (a.eval y)).run P w = .ok () w:=fun op=>by
  rw [ex,ey];exact run_eqGuard_plain w op t x y fun _=>⟨(fun _ _ e=>by cases e),(fun e=>by cases e)⟩
 have hb:ad.isNone=true->n=0:=fun h=>had (by simpa using h)
 rcases hop with ⟨rfl,rfl⟩|⟨rfl,rfl⟩
 ·refine ⟨.bool (ad.isNone != false),exec_bin ho a w rfl rfl (hg _) ?_,.one (.nq false n _ hb) rfl⟩
  rw [ex,ey,Bool.bne_false];exact run_bin_eql rfl (heq 9999)
 ·refine ⟨.bool (ad.isNone != true),exec_bin ho a w rfl rfl (hg _) ?_,.one (.nq true n _ hb) rfl⟩
  rw [ex,ey,Bool.bne_true];exact run_bin_neq rfl (heq 9999)
theorem told_bin {op:BinOp} {t t':TypeId} {x y:Operand} (hT:TabOK P T) (ho:o.op = .binOp op t x y t') (h:binK T op t (isC x) (isC y) (ρ x) (ρ y) fun v=>K [] [] v):Told P G o ρ H K:=by
 cases op with
 |eql =>
  simp only [binK] at h
  split at h
  ·rename_i n hl
   split at h
   ·rename_i e hk;exact told_nq (.inl ⟨rfl,rfl⟩) hT ho hl hk h
   ·exact h.elim
  ·split at h
   ·rename_i hn;exact told_eql (.inl rfl) hT ho hn (by simpa using h)
   ·exact h.elim
 |neq =>
  simp only [binK] at h
  split at h
  ·rename_i n hl
   split at h
   ·rename_i e hk;exact told_nq (.inr ⟨rfl,rfl⟩) hT ho hl hk h
   ·exact h.elim
  ·split at h
   ·rename_i hn;exact told_eql (.inr rfl) hT ho hn (by simpa using h)
   ·exact h.elim
 |shl =>
  simp only [binK] at h
  obtain ⟨k,a,hx,h⟩:=intK_inv h
  obtain ⟨k',b,hy,h0,h⟩:=intK_inv h
  exact told_bin_int ho hx hy (fun E=>int_rep E _ _) (fun w=>by simp only [binOp,Op.shift];rw [if_neg (by omega)];rfl) h
 |shr =>
  simp only [binK] at h
  obtain ⟨k,a,hx,h⟩:=intK_inv h
  obtain ⟨k',b,hy,h0,h⟩:=intK_inv h
  exact told_bin_int ho hx hy (fun E=>int_rep E _ _) (fun w=>by simp only [binOp,Op.shift];rw [if_neg (by omega)];rfl) h
 |add =>
  simp only [binK] at h
  split at h
  ·rename_i a hx
   split at h
   ·rename_i b hy
    refine told_bin_str ho hx hy (u := .string ⟨⟨a++b⟩⟩) (fun E=>str_rep E _) (fun w => ?_) h.2
    have e:(⟨⟨a⟩⟩:ByteArray)++⟨⟨b⟩⟩=⟨⟨a++b⟩⟩:=by
     apply ByteArray.ext;simp
    have hs:¬ (((⟨⟨a⟩⟩:ByteArray).size+(⟨⟨b⟩⟩:ByteArray).size:Nat):Int)>IntKind.i64.max:=by
     have h1:=h.1
     show ¬ ((a.length+b.length:Nat):Int)>9223372036854775807
     omega
    simp only [binOp,Op.stringOp]
    rw [if_neg hs,e]
    rfl
   ·exact h.elim
  ·obtain ⟨k,a,b,hx,hy,h⟩:=int2K_inv h
   exact told_bin_int ho hx hy (fun E=>int_rep E _ _) (fun w=>by simp [binOp,Op.intArith]) h
 |sub =>
  simp only [binK] at h
  obtain ⟨k,a,b,hx,hy,h⟩:=int2K_inv h
  exact told_bin_int ho hx hy (fun E=>int_rep E _ _) (fun w=>by simp [binOp,Op.intArith]) h
 |mul =>
  simp only [binK] at h
  obtain ⟨k,a,b,hx,hy,h⟩:=int2K_inv h
  exact told_bin_int ho hx hy (fun E=>int_rep E _ _) (fun w=>by simp [binOp,Op.intArith]) h
 |quo =>
  simp only [binK] at h
  obtain ⟨k,a,b,hx,hy,h0,h⟩:=int2K_inv h
  exact told_bin_int ho hx hy (fun E=>int_rep E _ _) (fun w=>by simp [binOp,Op.intDiv,h0]) h
 |rem =>
  simp only [binK] at h
  obtain ⟨k,a,b,hx,hy,h0,h⟩:=int2K_inv h
  exact told_bin_int ho hx hy (fun E=>int_rep E _ _) (fun w=>by simp [binOp,Op.intDiv,h0]) h
 |and =>
  simp only [binK] at h
  obtain ⟨k,a,b,hx,hy,h⟩:=int2K_inv h
  exact told_bin_int ho hx hy (fun E=>int_rep E _ _) (fun w=>by simp [binOp,Op.intBits,bits]) h
 |or =>
  simp only [binK] at h
  obtain ⟨k,a,b,hx,hy,h⟩:=int2K_inv h
  exact told_bin_int ho hx hy (fun E=>int_rep E _ _) (fun w=>by simp [binOp,Op.intBits,bits]) h
 |xor =>
  simp only [binK] at h
  obtain ⟨k,a,b,hx,hy,h⟩:=int2K_inv h
  exact told_bin_int ho hx hy (fun E=>int_rep E _ _) (fun w=>by simp [binOp,Op.intBits,bits]) h
 |andNot =>
  simp only [binK] at h
  obtain ⟨k,a,b,hx,hy,h⟩:=int2K_inv h
  exact told_bin_int ho hx hy (fun E=>int_rep E _ _) (fun w=>by simp [binOp,Op.intBits,bits]) h
 |lss =>
  simp only [binK] at h
  obtain ⟨k,a,b,hx,hy,h⟩:=int2K_inv h
  exact told_bin_int ho hx hy (fun E=>bl_rep E _) (fun w=>by simp [binOp,Op.intCmp]) h
 |leq =>
  simp only [binK] at h
  obtain ⟨k,a,b,hx,hy,h⟩:=int2K_inv h
  exact told_bin_int ho hx hy (fun E=>bl_rep E _) (fun w=>by simp [binOp,Op.intCmp]) h
 |gtr =>
  simp only [binK] at h
  obtain ⟨k,a,b,hx,hy,h⟩:=int2K_inv h
  exact told_bin_int ho hx hy (fun E=>bl_rep E _) (fun w=>by simp [binOp,Op.intCmp]) h
 |geq =>
  simp only [binK] at h
  obtain ⟨k,a,b,hx,hy,h⟩:=int2K_inv h
  exact told_bin_int ho hx hy (fun E=>bl_rep E _) (fun w=>by simp [binOp,Op.intCmp]) h
theorem told_un {op:UnOp} {t:TypeId} {x:Operand} (ho:o.op = .unOp op t x) (h:unK op (ρ x) fun v=>K [] [] v):Told P G o ρ H K:=by
 have mx:x∈opnds o.op:=by simp [opnds,ho,Op.operands]
 cases op with
 |not =>
  simp only [unK] at h
  split at h
  ·rename_i b hx
   refine ⟨_,_,_,h,.pure fun E a w hop=>⟨.bool (!b),?_,sc_rep E trivial⟩⟩
   have e:=rep_sc (hx▸hop x mx)
   simp [execOp,ho,e,Op.unary]
  ·rename_i b hx
   refine ⟨_,_,_,h,.pure fun E a w hop=>⟨.bool (!b),?_,bl_rep E _⟩⟩
   have e:=rep_bl (hx▸hop x mx)
   simp [execOp,ho,e,Op.unary]
  ·exact h.elim
 |neg =>
  simp only [unK] at h
  obtain ⟨k,n,hx,h⟩:=intK_inv h
  refine ⟨_,_,_,h,.pure fun E a w hop=>⟨_,?_,int_rep E _ _⟩⟩
  have e:=rep_int (hx▸hop x mx)
  simp [execOp,ho,e,Op.unary,Op.intArith]
 |xor =>
  simp only [unK] at h
  obtain ⟨k,n,hx,h⟩:=intK_inv h
  refine ⟨_,_,_,h,.pure fun E a w hop=>⟨_,?_,int_rep E _ _⟩⟩
  have e:=rep_int (hx▸hop x mx)
  simp [execOp,ho,e,Op.unary,Op.intBits,bits]
 |plus=>exact h.elim
end
end Go.Eng

namespace Go.Eng
section
variable {P:Program} {G:Glob} {T:Tr} {o:Oper} {ρ:Operand->AV} {H:Nat->Blk} {K:Cont}
theorem fits_inv {t:TypeId} {l:Lay} (h:fits T t l=true):l.size=(T.get t).size/\l.isAgg=(T.get t).lay.isAgg/\t∈T.keys:=by
 unfold fits at h
 split at h
 ·rename_i hs
  have hs:=Nat.eq_of_beq_eq_true hs
  split at h
  ·rename_i h1 h2;have ha:l.isAgg=(T.get t).lay.isAgg:=by rw [h1,h2]
   exact ⟨hs,ha,fit_key hs ha⟩
  ·rename_i h1 h2;have ha:l.isAgg=(T.get t).lay.isAgg:=by rw [h1,h2]
   exact ⟨hs,ha,fit_key hs ha⟩
  ·cases h
 ·cases h
theorem Reads.sub {rd:Rd} {r o off s:Nat} {cs:List Value} (h:Reads rd r o cs):Reads rd r (o+off) ((cs.drop off).take s):=by
 intro j hj
 simp only [List.length_take,List.length_drop] at hj
 have:=h (off+j) (by omega)
 rw [Nat.add_assoc,this]
 simp
theorem Reads.list {w:World} {r o:Nat} {cs:List Value} (h:Reads (cellAt w) r o cs):∀ j v,cs[j]?=some v->w.cell? ((⟨r,o,none⟩:Addr).add j)=some v:=by
 intro j v hv
 obtain ⟨hj,rfl⟩:=List.getElem?_eq_some_iff.1 hv
 rw [add_at]
 exact h j hj
theorem run_loadVar {t:TypeId} (hT:TabOK P T) {l:Lay} (hf:fits T t l=true) {w:World} {r o:Nat} {cs:List Value} (h:Reads (cellAt w) r o cs) (hl:cs.length=l.size) :
  (loadVar t ⟨r,o,none⟩).run P w = .ok (ofCells l.isAgg cs) w:=by
 obtain ⟨hs,ha,ht⟩:=fits_inv hf
 obtain ⟨i,d,z,zs,hi,hd,_,hsz,_,_,hagg,_⟩:=(hT.entry ht).info
 cases hal:l.isAgg with
 |true =>
  rw [←ha,hal] at hagg
  have e:i.size=cs.length:=by omega
  have hr:=run_loadCells_list (P:=P) w ⟨r,o,none⟩ cs h.list
  cases d<;>first|(cases hagg;done)|(simp [loadVar,isAgg,run_underlying hd,sizeOf,typeInfo,hi,e,hr,ofCells])
 |false =>
  rw [←ha,hal] at hagg
  have h1:=isAgg_size hal
  subst h1
  obtain ⟨v,rfl⟩:∃ v,cs=[v]:=by
   cases cs with
   |nil=>cases hl
   |cons v q=>cases q with
    |nil=>exact ⟨v,rfl⟩
    |cons _ _=>simp [Lay.size] at hl
  have hv:w.cell? ⟨r,o,none⟩=some v:=h 0 (by simp)
  cases d<;>first|(cases hagg;done)|(simp [loadVar,isAgg,run_underlying hd,hv,ofCells])
theorem rep_ptr {E:Env} {b:Nat} {p:List Nat} {l:Lay} {v:Value} (h:RepV E (.ptr b p l) v):∃ r o off,v = .pointer (some ⟨r,o+off,none⟩)/\E.pl b = .at r o/\locL (E.lay b) p=some (off,l):=by
 rcases h with h|⟨cs,h,e⟩
 ·cases h
 ·cases h with
  |ptr b p l r o off hp hl=>exact ⟨r,o,off,e,hp,hl⟩
theorem rep_rp {E:Env} {d:DV} {v:Value} (h:RepV E (.rp d) v):∃ r o cs,v = .pointer (some ⟨r,o,none⟩)/\RepD E.rd d cs/\Reads E.rd r o cs:=by
 rcases h with h|⟨cs,h,e⟩
 ·cases h
 ·cases h with
  |rp r o h hr=>exact ⟨r,o,_,e,h,hr⟩
theorem exec_load {t:TypeId} {x:Operand} (ho:o.op = .load t x) {a:Act} {w:World} {r j:Nat} {v:Value} (hx:a.eval x = .pointer (some ⟨r,j,none⟩)) (hr:(loadVar t ⟨r,j,none⟩).run P w = .ok v w) :
  (execOp a.eval o).run P w = .ok (.value v) w:=by
 simp [execOp,ho,hx,Instr.loadAt,Instr.sureAddr,hr]
theorem locL_arr1 {n:Nat} {l:Lay} {i:Nat} {o:Nat} {l':Lay} (h:locL (.arr n l) [i]=some (o,l')):i<n/\o=i*l.size/\l'=l:=by
 rw [locL_arr] at h
 split at h
 ·rw [locL_nil] at h;cases h;exact ⟨by assumption,by simp,rfl⟩
 ·cases h
theorem locL_arrS {n:Nat} {l:Lay} {i:Nat} {q:List Nat} {o:Nat} {l':Lay} (h:locL (.arr n l) (i::q)=some (o,l')):i<n/\∃ o',locL l q=some (o',l')/\o=i*l.size+o':=by
 rw [locL_arr] at h
 split at h
 ·split at h
  ·rename_i o' l'' hq;cases h;exact ⟨by assumption,o',hq,rfl⟩
  ·cases h
 ·cases h
theorem map_get (k:IntKind) (l:List Int) (i:Nat) (h:i<l.length):(l.map (Value.int k))[i]?=some (.int k (l.getD i 0)):=by
 simp [List.getD_eq_getElem?_getD,List.getElem?_eq_getElem h]
theorem told_load {t:TypeId} {x:Operand} (hT:TabOK P T) (ho:o.op = .load t x) (h:loadK T t H (ρ x) K):Told P G o ρ H K:=by
 have mx:x∈opnds o.op:=by simp [opnds,ho,Op.operands]
 cases hx:ρ x with
 |rp d =>
  rw [hx] at h
  simp only [loadK] at h
  split at h
  ·rename_i hf
   refine ⟨_,_,_,h,.of fun E H' a w hR _ hop _ _ => ?_⟩
   obtain ⟨r,j,cs,e,hd,hr⟩:=rep_rp (hx▸hop x mx)
   have hr':Reads (cellAt w) r j cs:=fun i hi=>hR.rd _ _ _ (hr i hi)
   exact ⟨_,w,E,.inl (exec_load ho e (run_loadVar hT hf hr' hd.len)),.pure hR (.of (.dv hd) rfl)⟩
  ·exact h.elim
 |ptr b p l =>
  rw [hx] at h
  simp only [loadK] at h
  split at h
  ·rename_i hf
   cases hb:H b with
   |dead=>rw [hb] at h;exact h.elim
   |mp f0 es=>rw [hb] at h;exact h.elim
   |mpn f0 es kd c=>rw [hb] at h;exact h.elim
   |lp L s=>rw [hb] at h;exact h.elim
   |var y =>
    rw [hb] at h
    refine ⟨_,_,_,h,.of fun E H' a w hR _ hop hrd _ => ?_⟩
    obtain ⟨r,j,off,e,hp,hl⟩:=rep_ptr (hx▸hop x mx)
    have hbr:=hR.blk b
    rw [hrd b (by simp),hb] at hbr
    obtain ⟨r',o',cs,hp',hlay,hy,hrs,_,_⟩:=hbr
    rw [hp] at hp'
    injection hp' with h1 h2
    subst h1;subst h2
    rw [hlay] at hl
    obtain ⟨hya,hyl⟩:=hy.at hl
    have hlen:((cs.drop off).take l.size).length=l.size:=by rw [hya.len,hyl]
    refine ⟨_,w,E,.inl (exec_load ho e (run_loadVar hT hf hrs.sub hlen)),.pure hR (.of hya ?_)⟩
    unfold AV.isAgg;rw [hyl]
   |rowI k li =>
    rw [hb] at h
    simp only at h
    split at h
    ·rename_i i
     refine ⟨_,_,_,h,.of fun E H' a w hR _ hop hrd _ => ?_⟩
     obtain ⟨r,j,off,e,hp,hl⟩:=rep_ptr (hx▸hop x mx)
     have hbr:=hR.blk b
     rw [hrd b (by simp),hb] at hbr
     obtain ⟨hlay,hn|⟨r',o',hp',hrs,_⟩⟩:=hbr
     ·rw [hn.1] at hp;cases hp
     rw [hp] at hp'
     injection hp' with h1 h2
     subst h1;subst h2
     rw [hlay] at hl
     obtain ⟨hi,hoff,hle⟩:=locL_arr1 hl
     subst hoff;subst hle
     simp only [Lay.size,Nat.mul_one] at e ⊢
     have hc:Reads (cellAt w) r (j+i) [.int k (li.getD i 0)]:=by
      intro q hq
      obtain rfl:q=0:=by simp at hq;exact hq
      have:=hrs i (by simpa using hi)
      rw [Nat.add_zero]
      show cellAt w r (j+i)=_
      rw [this]
      have hg:=map_get k li i hi
      rw [List.getElem?_eq_getElem (by simpa using hi)] at hg
      exact hg
     exact ⟨_,w,E,.inl (exec_load ho e (run_loadVar hT hf hc rfl)),.pure hR (int_rep E _ _)⟩
    ·split at h
     ·refine ⟨_,_,_,h,.of fun E H' a w hR _ hop hrd _ => ?_⟩
      obtain ⟨r,j,off,e,hp,hl⟩:=rep_ptr (hx▸hop x mx)
      have hbr:=hR.blk b
      rw [hrd b (by simp),hb] at hbr
      obtain ⟨hlay,hn|⟨r',o',hp',hrs,_⟩⟩:=hbr
      ·rw [hn.1] at hp;cases hp
      rw [hp] at hp'
      injection hp' with h1 h2
      subst h1;subst h2
      rw [hlay,locL_nil] at hl
      cases hl
      have hd:RepD E.rd (.ints k li.length li) (li.map (.int k)) := .ints k li.length li rfl
      rw [Nat.add_zero] at e
      exact ⟨_,w,E,.inl (exec_load ho e (run_loadVar hT hf hrs (by simp [Lay.size]))),.pure hR (.of (.dv hd) rfl)⟩
     ·exact h.elim
    ·exact h.elim
   |frzI k li =>
    rw [hb] at h
    simp only at h
    split at h
    ·rename_i i
     refine ⟨_,_,_,h,.of fun E H' a w hR _ hop hrd _ => ?_⟩
     obtain ⟨r,j,off,e,hp,hl⟩:=rep_ptr (hx▸hop x mx)
     have hbr:=hR.blk b
     rw [hrd b (by simp),hb] at hbr
     obtain ⟨hlay,hn|⟨r',o',hp',hrs⟩⟩:=hbr
     ·rw [hn.1] at hp;cases hp
     rw [hp] at hp'
     injection hp' with h1 h2
     subst h1;subst h2
     rw [hlay] at hl
     obtain ⟨hi,hoff,hle⟩:=locL_arr1 hl
     subst hoff;subst hle
     simp only [Lay.size,Nat.mul_one] at e ⊢
     have hc:Reads (cellAt w) r (j+i) [.int k (li.getD i 0)]:=by
      intro q hq
      obtain rfl:q=0:=by simp at hq;exact hq
      have:=hR.rd _ _ _ (hrs i (by simpa using hi))
      rw [Nat.add_zero]
      show w.cell? _=_
      rw [this]
      have hg:=map_get k li i hi
      rw [List.getElem?_eq_getElem (by simpa using hi)] at hg
      exact hg
     exact ⟨_,w,E,.inl (exec_load ho e (run_loadVar hT hf hc rfl)),.pure hR (int_rep E _ _)⟩
    ·exact h.elim
   |row la n f =>
    rw [hb] at h
    simp only at h
    split at h
    ·rename_i i q
     refine ⟨_,_,_,h,.of fun E H' a w hR _ hop hrd _ => ?_⟩
     obtain ⟨r,j,off,e,hp,hl⟩:=rep_ptr (hx▸hop x mx)
     have hbr:=hR.blk b
     rw [hrd b (by simp),hb] at hbr
     obtain ⟨hlay,hn|⟨r',o',css,hp',hrep,hrl,hrs,_⟩⟩:=hbr
     ·rw [hn.1] at hp;cases hp
     rw [hp] at hp'
     injection hp' with h1 h2
     subst h1;subst h2
     rw [hlay] at hl
     obtain ⟨hi,off',hq,hoff⟩:=locL_arrS hl
     subst hoff
     obtain ⟨hda,hdl⟩:=(hrep i hi).at (by rw [hrl i hi];exact hq)
     have hlen:(((css i).drop off').take l.size).length=l.size:=by rw [hda.len,hdl]
     have hc:=(hrs i hi).sub (off:=off') (s:=l.size)
     rw [Nat.add_assoc] at hc
     refine ⟨_,w,E,.inl (exec_load ho e (run_loadVar hT hf hc hlen)),.pure hR (.of (.dv hda) ?_)⟩
     unfold AV.isAgg;rw [AV.lay,hdl]
    ·exact h.elim
   |frz la n f =>
    rw [hb] at h
    simp only at h
    split at h
    ·rename_i i q
     refine ⟨_,_,_,h,.of fun E H' a w hR _ hop hrd _ => ?_⟩
     obtain ⟨r,j,off,e,hp,hl⟩:=rep_ptr (hx▸hop x mx)
     have hbr:=hR.blk b
     rw [hrd b (by simp),hb] at hbr
     obtain ⟨hlay,hn|⟨r',o',css,hp',hrep,hrl,hrs⟩⟩:=hbr
     ·rw [hn.1] at hp;cases hp
     rw [hp] at hp'
     injection hp' with h1 h2
     subst h1;subst h2
     rw [hlay] at hl
     obtain ⟨hi,off',hq,hoff⟩:=locL_arrS hl
     subst hoff
     obtain ⟨hda,hdl⟩:=(hrep i hi).at (by rw [hrl i hi];exact hq)
     have hlen:(((css i).drop off').take l.size).length=l.size:=by rw [hda.len,hdl]
     have hc0:Reads (cellAt w) r (j+i*la.size) (css i):=fun q hq=>hR.rd _ _ _ (hrs i hi q hq)
     have hc:=hc0.sub (off:=off') (s:=l.size)
     rw [Nat.add_assoc] at hc
     refine ⟨_,w,E,.inl (exec_load ho e (run_loadVar hT hf hc hlen)),.pure hR (.of (.dv hda) ?_)⟩
     unfold AV.isAgg;rw [AV.lay,hdl]
    ·exact h.elim
  ·exact h.elim
 |_=>rw [hx] at h;exact h.elim
theorem fieldK_inv {t:TypeId} {f:Nat} {l:Lay} {K:Lay->Prop} (hT:TabOK P T) (h:fieldK T t f l K):∃ l',K l'/\∃ (fields:Array Field) (fd:Field) (off:Nat),P.underlying t=some (.struct fields)/\fields[f]?=some fd /\
  fd.offset=off/\locL l [f]=some (off,l')/\fits T fd.type l'=true/\P.cellsOf fd.type≠0/\(∃ i,P.info? fd.type=some i):=by
 unfold fieldK at h
 split at h
 ·rename_i fs hk
  obtain ⟨fields,hu,hfs,hinfo⟩:=und_struct hT hk
  split at h
  ·rename_i off ft hf
   split at h
   ·rename_i off' l' hl
    split at h
    ·rename_i h1 h2 h3
     obtain rfl:=Nat.eq_of_beq_eq_true h1
     rw [←hfs,List.getElem?_map,Option.map_eq_some_iff] at hf
     obtain ⟨fd,hfd,he⟩:=hf
     injection he with e1 e2
     subst e1;subst e2
     obtain ⟨i,hi,hsz⟩:=hinfo (fd.offset,fd.type) (by rw [←hfs];exact List.mem_map.2 ⟨fd,List.mem_of_getElem? hfd,rfl⟩)
     refine ⟨l',h,fields,fd,fd.offset,hu,by simpa using hfd,rfl,hl,h2,?_,i,hi⟩
     simp only [Program.cellsOf,hi,Option.map_some,Option.getD_some,hsz]
     intro e
     rw [e] at h3
     cases h3
    ·exact h.elim
   ·exact h.elim
  ·exact h.elim
 ·exact h.elim
theorem run_fieldAt {t:TypeId} {f:Nat} {fields:Array Field} {fd:Field} {i:TypeInfo} (hu:P.underlying t=some (.struct fields)) (hf:fields[f]?=some fd) (hi:P.info? fd.type=some i) (hne:P.cellsOf fd.type≠0) (w:World) (r j:Nat) :
  (Instr.fieldAt t (.pointer (some ⟨r,j,none⟩)) f).run P w = .ok (.pointer (some ⟨r,j+fd.offset,none⟩)) w:=by
 have h0:i.size≠0:=by simpa [Program.cellsOf,hi] using hne
 simp [Instr.fieldAt,run_underlying hu,hf,Instr.sureAddr,fieldPlace,sizeOf,typeInfo,hi,h0,add_at]
theorem told_fieldAddr {t:TypeId} {x:Operand} {f:Nat} (hT:TabOK P T) (ho:o.op = .fieldAddr t x f)
  (h:match ρ x with
  |.ptr b p l=>fieldK T t f l fun l'=>K [] [] (.ptr b (p++[f]) l')
  |.rp d=>fieldK T t f d.lay fun _=>K [] [] (.rp (d.part f))
  |_=>False):Told P G o ρ H K:=by
 have mx:x∈opnds o.op:=by simp [opnds,ho,Op.operands]
 cases hx:ρ x with
 |ptr b p l =>
  rw [hx] at h
  obtain ⟨l',hk,fields,fd,off,hu,hf,hoff,hl,hfit,hne,i,hi⟩:=fieldK_inv hT h
  refine ⟨_,_,_,hk,.pure fun E a w hop => ?_⟩
  obtain ⟨r,j,o1,e,hp,hl1⟩:=rep_ptr (hx▸hop x mx)
  subst hoff
  refine ⟨.pointer (some ⟨r,j+o1+fd.offset,none⟩),?_,?_⟩
  ·simp [execOp,ho,e,run_fieldAt hu hf hi hne]
  ·have:=RepA.ptr (E:=E) b (p++[f]) l' r j (o1+fd.offset) hp (locL_append hl1 hl)
   rw [←Nat.add_assoc] at this
   exact .one this rfl
 |rp d =>
  rw [hx] at h
  obtain ⟨l',hk,fields,fd,off,hu,hf,hoff,hl,hfit,hne,i,hi⟩:=fieldK_inv hT h
  refine ⟨_,_,_,hk,.pure fun E a w hop => ?_⟩
  obtain ⟨r,j,cs,e,hd,hr⟩:=rep_rp (hx▸hop x mx)
  subst hoff
  refine ⟨.pointer (some ⟨r,j+fd.offset,none⟩),?_,?_⟩
  ·simp [execOp,ho,e,run_fieldAt hu hf hi hne]
  ·exact .one (.rp r (j+fd.offset) (hd.part hl).1 hr.sub) rfl
 |_=>rw [hx] at h;exact h.elim
theorem told_field {t:TypeId} {x:Operand} {f:Nat} (hT:TabOK P T) (ho:o.op = .field t x f) (h:fieldK T t f (ρ x).lay fun _=>K [] [] ((ρ x).part f)):Told P G o ρ H K:=by
 have mx:x∈opnds o.op:=by simp [opnds,ho,Op.operands]
 obtain ⟨l',hk,fields,fd,off,hu,hf,hoff,hl,hfit,hne,i,hi⟩:=fieldK_inv hT h
 refine ⟨_,_,_,hk,.pure fun E a w hop => ?_⟩
 subst hoff
 have hagg:(ρ x).isAgg=true:=by
  unfold AV.isAgg
  cases e:(ρ x).lay with
  |one=>rw [e] at hl;cases hl
  |_=>rfl
 rcases hop x mx with hv|⟨cs,hr,e⟩
 ·rw [hv] at hl;cases hl
 ·rw [hagg] at e
  obtain ⟨hs,ha,ht⟩:=fits_inv hfit
  obtain ⟨hp,hpl⟩:=hr.part hl
  have e:a.eval x = .agg cs.toArray:=e
  refine ⟨_,?_,.of hp rfl⟩
  have:=run_part hT w ht hs ha (cs:=cs) (off:=fd.offset) (by rw [hr.len];exact locL_le hl)
  have hf':fields[f]?=some fd:=hf
  unfold AV.isAgg
  rw [hpl]
  simp only [execOp,ho,e,Instr.field,Sem.run_bind,run_underlying hu,Result.andThen_ok,hf',asAgg,Sem.run_pure]
  rw [this];rfl
end
end Go.Eng

namespace Go.Eng
theorem setCells_other (r:Nat):∀ (vs:List Value) (j:Nat) (w:World) (r':Nat),r'≠r->(w.setCells r j vs).heap[r']?=w.heap[r']?
 |[],_,_,_,_=>rfl
 |v::vs,j,w,r',h=>by rw [World.setCells,setCells_other r vs _ _ r' h,heap_setCell_other w _ r' v h]
theorem setCells_size (r:Nat):∀ (vs:List Value) (j:Nat) (w:World),(w.setCells r j vs).heap.size=w.heap.size
 |[],_,_=>rfl
 |v::vs,j,w=>by rw [World.setCells,setCells_size r vs,World.size_setCell]
theorem setCells_os (r:Nat):∀ (vs:List Value) (j:Nat) (w:World),(w.setCells r j vs).os=w.os/\(w.setCells r j vs).tape=w.tape/\(w.setCells r j vs).output=w.output
 |[],_,_=>⟨rfl,rfl,rfl⟩
 |v::vs,j,w=>by rw [World.setCells];exact setCells_os r vs _ _
theorem setCell_shape (w:World) (a:Addr) (v:Value) (r:Nat):(w.setCell a v).shape? r=w.shape? r:=by
 simp only [World.shape?,World.setCell,Array.getElem?_modify]
 by_cases e:a.block=r
 ·subst e
  rw [if_pos rfl]
  cases h:w.heap[a.block]? with
  |none=>rfl
  |some x=>cases x<;>simp<;>split<;>simp
 ·rw [if_neg e]
theorem setCells_shape (r:Nat):∀ (vs:List Value) (j:Nat) (w:World) (q:Nat),(w.setCells r j vs).shape? q=w.shape? q
 |[],_,_,_=>rfl
 |v::vs,j,w,q=>by rw [World.setCells,setCells_shape r vs,setCell_shape]
section
variable {P:Program} {G:Glob} {T:Tr}
theorem setCells_cell {w:World} {r j:Nat} {cy:List Value} (hc:∀ q,q<cy.length->∃ v,w.cell? ⟨r,j+q,none⟩=some v) (i:Nat) :
  (w.setCells r j cy).cell? ⟨r,i,none⟩=if h:j≤i/\i<j+cy.length then some (cy[i-j]'(by omega)) else w.cell? ⟨r,i,none⟩:=by
 split
 ·rename_i h
  have:=World.cell?_setCells_in r cy j w (fun q hq=>Option.isSome_iff_exists.2 (hc q hq)) (i-j) (by omega)
  rw [show j+(i-j)=i from by omega] at this
  exact this
 ·rename_i h
  exact World.cell?_setCells_out r cy j w _ fun _ _=>by simp only;omega
theorem run_write {w:World} {r j:Nat} {cy:List Value} (hc:∀ q,q<cy.length->(∃ v,w.cell? ⟨r,j+q,none⟩=some v)/\w.frozen? ⟨r,j+q,none⟩=false) (h1:∀ v,v∈cy->single v) :
  (storeCells ⟨r,j,none⟩ cy).run P w = .ok () (w.setCells r j cy) :=
 run_storeCells_cells (P:=P) r j cy 0 w (fun q hq=>Option.isSome_iff_exists.2 (hc q hq).1) (fun q hq=>(hc q hq).2) (fun v hv=>single_cell (h1 v hv))
theorem Room.cells {E:Env} {b:Nat} {w:World} {r o s:Nat} (h:Room E b w r o s) {j:Nat} {cy:List Value} (hlo:o≤j) (hhi:j+cy.length≤E.top b) :
  ∀ q,q<cy.length->(∃ v,w.cell? ⟨r,j+q,none⟩=some v)/\w.frozen? ⟨r,j+q,none⟩=false:=fun q hq=>h.2 (j+q) (by omega) (by omega)
theorem Room.write {E:Env} {b:Nat} {w:World} {r o s:Nat} (h:Room E b w r o s) {j:Nat} {cy:List Value} (hlo:o≤j) (hhi:j+cy.length≤E.top b) {s':Nat} (hs:o+s'≤E.top b):Room E b (w.setCells r j cy) r o s':=by
 refine ⟨hs,fun i hi hi'=>⟨?_,?_⟩⟩
 ·rw [setCells_cell fun q hq=>(h.cells hlo hhi q hq).1]
  split
  ·exact ⟨_,rfl⟩
  ·exact (h.2 i hi hi').1
 ·rw [World.frozen?_setCells];exact (h.2 i hi hi').2
theorem Step.cells {E:Env} {H:Nat->Blk} {w:World} (hR:Rel E H w) {b r o s:Nat} (hb:(H b).own=true) (hp:E.pl b = .at r o) (hm:Room E b w r o s) {j:Nat} {cy:List Value} (hlo:o≤j) (hhi:j+cy.length≤E.top b)
  {x:Blk} (hblk:BlkRel E b (w.setCells r j cy) x) {v:AV} {u:Value} (hv:RepV E v u):Step E H w [(b,x)] v u E (w.setCells r j cy):=by
 obtain ⟨h1,h2,h3⟩:=setCells_os r cy j w
 refine Step.write hR hb hp h1 h2 h3 (setCells_size _ _ _ _) (fun r' hr=>setCells_other r cy j w r' hr) (fun i hi => ?_) (fun i=>World.frozen?_setCells _ _ _ _ _) (setCells_shape _ _ _ _ _) hblk hv
 rw [setCells_cell fun q hq=>(hm.cells hlo hhi q hq).1,dif_neg (by omega)]
theorem reads_splice {w:World} {r o off:Nat} {cs cy:List Value} (h:Reads (cellAt w) r o cs) (hle:off+cy.length≤cs.length):Reads (cellAt (w.setCells r (o+off) cy)) r o (splice cs off cy):=by
 have hc:∀ q,q<cy.length->∃ v,w.cell? ⟨r,o+off+q,none⟩=some v:=fun q hq=>⟨_,by rw [Nat.add_assoc];exact h (off+q) (by omega)⟩
 intro j hj
 have hlen:(splice cs off cy).length=cs.length:=by unfold splice;simp only [List.length_append,List.length_take,List.length_drop];omega
 show (w.setCells r (o+off) cy).cell? ⟨r,o+j,none⟩=_
 rw [setCells_cell hc,←List.getElem?_eq_getElem hj]
 unfold splice
 split
 ·rename_i hh
  rw [List.getElem?_append_left (by simp only [List.length_append,List.length_take];omega),List.getElem?_append_right (by simp only [List.length_take];omega),List.getElem?_eq_getElem (by simp only [List.length_take];omega)]
  congr 2
  simp only [List.length_take];omega
 ·rename_i hh
  have:=h j (by omega)
  show cellAt w r (o+j)=_
  rw [this,←List.getElem?_eq_getElem]
  by_cases hj':j<off
  ·rw [List.append_assoc,List.getElem?_append_left (by simp only [List.length_take];omega),List.getElem?_take_of_lt hj']
  ·rw [List.getElem?_append_right (by simp only [List.length_append,List.length_take];omega),List.getElem?_drop]
   congr 1
   simp only [List.length_append,List.length_take];omega
theorem reads_apart {w:World} {r o j:Nat} {cs cy:List Value} (h:Reads (cellAt w) r o cs) (hc:∀ q,q<cy.length->∃ v,w.cell? ⟨r,j+q,none⟩=some v) (ha:o+cs.length≤j\/j+cy.length≤o):Reads (cellAt (w.setCells r j cy)) r o cs:=by
 intro i hi
 show (w.setCells r j cy).cell? ⟨r,o+i,none⟩=_
 rw [setCells_cell hc,dif_neg (by omega)]
 exact h i hi
variable {o:Oper} {ρ:Operand->AV} {H:Nat->Blk} {K:Cont}
theorem exec_store {t:TypeId} {y x:Operand} (ho:o.op = .store t y x) {a:Act} {w w':World} {r j:Nat} (hy:a.eval y = .pointer (some ⟨r,j,none⟩)) {i:TypeInfo} (hi:P.info? t=some i)
  (hs:(a.eval x).cells.toList.length=i.size) (hr:(storeCells ⟨r,j,none⟩ (a.eval x).cells.toList).run P w = .ok () w'):(execOp a.eval o).run P w = .ok .skip w':=by
 have hs':(a.eval x).cells.size=i.size:=by simpa using hs
 simp [execOp,ho,hy,Instr.storeAt,Instr.sureAddr,storeVar,sizeOf,typeInfo,hi,hs',hr]
end
end Go.Eng

namespace Go.Eng
section
variable {P:Program} {G:Glob} {T:Tr} {o:Oper} {ρ:Operand->AV} {H:Nat->Blk} {K:Cont}
theorem told_store_at {t:TypeId} {y x:Operand} (hT:TabOK P T) (ho:o.op = .store t y x) {b:Nat} {p:List Nat} {l:Lay} (hy:ρ y = .ptr b p l) (hsol:solid (ρ x)=true) (hfit:fits T t (ρ x).lay=true)
  {z:Blk} (hown:(H b).own=true) (hK:K [b] [(b,z)] .any)
  (hz:∀ E w v r j off cy,BlkRel E b w (H b)->E.pl b = .at r j->locL (E.lay b) p=some (off,l)->RepV E (ρ x) v->v.cells.toList=cy->cy.length=l.size->RepA E (norm (ρ x)) cy->(∀ u,u∈cy->single u) ->
   (∃ s,Room E b w r j s/\j+off+cy.length≤E.top b)/\BlkRel E b (w.setCells r (j+off) cy) z) (hl:(ρ x).lay=l):Told P G o ρ H K:=by
 have mx:x∈opnds o.op:=by simp [opnds,ho,Op.operands]
 have my:y∈opnds o.op:=by simp [opnds,ho,Op.operands]
 refine ⟨_,_,_,hK,.of fun E H' a w hR _ hop hrd _ => ?_⟩
 obtain ⟨r,j,off,e,hp,hloc⟩:=rep_ptr (hy▸hop y my)
 obtain ⟨cy,hcy,hcells,_⟩:=(hop x mx).inv hsol
 obtain ⟨cy',hcy',hcells',_⟩:=(norm_rep (hop x mx)).inv (norm_solid _ hsol)
 have e2:cy'=cy:=by rw [←hcells',←hcells]
 subst e2
 obtain ⟨hs,ha,ht⟩:=fits_inv hfit
 obtain ⟨i,d,zz,zs,hi,hd,_,hsz,_⟩:=(hT.entry ht).info
 have hlen:cy'.length=l.size:=by rw [hcy.len,hl]
 have hsing:=hcy.cells hsol
 have hHb:=hrd b (by simp)
 have hbr:=hR.blk b
 rw [hHb] at hbr
 obtain ⟨⟨s,hm,hhi⟩,hblk⟩:=hz E w (a.eval x) r j off cy' hbr hp hloc (hop x mx) hcells hlen hcy' hsing
 have hrun:=run_write (P:=P) (w:=w) (r:=r) (j:=j+off) (cy:=cy') (hm.cells (by omega) hhi) hsing
 refine ⟨undef,_,E,.inr ⟨exec_store ho e hi (by rw [hcells,hlen,←hl,hs,hsz]) (by rw [hcells];exact hrun),rfl⟩,?_⟩
 exact Step.cells hR (by rw [hHb];exact hown) hp hm (by omega) hhi hblk (.any E _)
theorem told_store {t:TypeId} {y x:Operand} (hT:TabOK P T) (ho:o.op = .store t y x) (h:storeK T t H (ρ y) (ρ x) K):Told P G o ρ H K:=by
 cases hy:ρ y with
 |ptr b p l =>
  rw [hy] at h
  simp only [storeK] at h
  split at h
  ·rename_i hsol hfit hl
   have hl:=of_decide_eq_true hl
   cases hb:H b with
   |dead=>rw [hb] at h;exact h.elim
   |mp f0 es=>rw [hb] at h;exact h.elim
   |mpn f0 es kd c=>rw [hb] at h;exact h.elim
   |lp L s=>rw [hb] at h;exact h.elim
   |frzI k li=>rw [hb] at h;exact h.elim
   |frz la n f=>rw [hb] at h;exact h.elim
   |var z =>
    rw [hb] at h
    simp only at h
    split at h
    ·rename_i hlay
     have hlay:=of_decide_eq_true hlay
     refine told_store_at hT ho hy hsol hfit (by rw [hb];rfl) h ?_ hl
     intro E w v r j off cy hbr hp hloc hv hcells hlen hrep hsing
     rw [hb] at hbr
     obtain ⟨r',o',cs,hp',hEl,hz,hrs,htop,hm⟩:=hbr
     rw [hp] at hp'
     injection hp' with h1 h2
     subst h1;subst h2
     rw [hEl] at hloc
     have hle:=locL_le hloc
     rw [←hlen,←hz.len] at hle
     refine ⟨⟨_,hm,by omega⟩,r,j,splice cs off cy,hp,by rw [hEl,hlay],hz.setP hloc hrep (by rw [norm_lay,hl]) hlay,reads_splice hrs hle,?_,?_⟩
     ·rw [htop];congr 1;unfold splice;simp only [List.length_append,List.length_take,List.length_drop];omega
     ·refine hm.write (by omega) (by omega) ?_
      rw [htop];unfold splice;simp only [List.length_append,List.length_take,List.length_drop];omega
    ·exact h.elim
   |rowI k li =>
    rw [hb] at h
    simp only at h
    split at h
    ·rename_i i
     obtain ⟨k',n,hx,h⟩:=intK_inv h
     split at h
     ·rename_i hk
      obtain rfl:=kindEq_eq hk
      refine told_store_at hT ho hy hsol hfit (by rw [hb];rfl) h ?_ hl
      intro E w v r j off cy hbr hp hloc hv hcells hlen hrep hsing
      rw [hb] at hbr
      obtain ⟨hEl,hn|⟨r',o',hp',hrs,hm⟩⟩:=hbr
      ·rw [hn.1] at hp;cases hp
      rw [hp] at hp'
      injection hp' with h1 h2
      subst h1;subst h2
      rw [hEl] at hloc
      obtain ⟨hi,hoff,hle⟩:=locL_arr1 hloc
      subst hle
      simp only [Lay.size,Nat.mul_one] at hoff hlen
      subst hoff
      rw [hx] at hrep
      have hcy:cy=[.int k n]:=by cases hrep.dv_inv;rfl
      subst hcy
      have h1:=hm.1
      refine ⟨⟨_,hm,by simp;omega⟩,?_⟩
      refine ⟨by rw [hEl,List.length_set],.inr ⟨r,j,hp,?_,?_⟩⟩
      ·rw [map_set_splice k li off n hi];exact reads_splice hrs (by simp;omega)
      ·rw [List.length_set];exact hm.write (by omega) (by simp;omega) h1
     ·exact h.elim
    ·exact h.elim
   |row la m f =>
    rw [hb] at h
    simp only at h
    split at h
    ·rename_i i q d hd
     split at h
     ·rename_i e he
      split at h
      ·rename_i hel
       have hel:=of_decide_eq_true hel
       refine told_store_at hT ho hy hsol hfit (by rw [hb];rfl) h ?_ hl
       intro E w v r j off cy hbr hp hloc hv hcells hlen hrep hsing
       rw [hb] at hbr
       obtain ⟨hEl,hn|⟨r',o',css,hp',hrf,hfl,hrs,hm⟩⟩:=hbr
       ·rw [hn.1] at hp;cases hp
       rw [hp] at hp'
       injection hp' with h1 h2
       subst h1;subst h2
       rw [hEl] at hloc
       obtain ⟨hi,off',hq,hoff⟩:=locL_arrS hloc
       subst hoff
       have hle:=locL_le hq
       have hmul:(i+1)*la.size≤m*la.size:=Nat.mul_le_mul_right _ hi
       rw [Nat.add_mul,Nat.one_mul] at hmul
       have h1:=hm.1
       have hci:(css i).length=la.size:=by rw [(hrf i hi).len,hfl i hi]
       rw [hd] at hrep
       have hnew:=(hrf i hi).setA (E:=E) (p:=q) (y := .dv d) (by rw [hfl i hi];exact hq) hrep (by rw [←hd,norm_lay,hl]) (by rw [he,hfl i hi];exact hel)
       rw [he] at hnew
       have hnew:=hnew.dv_inv
       have hcell:∀ z,z<cy.length->∃ v,w.cell? ⟨r,j+(i*la.size+off')+z,none⟩=some v:=fun z hz=>(hm.2 _ (by omega) (by omega)).1
       refine ⟨⟨_,hm,by omega⟩,hEl,.inr ⟨r,j,fun q=>if q=i then splice (css i) off' cy else css q,hp,?_,?_,?_,?_⟩⟩
       ·intro q hq
        by_cases e1:q=i
        ·simp only [if_pos e1];exact hnew
        ·simp only [if_neg e1];exact hrf q hq
       ·intro q hq
        by_cases e1:q=i
        ·simp only [if_pos e1];exact hel
        ·simp only [if_neg e1];exact hfl q hq
       ·intro q hq
        by_cases e1:q=i
        ·subst e1
         simp only [if_pos]
         have:=reads_splice (w:=w) (hrs q hq) (off:=off') (cy:=cy) (by omega)
         rw [Nat.add_assoc] at this
         exact this
        ·simp only [if_neg e1]
         refine reads_apart (hrs q hq) hcell ?_
         have hcq:(css q).length=la.size:=by rw [(hrf q hq).len,hfl q hq]
         rcases Nat.lt_or_gt_of_ne e1 with hlt|hgt
         ·have hmul2:(q+1)*la.size≤i*la.size:=Nat.mul_le_mul_right _ hlt
          rw [Nat.add_mul,Nat.one_mul] at hmul2
          exact .inl (by omega)
         ·have hmul2:(i+1)*la.size≤q*la.size:=Nat.mul_le_mul_right _ hgt
          rw [Nat.add_mul,Nat.one_mul] at hmul2
          exact .inr (by omega)
       ·exact hm.write (by omega) (by omega) h1
      ·exact h.elim
     ·exact h.elim
    ·exact h.elim
  ·exact h.elim
 |_=>rw [hy] at h;exact h.elim
end
end Go.Eng

namespace Go.Eng
section
variable {P:Program} {G:Glob} {T:Tr} {o:Oper} {ρ:Operand->AV} {H:Nat->Blk} {K:Cont}
theorem idxK_inv {ix:Operand} {len:Int} {K:Nat->Prop} (h:idxK ix (ρ ix) len K):∃ j:Nat,(j:Int)<len/\K j/\∀ E (a:Act),RepV E (ρ ix) (a.eval ix)->∃ k,a.eval ix = .int k (j:Int):=by
 unfold idxK at h
 split at h
 ·rename_i k n
  exact ⟨n,h.1,h.2,fun E a _=>⟨k,rfl⟩⟩
 ·obtain ⟨k,i,hx,hb,h⟩:=intK_inv h
  refine ⟨i.toNat,by omega,h,fun E a hv=>⟨k,?_⟩⟩
  rw [hx] at hv
  rw [rep_int hv]
  congr 1
  omega
theorem rep_sl {E:Env} {b:Nat} {p:List Nat} {l:Lay} {off len:Nat} {v:Value} (h:RepV E (.sl b p l off len) v) :
  (∃ r o so n c,v = .slice (some ⟨r,o+so+off*l.size,none⟩) len c/\E.pl b = .at r o/\locL (E.lay b) p=some (so,.arr n l)/\off+len≤n/\len≤c/\o+so+(off+c)*l.size≤E.top b) \/
  (∃ a so n,v = .slice a 0 0/\len=0/\E.pl b ≠ .unborn/\locL (E.lay b) p=some (so,.arr n l)/\off≤n):=by
 rcases h with h|⟨cs,h,e⟩
 ·cases h
 ·cases h with
  |sl b p l off len r o so n c hp hl hn hc ht=>exact .inl ⟨r,o,so,n,c,e,hp,hl,hn,hc,ht⟩
  |sl0 b p l off a so n hp hl hn=>exact .inr ⟨a,so,n,e,rfl,hp,hl,hn⟩
theorem fits_cells {e:TypeId} {l:Lay} (hT:TabOK P T) (h:fits T e l=true):P.cellsOf e=l.size:=by
 obtain ⟨hs,_,hk⟩:=fits_inv h
 obtain ⟨i,d,z,zs,hi,hd,_,hsz,_⟩:=(hT.entry hk).info
 simp [Program.cellsOf,hi,hsz,hs]
theorem run_sizeOf' {t:TypeId} {i:TypeInfo} (hi:P.info? t=some i) (w:World):(sizeOf t).run P w = .ok (P.cellsOf t) w:=by
 simp [sizeOf,typeInfo,hi,Program.cellsOf]
theorem run_indexAt_arr {t e:TypeId} {n:Nat} (hu:P.underlying t=some (.array n e)) (hi:∃ i,P.info? e=some i) (w:World) (r q j:Nat) (k:IntKind) (hj:(j:Int)<n) :
  (Instr.indexAt t (.pointer (some ⟨r,q,none⟩)) (.int k (j:Int))).run P w = .ok (.pointer (some ⟨r,q+j*P.cellsOf e,none⟩)) w:=by
 obtain ⟨i,hi⟩:=hi
 have hj':j<n:=by omega
 simp [Instr.indexAt,asIntOf,run_underlying hu,Instr.sureAddr,hj',run_sizeOf' hi,add_at]
theorem run_indexAt_sli {t e:TypeId} (hu:P.underlying t=some (.slice e)) (hi:∃ i,P.info? e=some i) (w:World) (r q j len c:Nat) (k:IntKind) (hj:(j:Int)<len) :
  (Instr.indexAt t (.slice (some ⟨r,q,none⟩) len c) (.int k (j:Int))).run P w = .ok (.pointer (some ⟨r,q+j*P.cellsOf e,none⟩)) w:=by
 obtain ⟨i,hi⟩:=hi
 have hj':j<len:=by omega
 simp [Instr.indexAt,asIntOf,run_underlying hu,hj',run_sizeOf' hi,add_at]
theorem exec_indexAddr {t:TypeId} {x ix:Operand} (ho:o.op = .indexAddr t x ix) {a:Act} {w:World} {v:Value} (h:(Instr.indexAt t (a.eval x) (a.eval ix)).run P w = .ok v w):(execOp a.eval o).run P w = .ok (.value v) w:=by
 simp [execOp,ho,h]
theorem RepD.slI {rd:Rd} {k:IntKind} {l:List Int} {v:Value} (h:RepD rd (.roI k l) [v]):(∃ r o c,v = .slice (some ⟨r,o,none⟩) l.length c/\l.length≤c/\Reads rd r o (l.map (.int k)))\/(l=[]/\∃ a c,v = .slice a 0 c/\(a=none->c=0)):=by
 cases h with
 |roI k l r o c hc h=>exact .inl ⟨r,o,c,rfl,hc,h⟩
 |roI0 k a c h=>exact .inr ⟨rfl,a,c,rfl,h⟩
theorem RepD.sl {rd:Rd} {l:Lay} {n:Nat} {f:Nat->DV} {v:Value} (h:RepD rd (.ro l n f) [v]) :
  (∃ (r o c:Nat) (css:Nat->List Value),v = .slice (some ⟨r,o,none⟩) n c/\n≤c/\(∀ i,i<n->RepD rd (f i) (css i))/\(∀ i,i<n->(f i).lay=l)/\∀ i,i<n->Reads rd r (o+i*l.size) (css i))\/(n=0/\∃ a c,v = .slice a 0 c/\(a=none->c=0)):=by
 cases h with
 |ro l n f css r o c hc h hl hr=>exact .inl ⟨r,o,c,css,rfl,hc,h,hl,hr⟩
 |ro0 l f a c h=>exact .inr ⟨rfl,a,c,rfl,h⟩
theorem rep_roI {E:Env} {k:IntKind} {l:List Int} {v:Value} (h:RepV E (.dv (.roI k l)) v):RepD E.rd (.roI k l) [v]:=by
 obtain ⟨cs,h,e⟩:=rep_dv h
 obtain ⟨u,rfl,_⟩:=h.one rfl
 rw [e];exact h
theorem rep_ro {E:Env} {l:Lay} {n:Nat} {f:Nat->DV} {v:Value} (h:RepV E (.dv (.ro l n f)) v):RepD E.rd (.ro l n f) [v]:=by
 obtain ⟨cs,h,e⟩:=rep_dv h
 obtain ⟨u,rfl,_⟩:=h.one rfl
 rw [e];exact h
theorem locL_vec:∀ {n i:Nat},i<n->locL (vecLay n) [i]=some (i,.one)
 |0,_,h=>by cases h
 |n+1,0,_=>rfl
 |n+1,i+1,h=>by
  show locL (.pair .one (vecLay n)) [i+1]=_
  rw [locL_pairS,locL_vec (Nat.lt_of_succ_lt_succ h)]
  show some (1+i,Lay.one)=_
  rw [Nat.add_comm]
theorem rep_vs {E:Env} {b off len:Nat} {v:Value} (h:RepV E (.vs b off len) v) :
  ∃ r o n c,v = .slice (some ⟨r,o+off,none⟩) len c/\E.pl b = .at r o/\E.lay b=vecLay n/\off+len≤n/\len≤c:=by
 rcases h with h|⟨cs,h,e⟩
 ·cases h
 ·cases h with
  |vs b off len r o n c hp hl hn hc=>exact ⟨r,o,n,c,e,hp,hl,hn,hc⟩
theorem rep_slc {E:Env} {b off len c:Nat} {v:Value} (h:RepV E (.slc b off len c) v) :
  ∃ r o n,v = .slice (some ⟨r,o+off,none⟩) len c/\E.pl b = .at r o/\E.lay b = .arr n .one/\off+len≤n/\len≤c/\o+(off+c)≤E.top b:=by
 rcases h with h|⟨cs,h,e⟩
 ·cases h
 ·cases h with
  |slc b off len c r o n hp hl hn hc ht=>exact ⟨r,o,n,e,hp,hl,hn,hc,ht⟩
theorem slc_sl {E:Env} {b off len c:Nat} {v:Value} (h:RepV E (.slc b off len c) v):RepV E (.sl b [] .one off len) v:=by
 obtain ⟨r,o,n,rfl,hp,hl,hn,hc,ht⟩:=rep_slc h
 have:=RepA.sl (E:=E) b [] .one off len r o 0 n c hp (by rw [hl,locL_nil]) hn hc (by simp only [Lay.size,Nat.mul_one,Nat.add_zero];exact ht)
 simp only [Lay.size,Nat.mul_one,Nat.add_zero] at this
 exact .one this rfl
theorem sl_slc {E:Env} {b off len c:Nat} {a:Option Addr} (h:RepV E (.sl b [] .one off len) (.slice a len c)) (hc:0<c):RepV E (.slc b off len c) (.slice a len c):=by
 rcases rep_sl h with ⟨r,o,so,n,c',e,hp,hl,hn,hcc,ht⟩|⟨a',so,n,e,e0,hp,hl,hn⟩
 ·injection e with e1 _ e2
  subst e1;subst e2
  rw [locL_nil] at hl
  injection hl with hl
  injection hl with h1 h2
  subst h1
  simp only [Lay.size,Nat.mul_one,Nat.add_zero] at ht ⊢
  exact .one (.slc b off len c r o n hp h2 hn hcc ht) rfl
 ·injection e with _ _ e2
  omega
theorem rep_emp {E:Env} {v:Value} (h:RepV E .emp v):∃ a,v = .slice a 0 0:=by
 rcases h with h|⟨cs,h,e⟩
 ·cases h
 ·cases h with
  |emp a=>exact ⟨a,e⟩
theorem told_indexAddr {t:TypeId} {x ix:Operand} (hT:TabOK P T) (ho:o.op = .indexAddr t x ix) (h:indexAddrK T t (ρ x) ix (ρ ix) K):Told P G o ρ H K:=by
 have mx:x∈opnds o.op:=by simp [opnds,ho,Op.operands]
 have mi:ix∈opnds o.op:=by simp [opnds,ho,Op.operands]
 simp only [indexAddrK,addO_eq] at h
 split at h
 ·rename_i n e hk
  obtain ⟨hu,hi⟩:=und_arr hT hk
  cases hx:ρ x with
  |ptr b p l =>
   rw [hx] at h
   simp only at h
   cases l with
   |arr m le =>
    simp only at h
    split at h
    ·rename_i h1 h2
     obtain rfl:=Nat.eq_of_beq_eq_true h1
     obtain ⟨j,hj,hK,hv⟩:=idxK_inv h
     refine ⟨_,_,_,hK,.pure fun E a w hop => ?_⟩
     obtain ⟨k,hix⟩:=hv E a (hop ix mi)
     obtain ⟨r,q,off,ex,hp,hl⟩:=rep_ptr (hx▸hop x mx)
     have hjn:j<n:=by omega
     have hloc:=locL_append hl (q:=[j]) (o2:=j*le.size) (l:=le) (by rw [locL_arr,if_pos hjn,locL_nil];rfl)
     have hsz:P.cellsOf e=le.size:=fits_cells hT h2
     refine ⟨_,exec_indexAddr ho (by rw [ex,hix];exact run_indexAt_arr hu hi w r (q+off) j k hj),?_⟩
     have:=RepA.ptr (E:=E) b (p++[j]) le r q _ hp hloc
     rw [hsz,Nat.add_assoc]
     exact .one this rfl
    ·exact h.elim
   |_=>exact h.elim
  |rp d =>
   rw [hx] at h
   simp only at h
   cases hdl:d.lay with
   |arr m le =>
    rw [hdl] at h
    simp only at h
    split at h
    ·rename_i h1 h2
     obtain rfl:=Nat.eq_of_beq_eq_true h1
     obtain ⟨j,hj,hK,hv⟩:=idxK_inv h
     refine ⟨_,_,_,hK,.pure fun E a w hop => ?_⟩
     obtain ⟨k,hix⟩:=hv E a (hop ix mi)
     obtain ⟨r,q,cs,ex,hd,hr⟩:=rep_rp (hx▸hop x mx)
     have hjn:j<n:=by omega
     have hloc:locL d.lay [j]=some (j*le.size,le):=by rw [hdl,locL_arr,if_pos hjn,locL_nil];rfl
     refine ⟨_,exec_indexAddr ho (by rw [ex,hix];exact run_indexAt_arr hu hi w r q j k hj),?_⟩
     rw [fits_cells hT h2]
     exact .one (.rp r _ (hd.part hloc).1 hr.sub) rfl
    ·exact h.elim
   |_=>rw [hdl] at h;exact h.elim
  |_=>rw [hx] at h;exact h.elim
 ·rename_i e hk
  obtain ⟨hu,hi⟩:=und_sli hT hk
  cases hx:ρ x with
  |sl b p le off len =>
   rw [hx] at h
   simp only at h
   split at h
   ·rename_i h2
    obtain ⟨j,hj,hK,hv⟩:=idxK_inv h
    refine ⟨_,_,_,hK,.pure fun E a w hop => ?_⟩
    obtain ⟨k,hix⟩:=hv E a (hop ix mi)
    rcases rep_sl (hx▸hop x mx) with ⟨r,q,so,n,c,ex,hp,hl,hn,hc,ht⟩|⟨_,_,_,_,e0,_⟩
    ·have hjn:off+j<n:=by omega
     have hloc:=locL_append hl (q:=[off+j]) (o2:=(off+j)*le.size) (l:=le) (by rw [locL_arr,if_pos hjn,locL_nil];rfl)
     refine ⟨_,exec_indexAddr ho (by rw [ex,hix];exact run_indexAt_sli hu hi w r _ j len c k hj),?_⟩
     have:=RepA.ptr (E:=E) b (p++[off+j]) le r q _ hp hloc
     rw [fits_cells hT h2]
     have e1:q+so+off*le.size+j*le.size=q+(so+(off+j)*le.size):=by rw [Nat.add_mul];omega
     rw [e1]
     exact .one this rfl
    ·subst e0;omega
   ·exact h.elim
  |dv d =>
   rw [hx] at h
   cases d with
   |roI kk l =>
    simp only at h
    split at h
    ·rename_i h2
     obtain ⟨j,hj,hK,hv⟩:=idxK_inv h
     refine ⟨_,_,_,hK,.pure fun E a w hop => ?_⟩
     obtain ⟨k,hix⟩:=hv E a (hop ix mi)
     rcases (rep_roI (hx▸hop x mx)).slI with ⟨r,q,c,ex,hc,hr⟩|⟨e0,_⟩
     ·have hjl:j<l.length:=by omega
      refine ⟨_,exec_indexAddr ho (by rw [ex,hix];exact run_indexAt_sli hu hi w r q j _ c k hj),?_⟩
      rw [fits_cells hT h2]
      simp only [Lay.size,Nat.mul_one]
      refine .one (.rp r (q+j) (.sc _ trivial) ?_) rfl
      intro z hz
      obtain rfl:z=0:=by simp at hz;exact hz
      have:=hr j (by simpa using hjl)
      rw [Nat.add_zero,this]
      have hg:=map_get kk l j hjl
      rw [List.getElem?_eq_getElem (by simpa using hjl)] at hg
      exact hg
     ·subst e0;simp at hj;omega
    ·exact h.elim
   |ro le n f =>
    simp only at h
    split at h
    ·rename_i h2
     obtain ⟨j,hj,hK,hv⟩:=idxK_inv h
     refine ⟨_,_,_,hK,.pure fun E a w hop => ?_⟩
     obtain ⟨k,hix⟩:=hv E a (hop ix mi)
     rcases (rep_ro (hx▸hop x mx)).sl with ⟨r,q,c,css,ex,hc,hf,hfl,hr⟩|⟨e0,_⟩
     ·have hjl:j<n:=by omega
      refine ⟨_,exec_indexAddr ho (by rw [ex,hix];exact run_indexAt_sli hu hi w r q j _ c k hj),?_⟩
      rw [fits_cells hT h2]
      exact .one (.rp r _ (hf j hjl) (hr j hjl)) rfl
     ·subst e0;omega
    ·exact h.elim
   |_=>exact h.elim
  |vs b off len =>
   rw [hx] at h
   simp only at h
   split at h
   ·rename_i h2
    obtain ⟨j,hj,hK,hv⟩:=idxK_inv h
    refine ⟨_,_,_,hK,.pure fun E a w hop => ?_⟩
    obtain ⟨k,hix⟩:=hv E a (hop ix mi)
    obtain ⟨r,q,n,c,ex,hp,hl,hn,hc⟩:=rep_vs (hx▸hop x mx)
    refine ⟨_,exec_indexAddr ho (by rw [ex,hix];exact run_indexAt_sli hu hi w r _ j len c k hj),?_⟩
    have:=RepA.ptr (E:=E) b [off+j] .one r q _ hp (by rw [hl];exact locL_vec (by omega))
    rw [fits_cells hT h2,show Lay.one.size=1 from rfl,Nat.mul_one,Nat.add_assoc]
    exact .one this rfl
   ·exact h.elim
  |_=>rw [hx] at h;exact h.elim
 ·exact h.elim
theorem exec_index {t:TypeId} {x ix:Operand} (ho:o.op = .index t x ix) {a:Act} {w:World} {v:Value} (h:(Instr.index t (a.eval x) (a.eval ix)).run P w = .ok v w):(execOp a.eval o).run P w = .ok (.value v) w:=by
 simp [execOp,ho,h]
theorem told_index {t:TypeId} {x ix:Operand} (hT:TabOK P T) (ho:o.op = .index t x ix) (h:indexK T t (ρ x) ix (ρ ix) K):Told P G o ρ H K:=by
 have mx:x∈opnds o.op:=by simp [opnds,ho,Op.operands]
 have mi:ix∈opnds o.op:=by simp [opnds,ho,Op.operands]
 unfold indexK at h
 split at h
 ·rename_i n e hk
  obtain ⟨hu,i,hi⟩:=und_arr hT hk
  cases hx:ρ x with
  |dv d =>
   rw [hx] at h
   simp only at h
   cases hdl:d.lay with
   |arr m le =>
    rw [hdl] at h
    simp only at h
    split at h
    ·rename_i h1 h2
     obtain rfl:=Nat.eq_of_beq_eq_true h1
     obtain ⟨j,hj,hK,hv⟩:=idxK_inv h
     refine ⟨_,_,_,hK,.pure fun E a w hop => ?_⟩
     obtain ⟨k,hix⟩:=hv E a (hop ix mi)
     obtain ⟨cs,hd,ex⟩:=rep_dv (hx▸hop x mx)
     rw [hdl] at ex
     have ex:a.eval x = .agg cs.toArray:=ex
     have hjn:j<n:=by omega
     have hloc:locL d.lay [j]=some (j*le.size,le):=by rw [hdl,locL_arr,if_pos hjn,locL_nil];rfl
     obtain ⟨hs,ha,ht⟩:=fits_inv h2
     obtain ⟨hp,hpl⟩:=hd.part hloc
     have hrun:=run_part hT w ht hs ha (cs:=cs) (off:=j*le.size) (by rw [hd.len];exact locL_le hloc)
     refine ⟨_,exec_index ho ?_,.of (.dv hp) rfl⟩
     rw [ex,hix]
     have hc:=fits_cells hT h2
     simp only [Instr.index,asIntOf,Sem.run_bind,Sem.run_pure,Result.andThen_ok,run_underlying hu]
     rw [if_pos ⟨by omega,by omega⟩]
     simp only [Sem.run_bind,run_sizeOf' hi,Result.andThen_ok,hc,Int.toNat_natCast]
     rw [hrun]
     unfold AV.isAgg;rw [AV.lay,hpl]
    ·exact h.elim
   |_=>rw [hdl] at h;exact h.elim
  |_=>rw [hx] at h;exact h.elim
 ·rename_i hk
  have hu:=und_str hT hk
  cases hx:ρ x with
  |dv d =>
   rw [hx] at h
   cases d with
   |str l =>
    simp only at h
    obtain ⟨j,hj,hK,hv⟩:=idxK_inv h
    refine ⟨_,_,_,hK,.pure fun E a w hop => ?_⟩
    obtain ⟨k,hix⟩:=hv E a (hop ix mi)
    have ex:=rep_str (hx▸hop x mx)
    refine ⟨_,exec_index ho ?_,int_rep E _ _⟩
    rw [ex,hix]
    have hjl:j<l.length:=by omega
    have hg:(⟨⟨l⟩⟩:ByteArray)[j]?=some (l.getD j 0):=by
     rw [getElem?_pos (⟨⟨l⟩⟩:ByteArray) j (show j<(⟨⟨l⟩⟩:ByteArray).size from hjl)]
     rw [List.getD_eq_getElem?_getD,List.getElem?_eq_getElem hjl]
     rfl
    simp only [Instr.index,asIntOf,Sem.run_bind,Sem.run_pure,Result.andThen_ok,run_underlying hu]
    rw [if_pos (by omega:(0:Int)≤(j:Int)),Int.toNat_natCast,hg]
    rfl
   |_=>exact h.elim
  |_=>rw [hx] at h;exact h.elim
 ·exact h.elim
end
end Go.Eng

namespace Go.Eng
section
variable {P:Program} {G:Glob} {T:Tr} {o:Oper} {ρ:Operand->AV} {H:Nat->Blk} {K:Cont}
theorem boundsK_inv {len:Int} {lo hi:Option Operand} {K:Int->Int->Prop} (h:boundsK len (lo.map ρ) (hi.map ρ) K):∃ a b:Int,0≤a/\a≤b/\b≤len/\K a b /\
  ∀ E (ac:Act) (w:World) (s:Bool) (n cap:Nat),(∀ x,lo=some x\/hi=some x->RepV E (ρ x) (ac.eval x))->(hi=none->(n:Int)=len)->len≤(cap:Int) ->
   (Instr.sliceBounds s n cap (lo.map ac.eval) (hi.map ac.eval) none).run P w = .ok (a.toNat,b.toNat,cap) w:=by
 have hb:∃ b:Int,b≤len/\(match lo.map ρ with
  |none=>0≤b/\K 0 b
  |some x=>intK x fun _ a=>(0≤a/\a≤b)/\K a b)/\((hi=none/\b=len)\/∃ x k,hi=some x/\ρ x = .int k b):=by
  unfold boundsK at h
  cases hi with
  |none=>exact ⟨len,Int.le_refl _,h,.inl ⟨rfl,rfl⟩⟩
  |some x =>
   obtain ⟨k,b,hx,hb,h⟩:=intK_inv h
   exact ⟨b,hb,h,.inr ⟨x,k,rfl,hx⟩⟩
 obtain ⟨b,hbl,h,hhi⟩:=hb
 have ha:∃ a:Int,0≤a/\a≤b/\K a b/\((lo=none/\a=0)\/∃ x k,lo=some x/\ρ x = .int k a):=by
  cases lo with
  |none=>exact ⟨0,Int.le_refl _,h.1,h.2,.inl ⟨rfl,rfl⟩⟩
  |some x =>
   obtain ⟨k,a,hx,ha,h⟩:=intK_inv h
   exact ⟨a,ha.1,ha.2,h,.inr ⟨x,k,rfl,hx⟩⟩
 obtain ⟨a,ha0,hab,hK,hlo⟩:=ha
 refine ⟨a,b,ha0,hab,hbl,hK,fun E ac w s n cap hrep hn hc => ?_⟩
 have h2:∀ x k,ρ x = .int k b->(lo=some x\/hi=some x)->∀ c (y:Nat),b≤y->(Instr.sliceBound (ac.eval x) y c).run P w = .ok b.toNat w:=by
  intro x k hx hm c y hy
  have:=rep_int (hx▸hrep x hm)
  simp only [this,Instr.sliceBound,asIntOf,Sem.run_bind,Sem.run_pure,Result.andThen_ok]
  rw [if_pos (by omega)];rfl
 have h3:∀ x k,ρ x = .int k a->(lo=some x\/hi=some x)->∀ c (y:Nat),a≤y->(Instr.sliceBound (ac.eval x) y c).run P w = .ok a.toNat w:=by
  intro x k hx hm c y hy
  have:=rep_int (hx▸hrep x hm)
  simp only [this,Instr.sliceBound,asIntOf,Sem.run_bind,Sem.run_pure,Result.andThen_ok]
  rw [if_pos (by omega)];rfl
 rcases hhi with ⟨rfl,rfl⟩|⟨x,k,rfl,hx⟩
 ·have hn:=hn rfl
  have e:b.toNat=n:=by omega
  rcases hlo with ⟨rfl,rfl⟩|⟨y,k',rfl,hy⟩
  ·simp [Instr.sliceBounds,e]
  ·simp [Instr.sliceBounds,h3 y k' hy (.inl rfl) _ n (by omega),e]
 ·rcases hlo with ⟨rfl,rfl⟩|⟨y,k',rfl,hy⟩
  ·simp [Instr.sliceBounds,h2 x k hx (.inr rfl) _ cap (by omega)]
  ·simp [Instr.sliceBounds,h2 x k hx (.inr rfl) _ cap (by omega),h3 y k' hy (.inl rfl) _ b.toNat (by omega)]
theorem exec_slice {t:TypeId} {x:Operand} {lo hi:Option Operand} (ho:o.op = .slice t x lo hi none) {a:Act} {w:World} {v:Value} (h:(Instr.sliceAt t (a.eval x) (lo.map a.eval) (hi.map a.eval) none).run P w = .ok v w):(execOp a.eval o).run P w = .ok (.value v) w:=by
 simp [execOp,ho,h]
theorem run_sliceAt_arr {t e:TypeId} {n:Nat} (hu:P.underlying t=some (.array n e)) (hi:∃ i,P.info? e=some i) {w:World} {r q:Nat} {lo hi':Option Value} {l h:Nat}
  (hb:(Instr.sliceBounds false n n lo hi' none).run P w = .ok (l,h,n) w):(Instr.sliceAt t (.pointer (some ⟨r,q,none⟩)) lo hi' none).run P w = .ok (.slice (some (if n=l then ⟨r,q,none⟩ else ⟨r,q+l*P.cellsOf e,none⟩)) (h-l) (n-l)) w:=by
 obtain ⟨i,hi⟩:=hi
 simp [Instr.sliceAt,run_underlying hu,Instr.sureAddr,hb,run_sizeOf' hi,add_at]
theorem run_sliceAt_sli {t e:TypeId} (hu:P.underlying t=some (.slice e)) (hi:∃ i,P.info? e=some i) {w:World} {ad:Option Addr} {len cap:Nat} {lo hi':Option Value} {l h:Nat}
  (hb:(Instr.sliceBounds true len cap lo hi' none).run P w = .ok (l,h,cap) w):(Instr.sliceAt t (.slice ad len cap) lo hi' none).run P w = .ok (.slice (if cap=l then ad else ad.map (·.add (l*P.cellsOf e))) (h-l) (cap-l)) w:=by
 obtain ⟨i,hi⟩:=hi
 simp [Instr.sliceAt,run_underlying hu,Instr.slice,hb,run_sizeOf' hi]
theorem drop_map_take (k:IntKind) (l:List Int) (a n:Nat):((l.drop a).take n).map (Value.int k)=((l.map (Value.int k)).drop a).take n:=by simp [List.map_take,List.map_drop]
theorem exec_slice3 {t:TypeId} {x m:Operand} {lo hi:Option Operand} (ho:o.op = .slice t x lo hi (some m)) {a:Act} {w:World} {v:Value} (h:(Instr.sliceAt t (a.eval x) (lo.map a.eval) (hi.map a.eval) (some (a.eval m))).run P w = .ok v w):(execOp a.eval o).run P w = .ok (.value v) w:=by
 simp [execOp,ho,h]
theorem run_sliceAt_sli3 {t e:TypeId} (hu:P.underlying t=some (.slice e)) (hi:∃ i,P.info? e=some i) {w:World} {ad:Option Addr} {len cap:Nat} {lo hi' mx:Option Value} {l h m:Nat}
  (hb:(Instr.sliceBounds true len cap lo hi' mx).run P w = .ok (l,h,m) w):(Instr.sliceAt t (.slice ad len cap) lo hi' mx).run P w = .ok (.slice (if m=l then ad else ad.map (·.add (l*P.cellsOf e))) (h-l) (m-l)) w:=by
 obtain ⟨i,hi⟩:=hi
 simp [Instr.sliceAt,run_underlying hu,Instr.slice,hb,run_sizeOf' hi]
theorem run_bounds3 {k1 k2 k3:IntKind} {a c d:Int} {len cap:Nat} {w:World} (h1:0≤a) (h2:a≤c) (h3:c≤d) (h4:d≤cap) :
  (Instr.sliceBounds true len cap (some (.int k1 a)) (some (.int k2 c)) (some (.int k3 d))).run P w = .ok (a.toNat,c.toNat,d.toNat) w:=by
 have e1:(0≤d/\d≤(cap:Int)):=⟨by omega,h4⟩
 have e2:(0≤c/\c≤(d.toNat:Int)):=⟨by omega,by omega⟩
 have e3:(0≤a/\a≤(c.toNat:Int)):=⟨h1,by omega⟩
 simp [Instr.sliceBounds,Instr.sliceBound,asIntOf,e1,e2,e3]
 rw [if_pos (by omega),if_pos (by omega)]
theorem sli_value {E:Env} {x:AV} {v:Value} (hx:isSli x=true) (h:RepV E x v):∃ ad len cap,v = .slice ad len cap:=by
 unfold isSli at hx
 split at hx
 ·rcases rep_sl h with ⟨r,q,so,n,cp,ex,_⟩|⟨ad,so,n,ex,_⟩
  ·exact ⟨_,_,_,ex⟩
  ·exact ⟨_,_,_,ex⟩
 ·rcases (rep_roI h).slI with ⟨r,q,cp,ex,_⟩|⟨_,ad,cp,ex,_⟩
  ·exact ⟨_,_,_,ex⟩
  ·exact ⟨_,_,_,ex⟩
 ·rcases (rep_ro h).sl with ⟨r,q,cp,css,ex,_⟩|⟨_,ad,cp,ex,_⟩
  ·exact ⟨_,_,_,ex⟩
  ·exact ⟨_,_,_,ex⟩
 ·exact ⟨_,_,_,rep_sc h⟩
 ·obtain ⟨ad,ex⟩:=rep_emp h
  exact ⟨_,_,_,ex⟩
 ·cases hx
theorem told_slice3 {t:TypeId} {x m:Operand} {lo hi:Option Operand} (hT:TabOK P T) (ho:o.op = .slice t x lo hi (some m)) (h:slice3K T t (ρ x) (lo.map ρ) (hi.map ρ) (ρ m) K):Told P G o ρ H K:=by
 have mx':x∈opnds o.op:=by simp [opnds,ho,Op.operands]
 have mm:m∈opnds o.op:=by simp [opnds,ho,Op.operands]
 have mb:∀ y,lo=some y\/hi=some y->y∈opnds o.op:=by
  intro y hy
  rcases hy with rfl|rfl<;>simp [opnds,ho,Op.operands]
 unfold slice3K at h
 split at h
 ·rename_i e hv hk hhi
  obtain ⟨hu,hinf⟩:=und_sli hT hk
  obtain ⟨y,rfl,hy⟩:=Option.map_eq_some_iff.1 hhi
  split at h
  ·rename_i k1 k2 hlo h2
   have hlo':lo=none:=by simpa using hlo
   subst hlo'
   split at h
   ·rename_i hx
    refine ⟨_,_,_,h,.pure fun E a w hop => ?_⟩
    obtain ⟨ad,len,cap,ex⟩:=sli_value hx (hop x mx')
    have e1:=rep_int (hy▸hop y (mb y (.inr rfl)))
    have e2:=rep_int (h2▸hop m mm)
    have hb:(Instr.sliceBounds true len cap none (some (.int k1 0)) (some (.int k2 0))).run P w = .ok (0,0,0) w:=by
     simp [Instr.sliceBounds,Instr.sliceBound,asIntOf]
    refine ⟨_,exec_slice3 ho (by rw [ex];simp only [Option.map_some,Option.map_none];rw [e1,e2];exact run_sliceAt_sli3 hu hinf hb),?_⟩
    exact .one (.emp _) rfl
   ·exact h.elim
  ·rename_i lv hlo
   obtain ⟨z,rfl,hz⟩:=Option.map_eq_some_iff.1 hlo
   obtain ⟨ka,a,hza,h⟩:=intK_inv h
   obtain ⟨kc,c,hyc,h⟩:=intK_inv h
   obtain ⟨kd,d,hmd,h⟩:=intK_inv h
   obtain ⟨⟨ha,hac,hcd⟩,h⟩:=h
   have hb:∀ E (ac:Act) (w:World),(∀ x,x∈opnds o.op->RepV E (ρ x) (ac.eval x))->∀ len cap:Nat,d≤cap->(Instr.sliceBounds true len cap (some (ac.eval z)) (some (ac.eval y)) (some (ac.eval m))).run P w = .ok (a.toNat,c.toNat,d.toNat) w:=by
    intro E ac w hop len cap hd
    have e1:ac.eval z = .int ka a:=rep_int (E:=E) (by rw [←hza,←hz];exact hop z (mb z (.inl rfl)))
    have e2:ac.eval y = .int kc c:=rep_int (E:=E) (by rw [←hyc,←hy];exact hop y (mb y (.inr rfl)))
    have e3:ac.eval m = .int kd d:=rep_int (E:=E) (by rw [←hmd];exact hop m mm)
    rw [e1,e2,e3]
    exact run_bounds3 ha hac hcd hd
   have e1:c.toNat-a.toNat=(c-a).toNat:=by omega
   split at h
   ·rename_i b p le off len hx
    split at h
    ·rename_i h2
     obtain ⟨hdl,h⟩:=h
     refine ⟨_,_,_,h,.pure fun E ac w hop => ?_⟩
     rcases rep_sl (hx▸hop x mx') with ⟨r,q,so,n,cp,ex,hp,hl,hn,hc,ht⟩|⟨ad,so,n,ex,e0,hp,hl,hn⟩
     ·refine ⟨_,exec_slice3 ho (by rw [ex];exact run_sliceAt_sli3 hu hinf (hb E ac w hop len cp (by omega))),?_⟩
      rw [fits_cells hT h2,e1]
      by_cases hna:d.toNat=a.toNat
      ·rw [if_pos hna]
       have e2:(c-a).toNat=0:=by omega
       have e3:d.toNat-a.toNat=0:=by omega
       rw [e2,e3]
       exact .one (.sl0 b p le (off+a.toNat) _ so n (at_born hp) hl (by omega)) rfl
      ·rw [if_neg hna,Option.map_some,add_at]
       have e4:q+so+off*le.size+a.toNat*le.size=q+so+(off+a.toNat)*le.size:=by rw [Nat.add_mul];omega
       rw [e4]
       have hle:(off+a.toNat+(d.toNat-a.toNat))*le.size≤(off+cp)*le.size:=Nat.mul_le_mul_right _ (by omega)
       have:=RepA.sl (E:=E) b p le (off+a.toNat) (c-a).toNat r q so n (d.toNat-a.toNat) hp hl (by omega) (by omega) (by omega)
       exact .one this rfl
     ·subst e0
      refine ⟨_,exec_slice3 ho (by rw [ex];exact run_sliceAt_sli3 hu hinf (hb E ac w hop 0 0 (by omega))),?_⟩
      have ea:a.toNat=0:=by omega
      have ec:(c-a).toNat=0:=by omega
      have ed:d.toNat=0:=by omega
      rw [e1,ec,ea,ed,if_pos rfl]
      exact .one (.sl0 b p le (off+0) ad so n hp hl hn) rfl
    ·exact h.elim
   ·rename_i k l hx
    split at h
    ·rename_i h2
     obtain ⟨hdl,h⟩:=h
     refine ⟨_,_,_,h,.pure fun E ac w hop => ?_⟩
     have e5:c.toNat-a.toNat=((l.drop a.toNat).take (c-a).toNat).length:=by simp [List.length_take,List.length_drop];omega
     rcases (rep_roI (hx▸hop x mx')).slI with ⟨r,q,cp,ex,hc,hr⟩|⟨e0,ad,cp,ex,hn⟩
     ·refine ⟨_,exec_slice3 ho (by rw [ex];exact run_sliceAt_sli3 hu hinf (hb E ac w hop l.length cp (by omega))),?_⟩
      rw [fits_cells hT h2,e5]
      simp only [Lay.size,Nat.mul_one]
      by_cases hna:d.toNat=a.toNat
      ·rw [if_pos hna]
       have e2:(l.drop a.toNat).take (c-a).toNat=[]:=by
        have:(c-a).toNat=0:=by omega
        rw [this,List.take_zero]
       rw [e2]
       exact .one (.dv (.roI0 k _ _ (fun e=>by cases e))) rfl
      ·rw [if_neg hna,Option.map_some,add_at]
       refine .one (.dv (.roI k _ r (q+a.toNat) _ (by rw [←e5];omega) ?_)) rfl
       rw [drop_map_take]
       exact hr.sub
     ·subst e0
      refine ⟨_,exec_slice3 ho (by rw [ex];exact run_sliceAt_sli3 hu hinf (hb E ac w hop 0 cp (by simp at hdl;omega))),?_⟩
      have ea:a.toNat=0:=by simp at hdl;omega
      have ed:d.toNat=0:=by simp at hdl;omega
      rw [e5,ea,ed]
      simp only [List.drop_nil,List.take_nil,List.length_nil,if_true]
      exact .one (.dv (.roI0 k _ _ (fun _=>rfl))) rfl
    ·exact h.elim
   ·exact h.elim
  ·exact h.elim
 ·exact h.elim
theorem told_slice {t:TypeId} {x:Operand} {lo hi mx:Option Operand} (hT:TabOK P T) (ho:o.op = .slice t x lo hi mx) (h:sliceK T t H (ρ x) (lo.map ρ) (hi.map ρ) (mx.map ρ) K):Told P G o ρ H K:=by
 have mx':x∈opnds o.op:=by simp [opnds,ho,Op.operands]
 have mb:∀ y,lo=some y\/hi=some y->y∈opnds o.op:=by
  intro y hy
  rcases hy with rfl|rfl<;>simp [opnds,ho,Op.operands]
 unfold sliceK at h
 cases mx with
 |some m=>exact told_slice3 hT ho h
 |none =>
  simp only [Option.map_none] at h
  split at h
  ·rename_i n e hk
   obtain ⟨hu,hinf⟩:=und_arr hT hk
   cases hx:ρ x with
   |ptr b p l =>
    rw [hx] at h
    simp only at h
    cases l with
    |arr m le =>
     simp only at h
     split at h
     ·rename_i h1 h2
      obtain rfl:=Nat.eq_of_beq_eq_true h1
      have hrep:∀ {a c:Int} {E:Env} {H':Nat->Blk} {w:World} {r q off:Nat},Rel E H' w->0≤a->a≤c->c≤n->E.pl b = .at r q->locL (E.lay b) p=some (off,.arr n le) ->
        RepV E (.sl b p le a.toNat (c-a).toNat) (.slice (some (if n=a.toNat then ⟨r,q+off,none⟩ else ⟨r,q+off+a.toNat*le.size,none⟩)) (c.toNat-a.toNat) (n-a.toNat)):=by
       intro a c E H' w r q off hR ha hac hcn hp hl
       have e1:c.toNat-a.toNat=(c-a).toNat:=by omega
       rw [e1]
       by_cases hna:n=a.toNat
       ·rw [if_pos hna]
        have e2:(c-a).toNat=0:=by omega
        rw [e2]
        have e3:n-a.toNat=0:=by omega
        rw [e3]
        exact .one (.sl0 b p le a.toNat _ off n (at_born hp) hl (by omega)) rfl
       ·rw [if_neg hna]
        have htop:q+off+(a.toNat+(n-a.toNat))*le.size≤E.top b:=by
         have h1:=locL_le hl
         have h2:=hR.fit b r q hp
         have e:a.toNat+(n-a.toNat)=n:=by omega
         rw [e]
         simp only [Lay.size] at h1
         omega
        have:=RepA.sl (E:=E) b p le a.toNat (c-a).toNat r q off n (n-a.toNat) hp hl (by omega) (by omega) htop
        exact .one this rfl
      rcases h with h|h
      ·obtain ⟨a,c,ha,hac,hcn,hK,hrun⟩:=boundsK_inv (P:=P) h
       refine ⟨_,_,_,hK,.of fun E H' ac w hR _ hop _ _ => ?_⟩
       obtain ⟨r,q,off,ex,hp,hl⟩:=rep_ptr (hx▸hop x mx')
       have hb:=hrun E ac w false n n (fun y hy=>hop y (mb y hy)) (fun _=>rfl) (Int.le_refl _)
       refine ⟨_,w,E,.inl (exec_slice ho (by rw [ex];exact run_sliceAt_arr hu hinf hb)),.pure hR ?_⟩
       rw [fits_cells hT h2]
       exact hrep hR ha hac hcn hp hl
      ·split at h
       ·rename_i k m' l hHb
        obtain ⟨a,c,ha,hac,hcn,hK,hrun⟩:=boundsK_inv (P:=P) h
        refine ⟨_,_,_,hK,.of fun E H' ac w hR _ hop hrd _ => ?_⟩
        obtain ⟨r,q,off,ex,hp,hl⟩:=rep_ptr (hx▸hop x mx')
        have hb:=hrun E ac w false n n (fun y hy=>hop y (mb y hy)) (fun _=>rfl) (Int.le_refl _)
        have hHb':H' b = .var (.dv (.ints k m' l)):=by rw [hrd b (List.mem_singleton.2 rfl)];exact hHb
        have hbr:=hR.blk b
        rw [hHb'] at hbr
        obtain ⟨r',o',cs,hp',hlay,hy,hrs,htop,hroom⟩:=hbr
        have hy:=hy.dv_inv
        cases hy with
        |ints _ _ _ hlen =>
         have hbk:BlkRel E b w (.rowI k l):=by
          refine ⟨by rw [hlay,←hlen];rfl,.inr ⟨r',o',hp',hrs,?_⟩⟩
          rw [List.length_map] at hroom
          exact hroom
         have hst:=Step.writeB (w':=w) (x := .rowI k l) hR (by rw [hHb'];rfl) hp' rfl rfl rfl rfl (fun _ _=>rfl) hbk (hrep hR ha hac hcn hp hl)
         refine ⟨_,w,E,.inl (exec_slice ho (by rw [ex];exact run_sliceAt_arr hu hinf hb)),?_⟩
         rw [fits_cells hT h2]
         exact hst
       ·exact h.elim
     ·exact h.elim
    |_=>exact h.elim
   |rp d =>
    rw [hx] at h
    cases d with
    |ints k m l =>
     simp only at h
     split at h
     ·rename_i h1 h2
      obtain rfl:=Nat.eq_of_beq_eq_true h1
      obtain ⟨a,c,ha,hac,hcn,hK,hrun⟩:=boundsK_inv (P:=P) h
      refine ⟨_,_,_,hK,.of fun E H' ac w hR _ hop _ _ => ?_⟩
      obtain ⟨r,q,cs,ex,hd,hr⟩:=rep_rp (hx▸hop x mx')
      have hb:=hrun E ac w false n n (fun y hy=>hop y (mb y hy)) (fun _=>rfl) (Int.le_refl _)
      refine ⟨_,w,E,.inl (exec_slice ho (by rw [ex];exact run_sliceAt_arr hu hinf hb)),.pure hR ?_⟩
      rw [fits_cells hT h2]
      cases hd with
      |ints _ _ _ hln =>
       have e1:c.toNat-a.toNat=((l.drop a.toNat).take (c-a).toNat).length:=by simp [List.length_take,List.length_drop];omega
       rw [e1]
       simp only [Lay.size,Nat.mul_one]
       by_cases hna:n=a.toNat
       ·rw [if_pos hna]
        have e2:(l.drop a.toNat).take (c-a).toNat=[]:=by rw [List.drop_eq_nil_of_le (by omega)];simp
        rw [e2]
        exact .one (.dv (.roI0 k _ _ (fun e=>by cases e))) rfl
       ·rw [if_neg hna]
        refine .one (.dv (.roI k _ r (q+a.toNat) _ (by rw [←e1];omega) ?_)) rfl
        rw [drop_map_take]
        exact hr.sub
     ·exact h.elim
    |_=>exact h.elim
   |_=>rw [hx] at h;exact h.elim
  ·rename_i e hk
   obtain ⟨hu,hinf⟩:=und_sli hT hk
   cases hx:ρ x with
   |sl b p le off len =>
    rw [hx] at h
    simp only at h
    split at h
    ·rename_i h2
     obtain ⟨a,c,ha,hac,hcn,hK,hrun⟩:=boundsK_inv (P:=P) h
     refine ⟨_,_,_,hK,.of fun E H' ac w hR _ hop _ _ => ?_⟩
     have e1:c.toNat-a.toNat=(c-a).toNat:=by omega
     rcases rep_sl (hx▸hop x mx') with ⟨r,q,so,n,cp,ex,hp,hl,hn,hc,ht⟩|⟨ad,so,n,ex,e0,hp,hl,hn⟩
     ·have hb:=hrun E ac w true len cp (fun y hy=>hop y (mb y hy)) (fun _=>rfl) (Int.ofNat_le.2 hc)
      refine ⟨_,w,E,.inl (exec_slice ho (by rw [ex];exact run_sliceAt_sli hu hinf hb)),.pure hR ?_⟩
      rw [fits_cells hT h2,e1]
      by_cases hna:cp=a.toNat
      ·rw [if_pos hna]
       have e2:(c-a).toNat=0:=by omega
       have e3:cp-a.toNat=0:=by omega
       rw [e2,e3]
       exact .one (.sl0 b p le (off+a.toNat) _ so n (at_born hp) hl (by omega)) rfl
      ·rw [if_neg hna,Option.map_some,add_at]
       have e4:q+so+off*le.size+a.toNat*le.size=q+so+(off+a.toNat)*le.size:=by rw [Nat.add_mul];omega
       rw [e4]
       have:=RepA.sl (E:=E) b p le (off+a.toNat) (c-a).toNat r q so n (cp-a.toNat) hp hl (by omega) (by omega) (by
        have:off+a.toNat+(cp-a.toNat)=off+cp:=by omega
        rw [this];exact ht)
       exact .one this rfl
     ·subst e0
      have hb:=hrun E ac w true 0 0 (fun y hy=>hop y (mb y hy)) (fun _=>rfl) (Int.le_refl _)
      refine ⟨_,w,E,.inl (exec_slice ho (by rw [ex];exact run_sliceAt_sli hu hinf hb)),.pure hR ?_⟩
      have ea:a.toNat=0:=by omega
      have ec:(c-a).toNat=0:=by omega
      rw [e1,ec,ea,if_pos rfl]
      exact .one (.sl0 b p le (off+0) ad so n hp hl hn) rfl
    ·exact h.elim
   |slc b off len cp =>
    rw [hx] at h
    simp only at h
    split at h
    ·rename_i k l hHb h2
     obtain ⟨a,c,ha,hac,hcn,⟨⟨hle,hlt⟩,hK⟩,hrun⟩:=boundsK_inv (P:=P) h
     have e1:c.toNat-a.toNat=(c-a).toNat:=by omega
     have main:∀ E (H':Nat->Blk) (ac:Act) w,Rel E H' w->(∀ x,x∈opnds o.op->RepV E (ρ x) (ac.eval x))->(∀ y,y∈[b]->H' y=H y)->∃ u,(execOp ac.eval o).run P w = .ok (.value u) w/\RepV E (.slc b (off+a.toNat) (c-a).toNat (cp-a.toNat)) u:=by
      intro E H' ac w hR hop hrd
      obtain ⟨r,q,n,ex,hp,hl,hn,hc,ht⟩:=rep_slc (hx▸hop x mx')
      have hbr:=hR.blk b
      rw [hrd b (List.mem_singleton.2 rfl),hHb] at hbr
      have hnl:n=l.length:=by
       have:=hbr.1
       rw [hl] at this
       injection this
      have hccp:c≤cp:=by
       cases hi with
       |none=>simp only [Option.map_none] at hcn;omega
       |some y=>exact hcn
      have hb:=hrun E ac w true len cp (fun y hy=>hop y (mb y hy)) (fun e=>by rw [e];rfl) (by
       cases hi with
       |none=>exact Int.ofNat_le.2 hc
       |some y=>exact Int.le_refl _)
      refine ⟨_,exec_slice ho (by rw [ex];exact run_sliceAt_sli hu hinf hb),?_⟩
      have hna:¬ (cp=a.toNat):=by omega
      rw [if_neg hna,Option.map_some,add_at,fits_cells hT h2,e1]
      simp only [Lay.size,Nat.mul_one]
      have:=RepA.slc (E:=E) b (off+a.toNat) (c-a).toNat (cp-a.toNat) r q n hp hl (by omega) (by omega) (by omega)
      rw [Nat.add_assoc]
      exact .one this rfl
     rcases hK with hK|hK
     ·refine ⟨_,_,_,hK,.of fun E H' ac w hR _ hop hrd _ => ?_⟩
      obtain ⟨u,hr,hv⟩:=main E H' ac w hR hop hrd
      exact ⟨u,w,E,.inl hr,.pure hR (slc_sl hv)⟩
     ·refine ⟨_,_,_,hK,.of fun E H' ac w hR _ hop hrd _ => ?_⟩
      obtain ⟨u,hr,hv⟩:=main E H' ac w hR hop hrd
      exact ⟨u,w,E,.inl hr,.pure hR hv⟩
    ·exact h.elim
   |dv d =>
    rw [hx] at h
    cases d with
    |roI k l =>
     simp only at h
     split at h
     ·rename_i h2
      obtain ⟨a,c,ha,hac,hcn,hK,hrun⟩:=boundsK_inv (P:=P) h
      refine ⟨_,_,_,hK,.of fun E H' ac w hR _ hop _ _ => ?_⟩
      have e1:c.toNat-a.toNat=((l.drop a.toNat).take (c-a).toNat).length:=by simp [List.length_take,List.length_drop];omega
      rcases (rep_roI (hx▸hop x mx')).slI with ⟨r,q,cp,ex,hc,hr⟩|⟨e0,ad,cp,ex,hn⟩
      ·have hb:=hrun E ac w true l.length cp (fun y hy=>hop y (mb y hy)) (fun _=>rfl) (Int.ofNat_le.2 hc)
       refine ⟨_,w,E,.inl (exec_slice ho (by rw [ex];exact run_sliceAt_sli hu hinf hb)),.pure hR ?_⟩
       rw [fits_cells hT h2,e1]
       simp only [Lay.size,Nat.mul_one]
       by_cases hna:cp=a.toNat
       ·rw [if_pos hna]
        have e2:(l.drop a.toNat).take (c-a).toNat=[]:=by rw [List.drop_eq_nil_of_le (by omega)];simp
        rw [e2]
        exact .one (.dv (.roI0 k _ _ (fun e=>by cases e))) rfl
       ·rw [if_neg hna,Option.map_some,add_at]
        refine .one (.dv (.roI k _ r (q+a.toNat) _ (by rw [←e1];omega) ?_)) rfl
        rw [drop_map_take]
        exact hr.sub
      ·subst e0
       have hb:=hrun E ac w true 0 cp (fun y hy=>hop y (mb y hy)) (fun _=>rfl) (Int.natCast_nonneg _)
       refine ⟨_,w,E,.inl (exec_slice ho (by rw [ex];exact run_sliceAt_sli hu hinf hb)),.pure hR ?_⟩
       have ea:a.toNat=0:=by simp at hcn;omega
       rw [e1,ea]
       simp only [List.drop_nil,List.take_nil,List.length_nil,Nat.sub_zero]
       refine .one (.dv (.roI0 k _ _ ?_)) rfl
       intro e
       split at e
       ·exact hn e
       ·cases ad with
        |none=>exact hn rfl
        |some _=>cases e
     ·exact h.elim
    |ro le n f =>
     simp only at h
     split at h
     ·rename_i h2
      obtain ⟨a,c,ha,hac,hcn,hK,hrun⟩:=boundsK_inv (P:=P) h
      refine ⟨_,_,_,hK,.of fun E H' ac w hR _ hop _ _ => ?_⟩
      have e1:c.toNat-a.toNat=(c-a).toNat:=by omega
      rcases (rep_ro (hx▸hop x mx')).sl with ⟨r,q,cp,css,ex,hc,hf,hfl,hr⟩|⟨e0,ad,cp,ex,hn⟩
      ·have hb:=hrun E ac w true n cp (fun y hy=>hop y (mb y hy)) (fun _=>rfl) (Int.ofNat_le.2 hc)
       refine ⟨_,w,E,.inl (exec_slice ho (by rw [ex];exact run_sliceAt_sli hu hinf hb)),.pure hR ?_⟩
       rw [fits_cells hT h2,e1]
       by_cases hna:cp=a.toNat
       ·rw [if_pos hna]
        have e2:(c-a).toNat=0:=by omega
        rw [e2]
        exact .one (.dv (.ro0 le _ _ _ (fun e=>by cases e))) rfl
       ·rw [if_neg hna,Option.map_some,add_at]
        refine .one (.dv (.ro le _ _ (fun i=>css (a.toNat+i)) r (q+a.toNat*le.size) _ (by omega) (fun i hi=>hf _ (by omega)) (fun i hi=>hfl _ (by omega)) (fun i hi => ?_))) rfl
        have:=hr (a.toNat+i) (by omega)
        rw [Nat.add_mul,←Nat.add_assoc] at this
        exact this
      ·subst e0
       have hb:=hrun E ac w true 0 cp (fun y hy=>hop y (mb y hy)) (fun _=>rfl) (Int.natCast_nonneg _)
       refine ⟨_,w,E,.inl (exec_slice ho (by rw [ex];exact run_sliceAt_sli hu hinf hb)),.pure hR ?_⟩
       have ea:a.toNat=0:=by omega
       have ec:(c-a).toNat=0:=by omega
       rw [e1,ec,ea]
       refine .one (.dv (.ro0 le _ _ _ ?_)) rfl
       intro e
       simp only [Nat.sub_zero]
       split at e
       ·exact hn e
       ·cases ad with
        |none=>exact hn rfl
        |some _=>cases e
     ·exact h.elim
    |sc v =>
     have hnil:v = .slice none 0 0/\boundsK 0 (lo.map ρ) (hi.map ρ) (fun _ _=>K [] [] (.dv (.sc (.slice none 0 0)))):=by
      split at h
      all_goals first
       |exact h.elim
       |(rename_i hd;cases hd;done)
       |(rename_i hd;cases hd;exact ⟨rfl,h⟩)
     obtain ⟨rfl,h⟩:=hnil
     obtain ⟨a,c,ha,hac,hcn,hK,hrun⟩:=boundsK_inv (P:=P) h
     refine ⟨_,_,_,hK,.of fun E H' ac w hR _ hop _ _ => ?_⟩
     have ex:=rep_sc (hx▸hop x mx')
     have hb:=hrun E ac w true 0 0 (fun y hy=>hop y (mb y hy)) (fun _=>rfl) (Int.le_refl _)
     refine ⟨_,w,E,.inl (exec_slice ho (by rw [ex];exact run_sliceAt_sli hu hinf hb)),.pure hR ?_⟩
     have ea:a.toNat=0:=by omega
     have ec:c.toNat=0:=by omega
     rw [ea,ec,if_pos rfl]
     exact sc_rep E trivial
    |_=>exact h.elim
   |_=>rw [hx] at h;exact h.elim
  ·rename_i hk
   have hu:=und_str hT hk
   cases hx:ρ x with
   |dv d =>
    rw [hx] at h
    cases d with
    |str l =>
     simp only at h
     obtain ⟨a,c,ha,hac,hcn,hK,hrun⟩:=boundsK_inv (P:=P) h
     refine ⟨_,_,_,hK,.of fun E H' ac w hR _ hop _ _ => ?_⟩
     have ex:=rep_str (hx▸hop x mx')
     have hb:=hrun E ac w false l.length l.length (fun y hy=>hop y (mb y hy)) (fun _=>rfl) (Int.le_refl _)
     refine ⟨_,w,E,.inl (exec_slice ho (by
      rw [ex]
      have hs:(⟨⟨l⟩⟩:ByteArray).size=l.length:=rfl
      simp only [Instr.sliceAt,Sem.run_bind,run_underlying hu,Result.andThen_ok,Instr.slice,Option.isSome_none,Bool.false_eq_true,if_false,Sem.run_pure,hs,hb]
      rfl)),.pure hR ?_⟩
     have e:(⟨⟨l⟩⟩:ByteArray).extract a.toNat c.toNat=⟨⟨(l.drop a.toNat).take (c-a).toNat⟩⟩:=by
      apply ByteArray.ext
      rw [ByteArray.data_extract]
      simp [List.extract_toArray]
      congr 1
      omega
     rw [e]
     exact str_rep E _
    |_=>exact h.elim
   |_=>rw [hx] at h;exact h.elim
  ·exact h.elim
end
end Go.Eng
