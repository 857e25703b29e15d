/-
  A CALCULATOR OVER THE MODEL: part 1 of 3. It holds for every program; its own names only.
-/
import Derived.Calls
import Derived.MapKept
import Derived.Laws.Rows
import Derived.Laws.IdiomCopy
import Derived.Laws.AppendOwn
import Derived.Laws.StructEq
import Derived.ChangeKeysEq
set_option linter.unusedVariables false
set_option linter.unusedSimpArgs false
namespace Go.Eng
inductive t9 where
 |one
 |unit
 |pair (a b:t9)
 |arr (n:Nat) (l:t9)
 deriving DecidableEq,Inhabited
def t9.size:t9->Nat
 |.one=>1
 |.unit=>0
 |.pair a b=>a.size+b.size
 |.arr n l=>n*l.size
def J6:t9->List Nat->Option (Nat×t9)
 |l,[]=>some (0,l)
 |l,i::p=>match l with
  |.pair a b=>(match i with
   |0=>J6 a p
   |i+1=>match J6 b (i::p) with
    |some (o,l)=>some (a.size+o,l)
    |none=>none)
  |.arr n l=>if i<n then (match J6 l p with
    |some (o,l')=>some (i*l.size+o,l')
    |none=>none) else none
  |_=>none
termination_by structural x=>x
inductive DV where
 |sc (v:Value)
 |bl (b:Bool)
 |str (l:List UInt8)
 |ints (k:IntKind) (n:Nat) (l:List Int)
 |nil
 |cons (d ds:DV)
 |fam (n:Nat) (l:t9) (f:Nat->DV)
 |roI (k:IntKind) (l:List Int)
 |ro (l:t9) (n:Nat) (f:Nat->DV)
 deriving Inhabited
inductive AV where
 |any
 |dv (d:DV)
 |cons (x xs:AV)
 |ptr (b:Nat) (p:List Nat) (l:t9)
 |rp (d:DV)
 |sl (b:Nat) (p:List Nat) (l:t9) (off:Nat) (len:Nat)
 |fn (f:FuncId) (caps:List AV)
 |tup (xs:List AV)
 |ifc (t:TypeId) (x:AV)
 |mp (b:Nat)
 |stamp (b:Nat)
 |yld (b:Nat)
 |vs (b off len:Nat)
 |slc (b off len cap:Nat)
 |emp
 |nq (neg:Bool) (n:Nat)
 deriving Inhabited
inductive KF where
 |int (k:IntKind)
 |str
 |ints (k:IntKind) (n:Nat)
 deriving Inhabited
inductive LSt where
 |ready
 |busy
 |done (c:Code)
 deriving Inhabited
def Lu (L:Loop):LSt->Loop
 |.ready=>{ L with state := .ready,pending:=none }
 |.busy=>{ L with state := .busy,pending:=none }
 |.done c=>{ L with state := .done,pending:=some c }
inductive j6 where
 |dead
 |var (x:AV)
 |rowI (k:IntKind) (l:List Int)
 |row (l:t9) (n:Nat) (f:Nat->DV)
 |frzI (k:IntKind) (l:List Int)
 |frz (l:t9) (n:Nat) (f:Nat->DV)
 |mp (f:KF) (es:List (DV×DV))
 |mpn (f:KF) (es:List (DV×DV)) (k:DV) (c:Nat)
 |lp (L:Loop) (s:LSt)
 deriving Inhabited
def t9.isAgg:t9->Bool
 |.one=>false
 |_=>true
def DV.lay:DV->t9
 |.ints _ n _ => .arr n .one
 |.nil => .unit
 |.cons d ds => .pair d.lay ds.lay
 |.fam n l _ => .arr n l
 |_ => .one
def AV.lay:AV->t9
 |.dv d=>d.lay
 |.cons x xs => .pair x.lay xs.lay
 |_ => .one
def Wg:Nat->t9
 |0 => .unit
 |n+1 => .pair .one (Wg n)
def a35:List AV->AV
 |[] => .dv .nil
 |x::r => .cons x (a35 r)
def AV.isAgg (x:AV):Bool:=x.lay.isAgg
abbrev AV.int (k:IntKind) (x:Int):AV := .dv (.sc (.int k x))
abbrev AV.bl (b:Bool):AV := .dv (.bl b)
def DV.part:DV->Nat->DV
 |.cons d ds,i=>(match i with
  |0=>d
  |i+1=>ds.part i)
 |.ints k _ l,i => .sc (.int k (l.getD i 0))
 |.fam _ _ f,i=>f i
 |_,_ => .nil
def AV.part:AV->Nat->AV
 |.cons x xs,i=>(match i with
  |0=>x
  |i+1=>xs.part i)
 |.dv d,i => .dv (d.part i)
 |_,_ => .any
def AV.at:AV->List Nat->AV
 |x,[]=>x
 |x,i::p=>(x.part i).at p
def DV.at:DV->List Nat->DV
 |x,[]=>x
 |x,i::p=>(x.part i).at p
def S0:IntKind->IntKind->Bool
 |.i8,k=>(match k with | .i8=>true|_=>false)
 |.i16,k=>(match k with | .i16=>true|_=>false)
 |.i32,k=>(match k with | .i32=>true|_=>false)
 |.i64,k=>(match k with | .i64=>true|_=>false)
 |.u8,k=>(match k with | .u8=>true|_=>false)
 |.u16,k=>(match k with | .u16=>true|_=>false)
 |.u32,k=>(match k with | .u32=>true|_=>false)
 |.u64,k=>(match k with | .u64=>true|_=>false)
theorem F4 {a b:IntKind} (h:S0 a b=true):a=b:=by cases a<;>cases b<;>first|rfl|cases h
def mkCons:AV->AV->AV
 |.dv d,.dv ds => .dv (.cons d ds)
 |x,xs => .cons x xs
def DV.setA:DV->List Nat->AV->AV
 |_,[],y=>y
 |d,i::p,y=>match d with
  |.cons d ds=>(match i with
   |0=>mkCons (d.setA p y) (.dv ds)
   |i+1=>mkCons (.dv d) (ds.setA (i::p) y))
  |.ints k n l=>(match p,y with
   |[],.dv (.sc (.int k' x))=>(match S0 k k' with|true => .dv (.ints k n (l.set i x))|false => .any)
   |_,_ => .any)
  |.fam n l f=>(match (f i).setA p y with
   |.dv d=>(match decide (d.lay=l) with
    |true => .dv (.fam n l fun j=>if j=i then d else f j)
    |false => .any)
   |_ => .any)
  |_ => .any
termination_by structural x=>x
def AV.setP:AV->List Nat->AV->AV
 |_,[],y=>y
 |x,i::p,y=>match x with
  |.dv d=>d.setA (i::p) y
  |.cons x xs=>(match i with
   |0=>mkCons (x.setP p y) xs
   |i+1=>mkCons x (xs.setP (i::p) y))
  |_ => .any
termination_by structural x=>x
def KF.same:KF->KF->Bool
 |.int a,b=>(match b with | .int c=>S0 a c|_=>false)
 |.str,b=>(match b with | .str=>true|_=>false)
 |.ints a n,b=>(match b with
  |.ints c m=>(match S0 a c,Nat.beq n m with|true,true=>true|_,_=>false)
  |_=>false)
def KF.has:KF->DV->Bool
 |.int a,d=>(match d with | .sc (.int c _)=>S0 a c|_=>false)
 |.str,d=>(match d with | .str _=>true|_=>false)
 |.ints a n,d=>(match d with
  |.ints c m _=>(match S0 a c,Nat.beq n m with|true,true=>true|_,_=>false)
  |_=>false)
def a36:DV->DV->Bool
 |.sc (.int _ x),b=>(match b with | .sc (.int _ y)=>x==y|_=>false)
 |.str x,b=>(match b with | .str y=>x==y|_=>false)
 |.ints _ _ x,b=>(match b with | .ints _ _ y=>x==y|_=>false)
 |_,_=>false
def c05 (k:DV):List (DV×DV)->Option DV
 |[]=>none
 |e::r=>match a36 k e.1 with
  |true=>some e.2
  |false=>c05 k r
def g39 (k v:DV):List (DV×DV)->List (DV×DV)
 |[]=>[(k,v)]
 |e::r=>match a36 k e.1 with
  |true=>(k,v)::r
  |false=>e::g39 k v r
def g40 (k:DV):List (DV×DV)->List (DV×DV)
 |[]=>[]
 |e::r=>match a36 k e.1 with
  |true=>r
  |false=>e::g40 k r
end Go.Eng

namespace Go.Eng
inductive TK where
 |int (k:IntKind)
 |bool
 |str
 |arr (n:Nat) (e:TypeId)
 |sli (e:TypeId)
 |struct (fs:List (Nat×TypeId))
 |ptr (e:TypeId)
 |iface
 |func
 |map (k e:TypeId)
 |other
structure T3 where
 kind:TK
 size:Nat
 bytes:Nat
 lay:t9
 zero:DV
 eq:Bool
inductive Tr where
 |leaf
 |node (l:Tr) (k:Nat) (v:T3) (r:Tr)
def Tr.get:Tr->Nat->T3
 |.leaf,_=>⟨.other,0,0,.one,.nil,false⟩
 |.node l k v r,i=>match Nat.beq i k with
  |true=>v
  |false=>(match Nat.blt i k with
   |true=>l.get i
   |false=>r.get i)
def Zy:Value->AV
 |.bool b => .dv (.sc (.bool b))
 |.int k n => .dv (.sc (.int k n))
 |.string s => .dv (.str s.data.toList)
 |.pointer none => .dv (.sc (.pointer none))
 |.slice none 0 0 => .dv (.sc (.slice none 0 0))
 |.map none => .dv (.sc (.map none))
 |.nilFunc => .dv (.sc .nilFunc)
 |.nilIface => .dv (.sc .nilIface)
 |_ => .any
def Z7:AV->AV
 |.dv d=>(match d with
  |.sc v=>(match v with
   |.bool b => .dv (.bl b)
   |v => .dv (.sc v))
  |d => .dv d)
 |x=>x
def Fb:AV->Bool
 |.any=>false
 |.tup _=>false
 |.cons x xs=>(match Fb x with|true=>Fb xs|false=>false)
 |_=>true
def f03 (a b:Nat):Nat:=match a with
 |0=>b
 |a+1=>a+1+b
theorem Ua (a b:Nat):f03 a b=a+b:=by cases a<;>simp [f03]
def Wk (k:IntKind) (H:Nat->j6):AV->Option (List Int)
 |.dv (.roI k' l)=>(match S0 k k' with|true=>some l|false=>none)
 |.dv (.sc (.slice none 0 0))=>some []
 |.sl b p _ off len=>(match H b with
  |.rowI k' l | .frzI k' l=>(match p,S0 k k' with|[],true=>some ((l.drop off).take len)|_,_=>none)
  |.var x=>(match x.at p with
   |.dv (.ints k' _ l)=>(match S0 k k' with|true=>some ((l.drop off).take len)|false=>none)
   |_=>none)
  |_=>none)
 |_=>none
def c84 (H:Nat->j6):AV->Option (Nat×(Nat->DV))
 |.dv (.ro _ n f)=>some (n,f)
 |.dv (.sc (.slice none 0 0))=>some (0,fun _ => .nil)
 |.sl b p _ off len=>(match H b with
  |.row _ _ f | .frz _ _ f=>(match p with|[]=>some (len,fun j=>f (f03 off j))|_=>none)
  |_=>none)
 |_=>none
def Rb (H:Nat->j6):AV->Option t9
 |.dv (.ro la _ _)=>some la
 |.sl b _ _ _ _=>(match H b with
  |.row la _ _ | .frz la _ _=>some la
  |_=>none)
 |_=>none
def Bl:AV->List Nat
 |.sl b _ _ _ _=>[b]
 |_=>[]
def AV.refs:AV->List Nat
 |.ptr b _ _=>[b]
 |.sl b _ _ _ _=>[b]
 |.cons x xs=>x.refs++xs.refs
 |.ifc _ x=>x.refs
 |.mp b=>[b]
 |.slc b _ _ _=>[b]
 |_=>[]
def split (b:Bool) (K:Bool->Prop):Prop:=(b=true->K true)/\(b=false->K false)
def f60:AV->(Bool->Prop)->Prop
 |.dv (.sc (.bool b)),K=>K b
 |.dv (.bl b),K=>split b K
 |_,_=>False
def Dn:AV->(IntKind->Int->Prop)->Prop
 |.dv (.sc (.int k x)),K=>K k x
 |_,_=>False
def Ou (x y:AV) (K:IntKind->Int->Int->Prop):Prop :=
 Dn x fun k a=>Dn y fun k' b=>match S0 k k' with|true=>K k a b|false=>False
def bits (k:IntKind) (op:BinOp) (x y:Int):Int :=
 let a:=BitVec.ofInt k.bits x
 let b:=BitVec.ofInt k.bits y
 match op with
 |.and=>k.wrap (a&&&b).toNat
 |.or=>k.wrap (a|||b).toNat
 |.xor=>k.wrap (a^^^b).toNat
 |_=>k.wrap (a &&& ~~~b).toNat
def eqS (tk:TK) (a b:DV) (K:Bool->Prop):Prop:=match tk with
 |.int _=>(match a with
  |.sc (.int k x)=>(match b with
   |.sc (.int k' y)=>(match S0 k k' with|true=>K (x==y)|false=>False)
   |_=>False)
  |_=>False)
 |.bool=>(match a with
  |.sc (.bool a)=>(match b with
   |.sc (.bool b)=>K (a==b)
   |.bl b=>K (a==b)
   |_=>False)
  |.bl a=>(match b with
   |.sc (.bool b)=>K (a==b)
   |.bl b=>K (a==b)
   |_=>False)
  |_=>False)
 |.str=>(match a with
  |.str a=>(match b with | .str b=>K (a==b)|_=>False)
  |_=>False)
 |.iface=>(match a with
  |.sc .nilIface=>(match b with
   |.sc (.iface _ _)=>K false
   |.sc .nilIface=>K true
   |_=>False)
  |.sc (.iface _ _)=>(match b with
   |.sc .nilIface=>K false
   |_=>False)
  |_=>False)
 |.ptr _=>(match a with
  |.sc (.pointer none)=>(match b with
   |.sc (.pointer none)=>K true
   |_=>False)
  |_=>False)
 |_=>False
def a46 (T:Tr) (l:t9) (i o:Nat) (ft:TypeId):Bool:=match J6 l [i] with
 |some (o',l')=>(match Nat.beq o o',Nat.beq l'.size (T.get ft).size,l'.isAgg,(T.get ft).lay.isAgg with
  |true,true,true,true=>true
  |true,true,false,false=>true
  |_,_,_,_=>false)
 |none=>false
def eqF (T:Tr) (eq:TypeId->DV->DV->(Bool->Prop)->Prop):List (Nat×TypeId)->Nat->DV->DV->(Bool->Prop)->Prop
 |[],_,_,_,K=>K true
 |(o,ft)::r,i,a,b,K=>match a46 T a.lay i o ft,a46 T b.lay i o ft with
  |true,true=>eq ft (a.part i) (b.part i) fun x=>eqF T eq r (i+1) a b fun y=>K (x&&y)
  |_,_=>False
def eqT (T:Tr):Nat->TypeId->DV->DV->(Bool->Prop)->Prop
 |0,_,_,_,_=>False
 |d+1,t,a,b,K=>match (T.get t).kind with
  |.arr n e=>(match a with
   |.ints k m l=>(match b with
    |.ints k' m' l'=>(match (T.get e).kind with
     |.int _=>(match S0 k k',Nat.beq n m,Nat.beq n m',(T.get t).eq with
      |true,true,true,true=>K (l==l')
      |_,_,_,_=>False)
     |_=>False)
    |_=>False)
   |_=>False)
  |.struct fs=>(match (T.get t).eq,a.lay.isAgg,b.lay.isAgg with
   |true,true,true=>eqF T (eqT T d) fs 0 a b K
   |_,_,_=>False)
  |tk=>eqS tk a b K
def b81 (T:Tr) (t:TypeId):AV->AV->(Bool->Prop)->Prop
 |x,y,K=>match x with
  |.dv a=>(match y with
   |.dv b=>eqT T 12 t a b K
   |.ptr _ _ _=>(match a,(T.get t).kind with | .sc (.pointer none),.ptr _=>K false|_,_=>False)
   |.rp _=>(match a,(T.get t).kind with | .sc (.pointer none),.ptr _=>K false|_,_=>False)
   |.ifc _ _=>(match a,(T.get t).kind with | .sc .nilIface,.iface=>K false|_,_=>False)
   |_=>False)
  |.ptr _ _ _=>(match y,(T.get t).kind with | .dv (.sc (.pointer none)),.ptr _=>K false|_,_=>False)
  |.rp _=>(match y,(T.get t).kind with | .dv (.sc (.pointer none)),.ptr _=>K false|_,_=>False)
  |.ifc _ _=>(match y,(T.get t).kind with | .dv (.sc .nilIface),.iface=>K false|_,_=>False)
  |_=>False
def isC:Operand->Bool
 |.const _=>true
 |_=>false
def f04 (x _y:AV) (cx cy:Bool):Bool:=match cx,cy with
 |false,false=>(match x with
  |.dv (.sc .nilIface)=>true
  |_=>false)
 |_,_=>false
def a47:AV->AV->Option Nat
 |.sl _ _ _ _ len,.dv (.sc (.slice none 0 0))=>some len
 |.dv (.roI _ l),.dv (.sc (.slice none 0 0))=>some l.length
 |.dv (.ro _ n _),.dv (.sc (.slice none 0 0))=>some n
 |_,_=>none
def Nl (T:Tr) (op:BinOp) (t:TypeId) (cx cy:Bool) (x y:AV) (K:AV->Prop):Prop :=
 match op with
 |.eql=>(match a47 x y with
  |some n=>(match (T.get t).kind with | .sli _=>K (.nq false n)|_=>False)
  |none=>(match f04 x y cx cy with|false=>b81 T t x y fun b=>K (.bl b)|true=>False))
 |.neq=>(match a47 x y with
  |some n=>(match (T.get t).kind with | .sli _=>K (.nq true n)|_=>False)
  |none=>(match f04 x y cx cy with|false=>b81 T t x y fun b=>K (.bl (!b))|true=>False))
 |.shl=>Dn x fun k a=>Dn y fun _ n=>0≤n/\K (.int k (k.wrap (a*2^(min n.toNat k.bits))))
 |.shr=>Dn x fun k a=>Dn y fun _ n=>0≤n/\K (.int k (a.fdiv (2^(min n.toNat k.bits))))
 |.add=>(match x with
  |.dv (.str a)=>(match y with
   |.dv (.str b)=>((a.length:Int)+b.length≤9223372036854775807)/\K (.dv (.str (a++b)))
   |_=>False)
  |x=>Ou x y fun k a b=>K (.int k (k.wrap (a+b))))
 |.sub=>Ou x y fun k a b=>K (.int k (k.wrap (a-b)))
 |.mul=>Ou x y fun k a b=>K (.int k (k.wrap (a*b)))
 |.quo=>Ou x y fun k a b=>b≠0/\K (.int k (k.wrap (a.tdiv b)))
 |.rem=>Ou x y fun k a b=>b≠0/\K (.int k (a.tmod b))
 |.and | .or | .xor | .andNot=>Ou x y fun k a b=>K (.int k (bits k op a b))
 |.lss=>Ou x y fun _ a b=>K (.bl (decide (a<b)))
 |.leq=>Ou x y fun _ a b=>K (.bl (decide (a≤b)))
 |.gtr=>Ou x y fun _ a b=>K (.bl (decide (a>b)))
 |.geq=>Ou x y fun _ a b=>K (.bl (decide (a≥b)))
def unK (op:UnOp) (x:AV) (K:AV->Prop):Prop :=
 match op with
 |.not=>(match x with
  |.dv (.sc (.bool b))=>K (.dv (.sc (.bool !b)))
  |.dv (.bl b)=>K (.bl !b)
  |_=>False)
 |.neg=>Dn x fun k n=>K (.int k (k.wrap (0-n)))
 |.xor=>Dn x fun k n=>K (.int k (bits k .xor (if k.signed then -1 else k.max) n))
 |_=>False
def b82 (o:Operand) (x:AV) (len:Int) (K:Nat->Prop):Prop :=
 match o with
 |.const (.int _ (.ofNat n))=>((n:Int)<len)/\K n
 |_=>Dn x fun _ i=>(0≤i/\i<len)/\K i.toNat
abbrev V7:=List Nat->List (Nat×j6)->AV->Prop
section ops
variable (T:Tr)
def Gh (t:TypeId):Option IntKind:=match (T.get t).kind with
 |.int k=>some k
 |_=>none
def Bm (t:TypeId) (l:t9):Bool:=match Nat.beq l.size (T.get t).size with
 |true=>(match l.isAgg,(T.get t).lay.isAgg with
  |true,true=>true
  |false,false=>true
  |_,_=>false)
 |false=>false
def f61 (t:TypeId) (H:Nat->j6) (a:AV) (K:V7):Prop :=
 match a with
 |.rp d=>(match Bm T t d.lay with|true=>K [] [] (.dv d)|false=>False)
 |.ptr b p l=>(match Bm T t l with
  |true=>(match H b with
   |.var x=>K [b] [] (x.at p)
   |.rowI k li=>(match p with|[i]=>K [b] [] (.int k (li.getD i 0))|[]=>(match l with | .arr n _=>K [b] [] (.dv (.ints k n li))|_=>False)|_=>False)
   |.frzI k l=>(match p with|[i]=>K [b] [] (.int k (l.getD i 0))|_=>False)
   |.row _ _ f | .frz _ _ f=>(match p with|i::q=>K [b] [] (.dv ((f i).at q))|_=>False)
   |_=>False)
  |false=>False)
 |_=>False
def f05 (t:TypeId) (H:Nat->j6) (a x:AV) (K:V7):Prop :=
 match a with
 |.ptr b p l=>(match Fb x,Bm T t x.lay,decide (x.lay=l) with
  |true,true,true=>(match H b with
   |.var y=>(match decide ((y.setP p (Z7 x)).lay=y.lay) with|true=>K [b] [(b,.var (y.setP p (Z7 x)))] .any|false=>False)
   |.rowI k l=>(match p with
    |[i]=>Dn x fun k' n=>(match S0 k k' with|true=>K [b] [(b,.rowI k (l.set i n))] .any|false=>False)
    |_=>False)
   |.row lay m f=>(match p,Z7 x with
    |i::q,.dv d=>(match (f i).setA q (.dv d) with
     |.dv e=>(match decide (e.lay=lay) with|true=>K [b] [(b,.row lay m fun j=>if j=i then e else f j)] .any|false=>False)
     |_=>False)
    |_,_=>False)
   |_=>False)
  |_,_,_=>False)
 |_=>False
def Sq (t:TypeId) (x:AV) (o:Operand) (i:AV) (K:V7):Prop :=
 match (T.get t).kind with
 |.arr n e=>(match x with
  |.ptr b p l=>(match l with
   |.arr m le=>(match Nat.beq n m,Bm T e le with
    |true,true=>b82 o i n fun j=>K [] [] (.ptr b (p++[j]) le)
    |_,_=>False)
   |_=>False)
  |.rp d=>(match d.lay with
   |.arr m le=>(match Nat.beq n m,Bm T e le with
    |true,true=>b82 o i n fun j=>K [] [] (.rp (d.part j))
    |_,_=>False)
   |_=>False)
  |_=>False)
 |.sli e=>(match x with
  |.sl b p le off len=>(match Bm T e le with
   |true=>b82 o i len fun j=>K [] [] (.ptr b (p++[f03 off j]) le)
   |false=>False)
  |.vs b off len=>(match Bm T e .one with
   |true=>b82 o i len fun j=>K [] [] (.ptr b [f03 off j] .one)
   |false=>False)
  |.dv (.roI k l)=>(match Bm T e .one with
   |true=>b82 o i l.length fun j=>K [] [] (.rp (.sc (.int k (l.getD j 0))))
   |false=>False)
  |.dv (.ro le n f)=>(match Bm T e le with
   |true=>b82 o i n fun j=>K [] [] (.rp (f j))
   |false=>False)
  |_=>False)
 |_=>False
def f06 (t:TypeId) (x:AV) (o:Operand) (i:AV) (K:V7):Prop :=
 match (T.get t).kind with
 |.arr n e=>(match x with
  |.dv d=>(match d.lay with
   |.arr m le=>(match Nat.beq n m,Bm T e le with
    |true,true=>b82 o i n fun j=>K [] [] (.dv (d.part j))
    |_,_=>False)
   |_=>False)
  |_=>False)
 |.str=>(match x with
  |.dv (.str l)=>b82 o i l.length fun j=>K [] [] (.int .u8 (l.getD j 0).toNat)
  |_=>False)
 |_=>False
def Nm (t:TypeId) (f:Nat) (l:t9) (K:t9->Prop):Prop :=
 match (T.get t).kind with
 |.struct fs=>(match fs[f]? with
  |some (o,ft)=>(match J6 l [f] with
   |some (o',l')=>(match Nat.beq o o',Bm T ft l',Nat.beq (T.get ft).size 0 with
    |true,true,false=>K l'
    |_,_,_=>False)
   |none=>False)
  |none=>False)
 |_=>False
def Ub (H:Nat->j6):AV->(List Nat->List (Nat×j6)->DV->Prop)->Prop
 |.dv d,K=>K [] [] d
 |.sl b p _ off len,K=>(match H b with
  |.rowI k l | .frzI k l=>(match p with|[]=>K [b] [(b,.frzI k l)] (.roI k ((l.drop off).take len))|_=>False)
  |.row lay n f | .frz lay n f=>(match p with|[]=>K [b] [(b,.frz lay n f)] (.ro lay len fun j=>f (f03 off j))|_=>False)
  |_=>False)
 |_,_=>False
def h28 (H:Nat->j6):List (Nat×j6)->Nat->j6
 |[],c=>H c
 |(b,x)::r,c=>h28 (fun c=>match Nat.beq c b with|true=>x|false=>H c) r c
def Pk:(Nat->j6)->List (Nat×AV)->(List Nat->List (Nat×j6)->List (Nat×DV)->Prop)->Prop
 |_,[],K=>K [] [] []
 |H,(i,x)::r,K=>Ub H (Z7 x) fun rd wr d=>Pk (h28 H wr) r fun rd' wr' ds=>K (rd++rd') (wr++wr') ((i,d)::ds)
termination_by structural _ ps=>ps
def Uc (k:IntKind) (n:Nat):List (Nat×AV)->List Int->(List Int->Prop)->Prop
 |[],l,K=>K l
 |(i,x)::r,l,K=>Dn x fun k' v=>match S0 k k',Nat.blt i n with
  |true,true=>Uc k n r (l.set i v) K
  |_,_=>False
def Lv:(Nat->DV)->List (Nat×DV)->Nat->DV
 |f,[]=>f
 |f,(i,d)::r=>Lv (fun j=>match Nat.beq j i with|true=>d|false=>f j) r
def a48 (n:Nat) (l:t9):List (Nat×DV)->Bool
 |[]=>true
 |(i,d)::r=>match Nat.blt i n,decide (d.lay=l) with
  |true,true=>a48 n l r
  |_,_=>false
def f62 (t:TypeId):List (Nat×AV)->AV->(AV->Prop)->Prop
 |[],x,K=>K x
 |(i,y)::r,x,K=>match Fb y with
  |true=>Nm T t i x.lay fun l=>(match decide (y.lay=l) with
   |true=>(match decide ((x.setP [i] (Z7 y)).lay=x.lay) with|true=>f62 t r (x.setP [i] (Z7 y)) K|false=>False)
   |false=>False)
  |false=>False
def f07 (t:TypeId) (parts:List (Nat×AV)) (H:Nat->j6) (K:V7):Prop :=
 match (T.get t).kind with
 |.arr n e=>(match (T.get t).zero with
  |.ints k m l=>(match Nat.beq n m,Bm T e .one with
   |true,true=>Uc k n parts l fun l=>K [] [] (.dv (.ints k n l))
   |_,_=>False)
  |.fam m la f=>Pk H parts fun rd wr ds=>(match Nat.beq n m,Bm T e la,a48 n la ds with
   |true,true,true=>K rd wr (.dv (.fam n la (Lv f ds)))
   |_,_,_=>False)
  |_=>False)
 |.struct _=>f62 T t parts (.dv (T.get t).zero) fun x=>K [] [] x
 |_=>False
def f63:Nat->List (Nat×AV)->(List AV->Prop)->Prop
 |_,[],K=>K []
 |i,(j,x)::r,K=>(match Nat.beq i j,Fb x,x.isAgg with
  |true,true,false=>f63 (i+1) r fun xs=>K (Z7 x::xs)
  |_,_,_=>False)
def Pl (key:Nat) (t:TypeId) (len:Nat) (H:Nat->j6) (parts:List (Nat×AV)) (K:V7):Prop :=
 match (T.get t).kind with
 |.sli e=>(match Nat.ble (len*(T.get e).size) 100000,Bm T e (T.get e).lay with
  |true,true=>(match (T.get e).zero with
   |.sc (.int k z)=>Uc k len parts (List.replicate len z) fun l=>K [] [(key,.rowI k l)] (.sl key [] .one 0 len)
   |_=>(Pk H parts fun rd wr ds=>(match a48 len (T.get e).lay ds with
    |true=>K rd (wr++[(key,.row (T.get e).lay len (Lv (fun _=>(T.get e).zero) ds))]) (.sl key [] (T.get e).lay 0 len)
    |_=>False))\/(f63 0 parts fun xs=>(match Nat.beq xs.length len,Nat.beq (T.get e).lay.size 1 with
     |true,true=>K [] [(key,.var (a35 xs))] (.vs key 0 len)
     |_,_=>False)))
  |_,_=>False)
 |_=>False
def j30 (t:TypeId) (H:Nat->j6) (x:AV) (K:List Nat->Int->Prop):Prop :=
 match (T.get t).kind with
 |.sli _=>(match x with
  |.dv (.roI _ l)=>K [] l.length
  |.dv (.ro _ n _)=>K [] n
  |.dv (.sc (.slice none 0 0))=>K [] 0
  |.sl _ _ _ _ len=>K [] len
  |.vs _ _ len=>K [] len
  |.slc _ _ len _=>K [] len
  |.emp=>K [] 0
  |_=>False)
 |.str=>(match x with
  |.dv (.str l)=>K [] l.length
  |_=>False)
 |.arr n _=>K [] n
 |.map _ _=>(match x with
  |.mp b=>(match H b with
   |.mp _ es=>K [b] es.length
   |_=>False)
  |.dv (.sc (.map none))=>K [] 0
  |_=>False)
 |_=>False
def i52 (k:IntKind) (H:Nat->j6) (t:TypeId) (x:AV):Option (List Int) :=
 match (T.get t).kind with
 |.sli _=>Wk k H x
 |.str=>(match k,x with
  |.u8,.dv (.str l)=>some (l.map fun b=>(b.toNat:Int))
  |_,_=>none)
 |_=>none
def a49 (key:Nat) (t:TypeId) (H:Nat->j6) (s x:AV) (K:V7):Prop :=
 match (T.get t).kind with
 |.sli e=>(match Bm T e .one,Nat.blt 0 (T.get e).bytes,(T.get e).zero with
  |true,true,.sc (.int k z)=>(match s with
   |.dv (.sc (.slice none 0 0))=>Dn x fun _ n=>(0≤n/\n*(T.get e).bytes≤140737488355328)/\K [] [(key,.rowI k (List.replicate n.toNat z))] (.sl key [] .one 0 n.toNat)
   |.emp=>Dn x fun _ n=>(0≤n/\n*(T.get e).bytes≤140737488355328)/\K [] [(key,.rowI k (List.replicate n.toNat z))] (.sl key [] .one 0 n.toNat)
   |.sl b p _ off len=>(match H b with
    |.rowI k' l=>(match p,S0 k k' with
     |[],true=>Dn x fun _ n=>(0≤n/\((len:Int)+n)*(T.get e).bytes≤140737488355328)/\K [b] [(b,.dead),(key,.rowI k ((l.drop off).take len++List.replicate n.toNat z))] (.sl key [] .one 0 (len+n.toNat))
     |_,_=>False)
    |_=>False)
   |_=>False)
  |_,_,_=>False)
 |_=>False
def f08 (t:TypeId):Bool:=match (T.get t).kind with
 |.int _=>true
 |_=>false
def c85 (key:Nat) (ts:List TypeId) (H:Nat->j6) (s x:AV) (K:V7):Prop :=
 match ts with
 |[t,t2]=>(match (T.get t).kind with
  |.sli e=>(match Bm T e (T.get e).lay,Nat.blt 0 (T.get e).bytes with
   |true,true=>(match Gh T e with
    |some k=>(match i52 T k H t2 x,Bm T e .one with
     |some m,true=>(match s with
      |.dv (.sc (.slice none 0 0))=>((m.length:Int)*(T.get e).bytes≤140737488355328)/\K (Bl x) [(key,.rowI k m)] (.sl key [] .one 0 m.length)
      |.emp=>((m.length:Int)*(T.get e).bytes≤140737488355328)/\K (Bl x) [(key,.rowI k m)] (.sl key [] .one 0 m.length)
      |.sl b p _ off len=>(match H b with
       |.rowI k' l=>(match p,S0 k k' with
        |[],true=>(((len:Int)+m.length)*(T.get e).bytes≤140737488355328)/\K (b::Bl x) [(b,.dead),(key,.rowI k ((l.drop off).take len++m))] (.sl key [] .one 0 (len+m.length))
        |_,_=>False)
       |_=>False)
      |.slc b off len c=>(match H b with
       |.rowI k' l=>(match S0 k k' with
        |true=>(0<c/\len+m.length≤c/\(((len:Int)+m.length)*(T.get e).bytes≤140737488355328))/\K (b::Bl x) [(b,.dead),(key,.rowI k ((l.drop off).take len++m))] (.slc key 0 (len+m.length) c)
        |false=>False)
       |_=>False)
      |_=>False)
     |_,_=>False)
    |none=>(match (T.get t2).kind with
     |.sli _=>(match c84 H x,Rb H x with
      |some (m,g),some la=>(match decide (la=(T.get e).lay) with
       |true=>(match s with
        |.dv (.sc (.slice none 0 0))=>((m:Int)*(T.get e).bytes≤140737488355328)/\K (Bl x) [(key,.row la m g)] (.sl key [] la 0 m)
        |.emp=>((m:Int)*(T.get e).bytes≤140737488355328)/\K (Bl x) [(key,.row la m g)] (.sl key [] la 0 m)
        |.sl b p _ off len=>(match H b with
         |.row la' _ f=>(match p,decide (la'=la) with
          |[],true=>(((len:Int)+m)*(T.get e).bytes≤140737488355328)/\K (b::Bl x) [(b,.dead),(key,.row la (len+m) fun j=>if j<len then f (off+j) else g (j-len))] (.sl key [] la 0 (len+m))
          |_,_=>False)
         |_=>False)
        |_=>False)
       |false=>False)
      |_,_=>False)
     |_=>False))
   |_,_=>False)
  |_=>False)
 |_=>False
def T9 (l:List Int) (at_:Nat) (m:List Int):List Int:=l.take at_++m++l.drop (at_+m.length)
def j31 (k:IntKind) (H:Nat->j6) (ts:List TypeId) (x:AV) (K:List Nat->List Int->Prop):Prop :=
 match ts with
 |[_,t2]=>(match i52 T k H t2 x with
  |some m=>K (Bl x) m
  |none=>False)
 |_=>False
def h29 (ts:List TypeId) (H:Nat->j6) (s x:AV) (K:V7):Prop :=
 match ts with
 |t::_=>(match (T.get t).kind with
  |.sli e=>(match Gh T e with
   |some k =>
    j31 T k H ts x fun rd m=>(match s with
     |.sl b p _ off len=>(match H b with
      |.rowI k' l=>(match p,S0 k k' with
       |[],true=>K (b::rd) [(b,.rowI k (T9 l off (m.take len)))] (.int .i64 (min m.length len:Nat))
       |_,_=>False)
      |.var y=>(match y.at p with
       |.dv (.ints k' n l)=>(match S0 k k',decide ((y.setP p (.dv (.ints k n (T9 l off (m.take len))))).lay=y.lay) with
        |true,true=>K (b::rd) [(b,.var (y.setP p (.dv (.ints k n (T9 l off (m.take len))))))] (.int .i64 (min m.length len:Nat))
        |_,_=>False)
       |_=>False)
      |_=>False)
     |_=>False)
   |none=>False)
  |_=>False)
 |_=>False
def Sr (key:Nat) (t:TypeId) (l c:AV) (K:V7):Prop :=
 match (T.get t).kind with
 |.sli e=>(match Bm T e (T.get e).lay with
  |true=>Dn l fun _ n=>Dn c fun _ m=>(0≤n/\n≤m/\m≤9223372036854775807/\m*(T.get e).bytes≤140737488355328) /\
   (match (T.get e).zero with
   |.sc (.int k z)=>K [] [(key,.rowI k (List.replicate n.toNat z))] (.sl key [] .one 0 n.toNat)\/(0<m/\K [] [(key,.rowI k (List.replicate n.toNat z))] (.slc key 0 n.toNat m.toNat))
   |z=>K [] [(key,.row (T.get e).lay n.toNat fun _=>z)] (.sl key [] (T.get e).lay 0 n.toNat))
  |false=>False)
 |_=>False
def Cf (len:Int) (lo hi:Option AV) (K:Int->Int->Prop):Prop :=
 let l (b:Int):Prop:=match lo with
  |none=>0≤b/\K 0 b
  |some x=>Dn x fun _ a=>(0≤a/\a≤b)/\K a b
 match hi with
 |none=>l len
 |some x=>Dn x fun _ b=>b≤len/\l b
def h30:AV->Bool
 |.sl .. | .dv (.roI ..) | .dv (.ro ..) | .dv (.sc (.slice none 0 0)) | .emp=>true
 |_=>false
def c86 (t:TypeId) (x:AV) (lo:Option AV) (hi:Option AV) (mx:AV) (K:V7):Prop :=
 match (T.get t).kind,hi with
 |.sli e,some hi=>(match lo,hi,mx with
  |none,.dv (.sc (.int _ (.ofNat 0))),.dv (.sc (.int _ (.ofNat 0)))=>(match h30 x with|true=>K [] [] .emp|false=>False)
  |some lo,hi,mx=>Dn lo fun _ a=>Dn hi fun _ c=>Dn mx fun _ d=>(0≤a/\a≤c/\c≤d)/\(match x with
   |.sl b p le off len=>(match Bm T e le with
    |true=>d≤len/\K [] [] (.sl b p le (off+a.toNat) (c-a).toNat)
    |false=>False)
   |.dv (.roI k l)=>(match Bm T e .one with
    |true=>d≤l.length/\K [] [] (.dv (.roI k ((l.drop a.toNat).take (c-a).toNat)))
    |false=>False)
   |_=>False)
  |_,_,_=>False)
 |_,_=>False
def f09 (t:TypeId) (H:Nat->j6) (x:AV) (lo hi mx:Option AV) (K:V7):Prop :=
 match mx with
 |some mx=>c86 T t x lo hi mx K
 |none=>(match (T.get t).kind with
  |.arr n e=>(match x with
   |.ptr b p l=>(match l with
    |.arr m le=>(match Nat.beq n m,Bm T e le with
     |true,true=>(Cf n lo hi fun a c=>K [] [] (.sl b p le a.toNat (c-a).toNat))\/(match H b,p with
      |.var (.dv (.ints k _ l)),[]=>Cf n lo hi fun a c=>K [b] [(b,.rowI k l)] (.sl b [] le a.toNat (c-a).toNat)
      |_,_=>False)
     |_,_=>False)
    |_=>False)
   |.rp (.ints k m l)=>(match Nat.beq n m,Bm T e .one with
    |true,true=>Cf n lo hi fun a c=>K [] [] (.dv (.roI k ((l.drop a.toNat).take (c-a).toNat)))
    |_,_=>False)
   |_=>False)
  |.sli e=>(match x with
   |.sl b p le off len=>(match Bm T e le with
    |true=>Cf len lo hi fun a c=>K [] [] (.sl b p le (off+a.toNat) (c-a).toNat)
    |false=>False)
   |.dv (.roI k l)=>(match Bm T e .one with
    |true=>Cf l.length lo hi fun a c=>K [] [] (.dv (.roI k ((l.drop a.toNat).take (c-a).toNat)))
    |false=>False)
   |.dv (.ro le n f)=>(match Bm T e le with
    |true=>Cf n lo hi fun a c=>K [] [] (.dv (.ro le (c-a).toNat fun j=>f (a.toNat+j)))
    |false=>False)
   |.dv (.sc (.slice none 0 0))=>Cf 0 lo hi fun _ _=>K [] [] (.dv (.sc (.slice none 0 0)))
   |.slc b off len c=>(match H b,Bm T e .one with
    |.rowI _ l,true=>Cf (match hi with|none=>(len:Int)|some _=>(c:Int)) lo hi fun a h=>((off:Int)+h≤l.length/\a<c)/\(K [b] [] (.sl b [] .one (off+a.toNat) (h-a).toNat)\/K [b] [] (.slc b (off+a.toNat) (h-a).toNat (c-a.toNat)))
    |_,_=>False)
   |_=>False)
  |.str=>(match x with
   |.dv (.str l)=>Cf l.length lo hi fun a c=>K [] [] (.dv (.str ((l.drop a.toNat).take (c-a).toNat)))
   |_=>False)
  |_=>False)
def a50 (key:Nat) (src dst:TypeId) (H:Nat->j6) (x:AV) (K:V7):Prop :=
 match (T.get dst).kind with
 |.int k=>(match (T.get src).kind with
  |.int _=>Dn x fun _ n=>K [] [] (.int k (k.wrap n))
  |_=>False)
 |.str=>(match (T.get src).kind with
  |.str=>(match x with
   |.dv (.str l)=>K [] [] (.dv (.str l))
   |_=>False)
  |.sli e=>(match Gh T e with
   |some .u8=>(match Wk .u8 H x with
    |some l=>K (Bl x) [] (.dv (.str (l.map fun n=>UInt8.ofNat n.toNat)))
    |none=>False)
   |_=>False)
  |_=>False)
 |.sli e=>(match (T.get src).kind with
  |.str=>(match x,Gh T e with
   |.dv (.str l),some .u8=>K [] [(key,.rowI .u8 (l.map fun b=>(b.toNat:Int)))] (.sl key [] .one 0 l.length)
   |_,_=>False)
  |.sli _=>(match Nat.beq src dst,Gh T e,x with
   |true,some .u8,.sl b [] la off (len+1)=>(match H b with
    |.rowI k l=>K [b] [(b,.frzI k l)] (.sl b [] la off (len+1))
    |_=>False)
   |_,_,_=>False)
  |_=>False)
 |_=>False
def Wl (t:TypeId) (H:Nat->j6) (x:AV) (K:V7):Prop :=
 match (T.get t).kind with
 |.arr n _=>(match Nat.blt 0 n with
  |true=>Ub H x fun rd wr d=>(match d with
   |.roI k l=>n≤l.length/\∃ l',l'=l.take n/\K rd wr (.rp (.ints k n l'))
   |_=>False)
  |false=>False)
 |_=>False
end ops
end Go.Eng

namespace Go.Eng
structure G1 where
 av:Nat->AV
 fact:(Nat->Option Obj)->Prop
instance:CoeFun G1 (fun _=>Nat->AV):=⟨G1.av⟩
inductive a59 where
 |unborn
 |nowhere
 |at (r o:Nat)
 deriving Inhabited
structure y6 where
 pl:Nat->a59
 lay:Nat->t9
 top:Nat->Nat
 rd:Nat->Nat->Option Value
 fx:Nat->Option Obj
def Iz:Value->Prop
 |.agg _ | .tuple _=>False
 |_=>True
def q5 (agg:Bool) (cs:List Value):Value:=if agg then .agg cs.toArray else cs.headD undef
abbrev Rd:=Nat->Nat->Option Value
def D1 (rd:Rd) (r o:Nat) (cs:List Value):Prop:=∀ j (h:j<cs.length),rd r (o+j)=some cs[j]
inductive u7 (rd:Rd):DV->List Value->Prop where
 |sc (v:Value) (h:Iz v):u7 rd (.sc v) [v]
 |bl (b:Bool):u7 rd (.bl b) [.bool b]
 |str (l:List UInt8):u7 rd (.str l) [.string ⟨⟨l⟩⟩]
 |ints (k:IntKind) (n:Nat) (l:List Int) (h:l.length=n):u7 rd (.ints k n l) (l.map (.int k))
 |nil:u7 rd .nil []
 |cons {d ds:DV} {cs cs':List Value} (h:u7 rd d cs) (h':u7 rd ds cs'):u7 rd (.cons d ds) (cs++cs')
 |fam (n:Nat) (l:t9) (f:Nat->DV) (css:Nat->List Value) (h:∀ i,i<n->u7 rd (f i) (css i)) (hl:∀ i,i<n->(f i).lay=l) :
   u7 rd (.fam n l f) ((List.range n).flatMap css)
 |roI (k:IntKind) (l:List Int) (r o c:Nat) (hc:l.length≤c) (h:D1 rd r o (l.map (.int k))):u7 rd (.roI k l) [.slice (some ⟨r,o,none⟩) l.length c]
 |roI0 (k:IntKind) (a:Option Addr) (c:Nat) (h:a=none->c=0):u7 rd (.roI k []) [.slice a 0 c]
 |ro (l:t9) (n:Nat) (f:Nat->DV) (css:Nat->List Value) (r o c:Nat) (hc:n≤c) (h:∀ i,i<n->u7 rd (f i) (css i)) (hl:∀ i,i<n->(f i).lay=l)
   (hr:∀ i,i<n->D1 rd r (o+i*l.size) (css i)):u7 rd (.ro l n f) [.slice (some ⟨r,o,none⟩) n c]
 |ro0 (l:t9) (f:Nat->DV) (a:Option Addr) (c:Nat) (h:a=none->c=0):u7 rd (.ro l 0 f) [.slice a 0 c]
inductive r6 (E:y6):AV->List Value->Prop where
 |dv {d:DV} {cs:List Value} (h:u7 E.rd d cs):r6 E (.dv d) cs
 |cons {x xs:AV} {cs cs':List Value} (h:r6 E x cs) (h':r6 E xs cs'):r6 E (.cons x xs) (cs++cs')
 |ptr (b:Nat) (p:List Nat) (l:t9) (r o off:Nat) (hp:E.pl b = .at r o) (hl:J6 (E.lay b) p=some (off,l)):r6 E (.ptr b p l) [.pointer (some ⟨r,o+off,none⟩)]
 |rp {d:DV} (r o:Nat) {cs:List Value} (h:u7 E.rd d cs) (hr:D1 E.rd r o cs):r6 E (.rp d) [.pointer (some ⟨r,o,none⟩)]
 |sl (b:Nat) (p:List Nat) (l:t9) (off len r o so n c:Nat) (hp:E.pl b = .at r o) (hl:J6 (E.lay b) p=some (so,.arr n l)) (hn:off+len≤n) (hc:len≤c)
   (ht:o+so+(off+c)*l.size≤E.top b):r6 E (.sl b p l off len) [.slice (some ⟨r,o+so+off*l.size,none⟩) len c]
 |sl0 (b:Nat) (p:List Nat) (l:t9) (off:Nat) (a:Option Addr) (so n:Nat) (hp:E.pl b ≠ .unborn) (hl:J6 (E.lay b) p=some (so,.arr n l)) (hn:off≤n):r6 E (.sl b p l off 0) [.slice a 0 0]
 |fn (f:FuncId) (caps:List AV) (css:List (List Value)) (hlen:css.length=caps.length) (h:∀ i (h:i<caps.length),r6 E caps[i] (css[i]'(hlen▸h))) :
   r6 E (.fn f caps) [.func (.func f) #[] ((caps.zip css).map fun x=>q5 x.1.isAgg x.2).toArray]
 |tup (xs:List AV) (css:List (List Value)) (hlen:css.length=xs.length) (h:∀ i (h:i<xs.length),r6 E xs[i] (css[i]'(hlen▸h))) :
   r6 E (.tup xs) [.tuple ((xs.zip css).map fun x=>q5 x.1.isAgg x.2).toArray]
 |mp (b r:Nat) (hp:E.pl b = .at r 0) (hl:E.lay b = .unit):r6 E (.mp b) [.map (some r)]
 |stamp (b n:Nat) (hp:E.pl b = .nowhere) (ht:E.top b=n):r6 E (.stamp b) [.int .i64 n]
 |yld (b r:Nat) (hp:E.pl b = .at r 0):r6 E (.yld b) [.func (.yield r) #[] #[]]
 |vs (b off len r o n c:Nat) (hp:E.pl b = .at r o) (hl:E.lay b=Wg n) (hn:off+len≤n) (hc:len≤c):r6 E (.vs b off len) [.slice (some ⟨r,o+off,none⟩) len c]
 |slc (b off len c r o n:Nat) (hp:E.pl b = .at r o) (hl:E.lay b = .arr n .one) (hn:off+len≤n) (hc:len≤c) (ht:o+(off+c)≤E.top b):r6 E (.slc b off len c) [.slice (some ⟨r,o+off,none⟩) len c]
 |emp (a:Option Addr):r6 E .emp [.slice a 0 0]
 |nq (neg:Bool) (n:Nat) (b:Bool) (h:b=true->n=0):r6 E (.nq neg n) [.bool (b != neg)]
 |ifc (t:TypeId) {x:AV} {cs:List Value} (h:r6 E x cs):r6 E (.ifc t x) [.iface t (q5 x.isAgg cs)]
def o0 (E:y6) (x:AV) (v:Value):Prop:=x = .any\/∃ cs,r6 E x cs/\v=q5 x.isAgg cs
def A5 (w:World):Rd:=fun r j=>w.cell? ⟨r,j,none⟩
def F1 (rd:Rd):List (DV×DV)->List MapEntry->Prop
 |[],[]=>True
 |(k,v)::es,m::ms=>(u7 rd k m.key.cells.toList/\m.key=q5 k.lay.isAgg m.key.cells.toList/\u7 rd v m.val.cells.toList/\m.val=q5 v.lay.isAgg m.val.cells.toList)/\F1 rd es ms
 |_,_=>False
def j6.own:j6->Bool
 |.var _ | .rowI .. | .row .. | .mp .. | .mpn .. | .lp .. => true
 |_=>false
def Fa (E:y6) (b:Nat) (w:World) (r o size:Nat):Prop :=
 o+size≤E.top b/\∀ j,o≤j->j<E.top b->(∃ v,w.cell? ⟨r,j,none⟩=some v)/\w.frozen? ⟨r,j,none⟩=false
def y9 (E:y6) (b:Nat) (w:World):j6->Prop
 |.dead=>True
 |.var x=>∃ r o cs,E.pl b = .at r o/\E.lay b=x.lay/\r6 E x cs/\D1 (A5 w) r o cs/\E.top b=o+cs.length/\Fa E b w r o cs.length
 |.rowI k l=>E.lay b = .arr l.length .one/\((E.pl b = .nowhere/\l=[])\/∃ r o,E.pl b = .at r o/\D1 (A5 w) r o (l.map (.int k))/\Fa E b w r o l.length)
 |.row lay n f=>E.lay b = .arr n lay/\((E.pl b = .nowhere/\n=0)\/∃ (r o:Nat) (css:Nat->List Value),E.pl b = .at r o/\(∀ i,i<n->u7 E.rd (f i) (css i))/\(∀ i,i<n->(f i).lay=lay) /\
   (∀ i,i<n->D1 (A5 w) r (o+i*lay.size) (css i))/\Fa E b w r o (n*lay.size))
 |.mp f es=>∃ r entries clock,E.pl b = .at r 0/\E.lay b = .unit/\E.top b=0/\w.heap[r]?=some (.map entries clock)/\F1 E.rd es entries.toList/\(∀ e,e∈es->f.has e.1=true)/\MapKept.Stamped entries clock
 |.mpn f es k c=>E.pl c = .nowhere/\∃ r entries clock,E.pl b = .at r 0/\E.lay b = .unit/\E.top b=0/\w.heap[r]?=some (.map entries clock)/\F1 E.rd es entries.toList/\(∀ e,e∈es->f.has e.1=true)/\MapKept.Stamped entries clock /\
   ∃ (j:Nat) (v:DV) (m:MapEntry),es[j]?=some (k,v)/\entries.toList[j]?=some m/\m.born=E.top c
 |.lp L s=>∃ r,E.pl b = .at r 0/\E.lay b = .unit/\E.top b=0/\w.heap[r]?=some (.loop (Lu L s))
 |.frzI k l=>E.lay b = .arr l.length .one/\((E.pl b = .nowhere/\l=[])\/∃ r o,E.pl b = .at r o/\D1 E.rd r o (l.map (.int k)))
 |.frz lay n f=>E.lay b = .arr n lay/\((E.pl b = .nowhere/\n=0)\/∃ (r o:Nat) (css:Nat->List Value),E.pl b = .at r o/\(∀ i,i<n->u7 E.rd (f i) (css i))/\(∀ i,i<n->(f i).lay=lay) /\
   (∀ i,i<n->D1 E.rd r (o+i*lay.size) (css i)))
structure Q9 (E:y6) (H:Nat->j6) (w:World):Prop where
 rd:∀ r j v,E.rd r j=some v->w.cell? ⟨r,j,none⟩=some v
 blk:∀ b,y9 E b w (H b)
 sep:∀ b b' r o r' o',b≠b'->(H b).own=true->(H b').own=true->E.pl b = .at r o->E.pl b' = .at r' o'->r≠r'
 apart:∀ b r o j v,(H b).own=true->E.pl b = .at r o->E.rd r j=some v->False
 old:∀ b r o,E.pl b = .at r o->r<w.heap.size
 born:∀ b,E.pl b = .unborn->H b = .dead
 fit:∀ b r o,E.pl b = .at r o->o+(E.lay b).size≤E.top b
 fx:∀ r o,E.fx r=some o->w.heap[r]?=some o
 fxa:∀ b r o ob,(H b).own=true->E.pl b = .at r o->E.fx r=some ob->False
structure Ext (E E':y6):Prop where
 pl:∀ b,E.pl b ≠ .unborn->E'.pl b=E.pl b
 lay:∀ b,E.pl b ≠ .unborn->E'.lay b=E.lay b
 top:∀ b,E.pl b ≠ .unborn->E'.top b=E.top b
 rd:∀ r j v,E.rd r j=some v->E'.rd r j=some v
 fx:E'.fx=E.fx
structure Mem (E:y6) (H:Nat->j6) (w:World) (E':y6) (w':World):Prop where
 os:w'.os=w.os
 tape:w'.tape=w.tape
 output:w'.output=w.output
 size:w.heap.size≤w'.heap.size
 same:∀ r,r<w.heap.size->(∀ b o,(H b).own=true->E.pl b = .at r o->False)->w'.heap[r]?=w.heap[r]?
 rd:∀ r j v,E'.rd r j=some v->E.rd r j=some v\/w.heap.size≤r\/∃ b o,(H b).own=true/\E.pl b = .at r o/\o≤j/\j<E.top b
 new:∀ b r o,E.pl b = .unborn->E'.pl b = .at r o->w.heap.size≤r\/∃ b' o',(H b').own=true/\E.pl b' = .at r o'/\o'≤o/\E'.top b≤E.top b'
def Pf (H:Nat->j6) (i:Nat) (x:j6):Nat->j6:=fun b=>if b=i then x else H b
def upds:(Nat->j6)->List (Nat×j6)->Nat->j6
 |H,[]=>H
 |H,(i,x)::r=>upds (Pf H i x) r
def GOK (E:y6) (G:G1):Prop:=(∀ g,o0 E (G g) (.pointer (some ⟨g,0,none⟩)))/\G.fact E.fx
def Ly (E:y6) (xs:List AV) (vs:List Value):Prop:=vs.length=xs.length/\∀ i (h:i<xs.length) (h':i<vs.length),o0 E xs[i] vs[i]
def a61 (P:Program) (f:FuncId):Prop:=∀ args w,(callFunc f args).run P w = .ok (.enter f args) w
structure q9 (E:y6) (H:Nat->j6) (w:World) (wr:List (Nat×j6)) (r:AV) (v:Value) (E':y6) (w':World):Prop where
 val:o0 E' r v
 rel:Q9 E' (upds H wr) w'
 ext:Ext E E'
 mem:Mem E H w E' w'
 born:∀ b,E.pl b = .unborn->E'.pl b ≠ .unborn->b∈wr.map (·.1)
 live:∀ b,(upds H wr b).own=true->(H b).own=true\/E.pl b = .unborn
 others:∀ b r o,(H b).own=true->E.pl b = .at r o->b ∉ wr.map (·.1)->w'.heap[r]?=w.heap[r]?
def Fn (P:Program) (G:G1) (f:FuncId) (args:List AV) (S:List (Nat×j6)) (r:AV) (wr:List (Nat×j6)):Prop :=
 a61 P f/\∀ E H w vs,Q9 E H w->GOK E G->(∀ x,x∈S->H x.1=x.2)->(∀ x,x∈wr->x.1∈S.map (·.1)\/E.pl x.1 = .unborn)->Ly E args vs ->
  Calls P f vs.toArray w fun e w'=>∃ v E',e = .returned v/\q9 E H w wr r v E' w'
end Go.Eng

namespace Go.Eng
section
variable (P:Program) (G:G1) (T:Tr)
def h53 (H:Nat->j6):AV->AV
 |.sl b p l off len=>(match H b with
  |.rowI k m | .frzI k m=>(match p with|[] => .dv (.roI k ((m.drop off).take len))|_ => .sl b p l off len)
  |.row lay _ f | .frz lay _ f=>(match p with|[] => .dv (.ro lay len fun j=>f (f03 off j))|_ => .sl b p l off len)
  |.var x=>(match x.at p with
   |.dv (.ints k _ m) => .dv (.roI k ((m.drop off).take len))
   |_ => .sl b p l off len)
  |_ => .sl b p l off len)
 |.slc b off len c=>(match H b with
  |.rowI k m | .frzI k m => .dv (.roI k ((m.drop off).take len))
  |_ => .slc b off len c)
 |.ptr b p l=>(match H b with
  |.var x=>(match x.at p with
   |.dv d=>(match decide (d.lay=l) with|true => .rp d|false => .ptr b p l)
   |_ => .ptr b p l)
  |_ => .ptr b p l)
 |x=>x
def DV.free:DV->Bool
 |.roI .. | .ro .. => false
 |.cons d ds=>(match d.free with|true=>ds.free|false=>false)
 |.fam .. => false
 |_=>true
def AV.free:AV->Bool
 |.dv d=>d.free
 |.cons x xs=>(match x.free with|true=>xs.free|false=>false)
 |.rp _=>false
 |.ifc _ x=>x.free
 |.fn .. => false
 |.stamp _=>false
 |.yld _=>false
 |.tup xs=>xs.all fun x=>match x with
  |.dv d=>d.free
  |.sl .. | .ptr .. | .mp _=>true
  |.vs .. | .emp | .slc .. => true
  |_=>false
 |_=>true
def j6.free:j6->Bool
 |.var x=>x.free
 |.rowI .. | .dead=>true
 |_=>false
def Dp:List Nat->Nat->Bool
 |[],_=>false
 |x::r,y=>match Nat.beq x y with
  |true=>true
  |false=>Dp r y
def Rj (H:Nat->j6):List Bool->List AV->List AV
 |[],xs=>xs
 |_::_,[]=>[]
 |b::m,x::r=>(match b with|true=>h53 H x|false=>x)::Rj H m r
def Jd:List Bool->List AV->List Nat
 |[],_=>[]
 |_::_,[]=>[]
 |b::m,x::r=>match b with|true=>x.refs++Jd m r|false=>Jd m r
def a75:j6->Bool
 |.dead=>true
 |_=>false
def SOK (H:Nat->j6) (lent:List Nat):List (Nat×j6)->Prop
 |[]=>True
 |(b,x)::S=>(Dp lent b=false/\H b=x)/\SOK H lent S
def a05:List (Nat×j6)->Bool
 |[]=>true
 |(_,x)::r=>match x.free with|true=>a05 r|false=>false
def Sx (H:Nat->j6) (S:List (Nat×j6)):List (Nat×j6)->Bool
 |[]=>true
 |(b,_)::r=>match Dp (S.map Prod.fst) b,a75 (H b) with
  |false,false=>false
  |_,_=>Sx H S r
def i59 (H:Nat->j6) (S:List (Nat×j6)) (lent:List Nat) (r:AV) (wr:List (Nat×j6)):Bool :=
 match lent with
 |[]=>Sx H S wr
 |_=>(match r.free,a05 wr with
  |true,true=>Sx H S wr
  |_,_=>false)
def h54 (x y:AV):Prop:=x=y\/(∃ la n f g,y = .dv (.ro la n f)/\x = .dv (.ro la n g)/\∀ j,j<n->g j=f j)\/(y = .dv (.sc (.slice none 0 0))/\((∃ k,x = .dv (.roI k []))\/∃ la f,x = .dv (.ro la 0 f)))
def a06:List AV->List AV->Prop
 |[],[]=>True
 |x::xs,y::ys=>h54 x y/\a06 xs ys
 |_,_=>False
def h55 (f:FuncId) (args:List AV) (H:Nat->j6) (m:List Bool) (S:List (Nat×j6)) (r:AV) (wr:List (Nat×j6)):Prop :=
 (∃ args',Fn P G f args' S r wr/\a06 args' (Rj H m args))/\SOK H (Jd m args) S/\i59 H S (Jd m args) r wr=true
def j38 (t:TypeId) (x:AV) (K:Int->Prop):Prop :=
 match (T.get t).kind with
 |.sli _=>(match x with
  |.dv (.sc (.slice none 0 0))=>K 0
  |.emp=>K 0
  |.slc _ _ _ c=>K c
  |_=>False)
 |_=>False
def j23 (key:Nat) (c:Call) (ρ:Operand->AV) (H:Nat->j6) (K:V7):Prop :=
 match c.callee with
 |.value g=>(match ρ g with
  |.fn f caps=>∃ m S r wr,h55 P G f (c.args.toList.map (fun x=>Z7 (ρ x))++caps) H m S r wr/\K (Jd m (c.args.toList.map (fun x=>Z7 (ρ x))++caps)++S.map Prod.fst) wr r
  |_=>False)
 |.builtin .len=>(match c.args.toList,c.argTypes.toList with|[x],[t]=>j30 T t H (ρ x) fun rd n=>K rd [] (.int .i64 n)|_,_=>False)
 |.builtin .append=>(match c.args.toList with|[s,x]=>(match c.argTypes.toList with|[t,t2]=>(match f08 T t2 with|true=>a49 T key t H (ρ s) (ρ x) K|false=>c85 T key c.argTypes.toList H (ρ s) (ρ x) K)|_=>False)|_=>False)
 |.builtin .min=>(match c.args.toList with|[x,y]=>(Dn (ρ x) fun k a=>Dn (ρ y) fun _ b=>K [] [] (.int k (if b<a then b else a)))|_=>False)
 |.builtin .cap=>(match c.args.toList,c.argTypes.toList with|[x],[t]=>j38 T t (ρ x) fun n=>K [] [] (.int .i64 n)|_,_=>False)
 |.builtin .copy=>(match c.args.toList with|[s,x]=>h29 T c.argTypes.toList H (ρ s) (ρ x) K|_=>False)
 |_=>False
def opK (key:Nat) (o:Op) (ρ:Operand->AV) (H:Nat->j6) (K:V7):Prop :=
 match o with
 |.move x | .assign x=>K [] [] (ρ x)
 |.pick c a b=>f60 (ρ c) fun t=>(match t with|true=>K [] [] (ρ a)|false=>K [] [] (ρ b))
 |.alloc t=>(match Nat.blt 0 (T.get t).size with|true=>K [] [(key,.var (.dv (T.get t).zero))] (.ptr key [] (T.get t).lay)|false=>False)
 |.box t x=>(match Fb (ρ x),decide ((ρ x).lay=(T.get t).lay) with|true,true=>K [] [(key,.var (Z7 (ρ x)))] (.ptr key [] (T.get t).lay)|_,_=>False)
 |.build t parts=>f07 T t (parts.toList.map fun (i,x)=>(i,ρ x)) H K
 |.buildSlice t len parts=>Pl T key t len H (parts.toList.map fun (i,x)=>(i,ρ x)) K
 |.load t a=>f61 T t H (ρ a) K
 |.store t a x=>f05 T t H (ρ a) (ρ x) K
 |.nilCheck x=>(match ρ x with | .ptr b p l=>K [] [] (.ptr b p l) | .rp d=>K [] [] (.rp d) | .fn f c=>K [] [] (.fn f c)|_=>False)
 |.binOp op t x y _=>Nl T op t (isC x) (isC y) (ρ x) (ρ y) fun v=>K [] [] v
 |.unOp op _ x=>unK op (ρ x) fun v=>K [] [] v
 |.convert s d x=>a50 T key s d H (ρ x) K
 |.makeSlice t l c=>Sr T key t (ρ l) (ρ c) K
 |.slice t x lo hi mx=>f09 T t H (ρ x) (lo.map ρ) (hi.map ρ) (mx.map ρ) K
 |.fieldAddr t x f=>(match ρ x with
  |.ptr b p l=>Nm T t f l fun l'=>K [] [] (.ptr b (p++[f]) l')
  |.rp d=>Nm T t f d.lay fun _=>K [] [] (.rp (d.part f))
  |_=>False)
 |.field t x f=>Nm T t f (ρ x).lay fun _=>K [] [] ((ρ x).part f)
 |.indexAddr t x i=>Sq T t (ρ x) i (ρ i) K
 |.index t x i=>f06 T t (ρ x) i (ρ i) K
 |.extract x i=>(match ρ x with | .tup xs=>(match xs[i]? with|some y=>K [] [] y|none=>False)|_=>False)
 |.call c=>j23 P G T key c ρ H K
 |.makeFunc fn first caps=>(match fn with
  |.func f=>(match first.toList,caps.toList.all (fun x=>Fb (ρ x)) with|[],true=>K [] [] (.fn f (caps.toList.map fun x=>Z7 (ρ x)))|_,_=>False)
  |_=>False)
 |.sliceToArrayPointer t x=>Wl T t H (ρ x) K
 |_=>False
def G2 (bs:List j6) (i:Nat):j6:=bs.getD i .dead
def ev (ts:List AV):Operand->AV
 |.tmp t=>ts.getD t .any
 |.const v=>Zy v
 |.global g=>G g
 |.func f => .fn f []
def Sy {α:Type}:List α->Nat->α->(List α->Prop)->Prop
 |[],_,_,_=>False
 |x::r,i,y,K=>match i with
  |0=>K (y::r)
  |i+1=>Sy r i y fun r'=>K (x::r')
def Hh:List j6->Nat->j6->(List j6->Prop)->Prop
 |[],i,y,K=>(match i with
  |0=>K [y]
  |i+1=>Hh [] i y fun r'=>K (.dead::r'))
 |x::r,i,y,K=>match i with
  |0=>K (y::r)
  |i+1=>Hh r i y fun r'=>K (x::r')
termination_by structural _ i=>i
def h56:Value->(Value->Prop)->Prop
 |.bool b,K=>K (.bool b)
 |.int k n,K=>K (.int k n)
 |.iface t v,K=>K (.iface t v)
 |v,K=>K v
def a76:DV->(DV->Prop)->Prop
 |.sc v,K=>h56 v fun v=>K (.sc v)
 |.bl b,K=>K (.bl b)
 |.str l,K=>K (.str l)
 |.ints k n l,K=>K (.ints k n l)
 |.nil,K=>K .nil
 |.cons d ds,K=>a76 d fun d=>a76 ds fun ds=>K (.cons d ds)
 |.fam n l f,K=>K (.fam n l f)
 |.roI k l,K=>K (.roI k l)
 |.ro l n f,K=>K (.ro l n f)
termination_by structural x=>x
def Ww:t9->(t9->Prop)->Prop
 |.one,K=>K .one
 |.unit,K=>K .unit
 |.pair a b,K=>Ww a fun a=>Ww b fun b=>K (.pair a b)
 |.arr n l,K=>Ww l fun l=>K (.arr n l)
termination_by structural x=>x
def Je:AV->(AV->Prop)->Prop
 |.any,K=>K .any
 |.dv d,K=>a76 d fun d=>K (.dv d)
 |.cons x xs,K=>Je x fun x=>Je xs fun xs=>K (.cons x xs)
 |.ptr b p l,K=>Ww l fun l=>K (.ptr b p l)
 |.rp d,K=>a76 d fun d=>K (.rp d)
 |.sl b p l o n,K=>Ww l fun l=>K (.sl b p l o n)
 |.fn f c,K=>K (.fn f c)
 |.tup xs,K=>K (.tup xs)
 |.mp b,K=>K (.mp b)
 |.stamp b,K=>K (.stamp b)
 |.yld b,K=>K (.yld b)
 |.vs b o n,K=>K (.vs b o n)
 |.slc b o n c,K=>K (.slc b o n c)
 |.emp,K=>K .emp
 |.nq g n,K=>K (.nq g n)
 |.ifc t x,K=>Je x fun x=>K (.ifc t x)
termination_by structural x=>x
def f17:j6->(j6->Prop)->Prop
 |.dead,K=>K .dead
 |.var x,K=>Je x fun x=>K (.var x)
 |.rowI k l,K=>K (.rowI k l)
 |.row l n f,K=>K (.row l n f)
 |.frzI k l,K=>K (.frzI k l)
 |.frz l n f,K=>K (.frz l n f)
 |.mp f es,K=>K (.mp f es)
 |.mpn f es k c,K=>K (.mpn f es k c)
 |.lp L s,K=>K (.lp L s)
def a77 (ts:List AV) (d:Option Nat) (x:AV) (K:List AV->Prop):Prop :=
 match d with
 |none=>K ts
 |some d=>Je x fun x=>Sy ts d x K
def wrK:List j6->List (Nat×j6)->(List j6->Prop)->Prop
 |bs,[],K=>K bs
 |bs,(i,b)::r,K=>f17 b fun b=>Hh bs i b fun bs'=>wrK bs' r K
termination_by structural _ wr=>wr
inductive Ex where
 |normal
 |exit (id:Nat)
 |goto (l:Nat)
 |ret
abbrev R0:=Ex->List AV->List j6->Prop
abbrev Kj:=List Nat×List Nat
def a78 (bs:List j6):List (Nat×j6)->Bool
 |[]=>true
 |(b,_)::r=>match a75 (G2 bs b),Nat.blt b bs.length with
  |true,true=>false
  |_,_=>a78 bs r
def a79 (all:List Oper) (o:Oper) (ts:List AV) (K:Bool->List AV->Prop):Prop :=
 match o.guard with
 |none=>K true ts
 |some (j,want)=>match (all.getD j default).dst with
  |none=>False
  |some d=>match ts.getD d .any with
   |.dv (.sc (.bool b))=>(match b,want with
    |true,true=>K true ts
    |false,false=>K true ts
    |_,_=>K false ts)
   |.dv (.bl b)=>split b fun b'=>Sy ts d (.dv (.sc (.bool b'))) fun ts=>(match b',want with
    |true,true=>K true ts
    |false,false=>K true ts
    |_,_=>K false ts)
   |.tup []=>K false ts
   |_=>False
def Wx:Op->Nat
 |.store .. => 1
 |.buildSlice .. => 1
 |.makeSlice .. => 2
 |.mapUpdate .. => 1
 |.insert .. => 1
 |.mapEntry .. => 1
 |.entryStore .. => 1
 |.slice .. => 2
 |.convert .. => 2
 |.call c=>(match c.callee with
  |.builtin b=>(match b with
   |.append=>2
   |.copy=>2
   |.delete=>1
   |_=>0)
  |_=>0)
 |_=>0
def h57 (m:Nat) (x:j6) (K:j6->Prop):Prop:=match m with
 |0=>K x
 |m+1=>match x with
  |.row la n f=>∃ n' g,(n'=n/\∀ j,j<n->g j=f j)/\K (.row la n' g)
  |.rowI k l=>(match m with
   |0=>K (.rowI k l)
   |_+1=>∃ l',l'=l/\K (.rowI k l'))
  |.mp f es=>∃ es',es'=es/\K (.mp f es')
  |.mpn f es k c=>∃ es',es'=es/\K (.mpn f es' k c)
  |x=>K x
def d77 (m:Nat):List (Nat×j6)->(List (Nat×j6)->Prop)->Prop
 |[],K=>K []
 |(b,x)::r,K=>h57 m x fun y=>d77 m r fun r'=>K ((b,y)::r')
def c24 (m:Nat) (x:AV) (K:AV->Prop):Prop:=match m with
 |2=>(match x with
  |.sl b p l off len=>∃ off' len',(off'=off/\len'=len)/\K (.sl b p l off' len')
  |.dv d=>(match d with
   |.str l=>∃ l',l'=l/\K (.dv (.str l'))
   |.roI k l=>∃ l',l'=l/\K (.dv (.roI k l'))
   |.ro la n f=>∃ n' g,(n'=n/\∀ j,j<n->g j=f j)/\K (.dv (.ro la n' g))
   |d=>K (.dv d))
  |x=>K x)
 |_=>K x
def f18:Op->Bool
 |.buildSlice .. => true
 |.makeSlice .. => true
 |.convert .. => true
 |.extract .. => true
 |.call _=>true
 |_=>false
def d78 (m:Bool) (H:Nat->j6) (rd:List Nat) (wr:List (Nat×j6)) (v:AV) (K:V7):Prop:=match m with
 |true=>(match v with
  |.sl b p la off len=>K rd wr (.sl b p la off len)\/Ub (h28 H wr) (.sl b p la off len) fun rd' wr' d=>c24 2 (.dv d) fun v=>K (rd++rd') (wr++wr') v
  |v=>K rd wr v)
 |false=>K rd wr v
abbrev Co:=Nat->List (List AV)->List AV->(Bool->List j6->Prop)->List j6->Prop
def noY:Co:=fun _ _ _ _ _=>False
def c25 (ρ:Operand->AV):Op->Option (Nat×List AV)
 |.call c=>(match c.callee with
  |.value g=>(match ρ g with
   |.yld yb=>some (yb,c.args.toList.map fun x=>Z7 (ρ x))
   |_=>none)
  |_=>none)
 |_=>none
def a80 (O:List (List AV)) (Y:Co) (all:List Oper):List Oper->List AV->List j6->List Kj->(List AV->List j6->List Kj->Prop)->Prop
 |[],ts,bs,fs,K=>K ts bs fs
 |o::r,ts,bs,fs,K=>a79 all o ts fun b ts=>(match b with
  |true=>(match c25 (ev G ts) o.op with
   |some (yb,args)=>Y yb (ts::O) args (fun b bs'=>a77 ts o.dst (.dv (.sc (.bool b))) fun ts'=>a80 O Y all r ts' bs' (([],[])::fs) K) bs
   |none=>opK P G T bs.length o.op (ev G ts) (G2 bs) fun rd wr v=>d77 (Wx o.op) wr fun wr=>c24 (Wx o.op) v fun v=>d78 (f18 o.op) (G2 bs) rd wr v fun rd wr v=>(match a78 bs wr with
    |true=>a77 ts o.dst v fun ts'=>wrK bs wr fun bs'=>a80 O Y all r ts' bs' ((rd,wr.map Prod.fst)::fs) K
    |false=>False))
  |false=>a77 ts o.dst (.tup []) fun ts'=>a80 O Y all r ts' bs (([],[])::fs) K)
def X2 (o:Oper):List Nat:=o.after.toList.filterMap fun e=>match Region.binds .any e with
 |true=>some e.on
 |false=>none
def d79:List Nat->List Nat->List Nat
 |[],a=>a
 |x::r,a=>match Dp a x with
  |true=>d79 r a
  |false=>d79 r (x::a)
def a81 (acc:List (List Nat)):List Nat->List Nat->List Nat
 |[],a=>a
 |e::r,a=>match Dp a e with
  |true=>a81 acc r a
  |false=>a81 acc r (d79 (acc.getD e []) (e::a))
def Up:List Oper->List (List Nat)->List (List Nat)
 |[],acc=>acc
 |o::r,acc=>Up r (acc++[a81 acc (X2 o) []])
def Px (all:List Oper) (o:Oper):List Nat :=
 (o.op.operands.toList.filterMap fun x=>match x with | .tmp t=>some t|_=>none) ++
 (match o.guard with
  |some (g,_)=>(match (all.getD g default).dst with|some d=>[d]|none=>[])
  |none=>[])
def c26 (a b:List Nat):Bool:=match a with
 |[]=>false
 |x::r=>match Dp b x with
  |true=>true
  |false=>c26 r b
def i60 (d:Option Nat) (l:List Nat):Bool:=match d with
 |some d=>Dp l d
 |none=>false
def h59 (d e:Option Nat):Bool:=match d,e with
 |some d,some e=>Nat.beq d e
 |_,_=>false
def Ym (all:List Oper) (oi:Oper) (fi:Kj) (oj:Oper) (fj:Kj):Bool :=
 match i60 oi.dst (Px all oj),i60 oj.dst (Px all oi),h59 oi.dst oj.dst,c26 fi.2 fj.1,c26 fi.2 fj.2,c26 fi.1 fj.2 with
 |false,false,false,false,false,false=>false
 |_,_,_,_,_,_=>true
def Kq (all:List Oper) (oj:Oper) (fj:Kj) (anc:List Nat):Nat->List Oper->List Kj->Bool
 |_,[],_=>true
 |_,_::_,[]=>true
 |i,oi::os,fi::fs=>match Dp anc i with
  |true=>Kq all oj fj anc (i+1) os fs
  |false=>(match Ym all oi fi oj fj with
   |true=>false
   |false=>Kq all oj fj anc (i+1) os fs)
def Uq (j:Nat):List Nat->Bool
 |[]=>true
 |e::r=>match Nat.blt e j with
  |true=>Uq j r
  |false=>false
def d00 (all:List Oper) (fs:List Kj) (an:List (List Nat)):Nat->List Oper->Bool
 |_,[]=>true
 |j,oj::r=>match Uq j (X2 oj),Kq all oj (fs.getD j ([],[])) (an.getD j []) 0 (all.take j) fs with
  |true,true=>d00 all fs an (j+1) r
  |_,_=>false
def f76 (all:List Oper) (fs:List Kj):Bool:=d00 all fs (Up all []) 0 all
def Py (K':List AV->List j6->Prop) (K:R0):R0
 |.normal,ts,bs=>K' ts bs
 |.exit i,ts,bs=>K (.exit i) ts bs
 |.goto i,ts,bs=>K (.goto i) ts bs
 |.ret,ts,bs=>K .ret ts bs
def d01 (id:Nat) (K:R0):R0
 |.normal,ts,bs=>K .normal ts bs
 |.exit i,ts,bs=>match Nat.beq i id with
  |true=>K .normal ts bs
  |false=>K (.exit i) ts bs
 |.goto i,ts,bs=>K (.goto i) ts bs
 |.ret,ts,bs=>K .ret ts bs
def q8:List (Nat×Nat)->Nat->Nat
 |[],b=>b
 |(i,j)::r,b=>match Nat.beq b i with
  |true=>j
  |false=>q8 r b
def AV.ren1 (σ:List (Nat×Nat)):AV->AV
 |.ptr b p l => .ptr (q8 σ b) p l
 |.sl b p l o n => .sl (q8 σ b) p l o n
 |.mp b => .mp (q8 σ b)
 |.vs b o n => .vs (q8 σ b) o n
 |.slc b o n c => .slc (q8 σ b) o n c
 |x=>x
def AV.ren (σ:List (Nat×Nat)):AV->AV
 |.ptr b p l => .ptr (q8 σ b) p l
 |.sl b p l o n => .sl (q8 σ b) p l o n
 |.mp b => .mp (q8 σ b)
 |.stamp b => .stamp (q8 σ b)
 |.yld b => .yld (q8 σ b)
 |.vs b o n => .vs (q8 σ b) o n
 |.slc b o n c => .slc (q8 σ b) o n c
 |.cons x xs => .cons (x.ren σ) (xs.ren σ)
 |.ifc t x => .ifc t (x.ren σ)
 |.fn f caps => .fn f (caps.map (AV.ren1 σ))
 |.tup xs => .tup (xs.map (AV.ren1 σ))
 |x=>x
def j6.ren (σ:List (Nat×Nat)):j6->j6
 |.var x => .var (x.ren σ)
 |.mpn f es k c => .mpn f es k (q8 σ c)
 |x=>x
def AV.inB1 (p:Nat->Bool):AV->Bool
 |.ptr b _ _=>p b
 |.sl b _ _ _ _=>p b
 |.mp b=>p b
 |.vs b _ _=>p b
 |.slc b _ _ _=>p b
 |.dv _=>true
 |.rp _=>true
 |.any=>true
 |.emp=>true
 |_=>false
def d80 (p:Nat->Bool):List AV->Bool
 |[]=>true
 |x::r=>match x.inB1 p with|true=>d80 p r|false=>false
def AV.inB (p:Nat->Bool):AV->Bool
 |.ptr b _ _=>p b
 |.sl b _ _ _ _=>p b
 |.mp b=>p b
 |.stamp b=>p b
 |.yld b=>p b
 |.vs b _ _=>p b
 |.slc b _ _ _=>p b
 |.cons x xs=>(match x.inB p with|true=>xs.inB p|false=>false)
 |.ifc _ x=>x.inB p
 |.fn _ caps=>d80 p caps
 |.tup xs=>d80 p xs
 |_=>true
def j6.inB (p:Nat->Bool):j6->Bool
 |.var x=>x.inB p
 |.mpn _ _ _ c=>p c
 |_=>true
def Yn (n:Nat):Nat->Bool:=fun b=>Nat.blt b n
def h60 (σ:List (Nat×Nat)) (n:Nat):Nat->Bool:=fun b=>match Nat.blt b n with|true=>Nat.beq (q8 σ b) b|false=>false
def Nr {α:Type}:List (Nat×α)->Nat->Option α
 |[],_=>none
 |(i,v)::r,j=>match Nat.beq j i with
  |true=>some v
  |false=>Nr r j
def Pz (D:List Nat) (U:List (Nat×AV)):Nat->List AV->(List AV->Prop)->Prop
 |_,[],K=>K []
 |i,x::r,K=>match Nr U i with
  |some v=>Je v fun v=>Pz D U (i+1) r fun r'=>K (v::r')
  |none=>(match Dp D i with
   |true=>Pz D U (i+1) r fun r'=>K (.any::r')
   |false=>Pz D U (i+1) r fun r'=>K (x::r'))
termination_by structural _ ts=>ts
def Sz (B:List (Nat×j6)):Nat->List j6->(List j6->Prop)->Prop
 |_,[],K=>K []
 |i,x::r,K=>match Nr B i with
  |some v=>f17 v fun v=>Sz B (i+1) r fun r'=>K (v::r')
  |none=>Sz B (i+1) r fun r'=>K (x::r')
termination_by structural _ bs=>bs
def Yo (D:List Nat):Nat->List AV->List AV
 |_,[]=>[]
 |i,x::r=>(match Dp D i with|true => .any|false=>x)::Yo D (i+1) r
termination_by structural _ ts=>ts
def d81 (σ:List (Nat×Nat)) (bs1:List j6) (i:Nat) (x:j6):Prop:=match x with
 |.dead=>True
 |x=>bs1.getD (q8 σ i) .dead=x.ren σ
def eqB (σ:List (Nat×Nat)) (B:List (Nat×j6)) (bs1:List j6):Nat->List j6->Prop
 |_,[]=>True
 |i,x::r=>match Nr B i with
  |some v=>d81 σ bs1 i v/\eqB σ B bs1 (i+1) r
  |none=>d81 σ bs1 i x/\eqB σ B bs1 (i+1) r
termination_by structural _ bs=>bs
def eqU (σ:List (Nat×Nat)) (ts1:List AV):List (Nat×AV)->Prop
 |[]=>True
 |(i,v)::r=>(match v with | .any=>eqU σ ts1 r|v=>ts1.getD i .any=v.ren σ/\eqU σ ts1 r)
def Qa:Code->List Nat
 |.region _ ops _=>ops.toList.filterMap fun o=>o.dst
 |.seq a b=>Qa a++Qa b
 |.cond _ a b=>Qa a++Qa b
 |.block _ b=>Qa b
 |.loop b=>Qa b
 |.scope b=>Qa b
 |_=>[]
def Qb:List (Nat×j6)->List AV->List j6->(List AV->List j6->Prop)->Prop
 |[],ts,bs,K=>K ts bs
 |(t,x)::r,ts,bs,K=>match ts.getD t .any with
  |.dv (.sc (.slice none 0 0))=>(match x with
   |.rowI k l=>(match l with
    |[]=>Sy ts t (.sl bs.length [] .one 0 0) fun ts=>Hh bs bs.length (.rowI k []) fun bs=>Qb r ts bs K
    |_=>False)
   |.row l n f=>(match n with
    |0=>Sy ts t (.sl bs.length [] l 0 0) fun ts=>Hh bs bs.length (.row l 0 f) fun bs=>Qb r ts bs K
    |_=>False)
   |_=>False)
  |_=>False
def Qc:List (Nat×List Nat×j6)->List j6->(List j6->Prop)->Prop
 |[],bs,K=>K bs
 |(b,p,y)::r,bs,K=>match G2 bs b with
  |.var x=>(match x.at p,J6 x.lay p with
   |.dv (.sc (.slice none 0 0)),some (_,.one)=>(match y with
    |.rowI k l=>(match l with
     |[]=>(match decide ((x.setP p (.sl bs.length [] .one 0 0)).lay=x.lay) with
      |true=>Je (x.setP p (.sl bs.length [] .one 0 0)) fun x'=>Hh bs bs.length (.rowI k []) fun bs=>Hh bs b (.var x') fun bs=>Qc r bs K
      |false=>False)
     |_=>False)
    |.row la n f=>(match n with
     |0=>(match decide ((x.setP p (.sl bs.length [] la 0 0)).lay=x.lay) with
      |true=>Je (x.setP p (.sl bs.length [] la 0 0)) fun x'=>Hh bs bs.length (.row la 0 f) fun bs=>Hh bs b (.var x') fun bs=>Qc r bs K
      |false=>False)
     |_=>False)
    |_=>False)
   |_,_=>False)
  |_=>False
structure Fam (X:Type) where
 U:X->List (Nat×AV)
 B:X->List (Nat×j6)
 μ:X->Nat
def c27 (p:Nat->Bool) (D:List Nat) (U:List (Nat×AV)):Nat->List AV->Bool
 |_,[]=>true
 |i,x::r=>match Nr U i,Dp D i with
  |none,false=>(match x.inB p with|true=>c27 p D U (i+1) r|false=>false)
  |_,_=>c27 p D U (i+1) r
termination_by structural _ ts=>ts
def Ta (p:Nat->Bool):List (Nat×AV)->Bool
 |[]=>true
 |(_,v)::r=>match v.inB p with|true=>Ta p r|false=>false
def Wy (p:Nat->Bool) (B:List (Nat×j6)):Nat->List j6->Bool
 |_,[]=>true
 |i,x::r=>match Nr B i with
  |some v=>(match v.inB p with|true=>Wy p B (i+1) r|false=>false)
  |none=>(match x.inB p with|true=>Wy p B (i+1) r|false=>false)
termination_by structural _ bs=>bs
def a82:List Nat->Bool
 |[]=>true
 |x::r=>match Dp r x with|true=>false|false=>a82 r
def f77 (k:Nat):List (Nat×Nat)->Bool
 |[]=>true
 |(i,_)::r=>match Nat.ble k i with|true=>f77 k r|false=>false
def i61 (p:Nat->Bool):List (List AV)->Bool
 |[]=>true
 |ts::r=>match Ta p (ts.map fun x=>(0,x)) with|true=>i61 p r|false=>false
def j25 {X:Type} (F:Fam X) (k:Nat) (O:List (List AV)) (D:List Nat) (ts:List AV) (bs:List j6) (y:X) (σ:List (Nat×Nat)):Bool :=
 match Ta (Yn bs.length) (F.U y),Wy (Yn bs.length) (F.B y) 0 bs,c27 (h60 σ bs.length) D (F.U y) 0 ts,i61 (h60 σ bs.length) O with
 |true,true,true,true=>(match σ with
  |[]=>true
  |σ=>(match f77 k σ,a82 ((List.range bs.length).map (q8 σ)) with|true,true=>true|_,_=>false))
 |_,_,_,_=>false
def a83 {X:Type} (F:Fam X) (k:Nat) (O:List (List AV)) (D:List Nat) (ts:List AV) (bs:List j6) (ts1:List AV) (bs1:List j6) (y:X) (σ:List (Nat×Nat)):Prop :=
 Yo D 0 ts1=Yo D 0 ts/\eqU σ ts1 (F.U y)/\eqB σ (F.B y) bs1 0 bs/\j25 F k O D ts bs y σ=true
def l00 (k:Nat) (O:List (List AV)) (D:List Nat) (body:R0->List AV->List j6->Prop) (K:R0) (ts:List AV) (bs:List j6):Prop :=
 ∃ (Z:List Nat) (X:Type) (F:Fam X) (N:List (Nat×j6)) (M:List (Nat×List Nat×j6)) (x:X),Qb N ts bs fun ts bs=>Qc M bs fun bs =>
  a83 F k O (Z++D) ts bs ts bs x []/\∀ x,Pz (Z++D) (F.U x) 0 ts fun ts'=>Sz (F.B x) 0 bs fun bs' =>
   body (Py (fun ts1 bs1=>∃ y σ,a83 F k O (Z++D) ts bs ts1 bs1 y σ/\F.μ y<F.μ x) K) ts' bs'
def j39 (body:R0->List AV->List j6->Prop) (K:R0):Nat->List AV->List j6->Prop
 |0,_,_=>False
 |n+1,ts,bs=>body (Py (j39 body K n) K) ts bs
def h61 (k:Nat) (O:List (List AV)) (D:List Nat) (body:R0->List AV->List j6->Prop) (K:R0) (ts:List AV) (bs:List j6):Prop :=
 l00 k O D body K ts bs\/∃ n,j39 body K n ts bs
def d82:Nat->List j6->(List j6->Prop)->Prop
 |0,bs,K=>K bs
 |n+1,bs,K=>Hh bs bs.length .dead fun bs=>d82 n bs K
def Me (k:Nat) (O:List (List AV)) (D:List Nat) (go:R0->Prop) (K:R0) (ts:List AV) (bs:List j6):Prop :=
 go K\/∃ (Z:List Nat) (X:Type) (F:Fam X) (n:Nat),d82 n bs fun bs=>(∀ x,Pz (Z++D) (F.U x) 0 ts fun ts'=>Sz (F.B x) 0 bs fun bs'=>K .normal ts' bs') /\
  go (Py (fun ts1 bs1=>∃ (N:List (Nat×j6)) (M:List (Nat×List Nat×j6)),Qb N ts1 bs1 fun ts1 bs1=>Qc M bs1 fun bs1=>∃ y σ,a83 F k O (Z++D) ts bs ts1 bs1 y σ) K)
def J2:Code->Bool
 |.ret=>true
 |.exit _=>true
 |.goto _=>true
 |.seq a b=>(match J2 a with|true=>true|false=>J2 b)
 |.cond _ a b=>(match J2 a with|true=>J2 b|false=>false)
 |_=>false
def f78 (l:Nat) (N:List AV->List j6->Prop) (oth:Nat->List AV->List j6->Prop) (K:R0):R0
 |.normal,ts,bs=>K .normal ts bs
 |.exit i,ts,bs=>K (.exit i) ts bs
 |.goto i,ts,bs=>match Nat.beq i l with
  |true=>N ts bs
  |false=>oth i ts bs
 |.ret,ts,bs=>K .ret ts bs
def l01 (k:Nat) (O:List (List AV)) (D:List Nat) (body:R0->List AV->List j6->Prop) (l:Nat) (oth:Nat->List AV->List j6->Prop) (K:R0) (ts:List AV) (bs:List j6):Prop :=
 body (f78 l (fun _ _=>False) oth K) ts bs \/
 ∃ (Z:List Nat) (X:Type) (F:Fam X) (N:List (Nat×j6)) (M:List (Nat×List Nat×j6)) (x:X),Qb N ts bs fun ts bs=>Qc M bs fun bs =>
  a83 F k O (Z++D) ts bs ts bs x []/\∀ x,Pz (Z++D) (F.U x) 0 ts fun ts'=>Sz (F.B x) 0 bs fun bs' =>
   body (f78 l (fun ts1 bs1=>∃ y σ,a83 F k O (Z++D) ts bs ts1 bs1 y σ/\F.μ y<F.μ x) oth K) ts' bs'
def d83 (k:Nat) (O:List (List AV)) (D:List Nat) (body:Nat->R0->List AV->List j6->Prop) (K:R0):Nat->Nat->List AV->List j6->Prop
 |0,_,_,_=>False
 |n+1,l,ts,bs=>l01 k O D (body l) l (d83 k O D body K n) K ts bs
def f19 (J:Nat->List AV->List j6->Prop) (K:R0):R0
 |.normal,ts,bs=>K .normal ts bs
 |.exit i,ts,bs=>K (.exit i) ts bs
 |.goto i,ts,bs=>J i ts bs
 |.ret,ts,bs=>K .ret ts bs
def a84 (bs:List j6) (yb:Nat) (st:LSt) (K:List j6->Prop):Prop:=match G2 bs yb with
 |.lp L s=>(match s with
  |.busy=>Hh bs yb (.lp L st) K
  |_=>False)
 |_=>False
def d02 (bs:List j6) (yb:Nat) (K:List j6->Prop):Prop:=match G2 bs yb with
 |.lp L s=>(match s with
  |.ready=>Hh bs yb (.lp L .busy) K
  |_=>False)
 |_=>False
def g57 (yb:Nat) (Kc:Bool->List j6->Prop):R0
 |.normal,_,bs=>a84 bs yb .ready (Kc true)
 |.exit i,_,bs=>a84 bs yb (.done (.exit i)) (Kc false)
 |.goto l,_,bs=>a84 bs yb (.done (.goto l)) (Kc false)
 |.ret,_,bs=>a84 bs yb (.done .ret) (Kc false)
def f79:List AV->List Tmp->List AV->(List AV->Prop)->Prop
 |ts,[],[],K=>K ts
 |ts,p::ps,x::xs,K=>Je x fun x=>Sy ts p x fun ts=>f79 ts ps xs K
 |_,_,_,_=>False
def Wz (yb:Nat) (ts:List AV) (K:R0) (bs:List j6):Prop:=match G2 bs yb with
 |.lp _ s=>Hh bs yb .dead fun bs=>(match s with
  |.ready=>K .normal ts bs
  |.done c=>(match c with
   |.exit i=>K (.exit i) ts bs
   |.goto l=>K (.goto l) ts bs
   |.ret=>K .ret ts bs
   |_=>False)
  |.busy=>False)
 |_=>False
abbrev ItT:=FuncId->Nat->List (List AV)->List AV->Co->(List j6->Prop)->List j6->Prop
def j40:ItT:=fun _ _ _ _ _ _ _=>False
def Tb (L:Loop) (body:List (List AV)->R0->List AV->List j6->Prop) (assign:List (List AV)->R0->List AV->List j6->Prop) (yb:Nat) (ts:List AV) (ps:List Tmp):Co :=
 fun yb' O' args Kc bs=>match Nat.beq yb yb',G2 bs yb with
  |true,.lp L' s=>(match s with
   |.ready=>L'=L/\f79 ts ps args fun ts1 =>
    assign O' (Py (fun ts2 bs2=>d02 bs2 yb fun bs3=>body O' (g57 yb Kc) ts2 bs3) (fun _ _ _=>False)) ts1 bs
   |_=>False)
  |_,_=>False
def Kr (It:ItT) (k:Nat) (Y:Co) (ir:Bool):Code->List (List AV)->Option Nat->R0->List AV->List j6->Prop
 |.skip,_,none,K,ts,bs=>K .normal ts bs
 |.region _ ops d,O,none,K,ts,bs=>(match d with
  |false=>a80 P G T O Y ops.toList ops.toList ts bs [] fun ts bs _=>K .normal ts bs
  |true=>a80 P G T O noY ops.toList ops.toList ts bs [] fun ts bs fs=>(match f76 ops.toList fs.reverse with
   |true=>K .normal ts bs
   |false=>False))
 |.seq a b,O,none,K,ts,bs=>Kr It k Y ir a O none (Py (Kr It k Y ir b O none K) K) ts bs
 |.seq a b,O,some l,K,ts,bs=>(match (findLabel a l).isSome with
  |true=>Kr It k Y ir a O (some l) (Py (Kr It k Y ir b O none K) K) ts bs
  |false=>Kr It k Y ir b O (some l) K ts bs)
 |.cond c a b,O,none,K,ts,bs=>(match c with
  |.tmp t=>(match ts.getD t .any with
   |.dv (.sc (.bool b'))=>(match b' with|true=>Kr It k Y ir a O none K ts bs|false=>Kr It k Y ir b O none K ts bs)
   |.nq g n=>(match g with
    |false=>(match J2 a,J2 b with
     |false,false=>Me k O (Qa a++Qa b) (fun K=>(n=0->Kr It k Y ir a O none K ts bs)/\Kr It k Y ir b O none K ts bs) K ts bs
     |_,_=>(n=0->Kr It k Y ir a O none K ts bs)/\Kr It k Y ir b O none K ts bs)
    |true=>(match J2 a,J2 b with
     |false,false=>Me k O (Qa a++Qa b) (fun K=>Kr It k Y ir a O none K ts bs/\(n=0->Kr It k Y ir b O none K ts bs)) K ts bs
     |_,_=>Kr It k Y ir a O none K ts bs/\(n=0->Kr It k Y ir b O none K ts bs)))
   |.dv (.bl b')=>(match J2 a,J2 b with
    |false,false=>Me k O (t::(Qa a++Qa b)) (fun K=>split b' fun b''=>Sy ts t (.dv (.sc (.bool b''))) fun ts=>match b'' with|true=>Kr It k Y ir a O none K ts bs|false=>Kr It k Y ir b O none K ts bs) K ts bs
    |_,_=>split b' fun b''=>Sy ts t (.dv (.sc (.bool b''))) fun ts=>match b'' with|true=>Kr It k Y ir a O none K ts bs|false=>Kr It k Y ir b O none K ts bs)
   |_=>False)
  |.const (.bool b')=>(match b' with|true=>Kr It k Y ir a O none K ts bs|false=>Kr It k Y ir b O none K ts bs)
  |_=>False)
 |.block id b,O,none,K,ts,bs=>Me k O (Qa b) (fun K=>Kr It k Y ir b O none (d01 id K) ts bs) K ts bs
 |.loop b,O,none,K,ts,bs=>h61 k O (Qa b) (Kr It k Y ir b O none) K ts bs
 |.exit i,_,none,K,ts,bs=>K (.exit i) ts bs
 |.label _,_,none,K,ts,bs=>K .normal ts bs
 |.label l',_,some l,K,ts,bs=>(match l'==l with|true=>K .normal ts bs|false=>False)
 |.goto l,_,none,K,ts,bs=>K (.goto l) ts bs
 |.ret,_,none,K,ts,bs=>K .ret ts bs
 |.scope b,O,none,K,ts,bs=>Kr It k Y ir b O none (f19 (d83 k O (Qa b) (fun l=>Kr It k Y ir b O (some l)) K 4) K) ts bs
 |.rangeFunc g ps assign body,O,none,K,ts,bs=>(match ir,ev G ts g with
  |false,.fn f caps=>∀ L:Loop,Hh bs bs.length .dead fun bs0=>Hh bs0 bs0.length (.lp L .ready) fun bs1 =>
   It f k ([.yld bs0.length]::ts::O) (.yld bs0.length::caps) (Tb L (fun O'=>Kr It k Y true body O' none) (fun O'=>Kr It k Y true assign O' none) bs0.length ts ps.toList) (Wz bs0.length ts K) bs1
  |_,_=>False)
 |_,_,_,_,_,_=>False
termination_by structural c=>c
def vc (It:ItT) (k:Nat) (c:Code):R0->List AV->List j6->Prop:=Kr P G T It k noY false c [] none
def d03 (K:List j6->Prop):R0
 |.normal,_,bs=>K bs
 |.ret,_,bs=>K bs
 |_,_,_=>False
def itN:Nat->ItT
 |0=>j40
 |n+1=>fun f k O args Y K bs=>∃ fn c,(P.funcs[f]?=some fn/\fn.body=some c/\(fn.name == "runtime.NumGoroutine")=false/\fn.results = #[]) /\
  Kr P G T (itN n) k Y false c O none (d03 K) (args++List.replicate (fn.ntmps-args.length) .any) bs
end
end Go.Eng

namespace Go.Eng
theorem o6 (l:t9):J6 l []=some (0,l):=by cases l<;>rfl
theorem X3 (a b:t9) (p:List Nat):J6 (.pair a b) (0::p)=J6 a p:=rfl
theorem S2 (a b:t9) (i:Nat) (p:List Nat):J6 (.pair a b) ((i+1)::p)=match J6 b (i::p) with
  |some (o,l)=>some (a.size+o,l)
  |none=>none:=rfl
theorem O7 (n:Nat) (l:t9) (i:Nat) (p:List Nat):J6 (.arr n l) (i::p)=if i<n then (match J6 l p with
    |some (o,l')=>some (i*l.size+o,l')
    |none=>none) else none:=rfl
theorem Xa {L:t9}:∀ {i:Nat} {p:List Nat} {o:Nat} {l:t9},J6 L (i::p)=some (o,l) ->
  ∃ o1 l1 o2,J6 L [i]=some (o1,l1)/\J6 l1 p=some (o2,l)/\o=o1+o2:=by
 induction L with
 |one=>intro i p o l h;cases h
 |unit=>intro i p o l h;cases h
 |pair a b iha ihb =>
  intro i p o l h
  cases i with
  |zero=>rw [X3] at h;exact ⟨0,a,o,by rw [X3,o6],h,by omega⟩
  |succ i =>
   rw [S2] at h
   split at h
   ·rename_i o' l' hb
    cases h
    obtain ⟨o1,l1,o2,h1,h2,h3⟩:=ihb hb
    exact ⟨a.size+o1,l1,o2,by rw [S2,h1],h2,by omega⟩
   ·cases h
 |arr n l1 ih =>
  intro i p o l h
  rw [O7] at h
  split at h
  ·rename_i hi
   split at h
   ·rename_i o' l' hb
    cases h
    exact ⟨i*l1.size,l1,o',by rw [O7,if_pos hi,o6];rfl,hb,rfl⟩
   ·cases h
  ·cases h
theorem Qd {p:List Nat}:∀ {L:t9} {o1:Nat} {l1:t9} {q:List Nat} {o2:Nat} {l:t9},J6 L p=some (o1,l1)->J6 l1 q=some (o2,l)->J6 L (p++q)=some (o1+o2,l):=by
 induction p with
 |nil=>intro L o1 l1 q o2 l h h2;rw [o6] at h;cases h;simpa using h2
 |cons i p ih =>
  intro L o1 l1 q o2 l h h2
  obtain ⟨a,la,b,ha,hb,rfl⟩:=Xa h
  have hq:=ih hb h2
  clear ih h
  show J6 L (i::(p++q))=_
  induction L generalizing i a with
  |one=>cases ha
  |unit=>cases ha
  |pair x y ihx ihy =>
   cases i with
   |zero=>rw [X3,o6] at ha;cases ha;rw [X3,hq];simp
   |succ i =>
    rw [S2] at ha
    split at ha
    ·rename_i o' l' hy
     cases ha
     rw [S2,ihy i o' hy]
     simp;omega
    ·cases ha
  |arr n x ih =>
   rw [O7] at ha
   split at ha
   ·rename_i hi
    rw [o6] at ha
    cases ha
    rw [O7,if_pos hi,hq]
    simp;omega
   ·cases ha
theorem R1 {L:t9}:∀ {p:List Nat} {o:Nat} {l:t9},J6 L p=some (o,l)->o+l.size≤L.size:=by
 induction L with
 |one=>intro p o l h;cases p with
  |nil=>rw [o6] at h;cases h;simp
  |cons i p=>cases h
 |unit=>intro p o l h;cases p with
  |nil=>rw [o6] at h;cases h;simp
  |cons i p=>cases h
 |pair a b iha ihb =>
  intro p o l h
  cases p with
  |nil=>rw [o6] at h;cases h;simp
  |cons i p =>
   cases i with
   |zero=>rw [X3] at h;have:=iha h;simp only [t9.size];omega
   |succ i =>
    rw [S2] at h
    split at h
    ·rename_i o' l' hb
     cases h
     have:=ihb hb
     simp only [t9.size];omega
    ·cases h
 |arr n l1 ih =>
  intro p o l h
  cases p with
  |nil=>rw [o6] at h;cases h;simp
  |cons i p =>
   rw [O7] at h
   split at h
   ·rename_i hi
    split at h
    ·rename_i o' l' hb
     cases h
     have:=ih hb
     simp only [t9.size]
     have h2:(i+1)*l1.size≤n*l1.size:=Nat.mul_le_mul_right _ hi
     rw [Nat.add_mul,Nat.one_mul] at h2
     omega
    ·cases h
   ·cases h
theorem v6 (css:Nat->List Value) (s:Nat):∀ n,(∀ i,i<n->(css i).length=s)->((List.range n).flatMap css).length=n*s:=by
 intro n
 induction n with
 |zero=>intro _;simp
 |succ n ih =>
  intro h
  rw [List.range_succ,List.flatMap_append,List.length_append,ih fun i hi=>h i (by omega)]
  simp only [List.flatMap_cons,List.flatMap_nil,List.append_nil,h n (by omega)]
  rw [Nat.add_mul,Nat.one_mul]
theorem u7.len {rd:Rd} {d:DV} {cs:List Value} (h:u7 rd d cs):cs.length=d.lay.size:=by
 induction h with
 |ints k n l h=>simp [DV.lay,t9.size,h]
 |nil=>rfl
 |cons h h' ih ih'=>simp [DV.lay,t9.size,ih,ih']
 |fam n l f css h hl ih=>rw [v6 css l.size n fun i hi=>by rw [ih i hi,hl i hi]];rfl
 |_=>rfl
theorem r6.len {E:y6} {x:AV} {cs:List Value} (h:r6 E x cs):cs.length=x.lay.size:=by
 induction h with
 |dv h=>exact h.len
 |cons h h' ih ih'=>simp [AV.lay,t9.size,ih,ih']
 |_=>rfl
theorem u7.one {rd:Rd} {d:DV} {cs:List Value} (h:u7 rd d cs) (hl:d.lay = .one):∃ v,cs=[v]/\(Iz v):=by
 cases h<;>first|exact ⟨_,rfl,by assumption⟩|exact ⟨_,rfl,trivial⟩|cases hl
theorem u7.cells {rd:Rd} {d:DV} {cs:List Value} (h:u7 rd d cs):∀ v,v∈cs->Iz v:=by
 induction h with
 |sc v h=>intro u hu;rw [List.mem_singleton] at hu;rw [hu];exact h
 |ints k n l h=>intro u hu;rw [List.mem_map] at hu;obtain ⟨x,_,rfl⟩:=hu;trivial
 |nil=>intro u hu;cases hu
 |cons h h' ih ih'=>intro u hu;rcases List.mem_append.1 hu with hu|hu;exact ih u hu;exact ih' u hu
 |fam n l f css h hl ih =>
  intro u hu
  obtain ⟨i,hi,hu⟩:=List.mem_flatMap.1 hu
  exact ih i (List.mem_range.1 hi) u hu
 |_=>intro u hu;rw [List.mem_singleton] at hu;rw [hu];trivial
theorem Mf {α:Type} (a b:List α) (n m:Nat) (h:a.length=n):((a++b).drop (n+m))=b.drop m:=by
 subst h;rw [List.drop_append];simp
theorem Ij (css:Nat->List Value) (s:Nat):∀ n i,(∀ i,i<n->(css i).length=s)->i<n->(((List.range n).flatMap css).drop (i*s)).take s=css i:=by
 intro n
 induction n with
 |zero=>intro i _ hi;omega
 |succ n ih =>
  intro i h hi
  have hlen:=v6 css s n fun i hi=>h i (by omega)
  rw [List.range_succ,List.flatMap_append]
  simp only [List.flatMap_cons,List.flatMap_nil,List.append_nil]
  by_cases hin:i<n
  ·have hle:(i+1)*s≤n*s:=Nat.mul_le_mul_right _ hin
   rw [Nat.add_mul,Nat.one_mul] at hle
   rw [List.drop_append_of_le_length (by omega),List.take_append_of_le_length (by rw [List.length_drop];omega)]
   exact ih i (fun i hi=>h i (by omega)) hin
  ·obtain rfl:i=n:=by omega
   rw [List.drop_append,hlen,List.drop_eq_nil_of_le (Nat.le_of_eq hlen),Nat.sub_self,List.drop_zero,List.nil_append]
   rw [List.take_of_length_le (Nat.le_of_eq (h i hi))]
theorem u7.part {rd:Rd} {d:DV} {cs:List Value} (h:u7 rd d cs):∀ {i o:Nat} {l:t9},J6 d.lay [i]=some (o,l) ->
  u7 rd (d.part i) ((cs.drop o).take l.size)/\(d.part i).lay=l:=by
 induction h with
 |ints k n l h =>
  intro i o l' hl
  simp only [DV.lay,O7,o6] at hl
  split at hl
  ·rename_i hi
   cases hl
   simp only [t9.size,Nat.mul_one,DV.part,Nat.add_zero]
   refine ⟨?_,rfl⟩
   have hi':i<l.length:=by omega
   have e:((l.map (Value.int k)).drop i).take 1=[.int k (l.getD i 0)]:=by
    rw [List.drop_eq_getElem_cons (by simpa using hi')]
    simp [List.getD_eq_getElem?_getD,List.getElem?_eq_getElem hi']
   rw [e]
   exact .sc _ trivial
  ·cases hl
 |nil=>intro i o l hl;cases hl
 |cons h h' ih ih' =>
  rename_i d ds cs cs'
  intro i o l hl
  cases i with
  |zero =>
   simp only [DV.lay] at hl
   rw [X3,o6] at hl
   cases hl
   refine ⟨?_,rfl⟩
   simp only [List.drop_zero,DV.part]
   rw [←h.len,List.take_left]
   exact h
  |succ i =>
   simp only [DV.lay] at hl
   rw [S2] at hl
   split at hl
   ·rename_i o' l' hb
    cases hl
    rw [Mf _ _ _ _ h.len]
    exact ih' hb
   ·cases hl
 |fam n l f css h hl ih =>
  intro i o l' hl'
  simp only [DV.lay,O7,o6] at hl'
  split at hl'
  ·rename_i hi
   cases hl'
   simp only [DV.part,Nat.add_zero]
   rw [Ij css l.size n i (fun i hi=>by rw [(h i hi).len,hl i hi]) hi]
   exact ⟨h i hi,hl i hi⟩
  ·cases hl'
 |_=>intro i o l hl;cases hl
theorem Qe {α:Type} (cs:List α) (o1 o2 s1 s2:Nat) (h:o2+s2≤s1):(((cs.drop o1).take s1).drop o2).take s2=(cs.drop (o1+o2)).take s2:=by
 rw [List.drop_take,List.take_take,List.drop_drop]
 congr 1
 omega
theorem u7.at {rd:Rd} {p:List Nat}:∀ {d:DV} {cs:List Value},u7 rd d cs->∀ {o:Nat} {l:t9},J6 d.lay p=some (o,l) ->
  u7 rd (d.at p) ((cs.drop o).take l.size)/\(d.at p).lay=l:=by
 induction p with
 |nil =>
  intro d cs h o l hl
  rw [o6] at hl
  cases hl
  rw [List.drop_zero,←h.len,List.take_length]
  exact ⟨h,rfl⟩
 |cons i p ih =>
  intro d cs h o l hl
  obtain ⟨o1,l1,o2,h1,h2,rfl⟩:=Xa hl
  obtain ⟨hp,hpl⟩:=h.part h1
  have:=ih hp (by rw [hpl];exact h2)
  rw [Qe _ _ _ _ _ (R1 h2)] at this
  exact this
theorem r6.part {E:y6} {x:AV} {cs:List Value} (h:r6 E x cs):∀ {i o:Nat} {l:t9},J6 x.lay [i]=some (o,l) ->
  r6 E (x.part i) ((cs.drop o).take l.size)/\(x.part i).lay=l:=by
 induction h with
 |dv h=>intro i o l hl;obtain ⟨h1,h2⟩:=h.part hl;exact ⟨.dv h1,h2⟩
 |cons h h' ih ih' =>
  intro i o l hl
  cases i with
  |zero =>
   simp only [AV.lay] at hl
   rw [X3,o6] at hl
   cases hl
   refine ⟨?_,rfl⟩
   simp only [List.drop_zero,AV.part]
   rw [←h.len,List.take_left]
   exact h
  |succ i =>
   simp only [AV.lay] at hl
   rw [S2] at hl
   split at hl
   ·rename_i o' l' hb
    cases hl
    rw [Mf _ _ _ _ h.len]
    exact ih' hb
   ·cases hl
 |_=>intro i o l hl;cases hl
theorem r6.at {E:y6} {p:List Nat}:∀ {x:AV} {cs:List Value},r6 E x cs->∀ {o:Nat} {l:t9},J6 x.lay p=some (o,l) ->
  r6 E (x.at p) ((cs.drop o).take l.size)/\(x.at p).lay=l:=by
 induction p with
 |nil =>
  intro d cs h o l hl
  rw [o6] at hl
  cases hl
  rw [List.drop_zero,←h.len,List.take_length]
  exact ⟨h,rfl⟩
 |cons i p ih =>
  intro d cs h o l hl
  obtain ⟨o1,l1,o2,h1,h2,rfl⟩:=Xa hl
  obtain ⟨hp,hpl⟩:=h.part h1
  have:=ih hp (by rw [hpl];exact h2)
  rw [Qe _ _ _ _ _ (R1 h2)] at this
  exact this
def u5 (cs:List Value) (o:Nat) (cy:List Value):List Value:=cs.take o++cy++cs.drop (o+cy.length)
theorem Ns (x xs:AV):(mkCons x xs).lay = .pair x.lay xs.lay:=by
 unfold mkCons;split<;>rfl
theorem r6.dv_inv {E:y6} {d:DV} {cs:List Value} (h:r6 E (.dv d) cs):u7 E.rd d cs:=by cases h;assumption
theorem r6.mkCons {E:y6} {x xs:AV} {cs cs':List Value} (h:r6 E x cs) (h':r6 E xs cs'):r6 E (mkCons x xs) (cs++cs'):=by
 unfold Eng.mkCons
 split
 ·exact .dv (.cons h.dv_inv h'.dv_inv)
 ·exact .cons h h'
theorem Qf (a b cy:List Value) (o:Nat) (h:o+cy.length≤a.length):u5 (a++b) o cy=u5 a o cy++b:=by
 unfold u5
 rw [List.take_append_of_le_length (by omega),List.drop_append_of_le_length h]
 simp
theorem Hv (a b cy:List Value) (o:Nat):u5 (a++b) (a.length+o) cy=a++u5 b o cy:=by
 unfold u5
 rw [List.take_append,List.drop_append]
 simp [Nat.add_assoc,Nat.add_sub_cancel_left]
 rw [List.take_of_length_le (by omega),List.drop_eq_nil_of_le (by omega)]
 simp
theorem Yp (css:Nat->List Value) (c:List Value) (s:Nat):∀ n i,(∀ i,i<n->(css i).length=s)->c.length=s->i<n ->
  (List.range n).flatMap (fun j=>if j=i then c else css j)=u5 ((List.range n).flatMap css) (i*s) c:=by
 intro n
 induction n with
 |zero=>intro i _ _ hi;omega
 |succ n ih =>
  intro i h hc hi
  have hlen:=v6 css s n fun i hi=>h i (by omega)
  simp only [List.range_succ,List.flatMap_append,List.flatMap_cons,List.flatMap_nil,List.append_nil]
  by_cases hin:i<n
  ·have hle:(i+1)*s≤n*s:=Nat.mul_le_mul_right _ hin
   rw [Nat.add_mul,Nat.one_mul] at hle
   rw [Qf _ _ _ _ (by omega),ih i (fun i hi=>h i (by omega)) hc hin,if_neg (by omega)]
  ·obtain rfl:i=n:=by omega
   have e:(List.range i).flatMap (fun j=>if j=i then c else css j)=(List.range i).flatMap css:=by
    have:∀ (l:List Nat),(∀ j,j∈l->j≠i)->l.flatMap (fun j=>if j=i then c else css j)=l.flatMap css:=by
     intro l
     induction l with
     |nil=>intro _;rfl
     |cons x l ihl =>
      intro hl
      simp only [List.flatMap_cons]
      rw [if_neg (hl x (List.mem_cons_self ..)),ihl fun j hj=>hl j (List.mem_cons_of_mem _ hj)]
    exact this _ fun j hj=>by have:=List.mem_range.1 hj;omega
   rw [e,if_pos rfl]
   have:=Hv ((List.range i).flatMap css) (css i) c 0
   rw [hlen,Nat.add_zero] at this
   rw [this]
   unfold u5
   rw [List.drop_of_length_le (by rw [h i hi];omega)]
   simp
theorem Jf (k:IntKind) (l:List Int) (i:Nat) (x:Int) (h:i<l.length):(l.set i x).map (Value.int k)=u5 (l.map (Value.int k)) i [.int k x]:=by
 unfold u5
 rw [List.set_eq_take_append_cons_drop,if_pos h]
 simp [List.map_take,List.map_drop]
theorem Mg (cs cy:List Value) (o1 s1 o2:Nat) (h:o2+cy.length≤s1) (hs:o1+s1≤cs.length) :
  u5 cs o1 (u5 ((cs.drop o1).take s1) o2 cy)=u5 cs (o1+o2) cy:=by
 have hlen:(u5 ((cs.drop o1).take s1) o2 cy).length=s1:=by
  unfold u5
  simp only [List.length_append,List.length_take,List.length_drop]
  omega
 unfold u5 at hlen ⊢
 rw [hlen]
 have e1:((cs.drop o1).take s1).take o2=(cs.drop o1).take o2:=by rw [List.take_take];congr 1;omega
 have e2:((cs.drop o1).take s1).drop (o2+cy.length)=(cs.drop (o1+(o2+cy.length))).take (s1-(o2+cy.length)):=by
  rw [List.drop_take,List.drop_drop]
 rw [e1,e2]
 have e3:cs.take (o1+o2)=cs.take o1++(cs.drop o1).take o2:=by rw [List.take_add]
 have e4:cs.drop (o1+o2+cy.length)=(cs.drop (o1+(o2+cy.length))).take (s1-(o2+cy.length))++cs.drop (o1+s1):=by
  have:cs.drop (o1+s1)=(cs.drop (o1+(o2+cy.length))).drop (s1-(o2+cy.length)):=by rw [List.drop_drop];congr 1;omega
  rw [this,List.take_append_drop,Nat.add_assoc]
 rw [e3,e4]
 simp only [List.append_assoc]
theorem u7.setA {E:y6} {d:DV} {cs:List Value} (h:u7 E.rd d cs):∀ {p:List Nat} {o:Nat} {l:t9} {y:AV} {cy:List Value},J6 d.lay p=some (o,l) ->
  r6 E y cy->y.lay=l->(d.setA p y).lay=d.lay->r6 E (d.setA p y) (u5 cs o cy):=by
 induction h with
 |ints k n li hn =>
  intro p o l y cy hl hy hyl hz
  cases p with
  |nil =>
   rw [o6] at hl;cases hl
   have e:u5 (li.map (Value.int k)) 0 cy=cy:=by
    unfold u5;rw [List.take_zero,List.nil_append,Nat.zero_add,List.drop_of_length_le (by rw [hy.len,hyl];simp [DV.lay,t9.size,hn])];simp
   rw [e];exact hy
  |cons i p =>
   simp only [DV.lay,O7] at hl
   split at hl
   ·rename_i hi
    split at hl
    ·rename_i o' l' hb
     cases hl
     cases p with
     |nil =>
      rw [o6] at hb;cases hb
      simp only [DV.setA] at hz ⊢
      split at hz
      ·rename_i k' x _
       split at hz
       ·rename_i hk
        obtain rfl:=F4 hk
        cases hy.dv_inv
        simp only [t9.size,Nat.mul_one,Nat.add_zero]
        rw [←Jf k li i x (by omega)]
        exact .dv (.ints _ _ _ (by simpa using hn))
       ·cases hz
      ·cases hz
     |cons j p=>cases hb
    ·cases hl
   ·cases hl
 |nil =>
  intro p o l y cy hl hy hyl hz
  cases p with
  |nil =>
   rw [o6] at hl;cases hl
   have e:u5 [] 0 cy=cy:=by unfold u5;simp
   rw [e];exact hy
  |cons i p=>cases hl
 |cons h h' ih ih' =>
  rename_i d ds cs cs'
  intro p o l y cy hl hy hyl hz
  cases p with
  |nil =>
   rw [o6] at hl;cases hl
   have e:u5 (cs++cs') 0 cy=cy:=by
    unfold u5;rw [List.take_zero,List.nil_append,Nat.zero_add,List.drop_of_length_le (by rw [hy.len,hyl];simp [DV.lay,t9.size,h.len,h'.len])];simp
   rw [e];exact hy
  |cons i p =>
   have hcy:cy.length=l.size:=by rw [hy.len,hyl]
   cases i with
   |zero =>
    simp only [DV.lay] at hl
    rw [X3] at hl
    simp only [DV.setA] at hz ⊢
    rw [Ns] at hz
    injection hz with hz1 hz2
    rw [Qf _ _ _ _ (by rw [h.len,hcy];exact R1 hl)]
    exact (ih hl hy hyl hz1).mkCons (.dv h')
   |succ i =>
    simp only [DV.lay] at hl
    rw [S2] at hl
    split at hl
    ·rename_i o' l' hb
     cases hl
     simp only [DV.setA] at hz ⊢
     rw [Ns] at hz
     injection hz with hz1 hz2
     rw [←h.len,Hv]
     exact r6.mkCons (.dv h) (ih' hb hy hyl hz2)
    ·cases hl
 |fam n la f css h hla ih =>
  intro p o l y cy hl hy hyl hz
  cases p with
  |nil =>
   rw [o6] at hl;cases hl
   have e:u5 ((List.range n).flatMap css) 0 cy=cy:=by
    unfold u5;rw [List.take_zero,List.nil_append,Nat.zero_add,List.drop_of_length_le (by rw [hy.len,hyl,v6 css la.size n fun i hi=>by rw [(h i hi).len,hla i hi]];simp [DV.lay,t9.size])];simp
   rw [e];exact hy
  |cons i p =>
   have hcy:cy.length=l.size:=by rw [hy.len,hyl]
   simp only [DV.lay,O7] at hl
   split at hl
   ·rename_i hi
    split at hl
    ·rename_i o' l' hb
     cases hl
     simp only [DV.setA] at hz ⊢
     split at hz
     ·rename_i d' hd'
      split at hz
      ·rename_i hdl
       have hdl:=of_decide_eq_true hdl
       have hr:=ih i hi (p:=p) (y:=y) (by rw [hla i hi];exact hb) hy hyl (by rw [hd',hla i hi];exact hdl)
       rw [hd'] at hr
       have hr:=hr.dv_inv
       have hlen:∀ j,j<n->(css j).length=la.size:=fun j hj=>by rw [(h j hj).len,hla j hj]
       have hcs:=Ij css la.size n i hlen hi
       have e:u5 ((List.range n).flatMap css) (i*la.size+o') cy=(List.range n).flatMap (fun j=>if j=i then u5 (css i) o' cy else css j):=by
        have hs:(u5 (css i) o' cy).length=la.size:=by rw [hr.len,hdl]
        have hle:=R1 hb
        have h2:(i+1)*la.size≤n*la.size:=Nat.mul_le_mul_right _ hi
        rw [Nat.add_mul,Nat.one_mul] at h2
        rw [Yp css _ la.size n i hlen hs hi,←Mg _ cy (i*la.size) la.size o' (by omega) (by rw [v6 css la.size n hlen];exact h2),hcs]
       rw [e]
       refine .dv (.fam n la _ _ ?_ ?_)
       ·intro j hj
        by_cases e:j=i
        ·subst e;simp only [if_pos];exact hr
        ·simp only [if_neg e];exact h j hj
       ·intro j hj
        by_cases e:j=i
        ·subst e;simp only [if_pos];exact hdl
        ·simp only [if_neg e];exact hla j hj
      ·cases hz
     ·cases hz
    ·cases hl
   ·cases hl
 |_ =>
  intro p o l y cy hl hy hyl hz
  cases p with
  |nil =>
   rw [o6] at hl;cases hl
   unfold u5
   simp only [List.take_zero,List.nil_append,Nat.zero_add]
   rw [List.drop_of_length_le (by rw [hy.len,hyl];simp [DV.lay,t9.size]),List.append_nil]
   exact hy
  |cons i p=>cases hl
theorem r6.setP {E:y6} {x:AV} {cs:List Value} (h:r6 E x cs):∀ {p:List Nat} {o:Nat} {l:t9} {y:AV} {cy:List Value},J6 x.lay p=some (o,l) ->
  r6 E y cy->y.lay=l->(x.setP p y).lay=x.lay->r6 E (x.setP p y) (u5 cs o cy):=by
 have h0:∀ {x:AV} {cs:List Value},r6 E x cs->∀ {y:AV} {cy:List Value},r6 E y cy->y.lay=x.lay->u5 cs 0 cy=cy:=by
  intro x cs h y cy hy hyl
  unfold u5
  rw [List.take_zero,List.nil_append,Nat.zero_add,List.drop_of_length_le (by rw [hy.len,hyl,h.len];exact Nat.le_refl _),List.append_nil]
 induction h with
 |dv h =>
  intro p o l y cy hl hy hyl hz
  cases p with
  |nil =>
   rw [o6] at hl;cases hl
   rw [h0 (.dv h) hy hyl];exact hy
  |cons i p=>exact h.setA hl hy hyl hz
 |cons h h' ih ih' =>
  rename_i x xs cs cs'
  intro p o l y cy hl hy hyl hz
  cases p with
  |nil =>
   rw [o6] at hl;cases hl
   rw [h0 (.cons h h') hy hyl];exact hy
  |cons i p =>
   have hcy:cy.length=l.size:=by rw [hy.len,hyl]
   cases i with
   |zero =>
    simp only [AV.lay] at hl
    rw [X3] at hl
    simp only [AV.setP] at hz ⊢
    rw [Ns] at hz
    injection hz with hz1 hz2
    rw [Qf _ _ _ _ (by rw [h.len,hcy];exact R1 hl)]
    exact (ih hl hy hyl hz1).mkCons h'
   |succ i =>
    simp only [AV.lay] at hl
    rw [S2] at hl
    split at hl
    ·rename_i o' l' hb
     cases hl
     simp only [AV.setP] at hz ⊢
     rw [Ns] at hz
     injection hz with hz1 hz2
     rw [←h.len,Hv]
     exact r6.mkCons h (ih' hb hy hyl hz2)
    ·cases hl
 |_ =>
  intro p o l y cy hl hy hyl hz
  cases p with
  |nil =>
   rw [o6] at hl;cases hl
   unfold u5
   simp only [List.take_zero,List.nil_append,Nat.zero_add]
   rw [List.drop_of_length_le (by rw [hy.len,hyl];simp [AV.lay,t9.size]),List.append_nil]
   exact hy
  |cons i p=>cases hl
end Go.Eng

namespace Go.Eng
theorem u7.mono {rd rd':Rd} (hr:∀ r j v,rd r j=some v->rd' r j=some v) {d:DV} {cs:List Value} (h:u7 rd d cs):u7 rd' d cs:=by
 induction h with
 |sc v h=>exact .sc v h
 |bl b=>exact .bl b
 |str l=>exact .str l
 |ints k n l h=>exact .ints k n l h
 |nil=>exact .nil
 |cons h h' ih ih'=>exact .cons ih ih'
 |fam n l f css h hl ih=>exact .fam n l f css ih hl
 |roI k l r o c hc h=>exact .roI k l r o c hc fun j hj=>hr _ _ _ (h j hj)
 |roI0 k a c h=>exact .roI0 k a c h
 |ro l n f css r o c hc h hl hrd ih=>exact .ro l n f css r o c hc ih hl fun i hi j hj=>hr _ _ _ (hrd i hi j hj)
 |ro0 l f a c h=>exact .ro0 l f a c h
theorem r6.ext {E E':y6} (hE:Ext E E') {x:AV} {cs:List Value} (h:r6 E x cs):r6 E' x cs:=by
 induction h with
 |dv h=>exact .dv (h.mono hE.rd)
 |cons h h' ih ih'=>exact .cons ih ih'
 |ptr b p l r o off hp hl =>
  have hb:E.pl b ≠ .unborn:=by rw [hp];intro h;cases h
  exact .ptr b p l r o off (by rw [hE.pl b hb];exact hp) (by rw [hE.lay b hb];exact hl)
 |rp r o h hr=>exact .rp r o (h.mono hE.rd) fun j hj=>hE.rd _ _ _ (hr j hj)
 |sl b p l off len r o so n c hp hl hn hc ht =>
  have hb:E.pl b ≠ .unborn:=by rw [hp];intro h;cases h
  exact .sl b p l off len r o so n c (by rw [hE.pl b hb];exact hp) (by rw [hE.lay b hb];exact hl) hn hc (by rw [hE.top b hb];exact ht)
 |sl0 b p l off a so n hp hl hn=>exact .sl0 b p l off a so n (by rw [hE.pl b hp];exact hp) (by rw [hE.lay b hp];exact hl) hn
 |mp b r hp hl =>
  have hb:E.pl b ≠ .unborn:=by rw [hp];intro h;cases h
  exact .mp b r (by rw [hE.pl b hb];exact hp) (by rw [hE.lay b hb];exact hl)
 |stamp b n hp ht =>
  have hb:E.pl b ≠ .unborn:=by rw [hp];intro h;cases h
  exact .stamp b n (by rw [hE.pl b hb];exact hp) (by rw [hE.top b hb];exact ht)
 |yld b r hp =>
  have hb:E.pl b ≠ .unborn:=by rw [hp];intro h;cases h
  exact .yld b r (by rw [hE.pl b hb];exact hp)
 |vs b off len r o n c hp hl hn hc =>
  have hb:E.pl b ≠ .unborn:=by rw [hp];intro h;cases h
  exact .vs b off len r o n c (by rw [hE.pl b hb];exact hp) (by rw [hE.lay b hb];exact hl) hn hc
 |slc b off len c r o n hp hl hn hc ht =>
  have hb:E.pl b ≠ .unborn:=by rw [hp];intro h;cases h
  exact .slc b off len c r o n (by rw [hE.pl b hb];exact hp) (by rw [hE.lay b hb];exact hl) hn hc (by rw [hE.top b hb];exact ht)
 |emp a=>exact .emp a
 |nq g n b h=>exact .nq g n b h
 |fn f caps css hlen h ih=>exact .fn f caps css hlen ih
 |tup xs css hlen h ih=>exact .tup xs css hlen ih
 |ifc t h ih=>exact .ifc t ih
theorem o0.ext {E E':y6} (hE:Ext E E') {x:AV} {v:Value} (h:o0 E x v):o0 E' x v:=by
 rcases h with h|⟨cs,h,e⟩
 ·exact .inl h
 ·exact .inr ⟨cs,h.ext hE,e⟩
theorem Ext.refl (E:y6):Ext E E:=⟨fun _ _=>rfl,fun _ _=>rfl,fun _ _=>rfl,fun _ _ _ h=>h,rfl⟩
theorem Ext.trans {A B C:y6} (h:Ext A B) (k:Ext B C):Ext A C :=
 ⟨fun b hb=>(k.pl b (by rw [h.pl b hb];exact hb)).trans (h.pl b hb),fun b hb=>(k.lay b (by rw [h.pl b hb];exact hb)).trans (h.lay b hb),
  fun b hb=>(k.top b (by rw [h.pl b hb];exact hb)).trans (h.top b hb),fun _ _ _ hr=>k.rd _ _ _ (h.rd _ _ _ hr),k.fx.trans h.fx⟩
theorem GOK.ext {E E':y6} (hE:Ext E E') {G:G1} (h:GOK E G):GOK E' G:=⟨fun g=>(h.1 g).ext hE,by rw [hE.fx];exact h.2⟩
theorem Mem.refl (E:y6) (H:Nat->j6) (w:World):Mem E H w E w :=
 ⟨rfl,rfl,rfl,Nat.le_refl _,fun _ _ _=>rfl,fun _ _ _ h => .inl h,
  fun b r o h h'=>by rw [h] at h';cases h'⟩
theorem Mem.drew {E E':y6} {H:Nat->j6} {w w':World} (h:Mem E H w.drew E' w'):Mem E H w E' w':=⟨h.os,h.tape,h.output,h.size,h.same,h.rd,h.new⟩
theorem Q9.drew {E:y6} {H:Nat->j6} {w:World} (h:Q9 E H w):Q9 E H w.drew :=
 ⟨h.rd,h.blk,h.sep,h.apart,h.old,h.born,h.fit,h.fx,h.fxa⟩
theorem Tc {w:World} {r:Nat} {o:Obj} (h:w.heap[r]?=some o):r<w.heap.size:=(Array.getElem?_eq_some_iff.1 h).1
theorem Q9.fx_of {E:y6} {H:Nat->j6} {w w':World} (hR:Q9 E H w) (hs:∀ r,r<w.heap.size->(∀ b o,(H b).own=true->E.pl b = .at r o->False)->w'.heap[r]?=w.heap[r]?) {r:Nat} {o:Obj} (h:E.fx r=some o):w'.heap[r]?=some o:=by
 have h1:=hR.fx r o h
 rw [hs r (Tc h1) fun b q hb hp=>hR.fxa b r q o hb hp h,h1]
theorem Q9.fx_new {E:y6} {H:Nat->j6} {w:World} (hR:Q9 E H w) {r:Nat} {o:Obj} (h:E.fx r=some o):r<w.heap.size:=Tc (hR.fx r o h)
theorem q9.pure {E:y6} {H:Nat->j6} {w:World} {x:AV} {v:Value} (hR:Q9 E H w) (h:o0 E x v):q9 E H w [] x v E w :=
 ⟨h,hR,.refl E,.refl E H w,fun _ h h'=>absurd h h',fun _ h => .inl h,fun _ _ _ _ _ _=>rfl⟩
theorem q9.drew {E E':y6} {H:Nat->j6} {w w':World} {wr:List (Nat×j6)} {x:AV} {v:Value} (h:q9 E H w.drew wr x v E' w'):q9 E H w wr x v E' w' :=
 ⟨h.val,h.rel,h.ext,h.mem.drew,h.born,h.live,h.others⟩
theorem o0.any (E:y6) (v:Value):o0 E .any v := .inl rfl
theorem o0.of {E:y6} {x:AV} {cs:List Value} {v:Value} (h:r6 E x cs) (e:v=q5 x.isAgg cs):o0 E x v := .inr ⟨cs,h,e⟩
theorem o0.one {E:y6} {x:AV} {v:Value} (h:r6 E x [v]) (hx:x.lay = .one):o0 E x v := .of h (by unfold AV.isAgg;rw [hx];rfl)
theorem o0.agg {E:y6} {x:AV} {cs:List Value} (h:r6 E x cs) (hx:x.isAgg=true):o0 E x (.agg cs.toArray) := .of h (by rw [hx];rfl)
theorem Cp {l:t9} (h:l.isAgg=false):l = .one:=by cases l<;>first|rfl|cases h
theorem o0.inv {E:y6} {x:AV} {v:Value} (h:o0 E x v) (hx:Fb x=true):∃ cs,r6 E x cs/\v.cells.toList=cs/\v=q5 x.isAgg cs:=by
 rcases h with rfl|⟨cs,h,e⟩
 ·cases hx
 ·refine ⟨cs,h,?_,e⟩
  cases ha:x.isAgg with
  |true=>rw [ha] at e;subst e;rfl
  |false =>
   have hl:=Cp ha
   have hlen:=h.len
   rw [hl] at hlen
   obtain ⟨u,rfl⟩:∃ u,cs=[u]:=by
    cases cs with
    |nil=>cases hlen
    |cons u r=>cases r with
     |nil=>exact ⟨u,rfl⟩
     |cons _ _=>simp [t9.size] at hlen
   have e':v=u:=by rw [ha] at e;exact e
   subst e'
   have:∀ (u:Value),u.cells.toList=[u]\/∃ q,u = .agg q:=by intro u;cases u<;>first|exact .inl rfl|exact .inr ⟨_,rfl⟩
   rcases this v with h1|⟨q,rfl⟩
   ·exact h1
   ·exfalso
    generalize hq:[Value.agg q]=cs at h
    cases h with
    |dv h=>obtain ⟨u,hu,hs⟩:=h.one hl;rw [←hq] at hu;injection hu with hu _;rw [←hu] at hs;exact hs
    |cons _ _=>cases hl
    |_=>injection hq with hq _;cases hq
theorem Br {E:y6} {x:AV} {v:Value} (h:o0 E x v):o0 E (Z7 x) v:=by
 unfold Z7
 split
 ·split
  ·split
   ·rcases h with h|⟨cs,h,e⟩
    ·cases h
    ·cases h.dv_inv
     exact .inr ⟨_,.dv (.bl _),e⟩
   ·exact h
  ·exact h
 ·exact h
theorem Mh (x:AV):(Z7 x).lay=x.lay:=by
 unfold Z7
 split
 ·split
  ·split<;>rfl
  ·rfl
 ·rfl
theorem Jg (x:AV) (h:Fb x=true):Fb (Z7 x)=true:=by
 unfold Z7
 split
 ·split
  ·split<;>rfl
  ·rfl
 ·exact h
theorem d84 {v:Value} (h:Iz v):v.oneCell'=true:=by cases v<;>first|rfl|exact h.elim
theorem r6.cells {E:y6} {x:AV} {cs:List Value} (h:r6 E x cs) (hx:Fb x=true):∀ v,v∈cs->Iz v:=by
 induction h with
 |dv h=>exact h.cells
 |cons h h' ih ih' =>
  simp only [Fb] at hx
  split at hx
  ·rename_i hx1
   intro u hu;rcases List.mem_append.1 hu with hu|hu;exact ih hx1 u hu;exact ih' hx u hu
  ·cases hx
 |tup _ _ _ _=>cases hx
 |_=>intro u hu;rw [List.mem_singleton] at hu;rw [hu];trivial
def zeq:Value->Value->Bool
 |.bool a,.bool b=>a==b
 |.int k a,.int k' b=>S0 k k'&&a==b
 |.string a,.string b=>a.data.toList==[]&&b.data.toList==[]
 |.pointer none,.pointer none=>true
 |.slice none a b,.slice none c d=>a==c&&b==d
 |.map none,.map none=>true
 |.nilFunc,.nilFunc=>true
 |.nilIface,.nilIface=>true
 |_,_=>false
theorem j41 {a b:Value} (h:zeq a b=true):a=b:=by
 unfold zeq at h
 split at h
 all_goals first
  |rfl
  |(simp at h;subst h;rfl)
  |(simp at h;obtain ⟨h1,h2⟩:=h;subst h2;first|subst h1;rfl|(rw [F4 h1]))
  |skip
 ·simp at h
  obtain ⟨h1,h2⟩:=h
  rename_i a b
  obtain ⟨⟨a⟩⟩:=a
  obtain ⟨⟨b⟩⟩:=b
  simp at h1 h2
  subst h1;subst h2;rfl
 ·cases h
def Ac:DV->Option (List Value)
 |.sc v=>if zeq v v then some [v] else none
 |.str l=>match l with
  |[]=>some [.string ⟨⟨[]⟩⟩]
  |_=>none
 |.ints k n l=>if l.length=n then some (l.map (.int k)) else none
 |.nil=>some []
 |.cons d ds=>match Ac d,Ac ds with
  |some a,some b=>some (a++b)
  |_,_=>none
 |.fam n l f=>if (List.range n).all (fun i=>decide ((f i).lay=l)&&(Ac (f i)).isSome) then some ((List.range n).flatMap fun i=>(Ac (f i)).getD []) else none
 |_=>none
theorem Ad (rd:Rd):∀ {d:DV} {cs:List Value},Ac d=some cs->u7 rd d cs:=by
 intro d
 induction d with
 |sc v =>
  intro cs h
  simp only [Ac] at h
  split at h
  ·rename_i hz
   cases h
   refine .sc v ?_
   unfold zeq at hz
   split at hz<;>first|trivial|cases hz
  ·cases h
 |str l =>
  intro cs h
  simp only [Ac] at h
  split at h
  ·cases h;exact .str []
  ·cases h
 |ints k n l =>
  intro cs h
  simp only [Ac] at h
  split at h
  ·rename_i hn;cases h;exact .ints k n l hn
  ·cases h
 |nil=>intro cs h;simp only [Ac] at h;cases h;exact .nil
 |cons d ds ih ih' =>
  intro cs h
  simp only [Ac] at h
  split at h
  ·rename_i a b ha hb;cases h;exact .cons (ih ha) (ih' hb)
  ·cases h
 |fam n l f ih =>
  intro cs h
  simp only [Ac] at h
  split at h
  ·rename_i hall
   cases h
   rw [List.all_eq_true] at hall
   refine .fam n l f _ ?_ ?_
   ·intro i hi
    have:=hall i (List.mem_range.2 hi)
    simp only [Bool.and_eq_true,Option.isSome_iff_exists] at this
    obtain ⟨_,c,hc⟩:=this
    rw [hc]
    exact ih i hc
   ·intro i hi
    have:=hall i (List.mem_range.2 hi)
    simp only [Bool.and_eq_true,decide_eq_true_eq] at this
    exact this.1
  ·cases h
 |_=>intro cs h;cases h
def d04:List Value->List Value->Bool
 |[],[]=>true
 |a::r,b::s=>zeq a b&&d04 r s
 |_,_=>false
theorem c28:∀ {a b:List Value},d04 a b=true->a=b
 |[],[],_=>rfl
 |a::r,b::s,h=>by
  simp only [d04,Bool.and_eq_true] at h
  rw [j41 h.1,c28 h.2]
 |[],_::_,h=>by cases h
 |_::_,[],h=>by cases h
def Ur (P:Program) (T:Tr) (d:TypeDesc) (k:TK):Bool :=
 match k,d with
 |.int k,.int k'=>S0 k k'
 |.bool,.bool=>true
 |.str,.string=>true
 |.arr n e,.array n' e'=>n==n'&&e==e'&&(P.info? e).isSome
 |.sli e,.slice e'=>e==e'&&(P.info? e).isSome
 |.struct fs,.struct fs'=>(fs'.toList.map fun f=>(f.offset,f.type))==fs&&fs.all fun f=>match P.info? f.2 with
  |some i=>i.size==(T.get f.2).size
  |none=>false
 |.ptr e,.pointer e'=>e==e'
 |.iface,.interface _=>true
 |.func,.func .. => true
 |.map k e,.map k' e'=>k==k'&&e==e'
 |.other,_=>true
 |_,_=>false
def g58:TypeDesc->Bool
 |.struct _ | .array .. => true
 |_=>false
def l03:Value->Bool
 |.agg _=>true
 |_=>false
def h63 (P:Program) (T:Tr) (t:TypeId):Bool :=
 match P.info? t,P.underlying t with
 |some i,some d=>Ur P T d (T.get t).kind&&i.size==(T.get t).size&&i.bytes==(T.get t).bytes&&(T.get t).lay.size==i.size&&(T.get t).lay.isAgg==g58 d &&
  decide ((T.get t).zero.lay=(T.get t).lay) &&
  (match i.zero,Ac (T.get t).zero with
  |some z,some cs=>d04 z.cells.toList cs&&l03 z==g58 d
  |_,_=>false) &&
  (!(T.get t).eq||((P.eqGuardType P.depth t==false)&&(match d with
   |.struct fs=>P.stoodInHeld t==false&&fs.toList.all fun f=>f.name != "_"
   |_=>true)))
 |_,_=>false
def Tr.keys:Tr->List Nat
 |.leaf=>[]
 |.node l k _ r=>l.keys++k::r.keys
theorem Tr.get_mem {T:Tr} {t:Nat} (h:t ∉ T.keys):T.get t=⟨.other,0,0,.one,.nil,false⟩:=by
 induction T with
 |leaf=>rfl
 |node l k v r ihl ihr =>
  simp only [Tr.keys,List.mem_append,List.mem_cons,not_or] at h
  simp only [Tr.get]
  split
  ·rename_i hk;exact absurd (Nat.eq_of_beq_eq_true hk) h.2.1
  ·split
   ·exact ihl h.1
   ·exact ihr h.2.2
def v5 (P:Program) (T:Tr):Prop:=(T.keys.all (h63 P T))=true
structure l04 (P:Program) (T:Tr) (t:TypeId):Prop where
 aggz:∀ i z,P.info? t=some i->i.zero=some z->l03 z=(T.get t).lay.isAgg
 info:∃ i d z cs,P.info? t=some i/\P.underlying t=some d/\Ur P T d (T.get t).kind=true/\i.size=(T.get t).size/\i.bytes=(T.get t).bytes /\
  (T.get t).lay.size=(T.get t).size/\(T.get t).lay.isAgg=g58 d/\(T.get t).zero.lay=(T.get t).lay/\i.zero=some z/\z.cells.toList=cs/\Ac (T.get t).zero=some cs /\
  ((T.get t).eq=true->P.eqGuardType P.depth t=false/\∀ fs,d = .struct fs->P.stoodInHeld t=false/\∀ f,f∈fs.toList->f.name ≠ "_")
theorem v5.entry {P:Program} {T:Tr} (h:v5 P T) {t:TypeId} (ht:t∈T.keys):l04 P T t:=by
 unfold v5 at h
 rw [List.all_eq_true] at h
 have h:=h t ht
 unfold h63 at h
 split at h
 ·rename_i i d hi hd
  simp only [Bool.and_eq_true,beq_iff_eq,decide_eq_true_eq] at h
  obtain ⟨⟨⟨⟨⟨⟨⟨h1,h2⟩,h3⟩,h4⟩,h5⟩,h6⟩,h7⟩,h8⟩:=h
  split at h7
  ·rename_i z cs hz hcs
   simp only [Bool.and_eq_true,beq_iff_eq] at h7
   obtain ⟨h7,h7'⟩:=h7
   refine ⟨fun i' z' hi' hz'=>by
    rw [hi] at hi';cases hi';rw [hz] at hz';cases hz';rw [h7',h5],?_⟩
   exact ⟨i,d,z,_,hi,hd,h1,h2,h3,by omega,h5,h6,hz,rfl,by rw [hcs,c28 h7],fun he=>by
    rw [he] at h8
    simp only [Bool.not_true,Bool.false_or,Bool.and_eq_true,beq_iff_eq] at h8
    refine ⟨h8.1,fun fs hfs => ?_⟩
    subst hfs
    have h9:=h8.2
    simp only [Bool.and_eq_true,beq_iff_eq,List.all_eq_true,bne_iff_ne] at h9
    exact h9⟩
  ·cases h7
 ·cases h
theorem R2 {T:Tr} {t:TypeId} (h:(T.get t).kind ≠ .other):t∈T.keys:=by
 by_cases ht:t∈T.keys
 ·exact ht
 ·rw [Tr.get_mem ht] at h;exact absurd rfl h
end Go.Eng

namespace Go.Eng
theorem Gk (H:Nat->j6) (a b:List (Nat×j6)):upds H (a++b)=upds (upds H a) b:=by
 induction a generalizing H with
 |nil=>rfl
 |cons x a ih=>exact ih _
theorem L7 {c:Nat}:∀ {wr:List (Nat×j6)} {H:Nat->j6},(∀ z,z∈wr->z.1≠c)->upds H wr c=H c
 |[],_,_=>rfl
 |(i,x)::wr,H,h=>by
  show upds (Pf H i x) wr c=H c
  rw [L7 fun z hz=>h z (List.mem_cons_of_mem _ hz)]
  unfold Pf
  rw [if_neg fun e=>h (i,x) (List.mem_cons_self ..) e.symm]
theorem Du {E:y6} {b r o:Nat} (hp:E.pl b = .at r o):E.pl b ≠ .unborn:=by intro hu;rw [hp] at hu;cases hu
theorem q9.trans {E E1 E2:y6} {H:Nat->j6} {w w1 w2:World} {wr wr':List (Nat×j6)} {x y:AV} {u v:Value} (hR:Q9 E H w) (h:q9 E H w wr x u E1 w1) (k:q9 E1 (upds H wr) w1 wr' y v E2 w2) :
  q9 E H w (wr++wr') y v E2 w2:=by
 have hown:∀ b r o,(upds H wr b).own=true->E1.pl b = .at r o->w.heap.size≤r\/∃ b' o',(H b').own=true/\E.pl b' = .at r o'/\o'≤o/\E1.top b≤E.top b':=by
  intro b r o hb hp
  by_cases hu:E.pl b = .unborn
  ·exact h.mem.new b r o hu hp
  ·rcases h.live b hb with hl|hl
   ·exact .inr ⟨b,o,hl,by rw [←h.ext.pl b hu];exact hp,Nat.le_refl _,Nat.le_of_eq (h.ext.top b hu)⟩
   ·exact absurd hl hu
 refine ⟨k.val,by rw [Gk];exact k.rel,h.ext.trans k.ext,?_,?_,?_,?_⟩
 ·refine ⟨k.mem.os.trans h.mem.os,k.mem.tape.trans h.mem.tape,k.mem.output.trans h.mem.output,Nat.le_trans h.mem.size k.mem.size,?_,?_,?_⟩
  ·intro r hr hno
   rw [←h.mem.same r hr hno]
   refine k.mem.same r (Nat.lt_of_lt_of_le hr h.mem.size) ?_
   intro b o hb hp
   rcases hown b r o hb hp with hs|⟨b',o',hb',hp',_,_⟩
   ·omega
   ·exact hno b' o' hb' hp'
  ·intro r j v hv
   rcases k.mem.rd r j v hv with hv|hv|⟨b,o,hb,hp,ho,ht⟩
   ·exact h.mem.rd r j v hv
   ·exact .inr (.inl (Nat.le_trans h.mem.size hv))
   ·rcases hown b r o hb hp with hs|⟨b',o',hb',hp',ho',ht'⟩
    ·exact .inr (.inl hs)
    ·exact .inr (.inr ⟨b',o',hb',hp',by omega,by omega⟩)
  ·intro b r o hu hp
   by_cases h1:E1.pl b = .unborn
   ·rcases k.mem.new b r o h1 hp with hs|⟨b',o',hb',hp',ho',ht'⟩
    ·exact .inl (Nat.le_trans h.mem.size hs)
    ·rcases hown b' r o' hb' hp' with hs|⟨b'',o'',hb'',hp'',ho'',ht''⟩
     ·exact .inl hs
     ·exact .inr ⟨b'',o'',hb'',hp'',by omega,by omega⟩
   ·rw [k.ext.pl b h1] at hp
    rw [k.ext.top b h1]
    exact h.mem.new b r o hu hp
 ·intro b hu hb
  rw [List.map_append,List.mem_append]
  by_cases h1:E1.pl b = .unborn
  ·exact .inr (k.born b h1 hb)
  ·exact .inl (h.born b hu h1)
 ·intro b hb
  rw [Gk] at hb
  rcases k.live b hb with hl|hl
  ·exact h.live b hl
  ·refine .inr ?_
   refine Classical.byContradiction fun hne => ?_
   rw [h.ext.pl b hne] at hl
   exact hne hl
 ·intro b r o hb hp hno
  rw [List.map_append,List.mem_append] at hno
  have h1:=h.others b r o hb hp fun e=>hno (.inl e)
  rw [←h1]
  refine k.others b r o ?_ ?_ fun e=>hno (.inr e)
  ·rw [L7 fun z hz e=>hno (.inl (List.mem_map.2 ⟨z,hz,e⟩))];exact hb
  ·rw [h.ext.pl b (Du hp)];exact hp
theorem Cq (r o j:Nat):(⟨r,o,none⟩:Addr).add j=⟨r,o+j,none⟩:=by
 unfold Addr.add;split
 ·rename_i h;subst h;rfl
 ·rfl
theorem Ik {w w':World} {r:Nat} (h:w'.heap[r]?=w.heap[r]?) (j:Nat):w'.cell? ⟨r,j,none⟩=w.cell? ⟨r,j,none⟩:=by simp only [World.cell?,h]
theorem d85 {w w':World} {r:Nat} (h:w'.heap[r]?=w.heap[r]?) (j:Nat):w'.frozen? ⟨r,j,none⟩=w.frozen? ⟨r,j,none⟩:=by simp only [World.frozen?,h]
theorem y9.congr {E:y6} {b:Nat} {w w':World} {x:j6} (h:y9 E b w x) (hq:x.own=true->∀ r o,E.pl b = .at r o->w'.heap[r]?=w.heap[r]?):y9 E b w' x:=by
 have hc:x.own=true->∀ r o,E.pl b = .at r o->∀ j,w'.cell? ⟨r,j,none⟩=w.cell? ⟨r,j,none⟩/\w'.frozen? ⟨r,j,none⟩=w.frozen? ⟨r,j,none⟩:=fun h r o hp j=>⟨Ik (hq h r o hp) j,d85 (hq h r o hp) j⟩
 have room:∀ r o s,(∀ j,w'.cell? ⟨r,j,none⟩=w.cell? ⟨r,j,none⟩/\w'.frozen? ⟨r,j,none⟩=w.frozen? ⟨r,j,none⟩)->Fa E b w r o s->Fa E b w' r o s:=by
  intro r o s hc ⟨h1,h2⟩
  exact ⟨h1,fun j hj hj'=>by rw [(hc j).1,(hc j).2];exact h2 j hj hj'⟩
 have rds:∀ r o cs,(∀ j,w'.cell? ⟨r,j,none⟩=w.cell? ⟨r,j,none⟩/\w'.frozen? ⟨r,j,none⟩=w.frozen? ⟨r,j,none⟩)->D1 (A5 w) r o cs->D1 (A5 w') r o cs:=by
  intro r o cs hc h j hj
  show w'.cell? _=_
  rw [(hc _).1];exact h j hj
 cases x with
 |dead=>trivial
 |var x =>
  obtain ⟨r,o,cs,hp,hl,hx,hr,ht,hm⟩:=h
  exact ⟨r,o,cs,hp,hl,hx,rds _ _ _ (hc rfl r o hp) hr,ht,room _ _ _ (hc rfl r o hp) hm⟩
 |rowI k l =>
  obtain ⟨hl,h|⟨r,o,hp,hr,hm⟩⟩:=h
  ·exact ⟨hl,.inl h⟩
  ·exact ⟨hl,.inr ⟨r,o,hp,rds _ _ _ (hc rfl r o hp) hr,room _ _ _ (hc rfl r o hp) hm⟩⟩
 |row la n f =>
  obtain ⟨hl,h|⟨r,o,css,hp,hf,hfl,hr,hm⟩⟩:=h
  ·exact ⟨hl,.inl h⟩
  ·exact ⟨hl,.inr ⟨r,o,css,hp,hf,hfl,fun i hi=>rds _ _ _ (hc rfl r o hp) (hr i hi),room _ _ _ (hc rfl r o hp) hm⟩⟩
 |frzI k l=>exact h
 |frz la n f=>exact h
 |mp f0 es =>
  obtain ⟨r,entries,clock,hp,hl,ht,hm,he⟩:=h
  exact ⟨r,entries,clock,hp,hl,ht,by rw [hq rfl r 0 hp];exact hm,he⟩
 |mpn f0 es kd c =>
  obtain ⟨hc,r,entries,clock,hp,hl,ht,hm,he⟩:=h
  exact ⟨hc,r,entries,clock,hp,hl,ht,by rw [hq rfl r 0 hp];exact hm,he⟩
 |lp L s =>
  obtain ⟨r,hp,hl,ht,hm⟩:=h
  exact ⟨r,hp,hl,ht,by rw [hq rfl r 0 hp];exact hm⟩
theorem F1.mono {rd rd':Rd} (hr:∀ r j v,rd r j=some v->rd' r j=some v):∀ {es:List (DV×DV)} {ms:List MapEntry},F1 rd es ms->F1 rd' es ms
 |[],[],_=>trivial
 |(k,v)::es,m::ms,h=>⟨⟨h.1.1.mono hr,h.1.2.1,h.1.2.2.1.mono hr,h.1.2.2.2⟩,F1.mono hr h.2⟩
 |[],_::_,h=>h.elim
 |_::_,[],h=>h.elim
theorem y9.ext {E E':y6} (hE:Ext E E') {b:Nat} {w:World} {x:j6} (hb:x ≠ .dead->E.pl b ≠ .unborn) (h:y9 E b w x):y9 E' b w x:=by
 cases x with
 |dead=>trivial
 |var x =>
  have hb:=hb (by intro h;cases h)
  obtain ⟨r,o,cs,hp,hl,hx,hr,ht,hm⟩:=h
  exact ⟨r,o,cs,by rw [hE.pl b hb];exact hp,by rw [hE.lay b hb];exact hl,hx.ext hE,hr,by rw [hE.top b hb];exact ht,by unfold Fa;rw [hE.top b hb];exact hm⟩
 |rowI k l =>
  have hb:=hb (by intro h;cases h)
  obtain ⟨hl,h|⟨r,o,hp,hr,hm⟩⟩:=h
  ·exact ⟨by rw [hE.lay b hb];exact hl,.inl (by rw [hE.pl b hb];exact h)⟩
  ·exact ⟨by rw [hE.lay b hb];exact hl,.inr ⟨r,o,by rw [hE.pl b hb];exact hp,hr,by unfold Fa;rw [hE.top b hb];exact hm⟩⟩
 |row la n f =>
  have hb:=hb (by intro h;cases h)
  obtain ⟨hl,h|⟨r,o,css,hp,hf,hfl,hr,hm⟩⟩:=h
  ·exact ⟨by rw [hE.lay b hb];exact hl,.inl (by rw [hE.pl b hb];exact h)⟩
  ·exact ⟨by rw [hE.lay b hb];exact hl,.inr ⟨r,o,css,by rw [hE.pl b hb];exact hp,fun i hi=>(hf i hi).mono hE.rd,hfl,hr,by unfold Fa;rw [hE.top b hb];exact hm⟩⟩
 |mp f0 es =>
  have hb:=hb (by intro h;cases h)
  obtain ⟨r,entries,clock,hp,hl,ht,hm,he⟩:=h
  exact ⟨r,entries,clock,by rw [hE.pl b hb];exact hp,by rw [hE.lay b hb];exact hl,by rw [hE.top b hb];exact ht,hm,he.1.mono hE.rd,he.2⟩
 |mpn f0 es kd c =>
  have hb:=hb (by intro h;cases h)
  obtain ⟨hc,r,entries,clock,hp,hl,ht,hm,he,hes,hst,j,v,m,h1,h2,h3⟩:=h
  have hcb:E.pl c ≠ .unborn:=by rw [hc];intro h;cases h
  exact ⟨by rw [hE.pl c hcb];exact hc,r,entries,clock,by rw [hE.pl b hb];exact hp,by rw [hE.lay b hb];exact hl,by rw [hE.top b hb];exact ht,hm,he.mono hE.rd,hes,hst,j,v,m,h1,h2,by rw [hE.top c hcb];exact h3⟩
 |lp L s =>
  have hb:=hb (by intro h;cases h)
  obtain ⟨r,hp,hl,ht,hm⟩:=h
  exact ⟨r,by rw [hE.pl b hb];exact hp,by rw [hE.lay b hb];exact hl,by rw [hE.top b hb];exact ht,hm⟩
 |frzI k l =>
  have hb:=hb (by intro h;cases h)
  obtain ⟨hl,h|⟨r,o,hp,hr⟩⟩:=h
  ·exact ⟨by rw [hE.lay b hb];exact hl,.inl (by rw [hE.pl b hb];exact h)⟩
  ·exact ⟨by rw [hE.lay b hb];exact hl,.inr ⟨r,o,by rw [hE.pl b hb];exact hp,fun j hj=>hE.rd _ _ _ (hr j hj)⟩⟩
 |frz la n f =>
  have hb:=hb (by intro h;cases h)
  obtain ⟨hl,h|⟨r,o,css,hp,hf,hfl,hr⟩⟩:=h
  ·exact ⟨by rw [hE.lay b hb];exact hl,.inl (by rw [hE.pl b hb];exact h)⟩
  ·exact ⟨by rw [hE.lay b hb];exact hl,.inr ⟨r,o,css,by rw [hE.pl b hb];exact hp,fun i hi=>(hf i hi).mono hE.rd,hfl,fun i hi j hj=>hE.rd _ _ _ (hr i hi j hj)⟩⟩
theorem D9 {E:y6} {H:Nat->j6} {w:World} (hR:Q9 E H w) {b:Nat} (hb:H b ≠ .dead):E.pl b ≠ .unborn:=fun hu=>hb (hR.born b hu)
theorem U1 {x:j6} (h:x.own=true):x ≠ .dead:=by intro e;subst e;cases h
theorem q9.writeB {E:y6} {H:Nat->j6} {w w':World} (hR:Q9 E H w) {b r o:Nat} (hb:(H b).own=true) (hp:E.pl b = .at r o) {x:j6}
  (hos:w'.os=w.os) (htape:w'.tape=w.tape) (hout:w'.output=w.output) (hsize:w'.heap.size=w.heap.size)
  (hother:∀ r',r'≠r->w'.heap[r']?=w.heap[r']?)
  (hblk:y9 E b w' x) {v:AV} {u:Value} (hv:o0 E v u):q9 E H w [(b,x)] v u E w':=by
 have hH:∀ c,upds H [(b,x)] c=if c=b then x else H c:=fun c=>rfl
 have hne:∀ c r' o',c≠b->(H c).own=true->E.pl c = .at r' o'->r'≠r:=fun c r' o' hc hco hcp=>hR.sep c b r' o' r o hc hco hb hcp hp
 have hownb:∀ c,(upds H [(b,x)] c).own=true->(H c).own=true:=by
  intro c hc;rw [hH] at hc;split at hc
  ·rename_i e;rw [e];exact hb
  ·exact hc
 refine ⟨hv,⟨?_,?_,?_,?_,?_,?_,hR.fit,fun q ob h=>hR.fx_of (fun r' _ hno=>hother r' fun e=>hno b o hb (e▸hp)) h,fun c q p ob h1 h2 h3=>hR.fxa c q p ob (hownb c h1) h2 h3⟩,.refl E,⟨hos,htape,hout,Nat.le_of_eq hsize.symm,?_,fun _ _ _ h => .inl h,?_⟩,fun _ h h'=>absurd h h',fun c hc => .inl (hownb c hc),fun c r' o' hc hcp hno=>hother r' (hne c r' o' (fun e=>hno (by rw [e];exact List.mem_singleton.2 rfl)) hc hcp)⟩
 ·intro r' j v hv
  have hrr:r'≠r:=fun e=>hR.apart b r o j v hb hp (e▸hv)
  rw [Ik (hother r' hrr)]
  exact hR.rd r' j v hv
 ·intro c
  rw [hH]
  split
  ·rename_i e;rw [e];exact hblk
  ·rename_i e
   refine (hR.blk c).congr fun hco r' o' hcp => ?_
   have hrr:=hne c r' o' e hco hcp
   exact hother r' hrr
 ·exact fun c c' r o r' o' hcc h1 h2=>hR.sep c c' r o r' o' hcc (hownb c h1) (hownb c' h2)
 ·exact fun c r o j v h1 h2 h3=>hR.apart c r o j v (hownb c h1) h2 h3
 ·exact fun c r o h1=>by rw [hsize];exact hR.old c r o h1
 ·intro c hc
  rw [hH]
  split
  ·rename_i e;rw [e] at hc;exact absurd hc (Du hp)
  ·exact hR.born c hc
 ·exact fun r' _ hno=>hother r' fun e=>hno b o hb (e▸hp)
 ·intro c r' o' h1 h2
  rw [h1] at h2;cases h2
theorem q9.write {E:y6} {H:Nat->j6} {w w':World} (hR:Q9 E H w) {b r o:Nat} (hb:(H b).own=true) (hp:E.pl b = .at r o) {x:j6}
  (hos:w'.os=w.os) (htape:w'.tape=w.tape) (hout:w'.output=w.output) (hsize:w'.heap.size=w.heap.size)
  (hother:∀ r',r'≠r->w'.heap[r']?=w.heap[r']?) (_hround:∀ j,(j<o\/E.top b≤j)->w'.cell? ⟨r,j,none⟩=w.cell? ⟨r,j,none⟩)
  (_hfrozen:∀ j,w'.frozen? ⟨r,j,none⟩=w.frozen? ⟨r,j,none⟩) (_hshape:w'.shape? r=w.shape? r) (hblk:y9 E b w' x) {v:AV} {u:Value} (hv:o0 E v u):q9 E H w [(b,x)] v u E w' :=
 q9.writeB hR hb hp hos htape hout hsize hother hblk hv
def y6.birth (E:y6) (key r o:Nat) (l:t9) (top:Nat):y6 :=
 {E with pl:=fun b=>if b=key then .at r o else E.pl b,lay:=fun b=>if b=key then l else E.lay b,top:=fun b=>if b=key then top else E.top b }
theorem y6.birth_ext {E:y6} {key:Nat} (hk:E.pl key = .unborn) (r o:Nat) (l:t9) (top:Nat):Ext E (E.birth key r o l top):=by
 have hne:∀ b,E.pl b ≠ .unborn->b≠key:=fun b hb e=>hb (e▸hk)
 exact ⟨fun b hb=>if_neg (hne b hb),fun b hb=>if_neg (hne b hb),fun b hb=>if_neg (hne b hb),fun _ _ _ h=>h,rfl⟩
theorem q9.alloc {E:y6} {H:Nat->j6} {w:World} (hR:Q9 E H w) {key:Nat} (hk:E.pl key = .unborn) (ob:Obj) (l:t9) (top:Nat) (hfit:l.size≤top) {x:j6}
  (hblk:y9 (E.birth key w.heap.size 0 l top) key (w.alloc ob) x) {v:AV} {u:Value} (hv:o0 (E.birth key w.heap.size 0 l top) v u) :
  q9 E H w [(key,x)] v u (E.birth key w.heap.size 0 l top) (w.alloc ob):=by
 have hE:=y6.birth_ext hk w.heap.size 0 l top
 have hH:∀ c,upds H [(key,x)] c=if c=key then x else H c:=fun c=>rfl
 have hold:∀ r,r<w.heap.size->(w.alloc ob).heap[r]?=w.heap[r]?:=fun r hr=>heap_alloc_old w _ r hr
 have hpk:(E.birth key w.heap.size 0 l top).pl key = .at w.heap.size 0:=if_pos rfl
 have hpo:∀ c,c≠key->(E.birth key w.heap.size 0 l top).pl c=E.pl c:=fun c hc=>if_neg hc
 have hrd:∀ r j v,E.rd r j=some v->r<w.heap.size:=fun r j v h=>World.block_lt_of_cell? w _ (hR.rd r j v h)
 have hfit':∀ b r o,(E.birth key w.heap.size 0 l top).pl b = .at r o->o+((E.birth key w.heap.size 0 l top).lay b).size≤(E.birth key w.heap.size 0 l top).top b:=by
  intro b r o hb
  by_cases e:b=key
  ·subst e
   rw [hpk] at hb
   injection hb with _ h2
   show _+(if b=b then l else E.lay b).size≤(if b=b then top else E.top b)
   rw [if_pos rfl,if_pos rfl];omega
  ·rw [hpo b e] at hb
   show _+(if b=key then l else E.lay b).size≤(if b=key then top else E.top b)
   rw [if_neg e,if_neg e]
   exact hR.fit b r o hb
 refine ⟨hv,⟨?_,?_,?_,?_,?_,?_,hfit',fun r o h=>hR.fx_of (fun r hr _=>hold r hr) h,fun c r o ob h1 h2 h3 => ?fxa⟩,hE,⟨rfl,rfl,rfl,by simp,fun r hr _=>hold r hr,fun _ _ _ h => .inl h,?_⟩,?_,?_,fun b r o _ hp _=>hold r (hR.old b r o hp)⟩
 case fxa =>
  by_cases e:c=key
  ·subst e
   rw [hpk] at h2
   injection h2 with h2 _
   have:=hR.fx_new (show E.fx r=some ob from h3)
   omega
  ·rw [hH,if_neg e] at h1
   rw [hpo c e] at h2
   exact hR.fxa c r o ob h1 h2 h3
 ·intro r j v h
  rw [Ik (hold r (hrd r j v h))]
  exact hR.rd r j v h
 ·intro c
  rw [hH]
  split
  ·rename_i e;rw [e];exact hblk
  ·rename_i e
   refine y9.ext hE (fun hd=>D9 hR hd) ((hR.blk c).congr fun _ r o hcp => ?_)
   have hlt:=hR.old c r o hcp
   exact hold r hlt
 ·intro c c' r o r' o' hcc h1 h2 h3 h4
  rw [hH] at h1 h2
  by_cases e:c=key
  ·subst e
   rw [hpk] at h3
   injection h3 with h3 _
   rw [if_neg (fun e=>hcc e.symm)] at h2
   rw [hpo c' (fun e=>hcc e.symm)] at h4
   have:=hR.old c' r' o' h4
   omega
  ·rw [if_neg e] at h1
   rw [hpo c e] at h3
   by_cases e':c'=key
   ·subst e'
    rw [hpk] at h4
    injection h4 with h4 _
    have:=hR.old c r o h3
    omega
   ·rw [if_neg e'] at h2
    rw [hpo c' e'] at h4
    exact hR.sep c c' r o r' o' hcc h1 h2 h3 h4
 ·intro c r o j v h1 h2 h3
  rw [hH] at h1
  by_cases e:c=key
  ·subst e
   rw [hpk] at h2
   injection h2 with h2 _
   have:=hrd r j v h3
   omega
  ·rw [if_neg e] at h1
   rw [hpo c e] at h2
   exact hR.apart c r o j v h1 h2 h3
 ·intro c r o h1
  by_cases e:c=key
  ·subst e
   rw [hpk] at h1
   injection h1 with h1 _
   simp;omega
  ·rw [hpo c e] at h1
   have:=hR.old c r o h1
   simp;omega
 ·intro c h1
  by_cases e:c=key
  ·subst e;rw [hpk] at h1;cases h1
  ·rw [hpo c e] at h1
   rw [hH,if_neg e]
   exact hR.born c h1
 ·intro c r o h1 h2
  by_cases e:c=key
  ·subst e;rw [hpk] at h2;injection h2 with h2 _;exact .inl (by omega)
  ·rw [hpo c e,h1] at h2;cases h2
 ·intro c h1 h2
  by_cases e:c=key
  ·subst e;simp
  ·rw [hpo c e] at h2;exact absurd h1 h2
 ·intro c hc
  rw [hH] at hc
  split at hc
  ·rename_i e;subst e;exact .inr hk
  ·exact .inl hc
end Go.Eng

namespace Go.Eng
theorem q9.shut {E:y6} {H:Nat->j6} {w:World} (hR:Q9 E H w) {b r o n:Nat} (hb:(H b).own=true) (hp:E.pl b = .at r o) (hn:o+n≤E.top b) {x:j6} (hx:x.own=false)
  {E':y6} (hE':E'={ E with rd:=fun r' j=>if r'=r/\o≤j/\j<o+n then w.cell? ⟨r,j,none⟩ else E.rd r' j })
  (hblk:y9 E' b w x) {v:AV} {u:Value} (hv:o0 E' v u):q9 E H w [(b,x)] v u E' w:=by
 have hH:∀ c,upds H [(b,x)] c=if c=b then x else H c:=fun c=>rfl
 have hpl:E'.pl=E.pl:=by subst hE';rfl
 have hlay:E'.lay=E.lay:=by subst hE';rfl
 have htop:E'.top=E.top:=by subst hE';rfl
 have hrd:∀ r' j,E'.rd r' j=if r'=r/\o≤j/\j<o+n then w.cell? ⟨r,j,none⟩ else E.rd r' j:=by intro r' j;subst hE';rfl
 have hfx:E'.fx=E.fx:=by subst hE';rfl
 have hE:Ext E E':=⟨fun b _=>by rw [hpl],fun b _=>by rw [hlay],fun b _=>by rw [htop],fun r' j v hv=>by
  rw [hrd,if_neg]
  ·exact hv
  ·rintro ⟨e,_⟩;subst e;exact hR.apart b r' o j v hb hp hv,hfx⟩
 have hown:∀ c,(upds H [(b,x)] c).own=true->c≠b/\(H c).own=true:=by
  intro c hc;rw [hH] at hc;split at hc
  ·rw [hx] at hc;cases hc
  ·rename_i e;exact ⟨e,hc⟩
 refine ⟨hv,⟨?_,?_,?_,?_,?_,?_,fun b r o h=>by rw [hpl] at h;rw [hlay,htop];exact hR.fit b r o h,fun r o h=>hR.fx r o (hfx▸h),fun c r o ob h1 h2 h3=>hR.fxa c r o ob (hown c h1).2 (hpl▸h2) (hfx▸h3)⟩,hE,⟨rfl,rfl,rfl,Nat.le_refl _,fun _ _ _=>rfl,?_,?_⟩,?_,?_,fun _ _ _ _ _ _=>rfl⟩
 ·intro r' j v hv
  rw [hrd] at hv
  split at hv
  ·rename_i e;obtain ⟨e,_⟩:=e;subst e;exact hv
  ·exact hR.rd r' j v hv
 ·intro c
  rw [hH]
  split
  ·rename_i e;rw [e];exact hblk
  ·exact y9.ext hE (fun hd=>D9 hR hd) (hR.blk c)
 ·intro c c' r o r' o' hcc h1 h2 h3 h4
  rw [hpl] at h3 h4
  exact hR.sep c c' r o r' o' hcc (hown c h1).2 (hown c' h2).2 h3 h4
 ·intro c r' o' j v h1 h2 h3
  rw [hpl] at h2
  rw [hrd] at h3
  split at h3
  ·rename_i e
   exact hR.sep c b r' o' r o (hown c h1).1 (hown c h1).2 hb h2 hp e.1
  ·exact hR.apart c r' o' j v (hown c h1).2 h2 h3
 ·intro c r o h1;rw [hpl] at h1;exact hR.old c r o h1
 ·intro c hc
  rw [hpl] at hc
  rw [hH]
  split
  ·rename_i e;rw [e] at hc;exact absurd hc (Du hp)
  ·exact hR.born c hc
 ·intro r' j v hv
  rw [hrd] at hv
  split at hv
  ·rename_i e;obtain ⟨e,h1,h2⟩:=e;subst e;exact .inr (.inr ⟨b,o,hb,hp,h1,by omega⟩)
  ·exact .inl hv
 ·intro c r' o' h1 h2;rw [hpl,h1] at h2;cases h2
 ·intro c h1 h2;rw [hpl] at h2;exact absurd h1 h2
 ·intro c hc;exact .inl (hown c hc).2
theorem q9.shutB {E:y6} {H:Nat->j6} {w w':World} (hR:Q9 E H w) {b r o n:Nat} (hb:(H b).own=true) (hp:E.pl b = .at r o) {x:j6} (hx:x.own=false)
  (hos:w'.os=w.os) (htape:w'.tape=w.tape) (hout:w'.output=w.output) (hsize:w'.heap.size=w.heap.size) (hother:∀ r',r'≠r->w'.heap[r']?=w.heap[r']?)
  (hcell:∀ j,w'.cell? ⟨r,j,none⟩=w.cell? ⟨r,j,none⟩) (hn:o+n≤E.top b)
  {E':y6} (hE':E'={ E with rd:=fun r' j=>if r'=r/\o≤j/\j<o+n then w.cell? ⟨r,j,none⟩ else E.rd r' j })
  (hblk:y9 E' b w' x) {v:AV} {u:Value} (hv:o0 E' v u):q9 E H w [(b,x)] v u E' w':=by
 have hH:∀ c,upds H [(b,x)] c=if c=b then x else H c:=fun c=>rfl
 have hpl:E'.pl=E.pl:=by subst hE';rfl
 have hlay:E'.lay=E.lay:=by subst hE';rfl
 have htop:E'.top=E.top:=by subst hE';rfl
 have hrd:∀ r' j,E'.rd r' j=if r'=r/\o≤j/\j<o+n then w.cell? ⟨r,j,none⟩ else E.rd r' j:=by intro r' j;subst hE';rfl
 have hfx:E'.fx=E.fx:=by subst hE';rfl
 have hE:Ext E E':=⟨fun b _=>by rw [hpl],fun b _=>by rw [hlay],fun b _=>by rw [htop],fun r' j v hv=>by
  rw [hrd,if_neg]
  ·exact hv
  ·rintro ⟨e,_⟩;subst e;exact hR.apart b r' o j v hb hp hv,hfx⟩
 have hown:∀ c,(upds H [(b,x)] c).own=true->c≠b/\(H c).own=true:=by
  intro c hc;rw [hH] at hc;split at hc
  ·rw [hx] at hc;cases hc
  ·rename_i e;exact ⟨e,hc⟩
 have hne:∀ c r' o',c≠b->(H c).own=true->E.pl c = .at r' o'->r'≠r:=fun c r' o' hc hco hcp=>hR.sep c b r' o' r o hc hco hb hcp hp
 refine ⟨hv,⟨?_,?_,?_,?_,?_,?_,fun b r o h=>by rw [hpl] at h;rw [hlay,htop];exact hR.fit b r o h,fun q ob h=>hR.fx_of (fun r' _ hno=>hother r' fun e=>hno b o hb (e▸hp)) (hfx▸h),fun c r o ob h1 h2 h3=>hR.fxa c r o ob (hown c h1).2 (hpl▸h2) (hfx▸h3)⟩,hE,⟨hos,htape,hout,Nat.le_of_eq hsize.symm,fun r' _ hno=>hother r' fun e=>hno b o hb (e▸hp),?_,?_⟩,?_,?_,fun c r' o' hc hcp hno=>hother r' (hne c r' o' (fun e=>hno (by rw [e];exact List.mem_singleton.2 rfl)) hc hcp)⟩
 ·intro r' j v hv
  rw [hrd] at hv
  split at hv
  ·rename_i e;obtain ⟨e,_⟩:=e;subst e;rw [hcell];exact hv
  ·have hrr:r'≠r:=fun e=>hR.apart b r o j v hb hp (e▸hv)
   rw [Ik (hother r' hrr)]
   exact hR.rd r' j v hv
 ·intro c
  rw [hH]
  split
  ·rename_i e;rw [e];exact hblk
  ·rename_i e
   refine y9.ext hE (fun hd=>D9 hR hd) ((hR.blk c).congr fun hco r' o' hcp=>hother r' (hne c r' o' e hco hcp))
 ·intro c c' r o r' o' hcc h1 h2 h3 h4
  rw [hpl] at h3 h4
  exact hR.sep c c' r o r' o' hcc (hown c h1).2 (hown c' h2).2 h3 h4
 ·intro c r' o' j v h1 h2 h3
  rw [hpl] at h2
  rw [hrd] at h3
  split at h3
  ·rename_i e
   exact hR.sep c b r' o' r o (hown c h1).1 (hown c h1).2 hb h2 hp e.1
  ·exact hR.apart c r' o' j v (hown c h1).2 h2 h3
 ·intro c r o h1;rw [hpl] at h1;rw [hsize];exact hR.old c r o h1
 ·intro c hc
  rw [hpl] at hc
  rw [hH]
  split
  ·rename_i e;rw [e] at hc;exact absurd hc (Du hp)
  ·exact hR.born c hc
 ·intro r' j v hv
  rw [hrd] at hv
  split at hv
  ·rename_i e;obtain ⟨e,h1,h2⟩:=e;subst e;exact .inr (.inr ⟨b,o,hb,hp,h1,by omega⟩)
  ·exact .inl hv
 ·intro c r' o' h1 h2;rw [hpl,h1] at h2;cases h2
 ·intro c h1 h2;rw [hpl] at h2;exact absurd h1 h2
 ·intro c hc;exact .inl (hown c hc).2
theorem q9.told {E:y6} {H:Nat->j6} {w:World} (hR:Q9 E H w) {b:Nat} {x:j6} (hx:x = .dead\/E.pl b = .nowhere) (hd:x.own=true->(H b).own=true) (hblk:y9 E b w x) {v:AV} {u:Value} (hv:o0 E v u):q9 E H w [(b,x)] v u E w:=by
 have hH:∀ c,upds H [(b,x)] c=if c=b then x else H c:=fun c=>rfl
 have hown:∀ c,(upds H [(b,x)] c).own=true->(H c).own=true:=by
  intro c hc;rw [hH] at hc;split at hc
  ·rename_i e;subst e;exact hd hc
  ·exact hc
 refine ⟨hv,⟨hR.rd,?_,?_,?_,hR.old,?_,hR.fit,hR.fx,fun c r o ob h1=>hR.fxa c r o ob (hown c h1)⟩,.refl E,.refl E H w,fun _ h1 h2=>absurd h1 h2,fun c hc => .inl (hown c hc),fun _ _ _ _ _ _=>rfl⟩
 ·intro c
  rw [hH]
  split
  ·rename_i e;rw [e];exact hblk
  ·exact hR.blk c
 ·exact fun c c' r o r' o' hcc h1 h2=>hR.sep c c' r o r' o' hcc (hown c h1) (hown c' h2)
 ·exact fun c r o j v h1=>hR.apart c r o j v (hown c h1)
 ·intro c hc
  rw [hH]
  split
  ·rename_i e;subst e
   rcases hx with hx|hx
   ·exact hx
   ·rw [hx] at hc;cases hc
  ·exact hR.born c hc
theorem q9.move {E:y6} {H:Nat->j6} {w w':World} (hR:Q9 E H w) {b r o key o':Nat} {l:t9} (hb:(H b).own=true) (hp:E.pl b = .at r o) (hk:E.pl key = .unborn) (ho:o≤o') (hfit:o'+l.size≤E.top b)
  {x:j6} (hos:w'.os=w.os) (htape:w'.tape=w.tape) (hout:w'.output=w.output) (hsize:w'.heap.size=w.heap.size)
  (hother:∀ r',r'≠r->w'.heap[r']?=w.heap[r']?) (_hround:∀ j,(j<o\/E.top b≤j)->w'.cell? ⟨r,j,none⟩=w.cell? ⟨r,j,none⟩)
  (_hfrozen:∀ j,w'.frozen? ⟨r,j,none⟩=w.frozen? ⟨r,j,none⟩) (_hshape:w'.shape? r=w.shape? r) (hblk:y9 (E.birth key r o' l (E.top b)) key w' x) {v:AV} {u:Value} (hv:o0 (E.birth key r o' l (E.top b)) v u) :
  q9 E H w [(b,.dead),(key,x)] v u (E.birth key r o' l (E.top b)) w':=by
 have hE:=y6.birth_ext hk r o' l (E.top b)
 have hbk:b≠key:=fun e=>by rw [e,hk] at hp;cases hp
 have hH:∀ c,upds H [(b,.dead),(key,x)] c=if c=key then x else if c=b then .dead else H c:=fun c=>rfl
 have hpk:(E.birth key r o' l (E.top b)).pl key = .at r o':=if_pos rfl
 have hpo:∀ c,c≠key->(E.birth key r o' l (E.top b)).pl c=E.pl c:=fun c hc=>if_neg hc
 have hown:∀ c,c≠key->(upds H [(b,.dead),(key,x)] c).own=true->c≠b/\(H c).own=true:=by
  intro c hc h;rw [hH,if_neg hc] at h;split at h
  ·cases h
  ·rename_i e;exact ⟨e,h⟩
 have hne:∀ c r' o',c≠b->(H c).own=true->E.pl c = .at r' o'->r'≠r:=fun c r' o' hc hco hcp=>hR.sep c b r' o' r o hc hco hb hcp hp
 have hfit':∀ c r1 o1,(E.birth key r o' l (E.top b)).pl c = .at r1 o1->o1+((E.birth key r o' l (E.top b)).lay c).size≤(E.birth key r o' l (E.top b)).top c:=by
  intro c r1 o1 hc
  by_cases e:c=key
  ·subst e
   rw [hpk] at hc
   injection hc with _ h2
   show _+(if c=c then l else E.lay c).size≤(if c=c then E.top b else E.top c)
   rw [if_pos rfl,if_pos rfl];omega
  ·rw [hpo c e] at hc
   show _+(if c=key then l else E.lay c).size≤(if c=key then E.top b else E.top c)
   rw [if_neg e,if_neg e]
   exact hR.fit c r1 o1 hc
 refine ⟨hv,⟨?_,?_,?_,?_,?_,?_,hfit',fun q ob h=>hR.fx_of (fun r' _ hno=>hother r' fun e=>hno b o hb (e▸hp)) h,fun c r1 o1 ob h1 h2 h3 => ?fxa⟩,hE,⟨hos,htape,hout,Nat.le_of_eq hsize.symm,?_,fun _ _ _ h => .inl h,?_⟩,?_,?_,fun c r' o' hc hcp hno=>hother r' (hne c r' o' (fun e=>hno (by rw [e];exact List.mem_cons_self ..)) hc hcp)⟩
 case fxa =>
  by_cases e:c=key
  ·subst e
   rw [hpk] at h2
   injection h2 with h2 _
   subst h2
   exact hR.fxa b r o ob hb hp h3
  ·rw [hpo c e] at h2
   exact hR.fxa c r1 o1 ob (hown c e h1).2 h2 h3
 ·intro r' j v hv
  have hrr:r'≠r:=fun e=>hR.apart b r o j v hb hp (e▸hv)
  rw [Ik (hother r' hrr)]
  exact hR.rd r' j v hv
 ·intro c
  rw [hH]
  split
  ·rename_i e;rw [e];exact hblk
  ·rename_i e
   split
   ·trivial
   ·rename_i e'
    refine y9.ext hE (fun hd=>D9 hR hd) ((hR.blk c).congr fun hco r' o' hcp => ?_)
    have hrr:=hne c r' o' e' hco hcp
    exact hother r' hrr
 ·intro c c' r1 o1 r2 o2 hcc h1 h2 h3 h4
  by_cases e:c=key
  ·subst e
   rw [hpk] at h3
   injection h3 with h3 _
   have hc':c'≠c:=fun e=>hcc e.symm
   rw [hpo c' hc'] at h4
   have:=hown c' hc' h2
   exact fun e=>hne c' r2 o2 this.1 this.2 h4 (by rw [←e];exact h3.symm)
  ·rw [hpo c e] at h3
   have h1':=hown c e h1
   by_cases e':c'=key
   ·subst e'
    rw [hpk] at h4
    injection h4 with h4 _
    rw [←h4]
    exact hne c r1 o1 h1'.1 h1'.2 h3
   ·rw [hpo c' e'] at h4
    exact hR.sep c c' r1 o1 r2 o2 hcc h1'.2 (hown c' e' h2).2 h3 h4
 ·intro c r1 o1 j v h1 h2 h3
  by_cases e:c=key
  ·subst e
   rw [hpk] at h2
   injection h2 with h2 _
   subst h2
   exact hR.apart b r o j v hb hp h3
  ·rw [hpo c e] at h2
   exact hR.apart c r1 o1 j v (hown c e h1).2 h2 h3
 ·intro c r1 o1 h1
  rw [hsize]
  by_cases e:c=key
  ·subst e
   rw [hpk] at h1
   injection h1 with h1 _
   subst h1
   exact hR.old b r o hp
  ·rw [hpo c e] at h1
   exact hR.old c r1 o1 h1
 ·intro c h1
  by_cases e:c=key
  ·subst e;rw [hpk] at h1;cases h1
  ·rw [hpo c e] at h1
   rw [hH,if_neg e]
   split
   ·rfl
   ·exact hR.born c h1
 ·exact fun r' _ hno=>hother r' fun e=>hno b o hb (e▸hp)
 ·intro c r1 o1 h1 h2
  by_cases e:c=key
  ·subst e
   rw [hpk] at h2
   injection h2 with h2 h3
   subst h2;subst h3
   refine .inr ⟨b,o,hb,hp,ho,?_⟩
   show (if c=c then E.top b else E.top c)≤_
   rw [if_pos rfl];exact Nat.le_refl _
  ·rw [hpo c e,h1] at h2;cases h2
 ·intro c h1 h2
  by_cases e:c=key
  ·subst e;simp
  ·rw [hpo c e] at h2;exact absurd h1 h2
 ·intro c hc
  by_cases e:c=key
  ·subst e;exact .inr hk
  ·exact .inl (hown c e hc).2
def y6.none_ (E:y6) (key:Nat) (l:t9):y6 :=
 {E with pl:=fun b=>if b=key then .nowhere else E.pl b,lay:=fun b=>if b=key then .arr 0 l else E.lay b }
theorem q9.empty {E:y6} {H:Nat->j6} {w:World} (hR:Q9 E H w) {key:Nat} (hk:E.pl key = .unborn) (l:t9) {x:j6} (hblk:y9 (E.none_ key l) key w x) {v:AV} {u:Value} (hv:o0 (E.none_ key l) v u) :
  q9 E H w [(key,x)] v u (E.none_ key l) w:=by
 have hne:∀ b,E.pl b ≠ .unborn->b≠key:=fun b hb e=>hb (e▸hk)
 have hE:Ext E (E.none_ key l):=⟨fun b hb=>if_neg (hne b hb),fun b hb=>if_neg (hne b hb),fun _ _=>rfl,fun _ _ _ h=>h,rfl⟩
 have hH:∀ c,upds H [(key,x)] c=if c=key then x else H c:=fun c=>rfl
 have hpk:(E.none_ key l).pl key = .nowhere:=if_pos rfl
 have hpo:∀ c,c≠key->(E.none_ key l).pl c=E.pl c:=fun c hc=>if_neg hc
 have hat:∀ c r o,(E.none_ key l).pl c = .at r o->c≠key/\E.pl c = .at r o:=by
  intro c r o h
  by_cases e:c=key
  ·subst e;rw [hpk] at h;cases h
  ·rw [hpo c e] at h;exact ⟨e,h⟩
 have hown:∀ c,c≠key->(upds H [(key,x)] c).own=true->(H c).own=true:=by intro c hc h;rw [hH,if_neg hc] at h;exact h
 have hfit':∀ c r o,(E.none_ key l).pl c = .at r o->o+((E.none_ key l).lay c).size≤(E.none_ key l).top c:=by
  intro c r o hc
  obtain ⟨e,hc⟩:=hat c r o hc
  show _+(if c=key then _ else E.lay c).size≤E.top c
  rw [if_neg e]
  exact hR.fit c r o hc
 refine ⟨hv,⟨hR.rd,?_,?_,?_,?_,?_,hfit',hR.fx,fun c r o ob h1 h2 h3=>hR.fxa c r o ob (hown c (hat c r o h2).1 h1) (hat c r o h2).2 h3⟩,hE,⟨rfl,rfl,rfl,Nat.le_refl _,fun _ _ _=>rfl,fun _ _ _ h => .inl h,?_⟩,?_,?_,fun _ _ _ _ _ _=>rfl⟩
 ·intro c
  rw [hH]
  split
  ·rename_i e;rw [e];exact hblk
  ·exact y9.ext hE (fun hd=>D9 hR hd) (hR.blk c)
 ·intro c c' r o r' o' hcc h1 h2 h3 h4
  have h3:=hat c r o h3
  have h4:=hat c' r' o' h4
  exact hR.sep c c' r o r' o' hcc (hown c h3.1 h1) (hown c' h4.1 h2) h3.2 h4.2
 ·intro c r o j v h1 h2 h3
  have h2:=hat c r o h2
  exact hR.apart c r o j v (hown c h2.1 h1) h2.2 h3
 ·intro c r o h1;exact hR.old c r o (hat c r o h1).2
 ·intro c h1
  by_cases e:c=key
  ·subst e;rw [hpk] at h1;cases h1
  ·rw [hpo c e] at h1
   rw [hH,if_neg e]
   exact hR.born c h1
 ·intro c r o h1 h2
  have:=(hat c r o h2).2
  rw [h1] at this;cases this
 ·intro c h1 h2
  by_cases e:c=key
  ·subst e;simp
  ·rw [hpo c e] at h2;exact absurd h1 h2
 ·intro c hc
  by_cases e:c=key
  ·subst e;exact .inr hk
  ·exact .inl (hown c e hc)
def o9 (o:Op):List Operand:=o.operands.toList
def Rw (P:Program) (G:G1) (o:Oper) (ρ:Operand->AV) (H:Nat->j6) (rd:List Nat) (wr:List (Nat×j6)) (v:AV):Prop :=
 ∀ E H' (a:Act) w,Q9 E H' w->GOK E G->(∀ x,x∈o9 o.op->o0 E (ρ x) (a.eval x))->(∀ b,b∈rd->H' b=H b)->(∀ x,x∈wr->H x.1 = .dead->E.pl x.1 = .unborn) ->
  ∀ next Q,(∀ u E' w',q9 E H' w wr v u E' w'->next (a.put o.dst u) w')->o.wp P a w next Q
theorem Rw.of {P:Program} {G:G1} {o:Oper} {ρ:Operand->AV} {H:Nat->j6} {rd:List Nat} {wr:List (Nat×j6)} {v:AV}
  (h:∀ E H' (a:Act) w,Q9 E H' w->GOK E G->(∀ x,x∈o9 o.op->o0 E (ρ x) (a.eval x))->(∀ b,b∈rd->H' b=H b)->(∀ x,x∈wr->H x.1 = .dead->E.pl x.1 = .unborn) ->
   ∃ u w' E',((execOp a.eval o).run P w = .ok (.value u) w'\/((execOp a.eval o).run P w = .ok .skip w'/\u=undef))/\q9 E H' w wr v u E' w'):Rw P G o ρ H rd wr v:=by
 intro E H' a w hR hG hx hrd hwr next Q hn
 obtain ⟨u,w',E',hr,hs⟩:=h E H' a w hR hG hx hrd hwr
 unfold Oper.wp
 rcases hr with hr|⟨hr,rfl⟩
 ·rw [hr];exact hn u E' w' hs
 ·rw [hr];exact hn undef E' w' hs
theorem Rw.pure {P:Program} {G:G1} {o:Oper} {ρ:Operand->AV} {H:Nat->j6} {v:AV}
  (h:∀ E (a:Act) w,(∀ x,x∈o9 o.op->o0 E (ρ x) (a.eval x))->∃ u,(execOp a.eval o).run P w = .ok (.value u) w/\o0 E v u):Rw P G o ρ H [] [] v :=
 .of fun E _ a w hR _ hx _ _=>let ⟨u,hr,hv⟩:=h E a w hx;⟨u,w,E,.inl hr,.pure hR hv⟩
def V9 (P:Program) (G:G1) (o:Oper) (ρ:Operand->AV) (H:Nat->j6) (K:V7):Prop:=∃ rd wr v,K rd wr v/\Rw P G o ρ H rd wr v
theorem C5 {x:AV} {K:IntKind->Int->Prop} (h:Dn x K):∃ k n,x = .int k n/\K k n:=by
 unfold Dn at h;split at h
 ·exact ⟨_,_,rfl,h⟩
 ·exact h.elim
theorem g59 {x:AV} {K:Bool->Prop} (h:f60 x K):∃ b,(x = .dv (.sc (.bool b))\/x = .dv (.bl b))/\K b:=by
 unfold f60 at h;split at h
 ·exact ⟨_,.inl rfl,h⟩
 ·rename_i b
  cases b
  ·exact ⟨false,.inr rfl,h.2 rfl⟩
  ·exact ⟨true,.inr rfl,h.1 rfl⟩
 ·exact h.elim
theorem K7 {E:y6} {k:IntKind} {n:Int} {v:Value} (h:o0 E (.int k n) v):v = .int k n:=by
 rcases h with h|⟨cs,h,e⟩
 ·cases h
 ·cases h.dv_inv;exact e
theorem O8 {E:y6} {v u:Value} (h:o0 E (.dv (.sc v)) u):u=v:=by
 rcases h with h|⟨cs,h,e⟩
 ·cases h
 ·cases h.dv_inv;exact e
theorem Xb {E:y6} {b:Bool} {v:Value} (h:o0 E (.dv (.bl b)) v):v = .bool b:=by
 rcases h with h|⟨cs,h,e⟩
 ·cases h
 ·cases h.dv_inv;exact e
theorem Ks {E:y6} {l:List UInt8} {v:Value} (h:o0 E (.dv (.str l)) v):v = .string ⟨⟨l⟩⟩:=by
 rcases h with h|⟨cs,h,e⟩
 ·cases h
 ·cases h.dv_inv;exact e
theorem C9 (E:y6) (k:IntKind) (n:Int):o0 E (.int k n) (.int k n) := .one (.dv (.sc _ trivial)) rfl
theorem Nt (E:y6) (b:Bool):o0 E (.bl b) (.bool b) := .one (.dv (.bl _)) rfl
theorem Us (E:y6) (l:List UInt8):o0 E (.dv (.str l)) (.string ⟨⟨l⟩⟩) := .one (.dv (.str _)) rfl
theorem Xc (E:y6) {v:Value} (h:Iz v):o0 E (.dv (.sc v)) v := .one (.dv (.sc _ h)) rfl
section
variable {P:Program} {G:G1} {T:Tr} {o:Oper} {ρ:Operand->AV} {H:Nat->j6} {K:V7}
theorem c29 {x:Operand} (ho:o.op = .move x\/o.op = .assign x) (h:K [] [] (ρ x)):V9 P G o ρ H K:=by
 refine ⟨_,_,_,h,.pure fun E a w hx=>⟨a.eval x,?_,hx x ?_⟩⟩
 ·rcases ho with ho|ho<;>simp [execOp,ho]
 ·rcases ho with ho|ho<;>simp [o9,ho,Op.operands]
theorem g60 {c x y:Operand} (ho:o.op = .pick c x y) (h:f60 (ρ c) fun t=>(match t with|true=>K [] [] (ρ x)|false=>K [] [] (ρ y))):V9 P G o ρ H K:=by
 obtain ⟨b,hb,h⟩:=g59 h
 have hc:∀ E (a:Act),(∀ x,x∈o9 o.op->o0 E (ρ x) (a.eval x))->a.eval c = .bool b:=by
  intro E a hx
  have:=hx c (by simp [o9,ho,Op.operands])
  rcases hb with hb|hb
  ·rw [hb] at this;exact O8 this
  ·rw [hb] at this;exact Xb this
 cases b with
 |true =>
  refine ⟨_,_,_,h,.pure fun E a w hx=>⟨a.eval x,?_,hx x (by simp [o9,ho,Op.operands])⟩⟩
  simp [execOp,ho,hc E a hx,asBool]
 |false =>
  refine ⟨_,_,_,h,.pure fun E a w hx=>⟨a.eval y,?_,hx y (by simp [o9,ho,Op.operands])⟩⟩
  simp [execOp,ho,hc E a hx,asBool]
theorem O2 {x y:AV} {K:IntKind->Int->Int->Prop} (h:Ou x y K):∃ k a b,x = .int k a/\y = .int k b/\K k a b:=by
 unfold Ou at h
 obtain ⟨k,a,rfl,h1⟩:=C5 (x:=x) h
 obtain ⟨k',b,rfl,h2⟩:=C5 (x:=y) h1
 split at h2
 ·rename_i hk;rw [F4 hk] at h2 ⊢;exact ⟨_,a,b,rfl,rfl,h2⟩
 ·exact h2.elim
end
end Go.Eng

namespace Go.Eng
section
variable {P:Program} {G:G1} {T:Tr} {o:Oper} {ρ:Operand->AV} {H:Nat->j6} {K:V7}
theorem D6 (w:World) (op:BinOp) (t:TypeId) (x y:Operand) {a b:Value} (h:op = .eql\/op = .neq->(∀ u v,a = .agg u->b = .agg v->False)/\(a = .nilIface->b = .nilIface->isC x=true\/isC y=true)):(eqGuard op t x y a b).run P w = .ok () w:=by
 unfold eqGuard
 cases op
 case eql =>
  obtain ⟨h1,h2⟩:=h (.inl rfl)
  simp
  split
  ·have:=h2 rfl rfl
   cases x<;>cases y<;>simp [isC] at this ⊢
  ·exact (h1 _ _ rfl rfl).elim
  ·rfl
 case neq =>
  obtain ⟨h1,h2⟩:=h (.inr rfl)
  simp
  split
  ·have:=h2 rfl rfl
   cases x<;>cases y<;>simp [isC] at this ⊢
  ·exact (h1 _ _ rfl rfl).elim
  ·rfl
 all_goals simp
theorem Mi {op:BinOp} {t t':TypeId} {x y:Operand} (ho:o.op = .binOp op t x y t') (a:Act) (w:World) {u v r:Value} (hu:a.eval x=u) (hv:a.eval y=v)
  (hg:(eqGuard op t x y u v).run P w = .ok () w) (hb:(binOp op t u v).run P w = .ok r w):(execOp a.eval o).run P w = .ok (.value r) w:=by
 simp [execOp,ho,hu,hv,hg,hb]
theorem B2 {op:BinOp} {t t':TypeId} {x y:Operand} (ho:o.op = .binOp op t x y t') {k k':IntKind} {a b:Int} {r:AV} (hx:ρ x = .int k a) (hy:ρ y = .int k' b) {u:Value}
  (hr:∀ E,o0 E r u) (hrun:∀ w,(binOp op t (.int k a) (.int k' b)).run P w = .ok u w) (h:K [] [] r):V9 P G o ρ H K:=by
 refine ⟨_,_,_,h,.pure fun E ac w hop=>⟨u,?_,hr E⟩⟩
 have e1:=K7 (hx▸hop x (by simp [o9,ho,Op.operands]))
 have e2:=K7 (hy▸hop y (by simp [o9,ho,Op.operands]))
 exact Mi ho ac w e1 e2 (D6 w op t x y fun _=>⟨(fun _ _ h=>by cases h),(fun h=>by cases h)⟩) (hrun w)
theorem d05 {op:BinOp} {t t':TypeId} {x y:Operand} (ho:o.op = .binOp op t x y t') {a b:List UInt8} {r:AV} (hx:ρ x = .dv (.str a)) (hy:ρ y = .dv (.str b)) {u:Value}
  (hr:∀ E,o0 E r u) (hrun:∀ w,(binOp op t (.string ⟨⟨a⟩⟩) (.string ⟨⟨b⟩⟩)).run P w = .ok u w) (h:K [] [] r):V9 P G o ρ H K:=by
 refine ⟨_,_,_,h,.pure fun E ac w hop=>⟨u,?_,hr E⟩⟩
 have e1:=Ks (hx▸hop x (by simp [o9,ho,Op.operands]))
 have e2:=Ks (hy▸hop y (by simp [o9,ho,Op.operands]))
 exact Mi ho ac w e1 e2 (D6 w op t x y fun _=>⟨(fun _ _ h=>by cases h),(fun h=>by cases h)⟩) (hrun w)
theorem Dv {t:TypeId} {tk:TK} (hT:v5 P T) (hk:(T.get t).kind=tk) (h:tk ≠ .other):∃ d,P.underlying t=some d/\Ur P T d tk=true:=by
 subst hk
 obtain ⟨i,d,z,cs,_,hd,hkb,_⟩:=(hT.entry (R2 h)).info
 exact ⟨d,hd,hkb⟩
theorem Kt {t:TypeId} {k:IntKind} (hT:v5 P T) (hk:(T.get t).kind = .int k):P.underlying t=some (.int k):=by
 obtain ⟨d,hd,hb⟩:=Dv hT hk (by intro h;cases h)
 cases d<;>first|(cases hb;done)|(rw [hd,F4 hb])
theorem d86 {t:TypeId} (hT:v5 P T) (hk:(T.get t).kind = .bool):P.underlying t=some .bool:=by
 obtain ⟨d,hd,hb⟩:=Dv hT hk (by intro h;cases h)
 cases d<;>first|(cases hb;done)|exact hd
theorem Hw {t:TypeId} (hT:v5 P T) (hk:(T.get t).kind = .str):P.underlying t=some .string:=by
 obtain ⟨d,hd,hb⟩:=Dv hT hk (by intro h;cases h)
 cases d<;>first|(cases hb;done)|exact hd
theorem c30 {t:TypeId} (hT:v5 P T) (hk:(T.get t).kind = .iface):∃ ms,P.underlying t=some (.interface ms):=by
 obtain ⟨d,hd,hb⟩:=Dv hT hk (by intro h;cases h)
 cases d<;>first|(cases hb;done)|exact ⟨_,hd⟩
theorem f80 {t:TypeId} {e:TypeId} (hT:v5 P T) (hk:(T.get t).kind = .ptr e):P.underlying t=some (.pointer e):=by
 obtain ⟨d,hd,hb⟩:=Dv hT hk (by intro h;cases h)
 cases d<;>first|(cases hb;done)|(simp [Ur] at hb;rw [hd,hb])
theorem Ku {t:TypeId} {n:Nat} {e:TypeId} (hT:v5 P T) (hk:(T.get t).kind = .arr n e):P.underlying t=some (.array n e)/\∃ i,P.info? e=some i:=by
 obtain ⟨d,hd,hb⟩:=Dv hT hk (by intro h;cases h)
 cases d<;>first|(cases hb;done)|(simp [Ur,Option.isSome_iff_exists] at hb;obtain ⟨⟨h1,h2⟩,h3⟩:=hb;rw [hd,h1,h2];exact ⟨rfl,by rw [←h2];exact h3⟩)
theorem T5 {t:TypeId} {e:TypeId} (hT:v5 P T) (hk:(T.get t).kind = .sli e):P.underlying t=some (.slice e)/\∃ i,P.info? e=some i:=by
 obtain ⟨d,hd,hb⟩:=Dv hT hk (by intro h;cases h)
 cases d<;>first|(cases hb;done)|(simp [Ur,Option.isSome_iff_exists] at hb;obtain ⟨h2,h3⟩:=hb;rw [hd,h2];exact ⟨rfl,by rw [←h2];exact h3⟩)
theorem Nu {t:TypeId} {fs:List (Nat×TypeId)} (hT:v5 P T) (hk:(T.get t).kind = .struct fs) :
  ∃ fields:Array Field,P.underlying t=some (.struct fields)/\(fields.toList.map fun f=>(f.offset,f.type))=fs/\∀ f,f∈fs->∃ i,P.info? f.2=some i/\i.size=(T.get f.2).size:=by
 obtain ⟨d,hd,hb⟩:=Dv hT hk (by intro h;cases h)
 cases d<;>try (cases hb;done)
 rename_i fields
 simp only [Ur,Bool.and_eq_true,beq_iff_eq,List.all_eq_true] at hb
 refine ⟨fields,hd,hb.1,fun f hf => ?_⟩
 have:=hb.2 f hf
 split at this
 ·rename_i i hi;exact ⟨i,hi,eq_of_beq this⟩
 ·cases this
theorem N0 {t:TypeId} {x y:Value} {r:Bool} {w:World} (hx:binOp .eql t x y=(do pure (.bool (←Op.equal t x y)))) (hr:(Op.equalIn 10000 t x y).run P w = .ok r w):(binOp .eql t x y).run P w = .ok (.bool r) w:=by
 rw [hx]
 have hr:(Op.equal t x y).run P w = .ok r w:=hr
 simp only [Sem.run_bind,hr,Result.andThen_ok,Sem.run_pure]
theorem N1 {t:TypeId} {x y:Value} {r:Bool} {w:World} (hx:binOp .neq t x y=(do pure (.bool (!(←Op.equal t x y))))) (hr:(Op.equalIn 10000 t x y).run P w = .ok r w):(binOp .neq t x y).run P w = .ok (.bool (!r)) w:=by
 rw [hx]
 have hr:(Op.equal t x y).run P w = .ok r w:=hr
 simp only [Sem.run_bind,hr,Result.andThen_ok,Sem.run_pure]
theorem i62 {rd:Rd} {k:IntKind} {n:Int} {x:Value} (h:u7 rd (.sc (.int k n)) [x]):x = .int k n:=by cases h;rfl
theorem f81 {a b:DV} {t:TypeId} {K:Bool->Prop} (hT:v5 P T) (h:eqS (T.get t).kind a b K) :
  a.lay = .one/\b.lay = .one/\∃ r,K r/\∀ rd x y w,u7 rd a [x]->u7 rd b [y]->(∀ D,(Op.equalIn (D+1) t x y).run P w = .ok r w) /\
   (binOp .eql t x y).run P w = .ok (.bool r) w/\(binOp .neq t x y).run P w = .ok (.bool (!r)) w/\(x = .nilIface->a = .sc .nilIface):=by
 unfold eqS at h
 split at h
 ·rename_i k0 hk
  have hu:=Kt hT hk
  repeat' split at h
  all_goals try exact h.elim
  rename_i k x k' y hkk
  obtain rfl:=F4 hkk
  refine ⟨rfl,rfl,_,h,fun rd u v w hu' hv' => ?_⟩
  cases hu';cases hv'
  refine ⟨fun D=>by simp [Op.equalIn,run_underlying hu],?_,?_,fun e=>by cases e⟩
  ·simp only [binOp,Op.intCmp];simp
  ·simp only [binOp,Op.intCmp];simp [bne]
 ·rename_i hk
  have hu:=d86 hT hk
  repeat' split at h
  all_goals try exact h.elim
  all_goals
   refine ⟨rfl,rfl,_,h,fun rd u v w hu' hv' => ?_⟩
   cases hu';cases hv'
   exact ⟨fun D=>run_equalIn_bool' w D t _ _ hu,N0 rfl (run_equalIn_bool' w 9999 t _ _ hu),N1 rfl (run_equalIn_bool' w 9999 t _ _ hu),fun e=>by cases e⟩
 ·rename_i hk
  have hu:=Hw hT hk
  repeat' split at h
  all_goals try exact h.elim
  refine ⟨rfl,rfl,_,h,fun rd u v w hu' hv' => ?_⟩
  cases hu';cases hv'
  refine ⟨fun D=>by rw [run_equalIn_string w D t _ _ hu];simp [ByteArray.toList_eq],?_,?_,fun e=>by cases e⟩
  ·simp only [binOp,Op.stringOp,Sem.run_pure,ByteArray.toList_eq]
  ·simp only [binOp,Op.stringOp,Sem.run_pure,ByteArray.toList_eq]
 ·rename_i hk
  obtain ⟨ms,hu⟩:=c30 hT hk
  repeat' split at h
  all_goals try exact h.elim
  all_goals
   refine ⟨rfl,rfl,_,h,fun rd u v w hu' hv' => ?_⟩
   cases hu';cases hv'
  ·have he:∀ D q z,(Op.equalIn (D+1) t .nilIface (.iface q z)).run P w = .ok false w:=fun D q z=>by simp only [Op.equalIn,Sem.run_bind,run_underlying hu,Result.andThen_ok,Sem.run_pure]
   exact ⟨fun D=>he D _ _,N0 rfl (he 9999 _ _),N1 rfl (he 9999 _ _),fun _=>rfl⟩
  ·have he:∀ D,(Op.equalIn (D+1) t .nilIface .nilIface).run P w = .ok true w:=fun D=>by simp only [Op.equalIn,Sem.run_bind,run_underlying hu,Result.andThen_ok,Sem.run_pure]
   exact ⟨he,N0 rfl (he 9999),N1 rfl (he 9999),fun _=>rfl⟩
  ·have he:∀ D q z,(Op.equalIn (D+1) t (.iface q z) .nilIface).run P w = .ok false w:=fun D q z=>by simp only [Op.equalIn,Sem.run_bind,run_underlying hu,Result.andThen_ok,Sem.run_pure]
   exact ⟨fun D=>he D _ _,N0 rfl (he 9999 _ _),N1 rfl (he 9999 _ _),fun e=>by cases e⟩
 ·rename_i e hk
  have hu:=f80 hT hk
  repeat' split at h
  all_goals try exact h.elim
  refine ⟨rfl,rfl,_,h,fun rd u v w hu' hv' => ?_⟩
  cases hu';cases hv'
  have he:∀ D,(Op.equalIn (D+1) t (.pointer none) (.pointer none)).run P w = .ok true w:=fun D=>by simp only [Op.equalIn,Sem.run_bind,run_underlying hu,Result.andThen_ok,Sem.run_pure,Option.isNone_none]
  exact ⟨he,N0 rfl (he 9999),N1 rfl (he 9999),fun e=>by cases e⟩
 ·exact h.elim
theorem d06 {t:TypeId} (w:World) {cs:List Value} {off s:Nat} (hu:(∃ fs,P.underlying t=some (.struct fs))\/∃ n e,P.underlying t=some (.array n e)) (hi:∃ i,P.info? t=some i/\i.size=s) :
  (part t cs.toArray off).run P w = .ok (.agg ((cs.drop off).take s).toArray) w:=by
 obtain ⟨i,hi,rfl⟩:=hi
 rcases hu with ⟨fs,hu⟩|⟨n,e',hu⟩<;>simp [part,isAgg,run_underlying hu,sizeOf,typeInfo,hi]
theorem b87 {t:TypeId} (w:World) {cs:List Value} {off:Nat} {d:TypeDesc} (hu:P.underlying t=some d) (hd:g58 d=false) {v:Value} (hv:cs[off]?=some v) :
  (part t cs.toArray off).run P w = .ok v w:=by
 cases d<;>first|(cases hd;done)|simp [part,isAgg,run_underlying hu,hv]
theorem Ut {t:TypeId} (hT:v5 P T) (w:World) {cs:List Value} {off:Nat} {l:t9} (ht:t∈T.keys) (hs:l.size=(T.get t).size) (ha:l.isAgg=(T.get t).lay.isAgg) (hle:off+l.size≤cs.length) :
  (part t cs.toArray off).run P w = .ok (q5 l.isAgg ((cs.drop off).take l.size)) w:=by
 obtain ⟨i,d,z,zs,hi,hd,_,hsz,_,_,hagg,_⟩:=(hT.entry ht).info
 cases hal:l.isAgg with
 |true =>
  rw [←ha,hal] at hagg
  have hu:(∃ fs,P.underlying t=some (.struct fs))\/∃ n e,P.underlying t=some (.array n e):=by
   cases d<;>first|(cases hagg;done)|exact .inl ⟨_,hd⟩|exact .inr ⟨_,_,hd⟩
  exact d06 w hu ⟨i,hi,by omega⟩
 |false =>
  rw [←ha,hal] at hagg
  have hl:=Cp hal
  subst hl
  simp only [t9.size] at hle ⊢
  have hlt:off<cs.length:=by omega
  have e:(cs.drop off).take 1=[cs[off]]:=by rw [List.drop_eq_getElem_cons hlt];rfl
  rw [b87 w hd hagg.symm (v:=cs[off]) (List.getElem?_eq_getElem hlt),e]
  rfl
theorem Td {l:t9} {i o:Nat} {ft:TypeId} (h:a46 T l i o ft=true):∃ l',J6 l [i]=some (o,l')/\l'.size=(T.get ft).size/\l'.isAgg=(T.get ft).lay.isAgg:=by
 unfold a46 at h
 split at h
 ·rename_i o' l' hl
  split at h
  ·rename_i h1 h2 h3 h4
   obtain rfl:=Nat.eq_of_beq_eq_true h1
   exact ⟨l',hl,Nat.eq_of_beq_eq_true h2,by rw [h3,h4]⟩
  ·rename_i h1 h2 h3 h4
   obtain rfl:=Nat.eq_of_beq_eq_true h1
   exact ⟨l',hl,Nat.eq_of_beq_eq_true h2,by rw [h3,h4]⟩
  ·cases h
 ·cases h
theorem d07 {t:TypeId} {l:t9} (hs:l.size=(T.get t).size) (ha:l.isAgg=(T.get t).lay.isAgg):t∈T.keys:=by
 by_cases ht:t∈T.keys
 ·exact ht
 ·rw [Tr.get_mem ht] at hs ha
  rw [Cp ha] at hs
  cases hs
theorem f20 {l:t9} {i o:Nat} {ft:TypeId} (h:a46 T l i o ft=true):ft∈T.keys:=by
 obtain ⟨l',_,hs,ha⟩:=Td h
 exact d07 hs ha
theorem f82 (hT:v5 P T) {eq:TypeId->DV->DV->(Bool->Prop)->Prop} (d:Nat)
  (heq:∀ {t:TypeId} {a b:DV} {K:Bool->Prop},eq t a b K->∃ r,K r/\∀ rd ca cb D w,u7 rd a ca->u7 rd b cb->d≤D->(Op.equalIn D t (q5 a.lay.isAgg ca) (q5 b.lay.isAgg cb)).run P w = .ok r w) :
  ∀ (fields:List Field) (i:Nat) {a b:DV} {K:Bool->Prop},eqF T eq (fields.map fun f=>(f.offset,f.type)) i a b K->(∀ f,f∈fields->f.name ≠ "_") ->
   ∃ r,K r/\∀ rd ca cb D w,u7 rd a ca->u7 rd b cb->d≤D->(Op.eqFields D ca.toArray cb.toArray fields).run P w = .ok r w
 |[],_,a,b,K,h,_=>⟨true,h,fun rd ca cb D w _ _ _=>by simp [Op.eqFields]⟩
 |f::fields,i,a,b,K,h,hn=>by
  simp only [List.map_cons,eqF] at h
  split at h
  ·rename_i h1 h2
   obtain ⟨l1,hl1,hs1,ha1⟩:=Td h1
   obtain ⟨l2,hl2,hs2,ha2⟩:=Td h2
   obtain ⟨x,hx,hxr⟩:=heq h
   obtain ⟨y,hy,hyr⟩:=f82 hT d heq fields (i+1) hx (fun g hg=>hn g (List.mem_cons_of_mem _ hg))
   refine ⟨x&&y,hy,fun rd ca cb D w hca hcb hD => ?_⟩
   obtain ⟨p1,q1⟩:=hca.part hl1
   obtain ⟨p2,q2⟩:=hcb.part hl2
   have hft:=f20 h1
   have r1:=Ut hT w hft hs1 ha1 (by rw [hca.len];exact R1 hl1)
   have r2:=Ut hT w hft hs2 ha2 (by rw [hcb.len];exact R1 hl2)
   have r3:=hxr rd _ _ D w p1 p2 hD
   rw [q1,q2] at r3
   simp only [Op.eqFields,if_pos (hn f (List.mem_cons_self ..)),Sem.run_bind,r1,r2,r3,Result.andThen_ok]
   cases x with
   |true=>simp [hyr rd ca cb D w hca hcb hD]
   |false=>simp
  ·exact h.elim
theorem Qg:∀ (xs ys:List Int),xs.length=ys.length->((List.range xs.length).all fun i=>xs.getD i 0==ys.getD i 0)=(xs==ys)
 |[],[],_=>rfl
 |x::xs,y::ys,h=>by
  have ih:=Qg xs ys (by simpa using h)
  rw [List.length_cons,List.range_succ_eq_map,List.all_cons,List.all_map]
  simp only [List.getD_cons_zero,Function.comp_def,List.getD_cons_succ,ih]
  simp [List.cons_beq_cons]
 |[],_::_,h=>by simp at h
 |_::_,[],h=>by simp at h
theorem d87 (w:World) {t e:TypeId} {n:Nat} {k kk:IntKind} (hu:P.underlying t=some (.array n e)) (hue:P.underlying e=some (.int kk)) (hi:∃ i,P.info? e=some i/\i.size=1) {l l':List Int} (h:l.length=n) (h':l'.length=n) (D:Nat) :
  (Op.equalIn (D+2) t (.agg (l.map (Value.int k)).toArray) (.agg (l'.map (Value.int k)).toArray)).run P w = .ok (l==l') w:=by
 obtain ⟨i,hi,hsz⟩:=hi
 have hc:P.cellsOf e=1:=by simp [Program.cellsOf,hi,hsz]
 rw [show D+2=(D+1)+1 from rfl,run_equalIn_array w (D+1) _ _ hu hi,hc,←Qg l l' (h.trans h'.symm),h]
 have hl:∀ j,j∈List.range n->j<n:=fun j hj=>List.mem_range.1 hj
 generalize List.range n=is at hl ⊢
 induction is with
 |nil=>simp [Op.eqItems]
 |cons j is ih =>
  have hj:j<n:=hl j (by simp)
  have p1:(part e (l.map (Value.int k)).toArray (j*1)).run P w = .ok (.int k (l.getD j 0)) w:=by
   simp [part,isAgg,run_underlying hue,List.getD,List.getElem?_eq_getElem (show j<l.length by omega)]
  have p2:(part e (l'.map (Value.int k)).toArray (j*1)).run P w = .ok (.int k (l'.getD j 0)) w:=by
   simp [part,isAgg,run_underlying hue,List.getD,List.getElem?_eq_getElem (show j<l'.length by omega)]
  simp only [Op.eqItems,Sem.run_bind,p1,p2,Result.andThen_ok,run_equalIn_int w D e k kk _ _ hue,List.all_cons]
  cases hb:(l.getD j 0==l'.getD j 0)
  ·simp
  ·simp only [Bool.not_true,Bool.false_eq_true,if_false,Bool.true_and]
   exact ih fun q hq=>hl q (by simp [hq])
theorem f83 (hT:v5 P T):∀ (d:Nat) {t:TypeId} {a b:DV} {K:Bool->Prop},eqT T d t a b K ->
  ∃ r,K r/\∀ rd ca cb D w,u7 rd a ca->u7 rd b cb->d+1≤D->(Op.equalIn D t (q5 a.lay.isAgg ca) (q5 b.lay.isAgg cb)).run P w = .ok r w
 |0,t,a,b,K,h=>h.elim
 |d+1,t,a,b,K,h=>by
  simp only [eqT] at h
  split at h
  ·rename_i n e hk
   split at h<;>try exact h.elim
   split at h<;>try exact h.elim
   rename_i k m l k' m' l'
   split at h<;>try exact h.elim
   rename_i kk hke
   split at h<;>try exact h.elim
   rename_i h1 h2 h3 h4
   obtain rfl:=F4 h1
   obtain rfl:=Nat.eq_of_beq_eq_true h2
   obtain rfl:=Nat.eq_of_beq_eq_true h3
   refine ⟨_,h,fun rd ca cb D w hca hcb hD => ?_⟩
   cases hca with
   |ints _ _ _ hl =>
    cases hcb with
    |ints _ _ _ hl' =>
     obtain ⟨D,rfl⟩:∃ q,D=q+2:=⟨D-2,by omega⟩
     obtain ⟨hu,i,hi⟩:=Ku hT hk
     have hue:=Kt hT hke
     obtain ⟨i',d',z,cs,hi',hd',_,hsz,_,hls,hagg,_⟩:=(hT.entry (R2 (t:=e) (by rw [hke];intro h;cases h))).info
     rw [hi] at hi'
     cases hi'
     rw [hue] at hd'
     cases hd'
     have hone:=Cp hagg
     exact d87 w hu hue ⟨i,hi,by rw [hsz,←hls,hone];rfl⟩ hl hl' D
  ·rename_i fs hk
   split at h<;>try exact h.elim
   rename_i heq ha hb
   obtain ⟨fields,hu,hfs,hinfo⟩:=Nu hT hk
   obtain ⟨i',d',z,cs,hi',hd',_,hsz,_,hls,hagg,_,_,_,_,hcmp⟩:=(hT.entry (R2 (t:=t) (by rw [hk];intro h;cases h))).info
   rw [hu] at hd'
   cases hd'
   obtain ⟨hg,hf⟩:=hcmp heq
   obtain ⟨hst,hnm⟩:=hf _ rfl
   rw [←hfs] at h
   obtain ⟨r,hr,hrun⟩:=f82 hT (d+1) (f83 hT d) fields.toList 0 h hnm
   refine ⟨r,hr,fun rd ca cb D w hca hcb hD => ?_⟩
   obtain ⟨D,rfl⟩:∃ q,D=q+1:=⟨D-1,by omega⟩
   have hff:P.fieldsOf t=fields:=by simp [Program.fieldsOf,hu]
   rw [ha,hb]
   show (Op.equalIn (D+1) t (.agg ca.toArray) (.agg cb.toArray)).run P w=_
   rw [run_equalIn_struct w D t _ _ (by rw [hff];exact hu) hst,hff]
   exact hrun rd ca cb D w hca hcb (by omega)
  ·obtain ⟨ha,hb,r,hr,hrun⟩:=f81 hT h
   refine ⟨r,hr,fun rd ca cb D w hca hcb hD => ?_⟩
   obtain ⟨u,rfl,_⟩:=hca.one ha
   obtain ⟨v,rfl,_⟩:=hcb.one hb
   rw [ha,hb]
   obtain ⟨D,rfl⟩:∃ q,D=q+1:=⟨D-1,by omega⟩
   exact (hrun rd u v w hca hcb).1 D
theorem i63 (hT:v5 P T) {d:Nat} (hd:d≤12) {t:TypeId} {a b:DV} {K:Bool->Prop} (h:eqT T d t a b K) :
  ∃ r,K r/\∀ rd ca cb w op x y,u7 rd a ca->u7 rd b cb->(a = .sc .nilIface->isC x=true\/isC y=true) ->
   (eqGuard op t x y (q5 a.lay.isAgg ca) (q5 b.lay.isAgg cb)).run P w = .ok () w /\
   (binOp .eql t (q5 a.lay.isAgg ca) (q5 b.lay.isAgg cb)).run P w = .ok (.bool r) w/\(binOp .neq t (q5 a.lay.isAgg ca) (q5 b.lay.isAgg cb)).run P w = .ok (.bool (!r)) w:=by
 have hrun:=f83 hT d h
 cases d with
 |zero=>exact h.elim
 |succ d =>
  simp only [eqT] at h
  have agg:∀ ca cb w op x y,P.eqGuardType P.depth t=false->(eqGuard op t x y (.agg ca) (.agg cb)).run P w = .ok () w:=fun ca cb w op x y hm=>run_eqGuard_agg w op t x y ca cb hm
  have fin:(a.lay.isAgg=true/\b.lay.isAgg=true/\P.eqGuardType P.depth t=false)->∃ r,K r/\∀ rd ca cb w op x y,u7 rd a ca->u7 rd b cb->(a = .sc .nilIface->isC x=true\/isC y=true) ->
   (eqGuard op t x y (q5 a.lay.isAgg ca) (q5 b.lay.isAgg cb)).run P w = .ok () w /\
   (binOp .eql t (q5 a.lay.isAgg ca) (q5 b.lay.isAgg cb)).run P w = .ok (.bool r) w/\(binOp .neq t (q5 a.lay.isAgg ca) (q5 b.lay.isAgg cb)).run P w = .ok (.bool (!r)) w:=by
   rintro ⟨ha,hb,hg⟩
   obtain ⟨r,hr,hrun⟩:=hrun
   refine ⟨r,hr,fun rd ca cb w op x y hca hcb _ => ?_⟩
   have hr1:=hrun rd ca cb 10000 w hca hcb (by omega)
   rw [ha,hb] at hr1 ⊢
   have hr1:(Op.equalIn 10000 t (.agg ca.toArray) (.agg cb.toArray)).run P w = .ok r w:=hr1
   refine ⟨agg _ _ w op x y hg,?_,?_⟩
   ·show (binOp .eql t (.agg ca.toArray) (.agg cb.toArray)).run P w=_
    rw [run_eql_struct,hr1];rfl
   ·show (binOp .neq t (.agg ca.toArray) (.agg cb.toArray)).run P w=_
    rw [run_neq_struct,hr1];rfl
  split at h
  ·rename_i n e hk
   split at h<;>try exact h.elim
   split at h<;>try exact h.elim
   split at h<;>try exact h.elim
   split at h<;>try exact h.elim
   rename_i h4
   obtain ⟨i',d',z,cs,hi',hd',_,hsz,_,hls,hagg,_,_,_,_,hcmp⟩:=(hT.entry (R2 (t:=t) (by rw [hk];intro h;cases h))).info
   exact fin ⟨rfl,rfl,(hcmp h4).1⟩
  ·rename_i fs hk
   split at h<;>try exact h.elim
   rename_i heq ha hb
   obtain ⟨i',d',z,cs,hi',hd',_,hsz,_,hls,hagg,_,_,_,_,hcmp⟩:=(hT.entry (R2 (t:=t) (by rw [hk];intro h;cases h))).info
   exact fin ⟨ha,hb,(hcmp heq).1⟩
  ·obtain ⟨ha,hb,r,hr,hrun⟩:=f81 hT h
   refine ⟨r,hr,fun rd ca cb w op x y hca hcb hn => ?_⟩
   obtain ⟨u,rfl,hu⟩:=hca.one ha
   obtain ⟨v,rfl,hv⟩:=hcb.one hb
   rw [ha,hb]
   obtain ⟨_,h1,h2,h3⟩:=hrun rd u v w hca hcb
   refine ⟨D6 w op t x y fun _=>⟨?_,fun e _=>hn (h3 e)⟩,h1,h2⟩
   intro q _ e _
   have e:u = .agg q:=e
   rw [e] at hu;exact hu
end
end Go.Eng

namespace Go.Eng
section
variable {P:Program} {G:G1} {T:Tr} {o:Oper} {ρ:Operand->AV} {H:Nat->j6} {K:V7}
theorem a37 {E:y6} {d:DV} {v:Value} (h:o0 E (.dv d) v):∃ cs,u7 E.rd d cs/\v=q5 d.lay.isAgg cs:=by
 rcases h with h|⟨cs,h,e⟩
 ·cases h
 ·exact ⟨cs,h.dv_inv,e⟩
theorem d50 {op:BinOp} (hop:op = .eql\/op = .neq) {t t':TypeId} {x y:Operand} (hT:v5 P T) (ho:o.op = .binOp op t x y t') (hn:f04 (ρ x) (ρ y) (isC x) (isC y)=false)
  (h:b81 T t (ρ x) (ρ y) fun b=>K [] [] (.bl (if op = .eql then b else !b))):V9 P G o ρ H K:=by
 have mx:x∈o9 o.op:=by simp [o9,ho,Op.operands]
 have my:y∈o9 o.op:=by simp [o9,ho,Op.operands]
 have fin:∀ (r:Bool),K [] [] (.bl (if op = .eql then r else !r))->(∀ E (a:Act) w,(∀ x,x∈o9 o.op->o0 E (ρ x) (a.eval x)) ->
   (eqGuard op t x y (a.eval x) (a.eval y)).run P w = .ok () w/\(binOp .eql t (a.eval x) (a.eval y)).run P w = .ok (.bool r) w/\(binOp .neq t (a.eval x) (a.eval y)).run P w = .ok (.bool (!r)) w)->V9 P G o ρ H K:=by
  intro r hr hrun
  refine ⟨_,_,_,hr,.pure fun E a w hx=>⟨_,?_,Nt E _⟩⟩
  obtain ⟨h1,h2,h3⟩:=hrun E a w hx
  rcases hop with rfl|rfl
  ·exact Mi ho a w rfl rfl h1 h2
  ·exact Mi ho a w rfl rfl h1 h3
 have ptrs:∀ {e:TypeId},(T.get t).kind = .ptr e->∀ (w:World) (ad:Addr),(∀ D,(Op.equalIn (D+1) t (.pointer (some ad)) (.pointer none)).run P w = .ok false w)/\(∀ D,(Op.equalIn (D+1) t (.pointer none) (.pointer (some ad))).run P w = .ok false w):=by
  intro e hk w ad
  have hu:=f80 hT hk
  exact ⟨fun D=>by simp only [Op.equalIn,Sem.run_bind,run_underlying hu,Result.andThen_ok,Sem.run_pure],fun D=>by simp only [Op.equalIn,Sem.run_bind,run_underlying hu,Result.andThen_ok,Sem.run_pure,Option.isNone_some]⟩
 have ptrL:∀ {e:TypeId},(T.get t).kind = .ptr e->ρ y = .dv (.sc (.pointer none))->(∀ E v,o0 E (ρ x) v->∃ ad,v = .pointer (some ad))->K [] [] (.bl (if op = .eql then false else !false))->V9 P G o ρ H K:=by
  intro e hk hy hp hr
  refine fin false hr fun E a w hx => ?_
  obtain ⟨ad,e1⟩:=hp E _ (hx x mx)
  have e2:=O8 (hy▸hx y my)
  rw [e1,e2]
  have:=(ptrs hk w ad).1 9999
  exact ⟨D6 w op t x y fun _=>⟨(fun _ _ e=>by cases e),(fun e=>by cases e)⟩,N0 rfl this,N1 rfl this⟩
 have ptrR:∀ {e:TypeId},(T.get t).kind = .ptr e->ρ x = .dv (.sc (.pointer none))->(∀ E v,o0 E (ρ y) v->∃ ad,v = .pointer (some ad))->K [] [] (.bl (if op = .eql then false else !false))->V9 P G o ρ H K:=by
  intro e hk hy hp hr
  refine fin false hr fun E a w hx => ?_
  obtain ⟨ad,e1⟩:=hp E _ (hx y my)
  have e2:=O8 (hy▸hx x mx)
  rw [e1,e2]
  have:=(ptrs hk w ad).2 9999
  exact ⟨D6 w op t x y fun _=>⟨(fun _ _ e=>by cases e),(fun e=>by cases e)⟩,N0 rfl this,N1 rfl this⟩
 have isPtr:∀ {b:Nat} {p:List Nat} {l:t9} E v,o0 E (.ptr b p l) v->∃ ad,v = .pointer (some ad):=by
  intro b p l E v hv
  rcases hv with hv|⟨cs,hv,e⟩
  ·cases hv
  ·cases hv;exact ⟨_,e⟩
 have isRp:∀ {d:DV} E v,o0 E (.rp d) v->∃ ad,v = .pointer (some ad):=by
  intro d E v hv
  rcases hv with hv|⟨cs,hv,e⟩
  ·cases hv
  ·cases hv;exact ⟨_,e⟩
 have isIfc:∀ {q:TypeId} {z:AV} E v,o0 E (.ifc q z) v->∃ q u,v = .iface q u:=by
  intro q z E v hv
  rcases hv with hv|⟨cs,hv,e⟩
  ·cases hv
  ·cases hv;exact ⟨_,_,e⟩
 have ifcs:(T.get t).kind = .iface->∀ (w:World) q u,(∀ D,(Op.equalIn (D+1) t (.iface q u) .nilIface).run P w = .ok false w)/\(∀ D,(Op.equalIn (D+1) t .nilIface (.iface q u)).run P w = .ok false w):=by
  intro hk w q u
  obtain ⟨ms,hu⟩:=c30 hT hk
  exact ⟨fun D=>by simp only [Op.equalIn,Sem.run_bind,run_underlying hu,Result.andThen_ok,Sem.run_pure],fun D=>by simp only [Op.equalIn,Sem.run_bind,run_underlying hu,Result.andThen_ok,Sem.run_pure]⟩
 cases hxa:ρ x with
 |dv a =>
  rw [hxa] at h hn
  cases hyb:ρ y with
  |dv b =>
   rw [hyb] at h hn
   simp only [b81] at h
   obtain ⟨r,hr,hrun⟩:=i63 hT (Nat.le_refl _) h
   refine fin r hr fun E ac w hx => ?_
   obtain ⟨ca,h1,e1⟩:=a37 (hxa▸hx x mx)
   obtain ⟨cb,h2,e2⟩:=a37 (hyb▸hx y my)
   rw [e1,e2]
   refine hrun E.rd ca cb w op x y h1 h2 fun e => ?_
   rw [e] at hn
   cases hcx:isC x with
   |true=>exact .inl rfl
   |false=>cases hcy:isC y with
    |true=>exact .inr rfl
    |false=>rw [hcx,hcy] at hn;cases hn
  |ptr b p l =>
   rw [hyb] at h
   simp only [b81] at h
   split at h
   ·rename_i hk;exact ptrR hk hxa (by rw [hyb];exact isPtr) h
   ·exact h.elim
  |rp d =>
   rw [hyb] at h
   simp only [b81] at h
   split at h
   ·rename_i hk;exact ptrR hk hxa (by rw [hyb];exact isRp) h
   ·exact h.elim
  |ifc q z =>
   rw [hyb] at h
   simp only [b81] at h
   split at h
   ·rename_i hk
    refine fin false h fun E ac w hx => ?_
    obtain ⟨q,u,e1⟩:=isIfc E _ (hyb▸hx y my)
    have e2:=O8 (hxa▸hx x mx)
    rw [e1,e2]
    have:=(ifcs hk w q u).2 9999
    exact ⟨D6 w op t x y fun _=>⟨(fun _ _ e=>by cases e),(fun _ e=>by cases e)⟩,N0 rfl this,N1 rfl this⟩
   ·exact h.elim
  |_=>rw [hyb] at h;exact h.elim
 |ptr b p l =>
  rw [hxa] at h
  simp only [b81] at h
  split at h
  ·rename_i hyb hk;exact ptrL hk hyb (by rw [hxa];exact isPtr) h
  ·exact h.elim
 |rp d =>
  rw [hxa] at h
  simp only [b81] at h
  split at h
  ·rename_i hyb hk;exact ptrL hk hyb (by rw [hxa];exact isRp) h
  ·exact h.elim
 |ifc q z =>
  rw [hxa] at h
  simp only [b81] at h
  split at h
  ·rename_i hyb hk
   refine fin false h fun E ac w hx => ?_
   obtain ⟨q,u,e1⟩:=isIfc E _ (hxa▸hx x mx)
   have e2:=O8 (hyb▸hx y my)
   rw [e1,e2]
   have:=(ifcs hk w q u).1 9999
   exact ⟨D6 w op t x y fun _=>⟨(fun _ _ e=>by cases e),(fun e=>by cases e)⟩,N0 rfl this,N1 rfl this⟩
  ·exact h.elim
 |_=>rw [hxa] at h;exact h.elim
theorem e95 {x y:AV} {n:Nat} (h:a47 x y=some n):y = .dv (.sc (.slice none 0 0))/\∀ E v,o0 E x v->∃ ad cap,v = .slice ad n cap/\(ad=none->n=0):=by
 unfold a47 at h
 split at h
 ·cases h
  refine ⟨rfl,fun E v hv => ?_⟩
  rcases hv with hv|⟨cs,hv,e⟩
  ·cases hv
  ·cases hv with
   |sl b p l off len r o so m c _ _ _ _ _=>exact ⟨_,_,e,fun h=>by cases h⟩
   |sl0 b p l off a so m _ _ _=>exact ⟨_,_,e,fun _=>rfl⟩
 ·cases h
  refine ⟨rfl,fun E v hv => ?_⟩
  rcases hv with hv|⟨cs,hv,e⟩
  ·cases hv
  ·have hv:=hv.dv_inv
   cases hv with
   |roI k l r o c _ _=>exact ⟨_,_,e,fun h=>by cases h⟩
   |roI0 k a c _=>exact ⟨_,_,e,fun _=>rfl⟩
 ·cases h
  refine ⟨rfl,fun E v hv => ?_⟩
  rcases hv with hv|⟨cs,hv,e⟩
  ·cases hv
  ·have hv:=hv.dv_inv
   cases hv with
   |ro l n f css r o c _ _ _ _=>exact ⟨_,_,e,fun h=>by cases h⟩
   |ro0 l f a c _=>exact ⟨_,_,e,fun _=>rfl⟩
 ·cases h
theorem f58 {op:BinOp} {t t' e:TypeId} {x y:Operand} {n:Nat} {g:Bool} (hop:op = .eql/\g=false\/op = .neq/\g=true) (hT:v5 P T) (ho:o.op = .binOp op t x y t') (hl:a47 (ρ x) (ρ y)=some n) (hk:(T.get t).kind = .sli e) (h:K [] [] (.nq g n)):V9 P G o ρ H K:=by
 have mx:x∈o9 o.op:=by simp [o9,ho,Op.operands]
 have my:y∈o9 o.op:=by simp [o9,ho,Op.operands]
 obtain ⟨hy,hx⟩:=e95 hl
 obtain ⟨hu,_⟩:=T5 hT hk
 refine ⟨_,_,_,h,.pure fun E a w hop' => ?_⟩
 obtain ⟨ad,cap,ex,had⟩:=hx E _ (hop' x mx)
 have ey:=O8 (hy▸hop' y my)
 have heq:∀ D,(Op.equalIn (D+1) t (.slice ad n cap) (.slice none 0 0)).run P w = .ok ad.isNone w:=fun D=>by
  cases ad with
  |none=>simp only [Op.equalIn,Sem.run_bind,run_underlying hu,Result.andThen_ok,Sem.run_pure]
  |some a=>simp only [Op.equalIn,Sem.run_bind,run_underlying hu,Result.andThen_ok,Sem.run_pure];rfl
 have hg:∀ op,(eqGuard op t x y (a.eval x) (a.eval y)).run P w = .ok () w:=fun op=>by
  rw [ex,ey];exact D6 w op t x y fun _=>⟨(fun _ _ e=>by cases e),(fun e=>by cases e)⟩
 have hb:ad.isNone=true->n=0:=fun h=>had (by simpa using h)
 rcases hop with ⟨rfl,rfl⟩|⟨rfl,rfl⟩
 ·refine ⟨.bool (ad.isNone != false),Mi ho a w rfl rfl (hg _) ?_,.one (.nq false n _ hb) rfl⟩
  rw [ex,ey,Bool.bne_false];exact N0 rfl (heq 9999)
 ·refine ⟨.bool (ad.isNone != true),Mi ho a w rfl rfl (hg _) ?_,.one (.nq true n _ hb) rfl⟩
  rw [ex,ey,Bool.bne_true];exact N1 rfl (heq 9999)
theorem h20 {op:BinOp} {t t':TypeId} {x y:Operand} (hT:v5 P T) (ho:o.op = .binOp op t x y t') (h:Nl T op t (isC x) (isC y) (ρ x) (ρ y) fun v=>K [] [] v):V9 P G o ρ H K:=by
 cases op with
 |eql =>
  simp only [Nl] at h
  split at h
  ·rename_i n hl
   split at h
   ·rename_i e hk;exact f58 (.inl ⟨rfl,rfl⟩) hT ho hl hk h
   ·exact h.elim
  ·split at h
   ·rename_i hn;exact d50 (.inl rfl) hT ho hn (by simpa using h)
   ·exact h.elim
 |neq =>
  simp only [Nl] at h
  split at h
  ·rename_i n hl
   split at h
   ·rename_i e hk;exact f58 (.inr ⟨rfl,rfl⟩) hT ho hl hk h
   ·exact h.elim
  ·split at h
   ·rename_i hn;exact d50 (.inr rfl) hT ho hn (by simpa using h)
   ·exact h.elim
 |shl =>
  simp only [Nl] at h
  obtain ⟨k,a,hx,h⟩:=C5 h
  obtain ⟨k',b,hy,h0,h⟩:=C5 h
  exact B2 ho hx hy (fun E=>C9 E _ _) (fun w=>by simp only [binOp,Op.shift];rw [if_neg (by omega)];rfl) h
 |shr =>
  simp only [Nl] at h
  obtain ⟨k,a,hx,h⟩:=C5 h
  obtain ⟨k',b,hy,h0,h⟩:=C5 h
  exact B2 ho hx hy (fun E=>C9 E _ _) (fun w=>by simp only [binOp,Op.shift];rw [if_neg (by omega)];rfl) h
 |add =>
  simp only [Nl] at h
  split at h
  ·rename_i a hx
   split at h
   ·rename_i b hy
    refine d05 ho hx hy (u := .string ⟨⟨a++b⟩⟩) (fun E=>Us E _) (fun w => ?_) h.2
    have e:(⟨⟨a⟩⟩:ByteArray)++⟨⟨b⟩⟩=⟨⟨a++b⟩⟩:=by
     apply ByteArray.ext;simp
    have hs:¬ (((⟨⟨a⟩⟩:ByteArray).size+(⟨⟨b⟩⟩:ByteArray).size:Nat):Int)>IntKind.i64.max:=by
     have h1:=h.1
     show ¬ ((a.length+b.length:Nat):Int)>9223372036854775807
     omega
    simp only [binOp,Op.stringOp]
    rw [if_neg hs,e]
    rfl
   ·exact h.elim
  ·obtain ⟨k,a,b,hx,hy,h⟩:=O2 h
   exact B2 ho hx hy (fun E=>C9 E _ _) (fun w=>by simp [binOp,Op.intArith]) h
 |sub =>
  simp only [Nl] at h
  obtain ⟨k,a,b,hx,hy,h⟩:=O2 h
  exact B2 ho hx hy (fun E=>C9 E _ _) (fun w=>by simp [binOp,Op.intArith]) h
 |mul =>
  simp only [Nl] at h
  obtain ⟨k,a,b,hx,hy,h⟩:=O2 h
  exact B2 ho hx hy (fun E=>C9 E _ _) (fun w=>by simp [binOp,Op.intArith]) h
 |quo =>
  simp only [Nl] at h
  obtain ⟨k,a,b,hx,hy,h0,h⟩:=O2 h
  exact B2 ho hx hy (fun E=>C9 E _ _) (fun w=>by simp [binOp,Op.intDiv,h0]) h
 |rem =>
  simp only [Nl] at h
  obtain ⟨k,a,b,hx,hy,h0,h⟩:=O2 h
  exact B2 ho hx hy (fun E=>C9 E _ _) (fun w=>by simp [binOp,Op.intDiv,h0]) h
 |and =>
  simp only [Nl] at h
  obtain ⟨k,a,b,hx,hy,h⟩:=O2 h
  exact B2 ho hx hy (fun E=>C9 E _ _) (fun w=>by simp [binOp,Op.intBits,bits]) h
 |or =>
  simp only [Nl] at h
  obtain ⟨k,a,b,hx,hy,h⟩:=O2 h
  exact B2 ho hx hy (fun E=>C9 E _ _) (fun w=>by simp [binOp,Op.intBits,bits]) h
 |xor =>
  simp only [Nl] at h
  obtain ⟨k,a,b,hx,hy,h⟩:=O2 h
  exact B2 ho hx hy (fun E=>C9 E _ _) (fun w=>by simp [binOp,Op.intBits,bits]) h
 |andNot =>
  simp only [Nl] at h
  obtain ⟨k,a,b,hx,hy,h⟩:=O2 h
  exact B2 ho hx hy (fun E=>C9 E _ _) (fun w=>by simp [binOp,Op.intBits,bits]) h
 |lss =>
  simp only [Nl] at h
  obtain ⟨k,a,b,hx,hy,h⟩:=O2 h
  exact B2 ho hx hy (fun E=>Nt E _) (fun w=>by simp [binOp,Op.intCmp]) h
 |leq =>
  simp only [Nl] at h
  obtain ⟨k,a,b,hx,hy,h⟩:=O2 h
  exact B2 ho hx hy (fun E=>Nt E _) (fun w=>by simp [binOp,Op.intCmp]) h
 |gtr =>
  simp only [Nl] at h
  obtain ⟨k,a,b,hx,hy,h⟩:=O2 h
  exact B2 ho hx hy (fun E=>Nt E _) (fun w=>by simp [binOp,Op.intCmp]) h
 |geq =>
  simp only [Nl] at h
  obtain ⟨k,a,b,hx,hy,h⟩:=O2 h
  exact B2 ho hx hy (fun E=>Nt E _) (fun w=>by simp [binOp,Op.intCmp]) h
theorem i50 {op:UnOp} {t:TypeId} {x:Operand} (ho:o.op = .unOp op t x) (h:unK op (ρ x) fun v=>K [] [] v):V9 P G o ρ H K:=by
 have mx:x∈o9 o.op:=by simp [o9,ho,Op.operands]
 cases op with
 |not =>
  simp only [unK] at h
  split at h
  ·rename_i b hx
   refine ⟨_,_,_,h,.pure fun E a w hop=>⟨.bool (!b),?_,Xc E trivial⟩⟩
   have e:=O8 (hx▸hop x mx)
   simp [execOp,ho,e,Op.unary]
  ·rename_i b hx
   refine ⟨_,_,_,h,.pure fun E a w hop=>⟨.bool (!b),?_,Nt E _⟩⟩
   have e:=Xb (hx▸hop x mx)
   simp [execOp,ho,e,Op.unary]
  ·exact h.elim
 |neg =>
  simp only [unK] at h
  obtain ⟨k,n,hx,h⟩:=C5 h
  refine ⟨_,_,_,h,.pure fun E a w hop=>⟨_,?_,C9 E _ _⟩⟩
  have e:=K7 (hx▸hop x mx)
  simp [execOp,ho,e,Op.unary,Op.intArith]
 |xor =>
  simp only [unK] at h
  obtain ⟨k,n,hx,h⟩:=C5 h
  refine ⟨_,_,_,h,.pure fun E a w hop=>⟨_,?_,C9 E _ _⟩⟩
  have e:=K7 (hx▸hop x mx)
  simp [execOp,ho,e,Op.unary,Op.intBits,bits]
 |plus=>exact h.elim
end
end Go.Eng

namespace Go.Eng
section
variable {P:Program} {G:G1} {T:Tr} {o:Oper} {ρ:Operand->AV} {H:Nat->j6} {K:V7}
theorem Bo {t:TypeId} {l:t9} (h:Bm T t l=true):l.size=(T.get t).size/\l.isAgg=(T.get t).lay.isAgg/\t∈T.keys:=by
 unfold Bm at h
 split at h
 ·rename_i hs
  have hs:=Nat.eq_of_beq_eq_true hs
  split at h
  ·rename_i h1 h2;have ha:l.isAgg=(T.get t).lay.isAgg:=by rw [h1,h2]
   exact ⟨hs,ha,d07 hs ha⟩
  ·rename_i h1 h2;have ha:l.isAgg=(T.get t).lay.isAgg:=by rw [h1,h2]
   exact ⟨hs,ha,d07 hs ha⟩
  ·cases h
 ·cases h
theorem D1.sub {rd:Rd} {r o off s:Nat} {cs:List Value} (h:D1 rd r o cs):D1 rd r (o+off) ((cs.drop off).take s):=by
 intro j hj
 simp only [List.length_take,List.length_drop] at hj
 have:=h (off+j) (by omega)
 rw [Nat.add_assoc,this]
 simp
theorem D1.list {w:World} {r o:Nat} {cs:List Value} (h:D1 (A5 w) r o cs):∀ j v,cs[j]?=some v->w.cell? ((⟨r,o,none⟩:Addr).add j)=some v:=by
 intro j v hv
 obtain ⟨hj,rfl⟩:=List.getElem?_eq_some_iff.1 hv
 rw [Cq]
 exact h j hj
theorem W0 {t:TypeId} (hT:v5 P T) {l:t9} (hf:Bm T t l=true) {w:World} {r o:Nat} {cs:List Value} (h:D1 (A5 w) r o cs) (hl:cs.length=l.size) :
  (loadVar t ⟨r,o,none⟩).run P w = .ok (q5 l.isAgg cs) w:=by
 obtain ⟨hs,ha,ht⟩:=Bo hf
 obtain ⟨i,d,z,zs,hi,hd,_,hsz,_,_,hagg,_⟩:=(hT.entry ht).info
 cases hal:l.isAgg with
 |true =>
  rw [←ha,hal] at hagg
  have e:i.size=cs.length:=by omega
  have hr:=run_loadCells_list (P:=P) w ⟨r,o,none⟩ cs h.list
  cases d<;>first|(cases hagg;done)|(simp [loadVar,isAgg,run_underlying hd,sizeOf,typeInfo,hi,e,hr,q5])
 |false =>
  rw [←ha,hal] at hagg
  have h1:=Cp hal
  subst h1
  obtain ⟨v,rfl⟩:∃ v,cs=[v]:=by
   cases cs with
   |nil=>cases hl
   |cons v q=>cases q with
    |nil=>exact ⟨v,rfl⟩
    |cons _ _=>simp [t9.size] at hl
  have hv:w.cell? ⟨r,o,none⟩=some v:=h 0 (by simp)
  cases d<;>first|(cases hagg;done)|(simp [loadVar,isAgg,run_underlying hd,hv,q5])
theorem X1 {E:y6} {b:Nat} {p:List Nat} {l:t9} {v:Value} (h:o0 E (.ptr b p l) v):∃ r o off,v = .pointer (some ⟨r,o+off,none⟩)/\E.pl b = .at r o/\J6 (E.lay b) p=some (off,l):=by
 rcases h with h|⟨cs,h,e⟩
 ·cases h
 ·cases h with
  |ptr b p l r o off hp hl=>exact ⟨r,o,off,e,hp,hl⟩
theorem a38 {E:y6} {d:DV} {v:Value} (h:o0 E (.rp d) v):∃ r o cs,v = .pointer (some ⟨r,o,none⟩)/\u7 E.rd d cs/\D1 E.rd r o cs:=by
 rcases h with h|⟨cs,h,e⟩
 ·cases h
 ·cases h with
  |rp r o h hr=>exact ⟨r,o,_,e,h,hr⟩
theorem Fc {t:TypeId} {x:Operand} (ho:o.op = .load t x) {a:Act} {w:World} {r j:Nat} {v:Value} (hx:a.eval x = .pointer (some ⟨r,j,none⟩)) (hr:(loadVar t ⟨r,j,none⟩).run P w = .ok v w) :
  (execOp a.eval o).run P w = .ok (.value v) w:=by
 simp [execOp,ho,hx,Instr.loadAt,Instr.sureAddr,hr]
theorem Wh {n:Nat} {l:t9} {i:Nat} {o:Nat} {l':t9} (h:J6 (.arr n l) [i]=some (o,l')):i<n/\o=i*l.size/\l'=l:=by
 rw [O7] at h
 split at h
 ·rw [o6] at h;cases h;exact ⟨by assumption,by simp,rfl⟩
 ·cases h
theorem Wi {n:Nat} {l:t9} {i:Nat} {q:List Nat} {o:Nat} {l':t9} (h:J6 (.arr n l) (i::q)=some (o,l')):i<n/\∃ o',J6 l q=some (o',l')/\o=i*l.size+o':=by
 rw [O7] at h
 split at h
 ·split at h
  ·rename_i o' l'' hq;cases h;exact ⟨by assumption,o',hq,rfl⟩
  ·cases h
 ·cases h
theorem c82 (k:IntKind) (l:List Int) (i:Nat) (h:i<l.length):(l.map (Value.int k))[i]?=some (.int k (l.getD i 0)):=by
 simp [List.getD_eq_getElem?_getD,List.getElem?_eq_getElem h]
theorem g41 {t:TypeId} {x:Operand} (hT:v5 P T) (ho:o.op = .load t x) (h:f61 T t H (ρ x) K):V9 P G o ρ H K:=by
 have mx:x∈o9 o.op:=by simp [o9,ho,Op.operands]
 cases hx:ρ x with
 |rp d =>
  rw [hx] at h
  simp only [f61] at h
  split at h
  ·rename_i hf
   refine ⟨_,_,_,h,.of fun E H' a w hR _ hop _ _ => ?_⟩
   obtain ⟨r,j,cs,e,hd,hr⟩:=a38 (hx▸hop x mx)
   have hr':D1 (A5 w) r j cs:=fun i hi=>hR.rd _ _ _ (hr i hi)
   exact ⟨_,w,E,.inl (Fc ho e (W0 hT hf hr' hd.len)),.pure hR (.of (.dv hd) rfl)⟩
  ·exact h.elim
 |ptr b p l =>
  rw [hx] at h
  simp only [f61] at h
  split at h
  ·rename_i hf
   cases hb:H b with
   |dead=>rw [hb] at h;exact h.elim
   |mp f0 es=>rw [hb] at h;exact h.elim
   |mpn f0 es kd c=>rw [hb] at h;exact h.elim
   |lp L s=>rw [hb] at h;exact h.elim
   |var y =>
    rw [hb] at h
    refine ⟨_,_,_,h,.of fun E H' a w hR _ hop hrd _ => ?_⟩
    obtain ⟨r,j,off,e,hp,hl⟩:=X1 (hx▸hop x mx)
    have hbr:=hR.blk b
    rw [hrd b (by simp),hb] at hbr
    obtain ⟨r',o',cs,hp',hlay,hy,hrs,_,_⟩:=hbr
    rw [hp] at hp'
    injection hp' with h1 h2
    subst h1;subst h2
    rw [hlay] at hl
    obtain ⟨hya,hyl⟩:=hy.at hl
    have hlen:((cs.drop off).take l.size).length=l.size:=by rw [hya.len,hyl]
    refine ⟨_,w,E,.inl (Fc ho e (W0 hT hf hrs.sub hlen)),.pure hR (.of hya ?_)⟩
    unfold AV.isAgg;rw [hyl]
   |rowI k li =>
    rw [hb] at h
    simp only at h
    split at h
    ·rename_i i
     refine ⟨_,_,_,h,.of fun E H' a w hR _ hop hrd _ => ?_⟩
     obtain ⟨r,j,off,e,hp,hl⟩:=X1 (hx▸hop x mx)
     have hbr:=hR.blk b
     rw [hrd b (by simp),hb] at hbr
     obtain ⟨hlay,hn|⟨r',o',hp',hrs,_⟩⟩:=hbr
     ·rw [hn.1] at hp;cases hp
     rw [hp] at hp'
     injection hp' with h1 h2
     subst h1;subst h2
     rw [hlay] at hl
     obtain ⟨hi,hoff,hle⟩:=Wh hl
     subst hoff;subst hle
     simp only [t9.size,Nat.mul_one] at e ⊢
     have hc:D1 (A5 w) r (j+i) [.int k (li.getD i 0)]:=by
      intro q hq
      obtain rfl:q=0:=by simp at hq;exact hq
      have:=hrs i (by simpa using hi)
      rw [Nat.add_zero]
      show A5 w r (j+i)=_
      rw [this]
      have hg:=c82 k li i hi
      rw [List.getElem?_eq_getElem (by simpa using hi)] at hg
      exact hg
     exact ⟨_,w,E,.inl (Fc ho e (W0 hT hf hc rfl)),.pure hR (C9 E _ _)⟩
    ·split at h
     ·refine ⟨_,_,_,h,.of fun E H' a w hR _ hop hrd _ => ?_⟩
      obtain ⟨r,j,off,e,hp,hl⟩:=X1 (hx▸hop x mx)
      have hbr:=hR.blk b
      rw [hrd b (by simp),hb] at hbr
      obtain ⟨hlay,hn|⟨r',o',hp',hrs,_⟩⟩:=hbr
      ·rw [hn.1] at hp;cases hp
      rw [hp] at hp'
      injection hp' with h1 h2
      subst h1;subst h2
      rw [hlay,o6] at hl
      cases hl
      have hd:u7 E.rd (.ints k li.length li) (li.map (.int k)) := .ints k li.length li rfl
      rw [Nat.add_zero] at e
      exact ⟨_,w,E,.inl (Fc ho e (W0 hT hf hrs (by simp [t9.size]))),.pure hR (.of (.dv hd) rfl)⟩
     ·exact h.elim
    ·exact h.elim
   |frzI k li =>
    rw [hb] at h
    simp only at h
    split at h
    ·rename_i i
     refine ⟨_,_,_,h,.of fun E H' a w hR _ hop hrd _ => ?_⟩
     obtain ⟨r,j,off,e,hp,hl⟩:=X1 (hx▸hop x mx)
     have hbr:=hR.blk b
     rw [hrd b (by simp),hb] at hbr
     obtain ⟨hlay,hn|⟨r',o',hp',hrs⟩⟩:=hbr
     ·rw [hn.1] at hp;cases hp
     rw [hp] at hp'
     injection hp' with h1 h2
     subst h1;subst h2
     rw [hlay] at hl
     obtain ⟨hi,hoff,hle⟩:=Wh hl
     subst hoff;subst hle
     simp only [t9.size,Nat.mul_one] at e ⊢
     have hc:D1 (A5 w) r (j+i) [.int k (li.getD i 0)]:=by
      intro q hq
      obtain rfl:q=0:=by simp at hq;exact hq
      have:=hR.rd _ _ _ (hrs i (by simpa using hi))
      rw [Nat.add_zero]
      show w.cell? _=_
      rw [this]
      have hg:=c82 k li i hi
      rw [List.getElem?_eq_getElem (by simpa using hi)] at hg
      exact hg
     exact ⟨_,w,E,.inl (Fc ho e (W0 hT hf hc rfl)),.pure hR (C9 E _ _)⟩
    ·exact h.elim
   |row la n f =>
    rw [hb] at h
    simp only at h
    split at h
    ·rename_i i q
     refine ⟨_,_,_,h,.of fun E H' a w hR _ hop hrd _ => ?_⟩
     obtain ⟨r,j,off,e,hp,hl⟩:=X1 (hx▸hop x mx)
     have hbr:=hR.blk b
     rw [hrd b (by simp),hb] at hbr
     obtain ⟨hlay,hn|⟨r',o',css,hp',hrep,hrl,hrs,_⟩⟩:=hbr
     ·rw [hn.1] at hp;cases hp
     rw [hp] at hp'
     injection hp' with h1 h2
     subst h1;subst h2
     rw [hlay] at hl
     obtain ⟨hi,off',hq,hoff⟩:=Wi hl
     subst hoff
     obtain ⟨hda,hdl⟩:=(hrep i hi).at (by rw [hrl i hi];exact hq)
     have hlen:(((css i).drop off').take l.size).length=l.size:=by rw [hda.len,hdl]
     have hc:=(hrs i hi).sub (off:=off') (s:=l.size)
     rw [Nat.add_assoc] at hc
     refine ⟨_,w,E,.inl (Fc ho e (W0 hT hf hc hlen)),.pure hR (.of (.dv hda) ?_)⟩
     unfold AV.isAgg;rw [AV.lay,hdl]
    ·exact h.elim
   |frz la n f =>
    rw [hb] at h
    simp only at h
    split at h
    ·rename_i i q
     refine ⟨_,_,_,h,.of fun E H' a w hR _ hop hrd _ => ?_⟩
     obtain ⟨r,j,off,e,hp,hl⟩:=X1 (hx▸hop x mx)
     have hbr:=hR.blk b
     rw [hrd b (by simp),hb] at hbr
     obtain ⟨hlay,hn|⟨r',o',css,hp',hrep,hrl,hrs⟩⟩:=hbr
     ·rw [hn.1] at hp;cases hp
     rw [hp] at hp'
     injection hp' with h1 h2
     subst h1;subst h2
     rw [hlay] at hl
     obtain ⟨hi,off',hq,hoff⟩:=Wi hl
     subst hoff
     obtain ⟨hda,hdl⟩:=(hrep i hi).at (by rw [hrl i hi];exact hq)
     have hlen:(((css i).drop off').take l.size).length=l.size:=by rw [hda.len,hdl]
     have hc0:D1 (A5 w) r (j+i*la.size) (css i):=fun q hq=>hR.rd _ _ _ (hrs i hi q hq)
     have hc:=hc0.sub (off:=off') (s:=l.size)
     rw [Nat.add_assoc] at hc
     refine ⟨_,w,E,.inl (Fc ho e (W0 hT hf hc hlen)),.pure hR (.of (.dv hda) ?_)⟩
     unfold AV.isAgg;rw [AV.lay,hdl]
    ·exact h.elim
  ·exact h.elim
 |_=>rw [hx] at h;exact h.elim
theorem Ni {t:TypeId} {f:Nat} {l:t9} {K:t9->Prop} (hT:v5 P T) (h:Nm T t f l K):∃ l',K l'/\∃ (fields:Array Field) (fd:Field) (off:Nat),P.underlying t=some (.struct fields)/\fields[f]?=some fd /\
  fd.offset=off/\J6 l [f]=some (off,l')/\Bm T fd.type l'=true/\P.cellsOf fd.type≠0/\(∃ i,P.info? fd.type=some i):=by
 unfold Nm at h
 split at h
 ·rename_i fs hk
  obtain ⟨fields,hu,hfs,hinfo⟩:=Nu hT hk
  split at h
  ·rename_i off ft hf
   split at h
   ·rename_i off' l' hl
    split at h
    ·rename_i h1 h2 h3
     obtain rfl:=Nat.eq_of_beq_eq_true h1
     rw [←hfs,List.getElem?_map,Option.map_eq_some_iff] at hf
     obtain ⟨fd,hfd,he⟩:=hf
     injection he with e1 e2
     subst e1;subst e2
     obtain ⟨i,hi,hsz⟩:=hinfo (fd.offset,fd.type) (by rw [←hfs];exact List.mem_map.2 ⟨fd,List.mem_of_getElem? hfd,rfl⟩)
     refine ⟨l',h,fields,fd,fd.offset,hu,by simpa using hfd,rfl,hl,h2,?_,i,hi⟩
     simp only [Program.cellsOf,hi,Option.map_some,Option.getD_some,hsz]
     intro e
     rw [e] at h3
     cases h3
    ·exact h.elim
   ·exact h.elim
  ·exact h.elim
 ·exact h.elim
theorem Yd {t:TypeId} {f:Nat} {fields:Array Field} {fd:Field} {i:TypeInfo} (hu:P.underlying t=some (.struct fields)) (hf:fields[f]?=some fd) (hi:P.info? fd.type=some i) (hne:P.cellsOf fd.type≠0) (w:World) (r j:Nat) :
  (Instr.fieldAt t (.pointer (some ⟨r,j,none⟩)) f).run P w = .ok (.pointer (some ⟨r,j+fd.offset,none⟩)) w:=by
 have h0:i.size≠0:=by simpa [Program.cellsOf,hi] using hne
 simp [Instr.fieldAt,run_underlying hu,hf,Instr.sureAddr,fieldPlace,sizeOf,typeInfo,hi,h0,Cq]
theorem a39 {t:TypeId} {x:Operand} {f:Nat} (hT:v5 P T) (ho:o.op = .fieldAddr t x f)
  (h:match ρ x with
  |.ptr b p l=>Nm T t f l fun l'=>K [] [] (.ptr b (p++[f]) l')
  |.rp d=>Nm T t f d.lay fun _=>K [] [] (.rp (d.part f))
  |_=>False):V9 P G o ρ H K:=by
 have mx:x∈o9 o.op:=by simp [o9,ho,Op.operands]
 cases hx:ρ x with
 |ptr b p l =>
  rw [hx] at h
  obtain ⟨l',hk,fields,fd,off,hu,hf,hoff,hl,hfit,hne,i,hi⟩:=Ni hT h
  refine ⟨_,_,_,hk,.pure fun E a w hop => ?_⟩
  obtain ⟨r,j,o1,e,hp,hl1⟩:=X1 (hx▸hop x mx)
  subst hoff
  refine ⟨.pointer (some ⟨r,j+o1+fd.offset,none⟩),?_,?_⟩
  ·simp [execOp,ho,e,Yd hu hf hi hne]
  ·have:=r6.ptr (E:=E) b (p++[f]) l' r j (o1+fd.offset) hp (Qd hl1 hl)
   rw [←Nat.add_assoc] at this
   exact .one this rfl
 |rp d =>
  rw [hx] at h
  obtain ⟨l',hk,fields,fd,off,hu,hf,hoff,hl,hfit,hne,i,hi⟩:=Ni hT h
  refine ⟨_,_,_,hk,.pure fun E a w hop => ?_⟩
  obtain ⟨r,j,cs,e,hd,hr⟩:=a38 (hx▸hop x mx)
  subst hoff
  refine ⟨.pointer (some ⟨r,j+fd.offset,none⟩),?_,?_⟩
  ·simp [execOp,ho,e,Yd hu hf hi hne]
  ·exact .one (.rp r (j+fd.offset) (hd.part hl).1 hr.sub) rfl
 |_=>rw [hx] at h;exact h.elim
theorem e96 {t:TypeId} {x:Operand} {f:Nat} (hT:v5 P T) (ho:o.op = .field t x f) (h:Nm T t f (ρ x).lay fun _=>K [] [] ((ρ x).part f)):V9 P G o ρ H K:=by
 have mx:x∈o9 o.op:=by simp [o9,ho,Op.operands]
 obtain ⟨l',hk,fields,fd,off,hu,hf,hoff,hl,hfit,hne,i,hi⟩:=Ni hT h
 refine ⟨_,_,_,hk,.pure fun E a w hop => ?_⟩
 subst hoff
 have hagg:(ρ x).isAgg=true:=by
  unfold AV.isAgg
  cases e:(ρ x).lay with
  |one=>rw [e] at hl;cases hl
  |_=>rfl
 rcases hop x mx with hv|⟨cs,hr,e⟩
 ·rw [hv] at hl;cases hl
 ·rw [hagg] at e
  obtain ⟨hs,ha,ht⟩:=Bo hfit
  obtain ⟨hp,hpl⟩:=hr.part hl
  have e:a.eval x = .agg cs.toArray:=e
  refine ⟨_,?_,.of hp rfl⟩
  have:=Ut hT w ht hs ha (cs:=cs) (off:=fd.offset) (by rw [hr.len];exact R1 hl)
  have hf':fields[f]?=some fd:=hf
  unfold AV.isAgg
  rw [hpl]
  simp only [execOp,ho,e,Instr.field,Sem.run_bind,run_underlying hu,Result.andThen_ok,hf',asAgg,Sem.run_pure]
  rw [this];rfl
end
end Go.Eng

namespace Go.Eng
theorem Ix (r:Nat):∀ (vs:List Value) (j:Nat) (w:World) (r':Nat),r'≠r->(w.setCells r j vs).heap[r']?=w.heap[r']?
 |[],_,_,_,_=>rfl
 |v::vs,j,w,r',h=>by rw [World.setCells,Ix r vs _ _ r' h,heap_setCell_other w _ r' v h]
theorem Lh (r:Nat):∀ (vs:List Value) (j:Nat) (w:World),(w.setCells r j vs).heap.size=w.heap.size
 |[],_,_=>rfl
 |v::vs,j,w=>by rw [World.setCells,Lh r vs,World.size_setCell]
theorem Ph (r:Nat):∀ (vs:List Value) (j:Nat) (w:World),(w.setCells r j vs).os=w.os/\(w.setCells r j vs).tape=w.tape/\(w.setCells r j vs).output=w.output
 |[],_,_=>⟨rfl,rfl,rfl⟩
 |v::vs,j,w=>by rw [World.setCells];exact Ph r vs _ _
theorem b78 (w:World) (a:Addr) (v:Value) (r:Nat):(w.setCell a v).shape? r=w.shape? r:=by
 simp only [World.shape?,World.setCell,Array.getElem?_modify]
 by_cases e:a.block=r
 ·subst e
  rw [if_pos rfl]
  cases h:w.heap[a.block]? with
  |none=>rfl
  |some x=>cases x<;>simp<;>split<;>simp
 ·rw [if_neg e]
theorem Iy (r:Nat):∀ (vs:List Value) (j:Nat) (w:World) (q:Nat),(w.setCells r j vs).shape? q=w.shape? q
 |[],_,_,_=>rfl
 |v::vs,j,w,q=>by rw [World.setCells,Iy r vs,b78]
section
variable {P:Program} {G:G1} {T:Tr}
theorem Bp {w:World} {r j:Nat} {cy:List Value} (hc:∀ q,q<cy.length->∃ v,w.cell? ⟨r,j+q,none⟩=some v) (i:Nat) :
  (w.setCells r j cy).cell? ⟨r,i,none⟩=if h:j≤i/\i<j+cy.length then some (cy[i-j]'(by omega)) else w.cell? ⟨r,i,none⟩:=by
 split
 ·rename_i h
  have:=World.cell?_setCells_in r cy j w (fun q hq=>Option.isSome_iff_exists.2 (hc q hq)) (i-j) (by omega)
  rw [show j+(i-j)=i from by omega] at this
  exact this
 ·rename_i h
  exact World.cell?_setCells_out r cy j w _ fun _ _=>by simp only;omega
theorem Qy {w:World} {r j:Nat} {cy:List Value} (hc:∀ q,q<cy.length->(∃ v,w.cell? ⟨r,j+q,none⟩=some v)/\w.frozen? ⟨r,j+q,none⟩=false) (h1:∀ v,v∈cy->Iz v) :
  (storeCells ⟨r,j,none⟩ cy).run P w = .ok () (w.setCells r j cy) :=
 run_storeCells_cells (P:=P) r j cy 0 w (fun q hq=>Option.isSome_iff_exists.2 (hc q hq).1) (fun q hq=>(hc q hq).2) (fun v hv=>d84 (h1 v hv))
theorem Fa.cells {E:y6} {b:Nat} {w:World} {r o s:Nat} (h:Fa E b w r o s) {j:Nat} {cy:List Value} (hlo:o≤j) (hhi:j+cy.length≤E.top b) :
  ∀ q,q<cy.length->(∃ v,w.cell? ⟨r,j+q,none⟩=some v)/\w.frozen? ⟨r,j+q,none⟩=false:=fun q hq=>h.2 (j+q) (by omega) (by omega)
theorem Fa.write {E:y6} {b:Nat} {w:World} {r o s:Nat} (h:Fa E b w r o s) {j:Nat} {cy:List Value} (hlo:o≤j) (hhi:j+cy.length≤E.top b) {s':Nat} (hs:o+s'≤E.top b):Fa E b (w.setCells r j cy) r o s':=by
 refine ⟨hs,fun i hi hi'=>⟨?_,?_⟩⟩
 ·rw [Bp fun q hq=>(h.cells hlo hhi q hq).1]
  split
  ·exact ⟨_,rfl⟩
  ·exact (h.2 i hi hi').1
 ·rw [World.frozen?_setCells];exact (h.2 i hi hi').2
theorem q9.cells {E:y6} {H:Nat->j6} {w:World} (hR:Q9 E H w) {b r o s:Nat} (hb:(H b).own=true) (hp:E.pl b = .at r o) (hm:Fa E b w r o s) {j:Nat} {cy:List Value} (hlo:o≤j) (hhi:j+cy.length≤E.top b)
  {x:j6} (hblk:y9 E b (w.setCells r j cy) x) {v:AV} {u:Value} (hv:o0 E v u):q9 E H w [(b,x)] v u E (w.setCells r j cy):=by
 obtain ⟨h1,h2,h3⟩:=Ph r cy j w
 refine q9.write hR hb hp h1 h2 h3 (Lh _ _ _ _) (fun r' hr=>Ix r cy j w r' hr) (fun i hi => ?_) (fun i=>World.frozen?_setCells _ _ _ _ _) (Iy _ _ _ _ _) hblk hv
 rw [Bp fun q hq=>(hm.cells hlo hhi q hq).1,dif_neg (by omega)]
theorem Ds {w:World} {r o off:Nat} {cs cy:List Value} (h:D1 (A5 w) r o cs) (hle:off+cy.length≤cs.length):D1 (A5 (w.setCells r (o+off) cy)) r o (u5 cs off cy):=by
 have hc:∀ q,q<cy.length->∃ v,w.cell? ⟨r,o+off+q,none⟩=some v:=fun q hq=>⟨_,by rw [Nat.add_assoc];exact h (off+q) (by omega)⟩
 intro j hj
 have hlen:(u5 cs off cy).length=cs.length:=by unfold u5;simp only [List.length_append,List.length_take,List.length_drop];omega
 show (w.setCells r (o+off) cy).cell? ⟨r,o+j,none⟩=_
 rw [Bp hc,←List.getElem?_eq_getElem hj]
 unfold u5
 split
 ·rename_i hh
  rw [List.getElem?_append_left (by simp only [List.length_append,List.length_take];omega),List.getElem?_append_right (by simp only [List.length_take];omega),List.getElem?_eq_getElem (by simp only [List.length_take];omega)]
  congr 2
  simp only [List.length_take];omega
 ·rename_i hh
  have:=h j (by omega)
  show A5 w r (o+j)=_
  rw [this,←List.getElem?_eq_getElem]
  by_cases hj':j<off
  ·rw [List.append_assoc,List.getElem?_append_left (by simp only [List.length_take];omega),List.getElem?_take_of_lt hj']
  ·rw [List.getElem?_append_right (by simp only [List.length_append,List.length_take];omega),List.getElem?_drop]
   congr 1
   simp only [List.length_append,List.length_take];omega
theorem d51 {w:World} {r o j:Nat} {cs cy:List Value} (h:D1 (A5 w) r o cs) (hc:∀ q,q<cy.length->∃ v,w.cell? ⟨r,j+q,none⟩=some v) (ha:o+cs.length≤j\/j+cy.length≤o):D1 (A5 (w.setCells r j cy)) r o cs:=by
 intro i hi
 show (w.setCells r j cy).cell? ⟨r,o+i,none⟩=_
 rw [Bp hc,dif_neg (by omega)]
 exact h i hi
variable {o:Oper} {ρ:Operand->AV} {H:Nat->j6} {K:V7}
theorem e97 {t:TypeId} {y x:Operand} (ho:o.op = .store t y x) {a:Act} {w w':World} {r j:Nat} (hy:a.eval y = .pointer (some ⟨r,j,none⟩)) {i:TypeInfo} (hi:P.info? t=some i)
  (hs:(a.eval x).cells.toList.length=i.size) (hr:(storeCells ⟨r,j,none⟩ (a.eval x).cells.toList).run P w = .ok () w'):(execOp a.eval o).run P w = .ok .skip w':=by
 have hs':(a.eval x).cells.size=i.size:=by simpa using hs
 simp [execOp,ho,hy,Instr.storeAt,Instr.sureAddr,storeVar,sizeOf,typeInfo,hi,hs',hr]
end
end Go.Eng

namespace Go.Eng
section
variable {P:Program} {G:G1} {T:Tr} {o:Oper} {ρ:Operand->AV} {H:Nat->j6} {K:V7}
theorem Li {t:TypeId} {y x:Operand} (hT:v5 P T) (ho:o.op = .store t y x) {b:Nat} {p:List Nat} {l:t9} (hy:ρ y = .ptr b p l) (hsol:Fb (ρ x)=true) (hfit:Bm T t (ρ x).lay=true)
  {z:j6} (hown:(H b).own=true) (hK:K [b] [(b,z)] .any)
  (hz:∀ E w v r j off cy,y9 E b w (H b)->E.pl b = .at r j->J6 (E.lay b) p=some (off,l)->o0 E (ρ x) v->v.cells.toList=cy->cy.length=l.size->r6 E (Z7 (ρ x)) cy->(∀ u,u∈cy->Iz u) ->
   (∃ s,Fa E b w r j s/\j+off+cy.length≤E.top b)/\y9 E b (w.setCells r (j+off) cy) z) (hl:(ρ x).lay=l):V9 P G o ρ H K:=by
 have mx:x∈o9 o.op:=by simp [o9,ho,Op.operands]
 have my:y∈o9 o.op:=by simp [o9,ho,Op.operands]
 refine ⟨_,_,_,hK,.of fun E H' a w hR _ hop hrd _ => ?_⟩
 obtain ⟨r,j,off,e,hp,hloc⟩:=X1 (hy▸hop y my)
 obtain ⟨cy,hcy,hcells,_⟩:=(hop x mx).inv hsol
 obtain ⟨cy',hcy',hcells',_⟩:=(Br (hop x mx)).inv (Jg _ hsol)
 have e2:cy'=cy:=by rw [←hcells',←hcells]
 subst e2
 obtain ⟨hs,ha,ht⟩:=Bo hfit
 obtain ⟨i,d,zz,zs,hi,hd,_,hsz,_⟩:=(hT.entry ht).info
 have hlen:cy'.length=l.size:=by rw [hcy.len,hl]
 have hsing:=hcy.cells hsol
 have hHb:=hrd b (by simp)
 have hbr:=hR.blk b
 rw [hHb] at hbr
 obtain ⟨⟨s,hm,hhi⟩,hblk⟩:=hz E w (a.eval x) r j off cy' hbr hp hloc (hop x mx) hcells hlen hcy' hsing
 have hrun:=Qy (P:=P) (w:=w) (r:=r) (j:=j+off) (cy:=cy') (hm.cells (by omega) hhi) hsing
 refine ⟨undef,_,E,.inr ⟨e97 ho e hi (by rw [hcells,hlen,←hl,hs,hsz]) (by rw [hcells];exact hrun),rfl⟩,?_⟩
 exact q9.cells hR (by rw [hHb];exact hown) hp hm (by omega) hhi hblk (.any E _)
theorem e98 {t:TypeId} {y x:Operand} (hT:v5 P T) (ho:o.op = .store t y x) (h:f05 T t H (ρ y) (ρ x) K):V9 P G o ρ H K:=by
 cases hy:ρ y with
 |ptr b p l =>
  rw [hy] at h
  simp only [f05] at h
  split at h
  ·rename_i hsol hfit hl
   have hl:=of_decide_eq_true hl
   cases hb:H b with
   |dead=>rw [hb] at h;exact h.elim
   |mp f0 es=>rw [hb] at h;exact h.elim
   |mpn f0 es kd c=>rw [hb] at h;exact h.elim
   |lp L s=>rw [hb] at h;exact h.elim
   |frzI k li=>rw [hb] at h;exact h.elim
   |frz la n f=>rw [hb] at h;exact h.elim
   |var z =>
    rw [hb] at h
    simp only at h
    split at h
    ·rename_i hlay
     have hlay:=of_decide_eq_true hlay
     refine Li hT ho hy hsol hfit (by rw [hb];rfl) h ?_ hl
     intro E w v r j off cy hbr hp hloc hv hcells hlen hrep hsing
     rw [hb] at hbr
     obtain ⟨r',o',cs,hp',hEl,hz,hrs,htop,hm⟩:=hbr
     rw [hp] at hp'
     injection hp' with h1 h2
     subst h1;subst h2
     rw [hEl] at hloc
     have hle:=R1 hloc
     rw [←hlen,←hz.len] at hle
     refine ⟨⟨_,hm,by omega⟩,r,j,u5 cs off cy,hp,by rw [hEl,hlay],hz.setP hloc hrep (by rw [Mh,hl]) hlay,Ds hrs hle,?_,?_⟩
     ·rw [htop];congr 1;unfold u5;simp only [List.length_append,List.length_take,List.length_drop];omega
     ·refine hm.write (by omega) (by omega) ?_
      rw [htop];unfold u5;simp only [List.length_append,List.length_take,List.length_drop];omega
    ·exact h.elim
   |rowI k li =>
    rw [hb] at h
    simp only at h
    split at h
    ·rename_i i
     obtain ⟨k',n,hx,h⟩:=C5 h
     split at h
     ·rename_i hk
      obtain rfl:=F4 hk
      refine Li hT ho hy hsol hfit (by rw [hb];rfl) h ?_ hl
      intro E w v r j off cy hbr hp hloc hv hcells hlen hrep hsing
      rw [hb] at hbr
      obtain ⟨hEl,hn|⟨r',o',hp',hrs,hm⟩⟩:=hbr
      ·rw [hn.1] at hp;cases hp
      rw [hp] at hp'
      injection hp' with h1 h2
      subst h1;subst h2
      rw [hEl] at hloc
      obtain ⟨hi,hoff,hle⟩:=Wh hloc
      subst hle
      simp only [t9.size,Nat.mul_one] at hoff hlen
      subst hoff
      rw [hx] at hrep
      have hcy:cy=[.int k n]:=by cases hrep.dv_inv;rfl
      subst hcy
      have h1:=hm.1
      refine ⟨⟨_,hm,by simp;omega⟩,?_⟩
      refine ⟨by rw [hEl,List.length_set],.inr ⟨r,j,hp,?_,?_⟩⟩
      ·rw [Jf k li off n hi];exact Ds hrs (by simp;omega)
      ·rw [List.length_set];exact hm.write (by omega) (by simp;omega) h1
     ·exact h.elim
    ·exact h.elim
   |row la m f =>
    rw [hb] at h
    simp only at h
    split at h
    ·rename_i i q d hd
     split at h
     ·rename_i e he
      split at h
      ·rename_i hel
       have hel:=of_decide_eq_true hel
       refine Li hT ho hy hsol hfit (by rw [hb];rfl) h ?_ hl
       intro E w v r j off cy hbr hp hloc hv hcells hlen hrep hsing
       rw [hb] at hbr
       obtain ⟨hEl,hn|⟨r',o',css,hp',hrf,hfl,hrs,hm⟩⟩:=hbr
       ·rw [hn.1] at hp;cases hp
       rw [hp] at hp'
       injection hp' with h1 h2
       subst h1;subst h2
       rw [hEl] at hloc
       obtain ⟨hi,off',hq,hoff⟩:=Wi hloc
       subst hoff
       have hle:=R1 hq
       have hmul:(i+1)*la.size≤m*la.size:=Nat.mul_le_mul_right _ hi
       rw [Nat.add_mul,Nat.one_mul] at hmul
       have h1:=hm.1
       have hci:(css i).length=la.size:=by rw [(hrf i hi).len,hfl i hi]
       rw [hd] at hrep
       have hnew:=(hrf i hi).setA (E:=E) (p:=q) (y := .dv d) (by rw [hfl i hi];exact hq) hrep (by rw [←hd,Mh,hl]) (by rw [he,hfl i hi];exact hel)
       rw [he] at hnew
       have hnew:=hnew.dv_inv
       have hcell:∀ z,z<cy.length->∃ v,w.cell? ⟨r,j+(i*la.size+off')+z,none⟩=some v:=fun z hz=>(hm.2 _ (by omega) (by omega)).1
       refine ⟨⟨_,hm,by omega⟩,hEl,.inr ⟨r,j,fun q=>if q=i then u5 (css i) off' cy else css q,hp,?_,?_,?_,?_⟩⟩
       ·intro q hq
        by_cases e1:q=i
        ·simp only [if_pos e1];exact hnew
        ·simp only [if_neg e1];exact hrf q hq
       ·intro q hq
        by_cases e1:q=i
        ·simp only [if_pos e1];exact hel
        ·simp only [if_neg e1];exact hfl q hq
       ·intro q hq
        by_cases e1:q=i
        ·subst e1
         simp only [if_pos]
         have:=Ds (w:=w) (hrs q hq) (off:=off') (cy:=cy) (by omega)
         rw [Nat.add_assoc] at this
         exact this
        ·simp only [if_neg e1]
         refine d51 (hrs q hq) hcell ?_
         have hcq:(css q).length=la.size:=by rw [(hrf q hq).len,hfl q hq]
         rcases Nat.lt_or_gt_of_ne e1 with hlt|hgt
         ·have hmul2:(q+1)*la.size≤i*la.size:=Nat.mul_le_mul_right _ hlt
          rw [Nat.add_mul,Nat.one_mul] at hmul2
          exact .inl (by omega)
         ·have hmul2:(i+1)*la.size≤q*la.size:=Nat.mul_le_mul_right _ hgt
          rw [Nat.add_mul,Nat.one_mul] at hmul2
          exact .inr (by omega)
       ·exact hm.write (by omega) (by omega) h1
      ·exact h.elim
     ·exact h.elim
    ·exact h.elim
  ·exact h.elim
 |_=>rw [hy] at h;exact h.elim
end
end Go.Eng

namespace Go.Eng
section
variable {P:Program} {G:G1} {T:Tr} {o:Oper} {ρ:Operand->AV} {H:Nat->j6} {K:V7}
theorem Gf {ix:Operand} {len:Int} {K:Nat->Prop} (h:b82 ix (ρ ix) len K):∃ j:Nat,(j:Int)<len/\K j/\∀ E (a:Act),o0 E (ρ ix) (a.eval ix)->∃ k,a.eval ix = .int k (j:Int):=by
 unfold b82 at h
 split at h
 ·rename_i k n
  exact ⟨n,h.1,h.2,fun E a _=>⟨k,rfl⟩⟩
 ·obtain ⟨k,i,hx,hb,h⟩:=C5 h
  refine ⟨i.toNat,by omega,h,fun E a hv=>⟨k,?_⟩⟩
  rw [hx] at hv
  rw [K7 hv]
  congr 1
  omega
theorem S1 {E:y6} {b:Nat} {p:List Nat} {l:t9} {off len:Nat} {v:Value} (h:o0 E (.sl b p l off len) v) :
  (∃ r o so n c,v = .slice (some ⟨r,o+so+off*l.size,none⟩) len c/\E.pl b = .at r o/\J6 (E.lay b) p=some (so,.arr n l)/\off+len≤n/\len≤c/\o+so+(off+c)*l.size≤E.top b) \/
  (∃ a so n,v = .slice a 0 0/\len=0/\E.pl b ≠ .unborn/\J6 (E.lay b) p=some (so,.arr n l)/\off≤n):=by
 rcases h with h|⟨cs,h,e⟩
 ·cases h
 ·cases h with
  |sl b p l off len r o so n c hp hl hn hc ht=>exact .inl ⟨r,o,so,n,c,e,hp,hl,hn,hc,ht⟩
  |sl0 b p l off a so n hp hl hn=>exact .inr ⟨a,so,n,e,rfl,hp,hl,hn⟩
theorem A0 {e:TypeId} {l:t9} (hT:v5 P T) (h:Bm T e l=true):P.cellsOf e=l.size:=by
 obtain ⟨hs,_,hk⟩:=Bo h
 obtain ⟨i,d,z,zs,hi,hd,_,hsz,_⟩:=(hT.entry hk).info
 simp [Program.cellsOf,hi,hsz,hs]
theorem M8 {t:TypeId} {i:TypeInfo} (hi:P.info? t=some i) (w:World):(sizeOf t).run P w = .ok (P.cellsOf t) w:=by
 simp [sizeOf,typeInfo,hi,Program.cellsOf]
theorem Ot {t e:TypeId} {n:Nat} (hu:P.underlying t=some (.array n e)) (hi:∃ i,P.info? e=some i) (w:World) (r q j:Nat) (k:IntKind) (hj:(j:Int)<n) :
  (Instr.indexAt t (.pointer (some ⟨r,q,none⟩)) (.int k (j:Int))).run P w = .ok (.pointer (some ⟨r,q+j*P.cellsOf e,none⟩)) w:=by
 obtain ⟨i,hi⟩:=hi
 have hj':j<n:=by omega
 simp [Instr.indexAt,asIntOf,run_underlying hu,Instr.sureAddr,hj',M8 hi,Cq]
theorem Ce {t e:TypeId} (hu:P.underlying t=some (.slice e)) (hi:∃ i,P.info? e=some i) (w:World) (r q j len c:Nat) (k:IntKind) (hj:(j:Int)<len) :
  (Instr.indexAt t (.slice (some ⟨r,q,none⟩) len c) (.int k (j:Int))).run P w = .ok (.pointer (some ⟨r,q+j*P.cellsOf e,none⟩)) w:=by
 obtain ⟨i,hi⟩:=hi
 have hj':j<len:=by omega
 simp [Instr.indexAt,asIntOf,run_underlying hu,hj',M8 hi,Cq]
theorem T7 {t:TypeId} {x ix:Operand} (ho:o.op = .indexAddr t x ix) {a:Act} {w:World} {v:Value} (h:(Instr.indexAt t (a.eval x) (a.eval ix)).run P w = .ok v w):(execOp a.eval o).run P w = .ok (.value v) w:=by
 simp [execOp,ho,h]
theorem u7.slI {rd:Rd} {k:IntKind} {l:List Int} {v:Value} (h:u7 rd (.roI k l) [v]):(∃ r o c,v = .slice (some ⟨r,o,none⟩) l.length c/\l.length≤c/\D1 rd r o (l.map (.int k)))\/(l=[]/\∃ a c,v = .slice a 0 c/\(a=none->c=0)):=by
 cases h with
 |roI k l r o c hc h=>exact .inl ⟨r,o,c,rfl,hc,h⟩
 |roI0 k a c h=>exact .inr ⟨rfl,a,c,rfl,h⟩
theorem u7.sl {rd:Rd} {l:t9} {n:Nat} {f:Nat->DV} {v:Value} (h:u7 rd (.ro l n f) [v]) :
  (∃ (r o c:Nat) (css:Nat->List Value),v = .slice (some ⟨r,o,none⟩) n c/\n≤c/\(∀ i,i<n->u7 rd (f i) (css i))/\(∀ i,i<n->(f i).lay=l)/\∀ i,i<n->D1 rd r (o+i*l.size) (css i))\/(n=0/\∃ a c,v = .slice a 0 c/\(a=none->c=0)):=by
 cases h with
 |ro l n f css r o c hc h hl hr=>exact .inl ⟨r,o,c,css,rfl,hc,h,hl,hr⟩
 |ro0 l f a c h=>exact .inr ⟨rfl,a,c,rfl,h⟩
theorem Kl {E:y6} {k:IntKind} {l:List Int} {v:Value} (h:o0 E (.dv (.roI k l)) v):u7 E.rd (.roI k l) [v]:=by
 obtain ⟨cs,h,e⟩:=a37 h
 obtain ⟨u,rfl,_⟩:=h.one rfl
 rw [e];exact h
theorem a40 {E:y6} {l:t9} {n:Nat} {f:Nat->DV} {v:Value} (h:o0 E (.dv (.ro l n f)) v):u7 E.rd (.ro l n f) [v]:=by
 obtain ⟨cs,h,e⟩:=a37 h
 obtain ⟨u,rfl,_⟩:=h.one rfl
 rw [e];exact h
theorem d52:∀ {n i:Nat},i<n->J6 (Wg n) [i]=some (i,.one)
 |0,_,h=>by cases h
 |n+1,0,_=>rfl
 |n+1,i+1,h=>by
  show J6 (.pair .one (Wg n)) [i+1]=_
  rw [S2,d52 (Nat.lt_of_succ_lt_succ h)]
  show some (1+i,t9.one)=_
  rw [Nat.add_comm]
theorem h21 {E:y6} {b off len:Nat} {v:Value} (h:o0 E (.vs b off len) v) :
  ∃ r o n c,v = .slice (some ⟨r,o+off,none⟩) len c/\E.pl b = .at r o/\E.lay b=Wg n/\off+len≤n/\len≤c:=by
 rcases h with h|⟨cs,h,e⟩
 ·cases h
 ·cases h with
  |vs b off len r o n c hp hl hn hc=>exact ⟨r,o,n,c,e,hp,hl,hn,hc⟩
theorem Nj {E:y6} {b off len c:Nat} {v:Value} (h:o0 E (.slc b off len c) v) :
  ∃ r o n,v = .slice (some ⟨r,o+off,none⟩) len c/\E.pl b = .at r o/\E.lay b = .arr n .one/\off+len≤n/\len≤c/\o+(off+c)≤E.top b:=by
 rcases h with h|⟨cs,h,e⟩
 ·cases h
 ·cases h with
  |slc b off len c r o n hp hl hn hc ht=>exact ⟨r,o,n,e,hp,hl,hn,hc,ht⟩
theorem h22 {E:y6} {b off len c:Nat} {v:Value} (h:o0 E (.slc b off len c) v):o0 E (.sl b [] .one off len) v:=by
 obtain ⟨r,o,n,rfl,hp,hl,hn,hc,ht⟩:=Nj h
 have:=r6.sl (E:=E) b [] .one off len r o 0 n c hp (by rw [hl,o6]) hn hc (by simp only [t9.size,Nat.mul_one,Nat.add_zero];exact ht)
 simp only [t9.size,Nat.mul_one,Nat.add_zero] at this
 exact .one this rfl
theorem h23 {E:y6} {b off len c:Nat} {a:Option Addr} (h:o0 E (.sl b [] .one off len) (.slice a len c)) (hc:0<c):o0 E (.slc b off len c) (.slice a len c):=by
 rcases S1 h with ⟨r,o,so,n,c',e,hp,hl,hn,hcc,ht⟩|⟨a',so,n,e,e0,hp,hl,hn⟩
 ·injection e with e1 _ e2
  subst e1;subst e2
  rw [o6] at hl
  injection hl with hl
  injection hl with h1 h2
  subst h1
  simp only [t9.size,Nat.mul_one,Nat.add_zero] at ht ⊢
  exact .one (.slc b off len c r o n hp h2 hn hcc ht) rfl
 ·injection e with _ _ e2
  omega
theorem Qz {E:y6} {v:Value} (h:o0 E .emp v):∃ a,v = .slice a 0 0:=by
 rcases h with h|⟨cs,h,e⟩
 ·cases h
 ·cases h with
  |emp a=>exact ⟨a,e⟩
theorem a41 {t:TypeId} {x ix:Operand} (hT:v5 P T) (ho:o.op = .indexAddr t x ix) (h:Sq T t (ρ x) ix (ρ ix) K):V9 P G o ρ H K:=by
 have mx:x∈o9 o.op:=by simp [o9,ho,Op.operands]
 have mi:ix∈o9 o.op:=by simp [o9,ho,Op.operands]
 simp only [Sq,Ua] at h
 split at h
 ·rename_i n e hk
  obtain ⟨hu,hi⟩:=Ku hT hk
  cases hx:ρ x with
  |ptr b p l =>
   rw [hx] at h
   simp only at h
   cases l with
   |arr m le =>
    simp only at h
    split at h
    ·rename_i h1 h2
     obtain rfl:=Nat.eq_of_beq_eq_true h1
     obtain ⟨j,hj,hK,hv⟩:=Gf h
     refine ⟨_,_,_,hK,.pure fun E a w hop => ?_⟩
     obtain ⟨k,hix⟩:=hv E a (hop ix mi)
     obtain ⟨r,q,off,ex,hp,hl⟩:=X1 (hx▸hop x mx)
     have hjn:j<n:=by omega
     have hloc:=Qd hl (q:=[j]) (o2:=j*le.size) (l:=le) (by rw [O7,if_pos hjn,o6];rfl)
     have hsz:P.cellsOf e=le.size:=A0 hT h2
     refine ⟨_,T7 ho (by rw [ex,hix];exact Ot hu hi w r (q+off) j k hj),?_⟩
     have:=r6.ptr (E:=E) b (p++[j]) le r q _ hp hloc
     rw [hsz,Nat.add_assoc]
     exact .one this rfl
    ·exact h.elim
   |_=>exact h.elim
  |rp d =>
   rw [hx] at h
   simp only at h
   cases hdl:d.lay with
   |arr m le =>
    rw [hdl] at h
    simp only at h
    split at h
    ·rename_i h1 h2
     obtain rfl:=Nat.eq_of_beq_eq_true h1
     obtain ⟨j,hj,hK,hv⟩:=Gf h
     refine ⟨_,_,_,hK,.pure fun E a w hop => ?_⟩
     obtain ⟨k,hix⟩:=hv E a (hop ix mi)
     obtain ⟨r,q,cs,ex,hd,hr⟩:=a38 (hx▸hop x mx)
     have hjn:j<n:=by omega
     have hloc:J6 d.lay [j]=some (j*le.size,le):=by rw [hdl,O7,if_pos hjn,o6];rfl
     refine ⟨_,T7 ho (by rw [ex,hix];exact Ot hu hi w r q j k hj),?_⟩
     rw [A0 hT h2]
     exact .one (.rp r _ (hd.part hloc).1 hr.sub) rfl
    ·exact h.elim
   |_=>rw [hdl] at h;exact h.elim
  |_=>rw [hx] at h;exact h.elim
 ·rename_i e hk
  obtain ⟨hu,hi⟩:=T5 hT hk
  cases hx:ρ x with
  |sl b p le off len =>
   rw [hx] at h
   simp only at h
   split at h
   ·rename_i h2
    obtain ⟨j,hj,hK,hv⟩:=Gf h
    refine ⟨_,_,_,hK,.pure fun E a w hop => ?_⟩
    obtain ⟨k,hix⟩:=hv E a (hop ix mi)
    rcases S1 (hx▸hop x mx) with ⟨r,q,so,n,c,ex,hp,hl,hn,hc,ht⟩|⟨_,_,_,_,e0,_⟩
    ·have hjn:off+j<n:=by omega
     have hloc:=Qd hl (q:=[off+j]) (o2:=(off+j)*le.size) (l:=le) (by rw [O7,if_pos hjn,o6];rfl)
     refine ⟨_,T7 ho (by rw [ex,hix];exact Ce hu hi w r _ j len c k hj),?_⟩
     have:=r6.ptr (E:=E) b (p++[off+j]) le r q _ hp hloc
     rw [A0 hT h2]
     have e1:q+so+off*le.size+j*le.size=q+(so+(off+j)*le.size):=by rw [Nat.add_mul];omega
     rw [e1]
     exact .one this rfl
    ·subst e0;omega
   ·exact h.elim
  |dv d =>
   rw [hx] at h
   cases d with
   |roI kk l =>
    simp only at h
    split at h
    ·rename_i h2
     obtain ⟨j,hj,hK,hv⟩:=Gf h
     refine ⟨_,_,_,hK,.pure fun E a w hop => ?_⟩
     obtain ⟨k,hix⟩:=hv E a (hop ix mi)
     rcases (Kl (hx▸hop x mx)).slI with ⟨r,q,c,ex,hc,hr⟩|⟨e0,_⟩
     ·have hjl:j<l.length:=by omega
      refine ⟨_,T7 ho (by rw [ex,hix];exact Ce hu hi w r q j _ c k hj),?_⟩
      rw [A0 hT h2]
      simp only [t9.size,Nat.mul_one]
      refine .one (.rp r (q+j) (.sc _ trivial) ?_) rfl
      intro z hz
      obtain rfl:z=0:=by simp at hz;exact hz
      have:=hr j (by simpa using hjl)
      rw [Nat.add_zero,this]
      have hg:=c82 kk l j hjl
      rw [List.getElem?_eq_getElem (by simpa using hjl)] at hg
      exact hg
     ·subst e0;simp at hj;omega
    ·exact h.elim
   |ro le n f =>
    simp only at h
    split at h
    ·rename_i h2
     obtain ⟨j,hj,hK,hv⟩:=Gf h
     refine ⟨_,_,_,hK,.pure fun E a w hop => ?_⟩
     obtain ⟨k,hix⟩:=hv E a (hop ix mi)
     rcases (a40 (hx▸hop x mx)).sl with ⟨r,q,c,css,ex,hc,hf,hfl,hr⟩|⟨e0,_⟩
     ·have hjl:j<n:=by omega
      refine ⟨_,T7 ho (by rw [ex,hix];exact Ce hu hi w r q j _ c k hj),?_⟩
      rw [A0 hT h2]
      exact .one (.rp r _ (hf j hjl) (hr j hjl)) rfl
     ·subst e0;omega
    ·exact h.elim
   |_=>exact h.elim
  |vs b off len =>
   rw [hx] at h
   simp only at h
   split at h
   ·rename_i h2
    obtain ⟨j,hj,hK,hv⟩:=Gf h
    refine ⟨_,_,_,hK,.pure fun E a w hop => ?_⟩
    obtain ⟨k,hix⟩:=hv E a (hop ix mi)
    obtain ⟨r,q,n,c,ex,hp,hl,hn,hc⟩:=h21 (hx▸hop x mx)
    refine ⟨_,T7 ho (by rw [ex,hix];exact Ce hu hi w r _ j len c k hj),?_⟩
    have:=r6.ptr (E:=E) b [off+j] .one r q _ hp (by rw [hl];exact d52 (by omega))
    rw [A0 hT h2,show t9.one.size=1 from rfl,Nat.mul_one,Nat.add_assoc]
    exact .one this rfl
   ·exact h.elim
  |_=>rw [hx] at h;exact h.elim
 ·exact h.elim
theorem a42 {t:TypeId} {x ix:Operand} (ho:o.op = .index t x ix) {a:Act} {w:World} {v:Value} (h:(Instr.index t (a.eval x) (a.eval ix)).run P w = .ok v w):(execOp a.eval o).run P w = .ok (.value v) w:=by
 simp [execOp,ho,h]
theorem e99 {t:TypeId} {x ix:Operand} (hT:v5 P T) (ho:o.op = .index t x ix) (h:f06 T t (ρ x) ix (ρ ix) K):V9 P G o ρ H K:=by
 have mx:x∈o9 o.op:=by simp [o9,ho,Op.operands]
 have mi:ix∈o9 o.op:=by simp [o9,ho,Op.operands]
 unfold f06 at h
 split at h
 ·rename_i n e hk
  obtain ⟨hu,i,hi⟩:=Ku hT hk
  cases hx:ρ x with
  |dv d =>
   rw [hx] at h
   simp only at h
   cases hdl:d.lay with
   |arr m le =>
    rw [hdl] at h
    simp only at h
    split at h
    ·rename_i h1 h2
     obtain rfl:=Nat.eq_of_beq_eq_true h1
     obtain ⟨j,hj,hK,hv⟩:=Gf h
     refine ⟨_,_,_,hK,.pure fun E a w hop => ?_⟩
     obtain ⟨k,hix⟩:=hv E a (hop ix mi)
     obtain ⟨cs,hd,ex⟩:=a37 (hx▸hop x mx)
     rw [hdl] at ex
     have ex:a.eval x = .agg cs.toArray:=ex
     have hjn:j<n:=by omega
     have hloc:J6 d.lay [j]=some (j*le.size,le):=by rw [hdl,O7,if_pos hjn,o6];rfl
     obtain ⟨hs,ha,ht⟩:=Bo h2
     obtain ⟨hp,hpl⟩:=hd.part hloc
     have hrun:=Ut hT w ht hs ha (cs:=cs) (off:=j*le.size) (by rw [hd.len];exact R1 hloc)
     refine ⟨_,a42 ho ?_,.of (.dv hp) rfl⟩
     rw [ex,hix]
     have hc:=A0 hT h2
     simp only [Instr.index,asIntOf,Sem.run_bind,Sem.run_pure,Result.andThen_ok,run_underlying hu]
     rw [if_pos ⟨by omega,by omega⟩]
     simp only [Sem.run_bind,M8 hi,Result.andThen_ok,hc,Int.toNat_natCast]
     rw [hrun]
     unfold AV.isAgg;rw [AV.lay,hpl]
    ·exact h.elim
   |_=>rw [hdl] at h;exact h.elim
  |_=>rw [hx] at h;exact h.elim
 ·rename_i hk
  have hu:=Hw hT hk
  cases hx:ρ x with
  |dv d =>
   rw [hx] at h
   cases d with
   |str l =>
    simp only at h
    obtain ⟨j,hj,hK,hv⟩:=Gf h
    refine ⟨_,_,_,hK,.pure fun E a w hop => ?_⟩
    obtain ⟨k,hix⟩:=hv E a (hop ix mi)
    have ex:=Ks (hx▸hop x mx)
    refine ⟨_,a42 ho ?_,C9 E _ _⟩
    rw [ex,hix]
    have hjl:j<l.length:=by omega
    have hg:(⟨⟨l⟩⟩:ByteArray)[j]?=some (l.getD j 0):=by
     rw [getElem?_pos (⟨⟨l⟩⟩:ByteArray) j (show j<(⟨⟨l⟩⟩:ByteArray).size from hjl)]
     rw [List.getD_eq_getElem?_getD,List.getElem?_eq_getElem hjl]
     rfl
    simp only [Instr.index,asIntOf,Sem.run_bind,Sem.run_pure,Result.andThen_ok,run_underlying hu]
    rw [if_pos (by omega:(0:Int)≤(j:Int)),Int.toNat_natCast,hg]
    rfl
   |_=>exact h.elim
  |_=>rw [hx] at h;exact h.elim
 ·exact h.elim
end
end Go.Eng

namespace Go.Eng
section
variable {P:Program} {G:G1} {T:Tr} {o:Oper} {ρ:Operand->AV} {H:Nat->j6} {K:V7}
theorem Q8 {len:Int} {lo hi:Option Operand} {K:Int->Int->Prop} (h:Cf len (lo.map ρ) (hi.map ρ) K):∃ a b:Int,0≤a/\a≤b/\b≤len/\K a b /\
  ∀ E (ac:Act) (w:World) (s:Bool) (n cap:Nat),(∀ x,lo=some x\/hi=some x->o0 E (ρ x) (ac.eval x))->(hi=none->(n:Int)=len)->len≤(cap:Int) ->
   (Instr.sliceBounds s n cap (lo.map ac.eval) (hi.map ac.eval) none).run P w = .ok (a.toNat,b.toNat,cap) w:=by
 have hb:∃ b:Int,b≤len/\(match lo.map ρ with
  |none=>0≤b/\K 0 b
  |some x=>Dn x fun _ a=>(0≤a/\a≤b)/\K a b)/\((hi=none/\b=len)\/∃ x k,hi=some x/\ρ x = .int k b):=by
  unfold Cf at h
  cases hi with
  |none=>exact ⟨len,Int.le_refl _,h,.inl ⟨rfl,rfl⟩⟩
  |some x =>
   obtain ⟨k,b,hx,hb,h⟩:=C5 h
   exact ⟨b,hb,h,.inr ⟨x,k,rfl,hx⟩⟩
 obtain ⟨b,hbl,h,hhi⟩:=hb
 have ha:∃ a:Int,0≤a/\a≤b/\K a b/\((lo=none/\a=0)\/∃ x k,lo=some x/\ρ x = .int k a):=by
  cases lo with
  |none=>exact ⟨0,Int.le_refl _,h.1,h.2,.inl ⟨rfl,rfl⟩⟩
  |some x =>
   obtain ⟨k,a,hx,ha,h⟩:=C5 h
   exact ⟨a,ha.1,ha.2,h,.inr ⟨x,k,rfl,hx⟩⟩
 obtain ⟨a,ha0,hab,hK,hlo⟩:=ha
 refine ⟨a,b,ha0,hab,hbl,hK,fun E ac w s n cap hrep hn hc => ?_⟩
 have h2:∀ x k,ρ x = .int k b->(lo=some x\/hi=some x)->∀ c (y:Nat),b≤y->(Instr.sliceBound (ac.eval x) y c).run P w = .ok b.toNat w:=by
  intro x k hx hm c y hy
  have:=K7 (hx▸hrep x hm)
  simp only [this,Instr.sliceBound,asIntOf,Sem.run_bind,Sem.run_pure,Result.andThen_ok]
  rw [if_pos (by omega)];rfl
 have h3:∀ x k,ρ x = .int k a->(lo=some x\/hi=some x)->∀ c (y:Nat),a≤y->(Instr.sliceBound (ac.eval x) y c).run P w = .ok a.toNat w:=by
  intro x k hx hm c y hy
  have:=K7 (hx▸hrep x hm)
  simp only [this,Instr.sliceBound,asIntOf,Sem.run_bind,Sem.run_pure,Result.andThen_ok]
  rw [if_pos (by omega)];rfl
 rcases hhi with ⟨rfl,rfl⟩|⟨x,k,rfl,hx⟩
 ·have hn:=hn rfl
  have e:b.toNat=n:=by omega
  rcases hlo with ⟨rfl,rfl⟩|⟨y,k',rfl,hy⟩
  ·simp [Instr.sliceBounds,e]
  ·simp [Instr.sliceBounds,h3 y k' hy (.inl rfl) _ n (by omega),e]
 ·rcases hlo with ⟨rfl,rfl⟩|⟨y,k',rfl,hy⟩
  ·simp [Instr.sliceBounds,h2 x k hx (.inr rfl) _ cap (by omega)]
  ·simp [Instr.sliceBounds,h2 x k hx (.inr rfl) _ cap (by omega),h3 y k' hy (.inl rfl) _ b.toNat (by omega)]
theorem L6 {t:TypeId} {x:Operand} {lo hi:Option Operand} (ho:o.op = .slice t x lo hi none) {a:Act} {w:World} {v:Value} (h:(Instr.sliceAt t (a.eval x) (lo.map a.eval) (hi.map a.eval) none).run P w = .ok v w):(execOp a.eval o).run P w = .ok (.value v) w:=by
 simp [execOp,ho,h]
theorem He {t e:TypeId} {n:Nat} (hu:P.underlying t=some (.array n e)) (hi:∃ i,P.info? e=some i) {w:World} {r q:Nat} {lo hi':Option Value} {l h:Nat}
  (hb:(Instr.sliceBounds false n n lo hi' none).run P w = .ok (l,h,n) w):(Instr.sliceAt t (.pointer (some ⟨r,q,none⟩)) lo hi' none).run P w = .ok (.slice (some (if n=l then ⟨r,q,none⟩ else ⟨r,q+l*P.cellsOf e,none⟩)) (h-l) (n-l)) w:=by
 obtain ⟨i,hi⟩:=hi
 simp [Instr.sliceAt,run_underlying hu,Instr.sureAddr,hb,M8 hi,Cq]
theorem I2 {t e:TypeId} (hu:P.underlying t=some (.slice e)) (hi:∃ i,P.info? e=some i) {w:World} {ad:Option Addr} {len cap:Nat} {lo hi':Option Value} {l h:Nat}
  (hb:(Instr.sliceBounds true len cap lo hi' none).run P w = .ok (l,h,cap) w):(Instr.sliceAt t (.slice ad len cap) lo hi' none).run P w = .ok (.slice (if cap=l then ad else ad.map (·.add (l*P.cellsOf e))) (h-l) (cap-l)) w:=by
 obtain ⟨i,hi⟩:=hi
 simp [Instr.sliceAt,run_underlying hu,Instr.slice,hb,M8 hi]
theorem M9 (k:IntKind) (l:List Int) (a n:Nat):((l.drop a).take n).map (Value.int k)=((l.map (Value.int k)).drop a).take n:=by simp [List.map_take,List.map_drop]
theorem Gg {t:TypeId} {x m:Operand} {lo hi:Option Operand} (ho:o.op = .slice t x lo hi (some m)) {a:Act} {w:World} {v:Value} (h:(Instr.sliceAt t (a.eval x) (lo.map a.eval) (hi.map a.eval) (some (a.eval m))).run P w = .ok v w):(execOp a.eval o).run P w = .ok (.value v) w:=by
 simp [execOp,ho,h]
theorem T8 {t e:TypeId} (hu:P.underlying t=some (.slice e)) (hi:∃ i,P.info? e=some i) {w:World} {ad:Option Addr} {len cap:Nat} {lo hi' mx:Option Value} {l h m:Nat}
  (hb:(Instr.sliceBounds true len cap lo hi' mx).run P w = .ok (l,h,m) w):(Instr.sliceAt t (.slice ad len cap) lo hi' mx).run P w = .ok (.slice (if m=l then ad else ad.map (·.add (l*P.cellsOf e))) (h-l) (m-l)) w:=by
 obtain ⟨i,hi⟩:=hi
 simp [Instr.sliceAt,run_underlying hu,Instr.slice,hb,M8 hi]
theorem d53 {k1 k2 k3:IntKind} {a c d:Int} {len cap:Nat} {w:World} (h1:0≤a) (h2:a≤c) (h3:c≤d) (h4:d≤cap) :
  (Instr.sliceBounds true len cap (some (.int k1 a)) (some (.int k2 c)) (some (.int k3 d))).run P w = .ok (a.toNat,c.toNat,d.toNat) w:=by
 have e1:(0≤d/\d≤(cap:Int)):=⟨by omega,h4⟩
 have e2:(0≤c/\c≤(d.toNat:Int)):=⟨by omega,by omega⟩
 have e3:(0≤a/\a≤(c.toNat:Int)):=⟨h1,by omega⟩
 simp [Instr.sliceBounds,Instr.sliceBound,asIntOf,e1,e2,e3]
 rw [if_pos (by omega),if_pos (by omega)]
theorem g42 {E:y6} {x:AV} {v:Value} (hx:h30 x=true) (h:o0 E x v):∃ ad len cap,v = .slice ad len cap:=by
 unfold h30 at hx
 split at hx
 ·rcases S1 h with ⟨r,q,so,n,cp,ex,_⟩|⟨ad,so,n,ex,_⟩
  ·exact ⟨_,_,_,ex⟩
  ·exact ⟨_,_,_,ex⟩
 ·rcases (Kl h).slI with ⟨r,q,cp,ex,_⟩|⟨_,ad,cp,ex,_⟩
  ·exact ⟨_,_,_,ex⟩
  ·exact ⟨_,_,_,ex⟩
 ·rcases (a40 h).sl with ⟨r,q,cp,css,ex,_⟩|⟨_,ad,cp,ex,_⟩
  ·exact ⟨_,_,_,ex⟩
  ·exact ⟨_,_,_,ex⟩
 ·exact ⟨_,_,_,O8 h⟩
 ·obtain ⟨ad,ex⟩:=Qz h
  exact ⟨_,_,_,ex⟩
 ·cases hx
theorem d54 {t:TypeId} {x m:Operand} {lo hi:Option Operand} (hT:v5 P T) (ho:o.op = .slice t x lo hi (some m)) (h:c86 T t (ρ x) (lo.map ρ) (hi.map ρ) (ρ m) K):V9 P G o ρ H K:=by
 have mx':x∈o9 o.op:=by simp [o9,ho,Op.operands]
 have mm:m∈o9 o.op:=by simp [o9,ho,Op.operands]
 have mb:∀ y,lo=some y\/hi=some y->y∈o9 o.op:=by
  intro y hy
  rcases hy with rfl|rfl<;>simp [o9,ho,Op.operands]
 unfold c86 at h
 split at h
 ·rename_i e hv hk hhi
  obtain ⟨hu,hinf⟩:=T5 hT hk
  obtain ⟨y,rfl,hy⟩:=Option.map_eq_some_iff.1 hhi
  split at h
  ·rename_i k1 k2 hlo h2
   have hlo':lo=none:=by simpa using hlo
   subst hlo'
   split at h
   ·rename_i hx
    refine ⟨_,_,_,h,.pure fun E a w hop => ?_⟩
    obtain ⟨ad,len,cap,ex⟩:=g42 hx (hop x mx')
    have e1:=K7 (hy▸hop y (mb y (.inr rfl)))
    have e2:=K7 (h2▸hop m mm)
    have hb:(Instr.sliceBounds true len cap none (some (.int k1 0)) (some (.int k2 0))).run P w = .ok (0,0,0) w:=by
     simp [Instr.sliceBounds,Instr.sliceBound,asIntOf]
    refine ⟨_,Gg ho (by rw [ex];simp only [Option.map_some,Option.map_none];rw [e1,e2];exact T8 hu hinf hb),?_⟩
    exact .one (.emp _) rfl
   ·exact h.elim
  ·rename_i lv hlo
   obtain ⟨z,rfl,hz⟩:=Option.map_eq_some_iff.1 hlo
   obtain ⟨ka,a,hza,h⟩:=C5 h
   obtain ⟨kc,c,hyc,h⟩:=C5 h
   obtain ⟨kd,d,hmd,h⟩:=C5 h
   obtain ⟨⟨ha,hac,hcd⟩,h⟩:=h
   have hb:∀ E (ac:Act) (w:World),(∀ x,x∈o9 o.op->o0 E (ρ x) (ac.eval x))->∀ len cap:Nat,d≤cap->(Instr.sliceBounds true len cap (some (ac.eval z)) (some (ac.eval y)) (some (ac.eval m))).run P w = .ok (a.toNat,c.toNat,d.toNat) w:=by
    intro E ac w hop len cap hd
    have e1:ac.eval z = .int ka a:=K7 (E:=E) (by rw [←hza,←hz];exact hop z (mb z (.inl rfl)))
    have e2:ac.eval y = .int kc c:=K7 (E:=E) (by rw [←hyc,←hy];exact hop y (mb y (.inr rfl)))
    have e3:ac.eval m = .int kd d:=K7 (E:=E) (by rw [←hmd];exact hop m mm)
    rw [e1,e2,e3]
    exact d53 ha hac hcd hd
   have e1:c.toNat-a.toNat=(c-a).toNat:=by omega
   split at h
   ·rename_i b p le off len hx
    split at h
    ·rename_i h2
     obtain ⟨hdl,h⟩:=h
     refine ⟨_,_,_,h,.pure fun E ac w hop => ?_⟩
     rcases S1 (hx▸hop x mx') with ⟨r,q,so,n,cp,ex,hp,hl,hn,hc,ht⟩|⟨ad,so,n,ex,e0,hp,hl,hn⟩
     ·refine ⟨_,Gg ho (by rw [ex];exact T8 hu hinf (hb E ac w hop len cp (by omega))),?_⟩
      rw [A0 hT h2,e1]
      by_cases hna:d.toNat=a.toNat
      ·rw [if_pos hna]
       have e2:(c-a).toNat=0:=by omega
       have e3:d.toNat-a.toNat=0:=by omega
       rw [e2,e3]
       exact .one (.sl0 b p le (off+a.toNat) _ so n (Du hp) hl (by omega)) rfl
      ·rw [if_neg hna,Option.map_some,Cq]
       have e4:q+so+off*le.size+a.toNat*le.size=q+so+(off+a.toNat)*le.size:=by rw [Nat.add_mul];omega
       rw [e4]
       have hle:(off+a.toNat+(d.toNat-a.toNat))*le.size≤(off+cp)*le.size:=Nat.mul_le_mul_right _ (by omega)
       have:=r6.sl (E:=E) b p le (off+a.toNat) (c-a).toNat r q so n (d.toNat-a.toNat) hp hl (by omega) (by omega) (by omega)
       exact .one this rfl
     ·subst e0
      refine ⟨_,Gg ho (by rw [ex];exact T8 hu hinf (hb E ac w hop 0 0 (by omega))),?_⟩
      have ea:a.toNat=0:=by omega
      have ec:(c-a).toNat=0:=by omega
      have ed:d.toNat=0:=by omega
      rw [e1,ec,ea,ed,if_pos rfl]
      exact .one (.sl0 b p le (off+0) ad so n hp hl hn) rfl
    ·exact h.elim
   ·rename_i k l hx
    split at h
    ·rename_i h2
     obtain ⟨hdl,h⟩:=h
     refine ⟨_,_,_,h,.pure fun E ac w hop => ?_⟩
     have e5:c.toNat-a.toNat=((l.drop a.toNat).take (c-a).toNat).length:=by simp [List.length_take,List.length_drop];omega
     rcases (Kl (hx▸hop x mx')).slI with ⟨r,q,cp,ex,hc,hr⟩|⟨e0,ad,cp,ex,hn⟩
     ·refine ⟨_,Gg ho (by rw [ex];exact T8 hu hinf (hb E ac w hop l.length cp (by omega))),?_⟩
      rw [A0 hT h2,e5]
      simp only [t9.size,Nat.mul_one]
      by_cases hna:d.toNat=a.toNat
      ·rw [if_pos hna]
       have e2:(l.drop a.toNat).take (c-a).toNat=[]:=by
        have:(c-a).toNat=0:=by omega
        rw [this,List.take_zero]
       rw [e2]
       exact .one (.dv (.roI0 k _ _ (fun e=>by cases e))) rfl
      ·rw [if_neg hna,Option.map_some,Cq]
       refine .one (.dv (.roI k _ r (q+a.toNat) _ (by rw [←e5];omega) ?_)) rfl
       rw [M9]
       exact hr.sub
     ·subst e0
      refine ⟨_,Gg ho (by rw [ex];exact T8 hu hinf (hb E ac w hop 0 cp (by simp at hdl;omega))),?_⟩
      have ea:a.toNat=0:=by simp at hdl;omega
      have ed:d.toNat=0:=by simp at hdl;omega
      rw [e5,ea,ed]
      simp only [List.drop_nil,List.take_nil,List.length_nil,if_true]
      exact .one (.dv (.roI0 k _ _ (fun _=>rfl))) rfl
    ·exact h.elim
   ·exact h.elim
  ·exact h.elim
 ·exact h.elim
theorem f00 {t:TypeId} {x:Operand} {lo hi mx:Option Operand} (hT:v5 P T) (ho:o.op = .slice t x lo hi mx) (h:f09 T t H (ρ x) (lo.map ρ) (hi.map ρ) (mx.map ρ) K):V9 P G o ρ H K:=by
 have mx':x∈o9 o.op:=by simp [o9,ho,Op.operands]
 have mb:∀ y,lo=some y\/hi=some y->y∈o9 o.op:=by
  intro y hy
  rcases hy with rfl|rfl<;>simp [o9,ho,Op.operands]
 unfold f09 at h
 cases mx with
 |some m=>exact d54 hT ho h
 |none =>
  simp only [Option.map_none] at h
  split at h
  ·rename_i n e hk
   obtain ⟨hu,hinf⟩:=Ku hT hk
   cases hx:ρ x with
   |ptr b p l =>
    rw [hx] at h
    simp only at h
    cases l with
    |arr m le =>
     simp only at h
     split at h
     ·rename_i h1 h2
      obtain rfl:=Nat.eq_of_beq_eq_true h1
      have hrep:∀ {a c:Int} {E:y6} {H':Nat->j6} {w:World} {r q off:Nat},Q9 E H' w->0≤a->a≤c->c≤n->E.pl b = .at r q->J6 (E.lay b) p=some (off,.arr n le) ->
        o0 E (.sl b p le a.toNat (c-a).toNat) (.slice (some (if n=a.toNat then ⟨r,q+off,none⟩ else ⟨r,q+off+a.toNat*le.size,none⟩)) (c.toNat-a.toNat) (n-a.toNat)):=by
       intro a c E H' w r q off hR ha hac hcn hp hl
       have e1:c.toNat-a.toNat=(c-a).toNat:=by omega
       rw [e1]
       by_cases hna:n=a.toNat
       ·rw [if_pos hna]
        have e2:(c-a).toNat=0:=by omega
        rw [e2]
        have e3:n-a.toNat=0:=by omega
        rw [e3]
        exact .one (.sl0 b p le a.toNat _ off n (Du hp) hl (by omega)) rfl
       ·rw [if_neg hna]
        have htop:q+off+(a.toNat+(n-a.toNat))*le.size≤E.top b:=by
         have h1:=R1 hl
         have h2:=hR.fit b r q hp
         have e:a.toNat+(n-a.toNat)=n:=by omega
         rw [e]
         simp only [t9.size] at h1
         omega
        have:=r6.sl (E:=E) b p le a.toNat (c-a).toNat r q off n (n-a.toNat) hp hl (by omega) (by omega) htop
        exact .one this rfl
      rcases h with h|h
      ·obtain ⟨a,c,ha,hac,hcn,hK,hrun⟩:=Q8 (P:=P) h
       refine ⟨_,_,_,hK,.of fun E H' ac w hR _ hop _ _ => ?_⟩
       obtain ⟨r,q,off,ex,hp,hl⟩:=X1 (hx▸hop x mx')
       have hb:=hrun E ac w false n n (fun y hy=>hop y (mb y hy)) (fun _=>rfl) (Int.le_refl _)
       refine ⟨_,w,E,.inl (L6 ho (by rw [ex];exact He hu hinf hb)),.pure hR ?_⟩
       rw [A0 hT h2]
       exact hrep hR ha hac hcn hp hl
      ·split at h
       ·rename_i k m' l hHb
        obtain ⟨a,c,ha,hac,hcn,hK,hrun⟩:=Q8 (P:=P) h
        refine ⟨_,_,_,hK,.of fun E H' ac w hR _ hop hrd _ => ?_⟩
        obtain ⟨r,q,off,ex,hp,hl⟩:=X1 (hx▸hop x mx')
        have hb:=hrun E ac w false n n (fun y hy=>hop y (mb y hy)) (fun _=>rfl) (Int.le_refl _)
        have hHb':H' b = .var (.dv (.ints k m' l)):=by rw [hrd b (List.mem_singleton.2 rfl)];exact hHb
        have hbr:=hR.blk b
        rw [hHb'] at hbr
        obtain ⟨r',o',cs,hp',hlay,hy,hrs,htop,hroom⟩:=hbr
        have hy:=hy.dv_inv
        cases hy with
        |ints _ _ _ hlen =>
         have hbk:y9 E b w (.rowI k l):=by
          refine ⟨by rw [hlay,←hlen];rfl,.inr ⟨r',o',hp',hrs,?_⟩⟩
          rw [List.length_map] at hroom
          exact hroom
         have hst:=q9.writeB (w':=w) (x := .rowI k l) hR (by rw [hHb'];rfl) hp' rfl rfl rfl rfl (fun _ _=>rfl) hbk (hrep hR ha hac hcn hp hl)
         refine ⟨_,w,E,.inl (L6 ho (by rw [ex];exact He hu hinf hb)),?_⟩
         rw [A0 hT h2]
         exact hst
       ·exact h.elim
     ·exact h.elim
    |_=>exact h.elim
   |rp d =>
    rw [hx] at h
    cases d with
    |ints k m l =>
     simp only at h
     split at h
     ·rename_i h1 h2
      obtain rfl:=Nat.eq_of_beq_eq_true h1
      obtain ⟨a,c,ha,hac,hcn,hK,hrun⟩:=Q8 (P:=P) h
      refine ⟨_,_,_,hK,.of fun E H' ac w hR _ hop _ _ => ?_⟩
      obtain ⟨r,q,cs,ex,hd,hr⟩:=a38 (hx▸hop x mx')
      have hb:=hrun E ac w false n n (fun y hy=>hop y (mb y hy)) (fun _=>rfl) (Int.le_refl _)
      refine ⟨_,w,E,.inl (L6 ho (by rw [ex];exact He hu hinf hb)),.pure hR ?_⟩
      rw [A0 hT h2]
      cases hd with
      |ints _ _ _ hln =>
       have e1:c.toNat-a.toNat=((l.drop a.toNat).take (c-a).toNat).length:=by simp [List.length_take,List.length_drop];omega
       rw [e1]
       simp only [t9.size,Nat.mul_one]
       by_cases hna:n=a.toNat
       ·rw [if_pos hna]
        have e2:(l.drop a.toNat).take (c-a).toNat=[]:=by rw [List.drop_eq_nil_of_le (by omega)];simp
        rw [e2]
        exact .one (.dv (.roI0 k _ _ (fun e=>by cases e))) rfl
       ·rw [if_neg hna]
        refine .one (.dv (.roI k _ r (q+a.toNat) _ (by rw [←e1];omega) ?_)) rfl
        rw [M9]
        exact hr.sub
     ·exact h.elim
    |_=>exact h.elim
   |_=>rw [hx] at h;exact h.elim
  ·rename_i e hk
   obtain ⟨hu,hinf⟩:=T5 hT hk
   cases hx:ρ x with
   |sl b p le off len =>
    rw [hx] at h
    simp only at h
    split at h
    ·rename_i h2
     obtain ⟨a,c,ha,hac,hcn,hK,hrun⟩:=Q8 (P:=P) h
     refine ⟨_,_,_,hK,.of fun E H' ac w hR _ hop _ _ => ?_⟩
     have e1:c.toNat-a.toNat=(c-a).toNat:=by omega
     rcases S1 (hx▸hop x mx') with ⟨r,q,so,n,cp,ex,hp,hl,hn,hc,ht⟩|⟨ad,so,n,ex,e0,hp,hl,hn⟩
     ·have hb:=hrun E ac w true len cp (fun y hy=>hop y (mb y hy)) (fun _=>rfl) (Int.ofNat_le.2 hc)
      refine ⟨_,w,E,.inl (L6 ho (by rw [ex];exact I2 hu hinf hb)),.pure hR ?_⟩
      rw [A0 hT h2,e1]
      by_cases hna:cp=a.toNat
      ·rw [if_pos hna]
       have e2:(c-a).toNat=0:=by omega
       have e3:cp-a.toNat=0:=by omega
       rw [e2,e3]
       exact .one (.sl0 b p le (off+a.toNat) _ so n (Du hp) hl (by omega)) rfl
      ·rw [if_neg hna,Option.map_some,Cq]
       have e4:q+so+off*le.size+a.toNat*le.size=q+so+(off+a.toNat)*le.size:=by rw [Nat.add_mul];omega
       rw [e4]
       have:=r6.sl (E:=E) b p le (off+a.toNat) (c-a).toNat r q so n (cp-a.toNat) hp hl (by omega) (by omega) (by
        have:off+a.toNat+(cp-a.toNat)=off+cp:=by omega
        rw [this];exact ht)
       exact .one this rfl
     ·subst e0
      have hb:=hrun E ac w true 0 0 (fun y hy=>hop y (mb y hy)) (fun _=>rfl) (Int.le_refl _)
      refine ⟨_,w,E,.inl (L6 ho (by rw [ex];exact I2 hu hinf hb)),.pure hR ?_⟩
      have ea:a.toNat=0:=by omega
      have ec:(c-a).toNat=0:=by omega
      rw [e1,ec,ea,if_pos rfl]
      exact .one (.sl0 b p le (off+0) ad so n hp hl hn) rfl
    ·exact h.elim
   |slc b off len cp =>
    rw [hx] at h
    simp only at h
    split at h
    ·rename_i k l hHb h2
     obtain ⟨a,c,ha,hac,hcn,⟨⟨hle,hlt⟩,hK⟩,hrun⟩:=Q8 (P:=P) h
     have e1:c.toNat-a.toNat=(c-a).toNat:=by omega
     have main:∀ E (H':Nat->j6) (ac:Act) w,Q9 E H' w->(∀ x,x∈o9 o.op->o0 E (ρ x) (ac.eval x))->(∀ y,y∈[b]->H' y=H y)->∃ u,(execOp ac.eval o).run P w = .ok (.value u) w/\o0 E (.slc b (off+a.toNat) (c-a).toNat (cp-a.toNat)) u:=by
      intro E H' ac w hR hop hrd
      obtain ⟨r,q,n,ex,hp,hl,hn,hc,ht⟩:=Nj (hx▸hop x mx')
      have hbr:=hR.blk b
      rw [hrd b (List.mem_singleton.2 rfl),hHb] at hbr
      have hnl:n=l.length:=by
       have:=hbr.1
       rw [hl] at this
       injection this
      have hccp:c≤cp:=by
       cases hi with
       |none=>simp only [Option.map_none] at hcn;omega
       |some y=>exact hcn
      have hb:=hrun E ac w true len cp (fun y hy=>hop y (mb y hy)) (fun e=>by rw [e];rfl) (by
       cases hi with
       |none=>exact Int.ofNat_le.2 hc
       |some y=>exact Int.le_refl _)
      refine ⟨_,L6 ho (by rw [ex];exact I2 hu hinf hb),?_⟩
      have hna:¬ (cp=a.toNat):=by omega
      rw [if_neg hna,Option.map_some,Cq,A0 hT h2,e1]
      simp only [t9.size,Nat.mul_one]
      have:=r6.slc (E:=E) b (off+a.toNat) (c-a).toNat (cp-a.toNat) r q n hp hl (by omega) (by omega) (by omega)
      rw [Nat.add_assoc]
      exact .one this rfl
     rcases hK with hK|hK
     ·refine ⟨_,_,_,hK,.of fun E H' ac w hR _ hop hrd _ => ?_⟩
      obtain ⟨u,hr,hv⟩:=main E H' ac w hR hop hrd
      exact ⟨u,w,E,.inl hr,.pure hR (h22 hv)⟩
     ·refine ⟨_,_,_,hK,.of fun E H' ac w hR _ hop hrd _ => ?_⟩
      obtain ⟨u,hr,hv⟩:=main E H' ac w hR hop hrd
      exact ⟨u,w,E,.inl hr,.pure hR hv⟩
    ·exact h.elim
   |dv d =>
    rw [hx] at h
    cases d with
    |roI k l =>
     simp only at h
     split at h
     ·rename_i h2
      obtain ⟨a,c,ha,hac,hcn,hK,hrun⟩:=Q8 (P:=P) h
      refine ⟨_,_,_,hK,.of fun E H' ac w hR _ hop _ _ => ?_⟩
      have e1:c.toNat-a.toNat=((l.drop a.toNat).take (c-a).toNat).length:=by simp [List.length_take,List.length_drop];omega
      rcases (Kl (hx▸hop x mx')).slI with ⟨r,q,cp,ex,hc,hr⟩|⟨e0,ad,cp,ex,hn⟩
      ·have hb:=hrun E ac w true l.length cp (fun y hy=>hop y (mb y hy)) (fun _=>rfl) (Int.ofNat_le.2 hc)
       refine ⟨_,w,E,.inl (L6 ho (by rw [ex];exact I2 hu hinf hb)),.pure hR ?_⟩
       rw [A0 hT h2,e1]
       simp only [t9.size,Nat.mul_one]
       by_cases hna:cp=a.toNat
       ·rw [if_pos hna]
        have e2:(l.drop a.toNat).take (c-a).toNat=[]:=by rw [List.drop_eq_nil_of_le (by omega)];simp
        rw [e2]
        exact .one (.dv (.roI0 k _ _ (fun e=>by cases e))) rfl
       ·rw [if_neg hna,Option.map_some,Cq]
        refine .one (.dv (.roI k _ r (q+a.toNat) _ (by rw [←e1];omega) ?_)) rfl
        rw [M9]
        exact hr.sub
      ·subst e0
       have hb:=hrun E ac w true 0 cp (fun y hy=>hop y (mb y hy)) (fun _=>rfl) (Int.natCast_nonneg _)
       refine ⟨_,w,E,.inl (L6 ho (by rw [ex];exact I2 hu hinf hb)),.pure hR ?_⟩
       have ea:a.toNat=0:=by simp at hcn;omega
       rw [e1,ea]
       simp only [List.drop_nil,List.take_nil,List.length_nil,Nat.sub_zero]
       refine .one (.dv (.roI0 k _ _ ?_)) rfl
       intro e
       split at e
       ·exact hn e
       ·cases ad with
        |none=>exact hn rfl
        |some _=>cases e
     ·exact h.elim
    |ro le n f =>
     simp only at h
     split at h
     ·rename_i h2
      obtain ⟨a,c,ha,hac,hcn,hK,hrun⟩:=Q8 (P:=P) h
      refine ⟨_,_,_,hK,.of fun E H' ac w hR _ hop _ _ => ?_⟩
      have e1:c.toNat-a.toNat=(c-a).toNat:=by omega
      rcases (a40 (hx▸hop x mx')).sl with ⟨r,q,cp,css,ex,hc,hf,hfl,hr⟩|⟨e0,ad,cp,ex,hn⟩
      ·have hb:=hrun E ac w true n cp (fun y hy=>hop y (mb y hy)) (fun _=>rfl) (Int.ofNat_le.2 hc)
       refine ⟨_,w,E,.inl (L6 ho (by rw [ex];exact I2 hu hinf hb)),.pure hR ?_⟩
       rw [A0 hT h2,e1]
       by_cases hna:cp=a.toNat
       ·rw [if_pos hna]
        have e2:(c-a).toNat=0:=by omega
        rw [e2]
        exact .one (.dv (.ro0 le _ _ _ (fun e=>by cases e))) rfl
       ·rw [if_neg hna,Option.map_some,Cq]
        refine .one (.dv (.ro le _ _ (fun i=>css (a.toNat+i)) r (q+a.toNat*le.size) _ (by omega) (fun i hi=>hf _ (by omega)) (fun i hi=>hfl _ (by omega)) (fun i hi => ?_))) rfl
        have:=hr (a.toNat+i) (by omega)
        rw [Nat.add_mul,←Nat.add_assoc] at this
        exact this
      ·subst e0
       have hb:=hrun E ac w true 0 cp (fun y hy=>hop y (mb y hy)) (fun _=>rfl) (Int.natCast_nonneg _)
       refine ⟨_,w,E,.inl (L6 ho (by rw [ex];exact I2 hu hinf hb)),.pure hR ?_⟩
       have ea:a.toNat=0:=by omega
       have ec:(c-a).toNat=0:=by omega
       rw [e1,ec,ea]
       refine .one (.dv (.ro0 le _ _ _ ?_)) rfl
       intro e
       simp only [Nat.sub_zero]
       split at e
       ·exact hn e
       ·cases ad with
        |none=>exact hn rfl
        |some _=>cases e
     ·exact h.elim
    |sc v =>
     have hnil:v = .slice none 0 0/\Cf 0 (lo.map ρ) (hi.map ρ) (fun _ _=>K [] [] (.dv (.sc (.slice none 0 0)))):=by
      split at h
      all_goals first
       |exact h.elim
       |(rename_i hd;cases hd;done)
       |(rename_i hd;cases hd;exact ⟨rfl,h⟩)
     obtain ⟨rfl,h⟩:=hnil
     obtain ⟨a,c,ha,hac,hcn,hK,hrun⟩:=Q8 (P:=P) h
     refine ⟨_,_,_,hK,.of fun E H' ac w hR _ hop _ _ => ?_⟩
     have ex:=O8 (hx▸hop x mx')
     have hb:=hrun E ac w true 0 0 (fun y hy=>hop y (mb y hy)) (fun _=>rfl) (Int.le_refl _)
     refine ⟨_,w,E,.inl (L6 ho (by rw [ex];exact I2 hu hinf hb)),.pure hR ?_⟩
     have ea:a.toNat=0:=by omega
     have ec:c.toNat=0:=by omega
     rw [ea,ec,if_pos rfl]
     exact Xc E trivial
    |_=>exact h.elim
   |_=>rw [hx] at h;exact h.elim
  ·rename_i hk
   have hu:=Hw hT hk
   cases hx:ρ x with
   |dv d =>
    rw [hx] at h
    cases d with
    |str l =>
     simp only at h
     obtain ⟨a,c,ha,hac,hcn,hK,hrun⟩:=Q8 (P:=P) h
     refine ⟨_,_,_,hK,.of fun E H' ac w hR _ hop _ _ => ?_⟩
     have ex:=Ks (hx▸hop x mx')
     have hb:=hrun E ac w false l.length l.length (fun y hy=>hop y (mb y hy)) (fun _=>rfl) (Int.le_refl _)
     refine ⟨_,w,E,.inl (L6 ho (by
      rw [ex]
      have hs:(⟨⟨l⟩⟩:ByteArray).size=l.length:=rfl
      simp only [Instr.sliceAt,Sem.run_bind,run_underlying hu,Result.andThen_ok,Instr.slice,Option.isSome_none,Bool.false_eq_true,if_false,Sem.run_pure,hs,hb]
      rfl)),.pure hR ?_⟩
     have e:(⟨⟨l⟩⟩:ByteArray).extract a.toNat c.toNat=⟨⟨(l.drop a.toNat).take (c-a).toNat⟩⟩:=by
      apply ByteArray.ext
      rw [ByteArray.data_extract]
      simp [List.extract_toArray]
      congr 1
      omega
     rw [e]
     exact Us E _
    |_=>exact h.elim
   |_=>rw [hx] at h;exact h.elim
  ·exact h.elim
end
end Go.Eng
