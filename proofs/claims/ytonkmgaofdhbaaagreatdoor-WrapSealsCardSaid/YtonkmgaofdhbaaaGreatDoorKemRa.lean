/-
  Part of a proof: KemRa.
-/
import Derived.Test.YtonkmgaofdhbaaaGreatDoorKemPa
set_option linter.unusedVariables false
set_option linter.unusedSimpArgs false
namespace Go.Eng
set_option maxRecDepth 100000
set_option maxHeartbeats 4000000
def s8:List Int->Int
 |[]=>0
 |x::xs=>x+4294967296*s8 xs
theorem Hx {n:Int}:∀ {l:List Int},p9 n l->0≤s8 l
 |[],_=>Int.le_refl 0
 |_::_,⟨a,c⟩=>by have:=Hx c;simp only [s8];omega
theorem Vi:∀ {l:List Int},p9 4294967296 l->s8 l<4294967296^l.length
 |[],_=>by decide
 |x::xs,⟨a,c⟩=>by
  have:=Vi c
  have hp:(4294967296:Int)^(xs.length+1)=4294967296^xs.length*4294967296:=Int.pow_succ ..
  simp only [s8,List.length_cons,hp];omega
theorem Vj:∀ (a b:List Int),s8 (a++b)=s8 a+4294967296^a.length*s8 b
 |[],b=>by simp [s8]
 |x::xs,b=>by
  have hp:(4294967296:Int)^(xs.length+1)=4294967296^xs.length*4294967296:=Int.pow_succ ..
  simp only [List.cons_append,s8,Vj xs b,List.length_cons,hp]
  rw [Int.mul_add,Int.mul_comm (4294967296^xs.length) 4294967296,Int.mul_assoc];omega
theorem e05 (m:List Nat):s8 (zl m)=(Z2 32 m:Int):=by
 induction m with
 |nil=>rfl
 |cons x xs ih=>rw [Vg,s8,ih,Z2];rfl
theorem h79:(4294967296:Int)^8=115792089237316195423570985008687907853269984665640564039457584007913129639936:=by decide
theorem Lk {n:Int} (h:0≤n) (h1:n<4294967296):IntKind.u64.wrap n=n:=A4 h (by omega)
theorem c42:∀ (xs ys:List Int) (c:Int),xs.length=ys.length->p9 4294967296 xs->p9 4294967296 ys->0≤c->c≤38 ->
  s8 xs+38*s8 ys+c=s8 (Kw c xs ys).2+4294967296^xs.length*(Kw c xs ys).1/\p9 4294967296 (Kw c xs ys).2/\(Kw c xs ys).2.length=xs.length/\0≤(Kw c xs ys).1/\(Kw c xs ys).1≤38
 |[],[],c,_,_,_,h,h'=>by simp [Kw,s8,p9,h];assumption
 |x::xs,y::ys,c,hl,⟨⟨p1,p2⟩,p3⟩,⟨⟨q1,q2⟩,q3⟩,h4,h5=>by
  have e1:IntKind.u64.wrap x=x:=Lk p1 p2
  have e2:IntKind.u64.wrap y=y:=Lk q1 q2
  have e3:IntKind.u64.wrap (38*y)=38*y:=A4 (by omega) (by omega)
  have e4:IntKind.u64.wrap (x+38*y)=x+38*y:=A4 (by omega) (by omega)
  have e5:IntKind.u64.wrap (x+38*y+c)=x+38*y+c:=A4 (by omega) (by omega)
  have e6:IntKind.u32.wrap (x+38*y+c)=(x+38*y+c)%4294967296:=Te _
  obtain ⟨i1,i2,i3,i4,i5⟩:=c42 xs ys ((x+38*y+c)/4294967296) (by simpa using hl) p3 q3 (by omega) (by omega)
  have hp:(4294967296:Int)^(xs.length+1)=4294967296^xs.length*4294967296:=Int.pow_succ ..
  simp only [Kw,e1,e2,e3,e4,e5,e6,a92,s8,List.length_cons,hp,p9]
  refine ⟨?_,⟨⟨by omega,by omega⟩,i2⟩,by rw [i3],i4,i5⟩
  generalize Kw ((x+38*y+c)/4294967296) xs ys=r at *
  rw [show (4294967296:Int)^xs.length*4294967296*r.1=4294967296*(4294967296^xs.length*r.1) by rw [Int.mul_comm (4294967296^xs.length) 4294967296,Int.mul_assoc]]
  generalize (4294967296:Int)^xs.length*r.1=z at *
  omega
theorem c43:∀ (xs:List Int) (c:Int),p9 4294967296 xs->0≤c->c<4294967296 ->
  s8 xs+c=s8 (Mj c xs).2+4294967296^xs.length*(Mj c xs).1/\p9 4294967296 (Mj c xs).2/\(Mj c xs).2.length=xs.length/\0≤(Mj c xs).1
 |[],c,_,h,h'=>by simp [Mj,s8,p9,h]
 |x::xs,c,⟨⟨p1,p2⟩,p3⟩,h4,h5=>by
  have e1:IntKind.u64.wrap x=x:=Lk p1 p2
  have e5:IntKind.u64.wrap (c+x)=c+x:=A4 (by omega) (by omega)
  have e6:IntKind.u32.wrap (c+x)=(c+x)%4294967296:=Te _
  obtain ⟨i1,i2,i3,i4⟩:=c43 xs ((c+x)/4294967296) p3 (by omega) (by omega)
  have hp:(4294967296:Int)^(xs.length+1)=4294967296^xs.length*4294967296:=Int.pow_succ ..
  simp only [Mj,e1,e5,e6,a92,s8,List.length_cons,hp,p9]
  refine ⟨?_,⟨⟨by omega,by omega⟩,i2⟩,by rw [i3],i4⟩
  generalize Mj ((c+x)/4294967296) xs=r at *
  rw [show (4294967296:Int)^xs.length*4294967296*r.1=4294967296*(4294967296^xs.length*r.1) by rw [Int.mul_comm (4294967296^xs.length) 4294967296,Int.mul_assoc]]
  generalize (4294967296:Int)^xs.length*r.1=z at *
  omega
theorem c44:∀ (xs ys:List Int) (c:Int),xs.length=ys.length->p9 4294967296 xs->p9 4294967296 ys->0≤c->c≤1 ->
  s8 xs+s8 ys+c=s8 (Hn c xs ys).2+4294967296^xs.length*(Hn c xs ys).1/\p9 4294967296 (Hn c xs ys).2/\(Hn c xs ys).2.length=xs.length/\0≤(Hn c xs ys).1/\(Hn c xs ys).1≤1
 |[],[],c,_,_,_,h,h'=>by simp [Hn,s8,p9,h];assumption
 |x::xs,y::ys,c,hl,⟨⟨p1,p2⟩,p3⟩,⟨⟨q1,q2⟩,q3⟩,h4,h5=>by
  have e1:IntKind.u64.wrap x=x:=Lk p1 p2
  have e2:IntKind.u64.wrap y=y:=Lk q1 q2
  have e4:IntKind.u64.wrap (x+y)=x+y:=A4 (by omega) (by omega)
  have e5:IntKind.u64.wrap (x+y+c)=x+y+c:=A4 (by omega) (by omega)
  have e6:IntKind.u32.wrap (x+y+c)=(x+y+c)%4294967296:=Te _
  obtain ⟨i1,i2,i3,i4,i5⟩:=c44 xs ys ((x+y+c)/4294967296) (by simpa using hl) p3 q3 (by omega) (by omega)
  have hp:(4294967296:Int)^(xs.length+1)=4294967296^xs.length*4294967296:=Int.pow_succ ..
  simp only [Hn,e1,e2,e4,e5,e6,a92,s8,List.length_cons,hp,p9]
  refine ⟨?_,⟨⟨by omega,by omega⟩,i2⟩,by rw [i3],i4,i5⟩
  generalize Hn ((x+y+c)/4294967296) xs ys=r at *
  rw [show (4294967296:Int)^xs.length*4294967296*r.1=4294967296*(4294967296^xs.length*r.1) by rw [Int.mul_comm (4294967296^xs.length) 4294967296,Int.mul_assoc]]
  generalize (4294967296:Int)^xs.length*r.1=z at *
  omega
theorem c45:∀ (xs ys:List Int) (o:Int),xs.length=ys.length->p9 4294967296 xs->p9 4294967296 ys->0≤o->o≤1 ->
  ∃ b,0≤b/\b≤1/\s8 (Yq o xs ys)=s8 xs-s8 ys-o+4294967296^xs.length*b/\p9 4294967296 (Yq o xs ys)/\(Yq o xs ys).length=xs.length
 |[],[],o,_,_,_,h,h'=>⟨o,h,h',by simp [Yq,s8,p9];omega⟩
 |x::xs,y::ys,o,hl,⟨⟨p1,p2⟩,p3⟩,⟨⟨q1,q2⟩,q3⟩,h4,h5=>by
  have e1:IntKind.u64.wrap x=x:=Lk p1 p2
  have e2:IntKind.u64.wrap y=y:=Lk q1 q2
  have e3:IntKind.u64.wrap (x+4294967296)=x+4294967296:=A4 (by omega) (by omega)
  have e4:IntKind.u64.wrap (x+4294967296-y)=x+4294967296-y:=A4 (by omega) (by omega)
  have e5:IntKind.u64.wrap (x+4294967296-y-o)=x+4294967296-y-o:=A4 (by omega) (by omega)
  have e6:IntKind.u32.wrap (x+4294967296-y-o)=(x+4294967296-y-o)%4294967296:=Te _
  have e7:IntKind.u64.wrap (1-(x+4294967296-y-o)/4294967296)=1-(x+4294967296-y-o)/4294967296:=A4 (by omega) (by omega)
  obtain ⟨b,b0,b1,i1,i2,i3⟩:=c45 xs ys (1-(x+4294967296-y-o)/4294967296) (by simpa using hl) p3 q3 (by omega) (by omega)
  have hp:(4294967296:Int)^(xs.length+1)=4294967296^xs.length*4294967296:=Int.pow_succ ..
  refine ⟨b,b0,b1,?_⟩
  simp only [Yq,e1,e2,e3,e4,e5,e6,e7,a92,s8,List.length_cons,hp,p9,i1]
  refine ⟨?_,⟨⟨by omega,by omega⟩,i2⟩,by rw [i3]⟩
  rw [show (4294967296:Int)^xs.length*4294967296*b=4294967296*(4294967296^xs.length*b) by rw [Int.mul_comm (4294967296^xs.length) 4294967296,Int.mul_assoc]]
  generalize (4294967296:Int)^xs.length*b=z at *
  omega
def Ox:List Int->Int
 |[]=>0
 |x::xs=>x*4294967296^xs.length+Ox xs
theorem b01:∀ {l:List Int},p9 4294967296 l->0≤Ox l/\Ox l<4294967296^l.length
 |[],_=>by decide
 |x::xs,⟨⟨a,a'⟩,c⟩=>by
  obtain ⟨h,h'⟩:=b01 c
  have hp:(4294967296:Int)^(xs.length+1)=4294967296^xs.length*4294967296:=Int.pow_succ ..
  simp only [Ox,List.length_cons,hp]
  generalize (4294967296:Int)^xs.length=q at *
  have h1:0≤x*q:=Int.mul_nonneg a (by omega)
  have h2:(x+1)*q≤4294967296*q:=Int.mul_le_mul_of_nonneg_right (by omega) (by omega)
  rw [Int.add_mul] at h2
  rw [Int.mul_comm q]
  omega
theorem c46:∀ (xs ys:List Int),xs.length=ys.length->p9 4294967296 xs->p9 4294967296 ys->c37 xs ys=decide (Ox xs<Ox ys)
 |[],[],_,_,_=>by simp [c37,Ox]
 |x::xs,y::ys,hl,⟨⟨p1,p2⟩,p3⟩,⟨⟨q1,q2⟩,q3⟩=>by
  have hl':xs.length=ys.length:=by simpa using hl
  have ih:=c46 xs ys hl' p3 q3
  obtain ⟨a1,a2⟩:=b01 p3
  obtain ⟨b1,b2⟩:=b01 q3
  rw [←hl'] at b2
  simp only [c37,Ox,←hl']
  generalize (4294967296:Int)^xs.length=q at *
  by_cases h:x=y
  ·subst h
   rw [j7 (by simp),ih]
   congr 1;simp
  ·rw [i0 (by simpa using h)]
   congr 1
   apply propext
   constructor
   ·intro hlt
    have:(x+1)*q≤y*q:=Int.mul_le_mul_of_nonneg_right (by omega) (by omega)
    rw [Int.add_mul] at this
    omega
   ·intro hlt
    refine Classical.byContradiction fun hn => ?_
    have:(y+1)*q≤x*q:=Int.mul_le_mul_of_nonneg_right (by omega) (by omega)
    rw [Int.add_mul] at this
    omega
def d15 (x:Int):Int->List Int->List Int->List Int
 |c,[],_=>[IntKind.wrap .u32 c]
 |_,_::_,[]=>[]
 |c,y::ys,w::ws=>IntKind.wrap .u32 (IntKind.wrap .u64 (IntKind.wrap .u64 (IntKind.wrap .u64 (IntKind.wrap .u64 x*IntKind.wrap .u64 y)+IntKind.wrap .u64 w)+c))::d15 x (Int.fdiv (IntKind.wrap .u64 (IntKind.wrap .u64 (IntKind.wrap .u64 (IntKind.wrap .u64 x*IntKind.wrap .u64 y)+IntKind.wrap .u64 w)+c)) (2^32)) ys ws
theorem f91 (x z:Int) (zs:List Int):∀ (ys us:List Int) (c:Int),us.length=ys.length->i73 x c ys (us++z::zs)=d15 x c ys us++zs
 |[],[],c,_=>rfl
 |y::ys,w::us,c,h=>by simp only [List.cons_append,i73,d15,f91 x z zs ys us _ (by simpa using h)]
theorem e06 (x:Int) (hx:0≤x) (hx':x<4294967296):∀ (ys us:List Int) (c:Int),us.length=ys.length->p9 4294967296 ys->p9 4294967296 us->0≤c->c<4294967296 ->
  s8 (d15 x c ys us)=s8 us+x*s8 ys+c/\p9 4294967296 (d15 x c ys us)/\(d15 x c ys us).length=ys.length+1
 |[],[],c,_,_,_,h,h'=>by
  simp only [d15,h73 h h',s8,p9,Int.mul_zero,Int.add_zero,Int.zero_add,List.length_cons,List.length_nil,and_true,true_and]
  exact ⟨h,h'⟩
 |y::ys,w::us,c,hl,⟨⟨p1,p2⟩,p3⟩,⟨⟨q1,q2⟩,q3⟩,h4,h5=>by
  have m0:0≤x*y:=Int.mul_nonneg hx p1
  have m1:x*y≤4294967295*4294967295:=Int.mul_le_mul (by omega) (by omega) p1 (by decide)
  have e1:IntKind.u64.wrap x=x:=Lk hx hx'
  have e2:IntKind.u64.wrap y=y:=Lk p1 p2
  have e3:IntKind.u64.wrap w=w:=Lk q1 q2
  have e4:IntKind.u64.wrap (x*y)=x*y:=A4 (by omega) (by omega)
  have e5:IntKind.u64.wrap (x*y+w)=x*y+w:=A4 (by omega) (by omega)
  have e6:IntKind.u64.wrap (x*y+w+c)=x*y+w+c:=A4 (by omega) (by omega)
  obtain ⟨i1,i2,i3⟩:=e06 x hx hx' ys us ((x*y+w+c)/4294967296) (by simpa using hl) p3 q3 (by omega) (by omega)
  simp only [d15,e1,e2,e3,e4,e5,e6,Te,a92,s8,p9,List.length_cons,i1,i3]
  refine ⟨?_,⟨⟨by omega,by omega⟩,i2⟩,trivial⟩
  rw [Int.mul_add x,Int.mul_left_comm x]
  generalize x*y=u at *
  generalize x*s8 ys=v at *
  omega
theorem b02 (ys:List Int) (hy:p9 4294967296 ys):∀ (xs us:List Int),us.length=ys.length->p9 4294967296 xs->p9 4294967296 us ->
  s8 (Nx ys xs (us++List.replicate xs.length 0))=s8 us+s8 xs*s8 ys/\p9 4294967296 (Nx ys xs (us++List.replicate xs.length 0))/\(Nx ys xs (us++List.replicate xs.length 0)).length=ys.length+xs.length
 |[],us,hl,_,h=>by simp [Nx,s8,hl,h]
 |x::xs,us,hl,⟨⟨p1,p2⟩,p3⟩,h=>by
  obtain ⟨i1,i2,i3⟩:=e06 x p1 p2 ys us 0 hl hy h (by decide) (by decide)
  rw [List.length_cons,List.replicate_succ]
  simp only [Nx,f91 x 0 _ ys us 0 hl]
  generalize d15 x 0 ys us=r at *
  match r,i1,i2,i3 with
  |r::rs,i1,⟨⟨j1,j2⟩,j3⟩,i3 =>
   have hrs:rs.length=ys.length:=by simpa using i3
   obtain ⟨k1,k2,k3⟩:=b02 ys hy xs rs hrs p3 j3
   simp only [List.cons_append,s8,p9,List.length_cons,k1,k3] at i1 ⊢
   refine ⟨?_,⟨⟨j1,j2⟩,k2⟩,by omega⟩
   rw [Int.add_mul,Int.mul_add,Int.mul_assoc];omega
end Go.Eng
namespace Go.Eng
set_option maxRecDepth 100000
set_option maxHeartbeats 4000000
def s7 (x:Int):List Int:=zl (j8 32 8 x.toNat)
abbrev J0:Int:=115792089237316195423570985008687907853269984665640564039457584007913129639936
theorem s5 {n:Int}:∀ {a b:List Int},p9 n a->p9 n b->p9 n (a++b)
 |[],_,_,h=>h
 |_::_,_,⟨h1,h2⟩,h=>⟨h1,s5 h2 h⟩
theorem d16 {l:List Int} (h:p9 4294967296 l) (hn:l.length=8):l=s7 (s8 l):=by
 obtain ⟨m,rfl,h1,h2⟩:=Xi (n:=4294967296) h
 unfold s7
 rw [e05,Int.toNat_natCast,←hn,←h1,Fj 32 m (by simpa using h2)]
theorem E6 (x:Int):(s7 x).length=8:=by rw [s7,A1,Ae]
theorem Eb (x:Int):p9 4294967296 (s7 x):=a99 (n:=4294967296) (U2 32 8 _)
theorem Ec {x:Int} (h:0≤x) (h':x<J0):s8 (s7 x)=x:=by
 rw [s7,e05,Fi]
 have e:(2:Nat)^(32*8)=115792089237316195423570985008687907853269984665640564039457584007913129639936:=by decide
 rw [e,Nat.mod_eq_of_lt (by simp only [J0] at h';omega)]
 omega
theorem j50:Tw=some (s7 PP):=by kernel_rfl
theorem Th {a b:Int} (ha:0≤a) (ha':a<J0) (hb:0≤b) (hab:b≤a):Cv (s7 a) (s7 b)=some (s7 (a-b)):=by
 obtain ⟨c,c0,c1,h1,h2,h3⟩:=c45 (s7 a) (s7 b) 0 (by rw [E6,E6]) (Eb a) (Eb b) (by decide) (by decide)
 have h4:=Vi h2
 have h5:=Hx h2
 rw [E6] at h1 h3
 rw [h3] at h4
 rw [h79] at h1 h4
 rw [Ec ha ha',Ec hb (by omega)] at h1
 have hc:s8 (Yq 0 (s7 a) (s7 b))=a-b:=by simp only [J0] at ha';omega
 have h6:=d16 h2 h3
 rw [hc] at h6
 rw [←h6]
 obtain ⟨a0,a1,a2,a3,a4,a5,a6,a7,e1⟩:=Ow (E6 a)
 obtain ⟨b0,b1,b2,b3,b4,b5,b6,b7,e2⟩:=Ow (E6 b)
 rw [e1,e2]
 exact g65 ..
theorem g67 {a b:Int} (ha:0≤a) (ha':a<J0) (hb:0≤b) (hb':b<J0):Ip (s7 a) (s7 b)=some (decide (a<b)):=by
 have va:=Ec ha ha'
 have vb:=Ec hb hb'
 have la:=Eb a
 have lb:=Eb b
 obtain ⟨a0,a1,a2,a3,a4,a5,a6,a7,e1⟩:=Ow (E6 a)
 obtain ⟨b0,b1,b2,b3,b4,b5,b6,b7,e2⟩:=Ow (E6 b)
 rw [e1] at la va
 rw [e2] at lb vb
 have la':p9 4294967296 [a7,a6,a5,a4,a3,a2,a1,a0]:=by
  simp only [p9] at la ⊢
  obtain ⟨h0,h1,h2,h3,h4,h5,h6,h7,_⟩:=la
  exact ⟨h7,h6,h5,h4,h3,h2,h1,h0,trivial⟩
 have lb':p9 4294967296 [b7,b6,b5,b4,b3,b2,b1,b0]:=by
  simp only [p9] at lb ⊢
  obtain ⟨h0,h1,h2,h3,h4,h5,h6,h7,_⟩:=lb
  exact ⟨h7,h6,h5,h4,h3,h2,h1,h0,trivial⟩
 have hv:=c46 [a7,a6,a5,a4,a3,a2,a1,a0] [b7,b6,b5,b4,b3,b2,b1,b0] rfl la' lb'
 rw [e1,e2,h72,hv]
 have ea:Ox [a7,a6,a5,a4,a3,a2,a1,a0]=a:=by rw [←va];simp only [Ox,s8,List.length_cons,List.length_nil];omega
 have eb:Ox [b7,b6,b5,b4,b3,b2,b1,b0]=b:=by rw [←vb];simp only [Ox,s8,List.length_cons,List.length_nil];omega
 rw [ea,eb]
theorem h80 (n:Nat):∀ (x:Int),0≤x->x<J0->x<n*PP->Y9 n (s7 x)=some (s7 (x%PP)):=by
 induction n with
 |zero=>intro x h _ h';rw [show ((0:Nat):Int)=0 from rfl,Int.zero_mul] at h';omega
 |succ n ih =>
  intro x h h' h''
  rw [Y9.eq_2,j50,Option.bind_some,g67 h h' (by decide) (by decide),Option.bind_some]
  by_cases hx:x<PP
  ·rw [i0 (by simpa using hx),Int.emod_eq_of_lt h hx]
  ·have h1:x-PP<J0:=by unfold PP;simp only [J0] at *;omega
   have h2:x-PP<n*PP:=by rw [Int.natCast_add,Int.add_mul] at h'';omega
   rw [j7 (by simpa using hx),Option.bind_some,Th h h' (by decide) (by omega),Option.bind_some]
   rw [ih (x-PP) (by omega) h1 h2]
   rw [Int.sub_emod,Int.emod_self,Int.sub_zero,Int.emod_emod]
theorem Ti {x:Int} (h:0≤x) (h':x<J0):Cw (s7 x)=some (s7 (x%PP)):=by
 unfold Cw
 rw [h80 f9 x h h' (by unfold f9 PP;simp only [J0] at h';omega)];rfl
theorem d17:∀ (n:Nat) (x o:Int),0≤x->x<J0->0≤o->o≤38->(o=0/\0<n)\/(o=1/\x<2000/\1<n)\/2<n->Bi n o (s7 x)=some (0,s7 ((x+38*o)%J0+(if (x+38*o)<J0 then 0 else 38)))
 |0,x,o,_,_,_,_,h=>by omega
 |n+1,x,o,h1,h2,h3,h4,h5=>by
  rw [Bi.eq_2]
  by_cases ho:o>0
  ·rw [j7 (by simpa using ho),A4 (by omega) (by omega)]
   obtain ⟨g1,g2,g3,g4⟩:=c43 (s7 x) (o*38) (Eb x) (by omega) (by omega)
   have g5:=Vi g2
   have g6:=Hx g2
   rw [E6] at g1 g3
   rw [g3] at g5
   rw [h79] at g1 g5
   rw [Ec h1 h2] at g1
   have g7:=d16 g2 g3
   have e:Bh f9 (o*38) 0 (s7 x)=some (Mj (o*38) (s7 x)):=by
    obtain ⟨a0,a1,a2,a3,a4,a5,a6,a7,e1⟩:=Ow (E6 x)
    rw [e1];exact d93 ..
   rw [e,Option.bind_some]
   generalize Mj (o*38) (s7 x)=r at *
   obtain ⟨o',l⟩:=r
   simp only at g1 g2 g3 g4 g5 g6 g7 ⊢
   rw [g7]
   by_cases hc:x+38*o<J0
   ·have z:o'=0:=by simp only [J0] at hc;omega
    subst z
    have hv:s8 l=x+38*o:=by omega
    rw [d17 n (s8 l) 0 g6 (by omega) (by decide) (by decide) (Or.inl ⟨rfl,by omega⟩)]
    rw [hv,Int.mul_zero,Int.add_zero]
   ·have z:o'=1:=by simp only [J0] at hc h2;omega
    subst z
    have hv:s8 l=x+38*o-J0:=by simp only [J0];omega
    have hv2:s8 l+38*1<J0:=by simp only [J0] at *;omega
    have hv3:(x+38*o)%J0=s8 l:=by rw [hv];simp only [J0] at *;omega
    have h6:(1=(0:Int)/\0<n)\/((1:Int)=1/\s8 l<2000/\1<n)\/2<n:=by
     have:s8 l<2000:=by rw [hv];simp only [J0] at *;omega
     have:¬ (o=1/\x<2000):=by simp only [J0] at hc;omega
     omega
    rw [d17 n (s8 l) 1 g6 (by omega) (by decide) (by decide) h6]
    rw [if_neg hc,if_pos hv2,hv3,Int.emod_eq_of_lt (by omega) hv2,Int.mul_one,Int.add_zero]
  ·have z:o=0:=by omega
   subst z
   rw [i0 (by simp)]
   rw [Int.mul_zero,Int.add_zero,if_pos h2,Int.emod_eq_of_lt h1 h2,Int.add_zero]
theorem e07 {lo hi:List Int} (hl:lo.length=8) (hh:hi.length=8) (ll:p9 4294967296 lo) (lh:p9 4294967296 hi):Iq (lo++hi)=some (s7 ((s8 lo+J0*s8 hi)%PP)):=by
 obtain ⟨f1,f2,f3,f4,f5⟩:=c42 lo hi 0 (hl.trans hh.symm) ll lh (by decide) (by decide)
 have e:Bg (lo++hi) f9 0 0 (List.replicate 8 0)=some (Kw 0 lo hi):=by
  obtain ⟨a0,a1,a2,a3,a4,a5,a6,a7,rfl⟩:=Ow hl
  obtain ⟨b0,b1,b2,b3,b4,b5,b6,b7,rfl⟩:=Ow hh
  exact d92 ..
 unfold Iq
 rw [e,Option.bind_some]
 generalize Kw 0 lo hi=r at *
 obtain ⟨o,l⟩:=r
 simp only at f1 f2 f3 f4 f5 ⊢
 have f6:=Vi f2
 have f7:=Hx f2
 rw [hl] at f1 f3
 rw [f3] at f6
 rw [h79] at f1 f6
 have f8:=d16 f2 f3
 rw [f8,d17 f9 (s8 l) o f7 (by simp only [J0];omega) f4 f5 (Or.inr (Or.inr (by unfold f9;omega))),Option.bind_some]
 simp only
 have hr:0≤(s8 l+38*o)%J0+(if (s8 l+38*o)<J0 then 0 else 38)/\(s8 l+38*o)%J0+(if (s8 l+38*o)<J0 then 0 else 38)<J0/\((s8 l+38*o)%J0+(if (s8 l+38*o)<J0 then 0 else 38))%PP=(s8 lo+J0*s8 hi)%PP:=by
  split
  ·rename_i hc
   rw [Int.emod_eq_of_lt (by omega) hc,Int.add_zero]
   refine ⟨by omega,hc,?_⟩
   rw [show s8 lo+J0*s8 hi=(s8 l+38*o)+PP*(2*(o+s8 hi)) by unfold PP;simp only [J0];omega,Int.add_mul_emod_self_left]
  ·rename_i hc
   have hm:(s8 l+38*o)%J0=s8 l+38*o-J0:=by simp only [J0] at *;omega
   rw [hm]
   refine ⟨by omega,by simp only [J0] at *;omega,?_⟩
   rw [show s8 lo+J0*s8 hi=(s8 l+38*o-J0+38)+PP*(2*(o+s8 hi)+2) by unfold PP;simp only [J0];omega,Int.add_mul_emod_self_left]
 rw [Ti hr.1 hr.2.1,hr.2.2];rfl
theorem f92 {x y:Int} (hx:0≤x) (hx':x<J0) (hy:0≤y) (hy':y<J0):Cb (s7 x) (s7 y)=some (s7 (Vb x y)):=by
 obtain ⟨f1,f2,f3,f4,f5⟩:=c44 (s7 x) (s7 y) 0 (by rw [E6,E6]) (Eb x) (Eb y) (by decide) (by decide)
 have e:Di (s7 x) (s7 y) f9 0 0 (List.replicate 16 0)=some ((Hn 0 (s7 x) (s7 y)).1,(Hn 0 (s7 x) (s7 y)).2++List.replicate 8 0):=by
  obtain ⟨a0,a1,a2,a3,a4,a5,a6,a7,e1⟩:=Ow (E6 x)
  obtain ⟨b0,b1,b2,b3,b4,b5,b6,b7,e2⟩:=Ow (E6 y)
  rw [e1,e2]
  exact f24 ..
 unfold Cb
 rw [e,Option.bind_some]
 rw [Ec hx hx',Ec hy hy',E6] at f1
 rw [E6] at f3
 generalize Hn 0 (s7 x) (s7 y)=r at *
 obtain ⟨o,l⟩:=r
 simp only at f1 f2 f3 f4 f5 ⊢
 rw [h79] at f1
 rw [h73 f4 (by omega)]
 have hset:(l++List.replicate 8 0).set 8 o=l++([o,0,0,0,0,0,0,0]:List Int):=by
  obtain ⟨a0,a1,a2,a3,a4,a5,a6,a7,rfl⟩:=Ow f3
  rfl
 rw [hset,e07 f3 rfl f2 (by simp only [p9];refine ⟨⟨f4,by omega⟩,?_⟩;simp),Option.bind_some]
 congr 2
 show _=(x+y)%PP
 congr 1
 simp only [s8,J0];omega
theorem i76 {x y:Int} (hx:0≤x) (hx':x<J0) (hy:0≤y) (hy':y<J0):Ev (s7 x) (s7 y)=some (s7 (Vc x y)):=by
 have h1:=Int.emod_nonneg y (show PP≠0 by decide)
 have h2:=Int.emod_lt_of_pos y (show 0<PP by decide)
 unfold Ev
 rw [j50,Option.bind_some,Ti hy hy',Option.bind_some,Th (by decide) (by decide) h1 (by omega),Option.bind_some,f92 hx hx' (by omega) (by unfold PP at *;simp only [J0];omega)]
 show some (s7 ((x+(PP-y%PP))%PP))=some (s7 ((x-y)%PP))
 congr 2
 rw [show x+(PP-y%PP)=(x-y%PP)+PP by omega,Int.add_emod_right,Int.sub_emod_emod]
theorem Xl {x y:Int} (hx:0≤x) (hx':x<J0) (hy:0≤y) (hy':y<J0):B3 (s7 x) (s7 y)=some (s7 (Ea x y)):=by
 obtain ⟨i1,i2,i3⟩:=b02 (s7 y) (Eb y) (s7 x) (List.replicate 8 0) (by rw [E6];rfl) (Eb x) (Ny (by simp))
 have e:Z0 (s7 x) (s7 y) f9 0 (List.replicate 16 0)=some (Nx (s7 y) (s7 x) (List.replicate 16 0)):=by
  obtain ⟨a0,a1,a2,a3,a4,a5,a6,a7,e1⟩:=Ow (E6 x)
  obtain ⟨b0,b1,b2,b3,b4,b5,b6,b7,e2⟩:=Ow (E6 y)
  rw [e1,e2]
  exact d11 ..
 unfold B3
 rw [e,Option.bind_some]
 rw [E6,show List.replicate 8 (0:Int)++List.replicate 8 0=List.replicate 16 0 from rfl,Ec hx hx',Ec hy hy'] at i1
 rw [E6,show List.replicate 8 (0:Int)++List.replicate 8 0=List.replicate 16 0 from rfl] at i2 i3
 rw [E6] at i3
 rw [show s8 (List.replicate 8 0)=0 from by decide,Int.zero_add] at i1
 generalize Nx (s7 y) (s7 x) (List.replicate 16 0)=w at *
 have hw:w=w.take 8++w.drop 8:=(List.take_append_drop 8 w).symm
 have t1:(w.take 8).length=8:=by rw [List.length_take,i3];rfl
 have t2:(w.drop 8).length=8:=by rw [List.length_drop,i3]
 rw [hw] at i2 i1
 rw [Vj,t1,h79] at i1
 rw [hw,e07 t1 t2 i2.append.1 i2.append.2,Option.bind_some]
 show some (s7 (_%PP))=some (s7 (x*y%PP))
 rw [←i1]
end Go.Eng
namespace Go.Eng
set_option maxRecDepth 100000
set_option maxHeartbeats 4000000
theorem Gl (w c:Nat) (hw:0<w) (hc0:0<c):∀ n X i,i<w*n->i%w+c≤w ->
  (j8 w n (X%2^i)).getD (i/w) 0<2^(i%w) /\
  (j8 w n (X%2^i)).set (i/w) ((j8 w n (X%2^i)).getD (i/w) 0+2^(i%w)*(X/2^i%2^c))=j8 w n (X%2^(i+c))
 |0,_,_,h,_=>by simp at h
 |n+1,X,i,h,hc=>by
  by_cases hi:i<w
  ·have h1:X%2^i<2^i:=Nat.mod_lt _ (Nat.two_pow_pos i)
   have h2:(2:Nat)^i<2^w:=Nat.pow_lt_pow_right (by decide) hi
   have h3:X%2^(i+c)<2^(i+c):=Nat.mod_lt _ (Nat.two_pow_pos _)
   rw [Nat.mod_eq_of_lt hi] at hc
   have h4:(2:Nat)^(i+c)≤2^w:=Nat.pow_le_pow_right (by decide) hc
   have h5:X%2^(i+c)=X%2^i+2^i*(X/2^i%2^c):=by rw [Nat.pow_add,Nat.mod_mul]
   rw [Nat.div_eq_of_lt hi,Nat.mod_eq_of_lt hi]
   simp only [j8,List.getD_cons_zero,List.set_cons_zero]
   rw [Nat.mod_eq_of_lt (Nat.lt_trans h1 h2),Nat.div_eq_of_lt (Nat.lt_trans h1 h2),Nat.mod_eq_of_lt (Nat.lt_of_lt_of_le h3 h4),Nat.div_eq_of_lt (Nat.lt_of_lt_of_le h3 h4),←h5]
   exact ⟨h1,rfl⟩
  ·obtain ⟨k,rfl⟩:∃ k,i=w+k:=⟨i-w,by omega⟩
   have e1:(w+k)/w=k/w+1:=by rw [Nat.add_comm,Nat.add_div_right _ hw]
   have e2:(w+k)%w=k%w:=by rw [Nat.add_comm,Nat.add_mod_right]
   have e3:∀ m,(X%2^(w+m))%2^w=X%2^w:=fun m=>Nat.mod_mod_of_dvd _ ⟨2^m,Nat.pow_add ..⟩
   have e4:∀ m,(X%2^(w+m))/2^w=X/2^w%2^m:=fun m=>by rw [Nat.pow_add,Nat.mod_mul_right_div_self]
   have e5:X/2^(w+k)=X/2^w/2^k:=by rw [Nat.pow_add,Nat.div_div_eq_div_mul]
   have hk:k<w*n:=by rw [Nat.mul_succ] at h;omega
   obtain ⟨i1,i2⟩:=Gl w c hw hc0 n (X/2^w) k hk (by rw [←e2];exact hc)
   rw [e1,e2,e5,Nat.add_assoc]
   simp only [j8,List.getD_cons_succ,List.set_cons_succ,e3,e4]
   exact ⟨i1,by rw [i2]⟩
theorem Ys (w c:Nat) (hw:0<w) (n X i:Nat) (h:i<w*n) (hc:i%w+c≤w):(j8 w n X).getD (i/w) 0/2^(i%w)%2^c=X/2^i%2^c:=by
 have h1:i/w<n:=(Nat.div_lt_iff_lt_mul hw).2 (by rw [Nat.mul_comm];exact h)
 rw [Oa w n X _ h1]
 apply Nat.eq_of_testBit_eq
 intro j
 rw [Nat.testBit_mod_two_pow,Nat.testBit_mod_two_pow,Nat.testBit_div_two_pow,Nat.testBit_mod_two_pow,Nat.testBit_div_two_pow,Nat.testBit_div_two_pow]
 by_cases hj:j<c
 ·have e:w*(i/w)+(j+i%w)=j+i:=by have:=Nat.div_add_mod i w;omega
  have hlt:j+i%w<w:=by omega
  rw [Nat.add_comm (j+i%w),e]
  simp [hj,hlt]
 ·simp [hj]
theorem c47 (N:Nat):∀ (n i:Nat),i≤32->32<n+i->Bf (zl (j8 8 32 N)) n (i:Int) (zl (j8 32 8 (N%2^(8*i))))=some (zl (j8 32 8 (N%2^256)))
 |0,i,h,h'=>by omega
 |n+1,i,h,h'=>by
  rw [Bf.eq_2]
  by_cases hi:i<32
  ·rw [j7 (by simp;omega)]
   have e1:Int.tdiv (i:Int) 4=((i/4:Nat):Int):=rfl
   have e3:Int.tmod (i:Int) 4=((i%4:Nat):Int):=rfl
   have e4:8*((i%4:Nat):Int)=((8*(i%4):Nat):Int):=by rw [Int.natCast_mul];rfl
   have e5:IntKind.wrap .u64 ((8*(i%4):Nat):Int)=((8*(i%4):Nat):Int):=by rw [Oc,Nat.mod_eq_of_lt (by omega)]
   have m2:min (8*(i%4)) (IntKind.bits .u32)=8*(i%4):=by show min _ 32=_;omega
   have d1:8*i/32=i/4:=by omega
   have d2:8*i%32=8*(i%4):=by omega
   have d3:8*i/8=i:=by omega
   have d4:8*i%8=0:=by omega
   have hb:(j8 8 32 N).getD i 0<256:=M5 (U2 8 32 N) (by decide) _
   have hbit:=Ys 8 8 (by decide) 32 N (8*i) (by omega) (by omega)
   rw [d3,d4,Nat.pow_zero,Nat.div_one,Nat.mod_eq_of_lt (a:=(j8 8 32 N).getD i 0) (by simpa using hb)] at hbit
   obtain ⟨s1,s2⟩:=Gl 32 8 (by decide) (by decide) 8 N (8*i) (by omega) (by omega)
   rw [d1,d2] at s1 s2
   have p1:(2:Nat)^(8*(i%4))≤2^24:=Nat.pow_le_pow_right (by decide) (by omega)
   have hlt2:N/2^(8*i)%2^8<256:=Nat.mod_lt _ (by decide)
   have hlt:(N/2^(8*i)%2^8)*2^(8*(i%4))≤255*2^24:=Nat.mul_le_mul (by omega) p1
   have hlt3:(j8 32 8 (N%2^(8*i))).getD (i/4) 0<2^24:=Nat.lt_of_lt_of_le s1 p1
   simp only [m6,e1,e3,e4,e5,A8 (n:=i/4) (by omega),A8 (n:=8*(i%4)) (by omega),Int.toNat_natCast,m2,F9,hbit]
   rw [if_pos (by omega),if_pos (by omega),if_pos (by omega),if_pos (by omega)]
   rw [b00,Nat.mod_eq_of_lt (a:=N/2^(8*i)%2^8) (by omega),d97,b00,Nat.mod_eq_of_lt (a:=N/2^(8*i)%2^8*2^(8*(i%4))) (by omega)]
   rw [←Int.natCast_add,b00,Nat.mod_eq_of_lt (a:=(j8 32 8 (N%2^(8*i))).getD (i/4) 0+N/2^(8*i)%2^8*2^(8*(i%4))) (by omega),Nat.mul_comm (N/2^(8*i)%2^8),Jn,s2]
   rw [show (i:Int)+1=((i+1:Nat):Int) from rfl,A8 (by omega)]
   exact c47 N n (i+1) (by omega) (by omega)
  ·have:i=32:=by omega
   subst this
   rw [i0 (by decide)]
theorem h81 (N:Nat):Na (zl (j8 8 32 N))=some (zl (j8 32 8 (N%2^256))):=by
 have h:=c47 N f9 0 (by omega) (by show 32<18446744073709551616+0;omega)
 rw [Nat.mul_zero,Nat.pow_zero,Nat.mod_one,Fl,Ob] at h
 unfold Na
 rw [show (0:Int)=((0:Nat):Int) from rfl,h];rfl
theorem b03 (X:Nat):∀ (n i:Nat),i≤32->32<n+i->Z1 (zl (j8 32 8 X)) n (i:Int) (zl (j8 8 32 (X%2^(8*i))))=some (zl (j8 8 32 (X%2^256)))
 |0,i,h,h'=>by omega
 |n+1,i,h,h'=>by
  rw [Z1.eq_2]
  by_cases hi:i<32
  ·rw [j7 (by simp;omega)]
   have e1:Int.tdiv (i:Int) 4=((i/4:Nat):Int):=rfl
   have e3:Int.tmod (i:Int) 4=((i%4:Nat):Int):=rfl
   have e4:8*((i%4:Nat):Int)=((8*(i%4):Nat):Int):=by rw [Int.natCast_mul];rfl
   have e5:IntKind.wrap .u64 ((8*(i%4):Nat):Int)=((8*(i%4):Nat):Int):=by rw [Oc,Nat.mod_eq_of_lt (by omega)]
   have m2:min (8*(i%4)) (IntKind.bits .u32)=8*(i%4):=by show min _ 32=_;omega
   have d1:8*i/32=i/4:=by omega
   have d2:8*i%32=8*(i%4):=by omega
   have d3:8*i/8=i:=by omega
   have d4:8*i%8=0:=by omega
   have hbit:=Ys 32 8 (by decide) 8 X (8*i) (by omega) (by omega)
   rw [d1,d2] at hbit
   obtain ⟨s1,s2⟩:=Gl 8 8 (by decide) (by decide) 32 X (8*i) (by omega) (by omega)
   rw [d3,d4,Nat.pow_zero] at s1 s2
   rw [show (j8 8 32 (X%2^(8*i))).getD i 0=0 by omega,Nat.zero_add,Nat.one_mul] at s2
   simp only [m6,e1,e3,e4,e5,A8 (n:=i/4) (by omega),A8 (n:=8*(i%4)) (by omega),Int.toNat_natCast,m2,F9,Mm]
   rw [if_pos (by omega),if_pos (by omega),if_pos (by omega),u8n]
   rw [show (256:Nat)=2^8 from rfl,hbit,Jn,s2]
   rw [show (i:Int)+1=((i+1:Nat):Int) from rfl,A8 (by omega)]
   exact b03 X n (i+1) (by omega) (by omega)
  ·have:i=32:=by omega
   subst this
   rw [i0 (by decide)]
theorem g68 {x:Int} (_h:0≤x) (h':x<J0):Kg (s7 x)=some (Xk x):=by
 have h:=b03 x.toNat f9 0 (by omega) (by show 32<18446744073709551616+0;omega)
 have e:(2:Nat)^256=115792089237316195423570985008687907853269984665640564039457584007913129639936:=by decide
 rw [Nat.mul_zero,Nat.pow_zero,Nat.mod_one,Fl,Ob,e,Nat.mod_eq_of_lt (by simp only [J0] at h';omega)] at h
 unfold Kg s7
 rw [show (0:Int)=((0:Nat):Int) from rfl,h];rfl
end Go.Eng
namespace Go.Eng
set_option maxRecDepth 100000
set_option maxHeartbeats 400000
def Hj (a:Int) (n:Nat):Int:=a^n%PP
theorem Qj (a:Int) (m n:Nat):Ea (Hj a m) (Hj a n)=Hj a (m+n):=by
 show (a^m%PP)*(a^n%PP)%PP=a^(m+n)%PP
 rw [←Int.mul_emod,Int.pow_add]
theorem b04 {a:Int} (h:0≤a) (h':a<PP):Hj a 1=a:=by
 show a^1%PP=a
 rw [Int.pow_succ,Int.pow_zero,Int.one_mul,Int.emod_eq_of_lt h h']
theorem c48 (a:Int):Hj a 0=1:=by show a^0%PP=1;rw [Int.pow_zero];decide
theorem Tj (a:Int) (n:Nat):0≤Hj a n/\Hj a n<PP:=⟨Int.emod_nonneg _ (by decide),Int.emod_lt_of_pos _ (by decide)⟩
attribute [irreducible] Hj
structure IsP (a:Int) (k:Nat) (e:e9):Prop where
 ok:Tx e
 val:i9 e=Hj a k
theorem Q5 {a:Int} {j k:Nat} {x y:e9} (hx:IsP a j x) (hy:IsP a k y):∃ r,m9 x y=some r/\IsP a (j+k) r:=by
 obtain ⟨r,h1,h2,h3⟩:=X4 hx.ok hy.ok
 exact ⟨r,h1,h2,by rw [h3,hx.val,hy.val,Qj]⟩
theorem Ky {a:e9} (ha:Tx a):∃ r,t6 a=some r/\Tx r/\i9 r=Ea (i9 a) (i9 a):=by
 obtain ⟨r,h1,h2,h3⟩:=X4 ha ha
 exact ⟨r,by unfold t6;rw [h1];rfl,h2,h3⟩
theorem Od {a:Int} {k:Nat} {x:e9} (hx:IsP a k x):∃ r,t6 x=some r/\IsP a (k+k) r:=by
 obtain ⟨r,h1,h2⟩:=Q5 hx hx
 exact ⟨r,by unfold t6;rw [h1];rfl,h2⟩
theorem b05 (a:Int):∀ (n f k:Nat) (x:e9),n<f->n<1000->IsP a k x->∃ r,C1 f (n:Int) x=some r/\IsP a (k*2^n) r
 |_,0,_,_,h,_,_=>by omega
 |0,f+1,k,x,_,_,hx=>by
  rw [C1.eq_2,i0 (by decide)]
  exact ⟨x,rfl,by rw [Nat.pow_zero,Nat.mul_one];exact hx⟩
 |n+1,f+1,k,x,h,h',hx=>by
  obtain ⟨r,h1,h2⟩:=Od hx
  rw [C1.eq_2,j7 (by simp),h1,Option.bind_some,show ((n+1:Nat):Int)-1=n by omega,A8 (by omega)]
  obtain ⟨s,h3,h4⟩:=b05 a n f (k+k) r (by omega) (by omega) h2
  refine ⟨s,h3,?_⟩
  rw [Nat.pow_succ,Nat.mul_comm _ 2,←Nat.mul_assoc,Nat.mul_two]
  exact h4
theorem R3 {a:Int} {k:Nat} {x:e9} (n:Nat) (hn:0<n) (hn':n<1000) (hx:IsP a k x):∃ r,t8 x (n:Int)=some r/\IsP a (k*2^n) r:=by
 obtain ⟨m,rfl⟩:∃ m,n=m+1:=⟨n-1,by omega⟩
 obtain ⟨r,h1,h2⟩:=Od hx
 obtain ⟨s,h3,h4⟩:=b05 a m f9 (k+k) r (by unfold f9;omega) (by omega) h2
 refine ⟨s,?_,?_⟩
 ·unfold t8
  rw [j7 (by simp),h1,Option.bind_some,show ((m+1:Nat):Int)-1=m by omega,A8 (by omega)]
  exact h3
 ·rw [Nat.pow_succ,Nat.mul_comm _ 2,←Nat.mul_assoc,Nat.mul_two]
  exact h4
end Go.Eng
namespace Go.Eng
set_option maxRecDepth 100000
set_option maxHeartbeats 400000
abbrev PM2:Nat:=57896044618658097711785492504343953926634992332820282019728792003956564819947
theorem e08 {a:e9} (ha:Tx a):∃ r,R7 a=some r/\Tx r/\i9 r=Hj (i9 a) PM2:=by
 obtain ⟨r0,r1⟩:=c41 a
 have h1:IsP (i9 a) 1 a:=⟨ha,(b04 r0 r1).symm⟩
 unfold R7 Bc
 obtain ⟨a2,e,h2⟩:=Od h1;rw [e,Option.bind_some]
 obtain ⟨b1,e,k1⟩:=R3 2 (by decide) (by decide) h2;rw [show (2:Int)=((2:Nat):Int) from rfl,e,Option.bind_some]
 obtain ⟨b2,e,k2⟩:=Q5 k1 h1;rw [e,Option.bind_some]
 obtain ⟨b3,e,k3⟩:=Q5 k2 h2;rw [e,Option.bind_some]
 obtain ⟨b4,e,k4⟩:=Od k3;rw [e,Option.bind_some]
 obtain ⟨b5,e,k5⟩:=Q5 k4 k2;rw [e,Option.bind_some]
 obtain ⟨b6,e,k6⟩:=R3 5 (by decide) (by decide) k5;rw [show (5:Int)=((5:Nat):Int) from rfl,e,Option.bind_some]
 obtain ⟨b7,e,k7⟩:=Q5 k6 k5;rw [e,Option.bind_some]
 obtain ⟨b8,e,k8⟩:=R3 10 (by decide) (by decide) k7;rw [show (10:Int)=((10:Nat):Int) from rfl,e,Option.bind_some]
 obtain ⟨b9,e,k9⟩:=Q5 k8 k7;rw [e,Option.bind_some]
 obtain ⟨c1,e,l1⟩:=R3 20 (by decide) (by decide) k9;rw [show (20:Int)=((20:Nat):Int) from rfl,e,Option.bind_some]
 obtain ⟨c2,e,l2⟩:=Q5 l1 k9;rw [e,Option.bind_some]
 obtain ⟨c3,e,l3⟩:=R3 10 (by decide) (by decide) l2;rw [e,Option.bind_some]
 obtain ⟨c4,e,l4⟩:=Q5 l3 k7;rw [e,Option.bind_some]
 obtain ⟨c5,e,l5⟩:=R3 50 (by decide) (by decide) l4;rw [show (50:Int)=((50:Nat):Int) from rfl,e,Option.bind_some]
 obtain ⟨c6,e,l6⟩:=Q5 l5 l4;rw [e,Option.bind_some]
 obtain ⟨c7,e,l7⟩:=R3 100 (by decide) (by decide) l6;rw [show (100:Int)=((100:Nat):Int) from rfl,e,Option.bind_some]
 obtain ⟨c8,e,l8⟩:=Q5 l7 l6;rw [e,Option.bind_some]
 obtain ⟨c9,e,l9⟩:=R3 50 (by decide) (by decide) l8;rw [e,Option.bind_some]
 obtain ⟨d1,e,m1⟩:=Q5 l9 l4;rw [e,Option.bind_some]
 obtain ⟨d2,e,m2⟩:=R3 5 (by decide) (by decide) m1
 simp only [Option.bind_some]
 rw [e,Option.bind_some]
 obtain ⟨d3,e,m3⟩:=Q5 m2 k3;rw [e,Option.bind_some]
 refine ⟨d3,rfl,m3.ok,?_⟩
 rw [m3.val]
end Go.Eng
namespace Go.Eng
set_option maxRecDepth 100000
set_option maxHeartbeats 400000
theorem e09 (a:Int) (ha:0≤a) (ha':a<PP) (E:Nat):∀ (i n:Nat),i<n->i≤256->S9 (s7 a) (zl (j8 32 8 E)) n ((i:Int)-1) (s7 (Hj a (E/2^i)))=some (s7 (Hj a E))
 |i,0,h,_=>by omega
 |0,n+1,_,_=>by
  rw [S9.eq_2,i0 (by decide),Nat.pow_zero,Nat.div_one]
 |i+1,n+1,h,h'=>by
  have rg:=Tj a (E/2^(i+1))
  have up:∀ x:Int,x<PP->x<J0:=fun x hx=>Int.lt_trans hx (by decide)
  rw [S9.eq_2,show ((i+1:Nat):Int)-1=i by omega,j7 (by simp),Xl rg.1 (up _ rg.2) rg.1 (up _ rg.2),Option.bind_some,Qj]
  have e1:Int.tdiv (i:Int) 32=((i/32:Nat):Int):=rfl
  have e3:Int.tmod (i:Int) 32=((i%32:Nat):Int):=rfl
  have m2:min (i%32) (IntKind.bits .u32)=i%32:=by show min _ 32=_;omega
  have hb:(j8 32 8 E).getD (i/32) 0<4294967296:=M5 (U2 32 8 E) (by decide) _
  have hb':(j8 32 8 E).getD (i/32) 0/2^(i%32)<4294967296:=Nat.lt_of_le_of_lt (Nat.div_le_self _ _) hb
  have hbit:=Jm 32 (by decide) 8 E i (by omega)
  have and1:bits .u32 .and (((j8 32 8 E).getD (i/32) 0/2^(i%32):Nat):Int) 1=((E/2^i%2:Nat):Int):=by
   rw [←hbit]
   generalize (j8 32 8 E).getD (i/32) 0/2^(i%32)=q at *
   show IntKind.u32.wrap (((BitVec.ofInt 32 q&&&BitVec.ofInt 32 1:BitVec 32).toNat:Nat):Int)=_
   rw [BitVec.ofInt_natCast,show BitVec.ofInt 32 1=BitVec.ofNat 32 1 from rfl,BitVec.toNat_and,BitVec.toNat_ofNat,BitVec.toNat_ofNat,Te]
   simp only [Nat.reducePow]
   rw [Nat.mod_eq_of_lt hb',Nat.mod_eq_of_lt (a:=1) (by decide),Nat.and_one_is_mod,Int.emod_eq_of_lt (by omega) (by omega)]
  simp only [m6,e1,e3,A8 (n:=i/32) (by omega),Oc,Nat.mod_eq_of_lt (a:=i%32) (b:=18446744073709551616) (by omega),Int.toNat_natCast,m2,F9,Mm,and1]
  rw [if_pos (by omega),if_pos (by omega)]
  have hE:E/2^i=E/2^(i+1)+E/2^(i+1)+E/2^i%2:=by
   rw [Nat.pow_succ,←Nat.div_div_eq_div_mul];omega
  have rg2:=Tj a (E/2^(i+1)+E/2^(i+1))
  have step:(cond ((((E/2^i%2:Nat):Int))==1) ((B3 (s7 (Hj a (E/2^(i+1)+E/2^(i+1)))) (s7 a)).bind fun x69=>some x69) (some (s7 (Hj a (E/2^(i+1)+E/2^(i+1))))))=some (s7 (Hj a (E/2^i))):=by
   rcases Nat.mod_two_eq_zero_or_one (E/2^i) with h0|h0
   ·rw [h0,i0 (by decide)];rw [h0,Nat.add_zero] at hE;rw [←hE]
   ·rw [h0,j7 (by decide),Xl rg2.1 (up _ rg2.2) ha (up _ ha'),Option.bind_some]
    rw [h0] at hE
    have:=Qj a (E/2^(i+1)+E/2^(i+1)) 1
    rw [b04 ha ha',←hE] at this
    rw [this]
  rw [step,Option.bind_some,i64_pred i (by omega)]
  exact e09 a ha ha' E i n (by omega) (by omega)
where
 i64_pred (i:Nat) (h:i<1000):IntKind.wrap .i64 ((i:Int)-1)=(i:Int)-1:=q6 (by omega) (by omega)
theorem f27 {a:Int} (ha:0≤a) (ha':a<PP):Ha (s7 a)=some (s7 (Hj a PM2)):=by
 have e2:(List.replicate 8 (0:Int)).set 0 2=s7 2:=by kernel_rfl
 have e1:(List.replicate 8 (0:Int)).set 0 1=s7 1:=by kernel_rfl
 unfold Ha
 rw [j50,Option.bind_some,e2,Th (by decide) (by decide) (by decide) (by decide),Option.bind_some]
 have hz:PM2/2^256=0:=by kernel_rfl
 have h:=e09 a ha ha' PM2 256 f9 (by unfold f9;omega) (by omega)
 rw [hz,c48] at h
 unfold Oq
 rw [e1,show s7 (PP-2)=zl (j8 32 8 PM2) by kernel_rfl,show (255:Int)=((256:Nat):Int)-1 from rfl,h]
 rfl
end Go.Eng
namespace Go.Eng
set_option maxRecDepth 100000
set_option maxHeartbeats 1000000
theorem Oe (w:Nat):∀ n X,j8 w (n+1) X=j8 w n X++[X/2^(w*n)%2^w]
 |0,X=>by simp [j8]
 |n+1,X=>by
  rw [j8,Oe w n,j8,List.cons_append,Nat.div_div_eq_div_mul,←Nat.pow_add,Nat.mul_succ,Nat.add_comm w]
theorem b06 (w:Nat):∀ n X m,w*n≤m->j8 w n (X%2^m)=j8 w n X
 |0,_,_,_=>rfl
 |n+1,X,m,h=>by
  rw [Nat.mul_succ] at h
  obtain ⟨k,rfl⟩:∃ k,m=w+k:=⟨m-w,by omega⟩
  rw [j8,j8,Nat.mod_mod_of_dvd _ ⟨2^k,Nat.pow_add ..⟩,Nat.pow_add,Nat.mod_mul_right_div_self,b06 w n _ k (by omega)]
theorem h82 (U:Nat):(zl (j8 8 32 U)).set 31 (Int.tmod ((zl (j8 8 32 U)).getD 31 0) 128)=zl (j8 8 32 (U%2^255)):=by
 rw [F9,Oa 8 32 U 31 (by decide)]
 rw [show Int.tmod ((U/2^(8*31)%2^8:Nat):Int) 128=((U/2^(8*31)%2^8%128:Nat):Int) from rfl,Jn]
 congr 1
 rw [Oe 8 31 U,Oe 8 31 (U%2^255),b06 8 31 U 255 (by decide)]
 rw [List.set_append_right _ _ (by rw [Ae];decide),Ae]
 congr 1
 simp only [Nat.sub_self,List.set_cons_zero]
 rw [show (255:Nat)=8*31+7 from rfl,Nat.pow_add,Nat.mod_mul_right_div_self]
 rw [show (128:Nat)=2^7 from rfl,Nat.mod_mod_of_dvd _ (show 2^7∣2^8 by decide),Nat.mod_eq_of_lt (a:=U/2^(8*31)%2^7) (Nat.lt_of_lt_of_le (Nat.mod_lt _ (by decide)) (by decide))]
theorem a09 {l:List Int} (h:p9 256 l) (hn:l.length=32):∃ N:Nat,l=zl (j8 8 32 N)/\N<2^256:=by
 obtain ⟨m,rfl,h1,h2⟩:=Xi (n:=256) h
 have h3:=d13 8 m h2
 refine ⟨Z2 8 m,?_,?_⟩
 ·rw [←hn,←h1,Fj 8 m h2]
 ·rw [h1,hn] at h3;exact h3
theorem f28 (n N:Nat):p9 256 (zl (j8 8 n N)):=a99 (n:=256) (U2 8 n N)
theorem a32 {n:Int}:∀ {l:List Int} {i:Nat} {x:Int},p9 n l->0≤x->x<n->p9 n (l.set i x)
 |[],_,_,_,_,_=>trivial
 |_::_,0,_,⟨_,c⟩,h,h'=>⟨⟨h,h'⟩,c⟩
 |_::_,_+1,_,⟨a,c⟩,h,h'=>⟨a,a32 c h h'⟩
theorem Y4 {n:Int} (hn:0<n):∀ {l:List Int} (i:Nat),p9 n l->0≤l.getD i 0/\l.getD i 0<n
 |[],_,_=>⟨Int.le_refl 0,hn⟩
 |_::_,0,⟨a,_⟩=>a
 |_::_,i+1,⟨_,c⟩=>by rw [List.getD_cons_succ];exact Y4 hn i c
theorem j51:∀ n:Fin 256,bits .u8 .and (n.val:Int) 248=IntKind.wrap .u8 ((IntKind.wrap .u8 (Int.tdiv (n.val:Int) 8))*8)/\0≤bits .u8 .and (n.val:Int) 248/\bits .u8 .and (n.val:Int) 248<256:=by decide +kernel
theorem i77:∀ n:Fin 256,bits .u8 .or (bits .u8 .and (n.val:Int) 127) 64=IntKind.wrap .u8 ((Int.tmod (n.val:Int) 64)+64)/\0≤bits .u8 .or (bits .u8 .and (n.val:Int) 127) 64/\bits .u8 .or (bits .u8 .and (n.val:Int) 127) 64<256:=by decide +kernel
def Tk (k:List Int):List Int:=(k.set 0 (bits .u8 .and (k.getD 0 0) 248)).set 31 (bits .u8 .or (bits .u8 .and (k.getD 31 0) 127) 64)
theorem e15 {k:List Int} (h:p9 256 k) (hn:k.length=32):En k=some (Tk k)/\Kf k=some (Tk k)/\p9 256 (Tk k)/\(Tk k).length=32:=by
 obtain ⟨a1,a2⟩:=Y4 (by decide) 0 h
 obtain ⟨b1,b2⟩:=Y4 (by decide) 31 h
 obtain ⟨n0,e0⟩:=Int.eq_ofNat_of_zero_le a1
 obtain ⟨n1,e1⟩:=Int.eq_ofNat_of_zero_le b1
 obtain ⟨c1,c2,c3⟩:=j51 ⟨n0,by omega⟩
 obtain ⟨d1,d2,d3⟩:=i77 ⟨n1,by omega⟩
 simp only at c1 c2 c3 d1 d2 d3
 rw [←e0] at c1 c2 c3
 rw [←e1] at d1 d2 d3
 have g31:∀ v,(k.set 0 v).getD 31 0=k.getD 31 0:=fun v=>by simp [List.getD,List.getElem?_set_ne]
 refine ⟨?_,?_,a32 (a32 h c2 c3) d2 d3,by simp [Tk,hn]⟩
 ·unfold En
  simp only [m6,g31]
  have g:∀ v u,((k.set 0 v).set 31 u).getD 31 0=u:=fun v u=>by simp [List.getD,hn]
  rw [g,List.set_set];rfl
 ·unfold Kf
  simp only [m6,g31]
  rw [←c1,←d1];rfl
structure L4 where
 x2:Int
 z2:Int
 x3:Int
 z3:Int
def Vk (u:Int) (s:L4):L4 :=
 let a:=Vb s.x2 s.z2
 let b:=Vc s.x2 s.z2
 let aa:=Ea a a
 let bb:=Ea b b
 let e:=Vc aa bb
 let da:=Ea (Vc s.x3 s.z3) a
 let cb:=Ea (Vb s.x3 s.z3) b
 ⟨Ea aa bb,Ea e (Vb aa (Ea e 121665)),Ea (Vb da cb) (Vb da cb),Ea (Ea (Vc da cb) (Vc da cb)) u⟩
def K8 (b:Bool) (s:L4):L4:=cond b ⟨s.x3,s.z3,s.x2,s.z2⟩ s
def Vl (K:Nat) (u:Int):Nat->L4->L4
 |0,s=>s
 |i+1,s=>Vl K u i (K8 (K/2^i%2==1) (Vk u (K8 (K/2^i%2==1) s)))
def h83 (K:Nat) (u:Int):Int:=Ea (Vl K u 255 ⟨1,0,u,1⟩).x2 (Hj (Vl K u 255 ⟨1,0,u,1⟩).z2 PM2)
structure g69 (s:r8) (l:L4):Prop where
 o1:Tx s.fx2
 o2:Tx s.fz2
 o3:Tx s.fx3
 o4:Tx s.fz3
 e1:i9 s.fx2=l.x2
 e2:i9 s.fz2=l.z2
 e3:i9 s.fx3=l.x3
 e4:i9 s.fz3=l.z3
theorem Hy {s:r8} {l:L4} (h:g69 s l) (b:Bool):∃ r,B8 s b=some r/\g69 r (K8 b l):=by
 unfold B8
 rw [Ml b h.o3 h.o1,Option.bind_some,Ml b h.o4 h.o2,Option.bind_some,Ml b h.o1 h.o3,Option.bind_some,Ml b h.o2 h.o4,Option.bind_some]
 refine ⟨_,rfl,?_⟩
 cases b
 ·exact ⟨h.o1,h.o2,h.o3,h.o4,h.e1,h.e2,h.e3,h.e4⟩
 ·exact ⟨h.o3,h.o4,h.o1,h.o2,h.e3,h.e4,h.e1,h.e2⟩
theorem i78:Ak 1=some ⟨[1,0,0,0,0,0,0,0,0,0]⟩:=by kernel_rfl
theorem i79:Ak 121665=some ⟨[121665,0,0,0,0,0,0,0,0,0]⟩:=by kernel_rfl
theorem h84:Tx ⟨[1,0,0,0,0,0,0,0,0,0]⟩:=⟨by simp [p9],rfl⟩
theorem f94:i9 ⟨[1,0,0,0,0,0,0,0,0,0]⟩=1:=by decide
theorem i80:Tx ⟨List.replicate 10 0⟩:=⟨by simp [p9],rfl⟩
theorem h85:i9 ⟨List.replicate 10 0⟩=0:=by decide
theorem j52:Tx ⟨[121665,0,0,0,0,0,0,0,0,0]⟩:=⟨by simp [p9],rfl⟩
theorem i81:i9 ⟨[121665,0,0,0,0,0,0,0,0,0]⟩=121665:=by decide
theorem c49 {s:r8} {l:L4} {u:e9} (h:g69 s l) (hu:Tx u):∃ r,O3 s u=some r/\g69 r (Vk (i9 u) l):=by
 unfold O3
 obtain ⟨a,e,oa,ra⟩:=Vd h.o1 h.o2;rw [e,Option.bind_some]
 obtain ⟨b,e,ob,rb⟩:=Vf h.o1 h.o2;rw [e,Option.bind_some]
 obtain ⟨aa,e,oaa,raa⟩:=Ky oa;rw [e,Option.bind_some]
 obtain ⟨bb,e,obb,rbb⟩:=Ky ob;rw [e,Option.bind_some]
 obtain ⟨ee,e,oe,re⟩:=Vf oaa obb;rw [e,Option.bind_some]
 obtain ⟨d,e,od,rd⟩:=Vf h.o3 h.o4;rw [e,Option.bind_some]
 obtain ⟨da,e,oda,rda⟩:=X4 od oa;rw [e,Option.bind_some]
 obtain ⟨c,e,oc,rc⟩:=Vd h.o3 h.o4;rw [e,Option.bind_some]
 obtain ⟨cb,e,ocb,rcb⟩:=X4 oc ob;rw [e,Option.bind_some]
 obtain ⟨x2,e,ox2,rx2⟩:=X4 oaa obb;rw [e,Option.bind_some]
 rw [i79,Option.bind_some]
 obtain ⟨t,e,ot,rt⟩:=X4 oe j52;rw [e,Option.bind_some]
 obtain ⟨t2,e,ot2,rt2⟩:=Vd oaa ot;rw [e,Option.bind_some]
 obtain ⟨z2,e,oz2,rz2⟩:=X4 oe ot2;rw [e,Option.bind_some]
 obtain ⟨p,e,op,rp⟩:=Vd oda ocb;rw [e,Option.bind_some]
 obtain ⟨x3,e,ox3,rx3⟩:=Ky op;rw [e,Option.bind_some]
 obtain ⟨m,e,om,rm⟩:=Vf oda ocb;rw [e,Option.bind_some]
 obtain ⟨mm,e,omm,rmm⟩:=Ky om;rw [e,Option.bind_some]
 obtain ⟨z3,e,oz3,rz3⟩:=X4 omm hu;rw [e,Option.bind_some]
 refine ⟨_,rfl,ox2,oz2,ox3,oz3,?_,?_,?_,?_⟩
 ·simp only [Vk,rx2,raa,rbb,ra,rb,h.e1,h.e2]
 ·simp only [Vk,rz2,rt2,rt,re,raa,rbb,ra,rb,h.e1,h.e2,i81]
 ·simp only [Vk,rx3,rp,rda,rcb,rd,rc,ra,rb,h.e1,h.e2,h.e3,h.e4]
 ·simp only [Vk,rz3,rmm,rm,rda,rcb,rd,rc,ra,rb,h.e1,h.e2,h.e3,h.e4]
theorem f29 (K i:Nat) (hi:i<256):(bits .u8 .and (((j8 8 32 K).getD (i/8) 0/2^(i%8):Nat):Int) 1:Int)=((K/2^i%2:Nat):Int):=by
 have hb:(j8 8 32 K).getD (i/8) 0<256:=M5 (U2 8 32 K) (by decide) _
 have hb':(j8 8 32 K).getD (i/8) 0/2^(i%8)<256:=Nat.lt_of_le_of_lt (Nat.div_le_self _ _) hb
 rw [h78 hb',Jm 8 (by decide) 32 K i (by omega)]
theorem l07 (m:Nat):(((m:Nat):Int)==1)=(m==1):=by
 cases h:m==1
 ·simp at h ⊢;omega
 ·simp at h ⊢;omega
theorem f95 (K:Nat) {u:e9} (hu:Tx u):∀ (i n:Nat) (s:r8) (l:L4),g69 s l->i<n->i≤255 ->
  P6 (zl (j8 8 32 K)) u n ((i:Int)-1) s=some (Xk (Ea (Vl K (i9 u) i l).x2 (Hj (Vl K (i9 u) i l).z2 PM2)))
 |i,0,_,_,_,h,_=>by omega
 |0,n+1,s,l,hs,_,_=>by
  rw [P6.eq_2,i0 (by decide)]
  obtain ⟨z,e,oz,rz⟩:=e08 hs.o2;rw [e,Option.bind_some]
  obtain ⟨x,e,ox,rx⟩:=X4 hs.o1 oz;rw [e,Option.bind_some]
  rw [f26 ox,Option.bind_some,rx,rz,hs.e1,hs.e2];rfl
 |i+1,n+1,s,l,hs,h,h'=>by
  rw [P6.eq_2,show ((i+1:Nat):Int)-1=i by omega,j7 (by simp)]
  have e1:Int.tdiv (i:Int) 8=((i/8:Nat):Int):=rfl
  have e3:Int.tmod (i:Int) 8=((i%8:Nat):Int):=rfl
  have m2:min (i%8) (IntKind.bits .u8)=i%8:=by show min _ 8=_;omega
  simp only [m6,e1,e3,A8 (n:=i/8) (by omega),Int.toNat_natCast,m2,F9,Mm]
  rw [if_pos (by omega),if_pos (by omega),f29 K i (by omega),l07]
  obtain ⟨a,e,ha⟩:=Hy hs (K/2^i%2==1);rw [e,Option.bind_some]
  obtain ⟨b,e,hb⟩:=c49 ha hu;rw [e,Option.bind_some]
  obtain ⟨c,e,hc⟩:=Hy hb (K/2^i%2==1);rw [e,Option.bind_some]
  rw [fellowship_pred i (by omega)]
  exact f95 K hu i n c _ hc (by omega) (by omega)
where
 fellowship_pred (i:Nat) (h:i<1000):IntKind.wrap .i64 ((i:Int)-1)=(i:Int)-1:=q6 (by omega) (by omega)
def leN (l:List Int):Nat:=Z2 8 (l.map Int.toNat)
theorem d18 (N:Nat) (h:N<2^256):leN (zl (j8 8 32 N))=N:=by
 unfold leN zl
 rw [List.map_map,show (Int.toNat∘fun (n:Nat)=>(n:Int))=id from funext fun n=>Int.toNat_natCast n,List.map_id,Fi]
 exact Nat.mod_eq_of_lt h
def v9 (k u:List Int):List Int:=Xk (h83 (leN (Tk k)) (((leN u%2^255:Nat):Int)%PP))
theorem mod_le (x a b:Nat) (h:a≤b) (hx:x<2^a):x%2^b=x:=Nat.mod_eq_of_lt (Nat.lt_of_lt_of_le hx (Nat.pow_le_pow_right (by decide) h))
theorem e17 (X:Nat) (h:X<2^255):m4 (zl (j8 26 10 X))=(X:Int):=by
 have e:=mod_le X 255 (26*10) (by decide) h
 have h:=Fi 26 10 X
 rw [e] at h
 rw [Vh,h]
theorem c50 {k u:List Int} (hk:p9 256 k) (lk:k.length=32) (hu:p9 256 u) (lu:u.length=32):Dd k u=some (v9 k u):=by
 obtain ⟨c1,_,c2,c3⟩:=e15 hk lk
 obtain ⟨K,e,hK⟩:=a09 c2 c3
 obtain ⟨U,rfl,hU⟩:=a09 hu lu
 unfold Dd v9
 rw [c1,Option.bind_some,e,i75,Option.bind_some,i78,Option.bind_some,d18 K hK,d18 U hU]
 simp only [Option.bind_some]
 have hb:(bits .u8 .and (Int.fdiv ((zl (j8 8 32 K)).getD 31 0) (2^6)) 1==1)=(K/2^254%2==1):=by
  rw [F9,Mm]
  have:=f29 K 254 (by decide)
  rw [this,l07]
 rw [m6,hb]
 have ou:Tx ⟨zl (j8 26 10 (U%2^255))⟩:=⟨a99 (n:=67108864) (U2 26 10 _),by simp [A1,Ae]⟩
 have ru:i9 ⟨zl (j8 26 10 (U%2^255))⟩=((U%2^255:Nat):Int)%PP:=by
  show m4 (zl _)%PP=_
  rw [e17 _ (Nat.mod_lt _ (Nat.two_pow_pos _))]
 have h0:g69 { fx2:=⟨[1,0,0,0,0,0,0,0,0,0]⟩,fz2:=⟨List.replicate 10 0⟩,fx3:=⟨zl (j8 26 10 (U%2^255))⟩,fz3:=⟨[1,0,0,0,0,0,0,0,0,0]⟩ } ⟨1,0,((U%2^255:Nat):Int)%PP,1⟩ :=
  ⟨h84,i80,ou,h84,f94,h85,ru,f94⟩
 obtain ⟨a,e,ha⟩:=Hy h0 (K/2^254%2==1);rw [e,Option.bind_some]
 obtain ⟨b,e,hb⟩:=c49 ha ou;rw [e,Option.bind_some]
 obtain ⟨c,e,hc⟩:=Hy hb (K/2^254%2==1);rw [e,Option.bind_some]
 have:=f95 K ou 254 f9 c _ hc (by unfold f9;omega) (by decide)
 rw [ru] at this
 exact this
end Go.Eng
namespace Go.Eng
set_option maxRecDepth 100000
set_option maxHeartbeats 1000000
theorem c51 (x y:Int):Ea x y=Ea y x:=by unfold Ea;rw [Int.mul_comm]
theorem Vm (x y:Int):0≤Vb x y/\Vb x y<PP:=⟨Int.emod_nonneg _ (by decide),Int.emod_lt_of_pos _ (by decide)⟩
theorem Vn (x y:Int):0≤Vc x y/\Vc x y<PP:=⟨Int.emod_nonneg _ (by decide),Int.emod_lt_of_pos _ (by decide)⟩
theorem Aw (x y:Int):0≤Ea x y/\Ea x y<PP:=⟨Int.emod_nonneg _ (by decide),Int.emod_lt_of_pos _ (by decide)⟩
theorem up {x:Int} (h:0≤x/\x<PP):0≤x/\x<J0:=⟨h.1,Int.lt_trans h.2 (by decide)⟩
theorem f96 {x y:Int} (hx:0≤x/\x<PP) (hy:0≤y/\y<PP):Cb (s7 x) (s7 y)=some (s7 (Vb x y)):=f92 (up hx).1 (up hx).2 (up hy).1 (up hy).2
theorem f97 {x y:Int} (hx:0≤x/\x<PP) (hy:0≤y/\y<PP):Ev (s7 x) (s7 y)=some (s7 (Vc x y)):=i76 (up hx).1 (up hx).2 (up hy).1 (up hy).2
theorem Qk {x y:Int} (hx:0≤x/\x<PP) (hy:0≤y/\y<PP):B3 (s7 x) (s7 y)=some (s7 (Ea x y)):=Xl (up hx).1 (up hx).2 (up hy).1 (up hy).2
structure L4.InR (l:L4):Prop where
 a:0≤l.x2/\l.x2<PP
 b:0≤l.z2/\l.z2<PP
 c:0≤l.x3/\l.x3<PP
 d:0≤l.z3/\l.z3<PP
theorem b07 {l:L4} (h:l.InR) (b:Bool):(K8 b l).InR:=by cases b;exact h;exact ⟨h.c,h.d,h.a,h.b⟩
theorem e18 (u:Int) (l:L4):(Vk u l).InR:=⟨Aw _ _,Aw _ _,Aw _ _,Aw _ _⟩
theorem f98 (K:Nat) (u:Int):∀ (i:Nat) (l:L4),l.InR->(Vl K u i l).InR
 |0,_,h=>h
 |i+1,_,_=>f98 K u i _ (b07 (e18 _ _) _)
theorem e19 (b:Bool) (l:L4):K8 b (K8 b l)=l:=by cases b<;>rfl
def b2i (b:Bool):Int:=cond b 1 0
theorem e25 (K:Nat) {u:Int} (hu:0≤u/\u<PP):∀ (i n:Nat) (sw:Bool) (l:L4),l.InR->i<n->i≤255 ->
  ∃ sw',R8 (zl (j8 8 32 K)) (s7 u) n (b2i sw) ((i:Int)-1) (s7 (K8 sw l).x2) (s7 (K8 sw l).z2) (s7 (K8 sw l).x3) (s7 (K8 sw l).z3) =
   some (b2i sw',s7 (K8 sw' (Vl K u i l)).x2,s7 (K8 sw' (Vl K u i l)).z2,s7 (K8 sw' (Vl K u i l)).x3,s7 (K8 sw' (Vl K u i l)).z3)
 |i,0,_,_,_,h,_=>by omega
 |0,n+1,sw,l,hl,_,_=>by
  rw [R8.eq_2,i0 (by decide)]
  exact ⟨sw,rfl⟩
 |i+1,n+1,sw,l,hl,h,h'=>by
  rw [R8.eq_2,show ((i+1:Nat):Int)-1=i by omega,j7 (by simp)]
  have e1:Int.tdiv (i:Int) 8=((i/8:Nat):Int):=rfl
  have e3:Int.tmod (i:Int) 8=((i%8:Nat):Int):=rfl
  have m2:min (i%8) (IntKind.bits .u8)=i%8:=by show min _ 8=_;omega
  simp only [m6,e1,e3,A8 (n:=i/8) (by omega),Oc,Nat.mod_eq_of_lt (a:=i%8) (b:=18446744073709551616) (by omega),Int.toNat_natCast,m2,F9,Mm]
  rw [if_pos (by omega),if_pos (by omega),f29 K i (by omega)]
  have hbi:((K/2^i%2:Nat):Int)=b2i (K/2^i%2==1):=by
   rcases Nat.mod_two_eq_zero_or_one (K/2^i) with h0|h0<;>rw [h0]<;>rfl
  rw [hbi]
  rw [show Vl K u (i+1) l=Vl K u i (K8 (K/2^i%2==1) (Vk u (K8 (K/2^i%2==1) l))) from rfl]
  generalize (K/2^i%2==1)=b at *
  have hc:(cond (!(b2i sw==b2i b)) (some (s7 (K8 sw l).x3,s7 (K8 sw l).z3,s7 (K8 sw l).x2,s7 (K8 sw l).z2)) (some (s7 (K8 sw l).x2,s7 (K8 sw l).z2,s7 (K8 sw l).x3,s7 (K8 sw l).z3)):Option ((List Int)×(List Int)×(List Int)×(List Int)))=some (s7 (K8 b l).x2,s7 (K8 b l).z2,s7 (K8 b l).x3,s7 (K8 b l).z3):=by
   cases sw<;>cases b<;>rfl
  rw [hc,Option.bind_some]
  have hs:=b07 hl b
  generalize K8 b l=s at *
  simp only
  have r1:=Vm s.x2 s.z2
  have r2:=Vn s.x2 s.z2
  have r3:=Aw (Vb s.x2 s.z2) (Vb s.x2 s.z2)
  have r4:=Aw (Vc s.x2 s.z2) (Vc s.x2 s.z2)
  have r5:=Vn (Ea (Vb s.x2 s.z2) (Vb s.x2 s.z2)) (Ea (Vc s.x2 s.z2) (Vc s.x2 s.z2))
  rw [f96 hs.a hs.b,Option.bind_some,Qk r1 r1,Option.bind_some,f97 hs.a hs.b,Option.bind_some,Qk r2 r2,Option.bind_some,f97 r3 r4,Option.bind_some]
  rw [f96 hs.c hs.d,Option.bind_some,f97 hs.c hs.d,Option.bind_some,Qk (Vn _ _) r1,Option.bind_some,Qk (Vm _ _) r2,Option.bind_some]
  rw [f96 (Aw _ _) (Aw _ _),Option.bind_some,f97 (Aw _ _) (Aw _ _),Option.bind_some,Qk (Vm _ _) (Vm _ _),Option.bind_some,Qk (Vn _ _) (Vn _ _),Option.bind_some]
  rw [Qk hu (Aw _ _),Option.bind_some,Qk r3 r4,Option.bind_some]
  rw [show (List.replicate 8 (0:Int)).set 0 121665=s7 121665 by kernel_rfl,Qk (by decide) r5,Option.bind_some,f96 r3 (Aw _ _),Option.bind_some,Qk r5 (Vm _ _),Option.bind_some]
  rw [q6 (n:=(i:Int)-1) (by omega) (by omega)]
  have ih:=e25 K hu i n b (K8 b (Vk u s)) (b07 (e18 _ _) _) (by omega) (by omega)
  rw [e19] at ih
  rw [c51 121665,c51 u]
  exact ih
theorem f30 (U:Nat):Gz (zl (j8 8 32 U))=some (s7 (((U%2^255:Nat):Int)%PP)):=by
 unfold Gz
 have e:(2:Nat)^255=57896044618658097711785492504343953926634992332820282019728792003956564819968:=by kernel_rfl
 have hlt:U%2^255<2^255:=Nat.mod_lt _ (Nat.two_pow_pos _)
 rw [h82,h81,Option.bind_some,Nat.mod_mod_of_dvd'' hlt]
 have:zl (j8 32 8 (U%2^255))=s7 ((U%2^255:Nat):Int):=by unfold s7;rw [Int.toNat_natCast]
 rw [this,Ti (Int.natCast_nonneg _) (by rw [e] at hlt ⊢;simp only [J0];omega)];rfl
where
 Nat.mod_mod_of_dvd'' {x:Nat} (h:x<2^255):x%2^256=x:=Nat.mod_eq_of_lt (Nat.lt_of_lt_of_le h (Nat.pow_le_pow_right (by decide) (by decide)))
theorem b08 {k u:List Int} (hk:p9 256 k) (lk:k.length=32) (hu:p9 256 u) (lu:u.length=32):Fr k u=some (v9 k u):=by
 obtain ⟨_,c1,c2,c3⟩:=e15 hk lk
 obtain ⟨K,e,hK⟩:=a09 c2 c3
 obtain ⟨U,rfl,hU⟩:=a09 hu lu
 unfold Fr v9
 rw [c1,Option.bind_some,f30,Option.bind_some,e,d18 K hK,d18 U hU]
 have hr:0≤((U%2^255:Nat):Int)%PP/\((U%2^255:Nat):Int)%PP<PP:=⟨Int.emod_nonneg _ (by decide),Int.emod_lt_of_pos _ (by decide)⟩
 generalize ((U%2^255:Nat):Int)%PP=x at *
 have hi:L4.InR ⟨1,0,x,1⟩:=⟨(by decide:(0:Int)≤1/\(1:Int)<PP),(by decide:(0:Int)≤0/\(0:Int)<PP),hr,(by decide:(0:Int)≤1/\(1:Int)<PP)⟩
 obtain ⟨sw,h⟩:=e25 K hr 255 f9 false ⟨1,0,x,1⟩ hi (by unfold f9;omega) (by decide)
 rw [show (List.replicate 8 (0:Int)).set 0 1=s7 1 by kernel_rfl,show List.replicate 8 (0:Int)=s7 0 by kernel_rfl]
 have h:R8 (zl (j8 8 32 K)) (s7 x) f9 0 254 (s7 1) (s7 0) (s7 x) (s7 1)=_:=h
 rw [h,Option.bind_some]
 have hl:=f98 K x 255 _ hi
 unfold h83
 generalize Vl K x 255 ⟨1,0,x,1⟩=l at *
 have hc:(cond (b2i sw==1) (some (s7 (K8 sw l).x3,s7 (K8 sw l).z3)) (some (s7 (K8 sw l).x2,s7 (K8 sw l).z2)):Option ((List Int)×(List Int)))=some (s7 l.x2,s7 l.z2):=by
  cases sw<;>rfl
 simp only
 rw [hc,Option.bind_some]
 simp only
 have rp:=Tj l.z2 PM2
 have rm:=Aw l.x2 (Hj l.z2 PM2)
 rw [f27 hl.b.1 hl.b.2,Option.bind_some,Qk hl.a rp,Option.bind_some,g68 rm.1 (up rm).2];rfl
end Go.Eng
