/-
  Part of a proof: KemRa.
-/
import Derived.Test.YtaogeiahkekaoaaGreatDoorKemPa
set_option linter.unusedVariables false
set_option linter.unusedSimpArgs false
namespace Go.Eng
set_option maxRecDepth 100000
set_option maxHeartbeats 4000000
def val32:List Int->Int
 |[]=>0
 |x::xs=>x+4294967296*val32 xs
theorem val32_nonneg {n:Int}:∀ {l:List Int},Lim n l->0≤val32 l
 |[],_=>Int.le_refl 0
 |_::_,⟨a,c⟩=>by have:=val32_nonneg c;simp only [val32];omega
theorem val32_lt:∀ {l:List Int},Lim 4294967296 l->val32 l<4294967296^l.length
 |[],_=>by decide
 |x::xs,⟨a,c⟩=>by
  have:=val32_lt c
  have hp:(4294967296:Int)^(xs.length+1)=4294967296^xs.length*4294967296:=Int.pow_succ ..
  simp only [val32,List.length_cons,hp];omega
theorem val32_append:∀ (a b:List Int),val32 (a++b)=val32 a+4294967296^a.length*val32 b
 |[],b=>by simp [val32]
 |x::xs,b=>by
  have hp:(4294967296:Int)^(xs.length+1)=4294967296^xs.length*4294967296:=Int.pow_succ ..
  simp only [List.cons_append,val32,val32_append xs b,List.length_cons,hp]
  rw [Int.mul_add,Int.mul_comm (4294967296^xs.length) 4294967296,Int.mul_assoc];omega
theorem val32_zl (m:List Nat):val32 (zl m)=(valN 32 m:Int):=by
 induction m with
 |nil=>rfl
 |cons x xs ih=>rw [zl_cons,val32,ih,valN];rfl
theorem pow8:(4294967296:Int)^8=115792089237316195423570985008687907853269984665640564039457584007913129639936:=by decide
theorem u64_32 {n:Int} (h:0≤n) (h1:n<4294967296):IntKind.u64.wrap n=n:=u64_id h (by omega)
theorem fpass_val:∀ (xs ys:List Int) (c:Int),xs.length=ys.length->Lim 4294967296 xs->Lim 4294967296 ys->0≤c->c≤38 ->
  val32 xs+38*val32 ys+c=val32 (fpass c xs ys).2+4294967296^xs.length*(fpass c xs ys).1/\Lim 4294967296 (fpass c xs ys).2/\(fpass c xs ys).2.length=xs.length/\0≤(fpass c xs ys).1/\(fpass c xs ys).1≤38
 |[],[],c,_,_,_,h,h'=>by simp [fpass,val32,Lim,h];assumption
 |x::xs,y::ys,c,hl,⟨⟨p1,p2⟩,p3⟩,⟨⟨q1,q2⟩,q3⟩,h4,h5=>by
  have e1:IntKind.u64.wrap x=x:=u64_32 p1 p2
  have e2:IntKind.u64.wrap y=y:=u64_32 q1 q2
  have e3:IntKind.u64.wrap (38*y)=38*y:=u64_id (by omega) (by omega)
  have e4:IntKind.u64.wrap (x+38*y)=x+38*y:=u64_id (by omega) (by omega)
  have e5:IntKind.u64.wrap (x+38*y+c)=x+38*y+c:=u64_id (by omega) (by omega)
  have e6:IntKind.u32.wrap (x+38*y+c)=(x+38*y+c)%4294967296:=wu32 _
  obtain ⟨i1,i2,i3,i4,i5⟩:=fpass_val xs ys ((x+38*y+c)/4294967296) (by simpa using hl) p3 q3 (by omega) (by omega)
  have hp:(4294967296:Int)^(xs.length+1)=4294967296^xs.length*4294967296:=Int.pow_succ ..
  simp only [fpass,e1,e2,e3,e4,e5,e6,fdiv32,val32,List.length_cons,hp,Lim]
  refine ⟨?_,⟨⟨by omega,by omega⟩,i2⟩,by rw [i3],i4,i5⟩
  generalize fpass ((x+38*y+c)/4294967296) xs ys=r at *
  rw [show (4294967296:Int)^xs.length*4294967296*r.1=4294967296*(4294967296^xs.length*r.1) by rw [Int.mul_comm (4294967296^xs.length) 4294967296,Int.mul_assoc]]
  generalize (4294967296:Int)^xs.length*r.1=z at *
  omega
theorem gpass_val:∀ (xs:List Int) (c:Int),Lim 4294967296 xs->0≤c->c<4294967296 ->
  val32 xs+c=val32 (gpass c xs).2+4294967296^xs.length*(gpass c xs).1/\Lim 4294967296 (gpass c xs).2/\(gpass c xs).2.length=xs.length/\0≤(gpass c xs).1
 |[],c,_,h,h'=>by simp [gpass,val32,Lim,h]
 |x::xs,c,⟨⟨p1,p2⟩,p3⟩,h4,h5=>by
  have e1:IntKind.u64.wrap x=x:=u64_32 p1 p2
  have e5:IntKind.u64.wrap (c+x)=c+x:=u64_id (by omega) (by omega)
  have e6:IntKind.u32.wrap (c+x)=(c+x)%4294967296:=wu32 _
  obtain ⟨i1,i2,i3,i4⟩:=gpass_val xs ((c+x)/4294967296) p3 (by omega) (by omega)
  have hp:(4294967296:Int)^(xs.length+1)=4294967296^xs.length*4294967296:=Int.pow_succ ..
  simp only [gpass,e1,e5,e6,fdiv32,val32,List.length_cons,hp,Lim]
  refine ⟨?_,⟨⟨by omega,by omega⟩,i2⟩,by rw [i3],i4⟩
  generalize gpass ((c+x)/4294967296) xs=r at *
  rw [show (4294967296:Int)^xs.length*4294967296*r.1=4294967296*(4294967296^xs.length*r.1) by rw [Int.mul_comm (4294967296^xs.length) 4294967296,Int.mul_assoc]]
  generalize (4294967296:Int)^xs.length*r.1=z at *
  omega
theorem apass_val:∀ (xs ys:List Int) (c:Int),xs.length=ys.length->Lim 4294967296 xs->Lim 4294967296 ys->0≤c->c≤1 ->
  val32 xs+val32 ys+c=val32 (apass c xs ys).2+4294967296^xs.length*(apass c xs ys).1/\Lim 4294967296 (apass c xs ys).2/\(apass c xs ys).2.length=xs.length/\0≤(apass c xs ys).1/\(apass c xs ys).1≤1
 |[],[],c,_,_,_,h,h'=>by simp [apass,val32,Lim,h];assumption
 |x::xs,y::ys,c,hl,⟨⟨p1,p2⟩,p3⟩,⟨⟨q1,q2⟩,q3⟩,h4,h5=>by
  have e1:IntKind.u64.wrap x=x:=u64_32 p1 p2
  have e2:IntKind.u64.wrap y=y:=u64_32 q1 q2
  have e4:IntKind.u64.wrap (x+y)=x+y:=u64_id (by omega) (by omega)
  have e5:IntKind.u64.wrap (x+y+c)=x+y+c:=u64_id (by omega) (by omega)
  have e6:IntKind.u32.wrap (x+y+c)=(x+y+c)%4294967296:=wu32 _
  obtain ⟨i1,i2,i3,i4,i5⟩:=apass_val xs ys ((x+y+c)/4294967296) (by simpa using hl) p3 q3 (by omega) (by omega)
  have hp:(4294967296:Int)^(xs.length+1)=4294967296^xs.length*4294967296:=Int.pow_succ ..
  simp only [apass,e1,e2,e4,e5,e6,fdiv32,val32,List.length_cons,hp,Lim]
  refine ⟨?_,⟨⟨by omega,by omega⟩,i2⟩,by rw [i3],i4,i5⟩
  generalize apass ((x+y+c)/4294967296) xs ys=r at *
  rw [show (4294967296:Int)^xs.length*4294967296*r.1=4294967296*(4294967296^xs.length*r.1) by rw [Int.mul_comm (4294967296^xs.length) 4294967296,Int.mul_assoc]]
  generalize (4294967296:Int)^xs.length*r.1=z at *
  omega
theorem mpass_val:∀ (xs ys:List Int) (o:Int),xs.length=ys.length->Lim 4294967296 xs->Lim 4294967296 ys->0≤o->o≤1 ->
  ∃ b,0≤b/\b≤1/\val32 (mpass o xs ys)=val32 xs-val32 ys-o+4294967296^xs.length*b/\Lim 4294967296 (mpass o xs ys)/\(mpass o xs ys).length=xs.length
 |[],[],o,_,_,_,h,h'=>⟨o,h,h',by simp [mpass,val32,Lim];omega⟩
 |x::xs,y::ys,o,hl,⟨⟨p1,p2⟩,p3⟩,⟨⟨q1,q2⟩,q3⟩,h4,h5=>by
  have e1:IntKind.u64.wrap x=x:=u64_32 p1 p2
  have e2:IntKind.u64.wrap y=y:=u64_32 q1 q2
  have e3:IntKind.u64.wrap (x+4294967296)=x+4294967296:=u64_id (by omega) (by omega)
  have e4:IntKind.u64.wrap (x+4294967296-y)=x+4294967296-y:=u64_id (by omega) (by omega)
  have e5:IntKind.u64.wrap (x+4294967296-y-o)=x+4294967296-y-o:=u64_id (by omega) (by omega)
  have e6:IntKind.u32.wrap (x+4294967296-y-o)=(x+4294967296-y-o)%4294967296:=wu32 _
  have e7:IntKind.u64.wrap (1-(x+4294967296-y-o)/4294967296)=1-(x+4294967296-y-o)/4294967296:=u64_id (by omega) (by omega)
  obtain ⟨b,b0,b1,i1,i2,i3⟩:=mpass_val xs ys (1-(x+4294967296-y-o)/4294967296) (by simpa using hl) p3 q3 (by omega) (by omega)
  have hp:(4294967296:Int)^(xs.length+1)=4294967296^xs.length*4294967296:=Int.pow_succ ..
  refine ⟨b,b0,b1,?_⟩
  simp only [mpass,e1,e2,e3,e4,e5,e6,e7,fdiv32,val32,List.length_cons,hp,Lim,i1]
  refine ⟨?_,⟨⟨by omega,by omega⟩,i2⟩,by rw [i3]⟩
  rw [show (4294967296:Int)^xs.length*4294967296*b=4294967296*(4294967296^xs.length*b) by rw [Int.mul_comm (4294967296^xs.length) 4294967296,Int.mul_assoc]]
  generalize (4294967296:Int)^xs.length*b=z at *
  omega
def valBE:List Int->Int
 |[]=>0
 |x::xs=>x*4294967296^xs.length+valBE xs
theorem valBE_lt:∀ {l:List Int},Lim 4294967296 l->0≤valBE l/\valBE l<4294967296^l.length
 |[],_=>by decide
 |x::xs,⟨⟨a,a'⟩,c⟩=>by
  obtain ⟨h,h'⟩:=valBE_lt c
  have hp:(4294967296:Int)^(xs.length+1)=4294967296^xs.length*4294967296:=Int.pow_succ ..
  simp only [valBE,List.length_cons,hp]
  generalize (4294967296:Int)^xs.length=q at *
  have h1:0≤x*q:=Int.mul_nonneg a (by omega)
  have h2:(x+1)*q≤4294967296*q:=Int.mul_le_mul_of_nonneg_right (by omega) (by omega)
  rw [Int.add_mul] at h2
  rw [Int.mul_comm q]
  omega
theorem lessR_val:∀ (xs ys:List Int),xs.length=ys.length->Lim 4294967296 xs->Lim 4294967296 ys->lessR xs ys=decide (valBE xs<valBE ys)
 |[],[],_,_,_=>by simp [lessR,valBE]
 |x::xs,y::ys,hl,⟨⟨p1,p2⟩,p3⟩,⟨⟨q1,q2⟩,q3⟩=>by
  have hl':xs.length=ys.length:=by simpa using hl
  have ih:=lessR_val xs ys hl' p3 q3
  obtain ⟨a1,a2⟩:=valBE_lt p3
  obtain ⟨b1,b2⟩:=valBE_lt q3
  rw [←hl'] at b2
  simp only [lessR,valBE,←hl']
  generalize (4294967296:Int)^xs.length=q at *
  by_cases h:x=y
  ·subst h
   rw [cond_tt (by simp),ih]
   congr 1;simp
  ·rw [cond_ff (by simpa using h)]
   congr 1
   apply propext
   constructor
   ·intro hlt
    have:(x+1)*q≤y*q:=Int.mul_le_mul_of_nonneg_right (by omega) (by omega)
    rw [Int.add_mul] at this
    omega
   ·intro hlt
    refine Classical.byContradiction fun hn => ?_
    have:(y+1)*q≤x*q:=Int.mul_le_mul_of_nonneg_right (by omega) (by omega)
    rw [Int.add_mul] at this
    omega
def rowq (x:Int):Int->List Int->List Int->List Int
 |c,[],_=>[IntKind.wrap .u32 c]
 |_,_::_,[]=>[]
 |c,y::ys,w::ws=>IntKind.wrap .u32 (IntKind.wrap .u64 (IntKind.wrap .u64 (IntKind.wrap .u64 (IntKind.wrap .u64 x*IntKind.wrap .u64 y)+IntKind.wrap .u64 w)+c))::rowq x (Int.fdiv (IntKind.wrap .u64 (IntKind.wrap .u64 (IntKind.wrap .u64 (IntKind.wrap .u64 x*IntKind.wrap .u64 y)+IntKind.wrap .u64 w)+c)) (2^32)) ys ws
theorem rowp_eq (x z:Int) (zs:List Int):∀ (ys us:List Int) (c:Int),us.length=ys.length->rowp x c ys (us++z::zs)=rowq x c ys us++zs
 |[],[],c,_=>rfl
 |y::ys,w::us,c,h=>by simp only [List.cons_append,rowp,rowq,rowp_eq x z zs ys us _ (by simpa using h)]
theorem rowq_val (x:Int) (hx:0≤x) (hx':x<4294967296):∀ (ys us:List Int) (c:Int),us.length=ys.length->Lim 4294967296 ys->Lim 4294967296 us->0≤c->c<4294967296 ->
  val32 (rowq x c ys us)=val32 us+x*val32 ys+c/\Lim 4294967296 (rowq x c ys us)/\(rowq x c ys us).length=ys.length+1
 |[],[],c,_,_,_,h,h'=>by
  simp only [rowq,u32_id h h',val32,Lim,Int.mul_zero,Int.add_zero,Int.zero_add,List.length_cons,List.length_nil,and_true,true_and]
  exact ⟨h,h'⟩
 |y::ys,w::us,c,hl,⟨⟨p1,p2⟩,p3⟩,⟨⟨q1,q2⟩,q3⟩,h4,h5=>by
  have m0:0≤x*y:=Int.mul_nonneg hx p1
  have m1:x*y≤4294967295*4294967295:=Int.mul_le_mul (by omega) (by omega) p1 (by decide)
  have e1:IntKind.u64.wrap x=x:=u64_32 hx hx'
  have e2:IntKind.u64.wrap y=y:=u64_32 p1 p2
  have e3:IntKind.u64.wrap w=w:=u64_32 q1 q2
  have e4:IntKind.u64.wrap (x*y)=x*y:=u64_id (by omega) (by omega)
  have e5:IntKind.u64.wrap (x*y+w)=x*y+w:=u64_id (by omega) (by omega)
  have e6:IntKind.u64.wrap (x*y+w+c)=x*y+w+c:=u64_id (by omega) (by omega)
  obtain ⟨i1,i2,i3⟩:=rowq_val x hx hx' ys us ((x*y+w+c)/4294967296) (by simpa using hl) p3 q3 (by omega) (by omega)
  simp only [rowq,e1,e2,e3,e4,e5,e6,wu32,fdiv32,val32,Lim,List.length_cons,i1,i3]
  refine ⟨?_,⟨⟨by omega,by omega⟩,i2⟩,trivial⟩
  rw [Int.mul_add x,Int.mul_left_comm x]
  generalize x*y=u at *
  generalize x*val32 ys=v at *
  omega
theorem rows32_val (ys:List Int) (hy:Lim 4294967296 ys):∀ (xs us:List Int),us.length=ys.length->Lim 4294967296 xs->Lim 4294967296 us ->
  val32 (rows32 ys xs (us++List.replicate xs.length 0))=val32 us+val32 xs*val32 ys/\Lim 4294967296 (rows32 ys xs (us++List.replicate xs.length 0))/\(rows32 ys xs (us++List.replicate xs.length 0)).length=ys.length+xs.length
 |[],us,hl,_,h=>by simp [rows32,val32,hl,h]
 |x::xs,us,hl,⟨⟨p1,p2⟩,p3⟩,h=>by
  obtain ⟨i1,i2,i3⟩:=rowq_val x p1 p2 ys us 0 hl hy h (by decide) (by decide)
  rw [List.length_cons,List.replicate_succ]
  simp only [rows32,rowp_eq x 0 _ ys us 0 hl]
  generalize rowq x 0 ys us=r at *
  match r,i1,i2,i3 with
  |r::rs,i1,⟨⟨j1,j2⟩,j3⟩,i3 =>
   have hrs:rs.length=ys.length:=by simpa using i3
   obtain ⟨k1,k2,k3⟩:=rows32_val ys hy xs rs hrs p3 j3
   simp only [List.cons_append,val32,Lim,List.length_cons,k1,k3] at i1 ⊢
   refine ⟨?_,⟨⟨j1,j2⟩,k2⟩,by omega⟩
   rw [Int.add_mul,Int.mul_add,Int.mul_assoc];omega
end Go.Eng
namespace Go.Eng
set_option maxRecDepth 100000
set_option maxHeartbeats 4000000
def numP (x:Int):List Int:=zl (limbsN 32 8 x.toNat)
abbrev P256:Int:=115792089237316195423570985008687907853269984665640564039457584007913129639936
theorem limbs32 {l:List Int} (h:Lim 4294967296 l) (hn:l.length=8):l=numP (val32 l):=by
 obtain ⟨m,rfl,h1,h2⟩:=lim_zl (n:=4294967296) h
 unfold numP
 rw [val32_zl,Int.toNat_natCast,←hn,←h1,limbsN_val 32 m (by simpa using h2)]
theorem numP_len (x:Int):(numP x).length=8:=by rw [numP,zl_len,limbsN_len]
theorem numP_lim (x:Int):Lim 4294967296 (numP x):=zl_lim (n:=4294967296) (limbsN_lt 32 8 _)
theorem numP_val {x:Int} (h:0≤x) (h':x<P256):val32 (numP x)=x:=by
 rw [numP,val32_zl,valN_limbs]
 have e:(2:Nat)^(32*8)=115792089237316195423570985008687907853269984665640564039457584007913129639936:=by decide
 rw [e,Nat.mod_eq_of_lt (by simp only [P256] at h';omega)]
 omega
theorem P_eq:fr09_P=some (numP PP):=by kernel_rfl
theorem minus_some {a b:Int} (ha:0≤a) (ha':a<P256) (hb:0≤b) (hab:b≤a):fr09_minus (numP a) (numP b)=some (numP (a-b)):=by
 obtain ⟨c,c0,c1,h1,h2,h3⟩:=mpass_val (numP a) (numP b) 0 (by rw [numP_len,numP_len]) (numP_lim a) (numP_lim b) (by decide) (by decide)
 have h4:=val32_lt h2
 have h5:=val32_nonneg h2
 rw [numP_len] at h1 h3
 rw [h3] at h4
 rw [pow8] at h1 h4
 rw [numP_val ha ha',numP_val hb (by omega)] at h1
 have hc:val32 (mpass 0 (numP a) (numP b))=a-b:=by simp only [P256] at ha';omega
 have h6:=limbs32 h2 h3
 rw [hc] at h6
 rw [←h6]
 obtain ⟨a0,a1,a2,a3,a4,a5,a6,a7,e1⟩:=list8 (numP_len a)
 obtain ⟨b0,b1,b2,b3,b4,b5,b6,b7,e2⟩:=list8 (numP_len b)
 rw [e1,e2]
 exact ref_minus ..
theorem less_some {a b:Int} (ha:0≤a) (ha':a<P256) (hb:0≤b) (hb':b<P256):fr09_less (numP a) (numP b)=some (decide (a<b)):=by
 have va:=numP_val ha ha'
 have vb:=numP_val hb hb'
 have la:=numP_lim a
 have lb:=numP_lim b
 obtain ⟨a0,a1,a2,a3,a4,a5,a6,a7,e1⟩:=list8 (numP_len a)
 obtain ⟨b0,b1,b2,b3,b4,b5,b6,b7,e2⟩:=list8 (numP_len b)
 rw [e1] at la va
 rw [e2] at lb vb
 have la':Lim 4294967296 [a7,a6,a5,a4,a3,a2,a1,a0]:=by
  simp only [Lim] at la ⊢
  obtain ⟨h0,h1,h2,h3,h4,h5,h6,h7,_⟩:=la
  exact ⟨h7,h6,h5,h4,h3,h2,h1,h0,trivial⟩
 have lb':Lim 4294967296 [b7,b6,b5,b4,b3,b2,b1,b0]:=by
  simp only [Lim] at lb ⊢
  obtain ⟨h0,h1,h2,h3,h4,h5,h6,h7,_⟩:=lb
  exact ⟨h7,h6,h5,h4,h3,h2,h1,h0,trivial⟩
 have hv:=lessR_val [a7,a6,a5,a4,a3,a2,a1,a0] [b7,b6,b5,b4,b3,b2,b1,b0] rfl la' lb'
 rw [e1,e2,ref_less,hv]
 have ea:valBE [a7,a6,a5,a4,a3,a2,a1,a0]=a:=by rw [←va];simp only [valBE,val32,List.length_cons,List.length_nil];omega
 have eb:valBE [b7,b6,b5,b4,b3,b2,b1,b0]=b:=by rw [←vb];simp only [valBE,val32,List.length_cons,List.length_nil];omega
 rw [ea,eb]
theorem Least_l1 (n:Nat):∀ (x:Int),0≤x->x<P256->x<n*PP->fr09_Least_l1 n (numP x)=some (numP (x%PP)):=by
 induction n with
 |zero=>intro x h _ h';rw [show ((0:Nat):Int)=0 from rfl,Int.zero_mul] at h';omega
 |succ n ih =>
  intro x h h' h''
  rw [fr09_Least_l1.eq_2,P_eq,Option.bind_some,less_some h h' (by decide) (by decide),Option.bind_some]
  by_cases hx:x<PP
  ·rw [cond_ff (by simpa using hx),Int.emod_eq_of_lt h hx]
  ·have h1:x-PP<P256:=by unfold PP;simp only [P256] at *;omega
   have h2:x-PP<n*PP:=by rw [Int.natCast_add,Int.add_mul] at h'';omega
   rw [cond_tt (by simpa using hx),Option.bind_some,minus_some h h' (by decide) (by omega),Option.bind_some]
   rw [ih (x-PP) (by omega) h1 h2]
   rw [Int.sub_emod,Int.emod_self,Int.sub_zero,Int.emod_emod]
theorem Least_some {x:Int} (h:0≤x) (h':x<P256):fr09_Least (numP x)=some (numP (x%PP)):=by
 unfold fr09_Least
 rw [Least_l1 FUEL x h h' (by unfold FUEL PP;simp only [P256] at h';omega)];rfl
theorem fold_l2:∀ (n:Nat) (x o:Int),0≤x->x<P256->0≤o->o≤38->(o=0/\0<n)\/(o=1/\x<2000/\1<n)\/2<n->fr09_fold_l2 n o (numP x)=some (0,numP ((x+38*o)%P256+(if (x+38*o)<P256 then 0 else 38)))
 |0,x,o,_,_,_,_,h=>by omega
 |n+1,x,o,h1,h2,h3,h4,h5=>by
  rw [fr09_fold_l2.eq_2]
  by_cases ho:o>0
  ·rw [cond_tt (by simpa using ho),u64_id (by omega) (by omega)]
   obtain ⟨g1,g2,g3,g4⟩:=gpass_val (numP x) (o*38) (numP_lim x) (by omega) (by omega)
   have g5:=val32_lt g2
   have g6:=val32_nonneg g2
   rw [numP_len] at g1 g3
   rw [g3] at g5
   rw [pow8] at g1 g5
   rw [numP_val h1 h2] at g1
   have g7:=limbs32 g2 g3
   have e:fr09_fold_l3 FUEL (o*38) 0 (numP x)=some (gpass (o*38) (numP x)):=by
    obtain ⟨a0,a1,a2,a3,a4,a5,a6,a7,e1⟩:=list8 (numP_len x)
    rw [e1];exact ref_fold_l3 ..
   rw [e,Option.bind_some]
   generalize gpass (o*38) (numP x)=r at *
   obtain ⟨o',l⟩:=r
   simp only at g1 g2 g3 g4 g5 g6 g7 ⊢
   rw [g7]
   by_cases hc:x+38*o<P256
   ·have z:o'=0:=by simp only [P256] at hc;omega
    subst z
    have hv:val32 l=x+38*o:=by omega
    rw [fold_l2 n (val32 l) 0 g6 (by omega) (by decide) (by decide) (Or.inl ⟨rfl,by omega⟩)]
    rw [hv,Int.mul_zero,Int.add_zero]
   ·have z:o'=1:=by simp only [P256] at hc h2;omega
    subst z
    have hv:val32 l=x+38*o-P256:=by simp only [P256];omega
    have hv2:val32 l+38*1<P256:=by simp only [P256] at *;omega
    have hv3:(x+38*o)%P256=val32 l:=by rw [hv];simp only [P256] at *;omega
    have h6:(1=(0:Int)/\0<n)\/((1:Int)=1/\val32 l<2000/\1<n)\/2<n:=by
     have:val32 l<2000:=by rw [hv];simp only [P256] at *;omega
     have:¬ (o=1/\x<2000):=by simp only [P256] at hc;omega
     omega
    rw [fold_l2 n (val32 l) 1 g6 (by omega) (by decide) (by decide) h6]
    rw [if_neg hc,if_pos hv2,hv3,Int.emod_eq_of_lt (by omega) hv2,Int.mul_one,Int.add_zero]
  ·have z:o=0:=by omega
   subst z
   rw [cond_ff (by simp)]
   rw [Int.mul_zero,Int.add_zero,if_pos h2,Int.emod_eq_of_lt h1 h2,Int.add_zero]
theorem fold_ref {lo hi:List Int} (hl:lo.length=8) (hh:hi.length=8) (ll:Lim 4294967296 lo) (lh:Lim 4294967296 hi):fr09_fold (lo++hi)=some (numP ((val32 lo+P256*val32 hi)%PP)):=by
 obtain ⟨f1,f2,f3,f4,f5⟩:=fpass_val lo hi 0 (hl.trans hh.symm) ll lh (by decide) (by decide)
 have e:fr09_fold_l1 (lo++hi) FUEL 0 0 (List.replicate 8 0)=some (fpass 0 lo hi):=by
  obtain ⟨a0,a1,a2,a3,a4,a5,a6,a7,rfl⟩:=list8 hl
  obtain ⟨b0,b1,b2,b3,b4,b5,b6,b7,rfl⟩:=list8 hh
  exact ref_fold_l1 ..
 unfold fr09_fold
 rw [e,Option.bind_some]
 generalize fpass 0 lo hi=r at *
 obtain ⟨o,l⟩:=r
 simp only at f1 f2 f3 f4 f5 ⊢
 have f6:=val32_lt f2
 have f7:=val32_nonneg f2
 rw [hl] at f1 f3
 rw [f3] at f6
 rw [pow8] at f1 f6
 have f8:=limbs32 f2 f3
 rw [f8,fold_l2 FUEL (val32 l) o f7 (by simp only [P256];omega) f4 f5 (Or.inr (Or.inr (by unfold FUEL;omega))),Option.bind_some]
 simp only
 have hr:0≤(val32 l+38*o)%P256+(if (val32 l+38*o)<P256 then 0 else 38)/\(val32 l+38*o)%P256+(if (val32 l+38*o)<P256 then 0 else 38)<P256/\((val32 l+38*o)%P256+(if (val32 l+38*o)<P256 then 0 else 38))%PP=(val32 lo+P256*val32 hi)%PP:=by
  split
  ·rename_i hc
   rw [Int.emod_eq_of_lt (by omega) hc,Int.add_zero]
   refine ⟨by omega,hc,?_⟩
   rw [show val32 lo+P256*val32 hi=(val32 l+38*o)+PP*(2*(o+val32 hi)) by unfold PP;simp only [P256];omega,Int.add_mul_emod_self_left]
  ·rename_i hc
   have hm:(val32 l+38*o)%P256=val32 l+38*o-P256:=by simp only [P256] at *;omega
   rw [hm]
   refine ⟨by omega,by simp only [P256] at *;omega,?_⟩
   rw [show val32 lo+P256*val32 hi=(val32 l+38*o-P256+38)+PP*(2*(o+val32 hi)+2) by unfold PP;simp only [P256];omega,Int.add_mul_emod_self_left]
 rw [Least_some hr.1 hr.2.1,hr.2.2];rfl
theorem Add_ref {x y:Int} (hx:0≤x) (hx':x<P256) (hy:0≤y) (hy':y<P256):fr09_Add (numP x) (numP y)=some (numP (addP x y)):=by
 obtain ⟨f1,f2,f3,f4,f5⟩:=apass_val (numP x) (numP y) 0 (by rw [numP_len,numP_len]) (numP_lim x) (numP_lim y) (by decide) (by decide)
 have e:fr09_Add_l1 (numP x) (numP y) FUEL 0 0 (List.replicate 16 0)=some ((apass 0 (numP x) (numP y)).1,(apass 0 (numP x) (numP y)).2++List.replicate 8 0):=by
  obtain ⟨a0,a1,a2,a3,a4,a5,a6,a7,e1⟩:=list8 (numP_len x)
  obtain ⟨b0,b1,b2,b3,b4,b5,b6,b7,e2⟩:=list8 (numP_len y)
  rw [e1,e2]
  exact ref_add_l1 ..
 unfold fr09_Add
 rw [e,Option.bind_some]
 rw [numP_val hx hx',numP_val hy hy',numP_len] at f1
 rw [numP_len] at f3
 generalize apass 0 (numP x) (numP y)=r at *
 obtain ⟨o,l⟩:=r
 simp only at f1 f2 f3 f4 f5 ⊢
 rw [pow8] at f1
 rw [u32_id f4 (by omega)]
 have hset:(l++List.replicate 8 0).set 8 o=l++([o,0,0,0,0,0,0,0]:List Int):=by
  obtain ⟨a0,a1,a2,a3,a4,a5,a6,a7,rfl⟩:=list8 f3
  rfl
 rw [hset,fold_ref f3 rfl f2 (by simp only [Lim];refine ⟨⟨f4,by omega⟩,?_⟩;simp),Option.bind_some]
 congr 2
 show _=(x+y)%PP
 congr 1
 simp only [val32,P256];omega
theorem Sub_ref {x y:Int} (hx:0≤x) (hx':x<P256) (hy:0≤y) (hy':y<P256):fr09_Sub (numP x) (numP y)=some (numP (subP x y)):=by
 have h1:=Int.emod_nonneg y (show PP≠0 by decide)
 have h2:=Int.emod_lt_of_pos y (show 0<PP by decide)
 unfold fr09_Sub
 rw [P_eq,Option.bind_some,Least_some hy hy',Option.bind_some,minus_some (by decide) (by decide) h1 (by omega),Option.bind_some,Add_ref hx hx' (by omega) (by unfold PP at *;simp only [P256];omega)]
 show some (numP ((x+(PP-y%PP))%PP))=some (numP ((x-y)%PP))
 congr 2
 rw [show x+(PP-y%PP)=(x-y%PP)+PP by omega,Int.add_emod_right,Int.sub_emod_emod]
theorem Times_ref {x y:Int} (hx:0≤x) (hx':x<P256) (hy:0≤y) (hy':y<P256):fr09_Times (numP x) (numP y)=some (numP (mulP x y)):=by
 obtain ⟨i1,i2,i3⟩:=rows32_val (numP y) (numP_lim y) (numP x) (List.replicate 8 0) (by rw [numP_len];rfl) (numP_lim x) (lim_of (by simp))
 have e:fr09_Times_l1 (numP x) (numP y) FUEL 0 (List.replicate 16 0)=some (rows32 (numP y) (numP x) (List.replicate 16 0)):=by
  obtain ⟨a0,a1,a2,a3,a4,a5,a6,a7,e1⟩:=list8 (numP_len x)
  obtain ⟨b0,b1,b2,b3,b4,b5,b6,b7,e2⟩:=list8 (numP_len y)
  rw [e1,e2]
  exact ref_times_l1 ..
 unfold fr09_Times
 rw [e,Option.bind_some]
 rw [numP_len,show List.replicate 8 (0:Int)++List.replicate 8 0=List.replicate 16 0 from rfl,numP_val hx hx',numP_val hy hy'] at i1
 rw [numP_len,show List.replicate 8 (0:Int)++List.replicate 8 0=List.replicate 16 0 from rfl] at i2 i3
 rw [numP_len] at i3
 rw [show val32 (List.replicate 8 0)=0 from by decide,Int.zero_add] at i1
 generalize rows32 (numP y) (numP x) (List.replicate 16 0)=w at *
 have hw:w=w.take 8++w.drop 8:=(List.take_append_drop 8 w).symm
 have t1:(w.take 8).length=8:=by rw [List.length_take,i3];rfl
 have t2:(w.drop 8).length=8:=by rw [List.length_drop,i3]
 rw [hw] at i2 i1
 rw [val32_append,t1,pow8] at i1
 rw [hw,fold_ref t1 t2 i2.append.1 i2.append.2,Option.bind_some]
 show some (numP (_%PP))=some (numP (x*y%PP))
 rw [←i1]
end Go.Eng
namespace Go.Eng
set_option maxRecDepth 100000
set_option maxHeartbeats 4000000
theorem limbsN_setc (w c:Nat) (hw:0<w) (hc0:0<c):∀ n X i,i<w*n->i%w+c≤w ->
  (limbsN w n (X%2^i)).getD (i/w) 0<2^(i%w) /\
  (limbsN w n (X%2^i)).set (i/w) ((limbsN w n (X%2^i)).getD (i/w) 0+2^(i%w)*(X/2^i%2^c))=limbsN w n (X%2^(i+c))
 |0,_,_,h,_=>by simp at h
 |n+1,X,i,h,hc=>by
  by_cases hi:i<w
  ·have h1:X%2^i<2^i:=Nat.mod_lt _ (Nat.two_pow_pos i)
   have h2:(2:Nat)^i<2^w:=Nat.pow_lt_pow_right (by decide) hi
   have h3:X%2^(i+c)<2^(i+c):=Nat.mod_lt _ (Nat.two_pow_pos _)
   rw [Nat.mod_eq_of_lt hi] at hc
   have h4:(2:Nat)^(i+c)≤2^w:=Nat.pow_le_pow_right (by decide) hc
   have h5:X%2^(i+c)=X%2^i+2^i*(X/2^i%2^c):=by rw [Nat.pow_add,Nat.mod_mul]
   rw [Nat.div_eq_of_lt hi,Nat.mod_eq_of_lt hi]
   simp only [limbsN,List.getD_cons_zero,List.set_cons_zero]
   rw [Nat.mod_eq_of_lt (Nat.lt_trans h1 h2),Nat.div_eq_of_lt (Nat.lt_trans h1 h2),Nat.mod_eq_of_lt (Nat.lt_of_lt_of_le h3 h4),Nat.div_eq_of_lt (Nat.lt_of_lt_of_le h3 h4),←h5]
   exact ⟨h1,rfl⟩
  ·obtain ⟨k,rfl⟩:∃ k,i=w+k:=⟨i-w,by omega⟩
   have e1:(w+k)/w=k/w+1:=by rw [Nat.add_comm,Nat.add_div_right _ hw]
   have e2:(w+k)%w=k%w:=by rw [Nat.add_comm,Nat.add_mod_right]
   have e3:∀ m,(X%2^(w+m))%2^w=X%2^w:=fun m=>Nat.mod_mod_of_dvd _ ⟨2^m,Nat.pow_add ..⟩
   have e4:∀ m,(X%2^(w+m))/2^w=X/2^w%2^m:=fun m=>by rw [Nat.pow_add,Nat.mod_mul_right_div_self]
   have e5:X/2^(w+k)=X/2^w/2^k:=by rw [Nat.pow_add,Nat.div_div_eq_div_mul]
   have hk:k<w*n:=by rw [Nat.mul_succ] at h;omega
   obtain ⟨i1,i2⟩:=limbsN_setc w c hw hc0 n (X/2^w) k hk (by rw [←e2];exact hc)
   rw [e1,e2,e5,Nat.add_assoc]
   simp only [limbsN,List.getD_cons_succ,List.set_cons_succ,e3,e4]
   exact ⟨i1,by rw [i2]⟩
theorem limbsN_bits (w c:Nat) (hw:0<w) (n X i:Nat) (h:i<w*n) (hc:i%w+c≤w):(limbsN w n X).getD (i/w) 0/2^(i%w)%2^c=X/2^i%2^c:=by
 have h1:i/w<n:=(Nat.div_lt_iff_lt_mul hw).2 (by rw [Nat.mul_comm];exact h)
 rw [limbsN_get w n X _ h1]
 apply Nat.eq_of_testBit_eq
 intro j
 rw [Nat.testBit_mod_two_pow,Nat.testBit_mod_two_pow,Nat.testBit_div_two_pow,Nat.testBit_mod_two_pow,Nat.testBit_div_two_pow,Nat.testBit_div_two_pow]
 by_cases hj:j<c
 ·have e:w*(i/w)+(j+i%w)=j+i:=by have:=Nat.div_add_mod i w;omega
  have hlt:j+i%w<w:=by omega
  rw [Nat.add_comm (j+i%w),e]
  simp [hj,hlt]
 ·simp [hj]
theorem Bytes32_l1 (X:Nat):∀ (n i:Nat),i≤32->32<n+i->fr09_Bytes_l1 (zl (limbsN 32 8 X)) n (i:Int) (zl (limbsN 8 32 (X%2^(8*i))))=some (zl (limbsN 8 32 (X%2^256)))
 |0,i,h,h'=>by omega
 |n+1,i,h,h'=>by
  rw [fr09_Bytes_l1.eq_2]
  by_cases hi:i<32
  ·rw [cond_tt (by simp;omega)]
   have e1:Int.tdiv (i:Int) 4=((i/4:Nat):Int):=rfl
   have e3:Int.tmod (i:Int) 4=((i%4:Nat):Int):=rfl
   have e4:8*((i%4:Nat):Int)=((8*(i%4):Nat):Int):=by rw [Int.natCast_mul];rfl
   have e5:IntKind.wrap .u64 ((8*(i%4):Nat):Int)=((8*(i%4):Nat):Int):=by rw [u64n,Nat.mod_eq_of_lt (by omega)]
   have m2:min (8*(i%4)) (IntKind.bits .u32)=8*(i%4):=by show min _ 32=_;omega
   have d1:8*i/32=i/4:=by omega
   have d2:8*i%32=8*(i%4):=by omega
   have d3:8*i/8=i:=by omega
   have d4:8*i%8=0:=by omega
   have hbit:=limbsN_bits 32 8 (by decide) 8 X (8*i) (by omega) (by omega)
   rw [d1,d2] at hbit
   obtain ⟨s1,s2⟩:=limbsN_setc 8 8 (by decide) (by decide) 32 X (8*i) (by omega) (by omega)
   rw [d3,d4,Nat.pow_zero] at s1 s2
   rw [show (limbsN 8 32 (X%2^(8*i))).getD i 0=0 by omega,Nat.zero_add,Nat.one_mul] at s2
   simp only [nm_eq,e1,e3,e4,e5,i64n (n:=i/4) (by omega),i64n (n:=8*(i%4)) (by omega),Int.toNat_natCast,m2,zl_getD,fdivn]
   rw [if_pos (by omega),if_pos (by omega),if_pos (by omega),u8n]
   rw [show (256:Nat)=2^8 from rfl,hbit,zl_set,s2]
   rw [show (i:Int)+1=((i+1:Nat):Int) from rfl,i64n (by omega)]
   exact Bytes32_l1 X n (i+1) (by omega) (by omega)
  ·have:i=32:=by omega
   subst this
   rw [cond_ff (by decide)]
theorem Bytes_ref {x:Int} (_h:0≤x) (h':x<P256):fr09_Bytes (numP x)=some (bytesP x):=by
 have h:=Bytes32_l1 x.toNat FUEL 0 (by omega) (by show 32<18446744073709551616+0;omega)
 have e:(2:Nat)^256=115792089237316195423570985008687907853269984665640564039457584007913129639936:=by decide
 rw [Nat.mul_zero,Nat.pow_zero,Nat.mod_one,limbs_zero,zl_rep,e,Nat.mod_eq_of_lt (by simp only [P256] at h';omega)] at h
 unfold fr09_Bytes numP
 rw [show (0:Int)=((0:Nat):Int) from rfl,h];rfl
end Go.Eng
namespace Go.Eng
set_option maxRecDepth 100000
set_option maxHeartbeats 400000
def powP (a:Int) (n:Nat):Int:=a^n%PP
theorem powP_add (a:Int) (m n:Nat):mulP (powP a m) (powP a n)=powP a (m+n):=by
 show (a^m%PP)*(a^n%PP)%PP=a^(m+n)%PP
 rw [←Int.mul_emod,Int.pow_add]
theorem powP_one {a:Int} (h:0≤a) (h':a<PP):powP a 1=a:=by
 show a^1%PP=a
 rw [Int.pow_succ,Int.pow_zero,Int.one_mul,Int.emod_eq_of_lt h h']
theorem powP_zero (a:Int):powP a 0=1:=by show a^0%PP=1;rw [Int.pow_zero];decide
theorem powP_range (a:Int) (n:Nat):0≤powP a n/\powP a n<PP:=⟨Int.emod_nonneg _ (by decide),Int.emod_lt_of_pos _ (by decide)⟩
attribute [irreducible] powP
structure IsP (a:Int) (k:Nat) (e:T_field_Elem):Prop where
 ok:EOk e
 val:res e=powP a k
theorem Times_pow {a:Int} {j k:Nat} {x y:T_field_Elem} (hx:IsP a j x) (hy:IsP a k y):∃ r,field_Elem_Times x y=some r/\IsP a (j+k) r:=by
 obtain ⟨r,h1,h2,h3⟩:=Times_some hx.ok hy.ok
 exact ⟨r,h1,h2,by rw [h3,hx.val,hy.val,powP_add]⟩
theorem Square_some {a:T_field_Elem} (ha:EOk a):∃ r,field_Elem_Square a=some r/\EOk r/\res r=mulP (res a) (res a):=by
 obtain ⟨r,h1,h2,h3⟩:=Times_some ha ha
 exact ⟨r,by unfold field_Elem_Square;rw [h1];rfl,h2,h3⟩
theorem Square_pow {a:Int} {k:Nat} {x:T_field_Elem} (hx:IsP a k x):∃ r,field_Elem_Square x=some r/\IsP a (k+k) r:=by
 obtain ⟨r,h1,h2⟩:=Times_pow hx hx
 exact ⟨r,by unfold field_Elem_Square;rw [h1];rfl,h2⟩
theorem squares_l1 (a:Int):∀ (n f k:Nat) (x:T_field_Elem),n<f->n<1000->IsP a k x->∃ r,field_Elem_squares_l1 f (n:Int) x=some r/\IsP a (k*2^n) r
 |_,0,_,_,h,_,_=>by omega
 |0,f+1,k,x,_,_,hx=>by
  rw [field_Elem_squares_l1.eq_2,cond_ff (by decide)]
  exact ⟨x,rfl,by rw [Nat.pow_zero,Nat.mul_one];exact hx⟩
 |n+1,f+1,k,x,h,h',hx=>by
  obtain ⟨r,h1,h2⟩:=Square_pow hx
  rw [field_Elem_squares_l1.eq_2,cond_tt (by simp),h1,Option.bind_some,show ((n+1:Nat):Int)-1=n by omega,i64n (by omega)]
  obtain ⟨s,h3,h4⟩:=squares_l1 a n f (k+k) r (by omega) (by omega) h2
  refine ⟨s,h3,?_⟩
  rw [Nat.pow_succ,Nat.mul_comm _ 2,←Nat.mul_assoc,Nat.mul_two]
  exact h4
theorem squares_pow {a:Int} {k:Nat} {x:T_field_Elem} (n:Nat) (hn:0<n) (hn':n<1000) (hx:IsP a k x):∃ r,field_Elem_squares x (n:Int)=some r/\IsP a (k*2^n) r:=by
 obtain ⟨m,rfl⟩:∃ m,n=m+1:=⟨n-1,by omega⟩
 obtain ⟨r,h1,h2⟩:=Square_pow hx
 obtain ⟨s,h3,h4⟩:=squares_l1 a m FUEL (k+k) r (by unfold FUEL;omega) (by omega) h2
 refine ⟨s,?_,?_⟩
 ·unfold field_Elem_squares
  rw [cond_tt (by simp),h1,Option.bind_some,show ((m+1:Nat):Int)-1=m by omega,i64n (by omega)]
  exact h3
 ·rw [Nat.pow_succ,Nat.mul_comm _ 2,←Nat.mul_assoc,Nat.mul_two]
  exact h4
end Go.Eng
namespace Go.Eng
set_option maxRecDepth 100000
set_option maxHeartbeats 400000
abbrev PM2:Nat:=57896044618658097711785492504343953926634992332820282019728792003956564819947
theorem Invert_some {a:T_field_Elem} (ha:EOk a):∃ r,field_Elem_Invert a=some r/\EOk r/\res r=powP (res a) PM2:=by
 obtain ⟨r0,r1⟩:=res_range a
 have h1:IsP (res a) 1 a:=⟨ha,(powP_one r0 r1).symm⟩
 unfold field_Elem_Invert field_Elem_power
 obtain ⟨a2,e,h2⟩:=Square_pow h1;rw [e,Option.bind_some]
 obtain ⟨b1,e,k1⟩:=squares_pow 2 (by decide) (by decide) h2;rw [show (2:Int)=((2:Nat):Int) from rfl,e,Option.bind_some]
 obtain ⟨b2,e,k2⟩:=Times_pow k1 h1;rw [e,Option.bind_some]
 obtain ⟨b3,e,k3⟩:=Times_pow k2 h2;rw [e,Option.bind_some]
 obtain ⟨b4,e,k4⟩:=Square_pow k3;rw [e,Option.bind_some]
 obtain ⟨b5,e,k5⟩:=Times_pow k4 k2;rw [e,Option.bind_some]
 obtain ⟨b6,e,k6⟩:=squares_pow 5 (by decide) (by decide) k5;rw [show (5:Int)=((5:Nat):Int) from rfl,e,Option.bind_some]
 obtain ⟨b7,e,k7⟩:=Times_pow k6 k5;rw [e,Option.bind_some]
 obtain ⟨b8,e,k8⟩:=squares_pow 10 (by decide) (by decide) k7;rw [show (10:Int)=((10:Nat):Int) from rfl,e,Option.bind_some]
 obtain ⟨b9,e,k9⟩:=Times_pow k8 k7;rw [e,Option.bind_some]
 obtain ⟨c1,e,l1⟩:=squares_pow 20 (by decide) (by decide) k9;rw [show (20:Int)=((20:Nat):Int) from rfl,e,Option.bind_some]
 obtain ⟨c2,e,l2⟩:=Times_pow l1 k9;rw [e,Option.bind_some]
 obtain ⟨c3,e,l3⟩:=squares_pow 10 (by decide) (by decide) l2;rw [e,Option.bind_some]
 obtain ⟨c4,e,l4⟩:=Times_pow l3 k7;rw [e,Option.bind_some]
 obtain ⟨c5,e,l5⟩:=squares_pow 50 (by decide) (by decide) l4;rw [show (50:Int)=((50:Nat):Int) from rfl,e,Option.bind_some]
 obtain ⟨c6,e,l6⟩:=Times_pow l5 l4;rw [e,Option.bind_some]
 obtain ⟨c7,e,l7⟩:=squares_pow 100 (by decide) (by decide) l6;rw [show (100:Int)=((100:Nat):Int) from rfl,e,Option.bind_some]
 obtain ⟨c8,e,l8⟩:=Times_pow l7 l6;rw [e,Option.bind_some]
 obtain ⟨c9,e,l9⟩:=squares_pow 50 (by decide) (by decide) l8;rw [e,Option.bind_some]
 obtain ⟨d1,e,m1⟩:=Times_pow l9 l4;rw [e,Option.bind_some]
 obtain ⟨d2,e,m2⟩:=squares_pow 5 (by decide) (by decide) m1
 simp only [Option.bind_some]
 rw [e,Option.bind_some]
 obtain ⟨d3,e,m3⟩:=Times_pow m2 k3;rw [e,Option.bind_some]
 refine ⟨d3,rfl,m3.ok,?_⟩
 rw [m3.val]
end Go.Eng
namespace Go.Eng
set_option maxRecDepth 100000
set_option maxHeartbeats 400000
theorem Power_l1 (a:Int) (ha:0≤a) (ha':a<PP) (E:Nat):∀ (i n:Nat),i<n->i≤256->fr09_Power_l1 (numP a) (zl (limbsN 32 8 E)) n ((i:Int)-1) (numP (powP a (E/2^i)))=some (numP (powP a E))
 |i,0,h,_=>by omega
 |0,n+1,_,_=>by
  rw [fr09_Power_l1.eq_2,cond_ff (by decide),Nat.pow_zero,Nat.div_one]
 |i+1,n+1,h,h'=>by
  have rg:=powP_range a (E/2^(i+1))
  have up:∀ x:Int,x<PP->x<P256:=fun x hx=>Int.lt_trans hx (by decide)
  rw [fr09_Power_l1.eq_2,show ((i+1:Nat):Int)-1=i by omega,cond_tt (by simp),Times_ref rg.1 (up _ rg.2) rg.1 (up _ rg.2),Option.bind_some,powP_add]
  have e1:Int.tdiv (i:Int) 32=((i/32:Nat):Int):=rfl
  have e3:Int.tmod (i:Int) 32=((i%32:Nat):Int):=rfl
  have m2:min (i%32) (IntKind.bits .u32)=i%32:=by show min _ 32=_;omega
  have hb:(limbsN 32 8 E).getD (i/32) 0<4294967296:=getD_lt (limbsN_lt 32 8 E) (by decide) _
  have hb':(limbsN 32 8 E).getD (i/32) 0/2^(i%32)<4294967296:=Nat.lt_of_le_of_lt (Nat.div_le_self _ _) hb
  have hbit:=limbsN_bit 32 (by decide) 8 E i (by omega)
  have and1:bits .u32 .and (((limbsN 32 8 E).getD (i/32) 0/2^(i%32):Nat):Int) 1=((E/2^i%2:Nat):Int):=by
   rw [←hbit]
   generalize (limbsN 32 8 E).getD (i/32) 0/2^(i%32)=q at *
   show IntKind.u32.wrap (((BitVec.ofInt 32 q&&&BitVec.ofInt 32 1:BitVec 32).toNat:Nat):Int)=_
   rw [BitVec.ofInt_natCast,show BitVec.ofInt 32 1=BitVec.ofNat 32 1 from rfl,BitVec.toNat_and,BitVec.toNat_ofNat,BitVec.toNat_ofNat,wu32]
   simp only [Nat.reducePow]
   rw [Nat.mod_eq_of_lt hb',Nat.mod_eq_of_lt (a:=1) (by decide),Nat.and_one_is_mod,Int.emod_eq_of_lt (by omega) (by omega)]
  simp only [nm_eq,e1,e3,i64n (n:=i/32) (by omega),u64n,Nat.mod_eq_of_lt (a:=i%32) (b:=18446744073709551616) (by omega),Int.toNat_natCast,m2,zl_getD,fdivn,and1]
  rw [if_pos (by omega),if_pos (by omega)]
  have hE:E/2^i=E/2^(i+1)+E/2^(i+1)+E/2^i%2:=by
   rw [Nat.pow_succ,←Nat.div_div_eq_div_mul];omega
  have rg2:=powP_range a (E/2^(i+1)+E/2^(i+1))
  have step:(cond ((((E/2^i%2:Nat):Int))==1) ((fr09_Times (numP (powP a (E/2^(i+1)+E/2^(i+1)))) (numP a)).bind fun x69=>some x69) (some (numP (powP a (E/2^(i+1)+E/2^(i+1))))))=some (numP (powP a (E/2^i))):=by
   rcases Nat.mod_two_eq_zero_or_one (E/2^i) with h0|h0
   ·rw [h0,cond_ff (by decide)];rw [h0,Nat.add_zero] at hE;rw [←hE]
   ·rw [h0,cond_tt (by decide),Times_ref rg2.1 (up _ rg2.2) ha (up _ ha'),Option.bind_some]
    rw [h0] at hE
    have:=powP_add a (E/2^(i+1)+E/2^(i+1)) 1
    rw [powP_one ha ha',←hE] at this
    rw [this]
  rw [step,Option.bind_some,i64_pred i (by omega)]
  exact Power_l1 a ha ha' E i n (by omega) (by omega)
where
 i64_pred (i:Nat) (h:i<1000):IntKind.wrap .i64 ((i:Int)-1)=(i:Int)-1:=wrap_i64 (by omega) (by omega)
theorem Invert_ref {a:Int} (ha:0≤a) (ha':a<PP):fr09_Invert (numP a)=some (numP (powP a PM2)):=by
 have e2:(List.replicate 8 (0:Int)).set 0 2=numP 2:=by kernel_rfl
 have e1:(List.replicate 8 (0:Int)).set 0 1=numP 1:=by kernel_rfl
 unfold fr09_Invert
 rw [P_eq,Option.bind_some,e2,minus_some (by decide) (by decide) (by decide) (by decide),Option.bind_some]
 have hz:PM2/2^256=0:=by kernel_rfl
 have h:=Power_l1 a ha ha' PM2 256 FUEL (by unfold FUEL;omega) (by omega)
 rw [hz,powP_zero] at h
 unfold fr09_Power
 rw [e1,show numP (PP-2)=zl (limbsN 32 8 PM2) by kernel_rfl,show (255:Int)=((256:Nat):Int)-1 from rfl,h]
 rfl
end Go.Eng
