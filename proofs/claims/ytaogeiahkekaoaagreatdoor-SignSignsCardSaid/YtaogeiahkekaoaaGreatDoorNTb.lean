/-
  Part of a proof: NTb.
-/
import Derived.Test.YtaogeiahkekaoaaGreatDoorNTa
import Derived.KernelRfl
set_option linter.unusedVariables false
set_option linter.unusedSimpArgs false
namespace Go.Eng
section
variable {d i:FF} {nv:FF->FF}
theorem frac_eq (E:Env4 d i nv) {u1 v1 u2 v2 k1 k2:FF} (hk1:k1≠0) (hk2:k2≠0) (h1:v1≠0) (h2:v2≠0) (h:(k1*u1)*(k2*v2)=(k2*u2)*(k1*v1)):u1*nv v1=u2*nv v2:=by
 have a:=E.N _ h1
 have b:=E.N _ h2
 have c:=E.N _ (E.F.mul hk1 hk2)
 generalize nv v1=w1 at *
 generalize nv v2=w2 at *
 generalize nv (k1*k2)=w at *
 have e:u1*v2=u2*v1:=by
  have:w*((k1*u1)*(k2*v2))=w*((k2*u2)*(k1*v1)):=by rw [h]
  grobner
 have:u1*w1=(u1*v2)*(w1*w2):=by grobner
 rw [this,e];grobner
theorem Pt.add_assoc (E:Env4 d i nv) (p q r:Pt d):(p.add E q).add E r=p.add E (q.add E r):=by
 have hm:=more_neA E.F p.on q.on
 have hl:=less_neA E.F p.on q.on
 have am:=E.N _ hm
 have al:=E.N _ hl
 have hm':=more_neA E.F q.on r.on
 have hl':=less_neA E.F q.on r.on
 have am':=E.N _ hm'
 have al':=E.N _ hl'
 have gm:=more_neA E.F (p.add E q).on r.on
 have gl:=less_neA E.F (p.add E q).on r.on
 have gm':=more_neA E.F p.on (q.add E r).on
 have gl':=less_neA E.F p.on (q.add E r).on
 have ax:=assoc_x p.on q.on r.on rfl rfl rfl rfl rfl rfl
 have ay:=assoc_y p.on q.on r.on rfl rfl rfl rfl rfl rfl
 apply Pt.ext'
 ·show sx d nv (p.add E q).x (p.add E q).y r.x r.y=sx d nv p.x p.y (q.add E r).x (q.add E r).y
  unfold sx
  refine frac_eq E (E.F.mul hm hl) (E.F.mul hm' hl') gm gm' ?_
  show ((1+d*(p.x*q.x*(p.y*q.y)))*(1-d*(p.x*q.x*(p.y*q.y)))*(sx d nv p.x p.y q.x q.y*r.y+r.x*sy d nv p.x p.y q.x q.y))*((1+d*(q.x*r.x*(q.y*r.y)))*(1-d*(q.x*r.x*(q.y*r.y)))*(1+d*(p.x*sx d nv q.x q.y r.x r.y*(p.y*sy d nv q.x q.y r.x r.y))))
   = ((1+d*(q.x*r.x*(q.y*r.y)))*(1-d*(q.x*r.x*(q.y*r.y)))*(p.x*sy d nv q.x q.y r.x r.y+sx d nv q.x q.y r.x r.y*p.y))*((1+d*(p.x*q.x*(p.y*q.y)))*(1-d*(p.x*q.x*(p.y*q.y)))*(1+d*(sx d nv p.x p.y q.x q.y*r.x*(sy d nv p.x p.y q.x q.y*r.y))))
  unfold sx sy
  generalize p.x*q.y+q.x*p.y=c at *
  generalize p.y*q.y+p.x*q.x=m at *
  generalize d*(p.x*q.x*(p.y*q.y))=e at *
  generalize q.x*r.y+r.x*q.y=c' at *
  generalize q.y*r.y+q.x*r.x=m' at *
  generalize d*(q.x*r.x*(q.y*r.y))=e' at *
  generalize nv (1+e)=a at *
  generalize nv (1-e)=b at *
  generalize nv (1+e')=a' at *
  generalize nv (1-e')=b' at *
  clear ay gm gl gm' gl' hm hl hm' hl'
  have t1:(1+e)*(1-e)*(c*a*r.y+r.x*(m*b))=c*(1-e)*r.y+r.x*m*(1+e):=by clear ax am' al';grobner
  have t2:(1+e')*(1-e')*(1+d*(p.x*(c'*a')*(p.y*(m'*b'))))=(1+e')*(1-e')+d*c'*m'*p.x*p.y:=by clear ax am al;grobner
  have t3:(1+e')*(1-e')*(p.x*(m'*b')+c'*a'*p.y)=p.x*m'*(1+e')+c'*(1-e')*p.y:=by clear ax am al;grobner
  have t4:(1+e)*(1-e)*(1+d*(c*a*r.x*(m*b*r.y)))=(1+e)*(1-e)+d*c*m*r.x*r.y:=by clear ax am' al';grobner
  rw [t1,t2,t3,t4,ax]
 ·show sy d nv (p.add E q).x (p.add E q).y r.x r.y=sy d nv p.x p.y (q.add E r).x (q.add E r).y
  unfold sy
  refine frac_eq E (E.F.mul hm hl) (E.F.mul hm' hl') gl gl' ?_
  show ((1+d*(p.x*q.x*(p.y*q.y)))*(1-d*(p.x*q.x*(p.y*q.y)))*(sy d nv p.x p.y q.x q.y*r.y+sx d nv p.x p.y q.x q.y*r.x))*((1+d*(q.x*r.x*(q.y*r.y)))*(1-d*(q.x*r.x*(q.y*r.y)))*(1-d*(p.x*sx d nv q.x q.y r.x r.y*(p.y*sy d nv q.x q.y r.x r.y))))
   = ((1+d*(q.x*r.x*(q.y*r.y)))*(1-d*(q.x*r.x*(q.y*r.y)))*(p.y*sy d nv q.x q.y r.x r.y+p.x*sx d nv q.x q.y r.x r.y))*((1+d*(p.x*q.x*(p.y*q.y)))*(1-d*(p.x*q.x*(p.y*q.y)))*(1-d*(sx d nv p.x p.y q.x q.y*r.x*(sy d nv p.x p.y q.x q.y*r.y))))
  unfold sx sy
  generalize p.x*q.y+q.x*p.y=c at *
  generalize p.y*q.y+p.x*q.x=m at *
  generalize d*(p.x*q.x*(p.y*q.y))=e at *
  generalize q.x*r.y+r.x*q.y=c' at *
  generalize q.y*r.y+q.x*r.x=m' at *
  generalize d*(q.x*r.x*(q.y*r.y))=e' at *
  generalize nv (1+e)=a at *
  generalize nv (1-e)=b at *
  generalize nv (1+e')=a' at *
  generalize nv (1-e')=b' at *
  clear ax gm gl gm' gl' hm hl hm' hl'
  have t1:(1+e)*(1-e)*(m*b*r.y+c*a*r.x)=m*(1+e)*r.y+c*(1-e)*r.x:=by clear ay am' al';grobner
  have t2:(1+e')*(1-e')*(1-d*(p.x*(c'*a')*(p.y*(m'*b'))))=(1+e')*(1-e')-d*c'*m'*p.x*p.y:=by clear ay am al;grobner
  have t3:(1+e')*(1-e')*(p.y*(m'*b')+p.x*(c'*a'))=p.y*m'*(1+e')+p.x*c'*(1-e'):=by clear ay am al;grobner
  have t4:(1+e)*(1-e)*(1-d*(c*a*r.x*(m*b*r.y)))=(1+e)*(1-e)-d*c*m*r.x*r.y:=by clear ay am' al';grobner
  rw [t1,t2,t3,t4,ay]
def Pt.mul (E:Env4 d i nv) (p:Pt d):Nat->Pt d
 |0=>Pt.zero
 |n+1=>(p.mul E n).add E p
theorem Pt.mul_add (E:Env4 d i nv) (p:Pt d) (m:Nat):∀ n,p.mul E (m+n)=(p.mul E m).add E (p.mul E n)
 |0=>(Pt.add_zero E _).symm
 |n+1=>by
  show (p.mul E (m+n)).add E p=(p.mul E m).add E ((p.mul E n).add E p)
  rw [Pt.mul_add E p m n,Pt.add_assoc]
theorem Pt.mul_mul (E:Env4 d i nv) (p:Pt d) (m:Nat):∀ n,(p.mul E m).mul E n=p.mul E (m*n)
 |0=>rfl
 |n+1=>by
  show ((p.mul E m).mul E n).add E (p.mul E m)=p.mul E (m*n+m)
  rw [Pt.mul_mul E p m n,Pt.mul_add]
theorem Pt.zero_mul (E:Env4 d i nv):∀ n,(Pt.zero:Pt d).mul E n=Pt.zero
 |0=>rfl
 |n+1=>by
  show (Pt.zero.mul E n).add E Pt.zero=Pt.zero
  rw [Pt.add_zero,Pt.zero_mul E n]
theorem Pt.mul_mod (E:Env4 d i nv) {p:Pt d} {l:Nat} (h:p.mul E l=Pt.zero) (n:Nat):p.mul E (n%l)=p.mul E n:=by
 have:p.mul E n=p.mul E (l*(n/l)+n%l):=by rw [Nat.div_add_mod]
 rw [this,Pt.mul_add,←Pt.mul_mul,h,Pt.zero_mul,Pt.zero_add]
theorem Pt.cancel (E:Env4 d i nv) {p q r:Pt d} (h:p.add E q=p.add E r):q=r:=by
 have:(p.neg.add E p).add E q=(p.neg.add E p).add E r:=by rw [Pt.add_assoc,Pt.add_assoc,h]
 rw [Pt.add_comm E p.neg,Pt.add_neg,Pt.zero_add,Pt.zero_add] at this
 exact this
theorem Pt.neg_add (E:Env4 d i nv) (p:Pt d):p.neg.add E p=Pt.zero:=by rw [Pt.add_comm,Pt.add_neg]
structure P3 where
 x:FF
 y:FF
 z:FF
structure P4 where
 x:FF
 y:FF
 z:FF
 t:FF
def P3.sum (d:FF) (p q:P3):P3 :=
 let z:=p.z*q.z
 let zz:=z*z
 let xx:=p.x*q.x
 let yy:=p.y*q.y
 let e:=d*(xx*yy)
 ⟨z*(p.x*q.y+q.x*p.y)*(zz-e),z*(yy+xx)*(zz+e),(zz+e)*(zz-e)⟩
def P4.plus (w2:FF) (p q:P4):P4 :=
 let a:=(p.y-p.x)*(q.y-q.x)
 let b:=(p.y+p.x)*(q.y+q.x)
 let c:=p.t*q.t*w2
 let w:=p.z*q.z
 let w:=w+w
 ⟨(b-a)*(w-c),(w+c)*(b+a),(w-c)*(w+c),(b-a)*(b+a)⟩
def P4.dbl (p:P4):P4 :=
 let a:=p.x*p.x
 let b:=p.y*p.y
 let c:=p.z*p.z
 let c:=c+c
 let h:=a+b
 let e:=h-(p.x+p.y)*(p.x+p.y)
 let g:=a-b
 let f:=c+g
 ⟨e*f,g*h,f*g,e*h⟩
def Rep3 (P:P3) (a:Pt d):Prop:=P.z≠0/\P.x=a.x*P.z/\P.y=a.y*P.z
def Rep4 (P:P4) (a:Pt d):Prop:=P.z≠0/\P.x=a.x*P.z/\P.y=a.y*P.z/\P.t=a.x*a.y*P.z
theorem Rep3.sum (E:Env4 d i nv) {P Q:P3} {a b:Pt d} (hp:Rep3 P a) (hq:Rep3 Q b):Rep3 (P.sum d Q) (a.add E b):=by
 obtain ⟨n1,h1,h2⟩:=hp
 obtain ⟨n2,h3,h4⟩:=hq
 obtain ⟨X1,Y1,Z1⟩:=P
 obtain ⟨X2,Y2,Z2⟩:=Q
 simp only at n1 h1 h2 n2 h3 h4
 subst h1 h2 h3 h4
 have hm:=more_neA E.F a.on b.on
 have hl:=less_neA E.F a.on b.on
 have am:=E.N _ hm
 have al:=E.N _ hl
 have hw:=E.F.mul n1 n2
 have e:d*(a.x*Z1*(b.x*Z2)*(a.y*Z1*(b.y*Z2)))=d*(a.x*b.x*(a.y*b.y))*(Z1*Z2*(Z1*Z2)):=by grobner
 have e2:a.x*Z1*(b.y*Z2)+b.x*Z2*(a.y*Z1)=(a.x*b.y+b.x*a.y)*(Z1*Z2):=by grobner
 have e3:a.y*Z1*(b.y*Z2)+a.x*Z1*(b.x*Z2)=(a.y*b.y+a.x*b.x)*(Z1*Z2):=by grobner
 unfold P3.sum Rep3 Pt.add sx sy
 simp only [e,e2,e3]
 clear e e2 e3
 generalize d*(a.x*b.x*(a.y*b.y))=ep at *
 generalize a.x*b.y+b.x*a.y=c at *
 generalize a.y*b.y+a.x*b.x=m at *
 generalize Z1*Z2=W at *
 have e4:(W*W+ep*(W*W))*(W*W-ep*(W*W))=W*W*(1+ep)*(W*W*(1-ep)):=by grobner
 refine ⟨?_,?_,?_⟩
 ·rw [e4]
  exact E.F.mul (E.F.mul (E.F.mul hw hw) hm) (E.F.mul (E.F.mul hw hw) hl)
 ·rw [e4]
  generalize nv (1+ep)=u at *
  grobner
 ·rw [e4]
  generalize nv (1-ep)=u at *
  grobner
theorem Rep4.plus (E:Env4 d i nv) {P Q:P4} {a b:Pt d} (hp:Rep4 P a) (hq:Rep4 Q b):Rep4 (P.plus (d+d) Q) (a.add E b):=by
 obtain ⟨n1,h1,h2,h5⟩:=hp
 obtain ⟨n2,h3,h4,h6⟩:=hq
 obtain ⟨X1,Y1,Z1,T1⟩:=P
 obtain ⟨X2,Y2,Z2,T2⟩:=Q
 simp only at n1 h1 h2 n2 h3 h4 h5 h6
 subst h1 h2 h3 h4 h5 h6
 have hm:=more_neA E.F a.on b.on
 have hl:=less_neA E.F a.on b.on
 have am:=E.N _ hm
 have al:=E.N _ hl
 have hw:=E.F.mul n1 n2
 have n4:=E.F.mul E.F.two E.F.two
 have e1:(a.y*Z1+a.x*Z1)*(b.y*Z2+b.x*Z2)-(a.y*Z1-a.x*Z1)*(b.y*Z2-b.x*Z2)=2*(Z1*Z2)*(a.x*b.y+b.x*a.y):=by grobner
 have e2:(a.y*Z1+a.x*Z1)*(b.y*Z2+b.x*Z2)+(a.y*Z1-a.x*Z1)*(b.y*Z2-b.x*Z2)=2*(Z1*Z2)*(a.y*b.y+a.x*b.x):=by grobner
 have e3:Z1*Z2+Z1*Z2-a.x*a.y*Z1*(b.x*b.y*Z2)*(d+d)=2*(Z1*Z2)*(1-d*(a.x*b.x*(a.y*b.y))):=by grobner
 have e4:Z1*Z2+Z1*Z2+a.x*a.y*Z1*(b.x*b.y*Z2)*(d+d)=2*(Z1*Z2)*(1+d*(a.x*b.x*(a.y*b.y))):=by grobner
 unfold P4.plus Rep4 Pt.add sx sy
 simp only [e1,e2,e3,e4]
 clear e1 e2 e3 e4
 generalize d*(a.x*b.x*(a.y*b.y))=ep at *
 generalize a.x*b.y+b.x*a.y=c at *
 generalize a.y*b.y+a.x*b.x=m at *
 generalize Z1*Z2=W at *
 refine ⟨E.F.mul (E.F.mul (E.F.mul E.F.two hw) hl) (E.F.mul (E.F.mul E.F.two hw) hm),?_,?_,?_⟩
 ·generalize nv (1+ep)=u at *
  grobner
 ·generalize nv (1-ep)=u at *
  grobner
 ·generalize nv (1+ep)=u at *
  generalize nv (1-ep)=v at *
  grobner
theorem Rep4.dbl (E:Env4 d i nv) {P:P4} {a:Pt d} (hp:Rep4 P a):Rep4 P.dbl (a.add E a):=by
 obtain ⟨n1,h1,h2,h5⟩:=hp
 obtain ⟨X1,Y1,Z1,T1⟩:=P
 simp only at n1 h1 h2 h5
 subst h1 h2 h5
 have hm:=more_neA E.F a.on a.on
 have hl:=less_neA E.F a.on a.on
 have am:=E.N _ hm
 have al:=E.N _ hl
 have on:=a.on
 unfold OnA at on
 have o1:a.x*a.x-a.y*a.y = -(1+d*(a.x*a.x*(a.y*a.y))):=by grobner
 have e1:a.x*Z1*(a.x*Z1)+a.y*Z1*(a.y*Z1)-(a.x*Z1+a.y*Z1)*(a.x*Z1+a.y*Z1) = -(Z1*Z1*(a.x*a.y+a.x*a.y)):=by clear on o1 am al;grobner
 have e2:a.x*Z1*(a.x*Z1)-a.y*Z1*(a.y*Z1) = -(Z1*Z1*(1+d*(a.x*a.x*(a.y*a.y)))):=by clear on am al;grobner
 have e3:a.x*Z1*(a.x*Z1)+a.y*Z1*(a.y*Z1)=Z1*Z1*(a.y*a.y+a.x*a.x):=by clear on o1 am al;grobner
 have e4:Z1*Z1+Z1*Z1+(-(Z1*Z1*(1+d*(a.x*a.x*(a.y*a.y)))))=Z1*Z1*(1-d*(a.x*a.x*(a.y*a.y))):=by clear on o1 am al;grobner
 unfold P4.dbl Rep4 Pt.add sx sy
 simp only [e1,e2,e4]
 simp only [e3]
 clear e1 e2 e3 e4 o1 on
 generalize d*(a.x*a.x*(a.y*a.y))=ep at *
 generalize a.x*a.y+a.x*a.y=c at *
 generalize a.y*a.y+a.x*a.x=m at *
 have hw:=E.F.mul n1 n1
 generalize Z1*Z1=W at *
 have e5:W*(1-ep) * -(W*(1+ep)) = -1*(W*(1-ep)*(W*(1+ep))):=by grobner
 refine ⟨?_,?_,?_,?_⟩
 ·rw [e5]
  exact E.F.mul (fun e=>E.F.two (by grobner)) (E.F.mul (E.F.mul hw hl) (E.F.mul hw hm))
 ·generalize nv (1+ep)=u at *
  grobner
 ·generalize nv (1-ep)=u at *
  grobner
 ·generalize nv (1+ep)=u at *
  generalize nv (1-ep)=v at *
  grobner
theorem Rep4.neg {P:P4} {a:Pt d} (hp:Rep4 P a):Rep4 ⟨0-P.x,P.y,P.z,0-P.t⟩ a.neg:=by
 obtain ⟨n1,h1,h2,h5⟩:=hp
 refine ⟨n1,?_,h2,?_⟩
 ·show 0-P.x = -a.x*P.z;rw [h1];grobner
 ·show 0-P.t = -a.x*a.y*P.z;rw [h5];grobner
theorem Rep3.neg {P:P3} {a:Pt d} (hp:Rep3 P a):Rep3 ⟨0-P.x,P.y,P.z⟩ a.neg:=by
 obtain ⟨n1,h1,h2⟩:=hp
 refine ⟨n1,?_,h2⟩
 show 0-P.x = -a.x*P.z;rw [h1];grobner
theorem Rep4.at_ (F:Fld d i) {x y:FF} (h:OnA d x y):Rep4 ⟨x,y,1,x*y⟩ (⟨x,y,h⟩:Pt d):=⟨fun e=>F.two (by grobner),by show x=x*1;grobner,by show y=y*1;grobner,by show x*y=x*y*1;grobner⟩
theorem Rep3.at_ (F:Fld d i) {x y:FF} (h:OnA d x y):Rep3 ⟨x,y,1⟩ (⟨x,y,h⟩:Pt d):=⟨fun e=>F.two (by grobner),by show x=x*1;grobner,by show y=y*1;grobner⟩
theorem Rep3.x_eq (E:Env4 d i nv) {P:P3} {a:Pt d} (h:Rep3 P a):P.x*nv P.z=a.x/\P.y*nv P.z=a.y:=by
 obtain ⟨n,h1,h2⟩:=h
 have:=E.N _ n
 rw [h1,h2]
 constructor<;>grobner
theorem Rep4.x_eq (E:Env4 d i nv) {P:P4} {a:Pt d} (h:Rep4 P a):P.x*nv P.z=a.x/\P.y*nv P.z=a.y:=by
 obtain ⟨n,h1,h2,_⟩:=h
 have:=E.N _ n
 rw [h1,h2]
 constructor<;>grobner
end
end Go.Eng
namespace Go.Eng
set_option maxRecDepth 100000
theorem priPN:Pri PN:=pri_578960
def ph (x:Int):FF:=Fin.ofNat PN (x%(PN:Nat)).toNat
theorem pn_pos:(0:Int)<((PN:Nat):Int):=by decide
theorem ph_v (x:Int):((ph x).val:Int)=x%((PN:Nat):Int):=by
 have h0:=Int.emod_nonneg x (show ((PN:Nat):Int)≠0 by decide)
 have h1:=Int.emod_lt_of_pos x pn_pos
 show (((x%((PN:Nat):Int)).toNat%PN:Nat):Int)=_
 rw [Int.natCast_emod,Int.toNat_of_nonneg h0,Int.emod_emod]
theorem ph_ext {a b:FF} (h:(a.val:Int)=(b.val:Int)):a=b:=Fin.ext (Int.ofNat_inj.1 h)
theorem ph_add (x y:Int):ph (x+y)=ph x+ph y:=by
 apply ph_ext
 rw [ph_v]
 show _=((((ph x).val+(ph y).val)%PN:Nat):Int)
 rw [Int.natCast_emod,Int.natCast_add,ph_v,ph_v,←Int.add_emod]
theorem ph_mul (x y:Int):ph (x*y)=ph x*ph y:=by
 apply ph_ext
 rw [ph_v]
 show _=((((ph x).val*(ph y).val)%PN:Nat):Int)
 rw [Int.natCast_emod,Int.natCast_mul,ph_v,ph_v,←Int.mul_emod]
theorem ph_eq {x y:Int}:ph x=ph y↔x%57896044618658097711785492504343953926634992332820282019728792003956564819949=y%57896044618658097711785492504343953926634992332820282019728792003956564819949:=by
 constructor
 ·intro h
  have:=congrArg (fun a:FF=>(a.val:Int)) h
  simp only [ph_v] at this
  exact this
 ·intro h
  apply ph_ext
  rw [ph_v,ph_v];exact h
theorem ph_zero:ph 0=0:=by decide
theorem ph_one:ph 1=1:=by decide
theorem ph_sub (x y:Int):ph (x-y)=ph x-ph y:=by
 have h:ph (x-y)+ph y=ph x:=by rw [←ph_add];congr 1;omega
 rw [←h];grobner
theorem ph_val (a:FF):ph (a.val:Int)=a:=by
 apply ph_ext
 rw [ph_v,←Int.natCast_emod,Nat.mod_eq_of_lt a.isLt]
theorem ph_nat {m n:Nat}:ph (m:Int)=ph (n:Int)↔m%PN=n%PN:=by
 rw [ph_eq]
 constructor
 ·intro h
  have:((m%PN:Nat):Int)=((n%PN:Nat):Int):=by
   rw [Int.natCast_emod,Int.natCast_emod];exact h
  exact Int.ofNat_inj.1 this
 ·intro h
  have:((m%PN:Nat):Int)=((n%PN:Nat):Int):=by rw [h]
  rw [Int.natCast_emod,Int.natCast_emod] at this;exact this
theorem ph_ne {n:Nat}:ph (n:Int)≠0↔¬ PN∣n:=by
 rw [←ph_zero,show (0:Int)=((0:Nat):Int) from rfl,Ne,ph_nat,Nat.zero_mod]
 exact ⟨fun h hd=>h (Nat.mod_eq_zero_of_dvd hd),fun h e=>h (Nat.dvd_of_mod_eq_zero e)⟩
theorem ph_mulN (m n:Nat):ph ((m*n:Nat):Int)=ph m*ph n:=by rw [Int.natCast_mul,ph_mul]
abbrev dN:Nat:=37095705934669439343138083508754565189542113879843219016388785533085940283555
abbrev iN:Nat:=19681161376707505956807079304988542015446066515923890162744021073123829784752
def dF:FF:=ph dN
def iF:FF:=ph iN
theorem half_pow {p a k:Nat} (hp:Pri p) (h:2*k=p-1) (ha:¬ p∣a):(a*a)^k%p=1:=by
 rw [←Nat.pow_two,←Nat.pow_mul,h]
 exact fermat1 hp ha
abbrev kN:Nat:=28948022309329048855892746252171976963317496166410141009864396001978282409974
theorem two_kN:2*kN=PN-1:=rfl
theorem d_pow:dN^kN%PN=PN-1:=by
 have h:powm PN 256 dN kN=PN-1:=by kernel_rfl
 rw [powm_eq PN 256 dN kN (by decide)] at h
 exact h
theorem inv_FF (a:FF) (h:a≠0):∃ b,a*b=1:=by
 rw [←ph_val a] at h ⊢
 have hd:=ph_ne.1 h
 generalize a.val=n at *
 have hf:=fermat1 priPN hd
 obtain ⟨k,hk⟩:∃ k,PN-1=k+1:=⟨57896044618658097711785492504343953926634992332820282019728792003956564819947,rfl⟩
 rw [hk] at hf
 refine ⟨ph ((n^k:Nat):Int),?_⟩
 rw [←ph_mulN,←ph_one,show (1:Int)=((1:Nat):Int) from rfl,ph_nat,←Nat.pow_succ',hf]
 rfl
theorem sq_FF:iF*iF = -1:=by
 have h:ph (iN:Int)*ph (iN:Int)+ph ((1:Nat):Int)=ph ((0:Nat):Int):=by
  rw [←ph_mulN,←ph_add,←Int.natCast_add,ph_nat]
  kernel_rfl
 have e1:ph ((1:Nat):Int)=1:=ph_one
 have e0:ph ((0:Nat):Int)=0:=ph_zero
 rw [e1,e0] at h
 unfold iF
 generalize ph (iN:Int)=x at *
 grobner
theorem nsq_FF (A B:FF) (h:A*A=dF*(B*B)):B=0:=by
 refine Classical.byContradiction fun hb => ?_
 rw [←ph_val A,←ph_val B] at h
 rw [←ph_val B] at hb
 have hbd:=ph_ne.1 hb
 have hA:=ph_val A
 generalize A.val=a at *
 generalize B.val=b at *
 unfold dF at h
 rw [←ph_mulN,←ph_mulN,←ph_mulN,ph_nat] at h
 have h2:(a*a)^kN%PN=(dN*(b*b))^kN%PN:=by rw [Nat.pow_mod,h,←Nat.pow_mod]
 rw [Nat.mul_pow dN (b*b) kN,Nat.mul_mod (dN^kN),d_pow,half_pow priPN two_kN hbd,Nat.mul_one] at h2
 by_cases ha:PN∣a
 ·obtain ⟨c,hc⟩:=ha
  have:(a*a)^kN%PN=0:=by
   obtain ⟨k,hk⟩:∃ k,kN=k+1:=⟨28948022309329048855892746252171976963317496166410141009864396001978282409973,rfl⟩
   rw [hk,Nat.pow_succ,hc,Nat.mul_assoc PN c,←Nat.mul_assoc _ PN,Nat.mul_comm _ PN,Nat.mul_assoc PN,Nat.mul_mod_right]
  rw [this] at h2
  exact absurd h2 (by decide)
 ·rw [half_pow priPN two_kN ha] at h2
  exact absurd h2 (by decide)
theorem two_FF:(2:FF)≠0:=by decide
theorem fldFF:Fld dF iF:=⟨inv_FF,sq_FF,nsq_FF,two_FF⟩
noncomputable def nvF (a:FF):FF:=if h:a=0 then 0 else Classical.choose (inv_FF a h)
theorem nvF_mul (a:FF) (h:a≠0):a*nvF a=1:=by
 unfold nvF
 rw [dif_neg h]
 exact Classical.choose_spec (inv_FF a h)
theorem nvF_zero:nvF 0=0:=by unfold nvF;rw [dif_pos rfl]
theorem envF:Env4 dF iF nvF:=⟨fldFF,nvF_mul⟩
abbrev PF:Type:=Pt dF
end Go.Eng
namespace Go.Eng
set_option maxRecDepth 100000
def force {α:Type} (n:Nat) (k:Nat->α):α:=Nat.rec (k 0) (fun m _=>k (m+1)) n
theorem force_eq {α:Type} (n:Nat) (k:Nat->α):force n k=k n:=by cases n<;>rfl
structure Q4 where
 x:Nat
 y:Nat
 z:Nat
 t:Nat
def mk4 (x y z t:Nat):Q4:=force (x%PN) fun x=>force (y%PN) fun y=>force (z%PN) fun z=>force (t%PN) fun t=>⟨x,y,z,t⟩
def ng (x:Nat):Nat:=PN-x%PN
def Q4.plus (p q:Q4):Q4 :=
 force ((p.y+ng p.x)*(q.y+ng q.x)%PN) fun a=>force ((p.y+p.x)*(q.y+q.x)%PN) fun b=>force (p.t*q.t*(dN+dN)%PN) fun c=>force (p.z*q.z%PN) fun w =>
 force (b+ng a) fun e=>force (w+w+ng c) fun f=>force (w+w+c) fun g=>force (b+a) fun h =>
 mk4 (e*f) (g*h) (f*g) (e*h)
def Q4.dbl (p:Q4):Q4 :=
 force (p.x*p.x%PN) fun a=>force (p.y*p.y%PN) fun b=>force (p.z*p.z%PN) fun c =>
 force (a+b) fun h=>force (h+ng ((p.x+p.y)*(p.x+p.y))) fun e=>force (a+ng b) fun g=>force (c+c+g) fun f =>
 mk4 (e*f) (g*h) (f*g) (e*h)
def Q4.to (p:Q4):P4:=⟨ph p.x,ph p.y,ph p.z,ph p.t⟩
theorem ph_ng (x:Nat):ph (ng x:Int) = - ph x:=by
 have h:ph ((ng x+x:Nat):Int)=ph ((0:Nat):Int):=by
  rw [ph_nat]
  unfold ng
  have:x%PN<PN:=Nat.mod_lt _ (by decide)
  rw [Nat.add_mod,←Nat.add_mod_mod,←Nat.add_mod]
  have e:PN-x%PN+x%PN=PN:=by omega
  have:(PN-x%PN+x)%PN=(PN-x%PN+x%PN)%PN:=(Nat.add_mod_mod ..).symm
  rw [Nat.add_mod_mod,this,e]
  rfl
 rw [Int.natCast_add,ph_add] at h
 have h0:ph ((0:Nat):Int)=0:=ph_zero
 rw [h0] at h
 generalize ph (ng x:Int)=u at *
 grobner
theorem ph_modN (x:Nat):ph ((x%PN:Nat):Int)=ph x:=by rw [ph_nat,Nat.mod_mod]
theorem ph_addN (x y:Nat):ph ((x+y:Nat):Int)=ph x+ph y:=by rw [Int.natCast_add,ph_add]
theorem mk4_to (x y z t:Nat):(mk4 x y z t).to=⟨ph x,ph y,ph z,ph t⟩:=by
 unfold mk4
 simp only [force_eq,Q4.to,ph_modN]
theorem Q4.plus_to (p q:Q4):(p.plus q).to=p.to.plus (dF+dF) q.to:=by
 unfold Q4.plus
 simp only [force_eq,mk4_to]
 unfold P4.plus Q4.to
 have hd:ph ((dN+dN:Nat):Int)=dF+dF:=ph_addN dN dN
 simp only [ph_mulN,ph_addN,ph_modN,ph_ng,hd]
 generalize ph p.x=x1
 generalize ph p.y=y1
 generalize ph p.z=z1
 generalize ph p.t=t1
 generalize ph q.x=x2
 generalize ph q.y=y2
 generalize ph q.z=z2
 generalize ph q.t=t2
 have e1:y1 + -x1=y1-x1:=by grobner
 have e2:y2 + -x2=y2-x2:=by grobner
 rw [e1,e2]
 congr 1<;>grobner
theorem Q4.dbl_to (p:Q4):p.dbl.to=p.to.dbl:=by
 unfold Q4.dbl
 simp only [force_eq,mk4_to]
 unfold P4.dbl Q4.to
 simp only [ph_mulN,ph_addN,ph_modN,ph_ng]
 congr 1<;>grobner
noncomputable def strict {α:Type} (q:Q4) (k:Q4->α):α:=Q4.rec (fun x y z t=>k ⟨x,y,z,t⟩) q
theorem strict_eq {α:Type} (q:Q4) (k:Q4->α):strict q k=k q:=by cases q;rfl
noncomputable def qmul (b:Q4) (s:Nat):Nat->Q4->Q4
 |0,q=>q
 |i+1,q=>strict q.dbl fun e=>strict (cond (Nat.beq (s/2^i%2) 1) (e.plus b) e) (qmul b s i)
theorem qhalf (s i:Nat):s/2^i=s/2^(i+1)+s/2^(i+1)+s/2^i%2:=by
 rw [Nat.pow_succ,←Nat.div_div_eq_div_mul];omega
theorem qmul_rep {b:Q4} {a:PF} (hb:Rep4 b.to a) (s:Nat):∀ (i:Nat) (q:Q4),Rep4 q.to (Pt.mul envF a (s/2^i))->Rep4 (qmul b s i q).to (Pt.mul envF a s)
 |0,q,h=>by rw [Nat.pow_zero,Nat.div_one] at h;exact h
 |i+1,q,h=>by
  have hd:=Rep4.dbl envF h
  rw [←Q4.dbl_to,←Pt.mul_add] at hd
  have hs:=qhalf s i
  have he:qmul b s (i+1) q=qmul b s i (cond (Nat.beq (s/2^i%2) 1) (q.dbl.plus b) q.dbl):=by
   rw [qmul,strict_eq,strict_eq]
  rw [he]
  refine qmul_rep hb s i _ ?_
  cases hbit:Nat.beq (s/2^i%2) 1 with
  |true =>
   have h1:s/2^i%2=1:=Nat.eq_of_beq_eq_true hbit
   rw [cond_true,hs,h1,Q4.plus_to]
   exact Rep4.plus envF hd hb
  |false =>
   have h1:s/2^i%2≠1:=Nat.ne_of_beq_eq_false hbit
   have h0:s/2^i%2=0:=by omega
   rw [cond_false,hs,h0,Nat.add_zero]
   exact hd
def q0:Q4:=⟨0,1,1,0⟩
theorem q0_rep:Rep4 q0.to (Pt.zero:PF):=by
 have h1:ph ((1:Nat):Int)=1:=ph_one
 have h0:ph ((0:Nat):Int)=0:=ph_zero
 have h:Rep4 ⟨0,1,1,0*1⟩ (Pt.zero:PF):=Rep4.at_ fldFF (Pt.zero:PF).on
 unfold Q4.to q0
 simp only [h0,h1]
 have e:(0:FF)*1=0:=by grobner
 rw [e] at h
 exact h
theorem qmul_is {b:Q4} {a:PF} (hb:Rep4 b.to a) {s:Nat} (hs:s<2^256):Rep4 (qmul b s 256 q0).to (Pt.mul envF a s):=by
 refine qmul_rep hb s 256 q0 ?_
 rw [Nat.div_eq_of_lt hs]
 exact q0_rep
end Go.Eng
namespace Go.Eng
set_option maxRecDepth 100000
theorem pri_531581:Pri 531581:=trial 729 (by decide) (by kernel_rfl) (by decide)
theorem pri_122448:Pri 1224481:=trial 1106 (by decide) (by kernel_rfl) (by decide)
theorem pri_125755:Pri 1257559732178653:=pock (by decide) [(1224481,2),(531581,2)] (by decide) (all2 pri_122448 pri_531581) (by decide) (by kernel_rfl) (by decide)
theorem pri_443415:Pri 4434155615661930479:=pock (by decide) [(1257559732178653,2)] (by decide) (all1 pri_125755) (by decide) (by kernel_rfl) (by decide)
theorem pri_172054:Pri 172054593956031949258510691:=pock (by decide) [(4434155615661930479,2)] (by decide) (all1 pri_443415) (by decide) (by kernel_rfl) (by decide)
theorem pri_197573:Pri 19757330305831588566944191468367130476339:=pock (by decide) [(172054593956031949258510691,2)] (by decide) (all1 pri_172054) (by decide) (by kernel_rfl) (by decide)
theorem pri_276602:Pri 276602624281642239937218680557139826668747:=pock (by decide) [(19757330305831588566944191468367130476339,2)] (by decide) (all1 pri_197573) (by decide) (by kernel_rfl) (by decide)
theorem pri_723700:Pri 7237005577332262213973186563042994240857116359379907606001950938285454250989:=pock (by decide) [(276602624281642239937218680557139826668747,2)] (by decide) (all1 pri_276602) (by decide) (by kernel_rfl) (by decide)
end Go.Eng
