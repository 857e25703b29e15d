/-
  Part of a proof: SelNa.
-/
import Derived.Test.YtonkmgaofdhbaaaGreatDoorSealPa
import Derived.KernelRfl
set_option linter.unusedVariables false
set_option linter.unusedSimpArgs false
set_option linter.unusedVariables false
set_option linter.unusedSimpArgs false
namespace Go.Eng
set_option maxRecDepth 100000
set_option maxHeartbeats 1000000
theorem f43:(2:Nat)^8=256:=rfl
theorem e63 (n:Nat):(256:Nat)^(n+1)=256^n*256:=Nat.pow_succ ..
abbrev V8 (l:List Nat):Nat:=Z2 8 l
def Jq (l:List Nat):Prop:=∀ x∈l,x<256
def D (n:Nat):List Nat:=if n=0 then [] else n%256::D (n/256)
 termination_by n
 decreasing_by omega
theorem Lm:D 0=[]:=by rw [D];rfl
theorem b51 {n:Nat} (h:n≠0):D n=n%256::D (n/256):=by rw [D,if_neg h]
theorem Pa (n:Nat):Jq (D n):=by
 induction n using Nat.strongRecOn with
 |_ n ih =>
  by_cases h:n=0
  ·rw [h,Lm];exact fun x hx=>by cases hx
  ·rw [b51 h]
   intro x hx
   rcases List.mem_cons.1 hx with rfl|hx
   ·exact Nat.mod_lt _ (by decide)
   ·exact ih (n/256) (by omega) x hx
theorem Mq (n:Nat):V8 (D n)=n:=by
 induction n using Nat.strongRecOn with
 |_ n ih =>
  by_cases h:n=0
  ·rw [h,Lm];rfl
  ·rw [b51 h]
   have:=ih (n/256) (by omega)
   simp only [V8,Z2] at this ⊢
   rw [this]
   omega
theorem Kz:∀ (k n:Nat),n<256^k->(D n).length≤k
 |0,n,h=>by
  have:n=0:=by simpa using h
  rw [this,Lm];exact Nat.le_refl 0
 |k+1,n,h=>by
  by_cases h0:n=0
  ·rw [h0,Lm];exact Nat.zero_le _
  ·rw [b51 h0,List.length_cons]
   have:=Kz k (n/256) (by rw [Nat.pow_succ] at h;omega)
   omega
theorem Mr (a b:List Nat):V8 (a++b)=V8 a+256^a.length*V8 b:=by
 induction a with
 |nil=>simp [V8,Z2]
 |cons x xs ih =>
  simp only [V8,List.cons_append,Z2,List.length_cons,e63,f43] at ih ⊢
  rw [ih,Nat.mul_add,←Nat.mul_assoc,Nat.mul_comm (256^xs.length) 256]
  omega
theorem Qp:∀ (l:List Nat) (k:Nat),V8 (l.take (k+1))=V8 (l.take k)+256^k*l.getD k 0
 |[],k=>by simp [V8,Z2]
 |x::xs,0=>by simp [V8,Z2]
 |x::xs,k+1=>by
  have:=Qp xs k
  simp only [V8,List.take_succ_cons,Z2,List.getD_cons_succ,e63,f43] at this ⊢
  rw [this,Nat.mul_add,←Nat.mul_assoc,Nat.mul_comm (256^k) 256]
  omega
theorem To (l:List Nat) (i:Nat) (h:i<l.length):V8 (l.drop i)=l.getD i 0+256*V8 (l.drop (i+1)):=by
 rw [List.drop_eq_getElem_cons h]
 simp only [V8,Z2,List.getD,List.getElem?_eq_getElem h,Option.getD_some]
theorem g23:∀ (l:List Nat) (j x:Nat),j<l.length->V8 (l.set j (l.getD j 0+x))=V8 l+256^j*x
 |[],j,x,h=>by simp at h
 |y::ys,0,x,h=>by simp [V8,Z2];omega
 |y::ys,j+1,x,h=>by
  have:=g23 ys j x (by simpa using h)
  simp only [V8,List.getD_cons_succ,List.set_cons_succ,Z2,e63,f43] at this ⊢
  rw [this,Nat.mul_add,←Nat.mul_assoc,Nat.mul_comm (256^j) 256]
  omega
theorem d29 (n:Nat):V8 (List.replicate n 0)=0:=by
 induction n with
 |zero=>rfl
 |succ n ih=>rw [List.replicate_succ];simp only [V8,Z2] at ih ⊢;rw [ih]
theorem d30 {l:List Nat} (h:Jq l):V8 l<256^l.length:=by
 have:=d13 8 l h
 rw [Nat.pow_mul] at this;exact this
theorem l12:∀ (l:List Nat) (k:Nat),Jq l->l.length=k+1->l.getD k 0≠0->D (V8 l)=l
 |[x],0,h,_,h0=>by
  have hx:=h x (List.mem_cons_self ..)
  have:x≠0:=by simpa using h0
  have e:V8 [x]=x:=by simp [V8,Z2]
  rw [e,b51 this,Nat.mod_eq_of_lt hx,Nat.div_eq_of_lt hx,Lm]
 |x::y::ys,k+1,h,hl,h0=>by
  have hx:=h x (List.mem_cons_self ..)
  have ih:=l12 (y::ys) k (fun z hz=>h z (List.mem_cons_of_mem _ hz)) (by simpa using hl) (by simpa using h0)
  have e:V8 (x::y::ys)=x+256*V8 (y::ys):=rfl
  have hn:V8 (y::ys)≠0:=fun e0=>by rw [e0,Lm] at ih;cases ih
  rw [e,b51 (by omega),Nat.add_mul_mod_self_left,Nat.mod_eq_of_lt hx,Nat.add_mul_div_left _ _ (by decide),Nat.div_eq_of_lt hx,Nat.zero_add,ih]
theorem big (n:Nat) (h:n<10000000):n<f9:=Nat.lt_trans h (by decide)
theorem g24 (m:List Nat) (hm:Jq m) (hl:m.length≤1000000):∀ (k n:Nat),k≤m.length->k<n->∃ j,j≤k/\P9 (zl m) n k=some j/\m.take j=D (V8 (m.take k))
 |_,0,_,h=>absurd h (Nat.not_lt_zero _)
 |0,n+1,_,_=>by
  rw [P9.eq_2,i0 (by decide)]
  exact ⟨0,Nat.le_refl 0,rfl,by rw [List.take_zero];exact Lm.symm⟩
 |k+1,n+1,h,h'=>by
  have e:IntKind.wrap .i64 (((k+1:Nat):Int)-1)=(k:Int):=by rw [q6 (by omega) (by omega)];omega
  rw [P9.eq_2,j7 (by simp<;>omega),e,if_pos ⟨by omega,by omega⟩,m6,Int.toNat_natCast,F9]
  by_cases h0:m.getD k 0=0
  ·rw [j7 (by rw [h0];rfl),if_pos (by omega),if_pos (by omega),show ((k:Int)-0).toNat=k by omega]
   obtain ⟨j,a,b,c⟩:=g24 m hm hl k n (by omega) (by omega)
   refine ⟨j,by omega,b,?_⟩
   rw [c,Qp,h0,Nat.mul_zero,Nat.add_zero]
  ·rw [i0 (by rw [beq_eq_false_iff_ne];omega)]
   refine ⟨k+1,Nat.le_refl _,rfl,?_⟩
   have ht:(m.take (k+1)).length=k+1:=by rw [List.length_take];omega
   rw [l12 (m.take (k+1)) k (fun x hx=>hm x (List.mem_of_mem_take hx)) ht (by simp only [List.getD] at h0 ⊢;rw [List.getElem?_take_of_lt (by omega)];exact h0)]
theorem a33 (m:List Nat) (hm:Jq m) (hl:m.length≤1000000):∃ j,B9 (zl m)=some j/\m.take j=D (V8 m)/\j≤m.length:=by
 obtain ⟨j,hj,b,c⟩:=g24 m hm hl m.length f9 (Nat.le_refl _) (big _ (by omega))
 refine ⟨j,?_,by rw [c,List.take_length],hj⟩
 unfold B9
 rw [A1,b];rfl
def Is (p:Nat×List Int) (v:Nat):Prop:=∃ m,p.2=zl m/\Jq m/\p.1≤m.length/\m.take p.1=D v
theorem Is.take {p:Nat×List Int} {v:Nat} (h:Is p v):p.2.take p.1=zl (D v):=by
 obtain ⟨m,h1,_,_,h2⟩:=h
 rw [h1,←a08,h2]
theorem Is.zero {p:Nat×List Int} {v:Nat} (h:Is p v):p.1=0↔v=0:=by
 obtain ⟨m,_,_,h3,h2⟩:=h
 constructor
 ·intro h0
  rw [h0,List.take_zero] at h2
  rw [←Mq v,←h2];rfl
 ·intro h0
  rw [h0,Lm] at h2
  have:=congrArg List.length h2
  rw [List.length_take,List.length_nil] at this
  omega
theorem c64 (m:List Nat) (hm:Jq m) (hl:m.length≤1000000):∀ (r n i:Nat),i+r=m.length->r<n->Q0 (zl m) n (i:Int) (zl (m.take i))=some (.inr (zl m))
 |_,0,_,_,h=>absurd h (Nat.not_lt_zero _)
 |0,n+1,i,h,_=>by
  rw [Q0.eq_2,A1,i0 (by simp<;>omega),List.take_of_length_le (by omega)]
 |r+1,n+1,i,h,h'=>by
  have hg:m.getD i 0<256:=M5 hm (by decide) i
  have e:(zl (m.take i))++[((m.getD i 0:Nat):Int)]=zl (m.take (i+1)):=by
   rw [List.take_add_one,Fk];congr 1
   rw [List.getD,List.getElem?_eq_getElem (by omega)];rfl
  rw [Q0.eq_2,A1,j7 (by simp<;>omega),if_pos ⟨by omega,by omega⟩,Int.toNat_natCast,F9,A8 (by omega),if_pos (by rw [A1,List.length_take];simp only [List.length_cons,List.length_nil];omega),m6,e,q6 (by omega) (by omega)]
  exact c64 m hm hl r n (i+1) (by omega) (by omega)
theorem Xr (m:List Nat) (hm:Jq m) (hl:m.length≤1000000):∃ p,Ap (zl m)=some p/\Is p (V8 m):=by
 obtain ⟨j,h1,h2,h3⟩:=a33 m hm hl
 have:=c64 m hm hl m.length f9 0 (by omega) (big _ (by omega))
 refine ⟨(j,zl m),?_,⟨m,rfl,hm,h3,h2⟩⟩
 unfold Ap
 rw [show (0:Int)=((0:Nat):Int) from rfl,show ([]:List Int)=zl (m.take 0) from rfl,this,Option.bind_some]
 dsimp only
 rw [h1];rfl
theorem i15 (m:List Nat):∀ (k n c i:Nat) (o:List Nat),c<256^k->k<n->o.length+k≤1000000->m.length≤i->i+k<1000000->c<9223372036854775808 ->
  ∃ e,J9 (zl m) n (c:Int) (i:Int) (zl o)=some (.inr (zl (o++e)))/\Jq e/\V8 e=c/\e.length≤k
 |_,0,_,_,_,_,h,_,_,_,_=>absurd h (Nat.not_lt_zero _)
 |k,n+1,0,i,o,_,_,_,h,_,_=>by
  rw [J9.eq_2,A1,i0 (by simp<;>omega),i0 (by simp)]
  exact ⟨[],by rw [List.append_nil],(fun x hx=>by cases hx),rfl,Nat.zero_le _⟩
 |0,n+1,c+1,i,o,h,_,_,_,_,_=>by simp at h
 |k+1,n+1,c+1,i,o,h,h1,h2,h3,h4,h5=>by
  have e1:Int.tmod ((c+1:Nat):Int) 256=(((c+1)%256:Nat):Int):=rfl
  have e2:Int.tdiv ((c+1:Nat):Int) 256=(((c+1)/256:Nat):Int):=rfl
  have e3:zl o++[(((c+1)%256:Nat):Int)]=zl (o++[(c+1)%256]):=by rw [Fk];rfl
  rw [J9.eq_2,A1,i0 (by simp<;>omega),j7 (by simp<;>omega),i0 (by simp<;>omega),Option.bind_some,e1,e2,if_pos (by rw [A1];simp only [List.length_cons,List.length_nil];omega),A8 (by omega),q6 (by omega) (by omega),e3]
  obtain ⟨e,a,b,d,f⟩:=i15 m k n ((c+1)/256) (i+1) (o++[(c+1)%256]) (by rw [Nat.pow_succ] at h;omega) (by omega) (by simp only [List.length_append,List.length_cons,List.length_nil];omega) (by omega) (by omega) (by omega)
  refine ⟨(c+1)%256::e,?_,?_,?_,by simp only [List.length_cons];omega⟩
  ·rw [show (i:Int)+1=((i+1:Nat):Int) from rfl,a,List.append_assoc];rfl
  ·intro x hx
   rcases List.mem_cons.1 hx with rfl|hx
   ·exact Nat.mod_lt _ (by decide)
   ·exact b x hx
  ·show (c+1)%256+256*V8 e=_
   rw [d];omega
theorem i17 (m:List Nat) (hm:∀ x∈m,x<1099511627776) (hl:m.length≤1000):∀ (r n c i:Nat) (o:List Nat),i+r=m.length->r+10<n->c<1099511627776->o.length≤i ->
  ∃ e,J9 (zl m) n (c:Int) (i:Int) (zl o)=some (.inr (zl (o++e)))/\Jq e/\V8 e=c+V8 (m.drop i)/\e.length≤r+5
 |_,0,_,_,_,_,h,_,_=>absurd h (Nat.not_lt_zero _)
 |0,n+1,c,i,o,h,h1,h2,h3=>by
  obtain ⟨e,a,b,d,f⟩:=i15 m 5 (n+1) c i o (by simpa using h2) (by omega) (by omega) (by omega) (by omega) (by omega)
  refine ⟨e,a,b,?_,by omega⟩
  rw [d,List.drop_eq_nil_of_le (by omega)];rfl
 |r+1,n+1,c,i,o,h,h1,h2,h3=>by
  have hg:m.getD i 0<1099511627776:=M5 hm (by decide) i
  have e0:(c:Int)+((m.getD i 0:Nat):Int)=((c+m.getD i 0:Nat):Int):=rfl
  have e1:Int.tmod ((c+m.getD i 0:Nat):Int) 256=(((c+m.getD i 0)%256:Nat):Int):=rfl
  have e2:Int.tdiv ((c+m.getD i 0:Nat):Int) 256=(((c+m.getD i 0)/256:Nat):Int):=rfl
  have e3:zl o++[(((c+m.getD i 0)%256:Nat):Int)]=zl (o++[(c+m.getD i 0)%256]):=by rw [Fk];rfl
  rw [J9.eq_2,A1,j7 (by simp<;>omega),j7 (by simp<;>omega),if_pos ⟨by omega,by omega⟩,m6,Int.toNat_natCast,F9,e0,A8 (by omega),Option.bind_some,e1,e2,if_pos (by rw [A1];simp only [List.length_cons,List.length_nil];omega),A8 (by omega),q6 (by omega) (by omega),e3]
  obtain ⟨e,a,b,d,f⟩:=i17 m hm hl r n ((c+m.getD i 0)/256) (i+1) (o++[(c+m.getD i 0)%256]) (by omega) (by omega) (by omega) (by simp only [List.length_append,List.length_cons,List.length_nil];omega)
  refine ⟨(c+m.getD i 0)%256::e,?_,?_,?_,by simp only [List.length_cons];omega⟩
  ·rw [show (i:Int)+1=((i+1:Nat):Int) from rfl,a,List.append_assoc];rfl
  ·intro x hx
   rcases List.mem_cons.1 hx with rfl|hx
   ·exact Nat.mod_lt _ (by decide)
   ·exact b x hx
  ·show (c+m.getD i 0)%256+256*V8 e=_
   rw [d,To m i (by omega)];omega
theorem g25 (m:List Nat) (hm:∀ x∈m,x<1099511627776) (hl:m.length≤1000):∃ p,Iv (zl m)=some p/\Is p (V8 m):=by
 obtain ⟨e,a,b,d,f⟩:=i17 m hm hl m.length f9 0 0 [] (by omega) (big _ (by omega)) (by omega) (Nat.zero_le _)
 obtain ⟨j,h1,h2,h3⟩:=a33 e b (by omega)
 refine ⟨(j,zl e),?_,⟨e,rfl,b,h3,by rw [h2,d,Nat.zero_add,List.drop_zero]⟩⟩
 unfold Iv
 rw [show (0:Int)=((0:Nat):Int) from rfl,show ([]:List Int)=zl [] from rfl,a,Option.bind_some]
 dsimp only
 rw [List.nil_append,h1];rfl
end Go.Eng
set_option linter.unusedVariables false
set_option linter.unusedSimpArgs false
namespace Go.Eng
set_option maxRecDepth 100000
set_option maxHeartbeats 1000000
theorem j62 {o:List Nat} {B j v:Nat} (h:∀ x∈o,x≤B) (hj:v≤65536):∀ x∈o.set j (o.getD j 0+v),x≤B+65536:=fun x hx=>by
 rcases List.mem_or_eq_of_mem_set hx with hx|rfl
 ·have:=h x hx;omega
 ·have:o.getD j 0≤B:=by
   have:=M5 (l:=o) (b:=B+1) (fun x hx=>by have:=h x hx;omega) (by omega) j
   omega
  omega
theorem g26 (a:List Nat) (N:Nat) (ha:Jq a) (hN:N≤1000):∀ (r n i B:Nat) (o:List Nat),i+r=a.length->a.length≤N->r<n->o.length=N->(∀ x∈o,x≤B)->B+65536*r≤1000000000 ->
  ∃ o',Aq (zl a) (N:Int) n (i:Int) (zl o)=some (zl o')/\o'.length=N/\V8 o'=V8 o+256^i*V8 (a.drop i)/\∀ x∈o',x≤B+65536*r
 |_,0,_,_,_,_,_,h,_,_,_=>absurd h (Nat.not_lt_zero _)
 |0,n+1,i,B,o,h,h1,h2,h3,h4,h5=>by
  rw [Aq.eq_2,A1,i0 (by simp<;>omega)]
  refine ⟨o,rfl,h3,?_,fun x hx=>by have:=h4 x hx;omega⟩
  rw [List.drop_eq_nil_of_le (by omega)];simp [V8,Z2]
 |r+1,n+1,i,B,o,h,h1,h2,h3,h4,h5=>by
  have hg:a.getD i 0<256:=M5 ha (by decide) i
  have hg2:o.getD i 0<B+1:=M5 (l:=o) (b:=B+1) (fun x hx=>by have:=h4 x hx;omega) (by omega) i
  have e0:((o.getD i 0:Nat):Int)+((a.getD i 0:Nat):Int)=((o.getD i 0+a.getD i 0:Nat):Int):=rfl
  rw [Aq.eq_2,A1,j7 (by simp<;>omega),if_pos ⟨by omega,by omega⟩]
  rw [List.length_replicate,Int.toNat_natCast,if_pos ⟨by omega,by omega⟩,Int.toNat_natCast,F9,F9,e0,A8 (by omega),m6,if_pos ⟨by omega,by omega⟩,Jn,q6 (by omega) (by omega),show (i:Int)+1=((i+1:Nat):Int) from rfl]
  obtain ⟨o',p1,p2,p3,p4⟩:=g26 a N ha hN r n (i+1) (B+65536) (o.set i (o.getD i 0+a.getD i 0)) (by omega) h1 (by omega) (by rw [List.length_set];exact h3) (j62 h4 (by omega)) (by omega)
  refine ⟨o',p1,p2,?_,fun x hx=>by have:=p4 x hx;omega⟩
  rw [p3,g23 o i _ (by omega),To a i (by omega),e63,Nat.mul_add,Nat.mul_assoc];omega
theorem i18 (a:List Nat) (N:Nat) (ha:Jq a) (hN:N≤1000):∀ (r n i B:Nat) (o:List Nat),i+r=a.length->a.length≤N->r<n->o.length=N->(∀ x∈o,x≤B)->B+65536*r≤1000000000 ->
  ∃ o',Ar (zl a) (N:Int) n (i:Int) (zl o)=some (zl o')/\o'.length=N/\V8 o'=V8 o+256^i*V8 (a.drop i)/\∀ x∈o',x≤B+65536*r
 |_,0,_,_,_,_,_,h,_,_,_=>absurd h (Nat.not_lt_zero _)
 |0,n+1,i,B,o,h,h1,h2,h3,h4,h5=>by
  rw [Ar.eq_2,A1,i0 (by simp<;>omega)]
  refine ⟨o,rfl,h3,?_,fun x hx=>by have:=h4 x hx;omega⟩
  rw [List.drop_eq_nil_of_le (by omega)];simp [V8,Z2]
 |r+1,n+1,i,B,o,h,h1,h2,h3,h4,h5=>by
  have hg:a.getD i 0<256:=M5 ha (by decide) i
  have hg2:o.getD i 0<B+1:=M5 (l:=o) (b:=B+1) (fun x hx=>by have:=h4 x hx;omega) (by omega) i
  have e0:((o.getD i 0:Nat):Int)+((a.getD i 0:Nat):Int)=((o.getD i 0+a.getD i 0:Nat):Int):=rfl
  rw [Ar.eq_2,A1,j7 (by simp<;>omega),if_pos ⟨by omega,by omega⟩]
  rw [List.length_replicate,Int.toNat_natCast,if_pos ⟨by omega,by omega⟩,Int.toNat_natCast,F9,F9,e0,A8 (by omega),m6,if_pos ⟨by omega,by omega⟩,Jn,q6 (by omega) (by omega),show (i:Int)+1=((i+1:Nat):Int) from rfl]
  obtain ⟨o',p1,p2,p3,p4⟩:=i18 a N ha hN r n (i+1) (B+65536) (o.set i (o.getD i 0+a.getD i 0)) (by omega) h1 (by omega) (by rw [List.length_set];exact h3) (j62 h4 (by omega)) (by omega)
  refine ⟨o',p1,p2,?_,fun x hx=>by have:=p4 x hx;omega⟩
  rw [p3,g23 o i _ (by omega),To a i (by omega),e63,Nat.mul_add,Nat.mul_assoc];omega
theorem d31 (a b:List Nat) (ha:Jq a) (hb:Jq b) (la:a.length≤100) (lb:b.length≤100):∃ p,Hc (zl a) (zl b)=some p/\Is p (V8 a+V8 b):=by
 obtain ⟨o,h1,h2,h3,h4⟩:=g26 a (a.length+b.length) ha (by omega) a.length f9 0 0 (List.replicate (a.length+b.length) 0) (by omega) (by omega) (big _ (by omega)) (by simp) (fun x hx=>by rw [List.eq_of_mem_replicate hx];exact Nat.le_refl 0) (by omega)
 obtain ⟨q,k1,k2,k3,k4⟩:=i18 b (a.length+b.length) hb (by omega) b.length f9 0 _ o (by omega) (by omega) (big _ (by omega)) h2 h4 (by omega)
 obtain ⟨p,f1,f2⟩:=g25 q (fun x hx=>by have:=k4 x hx;omega) (by omega)
 refine ⟨p,?_,?_⟩
 ·unfold Hc
  rw [A1,A1,show ((a.length:Nat):Int)+((b.length:Nat):Int)=((a.length+b.length:Nat):Int) from rfl,A8 (by omega),m6,if_pos ⟨by omega,by omega,by omega,by omega⟩,Int.toNat_natCast]
  rw [Ob,show ((0:Nat):Int)=0 from rfl] at h1
  rw [show ((0:Nat):Int)=0 from rfl] at k1
  rw [h1,Option.bind_some,k1,Option.bind_some,List.length_replicate,List.take_of_length_le (by rw [A1];omega),f1];rfl
 ·rw [k3,h3,d29] at f2
  simpa using f2
theorem e64 (a b:List Nat) (N:Nat) (ha:Jq a) (hb:Jq b) (hN:N≤1000) (i:Nat) (hi:i<a.length) (hab:a.length+b.length≤N):∀ (r n k B:Nat) (o:List Nat),k+r=b.length->r<n->o.length=N->(∀ x∈o,x≤B)->B+65536*r≤1000000000 ->
  ∃ o',T1 (zl a) (zl b) (N:Int) (i:Int) n (k:Int) (zl o)=some (zl o')/\o'.length=N/\V8 o'=V8 o+256^(i+k)*(a.getD i 0*V8 (b.drop k))/\∀ x∈o',x≤B+65536*r
 |_,0,_,_,_,_,h,_,_,_=>absurd h (Nat.not_lt_zero _)
 |0,n+1,k,B,o,h,h2,h3,h4,h5=>by
  rw [T1.eq_2,A1,i0 (by simp<;>omega)]
  refine ⟨o,rfl,h3,?_,fun x hx=>by have:=h4 x hx;omega⟩
  rw [List.drop_eq_nil_of_le (by omega)];simp [V8,Z2]
 |r+1,n+1,k,B,o,h,h2,h3,h4,h5=>by
  have hg:a.getD i 0<256:=M5 ha (by decide) i
  have hg1:b.getD k 0<256:=M5 hb (by decide) k
  have hg2:o.getD (i+k) 0<B+1:=M5 (l:=o) (b:=B+1) (fun x hx=>by have:=h4 x hx;omega) (by omega) _
  have hm:a.getD i 0*b.getD k 0≤255*255:=Nat.mul_le_mul (by omega) (by omega)
  have e0:∀ x y:Nat,(x:Int)+(y:Int)=((x+y:Nat):Int):=fun _ _=>rfl
  have e1:∀ x y:Nat,(x:Int)*(y:Int)=((x*y:Nat):Int):=fun _ _=>rfl
  rw [T1.eq_2,A1,j7 (by simp<;>omega),if_pos ⟨by omega,by omega⟩,e0 i k,A8 (n:=i+k) (by omega),List.length_replicate,Int.toNat_natCast,if_pos ⟨by omega,by omega⟩]
  rw [m6,m6,if_pos ⟨by omega,by omega⟩,m6,Int.toNat_natCast,Int.toNat_natCast,Int.toNat_natCast,F9,F9,F9,e1,A8 (n:=a.getD i 0*b.getD k 0) (by omega),e0,A8 (n:=o.getD (i+k) 0+a.getD i 0*b.getD k 0) (by omega),Jn,q6 (by omega) (by omega),show (k:Int)+1=((k+1:Nat):Int) from rfl]
  obtain ⟨o',p1,p2,p3,p4⟩:=e64 a b N ha hb hN i hi hab r n (k+1) (B+65536) (o.set (i+k) (o.getD (i+k) 0+a.getD i 0*b.getD k 0)) (by omega) (by omega) (by rw [List.length_set];exact h3) (j62 h4 (by omega)) (by omega)
  refine ⟨o',p1,p2,?_,fun x hx=>by have:=p4 x hx;omega⟩
  rw [p3,g23 o (i+k) _ (by omega),To b k (by omega),show i+(k+1)=(i+k)+1 from rfl,e63,Nat.mul_add,Nat.mul_add,Nat.mul_assoc (256^(i+k)) 256,Nat.mul_left_comm (a.getD i 0) 256];omega
theorem e65 (a b:List Nat) (N:Nat) (ha:Jq a) (hb:Jq b) (hN:N≤1000) (hab:a.length+b.length≤N):∀ (r n i B:Nat) (o:List Nat),i+r=a.length->r<n->o.length=N->(∀ x∈o,x≤B)->B+65536*(b.length*r)≤1000000000 ->
  ∃ o',T2 (zl a) (zl b) (N:Int) n (i:Int) (zl o)=some (zl o')/\o'.length=N/\V8 o'=V8 o+256^i*(V8 (a.drop i)*V8 b)/\∀ x∈o',x≤B+65536*(b.length*r)
 |_,0,_,_,_,_,h,_,_,_=>absurd h (Nat.not_lt_zero _)
 |0,n+1,i,B,o,h,h2,h3,h4,h5=>by
  rw [T2.eq_2,A1,i0 (by simp<;>omega)]
  refine ⟨o,rfl,h3,?_,fun x hx=>by have:=h4 x hx;omega⟩
  rw [List.drop_eq_nil_of_le (by omega)];simp [V8,Z2]
 |r+1,n+1,i,B,o,h,h2,h3,h4,h5=>by
  have hs:b.length*(r+1)=b.length*r+b.length:=Nat.mul_succ ..
  rw [hs] at h5
  obtain ⟨o1,p1,p2,p3,p4⟩:=e64 a b N ha hb hN i (by omega) hab b.length f9 0 B o (by omega) (big _ (by omega)) h3 h4 (by omega)
  obtain ⟨o',q1,q2,q3,q4⟩:=e65 a b N ha hb hN hab r n (i+1) (B+65536*b.length) o1 (by omega) (by omega) p2 p4 (by omega)
  rw [show ((0:Nat):Int)=0 from rfl] at p1
  rw [T2.eq_2,A1,j7 (by simp<;>omega),if_pos ⟨by omega,by omega⟩,p1,Option.bind_some,q6 (by omega) (by omega),show (i:Int)+1=((i+1:Nat):Int) from rfl]
  refine ⟨o',q1,q2,?_,fun x hx=>by have:=q4 x hx;rw [hs];omega⟩
  rw [q3,p3,To a i (by omega),e63,Nat.add_zero,List.drop_zero,Nat.add_mul,Nat.mul_add,Nat.mul_assoc (256^i) 256,Nat.mul_assoc 256];omega
theorem e66 (a b:List Nat) (ha:Jq a) (hb:Jq b) (la:a.length≤100) (lb:b.length≤100):∃ p,Fu (zl a) (zl b)=some p/\Is p (V8 a*V8 b):=by
 have hm:b.length*a.length≤100*100:=Nat.mul_le_mul lb la
 obtain ⟨o,h1,h2,h3,h4⟩:=e65 a b (a.length+b.length) ha hb (by omega) (by omega) a.length f9 0 0 (List.replicate (a.length+b.length) 0) (by omega) (big _ (by omega)) (by simp) (fun x hx=>by rw [List.eq_of_mem_replicate hx];exact Nat.le_refl 0) (by omega)
 obtain ⟨p,f1,f2⟩:=g25 o (fun x hx=>by have:=h4 x hx;omega) (by omega)
 refine ⟨p,?_,?_⟩
 ·unfold Fu
  rw [A1,A1,show ((a.length:Nat):Int)+((b.length:Nat):Int)=((a.length+b.length:Nat):Int) from rfl,A8 (by omega),m6,if_pos ⟨by omega,by omega,by omega,by omega⟩,Int.toNat_natCast]
  rw [Ob,show ((0:Nat):Int)=0 from rfl] at h1
  rw [h1,Option.bind_some,List.length_replicate,List.take_of_length_le (by rw [A1];omega),f1];rfl
 ·rw [h3,d29] at f2
  simpa using f2
end Go.Eng
set_option linter.unusedVariables false
set_option linter.unusedSimpArgs false
namespace Go.Eng
set_option maxRecDepth 100000
set_option maxHeartbeats 1000000
abbrev C3:Nat:=1361129467683753853853498429727072845824
abbrev Bu:Nat:=1361129467683753853853498429727072845819
theorem Ms (m:List Nat) (N i:Nat) (h:i<N):(m.take N).getD i 0=m.getD i 0:=by
 simp only [List.getD];rw [List.getElem?_take_of_lt h]
theorem Vv (x:List Int):∀ (n:Nat) (i:Int) (o:List Int),K6 x n i o=A7 x.length x n i o
 |0,_,_=>rfl
 |n+1,i,o=>by
  have ih:K6 x n=A7 x.length x n:=funext fun i=>funext fun o=>Vv x n i o
  rw [K6.eq_2,A7.eq_2,ih]
  rfl
theorem g79 (x:List Int):Hd x=O1 x.length x:=by
 have ih:K6 x=A7 x.length x:=funext fun n=>funext fun i=>funext fun o=>Vv x n i o
 unfold Hd O1
 rw [ih]
theorem g27 (a:List Nat) (i:Nat):V8 (a.drop i)%4=a.getD i 0%4:=by
 by_cases h:i<a.length
 ·rw [To a i h];omega
 ·rw [List.drop_eq_nil_of_le (by omega)]
  simp only [List.getD];rw [List.getElem?_eq_none (by omega)];rfl
theorem Qq (m:List Nat) (N:Nat) (hm:Jq m) (hN:N≤m.length) (hl:N≤1000):∀ (r n i:Nat) (o:List Nat),i+r=N->r<n->o.length≤i ->
  ∃ e,A7 N (zl m) n (i:Int) (zl o)=some (.inr (zl (o++e)))/\Jq e/\V8 e=V8 ((m.take N).drop i)/4/\e.length≤r
 |_,0,_,_,_,h,_=>absurd h (Nat.not_lt_zero _)
 |0,n+1,i,o,h,h1,h2=>by
  rw [A7.eq_2,i0 (by simp<;>omega)]
  refine ⟨[],by rw [List.append_nil],(fun x hx=>by cases hx),?_,Nat.zero_le _⟩
  rw [List.drop_eq_nil_of_le (by rw [List.length_take];omega)];rfl
 |r+1,n+1,i,o,h,h1,h2=>by
  have hg:m.getD i 0<256:=M5 hm (by decide) i
  have hg1:(m.take N).getD (i+1) 0<256:=M5 (fun x hx=>hm x (List.mem_of_mem_take hx)) (by decide) (i+1)
  have hg2:=Ms m N i (by omega)
  have hc:((cond (decide ((IntKind.wrap .i64 ((i:Int)+1))<(N:Int)))
    (if (0:Int)≤(IntKind.wrap .i64 ((i:Int)+1))/\(IntKind.wrap .i64 ((i:Int)+1))<(N:Int) then
     nm ((List.getD (zl m) (Int.toNat (IntKind.wrap .i64 ((i:Int)+1))) 0):Int) fun x121 =>
     some x121
    else none)
    (some 0):Option Int))=some (((m.take N).getD (i+1) 0:Nat):Int):=by
   rw [q6 (by omega) (by omega)]
   by_cases hi:i+1<N
   ·rw [j7 (by simp<;>omega),if_pos ⟨by omega,by omega⟩,m6,show ((i:Int)+1).toNat=i+1 by omega,F9,Ms m N (i+1) hi]
   ·rw [i0 (by simp<;>omega)]
    simp only [List.getD];rw [List.getElem?_eq_none (by rw [List.length_take];omega)];rfl
  have e1:∀ x:Nat,Int.tdiv (x:Int) 4=((x/4:Nat):Int):=fun _=>rfl
  have e2:∀ x:Nat,Int.tmod (x:Int) 4*64=((x%4*64:Nat):Int):=fun _=>rfl
  have e0:∀ x y:Nat,(x:Int)+(y:Int)=((x+y:Nat):Int):=fun _ _=>rfl
  have e3:zl o++[((m.getD i 0/4+(m.take N).getD (i+1) 0%4*64:Nat):Int)]=zl (o++[m.getD i 0/4+(m.take N).getD (i+1) 0%4*64]):=by rw [Fk];rfl
  rw [A7.eq_2,j7 (by simp<;>omega),hc,Option.bind_some,if_pos ⟨by omega,by omega⟩,m6,m6,Int.toNat_natCast,F9,e1,e2,A8 (by omega),A8 (by omega),e0 (m.getD i 0/4) ((m.take N).getD (i+1) 0%4*64),A8 (by omega),if_pos (by rw [A1];simp only [List.length_cons,List.length_nil];omega),q6 (by omega) (by omega),e3,show (i:Int)+1=((i+1:Nat):Int) from rfl]
  obtain ⟨e,p1,p2,p3,p4⟩:=Qq m N hm hN hl r n (i+1) (o++[m.getD i 0/4+(m.take N).getD (i+1) 0%4*64]) (by omega) (by omega) (by simp only [List.length_append,List.length_cons,List.length_nil];omega)
  refine ⟨(m.getD i 0/4+(m.take N).getD (i+1) 0%4*64)::e,by rw [p1,List.append_assoc];rfl,?_,?_,by simp only [List.length_cons];omega⟩
  ·intro x hx
   rcases List.mem_cons.1 hx with rfl|hx
   ·omega
   ·exact p2 x hx
  ·show (m.getD i 0/4+(m.take N).getD (i+1) 0%4*64)+256*V8 e=_
   have hq:=g27 (m.take N) (i+1)
   rw [p3,To (m.take N) i (by rw [List.length_take];omega),hg2]
   generalize V8 ((m.take N).drop (i+1))=W at *
   omega
theorem Zc {p:Nat×List Int} {v:Nat} (h:Is p v) (hl:p.1≤1000):(O1 p.1 p.2=some (.inl ())/\v/C3=0)\/∃ a b c d,O1 p.1 p.2=some (.inr (a,b,c,d))/\Is (a,c) (v/C3)/\Is (b,d) (v%C3):=by
 obtain ⟨N,l⟩:=p
 obtain ⟨m,h1,h2,h3,h4⟩:=h
 simp only at h1 h3 h4 hl ⊢
 subst h1
 have hv:v=V8 (m.take N):=by rw [h4,Mq]
 unfold O1
 by_cases hN:N<17
 ·refine .inl ⟨j7 (by simp<;>omega),?_⟩
  have h5:=d30 (l:=m.take N) (fun x hx=>h2 x (List.mem_of_mem_take hx))
  rw [←hv,List.length_take,Nat.min_eq_left h3] at h5
  have h6:(256:Nat)^N≤256^16:=Nat.pow_le_pow_right (by decide) (by omega)
  have h7:(256:Nat)^16<C3:=by decide
  exact Nat.div_eq_of_lt (by omega)
 ·refine .inr ?_
  have ht:(m.take 17).length=17:=by rw [List.length_take];omega
  have hg:(m.take 17).getD 16 0<256:=M5 (fun x hx=>h2 x (List.mem_of_mem_take hx)) (by decide) 16
  have e1:Int.tmod (((m.take 17).getD 16 0:Nat):Int) 4=(((m.take 17).getD 16 0%4:Nat):Int):=rfl
  have hlow:Jq ((m.take 17).set 16 ((m.take 17).getD 16 0%4)):=fun x hx=>by
   rcases List.mem_or_eq_of_mem_set hx with hx|rfl
   ·exact h2 x (List.mem_of_mem_take hx)
   ·omega
  obtain ⟨e,p1,p2,p3,p4⟩:=Qq m N h2 h3 hl (N-16) f9 16 [] (by omega) (big _ (by omega)) (Nat.zero_le _)
  obtain ⟨j1,q1,q2,q3⟩:=a33 e p2 (by omega)
  obtain ⟨j2,r1,r2,r3⟩:=a33 _ hlow (by rw [List.length_set];omega)
  rw [show ((16:Nat):Int)=16 from rfl,show zl []=([]:List Int) from rfl] at p1
  refine ⟨j1,j2,zl e,zl ((m.take 17).set 16 ((m.take 17).getD 16 0%4)),?_,⟨e,rfl,p2,q3,?_⟩,⟨_,rfl,hlow,r3,?_⟩⟩
  ·rw [i0 (by simp<;>omega),if_pos (by omega),List.nil_append,←a08,if_pos (by rw [A1,ht];decide),A1,ht,if_pos (by decide),m6,if_pos (by decide),p1,Option.bind_some]
   dsimp only
   rw [List.nil_append,q1,Option.bind_some,F9,e1,Jn,r1];rfl
  ·rw [q2,p3,hv]
   congr 1
   have hsplit:V8 (m.take N)=V8 ((m.take N).take 16)+256^16*V8 ((m.take N).drop 16):=by
    have:=Mr ((m.take N).take 16) ((m.take N).drop 16)
    rw [List.take_append_drop,List.length_take,List.length_take,Nat.min_eq_left (by omega)] at this
    exact this
   have hlt:=d30 (l:=(m.take N).take 16) (fun x hx=>h2 x (List.mem_of_mem_take (List.mem_of_mem_take hx)))
   rw [List.length_take,List.length_take,Nat.min_eq_left (by omega)] at hlt
   have c16:(256:Nat)^16=340282366920938463463374607431768211456:=by decide
   rw [c16] at hsplit hlt
   rw [hsplit]
   simp only [C3]
   omega
  ·rw [r2,hv]
   congr 1
   have hsplit:V8 (m.take N)=V8 ((m.take N).take 16)+256^16*V8 ((m.take N).drop 16):=by
    have:=Mr ((m.take N).take 16) ((m.take N).drop 16)
    rw [List.take_append_drop,List.length_take,List.length_take,Nat.min_eq_left (by omega)] at this
    exact this
   have hlt:=d30 (l:=(m.take N).take 16) (fun x hx=>h2 x (List.mem_of_mem_take (List.mem_of_mem_take hx)))
   rw [List.length_take,List.length_take,Nat.min_eq_left (by omega)] at hlt
   have c16:(256:Nat)^16=340282366920938463463374607431768211456:=by decide
   have hq:=g27 (m.take N) 16
   have hg16:(m.take N).getD 16 0=(m.take 17).getD 16 0:=by rw [Ms m N 16 (by omega),Ms m 17 16 (by omega)]
   have hlowV:V8 ((m.take 17).set 16 ((m.take 17).getD 16 0%4))=V8 (m.take 16)+256^16*((m.take 17).getD 16 0%4):=by
    have:(m.take 17).set 16 ((m.take 17).getD 16 0%4)=m.take 16++[(m.take 17).getD 16 0%4]:=by
     generalize (m.take 17).getD 16 0%4=z
     rw [List.take_add_one (i:=16),List.set_append_right _ _ (by rw [List.length_take];omega),List.getElem?_eq_getElem (by omega)]
     rw [List.length_take,Nat.min_eq_left (by omega)];rfl
    rw [this,Mr,List.length_take,Nat.min_eq_left (by omega)];simp [V8,Z2]
   have htt:(m.take N).take 16=m.take 16:=by rw [List.take_take,Nat.min_eq_left (by omega)]
   rw [hg16] at hq
   rw [hlowV,hsplit,htt]
   rw [htt] at hlt
   rw [c16] at hlt ⊢
   generalize V8 ((m.take N).drop 16)=W at *
   generalize V8 (m.take 16)=U at *
   generalize (m.take 17).getD 16 0=g at *
   simp only [C3]
   omega
end Go.Eng
set_option linter.unusedVariables false
set_option linter.unusedSimpArgs false
namespace Go.Eng
set_option maxRecDepth 100000
set_option maxHeartbeats 1000000
theorem l93 (v:Nat):Is ((D v).length,zl (D v)) v:=⟨D v,rfl,Pa v,Nat.le_refl _,List.take_length ..⟩
theorem l13:Jq [5]:=fun x hx=>by rw [List.mem_singleton.1 hx];decide
theorem V5:V8 [5]=5:=rfl
theorem zl5:zl [5]=[5]:=rfl
theorem c34:(256:Nat)^34=7588550360256754183279148073529370729071901715047420004889892225542594864082845696:=by decide
theorem Qr {v:Nat} (hv:v<256^34) (n:Nat):W9 (n+1) (zl (D v))=if v/C3=0 then some (zl (D v)) else W9 n (zl (D (v%C3+v/C3*5))):=by
 have hl:=Kz 34 v hv
 have hlow:v%C3<256^34:=Nat.lt_of_le_of_lt (Nat.mod_le _ _) hv
 have hhi:v/C3<256^34:=Nat.lt_of_le_of_lt (Nat.div_le_self _ _) hv
 rw [W9.eq_2,g79,A1]
 rcases Zc (l93 v) (by simp only;omega) with ⟨h1,h2⟩|⟨a,b,c,d,h1,h2,h3⟩
 ·simp only at h1
  rw [h1,if_pos h2];rfl
 ·simp only at h1
  rw [h1,Option.bind_some]
  dsimp only
  have hz:=h2.zero
  simp only at hz
  by_cases h0:v/C3=0
  ·rw [if_pos h0,hz.2 h0];rfl
  ·have ha:a≠0:=fun e=>h0 (hz.1 e)
   rw [if_neg h0,i0 (by rw [beq_eq_false_iff_ne];omega)]
   have t1:=h2.take
   have t2:=h3.take
   simp only at t1 t2
   obtain ⟨p,f1,f2⟩:=e66 (D (v/C3)) [5] (Pa _) l13 (Nat.le_trans (Kz 34 _ hhi) (by decide)) (by decide)
   rw [Mq,V5] at f2
   rw [t1,←zl5,f1,Option.bind_some]
   have h5:v/C3*5<256^34:=by rw [c34] at *;simp only [C3];omega
   obtain ⟨q,g1,g2⟩:=d31 (D (v%C3)) (D (v/C3*5)) (Pa _) (Pa _) (Nat.le_trans (Kz 34 _ hlow) (by decide)) (Nat.le_trans (Kz 34 _ h5) (by decide))
   rw [Mq,Mq] at g2
   have t3:=f2.take
   obtain ⟨p1,p2⟩:=p
   dsimp only at t3 ⊢
   rw [t2,t3,g1,Option.bind_some]
   have t4:=g2.take
   obtain ⟨q1,q2⟩:=q
   dsimp only at t4 ⊢
   rw [t4]
theorem g80 {v:Nat} (hv:v<256^34):∃ w,W9 f9 (zl (D v))=some (zl (D w))/\w<C3/\w%Bu=v%Bu:=by
 obtain ⟨m,hm⟩:∃ m,f9=m+6:=⟨18446744073709551610,rfl⟩
 rw [hm,Qr hv]
 rw [c34] at hv
 have cT:C3=1361129467683753853853498429727072845824:=rfl
 have cP:Bu=1361129467683753853853498429727072845819:=rfl
 have r1:(v%C3+v/C3*5)%Bu=v%Bu:=by simp only [C3,Bu];omega
 have b1:v%C3+v/C3*5<27877292627630962680773501339240178955321344:=by simp only [C3];omega
 by_cases h0:v/C3=0
 ·rw [if_pos h0];exact ⟨v,rfl,by simp only [C3] at h0 ⊢;omega,rfl⟩
 rw [if_neg h0]
 generalize hv1:v%C3+v/C3*5=v1 at *
 have b1':v1<256^34:=by rw [c34];omega
 rw [Qr b1']
 by_cases h1:v1/C3=0
 ·rw [if_pos h1];exact ⟨v1,rfl,by simp only [C3] at h1 ⊢;omega,r1⟩
 rw [if_neg h1]
 have r2:(v1%C3+v1/C3*5)%Bu=v1%Bu:=by simp only [C3,Bu];omega
 have b2:v1%C3+v1/C3*5<1361129467683753853853498429727073009664:=by simp only [C3];omega
 generalize hv2:v1%C3+v1/C3*5=v2 at *
 rw [Qr (v:=v2) (by rw [c34];omega)]
 by_cases h2:v2/C3=0
 ·rw [if_pos h2];exact ⟨v2,rfl,by simp only [C3] at h2 ⊢;omega,by rw [r2,r1]⟩
 rw [if_neg h2]
 have r3:(v2%C3+v2/C3*5)%Bu=v2%Bu:=by simp only [C3,Bu];omega
 have b3:v2%C3+v2/C3*5<1361129467683753853853498429727072845844:=by simp only [C3];omega
 generalize hv3:v2%C3+v2/C3*5=v3 at *
 rw [Qr (v:=v3) (by rw [c34];omega)]
 by_cases h3:v3/C3=0
 ·rw [if_pos h3];exact ⟨v3,rfl,by simp only [C3] at h3 ⊢;omega,by rw [r3,r2,r1]⟩
 rw [if_neg h3]
 have r4:(v3%C3+v3/C3*5)%Bu=v3%Bu:=by simp only [C3,Bu];omega
 have b4:v3%C3+v3/C3*5<1361129467683753853853498429727072845824:=by simp only [C3] at h3 ⊢;omega
 generalize hv4:v3%C3+v3/C3*5=v4 at *
 rw [Qr (v:=v4) (by rw [c34];omega)]
 have h4:v4/C3=0:=by simp only [C3];omega
 rw [if_pos h4];exact ⟨v4,rfl,by simp only [C3];omega,by rw [r4,r3,r2,r1]⟩
theorem j63 {v:Nat} (hv:v<256^34):(Nf (zl (D v))=some (.inl (zl (D (v%Bu)))))\/∃ a b,Nf (zl (D v))=some (.inr (a,b))/\b.take a=zl (D (v%Bu)):=by
 obtain ⟨w,h1,h2,h3⟩:=g80 hv
 have c17:(256:Nat)^17=87112285931760246646623899502532662132736:=by decide
 obtain ⟨q,g1,g2⟩:=d31 (D w) [5] (Pa _) l13 (Nat.le_trans (Kz 17 _ (by rw [c17];simp only [C3] at h2;omega)) (by decide)) (by decide)
 rw [Mq,V5] at g2
 unfold Nf
 rw [h1,Option.bind_some,←zl5,g1,Option.bind_some]
 have hq:q.1≤1000:=by
  obtain ⟨m,e1,e2,e3,e4⟩:=g2
  have:=congrArg List.length e4
  have h17:=Kz 17 (w+5) (by rw [c17];simp only [C3] at h2;omega)
  rw [List.length_take,Nat.min_eq_left e3] at this
  omega
 obtain ⟨q1,q2⟩:=q
 dsimp only at hq ⊢
 rcases Zc g2 hq with ⟨k1,k2⟩|⟨a,b,c,d,k1,k2,k3⟩
 ·dsimp only at k1
  rw [k1]
  refine .inl ?_
  have:v%Bu=w:=by rw [←h3];simp only [C3,Bu] at *;omega
  rw [this];rfl
 ·dsimp only at k1
  rw [k1,Option.bind_some]
  dsimp only
  have hz:=k2.zero
  dsimp only at hz
  by_cases h0:(w+5)/C3=0
  ·have ha:=hz.2 h0
   refine .inl ?_
   rw [i0 (by rw [ha];rfl)]
   have:v%Bu=w:=by rw [←h3];simp only [C3,Bu] at *;omega
   rw [this]
  ·have ha:a≠0:=fun e=>h0 (hz.1 e)
   refine .inr ⟨b,d,by rw [j7 (by simp<;>omega)],?_⟩
   have t:=k3.take
   dsimp only at t
   rw [t]
   congr 2
   rw [←h3];simp only [C3,Bu] at *;omega
def Jr (r:Nat):Nat->Nat->List Nat->Nat
 |0,a,_=>a
 |k+1,a,m=>if m.isEmpty then a else Jr r k (((a+V8 (m.take 16++[1]))*r)%Bu) (m.drop 16)
theorem c65 (r k a:Nat):Jr r k a []=a:=by cases k<;>rfl
theorem c66 (m:List Nat) (hm:Jq m) (hl:m.length≤900000) {x79:Nat} {x80:List Int} {r:Nat} (hr:x80.take x79=zl (D r)) (hr':r<256^16):∀ (k n i a:Nat),m.length≤i+16*k->k<n->i≤m.length+15->a<Bu ->
  Dl (zl m) x79 x80 n (zl (D a)) (i:Int)=some (zl (D (Jr r k a (m.drop i))))
 |_,0,_,_,_,h,_,_=>absurd h (Nat.not_lt_zero _)
 |k,n+1,i,a,h1,h2,h3,h4=>by
  rw [Dl.eq_2,A1]
  by_cases hi:i<m.length
  ·cases k with
   |zero=>omega
   |succ k =>
   have c16:(256:Nat)^16=340282366920938463463374607431768211456:=by decide
   have c17:(256:Nat)^17=87112285931760246646623899502532662132736:=by decide
   have c18:(256:Nat)^18=22300745198530623141535718272648361505980416:=by decide
   rw [j7 (by simp<;>omega),m6,q6 (n:=(i:Int)+16) (by omega) (by omega)]
   have hcond:(cond (decide ((i:Int)+16>(m.length:Int))) (some (m.length:Int)) (some ((i:Int)+16)):Option Int)=some ((min m.length (i+16):Nat):Int):=by
    by_cases hh:(i:Int)+16>(m.length:Int)
    ·rw [j7 (by simpa using hh)];congr 1;omega
    ·rw [i0 (by simpa using hh)];congr 1;omega
   rw [hcond,Option.bind_some,if_pos (by omega),if_pos ⟨by omega,by omega⟩,m6]
   have hch:List.take (((min m.length (i+16):Nat):Int)-(i:Int)).toNat (List.drop (i:Int).toNat (zl m))=zl ((m.drop i).take 16):=by
    rw [Int.toNat_natCast,←d14,←a08]
    congr 1
    rw [show (((min m.length (i+16):Nat):Int)-(i:Int)).toNat=min m.length (i+16)-i by omega]
    by_cases h16:i+16≤m.length
    ·rw [show min m.length (i+16)-i=16 by omega]
    ·rw [List.take_of_length_le (by rw [List.length_drop];omega),List.take_of_length_le (by rw [List.length_drop];omega)]
   have hcd:Jq ((m.drop i).take 16++[1]):=fun x hx=>by
    rcases List.mem_append.1 hx with hx|hx
    ·exact hm x (List.mem_of_mem_drop (List.mem_of_mem_take hx))
    ·rw [List.mem_singleton.1 hx];decide
   have hcl:((m.drop i).take 16).length≤16:=by rw [List.length_take];omega
   have hcl2:((m.drop i).take 16++[1]).length≤17:=by rw [List.length_append];simp only [List.length_cons,List.length_nil];omega
   obtain ⟨p,n1,n2⟩:=Xr _ hcd (by omega)
   have hzz:zl ((m.drop i).take 16)++[1]=zl ((m.drop i).take 16++[1]):=by rw [Fk];rfl
   rw [hch,if_pos (by rw [A1];simp only [List.length_nil];omega),List.nil_append,if_pos (by rw [A1];simp only [List.length_cons,List.length_nil];omega),hzz,n1,Option.bind_some]
   have hV:V8 ((m.drop i).take 16++[1])<256^17:=Nat.lt_of_lt_of_le (d30 hcd) (Nat.pow_le_pow_right (by decide) hcl2)
   have t1:=n2.take
   obtain ⟨p1,p2⟩:=p
   dsimp only at t1 ⊢
   simp only [Bu] at h4
   have la:=Kz 17 a (by rw [c17];omega)
   have lv:=Kz 17 _ hV
   obtain ⟨q,a1,a2⟩:=d31 (D a) (D (V8 ((m.drop i).take 16++[1]))) (Pa _) (Pa _) (by omega) (by omega)
   rw [Mq,Mq] at a2
   have t2:=a2.take
   have hs:a+V8 ((m.drop i).take 16++[1])<256^18:=by rw [c17] at hV;rw [c18];omega
   rw [t1,a1,Option.bind_some]
   obtain ⟨q1,q2⟩:=q
   dsimp only at t2 ⊢
   obtain ⟨u,b1,b2⟩:=e66 (D (a+V8 ((m.drop i).take 16++[1]))) (D r) (Pa _) (Pa _) (Nat.le_trans (Kz 18 _ hs) (by decide)) (Nat.le_trans (Kz 16 _ hr') (by decide))
   rw [Mq,Mq] at b2
   have t3:=b2.take
   rw [t2,hr,b1,Option.bind_some]
   obtain ⟨u1,u2⟩:=u
   dsimp only at t3 ⊢
   have hprod:(a+V8 ((m.drop i).take 16++[1]))*r<256^34:=by
    have:=Nat.mul_lt_mul'' hs hr'
    rw [←Nat.pow_add] at this;exact this
   have hstep:Jr r (k+1) a (m.drop i)=Jr r k (((a+V8 ((m.drop i).take 16++[1]))*r)%Bu) (m.drop (i+16)):=by
    rw [Jr,if_neg (by rw [List.isEmpty_iff];intro e;have:=congrArg List.length e;rw [List.length_drop,List.length_nil] at this;omega),List.drop_drop]
   have ih:=c66 m hm hl hr hr' k n (i+16) (((a+V8 ((m.drop i).take 16++[1]))*r)%Bu) (by omega) (by omega) (by omega) (Nat.mod_lt _ (by decide))
   rw [show (i:Int)+16=((i+16:Nat):Int) from rfl,hstep,←ih,t3]
   rcases j63 hprod with e|⟨x,y,e,e'⟩
   ·rw [e];rfl
   ·rw [e,Option.bind_some]
    dsimp only
    rw [e'];rfl
  ·rw [i0 (by simp<;>omega),List.drop_eq_nil_of_le (by omega),c65]
end Go.Eng
set_option linter.unusedVariables false
set_option linter.unusedSimpArgs false
namespace Go.Eng
set_option maxRecDepth 100000
set_option maxHeartbeats 1000000
theorem j26:∀ (i s:Nat),(D s).getD i 0=s/256^i%256
 |i,0=>by rw [Lm,Nat.zero_div];rfl
 |0,s+1=>by rw [b51 (by omega)];simp
 |i+1,s+1=>by
  rw [b51 (by omega),List.getD_cons_succ,j26 i,e63,Nat.mul_comm,Nat.div_div_eq_div_mul]
theorem c67 {x99:Nat} {x100:List Int} {s:Nat} (h:Is (x99,x100) s) (hx:x99≤1000):∀ (r n i:Nat),i+r=16->r<n ->
  As x99 x100 n (i:Int) (zl (j8 8 16 (s%2^(8*i))))=some (zl (j8 8 16 (s%2^128)))
 |_,0,_,_,h=>absurd h (Nat.not_lt_zero _)
 |0,n+1,i,h1,h2=>by
  have:i=16:=by omega
  subst this
  rw [As.eq_2,i0 (by decide)]
 |r+1,n+1,i,h1,h2=>by
  obtain ⟨m,e1,e2,e3,e4⟩:=h
  dsimp only at e1 e3 e4
  have h:=(⟨m,e1,e2,e3,e4⟩:Is (x99,x100) s)
  obtain ⟨s1,s2⟩:=Gl 8 8 (by decide) (by decide) 16 s (8*i) (by omega) (by omega)
  rw [show 8*i/8=i by omega,show 8*i%8=0 by omega,Nat.pow_zero] at s1 s2
  rw [show (j8 8 16 (s%2^(8*i))).getD i 0=0 by omega,Nat.zero_add,Nat.one_mul] at s2
  have hd:=j26 i s
  have hp:(256:Nat)^i=2^(8*i):=by rw [Nat.pow_mul]
  rw [hp] at hd
  have ih:=c67 h hx r n (i+1) (by omega) (by omega)
  rw [show 8*(i+1)=8*i+8 by omega] at ih
  rw [As.eq_2,j7 (by simp<;>omega)]
  by_cases hi:i<x99
  ·have hg:m.getD i 0=s/2^(8*i)%2^8:=by
    rw [←Ms m x99 i hi,e4,hd]
   rw [j7 (by simp<;>omega),if_pos ⟨by omega,by omega⟩,if_pos ⟨by omega,by omega⟩,m6,Int.toNat_natCast,e1,F9,hg,u8n,Nat.mod_eq_of_lt (a:=s/2^(8*i)%2^8) (Nat.mod_lt _ (by decide)),Jn,s2,q6 (by omega) (by omega)]
   rw [e1] at ih
   exact ih
  ·rw [i0 (by simp<;>omega)]
   have hlen:=congrArg List.length e4
   rw [List.length_take,Nat.min_eq_left e3] at hlen
   have hlt:=d30 (Pa s)
   rw [Mq,←hlen] at hlt
   have hle:(256:Nat)^x99≤256^i:=Nat.pow_le_pow_right (by decide) (by omega)
   have hle2:(2:Nat)^(8*i)≤2^128:=Nat.pow_le_pow_right (by decide) (by omega)
   rw [hp] at hle
   rw [Nat.mod_eq_of_lt (a:=s) (b:=2^(8*i)) (by omega),Nat.mod_eq_of_lt (a:=s) (b:=2^128) (by omega)]
def clN:List Nat->List Nat
 |[a0,a1,a2,a3,a4,a5,a6,a7,a8,a9,a10,a11,a12,a13,a14,a15]=>[a0,a1,a2,a3%16,a4/4*4,a5,a6,a7%16,a8/4*4,a9,a10,a11%16,a12/4*4,a13,a14,a15%16]
 |l=>l
theorem g28 {l:List Nat} (h:l.length=16):∃ a0 a1 a2 a3 a4 a5 a6 a7 a8 a9 a10 a11 a12 a13 a14 a15,l=[a0,a1,a2,a3,a4,a5,a6,a7,a8,a9,a10,a11,a12,a13,a14,a15]:=h69 h
theorem j64 (k0 k1 k2 k3 k4 k5 k6 k7 k8 k9 k10 k11 k12 k13 k14 k15 k16 k17 k18 k19 k20 k21 k22 k23 k24 k25 k26 k27 k28 k29 k30 k31:Int) :
  (R9 [k0,k1,k2,k3,k4,k5,k6,k7,k8,k9,k10,k11,k12,k13,k14,k15,k16,k17,k18,k19,k20,k21,k22,k23,k24,k25,k26,k27,k28,k29,k30,k31] f9 0 ([]++[k0,k1,k2,k3,k4,k5,k6,k7,k8,k9,k10,k11,k12,k13,k14,k15]))=some [k0,k1,k2,Int.tmod k3 16,k4,k5,k6,Int.tmod k7 16,k8,k9,k10,Int.tmod k11 16,k12,k13,k14,Int.tmod k15 16]:=by kernel_rfl
theorem i97 (k0 k1 k2 k3 k4 k5 k6 k7 k8 k9 k10 k11 k12 k13 k14 k15 k16 k17 k18 k19 k20 k21 k22 k23 k24 k25 k26 k27 k28 k29 k30 k31 a0 a1 a2 a3 a4 a5 a6 a7 a8 a9 a10 a11 a12 a13 a14 a15:Int) :
  (X0 [k0,k1,k2,k3,k4,k5,k6,k7,k8,k9,k10,k11,k12,k13,k14,k15,k16,k17,k18,k19,k20,k21,k22,k23,k24,k25,k26,k27,k28,k29,k30,k31] f9 0 [a0,a1,a2,a3,a4,a5,a6,a7,a8,a9,a10,a11,a12,a13,a14,a15])=some [a0,a1,a2,a3,IntKind.wrap .u8 (IntKind.wrap .u8 (Int.tdiv a4 4)*4),a5,a6,a7,IntKind.wrap .u8 (IntKind.wrap .u8 (Int.tdiv a8 4)*4),a9,a10,a11,IntKind.wrap .u8 (IntKind.wrap .u8 (Int.tdiv a12 4)*4),a13,a14,a15]:=by kernel_rfl
theorem cl4 {a:Nat} (h:a<256):IntKind.wrap .u8 (IntKind.wrap .u8 (Int.tdiv (a:Int) 4)*4)=((a/4*4:Nat):Int):=by
 rw [show Int.tdiv (a:Int) 4=((a/4:Nat):Int) from rfl,u8n,Nat.mod_eq_of_lt (by omega),show ((a/4:Nat):Int)*4=((a/4*4:Nat):Int) from rfl,u8n,Nat.mod_eq_of_lt (by omega)]
theorem i98 {k:List Nat} (hk:k.length=32) (kb:Jq k):(R9 (zl k) f9 0 ([]++(zl k).take 16)).bind (fun x=>X0 (zl k) f9 0 x)=some (zl (clN (k.take 16))):=by
 obtain ⟨k0,k1,k2,k3,k4,k5,k6,k7,k8,k9,k10,k11,k12,k13,k14,k15,k16,k17,k18,k19,k20,k21,k22,k23,k24,k25,k26,k27,k28,k29,k30,k31,rfl⟩:=Jk hk
 have h1:=j64 k0 k1 k2 k3 k4 k5 k6 k7 k8 k9 k10 k11 k12 k13 k14 k15 k16 k17 k18 k19 k20 k21 k22 k23 k24 k25 k26 k27 k28 k29 k30 k31
 have h2:=i97 k0 k1 k2 k3 k4 k5 k6 k7 k8 k9 k10 k11 k12 k13 k14 k15 k16 k17 k18 k19 k20 k21 k22 k23 k24 k25 k26 k27 k28 k29 k30 k31 k0 k1 k2 (Int.tmod k3 16) k4 k5 k6 (Int.tmod k7 16) k8 k9 k10 (Int.tmod k11 16) k12 k13 k14 (Int.tmod k15 16)
 rw [cl4 (kb k4 (by simp)),cl4 (kb k8 (by simp)),cl4 (kb k12 (by simp))] at h2
 show (R9 [(k0:Int),k1,k2,k3,k4,k5,k6,k7,k8,k9,k10,k11,k12,k13,k14,k15,k16,k17,k18,k19,k20,k21,k22,k23,k24,k25,k26,k27,k28,k29,k30,k31] f9 0 ([]++[(k0:Int),k1,k2,k3,k4,k5,k6,k7,k8,k9,k10,k11,k12,k13,k14,k15])).bind (fun x=>X0 [(k0:Int),k1,k2,k3,k4,k5,k6,k7,k8,k9,k10,k11,k12,k13,k14,k15,k16,k17,k18,k19,k20,k21,k22,k23,k24,k25,k26,k27,k28,k29,k30,k31] f9 0 x)=_
 rw [h1,Option.bind_some,h2]
 rfl
theorem g29 {k:List Nat} (hk:k.length=16) (kb:Jq k):Jq (clN k)/\(clN k).length=16:=by
 obtain ⟨k0,k1,k2,k3,k4,k5,k6,k7,k8,k9,k10,k11,k12,k13,k14,k15,rfl⟩:=g28 hk
 refine ⟨?_,rfl⟩
 have h3:=kb k3 (by simp)
 have h4:=kb k4 (by simp)
 have h7:=kb k7 (by simp)
 have h8:=kb k8 (by simp)
 have h11:=kb k11 (by simp)
 have h12:=kb k12 (by simp)
 have h15:=kb k15 (by simp)
 intro x hx
 simp only [clN,List.mem_cons,List.not_mem_nil,or_false] at hx
 rcases hx with rfl|rfl|rfl|rfl|rfl|rfl|rfl|rfl|rfl|rfl|rfl|rfl|rfl|rfl|rfl|rfl
 any_goals omega
 all_goals exact kb _ (by simp)
def i19 (k m:List Nat):List Nat:=j8 8 16 ((Jr (V8 (clN (k.take 16))) (m.length+1) 0 m+V8 (k.drop 16))%2^128)
theorem b52 (r:Nat):∀ (k a:Nat) (m:List Nat),a<Bu->Jr r k a m<Bu
 |0,a,m,h=>h
 |k+1,a,m,h=>by
  rw [Jr]
  split
  ·exact h
  ·exact b52 r k _ _ (Nat.mod_lt _ (by decide))
theorem i99 {k m:List Nat} (hk:k.length=32) (kb:Jq k) (hm:Jq m) (hl:m.length≤900000):Ng (zl k) (zl m)=some (zl (i19 k m)):=by
 have k16:(k.take 16).length=16:=by rw [List.length_take];omega
 have k16':(k.drop 16).length=16:=by rw [List.length_drop];omega
 have kd:Jq (k.take 16):=fun x hx=>kb x (List.mem_of_mem_take hx)
 have kd':Jq (k.drop 16):=fun x hx=>kb x (List.mem_of_mem_drop hx)
 obtain ⟨c1,c2⟩:=g29 k16 kd
 obtain ⟨p,n1,n2⟩:=Xr _ c1 (by omega)
 have t1:=n2.take
 have hr':V8 (clN (k.take 16))<256^16:=Nat.lt_of_lt_of_le (d30 c1) (Nat.pow_le_pow_right (by decide) (by omega))
 have c16:(256:Nat)^16=340282366920938463463374607431768211456:=by decide
 have hl3:=c66 m hm hl t1 hr' (m.length+1) f9 0 0 (by omega) (big _ (by omega)) (by omega) (by decide)
 rw [Lm,List.drop_zero] at hl3
 have ha:=b52 (V8 (clN (k.take 16))) (m.length+1) 0 m (by decide)
 unfold i19
 generalize Jr (V8 (clN (k.take 16))) (m.length+1) 0 m=A at *
 obtain ⟨q,s1,s2⟩:=Xr _ kd' (by omega)
 have t2:=s2.take
 have hS:V8 (k.drop 16)<256^16:=Nat.lt_of_lt_of_le (d30 kd') (Nat.pow_le_pow_right (by decide) (by omega))
 have c17:(256:Nat)^17=87112285931760246646623899502532662132736:=by decide
 simp only [Bu] at ha
 obtain ⟨u,a1,a2⟩:=d31 (D A) (D (V8 (k.drop 16))) (Pa _) (Pa _) (Nat.le_trans (Kz 17 _ (by rw [c17];omega)) (by decide)) (Nat.le_trans (Kz 16 _ hS) (by decide))
 rw [Mq,Mq] at a2
 have hu:u.1≤1000:=by
  obtain ⟨w,e1,e2,e3,e4⟩:=a2
  have:=congrArg List.length e4
  have h17:=Kz 17 (A+V8 (k.drop 16)) (by rw [c16] at hS;rw [c17];omega)
  rw [List.length_take,Nat.min_eq_left e3] at this
  omega
 have hcl:=i98 hk kb
 obtain ⟨x69,hx1,hx2⟩:∃ x,R9 (zl k) f9 0 ([]++(zl k).take 16)=some x/\X0 (zl k) f9 0 x=some (zl (clN (k.take 16))):=by
  cases h:R9 (zl k) f9 0 ([]++(zl k).take 16) with
  |none=>rw [h] at hcl;cases hcl
  |some x=>rw [h] at hcl;exact ⟨x,rfl,hcl⟩
 unfold Ng
 have hlen:(([]:List Int)++List.take 16 (zl k)).length=16:=by rw [List.nil_append,List.length_take,A1];omega
 rw [if_pos (by rw [List.length_take,A1];simp only [List.length_nil];omega),hx1,Option.bind_some,hx2,Option.bind_some,hlen,List.take_of_length_le (by rw [A1];omega),n1,Option.bind_some]
 obtain ⟨p1,p2⟩:=p
 dsimp only at hl3 ⊢
 rw [show ((0:Nat):Int)=0 from rfl,show zl []=([]:List Int) from rfl] at hl3
 rw [hl3,Option.bind_some,List.take_of_length_le (by rw [List.length_drop,A1];omega),←d14,s1,Option.bind_some]
 obtain ⟨q1,q2⟩:=q
 dsimp only at t2 ⊢
 rw [t2,a1,Option.bind_some]
 have l4:=c67 (x99:=u.1) (x100:=u.2) a2 hu 16 f9 0 (by omega) (big _ (by omega))
 rw [Nat.mul_zero,Nat.pow_zero,Nat.mod_one,Fl,Ob,show ((0:Nat):Int)=0 from rfl] at l4
 rw [l4];rfl
end Go.Eng
