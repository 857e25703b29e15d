/-
  Part of a proof: NTa.
-/
import Derived.KernelRfl
set_option linter.unusedVariables false
set_option linter.unusedSimpArgs false
namespace Go.Eng
def Pri (n:Nat):Prop:=1<n/\∀ m,m∣n->m=1\/m=n
theorem Pri.cop {p k:Nat} (h:Pri p) (hk:¬ p∣k):Nat.Coprime p k:=by
 rcases h.2 (Nat.gcd p k) (Nat.gcd_dvd_left p k) with e|e
 ·exact e
 ·exact absurd (e▸Nat.gcd_dvd_right p k) hk
theorem Pri.mul {p a b:Nat} (h:Pri p) (hd:p∣a*b):p∣a\/p∣b:=by
 by_cases ha:p∣a
 ·exact .inl ha
 ·exact .inr ((h.cop ha).dvd_of_dvd_mul_left hd)
theorem has_pri:∀ n,1<n->∃ p,Pri p/\p∣n:=by
 intro n
 induction n using Nat.strongRecOn with
 |_ n ih =>
  intro h
  by_cases hp:Pri n
  ·exact ⟨n,hp,Nat.dvd_refl n⟩
  ·have:¬ ∀ m,m∣n->m=1\/m=n:=fun hh=>hp ⟨h,hh⟩
   obtain ⟨m,hm⟩:=Classical.not_forall.1 this
   have hm':=Classical.not_imp.1 hm
   obtain ⟨hd,hne⟩:=hm'
   have h1:m≠1:=fun e=>hne (.inl e)
   have h2:m≠n:=fun e=>hne (.inr e)
   have h3:m≤n:=Nat.le_of_dvd (by omega) hd
   have h4:m≠0:=fun e=>by rw [e] at hd;have:=Nat.eq_zero_of_zero_dvd hd;omega
   obtain ⟨p,hp1,hp2⟩:=ih m (by omega) (by omega)
   exact ⟨p,hp1,Nat.dvd_trans hp2 hd⟩
theorem small_pri {n:Nat} (h:1<n) (hn:¬ Pri n):∃ p,Pri p/\p∣n/\p*p≤n:=by
 have:¬ ∀ m,m∣n->m=1\/m=n:=fun hh=>hn ⟨h,hh⟩
 obtain ⟨m,hm⟩:=Classical.not_forall.1 this
 obtain ⟨hd,hne⟩:=Classical.not_imp.1 hm
 have h1:m≠1:=fun e=>hne (.inl e)
 have h2:m≠n:=fun e=>hne (.inr e)
 obtain ⟨k,hk⟩:=hd
 have hm0:m≠0:=fun e=>by rw [e] at hk;omega
 have hk0:k≠0:=fun e=>by rw [e] at hk;omega
 have hk1:k≠1:=fun e=>by rw [e,Nat.mul_one] at hk;exact h2 hk.symm
 by_cases hle:m≤k
 ·obtain ⟨p,hp1,hp2⟩:=has_pri m (by omega)
  have:p≤m:=Nat.le_of_dvd (by omega) hp2
  exact ⟨p,hp1,hk▸Nat.dvd_trans hp2 (Nat.dvd_mul_right m k),hk▸Nat.mul_le_mul this (by omega)⟩
 ·obtain ⟨p,hp1,hp2⟩:=has_pri k (by omega)
  have:p≤k:=Nat.le_of_dvd (by omega) hp2
  exact ⟨p,hp1,hk▸Nat.dvd_trans hp2 (Nat.dvd_mul_left k m),hk▸Nat.mul_le_mul (by omega) this⟩
def bin:Nat->Nat->Nat
 |_,0=>1
 |0,_+1=>0
 |n+1,k+1=>bin n k+bin n (k+1)
theorem bin_zero:∀ n k,n<k->bin n k=0
 |0,k+1,_=>rfl
 |n+1,k+1,h=>by rw [bin,bin_zero n k (by omega),bin_zero n (k+1) (by omega)]
theorem bin_self:∀ n,bin n n=1
 |0=>rfl
 |n+1=>by rw [bin,bin_self n,bin_zero n (n+1) (by omega)]
theorem bin_k:∀ n k,(k+1)*bin (n+1) (k+1)=(n+1)*bin n k
 |0,0=>rfl
 |0,k+1=>by rw [bin_zero 1 (k+2) (by omega),bin_zero 0 (k+1) (by omega)];simp
 |n+1,0=>by
  have h:=bin_k n 0
  simp only [bin,Nat.zero_add,Nat.one_mul,Nat.mul_one] at h ⊢
  omega
 |n+1,k+1=>by
  have h1:=bin_k n k
  have h2:=bin_k n (k+1)
  have e1:bin (n+2) (k+2)=bin (n+1) (k+1)+bin (n+1) (k+2):=rfl
  have e2:bin (n+1) (k+1)=bin n k+bin n (k+1):=rfl
  have a1:(k+1+1)*bin (n+1) (k+1)=(n+1)*bin n k+bin (n+1) (k+1):=by rw [Nat.succ_mul,h1]
  show (k+1+1)*bin (n+2) (k+2)=(n+1+1)*bin (n+1) (k+1)
  rw [e1,Nat.mul_add,a1,h2,Nat.succ_mul (n+1),e2,Nat.mul_add]
  omega
def bsum (n a:Nat):Nat->Nat
 |0=>0
 |m+1=>bsum n a m+bin n m*a^m
theorem bsum_succ (n a:Nat):∀ m,bsum (n+1) a (m+1)=bsum n a (m+1)+a*bsum n a m
 |0=>by simp [bsum,bin]
 |m+1=>by
  have ih:=bsum_succ n a m
  have e:bsum (n+1) a (m+2)=bsum (n+1) a (m+1)+bin (n+1) (m+1)*a^(m+1):=rfl
  have e2:bsum n a (m+2)=bsum n a (m+1)+bin n (m+1)*a^(m+1):=rfl
  have e3:bsum n a (m+1)=bsum n a m+bin n m*a^m:=rfl
  have e4:bin (n+1) (m+1)=bin n m+bin n (m+1):=rfl
  rw [e,ih,e2,e4,Nat.add_mul,e3,Nat.mul_add a,Nat.pow_succ,Nat.mul_comm (a^m) a,Nat.mul_left_comm (bin n m) a]
  omega
theorem bsum_all:∀ n a,bsum n a (n+1)=(a+1)^n
 |0,a=>by simp [bsum,bin]
 |n+1,a=>by
  rw [bsum_succ,bsum_all n a]
  have:bsum n a (n+1+1)=bsum n a (n+1):=by
   show bsum n a (n+1)+bin n (n+1)*a^(n+1)=_
   rw [bin_zero n (n+1) (by omega)];simp
  rw [this,bsum_all n a,Nat.pow_succ,Nat.mul_add,Nat.mul_one,Nat.mul_comm a];omega
theorem bin_pri {p:Nat} (h:Pri p) {k:Nat} (h0:0<k) (h1:k<p):p∣bin p k:=by
 obtain ⟨n,rfl⟩:∃ n,p=n+1:=⟨p-1,by omega⟩
 obtain ⟨j,rfl⟩:∃ j,k=j+1:=⟨k-1,by omega⟩
 have:=bin_k n j
 rcases h.mul (a:=j+1) (b:=bin (n+1) (j+1)) (this▸Nat.dvd_mul_right _ _) with e|e
 ·have:=Nat.le_of_dvd (by omega) e;omega
 ·exact e
theorem bsum_pri {p:Nat} (h:Pri p) (a:Nat):∀ m,m+1≤p->bsum p a (m+1)%p=1%p
 |0,_=>by simp [bsum,bin]
 |m+1,hm=>by
  have ih:=bsum_pri h a m (by omega)
  obtain ⟨c,hc⟩:=bin_pri h (k:=m+1) (by omega) (by omega)
  show (bsum p a (m+1)+bin p (m+1)*a^(m+1))%p=_
  rw [hc,Nat.mul_assoc,Nat.add_mul_mod_self_left,ih]
theorem fermat {p:Nat} (h:Pri p):∀ a,a^p%p=a%p
 |0=>by rw [Nat.zero_pow (by have:=h.1;omega)]
 |a+1=>by
  obtain ⟨n,hn⟩:∃ n,p=n+1:=⟨p-1,by have:=h.1;omega⟩
  have e:(a+1)^p=bsum p a p+a^p:=by
   rw [←bsum_all p a]
   show bsum p a p+bin p p*a^p=_
   rw [bin_self,Nat.one_mul]
  have h1:=bsum_pri h a n (by omega)
  rw [←hn] at h1
  rw [e,Nat.add_mod,h1,fermat h a,←Nat.add_mod,Nat.add_comm]
theorem fermat1 {p a:Nat} (h:Pri p) (ha:¬ p∣a):a^(p-1)%p=1:=by
 obtain ⟨n,hn⟩:∃ n,p=n+1:=⟨p-1,by have:=h.1;omega⟩
 have hf:=fermat h a
 have hn1:p-1=n:=by omega
 rw [hn1]
 have hp:=h.1
 have hpos:0<a^n:=by
  rcases Nat.eq_zero_or_pos a with e|e
  ·exact absurd (e▸Nat.dvd_zero p) ha
  ·exact Nat.pow_pos e
 have hd:p∣a*(a^n-1):=by
  have e:a*(a^n-1)=a^p-a:=by rw [Nat.mul_sub,Nat.mul_one,←Nat.pow_succ',hn]
  rw [e]
  exact Nat.dvd_of_mod_eq_zero (Nat.sub_mod_eq_zero_of_mod_eq hf)
 rcases h.mul hd with e|e
 ·exact absurd e ha
 ·obtain ⟨c,hc⟩:=e
  have:a^n=1+p*c:=by omega
  rw [this,Nat.add_mul_mod_self_left,Nat.mod_eq_of_lt hp]
end Go.Eng
namespace Go.Eng
set_option maxRecDepth 100000
def powm (m:Nat):Nat->Nat->Nat->Nat
 |0,_,_=>1%m
 |k+1,a,e=>cond (Nat.beq (e%2) 0) (powm m k (a*a%m) (e/2)) (a*powm m k (a*a%m) (e/2)%m)
theorem powm_eq (m:Nat):∀ k a e,e<2^k->powm m k a e=a^e%m
 |0,a,e,h=>by
  have:e=0:=by simpa using h
  rw [this];rfl
 |k+1,a,e,h=>by
  have ih:=powm_eq m k (a*a%m) (e/2) (by rw [Nat.pow_succ] at h;omega)
  have e2:(a*a%m)^(e/2)%m=a^(2*(e/2))%m:=by rw [←Nat.pow_mod,Nat.pow_mul,Nat.pow_two]
  rw [e2] at ih
  cases hb:Nat.beq (e%2) 0 with
  |true =>
   have h0:e%2=0:=Nat.eq_of_beq_eq_true hb
   rw [powm,hb,cond_true,ih,show 2*(e/2)=e by omega]
  |false =>
   have h0:e%2≠0:=Nat.ne_of_beq_eq_false hb
   rw [powm,hb,cond_false,ih,Nat.mul_mod_mod,←Nat.pow_succ',show (2*(e/2)).succ=e by omega]
theorem pow_one_mul {r b m:Nat} (k:Nat) (hr:1<r) (h:b^m%r=1):b^(m*k)%r=1:=by
 rw [Nat.pow_mul,Nat.pow_mod,h,Nat.one_pow,Nat.mod_eq_of_lt hr]
theorem pow_gcd {r b:Nat} (hr:1<r) (m n:Nat) (h1:b^m%r=1) (h2:b^n%r=1):b^(Nat.gcd m n)%r=1:=by
 induction m,n using Nat.gcd.induction with
 |H0 n=>rw [Nat.gcd_zero_left];exact h2
 |H1 m n hm ih =>
  rw [Nat.gcd_rec]
  refine ih ?_ h1
  have e:b^n%r=b^(m*(n/m))*b^(n%m)%r:=by rw [←Nat.pow_add,Nat.div_add_mod]
  rw [e,Nat.mul_mod,pow_one_mul _ hr h1,Nat.one_mul,Nat.mod_mod] at h2
  exact h2
theorem ord_dvd {r q b:Nat} (hr:Pri r) (hq:Pri q) (h:b^q%r=1) (h1:b%r≠1):q∣r-1:=by
 have hr1:=hr.1
 refine Classical.byContradiction fun hn=>h1 ?_
 have hb:¬ r∣b:=fun ⟨c,hc⟩=>by
  have:b^q%r=0:=by
   obtain ⟨j,rfl⟩:∃ j,q=j+1:=⟨q-1,by have:=hq.1;omega⟩
   rw [hc,Nat.pow_succ,←Nat.mul_assoc,Nat.mul_right_comm,Nat.mul_mod_left]
  omega
 have:=pow_gcd hr1 q (r-1) h (fermat1 hr hb)
 rw [hq.cop hn,Nat.pow_one] at this
 exact this
def wit (n:Nat):Nat×Nat->Bool:=fun x=>Nat.beq (powm n 256 x.2 (n-1)) 1&&Nat.beq (Nat.gcd (powm n 256 x.2 ((n-1)/x.1)+(n-1)) n) 1&&Nat.beq ((n-1)%x.1) 0
def prod:List (Nat×Nat)->Nat
 |[]=>1
 |x::xs=>x.1*prod xs
theorem prod_dvd {x:Nat}:∀ l:List (Nat×Nat),(∀ y∈l,y.1∣x)->(∀ y∈l,Pri y.1)->(l.map Prod.fst).Nodup->prod l∣x/\∀ p,Pri p->p∣prod l->∃ y∈l,y.1=p
 |[],_,_,_=>⟨Nat.one_dvd x,fun p hp hd=>by have:=hp.1;have h2:p≤1:=Nat.le_of_dvd (by decide) hd;omega⟩
 |y::l,h,hp,hn=>by
  rw [List.map_cons,List.nodup_cons] at hn
  obtain ⟨i1,i2⟩:=prod_dvd l (fun z hz=>h z (List.mem_cons_of_mem _ hz)) (fun z hz=>hp z (List.mem_cons_of_mem _ hz)) hn.2
  have hy:=hp y (List.mem_cons_self ..)
  have hc:Nat.Coprime y.1 (prod l):=hy.cop fun hd=>by
   obtain ⟨z,hz,e⟩:=i2 y.1 hy hd
   exact hn.1 (e▸List.mem_map_of_mem hz)
  refine ⟨hc.mul_dvd_of_dvd_of_dvd (h y (List.mem_cons_self ..)) i1,fun p hpp hd => ?_⟩
  rcases hpp.mul hd with e|e
  ·rcases hy.2 p e with e|e
   ·have:=hpp.1;omega
   ·exact ⟨y,List.mem_cons_self ..,e.symm⟩
  ·obtain ⟨z,hz,e⟩:=i2 p hpp e
   exact ⟨z,List.mem_cons_of_mem _ hz,e⟩
theorem pock {n:Nat} (h1:1<n) (l:List (Nat×Nat)) (hn:n<2^256) (hp:∀ y∈l,Pri y.1) (hd:(l.map Prod.fst).Nodup) (hw:l.all (wit n)=true) (hF:n<prod l*prod l):Pri n:=by
 refine Classical.byContradiction fun hno => ?_
 obtain ⟨r,r1,r2,r3⟩:=small_pri h1 hno
 have hr:=r1.1
 have hdv:prod l∣r-1:=(prod_dvd l (fun y hy=>by
  have hw:=List.all_eq_true.1 hw y hy
  unfold wit at hw
  rw [Bool.and_eq_true,Bool.and_eq_true] at hw
  have w1:=Nat.eq_of_beq_eq_true hw.1.1
  have w2:=Nat.eq_of_beq_eq_true hw.1.2
  have w3:=Nat.eq_of_beq_eq_true hw.2
  rw [powm_eq n 256 y.2 (n-1) (by omega)] at w1
  rw [powm_eq n 256 y.2 _ (Nat.lt_of_le_of_lt (Nat.div_le_self _ _) (by omega))] at w2
  have hyd:(n-1)/y.1*y.1=n-1:=Nat.div_mul_cancel (Nat.dvd_of_mod_eq_zero w3)
  refine ord_dvd r1 (hp y hy) (b:=y.2^((n-1)/y.1)) ?_ ?_
  ·rw [←Nat.pow_mul,hyd,←Nat.mod_mod_of_dvd _ r2,w1,Nat.mod_eq_of_lt hr]
  ·intro he
   rw [←Nat.mod_mod_of_dvd _ r2] at he
   have:r∣Nat.gcd (y.2^((n-1)/y.1)%n+(n-1)) n:=by
    refine Nat.dvd_gcd (Nat.dvd_of_mod_eq_zero ?_) r2
    generalize y.2^((n-1)/y.1)%n=z at he
    clear hyd w1 w2 w3 hw
    obtain ⟨c,hc⟩:=r2
    have hc0:0<c:=Nat.pos_of_ne_zero fun e=>by rw [e] at hc;omega
    obtain ⟨d,rfl⟩:∃ d,c=d+1:=⟨c-1,by omega⟩
    have e1:n-1=(r-1)+r*d:=by rw [hc,Nat.mul_succ];omega
    rw [e1,←Nat.add_assoc,Nat.add_mul_mod_self_left,Nat.add_mod,he,Nat.mod_eq_of_lt (a:=r-1) (by omega),show 1+(r-1)=r by omega,Nat.mod_self]
   rw [w2] at this
   have:=Nat.le_of_dvd (by decide) this
   omega) hp hd).1
 have hle:=Nat.le_of_dvd (by omega) hdv
 have:prod l*prod l≤r*r:=Nat.mul_le_mul (by omega) (by omega)
 omega
def noDiv (n:Nat):Nat->Nat->Bool
 |0,_=>true
 |k+1,d => !(Nat.beq (n%d) 0)&&noDiv n k (d+1)
theorem noDiv_spec (n:Nat):∀ k d,noDiv n k d=true->∀ m,d≤m->m<d+k->¬ m∣n
 |0,d,_,m,h1,h2=>by omega
 |k+1,d,h,m,h1,h2=>by
  rw [noDiv,Bool.and_eq_true] at h
  by_cases e:m=d
  ·intro hd
   have:=Nat.mod_eq_zero_of_dvd hd
   rw [e] at this
   rw [this] at h
   exact absurd h.1 (by decide)
  ·exact noDiv_spec n k (d+1) h.2 m (by omega) (by omega)
theorem trial {n:Nat} (k:Nat) (h1:1<n) (h:noDiv n k 2=true) (hk:n<(k+2)*(k+2)):Pri n:=by
 refine Classical.byContradiction fun hno => ?_
 obtain ⟨r,r1,r2,r3⟩:=small_pri h1 hno
 have hr:=r1.1
 refine noDiv_spec n k 2 h r hr ?_ r2
 refine Classical.byContradiction fun hh => ?_
 have:(k+2)*(k+2)≤r*r:=Nat.mul_le_mul (by omega) (by omega)
 omega
theorem all1 {P:Nat×Nat->Prop} {a:Nat×Nat} (h:P a):∀ y∈[a],P y:=fun y hy=>by rw [List.mem_singleton.1 hy];exact h
theorem all2 {P:Nat×Nat->Prop} {a b:Nat×Nat} (h:P a) (h':P b):∀ y∈[a,b],P y:=fun y hy=>by
 rcases List.mem_cons.1 hy with rfl|hy
 ·exact h
 ·rw [List.mem_singleton.1 hy];exact h'
theorem pri_991:Pri 991:=trial 31 (by decide) (by kernel_rfl) (by decide)
theorem pri_103:Pri 103:=trial 10 (by decide) (by kernel_rfl) (by decide)
theorem pri_857413:Pri 8574133:=pock (by decide) [(991,2),(103,2)] (by decide) (all2 pri_991 pri_103) (by decide) (by kernel_rfl) (by decide)
theorem pri_127:Pri 127:=trial 11 (by decide) (by kernel_rfl) (by decide)
theorem pri_191951:Pri 1919519569386763:=pock (by decide) [(8574133,2),(127,2)] (by decide) (all2 pri_857413 pri_127) (by decide) (by kernel_rfl) (by decide)
theorem pri_419:Pri 419:=trial 20 (by decide) (by kernel_rfl) (by decide)
theorem pri_97:Pri 97:=trial 9 (by decide) (by kernel_rfl) (by decide)
theorem pri_569003:Pri 569003:=pock (by decide) [(419,2),(97,2)] (by decide) (all2 pri_419 pri_97) (by decide) (by kernel_rfl) (by decide)
theorem pri_277332:Pri 2773320623:=pock (by decide) [(569003,2)] (by decide) (all1 pri_569003) (by decide) (by kernel_rfl) (by decide)
theorem pri_721063:Pri 72106336199:=pock (by decide) [(2773320623,2)] (by decide) (all1 pri_277332) (by decide) (by kernel_rfl) (by decide)
theorem pri_754457:Pri 75445702479781427272750846543864801:=pock (by decide) [(1919519569386763,2),(72106336199,2)] (by decide) (all2 pri_191951 pri_721063) (by decide) (by kernel_rfl) (by decide)
theorem pri_1723:Pri 1723:=trial 41 (by decide) (by kernel_rfl) (by decide)
theorem pri_430751:Pri 430751:=pock (by decide) [(1723,2)] (by decide) (all1 pri_1723) (by decide) (by kernel_rfl) (by decide)
theorem pri_4153:Pri 4153:=trial 64 (by decide) (by kernel_rfl) (by decide)
theorem pri_317577:Pri 31757755568855353:=pock (by decide) [(430751,2),(4153,2)] (by decide) (all2 pri_430751 pri_4153) (by decide) (by kernel_rfl) (by decide)
theorem pri_740582:Pri 74058212732561358302231226437062788676166966415465897661863160754340907:=pock (by decide) [(75445702479781427272750846543864801,2),(31757755568855353,2)] (by decide) (all2 pri_754457 pri_317577) (by decide) (by kernel_rfl) (by decide)
theorem pri_578960:Pri 57896044618658097711785492504343953926634992332820282019728792003956564819949:=pock (by decide) [(74058212732561358302231226437062788676166966415465897661863160754340907,2)] (by decide) (all1 pri_740582) (by decide) (by kernel_rfl) (by decide)
end Go.Eng
namespace Go.Eng
abbrev PN:Nat:=57896044618658097711785492504343953926634992332820282019728792003956564819949
instance:NeZero PN:=⟨by decide⟩
abbrev FF:Type:=Fin PN
structure Fld (d i:FF):Prop where
 inv:∀ a:FF,a≠0->∃ b,a*b=1
 sq:i*i = -1
 nsq:∀ A B:FF,A*A=d*(B*B)->B=0
 two:(2:FF)≠0
section
variable {d i:FF}
theorem Fld.mul (F:Fld d i) {a b:FF} (ha:a≠0) (hb:b≠0):a*b≠0:=fun h=>by
 obtain ⟨c,hc⟩:=F.inv a ha
 apply hb
 grobner
theorem Fld.cases (F:Fld d i) {a b:FF} (h:a*b=0):a=0\/b=0 :=
 Classical.byContradiction fun hn=>F.mul (fun e=>hn (.inl e)) (fun e=>hn (.inr e)) h
def On (d x y z:FF):Prop:=z*z*(y*y-x*x)=z*z*(z*z)+d*(x*x)*(y*y)
theorem compl1 (F:Fld d i) {x1 y1 z1 x2 y2 z2 s e:FF} (h1:On d x1 y1 z1) (h2:On d x2 y2 z2) (n2:z2≠0) (hs:s*s=1) (he:e*e=1)
  (h:d*(x1*x2)*(y1*y2)=e*(z1*z2*(z1*z2))):(z1*z2)*(y1+s*(i*x1))*((z1*z2)*(y1+s*(i*x1)))=d*((x1*y1*(y2+s*e*(i*x2)))*(x1*y1*(y2+s*e*(i*x2)))):=by
 have hi:=F.sq
 unfold On at h1 h2
 have k:z2*z2*(d*(x1*x1)*(y1*y1)*(y2*y2-x2*x2))=z2*z2*((z1*z2)*(z1*z2)*(y1*y1-x1*x1)):=by
  have:d*(x1*x1)*(y1*y1)*(z2*z2*(y2*y2-x2*x2))=d*(x1*x1)*(y1*y1)*(z2*z2*(z2*z2))+(d*(x1*x2)*(y1*y2))*(d*(x1*x2)*(y1*y2)):=by rw [h2];grobner
  rw [h] at this
  grobner
 have k2:d*(x1*x1)*(y1*y1)*(y2*y2-x2*x2)=(z1*z2)*(z1*z2)*(y1*y1-x1*x1):=by
  obtain ⟨c,hc⟩:=F.inv (z2*z2) (F.mul n2 n2)
  grobner
 have e1:z1*z2*(z1*z2)=e*(d*(x1*x2)*(y1*y2)):=by rw [h];grobner
 grobner
theorem compl2 (F:Fld d i) {x1 y1 z1 x2 y2 z2 e:FF} (h1:On d x1 y1 z1) (h2:On d x2 y2 z2) (n1:z1≠0) (n2:z2≠0) (he:e*e=1):d*(x1*x2)*(y1*y2)≠e*(z1*z2*(z1*z2)):=fun h=>by
 have hi:=F.sq
 have a:=F.nsq _ _ (compl1 F (s:=1) h1 h2 n2 (by grobner) he h)
 have b:=F.nsq _ _ (compl1 F (s := -1) h1 h2 n2 (by grobner) he h)
 have hxy:x1*y1≠0:=fun h0=>by
  have:e*(z1*z2*(z1*z2))=0:=by rw [←h];grobner
  have:z1*z2*(z1*z2)=0:=by grobner
  exact F.mul (F.mul n1 n2) (F.mul n1 n2) this
 have a':y2+1*e*(i*x2)=0:=(F.cases a).resolve_left hxy
 have b':y2 + -1*e*(i*x2)=0:=(F.cases b).resolve_left hxy
 have hy:y2=0:=by
  have:(2:FF)*y2=0:=by grobner
  exact (F.cases this).resolve_left F.two
 have hx:x2=0:=by grobner
 unfold On at h2
 have:z2*z2*(z2*z2)=0:=by grobner
 exact F.mul (F.mul n2 n2) (F.mul n2 n2) this
theorem more_ne (F:Fld d i) {x1 y1 z1 x2 y2 z2:FF} (h1:On d x1 y1 z1) (h2:On d x2 y2 z2) (n1:z1≠0) (n2:z2≠0):z1*z2*(z1*z2)+d*(x1*x2*(y1*y2))≠0:=fun h =>
 compl2 F h1 h2 n1 n2 (e := -1) (by grobner) (by grobner)
theorem less_ne (F:Fld d i) {x1 y1 z1 x2 y2 z2:FF} (h1:On d x1 y1 z1) (h2:On d x2 y2 z2) (n1:z1≠0) (n2:z2≠0):z1*z2*(z1*z2)-d*(x1*x2*(y1*y2))≠0:=fun h =>
 compl2 F h1 h2 n1 n2 (e:=1) (by grobner) (by grobner)
end
end Go.Eng
namespace Go.Eng
section
variable {d i:FF} {nv:FF->FF}
def OnA (d x y:FF):Prop:=y*y-x*x=1+d*(x*x)*(y*y)
theorem OnA.on {x y:FF} (h:OnA d x y):On d x y 1:=by unfold OnA at h;unfold On;grobner
theorem more_neA (F:Fld d i) {x1 y1 x2 y2:FF} (h1:OnA d x1 y1) (h2:OnA d x2 y2):1+d*(x1*x2*(y1*y2))≠0:=fun h=>by
 have n1:(1:FF)≠0:=fun e=>F.two (by grobner)
 exact more_ne F h1.on h2.on n1 n1 (by grobner)
theorem less_neA (F:Fld d i) {x1 y1 x2 y2:FF} (h1:OnA d x1 y1) (h2:OnA d x2 y2):1-d*(x1*x2*(y1*y2))≠0:=fun h=>by
 have n1:(1:FF)≠0:=fun e=>F.two (by grobner)
 exact less_ne F h1.on h2.on n1 n1 (by grobner)
def sx (d:FF) (nv:FF->FF) (x1 y1 x2 y2:FF):FF:=(x1*y2+x2*y1)*nv (1+d*(x1*x2*(y1*y2)))
def sy (d:FF) (nv:FF->FF) (x1 y1 x2 y2:FF):FF:=(y1*y2+x1*x2)*nv (1-d*(x1*x2*(y1*y2)))
theorem OnA_sum (F:Fld d i) (N:∀ a:FF,a≠0->a*nv a=1) {x1 y1 x2 y2:FF} (h1:OnA d x1 y1) (h2:OnA d x2 y2):OnA d (sx d nv x1 y1 x2 y2) (sy d nv x1 y1 x2 y2):=by
 have hm:=N _ (more_neA F h1 h2)
 have hl:=N _ (less_neA F h1 h2)
 have key:(y1*y2+x1*x2)*(y1*y2+x1*x2)*((1+d*(x1*x2*(y1*y2)))*(1+d*(x1*x2*(y1*y2))))-(x1*y2+x2*y1)*(x1*y2+x2*y1)*((1-d*(x1*x2*(y1*y2)))*(1-d*(x1*x2*(y1*y2))))
   = (1+d*(x1*x2*(y1*y2)))*(1+d*(x1*x2*(y1*y2)))*((1-d*(x1*x2*(y1*y2)))*(1-d*(x1*x2*(y1*y2))))+d*((x1*y2+x2*y1)*(x1*y2+x2*y1))*((y1*y2+x1*x2)*(y1*y2+x1*x2)):=by
  unfold OnA at h1 h2
  grobner
 unfold OnA sx sy
 clear h1 h2
 generalize 1+d*(x1*x2*(y1*y2))=A at *
 generalize 1-d*(x1*x2*(y1*y2))=B at *
 generalize x1*y2+x2*y1=c at *
 generalize y1*y2+x1*x2=m at *
 generalize nv A=a at *
 generalize nv B=b at *
 grobner
structure Pt (d:FF) where
 x:FF
 y:FF
 on:OnA d x y
theorem Pt.ext' {p q:Pt d} (h:p.x=q.x) (h':p.y=q.y):p=q:=by
 obtain ⟨x,y,o⟩:=p
 obtain ⟨x',y',o'⟩:=q
 simp only at h h'
 subst h h'
 rfl
structure Env4 (d i:FF) (nv:FF->FF):Prop where
 F:Fld d i
 N:∀ a:FF,a≠0->a*nv a=1
def Pt.add (E:Env4 d i nv) (p q:Pt d):Pt d:=⟨sx d nv p.x p.y q.x q.y,sy d nv p.x p.y q.x q.y,OnA_sum E.F E.N p.on q.on⟩
def Pt.zero:Pt d:=⟨0,1,by unfold OnA;grobner⟩
def Pt.neg (p:Pt d):Pt d:=⟨-p.x,p.y,by have:=p.on;unfold OnA at *;grobner⟩
theorem Pt.add_comm (E:Env4 d i nv) (p q:Pt d):p.add E q=q.add E p:=by
 apply Pt.ext'
 ·show sx d nv p.x p.y q.x q.y=sx d nv q.x q.y p.x p.y
  unfold sx
  rw [show p.x*q.x*(p.y*q.y)=q.x*p.x*(q.y*p.y) by grobner,show p.x*q.y+q.x*p.y=q.x*p.y+p.x*q.y by grobner]
 ·show sy d nv p.x p.y q.x q.y=sy d nv q.x q.y p.x p.y
  unfold sy
  rw [show p.x*q.x*(p.y*q.y)=q.x*p.x*(q.y*p.y) by grobner,show p.y*q.y+p.x*q.x=q.y*p.y+q.x*p.x by grobner]
theorem nv_one (E:Env4 d i nv):nv 1=1:=by
 have:=E.N 1 (fun e=>E.F.two (by grobner))
 grobner
theorem Pt.zero_add (E:Env4 d i nv) (p:Pt d):Pt.zero.add E p=p:=by
 have h1:=nv_one E
 apply Pt.ext'
 ·show sx d nv 0 1 p.x p.y=p.x
  unfold sx
  rw [show 1+d*(0*p.x*(1*p.y))=1 by grobner,h1];grobner
 ·show sy d nv 0 1 p.x p.y=p.y
  unfold sy
  rw [show 1-d*(0*p.x*(1*p.y))=1 by grobner,h1];grobner
theorem Pt.add_zero (E:Env4 d i nv) (p:Pt d):p.add E Pt.zero=p:=by rw [Pt.add_comm,Pt.zero_add]
theorem Pt.add_neg (E:Env4 d i nv) (p:Pt d):p.add E p.neg=Pt.zero:=by
 have ho:=p.on
 have hl:=E.N _ (less_neA E.F p.on p.neg.on)
 apply Pt.ext'
 ·show sx d nv p.x p.y (-p.x) p.y=0
  unfold sx
  grobner
 ·show sy d nv p.x p.y (-p.x) p.y=1
  replace hl:(1-d*(p.x * -p.x*(p.y*p.y)))*nv (1-d*(p.x * -p.x*(p.y*p.y)))=1:=hl
  unfold sy
  unfold OnA at ho
  have:p.y*p.y+p.x * -p.x=1-d*(p.x * -p.x*(p.y*p.y)):=by grobner
  rw [this,hl]
theorem assoc_x {x1 y1 x2 y2 x3 y3 c m e c' m' e':FF} (h1:OnA d x1 y1) (h2:OnA d x2 y2) (h3:OnA d x3 y3)
  (hc:c=x1*y2+x2*y1) (hm:m=y1*y2+x1*x2) (he:e=d*(x1*x2*(y1*y2)))
  (hc':c'=x2*y3+x3*y2) (hm':m'=y2*y3+x2*x3) (he':e'=d*(x2*x3*(y2*y3))) :
  (c*(1-e)*y3+x3*m*(1+e))*((1+e')*(1-e')+d*c'*m'*x1*y1)=(x1*m'*(1+e')+c'*(1-e')*y1)*((1+e)*(1-e)+d*c*m*x3*y3):=by
 unfold OnA at h1 h2 h3
 subst hc hm he hc' hm' he'
 grobner (ringSteps:=10000000)
theorem assoc_y {x1 y1 x2 y2 x3 y3 c m e c' m' e':FF} (h1:OnA d x1 y1) (h2:OnA d x2 y2) (h3:OnA d x3 y3)
  (hc:c=x1*y2+x2*y1) (hm:m=y1*y2+x1*x2) (he:e=d*(x1*x2*(y1*y2)))
  (hc':c'=x2*y3+x3*y2) (hm':m'=y2*y3+x2*x3) (he':e'=d*(x2*x3*(y2*y3))) :
  (m*(1+e)*y3+c*(1-e)*x3)*((1+e')*(1-e')-d*c'*m'*x1*y1)=(y1*m'*(1+e')+x1*c'*(1-e'))*((1+e)*(1-e)-d*c*m*x3*y3):=by
 unfold OnA at h1 h2 h3
 subst hc hm he hc' hm' he'
 grobner (ringSteps:=10000000)
end
end Go.Eng
