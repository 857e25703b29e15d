/-
  Part of a proof: SgSa.
-/
import Derived.Test.YtaogeiahkekaoaaGreatDoorSgFa
set_option linter.unusedVariables false
set_option linter.unusedSimpArgs false
set_option linter.unusedVariables false
set_option linter.unusedSimpArgs false
namespace Go.Eng
set_option maxRecDepth 100000
set_option maxHeartbeats 1000000
theorem two8:(2:Nat)^8=256:=rfl
theorem p256 (n:Nat):(256:Nat)^(n+1)=256^n*256:=Nat.pow_succ ..
abbrev V8 (l:List Nat):Nat:=valN 8 l
def Dig (l:List Nat):Prop:=∀ x∈l,x<256
theorem V_take_succ:∀ (l:List Nat) (k:Nat),V8 (l.take (k+1))=V8 (l.take k)+256^k*l.getD k 0
 |[],k=>by simp [V8,valN]
 |x::xs,0=>by simp [V8,valN]
 |x::xs,k+1=>by
  have:=V_take_succ xs k
  simp only [V8,List.take_succ_cons,valN,List.getD_cons_succ,p256,two8] at this ⊢
  rw [this,Nat.mul_add,←Nat.mul_assoc,Nat.mul_comm (256^k) 256]
  omega
theorem V_drop (l:List Nat) (i:Nat) (h:i<l.length):V8 (l.drop i)=l.getD i 0+256*V8 (l.drop (i+1)):=by
 rw [List.drop_eq_getElem_cons h]
 simp only [V8,valN,List.getD,List.getElem?_eq_getElem h,Option.getD_some]
theorem V_set:∀ (l:List Nat) (j x:Nat),j<l.length->V8 (l.set j (l.getD j 0+x))=V8 l+256^j*x
 |[],j,x,h=>by simp at h
 |y::ys,0,x,h=>by simp [V8,valN];omega
 |y::ys,j+1,x,h=>by
  have:=V_set ys j x (by simpa using h)
  simp only [V8,List.getD_cons_succ,List.set_cons_succ,valN,p256,two8] at this ⊢
  rw [this,Nat.mul_add,←Nat.mul_assoc,Nat.mul_comm (256^j) 256]
  omega
theorem V_zeros (n:Nat):V8 (List.replicate n 0)=0:=by
 induction n with
 |zero=>rfl
 |succ n ih=>rw [List.replicate_succ];simp only [V8,valN] at ih ⊢;rw [ih]
theorem V_lt {l:List Nat} (h:Dig l):V8 l<256^l.length:=by
 have:=valN_lt 8 l h
 rw [Nat.pow_mul] at this;exact this
theorem big (n:Nat) (h:n<10000000):n<FUEL:=Nat.lt_trans h (by decide)
theorem pick_l (x y:Int) (h:0≤x/\x<18446744073709551616) (h':0≤y/\y<18446744073709551616) (b:Bool):words_Pick b x y=some (cond b x y):=by
 cases b with
 |true =>
  show some (bits .u64 .or (bits .u64 .and x 18446744073709551615) (bits .u64 .andNot y 18446744073709551615))=some x
  rw [and_max h.1 h.2,andNot_max,or_zero64 h.1 h.2]
 |false =>
  show some (bits .u64 .or (bits .u64 .and x 0) (bits .u64 .andNot y 0))=some y
  rw [and_zero64 h.1 h.2,andNot_zero64 h'.1 h'.2,zero_or64 h'.1 h'.2]
end Go.Eng
set_option linter.unusedVariables false
set_option linter.unusedSimpArgs false
namespace Go.Eng
set_option maxRecDepth 100000
set_option maxHeartbeats 1000000
abbrev LN:Nat:=7237005577332262213973186563042994240857116359379907606001950938285454250989
theorem mask32 {x:Nat} (h:x<18446744073709551616):bits .u64 .and (x:Int) 4294967295=((x%4294967296:Nat):Int):=by
 have:=bits_and64 (n:=x) (m:=4294967295) (by omega) (by omega)
 rw [show ((4294967295:Nat):Int)=4294967295 from rfl] at this
 rw [this,show (4294967295:Nat)=2^32-1 from rfl,Nat.and_two_pow_sub_one_eq_mod]
theorem two32:(2:Nat)^32=4294967296:=rfl
theorem fdivn32 (a:Nat):Int.fdiv (a:Int) (2^32)=((a/4294967296:Nat):Int):=fdivn a 32
def lw (x y o:Int):Int:=IntKind.wrap .u64 (IntKind.wrap .u64 (IntKind.wrap .u64 (x+4294967296)-y)-o)
def lpasz:Int->List Int->List Int->Int×List Int
 |o,x::xs,y::ys=>((lpasz (IntKind.wrap .u64 (1-Int.fdiv (lw x y o) (2^32))) xs ys).1,bits .u64 .and (lw x y o) 4294967295::(lpasz (IntKind.wrap .u64 (1-Int.fdiv (lw x y o) (2^32))) xs ys).2)
 |o,_,_=>(o,[])
def modW:List Int:=[1559614445,1477600026,2734136534,350157278,0,0,0,268435456]
theorem less_raw (a0 a1 a2 a3 a4 a5 a6 a7:Int):scalar_number_less [a0,a1,a2,a3,a4,a5,a6,a7]=some ((lpasz 0 [a0,a1,a2,a3,a4,a5,a6,a7] modW).2,(lpasz 0 [a0,a1,a2,a3,a4,a5,a6,a7] modW).1==1):=by kernel_rfl
theorem lw_eq {x y o:Nat} (hx:x<4294967296) (hy:y<4294967296) (ho:o≤1):lw x y o=((x+4294967296-y-o:Nat):Int):=by
 unfold lw
 rw [u64_id (n:=(x:Int)+4294967296) (by omega) (by omega),u64_id (n:=(x:Int)+4294967296-y) (by omega) (by omega),u64_id (by omega) (by omega)]
 omega
theorem lpasz_val:∀ (m k:List Nat) (o:Nat),m.length=k.length->(∀ x∈m,x<4294967296)->(∀ x∈k,x<4294967296)->o≤1 ->
  ∃ (b:Nat) (r:List Nat),lpasz (o:Int) (zl m) (zl k)=((b:Int),zl r)/\b≤1/\r.length=m.length/\(∀ x∈r,x<4294967296)/\valN 32 r+valN 32 k+o=valN 32 m+2^(32*m.length)*b
 |[],[],o,_,_,_,h=>⟨o,[],rfl,h,rfl,(fun x hx=>by cases hx),by simp [valN]⟩
 |x::m,y::k,o,hl,hm,hk,ho=>by
  have hx:=hm x (List.mem_cons_self ..)
  have hy:=hk y (List.mem_cons_self ..)
  have ev:=lw_eq hx hy ho
  have hv:x+4294967296-y-o<18446744073709551616:=by omega
  have eo:IntKind.wrap .u64 (1-Int.fdiv (lw x y o) (2^32))=((1-(x+4294967296-y-o)/4294967296:Nat):Int):=by
   rw [ev,fdivn32,u64_id (by omega) (by omega)];omega
  obtain ⟨b,r,h1,h2,h3,h4,h5⟩:=lpasz_val m k (1-(x+4294967296-y-o)/4294967296) (by simpa using hl) (fun z hz=>hm z (List.mem_cons_of_mem _ hz)) (fun z hz=>hk z (List.mem_cons_of_mem _ hz)) (by omega)
  refine ⟨b,(x+4294967296-y-o)%4294967296::r,?_,h2,by simp [h3],?_,?_⟩
  ·rw [zl_cons,zl_cons,lpasz,eo,h1,ev,mask32 hv];rfl
  ·intro z hz
   rcases List.mem_cons.1 hz with rfl|hz
   ·exact Nat.mod_lt _ (by decide)
   ·exact h4 z hz
  ·have hp:2^(32*(x::m).length)=4294967296*2^(32*m.length):=by rw [List.length_cons,Nat.mul_succ,Nat.pow_add,Nat.mul_comm]
   rw [hp,Nat.mul_assoc]
   simp only [valN,two32]
   generalize 2^(32*m.length)*b=tb at *
   omega
theorem LN_lt:LN<2^(32*8):=by decide
theorem modW_eq:modW=zl (limbsN 32 8 LN):=by decide
theorem l8n {l:List Nat} (h:l.length=8):∃ a0 a1 a2 a3 a4 a5 a6 a7,l=[a0,a1,a2,a3,a4,a5,a6,a7]:=by
 match l,h with
 |[a0,a1,a2,a3,a4,a5,a6,a7],_=>exact ⟨a0,a1,a2,a3,a4,a5,a6,a7,rfl⟩
theorem c256':(2:Nat)^(32*8)=115792089237316195423570985008687907853269984665640564039457584007913129639936:=by decide
theorem limbs_val {w n:Nat} {r:List Nat} (h:r.length=n) (hr:∀ x∈r,x<2^w):r=limbsN w n (valN w r):=by rw [←h,limbsN_val w r hr]
theorem less_is {X:Nat} (hX:X<2^256):∃ d,scalar_number_less (zl (limbsN 32 8 X))=some (zl (limbsN 32 8 d),decide (X<LN))/\(LN≤X->d=X-LN):=by
 obtain ⟨b,r,h1,h2,h3,h4,h5⟩:=lpasz_val (limbsN 32 8 X) (limbsN 32 8 LN) 0 (by rw [limbsN_len,limbsN_len]) (limbsN_lt 32 8 X) (limbsN_lt 32 8 LN) (by decide)
 rw [limbsN_len] at h3 h5
 rw [valN_limbs,valN_limbs,Nat.mod_eq_of_lt (a:=X) hX,Nat.mod_eq_of_lt (a:=LN) LN_lt,c256'] at h5
 have hr:=limbs_val (w:=32) h3 h4
 have hlt:=valN_lt 32 r h4
 rw [h3,c256'] at hlt
 refine ⟨valN 32 r,?_,fun hge => ?_⟩
 ·obtain ⟨a0,a1,a2,a3,a4,a5,a6,a7,e⟩:=l8n (limbsN_len 32 8 X)
  have hraw:=less_raw a0 a1 a2 a3 a4 a5 a6 a7
  rw [modW_eq] at hraw
  have e':zl (limbsN 32 8 X)=[(a0:Int),a1,a2,a3,a4,a5,a6,a7]:=by rw [e];rfl
  rw [←e'] at hraw
  have hb1:((b:Int)==1)=decide (X<LN):=by
   by_cases hlt:X<LN
   ·rw [decide_eq_true hlt,beq_iff_eq];simp only [LN] at *;omega
   ·rw [decide_eq_false hlt,beq_eq_false_iff_ne];simp only [LN] at *;omega
  rw [show ((0:Nat):Int)=0 from rfl] at h1
  rw [hraw,h1,←hr]
  simp only [hb1]
 ·have:b=0:=by
   have hb:=hX
   rw [show (2:Nat)^256=2^(32*8) from rfl,c256'] at hb
   simp only [LN] at *;omega
  subst this
  omega
theorem least_raw (b:Bool) (a0 a1 a2 a3 a4 a5 a6 a7 d0 d1 d2 d3 d4 d5 d6 d7:Int):scalar_number_least_l1 [d0,d1,d2,d3,d4,d5,d6,d7] b FUEL 0 [a0,a1,a2,a3,a4,a5,a6,a7]=(words_Pick b a0 d0).bind fun c0=>(words_Pick b a1 d1).bind fun c1=>(words_Pick b a2 d2).bind fun c2=>(words_Pick b a3 d3).bind fun c3=>(words_Pick b a4 d4).bind fun c4=>(words_Pick b a5 d5).bind fun c5=>(words_Pick b a6 d6).bind fun c6=>(words_Pick b a7 d7).bind fun c7=>some [c0,c1,c2,c3,c4,c5,c6,c7]:=by kernel_rfl
theorem pick_n (b:Bool) {x y:Nat} (hx:x<4294967296) (hy:y<4294967296):words_Pick b (x:Int) (y:Int)=some ((cond b x y:Nat):Int):=by
 rw [pick_l _ _ (by omega) (by omega)];cases b<;>rfl
theorem least_pick (b:Bool) {a d:List Nat} (ha:a.length=8) (hd:d.length=8) (la:∀ x∈a,x<4294967296) (ld:∀ x∈d,x<4294967296):scalar_number_least_l1 (zl d) b FUEL 0 (zl a)=some (zl (cond b a d)):=by
 obtain ⟨a0,a1,a2,a3,a4,a5,a6,a7,rfl⟩:=l8n ha
 obtain ⟨d0,d1,d2,d3,d4,d5,d6,d7,rfl⟩:=l8n hd
 have h:=least_raw b a0 a1 a2 a3 a4 a5 a6 a7 d0 d1 d2 d3 d4 d5 d6 d7
 rw [pick_n b (la a0 (by simp)) (ld d0 (by simp)),pick_n b (la a1 (by simp)) (ld d1 (by simp)),pick_n b (la a2 (by simp)) (ld d2 (by simp)),pick_n b (la a3 (by simp)) (ld d3 (by simp)),pick_n b (la a4 (by simp)) (ld d4 (by simp)),pick_n b (la a5 (by simp)) (ld d5 (by simp)),pick_n b (la a6 (by simp)) (ld d6 (by simp)),pick_n b (la a7 (by simp)) (ld d7 (by simp))] at h
 simp only [Option.bind_some] at h
 refine Eq.trans h ?_
 cases b<;>rfl
theorem least_is {X:Nat} (hX:X<2*LN):scalar_number_least (zl (limbsN 32 8 X))=some (zl (limbsN 32 8 (X%LN))):=by
 have hX2:X<2^256:=by rw [show (2:Nat)^256=2^(32*8) from rfl,c256'];simp only [LN] at hX;omega
 obtain ⟨d,h1,h2⟩:=less_is hX2
 unfold scalar_number_least
 rw [h1,Option.bind_some]
 dsimp only
 rw [least_pick _ (limbsN_len 32 8 X) (limbsN_len 32 8 d) (limbsN_lt 32 8 X) (limbsN_lt 32 8 d),Option.bind_some]
 by_cases hlt:X<LN
 ·rw [decide_eq_true hlt,cond_true,Nat.mod_eq_of_lt hlt]
 ·rw [decide_eq_false hlt,cond_false,h2 (by omega),Nat.mod_eq_sub_mod (by omega),Nat.mod_eq_of_lt (by omega)]
def gpasz:Int->List Int->List Int
 |_,[]=>[]
 |c,x::xs=>bits .u64 .and (bits .u64 .or (IntKind.wrap .u64 (x*2^1)) c) 4294967295::gpasz (Int.fdiv (bits .u64 .or (IntKind.wrap .u64 (x*2^1)) c) (2^32)) xs
theorem grown_raw (c a0 a1 a2 a3 a4 a5 a6 a7:Int):scalar_number_grown_l1 FUEL c 0 [a0,a1,a2,a3,a4,a5,a6,a7]=some (gpasz c [a0,a1,a2,a3,a4,a5,a6,a7]):=by kernel_rfl
theorem gpasz_val:∀ (m:List Nat) (c:Nat),(∀ x∈m,x<4294967296)->c≤1->gpasz (c:Int) (zl m)=zl (limbsN 32 m.length (2*valN 32 m+c))
 |[],_,_,_=>rfl
 |x::m,c,hm,hc=>by
  have hx:=hm x (List.mem_cons_self ..)
  have e:bits .u64 .or (IntKind.wrap .u64 ((x:Int)*2^1)) (c:Int)=((2*x+c:Nat):Int):=by
   rw [muln,u64n,Nat.mod_eq_of_lt (by omega),bits_or64 (by omega) (by omega),Nat.or_comm,or_add (by simp;omega)]
   congr 1;omega
  have ih:=gpasz_val m ((2*x+c)/4294967296) (fun z hz=>hm z (List.mem_cons_of_mem _ hz)) (by omega)
  rw [zl_cons,gpasz,e,fdivn32,ih,mask32 (by omega),List.length_cons,limbsN,zl_cons,valN,two32]
  have h1:(2*(x+4294967296*valN 32 m)+c)%4294967296=(2*x+c)%4294967296:=by omega
  have h2:(2*(x+4294967296*valN 32 m)+c)/4294967296=2*valN 32 m+(2*x+c)/4294967296:=by omega
  rw [h1,h2]
theorem grown_is {X b:Nat} (hX:X<LN) (hb:b≤1):scalar_number_grown (zl (limbsN 32 8 X)) (b:Int)=some (zl (limbsN 32 8 ((2*X+b)%LN))):=by
 have hg:=gpasz_val (limbsN 32 8 X) b (limbsN_lt 32 8 X) hb
 rw [limbsN_len,valN_limbs,Nat.mod_eq_of_lt (Nat.lt_trans hX LN_lt)] at hg
 obtain ⟨a0,a1,a2,a3,a4,a5,a6,a7,e⟩:=l8n (limbsN_len 32 8 X)
 have hraw:=grown_raw b a0 a1 a2 a3 a4 a5 a6 a7
 have e':zl (limbsN 32 8 X)=[(a0:Int),a1,a2,a3,a4,a5,a6,a7]:=by rw [e];rfl
 rw [←e',hg] at hraw
 unfold scalar_number_grown
 rw [hraw,Option.bind_some,least_is (by omega)];rfl
end Go.Eng
set_option linter.unusedVariables false
set_option linter.unusedSimpArgs false
namespace Go.Eng
set_option maxRecDepth 100000
set_option maxHeartbeats 1000000
theorem LN_pos:0<LN:=by decide
theorem mod_l1_is (L V:Nat) (hL:L≤64):∀ (i n:Nat),i<n->i≤8*L->scalar_mod_l1 (zl (limbsN 8 L V)) n ((i:Int)-1) (zl (limbsN 32 8 (V/2^i%LN)))=some (zl (limbsN 32 8 (V%LN)))
 |i,0,h,_=>absurd h (Nat.not_lt_zero _)
 |0,n+1,_,_=>by
  rw [scalar_mod_l1.eq_2,cond_ff (by decide),Nat.pow_zero,Nat.div_one]
 |i+1,n+1,h,h'=>by
  have e1:Int.tdiv (i:Int) 8=((i/8:Nat):Int):=rfl
  have e2:Int.tmod (i:Int) 8=((i%8:Nat):Int):=rfl
  have m1:min (i%8) (IntKind.bits .u8)=i%8:=by show min _ 8=_;omega
  have hb:(limbsN 8 L V).getD (i/8) 0<256:=getD_lt (limbsN_lt 8 L V) (by decide) _
  have hb':(limbsN 8 L V).getD (i/8) 0/2^(i%8)<256:=Nat.lt_of_le_of_lt (Nat.div_le_self _ _) hb
  have hbit:=limbsN_bit 8 (by decide) L V i (by omega)
  have hX:V/2^(i+1)%LN<LN:=Nat.mod_lt _ LN_pos
  have hstep:(2*(V/2^(i+1)%LN)+V/2^i%2)%LN=V/2^i%LN:=by
   have:V/2^i=2*(V/2^(i+1))+V/2^i%2:=by rw [Nat.pow_succ,←Nat.div_div_eq_div_mul];omega
   rw [Nat.add_mod,Nat.mul_mod_mod,←Nat.add_mod,←this]
  rw [scalar_mod_l1.eq_2,show ((i+1:Nat):Int)-1=(i:Int) by omega,cond_tt (by simp),e1,i64n (n:=i/8) (by omega),zl_len,limbsN_len,if_pos ⟨by omega,by omega⟩,nm_eq,e2,if_pos (by omega),nm_eq,Int.toNat_natCast,Int.toNat_natCast,zl_getD,m1,fdivn,and1_8 hb',hbit,u64n,Nat.mod_eq_of_lt (a:=V/2^i%2) (by omega),grown_is hX (by omega),Option.bind_some,hstep,wrap_i64 (by omega) (by omega)]
  exact mod_l1_is L V hL i n (by omega) (by omega)
theorem mod_is {L V:Nat} (hL:L≤64) (h0:0<L) (hV:V<2^(8*L)):scalar_mod (zl (limbsN 8 L V))=some (zl (limbsN 32 8 (V%LN))):=by
 obtain ⟨i,hi⟩:∃ i,8*L=i+1:=⟨8*L-1,by omega⟩
 have e0:IntKind.wrap .i64 (IntKind.wrap .i64 (8*(L:Int))-1)=(i:Int):=by
  rw [wrap_i64 (n:=8*(L:Int)) (by omega) (by omega),wrap_i64 (by omega) (by omega)];omega
 have h1:=mod_l1_is L V hL i FUEL (big _ (by omega)) (by omega)
 have e1:Int.tdiv (i:Int) 8=((i/8:Nat):Int):=rfl
 have e2:Int.tmod (i:Int) 8=((i%8:Nat):Int):=rfl
 have m1:min (i%8) (IntKind.bits .u8)=i%8:=by show min _ 8=_;omega
 have hb:(limbsN 8 L V).getD (i/8) 0<256:=getD_lt (limbsN_lt 8 L V) (by decide) _
 have hb':(limbsN 8 L V).getD (i/8) 0/2^(i%8)<256:=Nat.lt_of_le_of_lt (Nat.div_le_self _ _) hb
 have hbit:=limbsN_bit 8 (by decide) L V i (by omega)
 have hz:V/2^(i+1)=0:=Nat.div_eq_of_lt (by rw [←hi];exact hV)
 have hq:V/2^i=V/2^i%2:=by
  have:V/2^i=2*(V/2^(i+1))+V/2^i%2:=by rw [Nat.pow_succ,←Nat.div_div_eq_div_mul];omega
  omega
 have hg:=grown_is (X:=0) (b:=V/2^i%2) LN_pos (by omega)
 rw [Nat.mul_zero,Nat.zero_add,limbs_zero,zl_rep,←hq] at hg
 unfold scalar_mod
 rw [zl_len,limbsN_len,e0,nm_eq,cond_tt (by simp),e1,i64n (n:=i/8) (by omega),if_pos ⟨by omega,by omega⟩,nm_eq,e2,if_pos (by omega),nm_eq,Int.toNat_natCast,Int.toNat_natCast,zl_getD,m1,fdivn,and1_8 hb',hbit,←hq,u64n,Nat.mod_eq_of_lt (a:=V/2^i) (by omega)]
 rw [show ((0:Nat):Int)=0 from rfl] at hg
 rw [hg,Option.bind_some,wrap_i64 (by omega) (by omega)]
 exact h1
theorem bytes_l1_is (X:Nat):∀ (r n i:Nat),i+r=32->r<n->scalar_number_bytes_l1 (zl (limbsN 32 8 X)) n (i:Int) (zl (limbsN 8 32 (X%2^(8*i))))=some (zl (limbsN 8 32 (X%2^256)))
 |_,0,_,_,h=>absurd h (Nat.not_lt_zero _)
 |0,n+1,i,h,_=>by
  have:i=32:=by omega
  subst this
  rw [scalar_number_bytes_l1.eq_2,cond_ff (by decide)]
 |r+1,n+1,i,h,h'=>by
  have e1:Int.tdiv (i:Int) 4=((i/4:Nat):Int):=rfl
  have e3:Int.tmod (i:Int) 4=((i%4:Nat):Int):=rfl
  have e4:8*((i%4:Nat):Int)=((8*(i%4):Nat):Int):=by rw [Int.natCast_mul];rfl
  have m2:min (8*(i%4)) (IntKind.bits .u64)=8*(i%4):=by show min _ 64=_;omega
  have d1:8*i/32=i/4:=by omega
  have d2:8*i%32=8*(i%4):=by omega
  have d3:8*i/8=i:=by omega
  have d4:8*i%8=0:=by omega
  have hbit:=limbsN_bits 32 8 (by decide) 8 X (8*i) (by omega) (by omega)
  rw [d1,d2] at hbit
  obtain ⟨s1,s2⟩:=limbsN_setc 8 8 (by decide) (by decide) 32 X (8*i) (by omega) (by omega)
  rw [d3,d4,Nat.pow_zero] at s1 s2
  rw [show (limbsN 8 32 (X%2^(8*i))).getD i 0=0 by omega,Nat.zero_add,Nat.one_mul] at s2
  rw [scalar_number_bytes_l1.eq_2,cond_tt (by simp<;>omega),e1,i64n (n:=i/4) (by omega),if_pos ⟨by omega,by omega⟩,nm_eq,e3,e4,i64n (n:=8*(i%4)) (by omega),if_pos (by omega),nm_eq,if_pos ⟨by omega,by omega⟩,Int.toNat_natCast,Int.toNat_natCast,Int.toNat_natCast,zl_getD,m2,fdivn,u8n]
  rw [show (256:Nat)=2^8 from rfl,hbit,zl_set,s2,wrap_i64 (by omega) (by omega),show (i:Int)+1=((i+1:Nat):Int) from rfl]
  exact bytes_l1_is X r n (i+1) (by omega) (by omega)
theorem bytes_is {X:Nat} (hX:X<2^256):scalar_number_bytes (zl (limbsN 32 8 X))=some (zl (limbsN 8 32 X)):=by
 have h:=bytes_l1_is X 32 FUEL 0 (by omega) (big _ (by omega))
 rw [Nat.mul_zero,Nat.pow_zero,Nat.mod_one,limbs_zero,zl_rep,Nat.mod_eq_of_lt hX,show ((0:Nat):Int)=0 from rfl] at h
 unfold scalar_number_bytes
 rw [h];rfl
theorem mod256 (V:Nat):V%LN<2^256:=Nat.lt_trans (Nat.mod_lt _ LN_pos) LN_lt
theorem take_limbs (w n x:Nat):List.take n (zl (limbsN w n x))=zl (limbsN w n x):=List.take_of_length_le (by rw [zl_len,limbsN_len];exact Nat.le_refl _)
theorem Reduce_is {V:Nat} (hV:V<2^(8*64)):scalar_Reduce (zl (limbsN 8 64 V))=some (zl (limbsN 8 32 (V%LN))):=by
 unfold scalar_Reduce
 rw [take_limbs,mod_is (by decide) (by decide) hV,Option.bind_some,bytes_is (mod256 V)];rfl
theorem Right_is {V:Nat} (hV:V<2^256):scalar_Right (zl (limbsN 8 32 V))=some (decide (V<LN)):=by
 unfold scalar_Right
 rw [take_limbs,mod_is (by decide) (by decide) hV,Option.bind_some,bytes_is (mod256 V),Option.bind_some,take_limbs,Equal_is (zl_byt (limbsN_lt 8 32 _)) (zl_byt (limbsN_lt 8 32 _)) (by rw [zl_len,limbsN_len];decide),Option.bind_some]
 congr 1
 by_cases h:V<LN
 ·rw [decide_eq_true h,Nat.mod_eq_of_lt h];exact decide_eq_true rfl
 ·rw [decide_eq_false h]
  refine decide_eq_false fun e=>h ?_
  have:=limbs_inj (by have:=mod256 V;exact this) hV (zl_inj e)
  rw [←this];exact Nat.mod_lt _ LN_pos
def apasz:Int->List Int->List Int->List Int
 |c,x::xs,y::ys=>bits .u64 .and (IntKind.wrap .u64 (c+IntKind.wrap .u64 (x+y))) 4294967295::apasz (Int.fdiv (IntKind.wrap .u64 (c+IntKind.wrap .u64 (x+y))) (2^32)) xs ys
 |_,_,_=>[]
theorem add_raw (a0 a1 a2 a3 a4 a5 a6 a7 b0 b1 b2 b3 b4 b5 b6 b7:Int):scalar_Add_l1 [b0,b1,b2,b3,b4,b5,b6,b7] FUEL 0 0 [a0,a1,a2,a3,a4,a5,a6,a7]=some (apasz 0 [a0,a1,a2,a3,a4,a5,a6,a7] [b0,b1,b2,b3,b4,b5,b6,b7]):=by kernel_rfl
theorem apasz_val:∀ (a b:List Nat) (c:Nat),a.length=b.length->(∀ x∈a,x<4294967296)->(∀ x∈b,x<4294967296)->c≤1->apasz (c:Int) (zl a) (zl b)=zl (limbsN 32 a.length (valN 32 a+valN 32 b+c))
 |[],[],c,_,_,_,_=>rfl
 |x::xs,y::ys,c,h,hx,hy,hc=>by
  have h1:=hx x (List.mem_cons_self ..)
  have h2:=hy y (List.mem_cons_self ..)
  have e0:∀ x y:Nat,(x:Int)+(y:Int)=((x+y:Nat):Int):=fun _ _=>rfl
  have ih:=apasz_val xs ys ((c+(x+y))/4294967296) (by simpa using h) (fun z hz=>hx z (List.mem_cons_of_mem _ hz)) (fun z hz=>hy z (List.mem_cons_of_mem _ hz)) (by omega)
  rw [zl_cons,zl_cons,apasz,e0,u64n,Nat.mod_eq_of_lt (a:=x+y) (by omega),e0,u64n,Nat.mod_eq_of_lt (a:=c+(x+y)) (by omega),fdivn32,mask32 (by omega),ih,List.length_cons,limbsN,zl_cons]
  have eV:valN 32 (x::xs)+valN 32 (y::ys)+c=(c+(x+y))+4294967296*(valN 32 xs+valN 32 ys):=by simp only [valN,two32];omega
  rw [eV,two32,Nat.add_mul_mod_self_left,Nat.add_mul_div_left _ _ (by decide),Nat.add_comm ((c+(x+y))/4294967296)]
theorem Add_is {V W:Nat} (hV:V<2^256) (hW:W<2^256):scalar_Add (zl (limbsN 8 32 V)) (zl (limbsN 8 32 W))=some (zl (limbsN 8 32 ((V+W)%LN))):=by
 have ha:=apasz_val (limbsN 32 8 (V%LN)) (limbsN 32 8 (W%LN)) 0 (by rw [limbsN_len,limbsN_len]) (limbsN_lt 32 8 _) (limbsN_lt 32 8 _) (by decide)
 rw [limbsN_len,valN_limbs,valN_limbs,Nat.mod_eq_of_lt (a:=V%LN) (mod256 V),Nat.mod_eq_of_lt (a:=W%LN) (mod256 W),Nat.add_zero] at ha
 have hraw:scalar_Add_l1 (zl (limbsN 32 8 (W%LN))) FUEL 0 0 (zl (limbsN 32 8 (V%LN)))=some (apasz 0 (zl (limbsN 32 8 (V%LN))) (zl (limbsN 32 8 (W%LN)))):=by
  obtain ⟨a0,a1,a2,a3,a4,a5,a6,a7,e⟩:=l8n (limbsN_len 32 8 (V%LN))
  obtain ⟨b0,b1,b2,b3,b4,b5,b6,b7,e'⟩:=l8n (limbsN_len 32 8 (W%LN))
  rw [e,e']
  exact add_raw a0 a1 a2 a3 a4 a5 a6 a7 b0 b1 b2 b3 b4 b5 b6 b7
 rw [show ((0:Nat):Int)=0 from rfl] at ha
 have h1:V%LN<LN:=Nat.mod_lt _ LN_pos
 have h2:W%LN<LN:=Nat.mod_lt _ LN_pos
 unfold scalar_Add
 rw [take_limbs,take_limbs,mod_is (by decide) (by decide) hV,Option.bind_some,mod_is (by decide) (by decide) hW,Option.bind_some,hraw,ha,Option.bind_some,least_is (by omega),Option.bind_some,←Nat.add_mod,bytes_is (mod256 _)];rfl
end Go.Eng
set_option linter.unusedVariables false
set_option linter.unusedSimpArgs false
namespace Go.Eng
set_option maxRecDepth 100000
set_option maxHeartbeats 1000000
theorem V_set':∀ (l:List Nat) (j y:Nat),j<l.length->V8 (l.set j y)+256^j*l.getD j 0=V8 l+256^j*y
 |[],j,y,h=>by simp at h
 |x::xs,0,y,h=>by simp [V8,valN];omega
 |x::xs,j+1,y,h=>by
  have:=V_set' xs j y (by simpa using h)
  simp only [V8,List.getD_cons_succ,List.set_cons_succ,valN,two8] at this ⊢
  rw [p256,Nat.mul_comm (256^j),Nat.mul_assoc,Nat.mul_assoc]
  omega
theorem getD_set_ne {l:List Nat} {i j x:Nat} (h:i≠j):(l.set i x).getD j 0=l.getD j 0:=by
 simp only [List.getD];rw [List.getElem?_set_ne h]
theorem times_l2_is (a b:List Nat) (ha:Dig a) (hb:Dig b) (la:a.length=32) (lb:b.length=32) (i:Nat) (hi:i<32):∀ (r n k c:Nat) (p:List Nat),k+r=32->r<n->p.length=64->Dig p->c<65536 ->
  ∃ (c':Nat) (p':List Nat),scalar_Times_l2 (zl a) (zl b) (i:Int) n (c:Int) (k:Int) (zl p)=some ((c':Int),zl p')/\p'.length=64/\Dig p'/\c'<65536/\V8 p'+256^(i+32)*c'=V8 p+256^(i+k)*(c+a.getD i 0*V8 (b.drop k))/\∀ j,i+32≤j->p'.getD j 0=p.getD j 0
 |_,0,_,_,_,_,h,_,_,_=>absurd h (Nat.not_lt_zero _)
 |0,n+1,k,c,p,h,_,hp,hd,hc=>by
  have:k=32:=by omega
  subst this
  rw [scalar_Times_l2.eq_2,cond_ff (by decide)]
  refine ⟨c,p,rfl,hp,hd,hc,?_,fun _ _=>rfl⟩
  rw [List.drop_eq_nil_of_le (by omega)];simp [V8,valN]
 |r+1,n+1,k,c,p,h,h',hp,hd,hc=>by
  have ga:a.getD i 0<256:=getD_lt ha (by decide) i
  have gb:b.getD k 0<256:=getD_lt hb (by decide) k
  have gp:p.getD (i+k) 0<256:=getD_lt hd (by decide) _
  have hm:a.getD i 0*b.getD k 0≤255*255:=Nat.mul_le_mul (by omega) (by omega)
  have e0:∀ x y:Nat,(x:Int)+(y:Int)=((x+y:Nat):Int):=fun _ _=>rfl
  have e1:∀ x y:Nat,(x:Int)*(y:Int)=((x*y:Nat):Int):=fun _ _=>rfl
  obtain ⟨t,ht⟩:∃ t,t=c+(p.getD (i+k) 0+a.getD i 0*b.getD k 0):=⟨_,rfl⟩
  have eT:IntKind.wrap .u64 ((c:Int)+IntKind.wrap .u64 (IntKind.wrap .u64 ((p.getD (i+k) 0:Nat):Int)+IntKind.wrap .u64 (IntKind.wrap .u64 ((a.getD i 0:Nat):Int)*IntKind.wrap .u64 ((b.getD k 0:Nat):Int))))=(t:Int):=by
   rw [u64n (p.getD (i+k) 0),Nat.mod_eq_of_lt (a:=p.getD (i+k) 0) (by omega),u64n (a.getD i 0),Nat.mod_eq_of_lt (a:=a.getD i 0) (by omega),u64n (b.getD k 0),Nat.mod_eq_of_lt (a:=b.getD k 0) (by omega),e1,u64n,Nat.mod_eq_of_lt (a:=a.getD i 0*b.getD k 0) (by omega),e0,u64n,Nat.mod_eq_of_lt (a:=p.getD (i+k) 0+a.getD i 0*b.getD k 0) (by omega),e0,u64n,Nat.mod_eq_of_lt (by omega),ht]
  have hd1:Dig (p.set (i+k) (t%256)):=fun x hx=>by
   rcases List.mem_or_eq_of_mem_set hx with hx|rfl
   ·exact hd x hx
   ·exact Nat.mod_lt _ (by decide)
  obtain ⟨c',p',q1,q2,q3,q4,q5,q6⟩:=times_l2_is a b ha hb la lb i hi r n (k+1) (t/256) (p.set (i+k) (t%256)) (by omega) (by omega) (by rw [List.length_set];exact hp) hd1 (by omega)
  refine ⟨c',p',?_,q2,q3,q4,?_,fun j hj=>by rw [q6 j hj,getD_set_ne (by omega)]⟩
  ·rw [scalar_Times_l2.eq_2,cond_tt (by simp<;>omega),if_pos ⟨by omega,by omega⟩,e0 i k,i64n (n:=i+k) (by omega),if_pos ⟨by omega,by omega⟩,nm_eq,nm_eq,nm_eq,if_pos ⟨by omega,by omega⟩,nm_eq,Int.toNat_natCast,Int.toNat_natCast,Int.toNat_natCast,zl_getD,zl_getD,zl_getD,eT,u8n,zl_set,fdivn,two8,wrap_i64 (by omega) (by omega),show (k:Int)+1=((k+1:Nat):Int) from rfl,q1]
  ·have hs:=V_set' p (i+k) (t%256) (by omega)
   rw [q5,V_drop b k (by omega),show i+(k+1)=(i+k)+1 from rfl,p256]
   generalize V8 (b.drop (k+1))=W at *
   generalize (256:Nat)^(i+k)=T at *
   have e:T*(t%256)+T*(256*(t/256))=T*c+T*(p.getD (i+k) 0)+T*(a.getD i 0*b.getD k 0):=by
    rw [←Nat.mul_add,Nat.mod_add_div,ht,Nat.mul_add,Nat.mul_add,Nat.add_assoc]
   have e2:T*256*(t/256+a.getD i 0*W)=T*(256*(t/256))+T*(a.getD i 0*(256*W)):=by
    rw [Nat.mul_add,Nat.mul_assoc,Nat.mul_assoc,Nat.mul_left_comm 256]
   have e3:T*(c+a.getD i 0*(b.getD k 0+256*W))=T*c+T*(a.getD i 0*b.getD k 0)+T*(a.getD i 0*(256*W)):=by
    rw [Nat.mul_add,Nat.mul_add,Nat.mul_add,Nat.add_assoc]
   rw [e2,e3]
   omega
theorem ltm {T a b:Nat} (h:T*a<T*b):a<b:=Nat.not_le.1 fun hn=>absurd h (Nat.not_lt.2 (Nat.mul_le_mul_left T hn))
theorem times_l1_is (a b:List Nat) (ha:Dig a) (hb:Dig b) (la:a.length=32) (lb:b.length=32):∀ (r n i:Nat) (p:List Nat),i+r=32->r<n->p.length=64->Dig p->V8 p=V8 (a.take i)*V8 b->(∀ j,i+32≤j->p.getD j 0=0) ->
  ∃ p',scalar_Times_l1 (zl a) (zl b) n (i:Int) (zl p)=some (zl p')/\p'.length=64/\Dig p'/\V8 p'=V8 a*V8 b
 |_,0,_,_,_,h,_,_,_,_=>absurd h (Nat.not_lt_zero _)
 |0,n+1,i,p,h,_,hp,hd,hv,_=>by
  have:i=32:=by omega
  subst this
  rw [scalar_Times_l1.eq_2,cond_ff (by decide)]
  rw [List.take_of_length_le (by omega)] at hv
  exact ⟨p,rfl,hp,hd,hv⟩
 |r+1,n+1,i,p,h,h',hp,hd,hv,hz=>by
  obtain ⟨c',p',q1,q2,q3,q4,q5,q6⟩:=times_l2_is a b ha hb la lb i (by omega) 32 FUEL 0 0 p (by omega) (big _ (by omega)) hp hd (by decide)
  rw [show i+0=i from rfl,List.drop_zero,Nat.zero_add,hv] at q5
  have hb2:=V_lt hb
  rw [lb] at hb2
  have hat:Dig (a.take (i+1)):=fun x hx=>ha x (List.mem_of_mem_take hx)
  have ha2:=V_lt hat
  rw [List.length_take,Nat.min_eq_left (by omega)] at ha2
  have hsum:V8 p'+256^(i+32)*c'=V8 (a.take (i+1))*V8 b:=by
   rw [q5,V_take_succ,Nat.add_mul,Nat.mul_assoc]
  have hlt:V8 (a.take (i+1))*V8 b<256^(i+1+32):=by
   rw [Nat.pow_add];exact Nat.mul_lt_mul'' ha2 hb2
  have hc:c'<256:=by
   have hp2:(256:Nat)^(i+1+32)=256^(i+32)*256:=by rw [show i+1+32=(i+32)+1 by omega];exact Nat.pow_succ ..
   rw [hp2,←hsum] at hlt
   have h3:=Nat.lt_of_le_of_lt (Nat.le_add_left _ _) hlt
   exact ltm h3
  have hz':p'.getD (i+32) 0=0:=by rw [q6 (i+32) (by omega),hz (i+32) (by omega)]
  have hs:=V_set' p' (i+32) c' (by omega)
  rw [hz',Nat.mul_zero,Nat.add_zero,hsum] at hs
  have hd':Dig (p'.set (i+32) c'):=fun x hx=>by
   rcases List.mem_or_eq_of_mem_set hx with hx|rfl
   ·exact q3 x hx
   ·exact hc
  obtain ⟨p'',w1,w2,w3,w4⟩:=times_l1_is a b ha hb la lb r n (i+1) (p'.set (i+32) c') (by omega) (by omega) (by rw [List.length_set];exact q2) hd' hs (fun j hj=>by rw [getD_set_ne (by omega),q6 j (by omega),hz j (by omega)])
  refine ⟨p'',?_,w2,w3,w4⟩
  rw [show ((0:Nat):Int)=0 from rfl] at q1
  rw [scalar_Times_l1.eq_2,cond_tt (by simp<;>omega),if_pos ⟨by omega,by omega⟩,q1,Option.bind_some]
  dsimp only
  rw [wrap_i64 (n:=(i:Int)+32) (by omega) (by omega),if_pos ⟨by omega,by omega⟩,nm_eq,u8n,Nat.mod_eq_of_lt hc,show ((i:Int)+32).toNat=i+32 by omega,zl_set,wrap_i64 (by omega) (by omega),show (i:Int)+1=((i+1:Nat):Int) from rfl,w1]
theorem lt512 {V W:Nat} (hV:V<2^256) (hW:W<2^256):V*W<2^(8*64):=by
 have h:=Nat.mul_lt_mul'' hV hW
 rw [←Nat.pow_add,show 256+256=8*64 from rfl] at h
 exact h
theorem STimes_is {V W:Nat} (hV:V<2^256) (hW:W<2^256):scalar_Times (zl (limbsN 8 32 V)) (zl (limbsN 8 32 W))=some (zl (limbsN 8 32 (V*W%LN))):=by
 obtain ⟨p,h1,h2,h3,h4⟩:=times_l1_is (limbsN 8 32 V) (limbsN 8 32 W) (limbsN_lt 8 32 V) (limbsN_lt 8 32 W) (limbsN_len 8 32 V) (limbsN_len 8 32 W) 32 FUEL 0 (List.replicate 64 0) (by omega) (big _ (by omega)) (by simp) (fun x hx=>by rw [List.eq_of_mem_replicate hx];decide) (by rw [V_zeros,List.take_zero];simp [V8,valN]) (fun j _=>by simp only [List.getD];rw [List.getElem?_replicate];split<;>rfl)
 have e1:V8 (limbsN 8 32 V)=V:=by rw [show V8 (limbsN 8 32 V)=V%2^(8*32) from valN_limbs 8 32 V];exact Nat.mod_eq_of_lt hV
 have e2:V8 (limbsN 8 32 W)=W:=by rw [show V8 (limbsN 8 32 W)=W%2^(8*32) from valN_limbs 8 32 W];exact Nat.mod_eq_of_lt hW
 rw [e1,e2] at h4
 have hp:p=limbsN 8 64 (V*W):=by rw [←h4,←h2];exact (limbsN_val 8 p h3).symm
 rw [zl_rep,show ((0:Nat):Int)=0 from rfl] at h1
 unfold scalar_Times
 rw [h1,Option.bind_some,hp,Reduce_is (lt512 hV hW)];rfl
end Go.Eng
