/-
  Part of a proof: SgFa.
-/
import Derived.Test.YtaogeiahkekaoaaGreatDoorKemRa
import Derived.Test.YtaogeiahkekaoaaGreatDoorNTb
set_option linter.unusedVariables false
set_option linter.unusedSimpArgs false
set_option linter.unusedVariables false
set_option linter.unusedSimpArgs false
namespace Go.Eng
open Go.Proofs
set_option maxRecDepth 100000
set_option maxHeartbeats 1000000
theorem wrap_u8 (n:Int):IntKind.u8.wrap n=n%256:=by simp [IntKind.wrap,IntKind.bits,IntKind.signed]
def byt (l:List Int):Prop:=∀ y,y∈l->0≤y/\y<256
def xr (x y:Int):Int:=bits .u8 .xor x y
theorem xr_byt (x y:Int):0≤xr x y/\xr x y<256:=by
 unfold xr bits
 simp only [wrap_u8]
 omega
theorem xr_xr {x:Int} (y:Int) (h:0≤x/\x<256):xr (xr x y) y=x:=by
 unfold xr bits
 simp only [wrap_u8]
 have h8:IntKind.u8.bits=8:=rfl
 rw [h8]
 generalize hA:BitVec.ofInt 8 x=A
 generalize hK:BitVec.ofInt 8 y=K
 have hx:x=(A.toNat:Int):=by
  rw [←hA,BitVec.toNat_ofInt]
  omega
 have e1:(((A^^^K).toNat:Nat):Int)%256=((A^^^K).toNat:Int):=by
  have:=(A^^^K).isLt;omega
 rw [e1]
 have e2:BitVec.ofInt 8 ((A^^^K).toNat:Int)=A^^^K:=by
  rw [BitVec.ofInt_natCast,BitVec.ofNat_toNat,BitVec.setWidth_eq]
 rw [e2,BitVec.xor_assoc,BitVec.xor_self,BitVec.xor_zero,hx]
 have:=A.isLt;omega
theorem xr_zero {x y:Int} (hx:0≤x/\x<256) (hy:0≤y/\y<256):xr x y=0↔x=y:=by
 constructor
 ·intro h
  have h1:=xr_xr (x:=y) x hy
  have h2:xr y x=xr x y:=by unfold xr bits;simp only [BitVec.xor_comm]
  rw [h2,h] at h1
  have h3:=xr_xr (x:=x) x hx
  have h4:xr x x=0:=by unfold xr bits;simp only [BitVec.xor_self];rfl
  rw [h4] at h3
  omega
 ·rintro rfl
  unfold xr bits;simp only [BitVec.xor_self];rfl
def or8 (x y:Int):Int:=bits .u8 .or x y
theorem or8_byt (x y:Int):0≤or8 x y/\or8 x y<256:=by
 unfold or8 bits;simp only [wrap_u8];omega
theorem or8_zero {x y:Int} (hx:0≤x/\x<256) (hy:0≤y/\y<256):or8 x y=0↔x=0/\y=0:=by
 obtain ⟨a,rfl⟩:=Int.eq_ofNat_of_zero_le hx.1
 obtain ⟨b,rfl⟩:=Int.eq_ofNat_of_zero_le hy.1
 have ha:a<256:=by omega
 have hb:b<256:=by omega
 unfold or8 bits
 simp only [wrap_u8]
 have h8:IntKind.u8.bits=8:=rfl
 rw [h8,BitVec.ofInt_natCast,BitVec.ofInt_natCast,BitVec.toNat_or,BitVec.toNat_ofNat,BitVec.toNat_ofNat,Nat.mod_eq_of_lt (by omega),Nat.mod_eq_of_lt (by omega)]
 have hlt:a|||b<2^8:=Nat.or_lt_two_pow ha hb
 constructor
 ·intro h
  have h0:a|||b=0:=by omega
  have:=Nat.or_eq_zero_iff.1 h0
  omega
 ·rintro ⟨h1,h2⟩
  have h1:a=0:=by omega
  have h2:b=0:=by omega
  subst h1;subst h2;rfl
theorem Equal_l1 {a b:List Int} (ha:byt a) (hb:byt b) (hl:a.length=b.length) (hle:a.length≤1000000):∀ (n i:Nat) (c:Int),i≤a.length->a.length<i+n->(0≤c/\c<256) ->
  ∃ r,words_Equal_l1 a b n c (i:Int)=some r/\(r=0↔c=0/\a.drop i=b.drop i)
 |0,i,c,h1,h2,hc=>by omega
 |n+1,i,c,h1,h2,hc=>by
  rw [words_Equal_l1.eq_2]
  by_cases hlt:i<a.length
  ·rw [cond_tt (by simp<;>omega),if_pos ⟨by omega,by omega⟩,if_pos ⟨by omega,by omega⟩,nm_eq,wrap_i64 (by omega) (by omega)]
   have e1:a.drop i=a.getD i 0::a.drop (i+1):=by
    rw [List.drop_eq_getElem_cons hlt];simp [List.getD,List.getElem?_eq_getElem hlt]
   have e2:b.drop i=b.getD i 0::b.drop (i+1):=by
    rw [List.drop_eq_getElem_cons (by omega)];simp [List.getD,List.getElem?_eq_getElem (show i<b.length by omega)]
   have hai:0≤a.getD i 0/\a.getD i 0<256:=ha _ (by simp [List.getD,List.getElem?_eq_getElem hlt])
   have hbi:0≤b.getD i 0/\b.getD i 0<256:=hb _ (by simp [List.getD,List.getElem?_eq_getElem (show i<b.length by omega)])
   obtain ⟨r,hr,hz⟩:=Equal_l1 ha hb hl hle n (i+1) (or8 c (xr (a.getD i 0) (b.getD i 0))) (by omega) (by omega) (or8_byt _ _)
   refine ⟨r,hr,hz.trans ?_⟩
   rw [or8_zero hc (xr_byt _ _),xr_zero hai hbi,e1,e2]
   constructor
   ·rintro ⟨⟨h1,h2⟩,h3⟩;exact ⟨h1,by rw [h2,h3]⟩
   ·rintro ⟨h1,h2⟩;injection h2 with h2 h3;exact ⟨⟨h1,h2⟩,h3⟩
  ·rw [cond_ff (by simp<;>omega)]
   refine ⟨c,rfl,?_⟩
   rw [List.drop_eq_nil_of_le (by omega),List.drop_eq_nil_of_le (by omega)]
   simp
theorem Equal_is {a b:List Int} (ha:byt a) (hb:byt b) (hle:a.length≤1000000):words_Equal a b=some (decide (a=b)):=by
 unfold words_Equal
 by_cases hl:a.length=b.length
 ·rw [cond_ff (by simp [hl])]
  obtain ⟨f,e,hf⟩:=FUEL_pos 1000001 (by decide)
  obtain ⟨r,hr,hz⟩:=Equal_l1 ha hb hl hle FUEL 0 0 (by omega) (by rw [e];omega) (by omega)
  rw [show ((0:Nat):Int)=0 from rfl] at hr
  rw [hr,Option.bind_some]
  congr 1
  rw [List.drop_zero,List.drop_zero] at hz
  by_cases hab:a=b
  ·rw [decide_eq_true hab,hz.2 ⟨rfl,hab⟩];rfl
  ·rw [decide_eq_false hab]
   have:r≠0:=fun h=>hab (hz.1 h).2
   simpa using this
 ·rw [cond_tt (by simp;omega),decide_eq_false fun h=>hl (by rw [h])]
end Go.Eng
set_option linter.unusedVariables false
set_option linter.unusedSimpArgs false
namespace Go.Eng
set_option maxRecDepth 100000
set_option maxHeartbeats 1000000
theorem zl_byt {m:List Nat} (h:∀ x∈m,x<256):byt (zl m):=fun y hy=>by
 obtain ⟨x,hx,rfl⟩:=List.mem_map.1 hy
 have:=h x hx
 omega
theorem zl_inj:∀ {a b:List Nat},zl a=zl b->a=b
 |[],[],_=>rfl
 |x::xs,y::ys,h=>by
  rw [zl_cons,zl_cons] at h
  injection h with h1 h2
  rw [Int.ofNat_inj.1 h1,zl_inj h2]
theorem limbs_inj {w n x y:Nat} (hx:x<2^(w*n)) (hy:y<2^(w*n)) (h:limbsN w n x=limbsN w n y):x=y:=by
 have:=congrArg (valN w) h
 rw [valN_limbs,valN_limbs,Nat.mod_eq_of_lt hx,Nat.mod_eq_of_lt hy] at this
 exact this
theorem c256:(2:Nat)^(8*32)=115792089237316195423570985008687907853269984665640564039457584007913129639936:=by decide
theorem bytesP_len (x:Int):(bytesP x).length=32:=by unfold bytesP;rw [zl_len,limbsN_len]
theorem bytesP_byt (x:Int):byt (bytesP x):=zl_byt (limbsN_lt 8 32 _)
theorem bytesP_inj {x y:Int} (hx:0≤x/\x<PP) (hy:0≤y/\y<PP) (h:bytesP x=bytesP y):x=y:=by
 have:=limbs_inj (by rw [c256];unfold PP at hx;omega) (by rw [c256];unfold PP at hy;omega) (zl_inj h)
 omega
theorem Same_some {a b:T_field_Elem} (ha:EOk a) (hb:EOk b):field_Elem_Same a b=some (decide (res a=res b)):=by
 unfold field_Elem_Same
 rw [Bytes_some ha,Option.bind_some,Bytes_some hb,Option.bind_some,List.take_of_length_le (by rw [bytesP_len];exact Nat.le_refl _),List.take_of_length_le (by rw [bytesP_len];exact Nat.le_refl _),Equal_is (bytesP_byt _) (bytesP_byt _) (by rw [bytesP_len];decide),Option.bind_some]
 congr 1
 have:(bytesP (res a)=bytesP (res b))↔res a=res b:=⟨fun h=>bytesP_inj (res_range a) (res_range b) h,fun h=>by rw [h]⟩
 simp only [this]
theorem Odd_some {a:T_field_Elem} (ha:EOk a):field_Elem_Odd a=some (decide (res a%2=1)):=by
 obtain ⟨r0,r1⟩:=res_range a
 unfold field_Elem_Odd
 rw [least_some ha,Option.bind_some]
 simp only [zl_getD]
 have e:(limbsN 26 10 (res a).toNat).getD 0 0=(res a).toNat%2^26:=rfl
 have hlt:(res a).toNat%2^26<18446744073709551616:=Nat.lt_trans (Nat.mod_lt _ (by decide)) (by decide)
 rw [e,and1_64 hlt]
 congr 1
 have:(res a).toNat%2^26%2=(res a).toNat%2:=Nat.mod_mod_of_dvd _ ⟨2^25,rfl⟩
 rw [this]
 by_cases h:res a%2=1
 ·rw [decide_eq_true h,beq_iff_eq];omega
 ·rw [decide_eq_false h,beq_eq_false_iff_ne];omega
theorem Zero_l1 {b:List Int} (hb:byt b) (hle:b.length≤1000000):∀ (n i:Nat) (c:Int),i≤b.length->b.length<i+n->(0≤c/\c<256) ->
  ∃ r,words_Zero_l1 b n c (i:Int)=some r/\(r=0↔c=0/\∀ x∈b.drop i,x=0)
 |0,i,c,h1,h2,hc=>by omega
 |n+1,i,c,h1,h2,hc=>by
  rw [words_Zero_l1.eq_2]
  by_cases hlt:i<b.length
  ·rw [cond_tt (by simp<;>omega),if_pos ⟨by omega,by omega⟩,wrap_i64 (by omega) (by omega)]
   have e1:b.drop i=b.getD i 0::b.drop (i+1):=by
    rw [List.drop_eq_getElem_cons hlt];simp [List.getD,List.getElem?_eq_getElem hlt]
   have hbi:0≤b.getD i 0/\b.getD i 0<256:=hb _ (by simp [List.getD,List.getElem?_eq_getElem hlt])
   obtain ⟨r,hr,hz⟩:=Zero_l1 hb hle n (i+1) (or8 c (b.getD i 0)) (by omega) (by omega) (or8_byt _ _)
   refine ⟨r,hr,hz.trans ?_⟩
   rw [or8_zero hc hbi,e1]
   simp only [List.mem_cons,forall_eq_or_imp,and_assoc]
  ·rw [cond_ff (by simp<;>omega)]
   refine ⟨c,rfl,?_⟩
   rw [List.drop_eq_nil_of_le (by omega)]
   simp
theorem Zero_some {a:T_field_Elem} (ha:EOk a):field_Elem_Zero a=some (decide (res a=0)):=by
 obtain ⟨r0,r1⟩:=res_range a
 unfold field_Elem_Zero words_Zero
 rw [Bytes_some ha,Option.bind_some,List.take_of_length_le (by rw [bytesP_len];exact Nat.le_refl _)]
 obtain ⟨r,hr,hz⟩:=Zero_l1 (bytesP_byt (res a)) (by rw [bytesP_len];decide) FUEL 0 0 (by omega) (by rw [bytesP_len,Nat.zero_add];decide) (by omega)
 rw [show ((0:Nat):Int)=0 from rfl] at hr
 rw [hr,Option.bind_some,Option.bind_some]
 congr 1
 rw [List.drop_zero] at hz
 by_cases h:res a=0
 ·rw [decide_eq_true h,beq_iff_eq]
  refine hz.2 ⟨rfl,?_⟩
  rw [h]
  intro x hx
  unfold bytesP at hx
  rw [show (0:Int).toNat=0 from rfl,limbs_zero,zl_rep] at hx
  exact List.eq_of_mem_replicate hx
 ·rw [decide_eq_false h,beq_eq_false_iff_ne]
  intro e
  have hall:=(hz.1 e).2
  have h0:limbsN 8 32 (res a).toNat=limbsN 8 32 0:=by
   apply List.ext_getElem (by rw [limbsN_len,limbsN_len])
   intro i h1 h2
   have m1:((limbsN 8 32 (res a).toNat)[i]:Int)∈bytesP (res a):=List.mem_map.2 ⟨_,List.getElem_mem h1,rfl⟩
   have z1:=hall _ m1
   have z2:(limbsN 8 32 0)[i]=0:=by
    have:(limbsN 8 32 0)[i]∈List.replicate 32 0:=by rw [←limbs_zero 8 32];exact List.getElem_mem h2
    exact List.eq_of_mem_replicate this
   omega
  have:=limbs_inj (by rw [c256];unfold PP at r1;omega) (by rw [c256];decide) h0
  omega
def e0:T_field_Elem:=⟨List.replicate 10 0⟩
def e1:T_field_Elem:=⟨[1,0,0,0,0,0,0,0,0,0]⟩
theorem Small0:field_Small 0=some e0:=by kernel_rfl
theorem Small1:field_Small 1=some e1:=by kernel_rfl
theorem lim10 {l:List Int} (h:(l.all fun x=>decide (0≤x)&&decide (x<67108864))=true):Lim 67108864 l:=lim_of fun x hx=>by
 have:=List.all_eq_true.1 h x hx
 simpa using this
theorem e0_ok:EOk e0:=⟨lim10 (by decide),rfl⟩
theorem e1_ok:EOk e1:=⟨lim10 (by decide),rfl⟩
theorem e0_res:res e0=0:=by decide
theorem e1_res:res e1=1:=by decide
end Go.Eng
set_option linter.unusedVariables false
set_option linter.unusedSimpArgs false
namespace Go.Eng
set_option maxRecDepth 100000
set_option maxHeartbeats 1000000
def fe (e:T_field_Elem):FF:=ph (res e)
theorem PP_eq:PP=((PN:Nat):Int):=rfl
theorem ph_mod (x:Int):ph (x%PP)=ph x:=by rw [ph_eq];exact Int.emod_emod _ _
theorem ph_addP (x y:Int):ph (addP x y)=ph x+ph y:=by show ph ((x+y)%PP)=_;rw [ph_mod,ph_add]
theorem ph_subP (x y:Int):ph (subP x y)=ph x-ph y:=by show ph ((x-y)%PP)=_;rw [ph_mod,ph_sub]
theorem ph_mulP (x y:Int):ph (mulP x y)=ph x*ph y:=by show ph ((x*y)%PP)=_;rw [ph_mod,ph_mul]
theorem ph_inj {x y:Int} (hx:0≤x/\x<PP) (hy:0≤y/\y<PP) (h:ph x=ph y):x=y:=by
 have:=ph_eq.1 h
 rw [Int.emod_eq_of_lt hx.1 hx.2,Int.emod_eq_of_lt hy.1 hy.2] at this
 exact this
theorem ph_self {a:FF} {x:Int} (hx:0≤x/\x<PP) (h:ph x=a):x=(a.val:Int):=by
 rw [←ph_val a] at h
 exact ph_inj hx ⟨Int.natCast_nonneg _,by rw [PP_eq];exact Int.ofNat_lt.2 a.isLt⟩ h
theorem fe_res (e:T_field_Elem):res e=((fe e).val:Int):=ph_self (res_range e) rfl
theorem AddF {a b:T_field_Elem} (ha:EOk a) (hb:EOk b):∃ r,field_Elem_Add a b=some r/\EOk r/\fe r=fe a+fe b:=by
 obtain ⟨r,h1,h2,h3⟩:=Add_some ha hb
 exact ⟨r,h1,h2,by unfold fe;rw [h3,ph_addP]⟩
theorem SubF {a b:T_field_Elem} (ha:EOk a) (hb:EOk b):∃ r,field_Elem_Sub a b=some r/\EOk r/\fe r=fe a-fe b:=by
 obtain ⟨r,h1,h2,h3⟩:=Sub_some ha hb
 exact ⟨r,h1,h2,by unfold fe;rw [h3,ph_subP]⟩
theorem TimesF {a b:T_field_Elem} (ha:EOk a) (hb:EOk b):∃ r,field_Elem_Times a b=some r/\EOk r/\fe r=fe a*fe b:=by
 obtain ⟨r,h1,h2,h3⟩:=Times_some ha hb
 exact ⟨r,h1,h2,by unfold fe;rw [h3,ph_mulP]⟩
theorem SquareF {a:T_field_Elem} (ha:EOk a):∃ r,field_Elem_Square a=some r/\EOk r/\fe r=fe a*fe a:=by
 obtain ⟨r,h1,h2,h3⟩:=Square_some ha
 exact ⟨r,h1,h2,by unfold fe;rw [h3,ph_mulP]⟩
theorem fe_e0:fe e0=0:=by unfold fe;rw [e0_res,ph_zero]
theorem fe_e1:fe e1=1:=by unfold fe;rw [e1_res,ph_one]
theorem powP_nat (n k:Nat):powP (n:Int) k=((n^k%PN:Nat):Int):=by
 unfold powP
 rw [PP_eq,←Int.natCast_pow,←Int.natCast_emod]
theorem fe_pow {a r:T_field_Elem} {k:Nat} (h:IsP (res a) k r):res r=(((fe a).val^k%PN:Nat):Int):=by
 rw [h.val,fe_res a,powP_nat]
theorem fe_powN {a r:T_field_Elem} {k:Nat} (h:IsP (res a) k r):fe r=ph (((fe a).val^k:Nat):Int):=by
 unfold fe
 rw [fe_pow h,ph_nat,Nat.mod_mod]
 rfl
theorem ph_pow_add (n j k:Nat):ph ((n^(j+k):Nat):Int)=ph ((n^j:Nat):Int)*ph ((n^k:Nat):Int):=by rw [Nat.pow_add,ph_mulN]
theorem ph_fermat {n:Nat} (h:¬ PN∣n) {k:Nat} (hk:k=PN-1):ph ((n^k:Nat):Int)=1:=by
 rw [hk,←ph_one,show (1:Int)=((1:Nat):Int) from rfl,ph_nat,fermat1 priPN h];rfl
theorem InvertF {a:T_field_Elem} (ha:EOk a):∃ r,field_Elem_Invert a=some r/\EOk r/\fe r=nvF (fe a):=by
 obtain ⟨r,h1,h2,h3⟩:=Invert_some ha
 refine ⟨r,h1,h2,?_⟩
 have hp:IsP (res a) PM2 r:=⟨h2,h3⟩
 have e:=fe_powN hp
 rw [e]
 by_cases h0:fe a=0
 ·rw [h0,nvF_zero]
  obtain ⟨k,hk⟩:∃ k,PM2=k+1:=⟨57896044618658097711785492504343953926634992332820282019728792003956564819946,rfl⟩
  rw [hk,Nat.pow_succ,ph_mulN]
  show _*ph (((0:FF).val:Nat):Int)=0
  rw [show ph (((0:FF).val:Nat):Int)=(0:FF) from ph_val 0]
  generalize ph _=z
  grind
 ·have hm:fe a*ph (((fe a).val^PM2:Nat):Int)=1:=by
   have hd:¬ PN∣(fe a).val:=ph_ne.1 (by rw [ph_val];exact h0)
   have:=ph_fermat hd (k:=1+PM2) rfl
   rw [ph_pow_add,Nat.pow_one,ph_val] at this
   exact this
  have hn:=nvF_mul _ h0
  generalize ph _=z at *
  generalize nvF (fe a)=w at *
  have:z=z*(fe a*w):=by rw [hn];grind
  rw [this]
  have:z*(fe a*w)=(fe a*z)*w:=by grind
  rw [this,hm];grind
end Go.Eng
set_option linter.unusedVariables false
set_option linter.unusedSimpArgs false
namespace Go.Eng
set_option maxRecDepth 100000
set_option maxHeartbeats 1000000
theorem fe_inj {a b:T_field_Elem}:res a=res b↔fe a=fe b:=⟨fun h=>by unfold fe;rw [h],fun h=>by rw [fe_res a,fe_res b,h]⟩
abbrev K250:Nat:=1809251394333065553493296640760748560207343510400633813116524750123642650623
theorem power_some {a:T_field_Elem} (ha:EOk a):∃ x y,field_Elem_power a=some (x,y)/\IsP (res a) K250 x:=by
 obtain ⟨r0,r1⟩:=res_range a
 have h1:IsP (res a) 1 a:=⟨ha,(powP_one r0 r1).symm⟩
 unfold field_Elem_power
 obtain ⟨a2,e,h2⟩:=Square_pow h1;rw [e,Option.bind_some]
 obtain ⟨b1,e,k1⟩:=squares_pow 2 (by decide) (by decide) h2;rw [show (2:Int)=((2:Nat):Int) from rfl,e,Option.bind_some]
 obtain ⟨b2,e,k2⟩:=Times_pow k1 h1;rw [e,Option.bind_some]
 obtain ⟨b3,e,k3⟩:=Times_pow k2 h2;rw [e,Option.bind_some]
 obtain ⟨b4,e,k4⟩:=Square_pow k3;rw [e,Option.bind_some]
 obtain ⟨b5,e,k5⟩:=Times_pow k4 k2;rw [e,Option.bind_some]
 obtain ⟨b6,e,k6⟩:=squares_pow 5 (by decide) (by decide) k5;rw [show (5:Int)=((5:Nat):Int) from rfl,e,Option.bind_some]
 obtain ⟨b7,e,k7⟩:=Times_pow k6 k5;rw [e,Option.bind_some]
 obtain ⟨b8,e,k8⟩:=squares_pow 10 (by decide) (by decide) k7;rw [show (10:Int)=((10:Nat):Int) from rfl,e,Option.bind_some]
 obtain ⟨b9,e,k9⟩:=Times_pow k8 k7;rw [e,Option.bind_some]
 obtain ⟨c1,e,l1⟩:=squares_pow 20 (by decide) (by decide) k9;rw [show (20:Int)=((20:Nat):Int) from rfl,e,Option.bind_some]
 obtain ⟨c2,e,l2⟩:=Times_pow l1 k9;rw [e,Option.bind_some]
 obtain ⟨c3,e,l3⟩:=squares_pow 10 (by decide) (by decide) l2;rw [e,Option.bind_some]
 obtain ⟨c4,e,l4⟩:=Times_pow l3 k7;rw [e,Option.bind_some]
 obtain ⟨c5,e,l5⟩:=squares_pow 50 (by decide) (by decide) l4;rw [show (50:Int)=((50:Nat):Int) from rfl,e,Option.bind_some]
 obtain ⟨c6,e,l6⟩:=Times_pow l5 l4;rw [e,Option.bind_some]
 obtain ⟨c7,e,l7⟩:=squares_pow 100 (by decide) (by decide) l6;rw [show (100:Int)=((100:Nat):Int) from rfl,e,Option.bind_some]
 obtain ⟨c8,e,l8⟩:=Times_pow l7 l6;rw [e,Option.bind_some]
 obtain ⟨c9,e,l9⟩:=squares_pow 50 (by decide) (by decide) l8;rw [e,Option.bind_some]
 obtain ⟨d1,e,m1⟩:=Times_pow l9 l4;rw [e,Option.bind_some]
 exact ⟨d1,b3,rfl,m1⟩
def mI:T_field_Elem:=⟨tb_field_minus⟩
theorem mI_ok:EOk mI:=⟨lim10 (by decide),rfl⟩
theorem mI_sq:fe mI*fe mI = -1:=by
 have h:mulP (res mI) (res mI)=PP-1:=by decide
 have h2:ph (mulP (res mI) (res mI))=fe mI*fe mI:=ph_mulP _ _
 rw [h,ph_sub,ph_one] at h2
 have h3:ph PP=0:=by rw [←ph_zero,ph_eq];decide
 rw [h3] at h2
 rw [←h2];grind
theorem root_alg {n K:Nat} (hK:K=7237005577332262213973186563042994240829374041602535252466099000494570602494) {w:FF} (hw:w*w=ph (n:Int)):ph ((n^K:Nat):Int)*ph ((n^K:Nat):Int)=ph (n:Int)\/ph ((n^K:Nat):Int)*ph ((n^K:Nat):Int) = -ph (n:Int):=by
 by_cases h0:w=0
 ·left
  rw [h0] at hw
  have hn:ph (n:Int)=0:=by rw [←hw];grind
  obtain ⟨k,hk⟩:∃ k,K=k+1:=⟨7237005577332262213973186563042994240829374041602535252466099000494570602493,hK⟩
  rw [hk,Nat.pow_succ,ph_mulN,hn];grind
 ·have hv:=ph_val w
  generalize w.val=m at *
  subst hv
  rw [←ph_mulN] at hw
  have hm:¬ PN∣m:=ph_ne.1 h0
  have h4:K+K+(K+K)=kN+2:=by rw [hK]
  clear hK
  have e:ph ((n^K:Nat):Int)=ph (((m*m)^K:Nat):Int):=by
   rw [ph_nat,Nat.pow_mod,←ph_nat.1 hw,←Nat.pow_mod]
  have hp:ph ((n^K:Nat):Int)*ph ((n^K:Nat):Int)=ph ((m^kN:Nat):Int)*ph (n:Int):=by
   rw [e,←ph_mulN,←Nat.pow_add,←hw,←ph_mulN,←Nat.pow_two m,←Nat.pow_mul,←Nat.pow_add,show 2*(K+K)=kN+2 by omega]
  have hT:ph ((m^kN:Nat):Int)*ph ((m^kN:Nat):Int)=1:=by
   rw [←ph_pow_add]
   exact ph_fermat hm (by rw [←two_kN];omega)
  rw [hp]
  generalize ph ((m^kN:Nat):Int)=T at *
  generalize ph (n:Int)=N at *
  have:(T-1)*(T+1)=0:=by grind
  rcases fldFF.cases this with h|h
  ·left;have:T=1:=by grind
   rw [this];grind
  ·right;have:T = -1:=by grind
   rw [this];grind
theorem neg_even {x:Int} (h0:0≤x) (h1:x<PP) (ho:x%2=1):(0-x)%PP%2=0:=by
 have hp:PP%2=1:=by decide
 have e:(0-x)%PP=PP-x:=by
  rw [show 0-x=(PP-x)+PP*(-1) by omega,Int.add_mul_emod_self_left,Int.emod_eq_of_lt (by omega) (by omega)]
 rw [e]
 generalize PP=P at *
 omega
theorem Root_some {a:T_field_Elem} (ha:EOk a):∃ e b,field_Elem_Root a=some (e,b)/\EOk e/\(b=true->fe e*fe e=fe a/\res e%2=0)/\((∃ w,w*w=fe a)->b=true):=by
 obtain ⟨r0,r1⟩:=res_range a
 have h1:IsP (res a) 1 a:=⟨ha,(powP_one r0 r1).symm⟩
 obtain ⟨x,y,hx,px⟩:=power_some ha
 unfold field_Elem_Root
 rw [hx,Option.bind_some]
 obtain ⟨x54,e,p54⟩:=Square_pow px
 dsimp only
 rw [e,Option.bind_some]
 obtain ⟨x55,e,p55⟩:=Times_pow p54 h1;rw [e,Option.bind_some]
 obtain ⟨r,e,pr⟩:=Square_pow p55;rw [e,Option.bind_some]
 obtain ⟨x57,e,ok57,f57⟩:=SquareF pr.ok;rw [e,Option.bind_some,Same_some ok57 ha,Option.bind_some]
 have okr:EOk r:=pr.ok
 obtain ⟨K,hK,pr⟩:∃ K,K=7237005577332262213973186563042994240829374041602535252466099000494570602494/\IsP (res a) K r:=⟨_,rfl,pr⟩
 have hr':=fe_powN pr
 clear pr p55 p54 px
 obtain ⟨r2,hr2,ok2,hr2f⟩:∃ r2,((cond (!(decide (res x57=res a))) ((field_Elem_Times r ({ fn:=tb_field_minus }:T_field_Elem)).bind fun x60=>some x60) (some r):Option T_field_Elem))=some r2/\EOk r2/\((∃ w,w*w=fe a)->fe r2*fe r2=fe a):=by
  by_cases hs:res x57=res a
  ·rw [decide_eq_true hs]
   exact ⟨r,cond_ff (by rfl),okr,fun _=>by rw [←f57];exact fe_inj.1 hs⟩
  ·rw [decide_eq_false hs]
   obtain ⟨r2,e,ok,f⟩:=TimesF okr mI_ok
   refine ⟨r2,by rw [cond_tt (by rfl)];show (field_Elem_Times r mI).bind _=_;rw [e];rfl,ok,fun ⟨w,hw⟩ => ?_⟩
   have hv:=ph_val (fe a)
   rw [←hv] at hw
   have hal:=root_alg hK hw
   have hne:fe r*fe r≠fe a:=fun e=>hs (fe_inj.2 (by rw [f57,e]))
   have hm:=mI_sq
   rw [f]
   rw [←hr',hv] at hal
   rcases hal with h|h
   ·exact absurd h hne
   ·generalize fe r=R at *
    generalize fe mI=M at *
    generalize fe a=A at *
    grind
 rw [hr2,Option.bind_some]
 obtain ⟨x61,e,ok61,f61⟩:=SquareF ok2;rw [e,Option.bind_some,Same_some ok61 ha,Option.bind_some]
 by_cases hs:res x61=res a
 ·rw [decide_eq_true hs,cond_ff (by rfl),Odd_some ok2,Option.bind_some]
  have hsq:fe r2*fe r2=fe a:=by rw [←f61];exact fe_inj.1 hs
  by_cases ho:res r2%2=1
  ·rw [decide_eq_true ho,cond_tt (by rfl)]
   obtain ⟨r3,e,ok3,h3⟩:=Sub_some e0_ok ok2
   have f3:fe r3=0-fe r2:=by unfold fe;rw [h3,ph_subP,e0_res,ph_zero]
   refine ⟨r3,true,by show (((field_Elem_Sub e0 r2).bind fun x=>some x).bind _)=_;rw [e];rfl,ok3,fun _=>⟨?_,?_⟩,fun _=>rfl⟩
   ·rw [f3,←hsq];generalize fe r2=R;grind
   ·rw [h3,e0_res]
    exact neg_even (res_range r2).1 (res_range r2).2 ho
  ·rw [decide_eq_false ho,cond_ff (by rfl)]
   exact ⟨r2,true,rfl,ok2,fun _=>⟨hsq,by omega⟩,fun _=>rfl⟩
 ·rw [decide_eq_false hs,cond_tt (by rfl)]
  exact ⟨e0,false,rfl,e0_ok,fun h=>(by cases h),fun hw=>absurd (fe_inj.2 (by rw [f61,hr2f hw])) hs⟩
end Go.Eng
set_option linter.unusedVariables false
set_option linter.unusedSimpArgs false
namespace Go.Eng
set_option maxRecDepth 100000
set_option maxHeartbeats 1000000
structure POk (p:T_points_Point):Prop where
 x:EOk p.fx
 y:EOk p.fy
 z:EOk p.fz
 t:EOk p.ft
def p4 (p:T_points_Point):P4:=⟨fe p.fx,fe p.fy,fe p.fz,fe p.ft⟩
theorem plus_some {p q:T_points_Point} {w:T_field_Elem} (hp:POk p) (hq:POk q) (hw:EOk w):∃ r,points_Point_plus p q w=some r/\POk r/\p4 r=(p4 p).plus (fe w) (p4 q):=by
 unfold points_Point_plus
 obtain ⟨a1,e,k1,f1⟩:=SubF hp.y hp.x;rw [e,Option.bind_some]
 obtain ⟨a2,e,k2,f2⟩:=SubF hq.y hq.x;rw [e,Option.bind_some]
 obtain ⟨a3,e,k3,f3⟩:=TimesF k1 k2;rw [e,Option.bind_some]
 obtain ⟨a4,e,k4,f4⟩:=AddF hp.y hp.x;rw [e,Option.bind_some]
 obtain ⟨a5,e,k5,f5⟩:=AddF hq.y hq.x;rw [e,Option.bind_some]
 obtain ⟨a6,e,k6,f6⟩:=TimesF k4 k5;rw [e,Option.bind_some]
 obtain ⟨a7,e,k7,f7⟩:=TimesF hp.t hq.t;rw [e,Option.bind_some]
 obtain ⟨a8,e,k8,f8⟩:=TimesF k7 hw;rw [e,Option.bind_some]
 obtain ⟨a9,e,k9,f9⟩:=TimesF hp.z hq.z;rw [e,Option.bind_some]
 obtain ⟨b1,e,l1,g1⟩:=AddF k9 k9;rw [e,Option.bind_some]
 obtain ⟨b2,e,l2,g2⟩:=SubF k6 k3;rw [e,Option.bind_some]
 obtain ⟨b3,e,l3,g3⟩:=SubF l1 k8;rw [e,Option.bind_some]
 obtain ⟨b4,e,l4,g4⟩:=AddF l1 k8;rw [e,Option.bind_some]
 obtain ⟨b5,e,l5,g5⟩:=AddF k6 k3;rw [e,Option.bind_some]
 obtain ⟨c1,e,m1,h1⟩:=TimesF l2 l3;rw [e,Option.bind_some]
 obtain ⟨c2,e,m2,h2⟩:=TimesF l4 l5;rw [e,Option.bind_some]
 obtain ⟨c3,e,m3,h3⟩:=TimesF l3 l4;rw [e,Option.bind_some]
 obtain ⟨c4,e,m4,h4⟩:=TimesF l2 l5;rw [e,Option.bind_some]
 refine ⟨_,rfl,⟨m1,m2,m3,m4⟩,?_⟩
 unfold p4 P4.plus
 simp only [h1,h2,h3,h4,g1,g2,g3,g4,g5,f1,f2,f3,f4,f5,f6,f7,f8,f9]
theorem double_some {p:T_points_Point} (hp:POk p):∃ r,points_Point_double p=some r/\POk r/\p4 r=(p4 p).dbl:=by
 unfold points_Point_double
 obtain ⟨a1,e,k1,f1⟩:=SquareF hp.x;rw [e,Option.bind_some]
 obtain ⟨a2,e,k2,f2⟩:=SquareF hp.y;rw [e,Option.bind_some]
 obtain ⟨a3,e,k3,f3⟩:=SquareF hp.z;rw [e,Option.bind_some]
 obtain ⟨a4,e,k4,f4⟩:=AddF k3 k3;rw [e,Option.bind_some]
 obtain ⟨a5,e,k5,f5⟩:=AddF k1 k2;rw [e,Option.bind_some]
 obtain ⟨a6,e,k6,f6⟩:=AddF hp.x hp.y;rw [e,Option.bind_some]
 obtain ⟨a7,e,k7,f7⟩:=SquareF k6;rw [e,Option.bind_some]
 obtain ⟨a8,e,k8,f8⟩:=SubF k5 k7;rw [e,Option.bind_some]
 obtain ⟨a9,e,k9,f9⟩:=SubF k1 k2;rw [e,Option.bind_some]
 obtain ⟨b1,e,l1,g1⟩:=AddF k4 k9;rw [e,Option.bind_some]
 obtain ⟨c1,e,m1,h1⟩:=TimesF k8 l1;rw [e,Option.bind_some]
 obtain ⟨c2,e,m2,h2⟩:=TimesF k9 k5;rw [e,Option.bind_some]
 obtain ⟨c3,e,m3,h3⟩:=TimesF l1 k9;rw [e,Option.bind_some]
 obtain ⟨c4,e,m4,h4⟩:=TimesF k8 k5;rw [e,Option.bind_some]
 refine ⟨_,rfl,⟨m1,m2,m3,m4⟩,?_⟩
 unfold p4 P4.dbl
 simp only [h1,h2,h3,h4,g1,f1,f2,f3,f4,f5,f6,f7,f8,f9]
def eD:T_field_Elem:=⟨[56195235,47411844,25868126,20251911,28682,31357478,7604119,66702899,15608687,1343707]⟩
theorem Curve_is:field_Curve=some eD:=by kernel_rfl
theorem eD_ok:EOk eD:=⟨lim10 (by decide),rfl⟩
theorem eD_fe:fe eD=dF:=by unfold fe dF;congr 1
theorem twice_is:∃ w,points_twice=some w/\EOk w/\fe w=dF+dF:=by
 obtain ⟨r,e,k,f⟩:=AddF eD_ok eD_ok
 refine ⟨r,?_,k,by rw [f,eD_fe]⟩
 unfold points_twice
 rw [Curve_is,Option.bind_some,e];rfl
def eX:T_field_Elem:=⟨[52811034,25909283,41626773,25318550,6892743,58046231,38675231,22018818,47435118,547405]⟩
def eY:T_field_Elem:=⟨[40265304,26843545,40265318,26843545,40265318,26843545,40265318,26843545,40265318,1677721]⟩
theorem eX_ok:EOk eX:=⟨lim10 (by decide),rfl⟩
theorem eY_ok:EOk eY:=⟨lim10 (by decide),rfl⟩
abbrev bxN:Nat:=15112221349535400772501151409588531511454012693041857206046113283949847762202
abbrev byN:Nat:=46316835694926478169428394003475163141307993866256225615783033603165251855960
theorem eX_fe:fe eX=ph bxN:=by unfold fe;congr 1
theorem eY_fe:fe eY=ph byN:=by unfold fe;congr 1
theorem base_on:OnA dF (ph bxN) (ph byN):=by
 have h:ph ((byN*byN:Nat):Int)=ph ((bxN*bxN+(1+dN*(bxN*bxN)*(byN*byN)):Nat):Int):=by
  rw [ph_nat];kernel_rfl
 rw [Int.natCast_add,Int.natCast_add,ph_add,ph_add,ph_mulN,ph_mulN,ph_mulN,ph_mulN,ph_mulN,ph_mulN] at h
 have h1:ph ((1:Nat):Int)=1:=ph_one
 rw [h1] at h
 unfold OnA dF
 generalize ph (bxN:Int)=x at *
 generalize ph (byN:Int)=y at *
 generalize ph (dN:Int)=d at *
 grind
def B:PF:=⟨ph bxN,ph byN,base_on⟩
theorem at_some {x y:T_field_Elem} (hx:EOk x) (hy:EOk y):∃ r,points_at x y=some r/\POk r/\p4 r=⟨fe x,fe y,1,fe x*fe y⟩:=by
 obtain ⟨t,e,k,f⟩:=TimesF hx hy
 refine ⟨⟨x,y,e1,t⟩,?_,⟨hx,hy,e1_ok,k⟩,?_⟩
 ·unfold points_at
  rw [Small1,Option.bind_some,e];rfl
 ·unfold p4
  simp only [fe_e1,f]
theorem Base_is:∃ r,points_Base=some r/\POk r/\Rep4 (p4 r) B:=by
 obtain ⟨r,h1,h2,h3⟩:=at_some eX_ok eY_ok
 refine ⟨r,?_,h2,?_⟩
 ·unfold points_Base
  rw [show field_BaseX=some eX from rfl,Option.bind_some,show field_BaseY=some eY from rfl,Option.bind_some,h1];rfl
 ·rw [h3,eX_fe,eY_fe]
  exact Rep4.at_ fldFF base_on
theorem Zero_is:∃ r,points_Zero=some r/\POk r/\Rep4 (p4 r) (Pt.zero:PF):=by
 obtain ⟨r,h1,h2,h3⟩:=at_some e0_ok e1_ok
 refine ⟨r,?_,h2,?_⟩
 ·unfold points_Zero
  rw [Small0,Option.bind_some,Small1,Option.bind_some,h1];rfl
 ·rw [h3,fe_e0,fe_e1]
  exact Rep4.at_ fldFF Pt.zero.on
theorem Neg_is {p:T_points_Point} {a:PF} (hp:POk p) (h:Rep4 (p4 p) a):∃ r,points_Point_Negate p=some r/\POk r/\Rep4 (p4 r) a.neg:=by
 obtain ⟨x,e,k,f⟩:=SubF e0_ok hp.x
 obtain ⟨t,e',k',f'⟩:=SubF e0_ok hp.t
 refine ⟨⟨x,p.fy,p.fz,t⟩,?_,⟨k,hp.y,hp.z,k'⟩,?_⟩
 ·unfold points_Point_Negate
  rw [Small0,Option.bind_some,e,Option.bind_some,e'];rfl
 ·have:=h.neg
  unfold p4
  simp only [f,f',fe_e0]
  exact this
theorem plus_rep {p q:T_points_Point} {w:T_field_Elem} {a b:PF} (hp:POk p) (hq:POk q) (hw:EOk w) (fw:fe w=dF+dF) (ha:Rep4 (p4 p) a) (hb:Rep4 (p4 q) b):∃ r,points_Point_plus p q w=some r/\POk r/\Rep4 (p4 r) (a.add envF b):=by
 obtain ⟨r,h1,h2,h3⟩:=plus_some hp hq hw
 refine ⟨r,h1,h2,?_⟩
 rw [h3,fw]
 exact Rep4.plus envF ha hb
theorem double_rep {p:T_points_Point} {a:PF} (hp:POk p) (ha:Rep4 (p4 p) a):∃ r,points_Point_double p=some r/\POk r/\Rep4 (p4 r) (a.add envF a):=by
 obtain ⟨r,h1,h2,h3⟩:=double_some hp
 refine ⟨r,h1,h2,?_⟩
 rw [h3]
 exact Rep4.dbl envF ha
theorem Bit_is {s:Nat} {i:Nat} (hi:i<256):scalar_Bit (zl (limbsN 8 32 s)) (i:Int)=some (decide (s/2^i%2=1)):=by
 have e1:Int.tdiv (i:Int) 8=((i/8:Nat):Int):=rfl
 have e2:Int.tmod (i:Int) 8=((i%8:Nat):Int):=rfl
 have m1:min (i%8) (IntKind.bits .u8)=i%8:=by show min _ 8=_;omega
 have hb:(limbsN 8 32 s).getD (i/8) 0<256:=getD_lt (limbsN_lt 8 32 s) (by decide) _
 have hb':(limbsN 8 32 s).getD (i/8) 0/2^(i%8)<256:=Nat.lt_of_le_of_lt (Nat.div_le_self _ _) hb
 have hbit:=limbsN_bit 8 (by decide) 32 s i (by omega)
 unfold scalar_Bit
 rw [cond_tt (by simp),cond_tt (by simp<;>omega),e1,i64n (n:=i/8) (by omega),if_pos ⟨by omega,by omega⟩,nm_eq,e2,if_pos (by omega),nm_eq,Int.toNat_natCast,Int.toNat_natCast,zl_getD,m1,fdivn,and1_8 hb',hbit]
 congr 1
 by_cases h:s/2^i%2=1
 ·rw [decide_eq_true h,beq_iff_eq];omega
 ·rw [decide_eq_false h,beq_eq_false_iff_ne];omega
end Go.Eng
set_option linter.unusedVariables false
set_option linter.unusedSimpArgs false
namespace Go.Eng
set_option maxRecDepth 100000
set_option maxHeartbeats 1000000
theorem mul_one (a:PF):Pt.mul envF a 1=a:=Pt.zero_add envF a
theorem mul_dbl (a:PF) (n:Nat):(Pt.mul envF a n).add envF (Pt.mul envF a n)=Pt.mul envF a (n+n):=(Pt.mul_add envF a n n).symm
theorem mul_succ (a:PF) (n:Nat):(Pt.mul envF a n).add envF a=Pt.mul envF a (n+1):=rfl
theorem add4 (a b c e:PF):(a.add envF b).add envF (c.add envF e)=(a.add envF c).add envF (b.add envF e):=by
 rw [Pt.add_assoc,Pt.add_assoc,←Pt.add_assoc envF b,←Pt.add_assoc envF c,Pt.add_comm envF b c]
theorem half_step (s i:Nat):s/2^i=s/2^(i+1)+s/2^(i+1)+s/2^i%2:=by
 rw [Nat.pow_succ,←Nat.div_div_eq_div_mul];omega
theorem step1 {p x:T_points_Point} {w:T_field_Elem} {a:PF} {s i:Nat} (hp:POk p) (ha:Rep4 (p4 p) a) (hw:EOk w) (fw:fe w=dF+dF) (hx:POk x) (rx:Rep4 (p4 x) (Pt.mul envF a (s/2^(i+1)))) :
  ∃ x2 y,points_Point_double x=some x2/\((cond (decide (s/2^i%2=1)) ((points_Point_plus x2 p w).bind fun z=>some z) (some x2):Option T_points_Point))=some y/\POk y/\Rep4 (p4 y) (Pt.mul envF a (s/2^i)):=by
 obtain ⟨x2,h1,h2,h3⟩:=double_rep hx rx
 rw [mul_dbl] at h3
 have hs:=half_step s i
 by_cases hb:s/2^i%2=1
 ·obtain ⟨y,k1,k2,k3⟩:=plus_rep h2 hp hw fw h3 ha
  refine ⟨x2,y,h1,by rw [decide_eq_true hb,cond_true,k1];rfl,k2,?_⟩
  rw [hs,hb,←mul_succ];exact k3
 ·refine ⟨x2,x2,h1,by rw [decide_eq_false hb,cond_false],h2,?_⟩
  have h0:s/2^i%2=0:=by omega
  rw [hs,h0,Nat.add_zero];exact h3
theorem Times_l1_is {p:T_points_Point} {w:T_field_Elem} {a:PF} {s:Nat} (hp:POk p) (ha:Rep4 (p4 p) a) (hw:EOk w) (fw:fe w=dF+dF):∀ (i n:Nat) (x:T_points_Point),i<n->i≤256->POk x->Rep4 (p4 x) (Pt.mul envF a (s/2^i)) ->
  ∃ r,points_Point_Times_l1 p (zl (limbsN 8 32 s)) w n ((i:Int)-1) x=some r/\POk r/\Rep4 (p4 r) (Pt.mul envF a s)
 |i,0,x,h,_,_,_=>absurd h (Nat.not_lt_zero _)
 |0,n+1,x,_,_,hx,rx=>by
  rw [points_Point_Times_l1.eq_2,cond_ff (by decide)]
  rw [Nat.pow_zero,Nat.div_one] at rx
  exact ⟨x,rfl,hx,rx⟩
 |i+1,n+1,x,h,h',hx,rx=>by
  obtain ⟨x2,y,e1,e2,e3,e4⟩:=step1 hp ha hw fw hx rx
  obtain ⟨r,f1,f2,f3⟩:=Times_l1_is (s:=s) hp ha hw fw i n y (by omega) (by omega) e3 e4
  refine ⟨r,?_,f2,f3⟩
  rw [points_Point_Times_l1.eq_2,show ((i+1:Nat):Int)-1=(i:Int) by omega,cond_tt (by simp),e1,Option.bind_some,Bit_is (by omega),Option.bind_some,e2,Option.bind_some,wrap_i64 (by omega) (by omega)]
  exact f1
theorem pow256 {s:Nat} (h:s<2^256):s/2^256=0:=Nat.div_eq_of_lt h
theorem Times_is {p:T_points_Point} {a:PF} {s:Nat} (hp:POk p) (ha:Rep4 (p4 p) a) (hs:s<2^256):∃ r,points_Point_Times p (zl (limbsN 8 32 s))=some r/\POk r/\Rep4 (p4 r) (Pt.mul envF a s):=by
 obtain ⟨w,w1,w2,w3⟩:=twice_is
 obtain ⟨z,z1,z2,z3⟩:=Zero_is
 have z4:Rep4 (p4 z) (Pt.mul envF a (s/2^(255+1))):=by rw [show 255+1=256 from rfl,pow256 hs];exact z3
 obtain ⟨x2,y,e1,e2,e3,e4⟩:=step1 hp ha w2 w3 z2 z4
 obtain ⟨r,f1,f2,f3⟩:=Times_l1_is (s:=s) hp ha w2 w3 255 FUEL y (by decide) (by decide) e3 e4
 refine ⟨r,?_,f2,f3⟩
 unfold points_Point_Times
 rw [w1,Option.bind_some,z1,Option.bind_some,e1,Option.bind_some,show (255:Int)=((255:Nat):Int) from rfl,Bit_is (by decide),Option.bind_some,e2,Option.bind_some]
 exact f1
theorem step2 {p bs bo x:T_points_Point} {w:T_field_Elem} {a:PF} {h s i:Nat} (hp:POk p) (ha:Rep4 (p4 p) a) (hb:POk bs) (rb:Rep4 (p4 bs) B) (ho:POk bo) (ro:Rep4 (p4 bo) (a.add envF B)) (hw:EOk w) (fw:fe w=dF+dF) (hx:POk x) (rx:Rep4 (p4 x) ((Pt.mul envF a (h/2^(i+1))).add envF (Pt.mul envF B (s/2^(i+1))))) :
  ∃ x2 y,points_Point_double x=some x2/\((cond (decide (h/2^i%2=1))
       (((cond (decide (s/2^i%2=1))
        ((points_Point_plus x2 bo w).bind fun x108 =>
         some x108)
        (((cond (decide (h/2^i%2=1))
         ((points_Point_plus x2 p w).bind fun x110 =>
          some x110)
         (((cond (decide (s/2^i%2=1))
          ((points_Point_plus x2 bs w).bind fun x112 =>
           some x112)
          (some x2):Option T_points_Point)).bind fun x111 =>
          some x111):Option T_points_Point)).bind fun x109 =>
         some x109):Option T_points_Point)).bind fun x107 =>
        some x107)
       (((cond (decide (h/2^i%2=1))
        ((points_Point_plus x2 p w).bind fun x114 =>
         some x114)
        (((cond (decide (s/2^i%2=1))
         ((points_Point_plus x2 bs w).bind fun x116 =>
          some x116)
         (some x2):Option T_points_Point)).bind fun x115 =>
         some x115):Option T_points_Point)).bind fun x113 =>
        some x113):Option T_points_Point))=some y/\POk y/\Rep4 (p4 y) ((Pt.mul envF a (h/2^i)).add envF (Pt.mul envF B (s/2^i))):=by
 obtain ⟨x2,h1,h2,h3⟩:=double_rep hx rx
 rw [add4,mul_dbl,mul_dbl] at h3
 have hh:=half_step h i
 have hs:=half_step s i
 by_cases b1:h/2^i%2=1
 ·by_cases b2:s/2^i%2=1
  ·obtain ⟨y,k1,k2,k3⟩:=plus_rep h2 ho hw fw h3 ro
   refine ⟨x2,y,h1,by simp only [decide_eq_true b1,decide_eq_true b2,cond_true,k1,Option.bind_some],k2,?_⟩
   rw [hh,b1,hs,b2,←mul_succ,←mul_succ,←add4];exact k3
  ·have b0:s/2^i%2=0:=by omega
   obtain ⟨y,k1,k2,k3⟩:=plus_rep h2 hp hw fw h3 ha
   refine ⟨x2,y,h1,by simp only [decide_eq_true b1,decide_eq_false b2,cond_true,cond_false,k1,Option.bind_some],k2,?_⟩
   rw [hh,b1,hs,b0,Nat.add_zero,←mul_succ]
   rw [Pt.add_assoc,Pt.add_comm envF _ a,←Pt.add_assoc] at k3
   exact k3
 ·have b0:h/2^i%2=0:=by omega
  by_cases b2:s/2^i%2=1
  ·obtain ⟨y,k1,k2,k3⟩:=plus_rep h2 hb hw fw h3 rb
   refine ⟨x2,y,h1,by simp only [decide_eq_false b1,decide_eq_true b2,cond_true,cond_false,k1,Option.bind_some],k2,?_⟩
   rw [hh,b0,hs,b2,Nat.add_zero,←mul_succ B]
   rw [Pt.add_assoc] at k3
   exact k3
  ·have b3:s/2^i%2=0:=by omega
   refine ⟨x2,x2,h1,by simp only [decide_eq_false b1,decide_eq_false b2,cond_false,Option.bind_some],h2,?_⟩
   rw [hh,b0,hs,b3,Nat.add_zero,Nat.add_zero];exact h3
theorem With_l1_is {p bs bo:T_points_Point} {w:T_field_Elem} {a:PF} {h s:Nat} (hp:POk p) (ha:Rep4 (p4 p) a) (hb:POk bs) (rb:Rep4 (p4 bs) B) (ho:POk bo) (ro:Rep4 (p4 bo) (a.add envF B)) (hw:EOk w) (fw:fe w=dF+dF):∀ (i n:Nat) (x:T_points_Point),i<n->i≤256->POk x->Rep4 (p4 x) ((Pt.mul envF a (h/2^i)).add envF (Pt.mul envF B (s/2^i))) ->
  ∃ r,points_Point_With_l1 p (zl (limbsN 8 32 h)) (zl (limbsN 8 32 s)) w bs bo n ((i:Int)-1) x=some r/\POk r/\Rep4 (p4 r) ((Pt.mul envF a h).add envF (Pt.mul envF B s))
 |i,0,x,h,_,_,_=>absurd h (Nat.not_lt_zero _)
 |0,n+1,x,_,_,hx,rx=>by
  rw [points_Point_With_l1.eq_2,cond_ff (by decide)]
  rw [Nat.pow_zero,Nat.div_one,Nat.div_one] at rx
  exact ⟨x,rfl,hx,rx⟩
 |i+1,n+1,x,h,h',hx,rx=>by
  obtain ⟨x2,y,e1,e2,e3,e4⟩:=step2 hp ha hb rb ho ro hw fw hx rx
  obtain ⟨r,f1,f2,f3⟩:=With_l1_is (s:=s) hp ha hb rb ho ro hw fw i n y (by omega) (by omega) e3 e4
  refine ⟨r,?_,f2,f3⟩
  rw [points_Point_With_l1.eq_2,show ((i+1:Nat):Int)-1=(i:Int) by omega,cond_tt (by simp),e1,Option.bind_some,Bit_is (by omega),Option.bind_some,Bit_is (by omega),Option.bind_some,e2,Option.bind_some,wrap_i64 (by omega) (by omega)]
  exact f1
theorem With_is {p:T_points_Point} {a:PF} {h s:Nat} (hp:POk p) (ha:Rep4 (p4 p) a) (hh:h<2^256) (hs:s<2^256):∃ r,points_Point_With p (zl (limbsN 8 32 h)) (zl (limbsN 8 32 s))=some r/\POk r/\Rep4 (p4 r) ((Pt.mul envF a h).add envF (Pt.mul envF B s)):=by
 obtain ⟨w,w1,w2,w3⟩:=twice_is
 obtain ⟨bs,b1,b2,b3⟩:=Base_is
 obtain ⟨bo,o1,o2,o3⟩:=plus_rep hp b2 w2 w3 ha b3
 obtain ⟨z,z1,z2,z3⟩:=Zero_is
 have z4:Rep4 (p4 z) ((Pt.mul envF a (h/2^(255+1))).add envF (Pt.mul envF B (s/2^(255+1)))):=by
  rw [show 255+1=256 from rfl,pow256 hs,pow256 hh]
  show Rep4 (p4 z) (Pt.zero.add envF Pt.zero)
  rw [Pt.add_zero];exact z3
 obtain ⟨x2,y,e1,e2,e3,e4⟩:=step2 hp ha b2 b3 o2 o3 w2 w3 z2 z4
 obtain ⟨r,f1,f2,f3⟩:=With_l1_is (s:=s) hp ha b2 b3 o2 o3 w2 w3 255 FUEL y (by decide) (by decide) e3 e4
 refine ⟨r,?_,f2,f3⟩
 unfold points_Point_With
 rw [w1,Option.bind_some,b1,Option.bind_some,o1,Option.bind_some,z1,Option.bind_some,e1,Option.bind_some,show (255:Int)=((255:Nat):Int) from rfl,Bit_is (by decide),Option.bind_some,Bit_is (by decide),Option.bind_some,e2,Option.bind_some]
 exact f1
end Go.Eng
set_option linter.unusedVariables false
set_option linter.unusedSimpArgs false
namespace Go.Eng
set_option maxRecDepth 100000
set_option maxHeartbeats 1000000
def encN (a:PF):Nat:=a.y.val+2^255*(a.x.val%2)
def encP (a:PF):List Int:=zl (limbsN 8 32 (encN a))
theorem c255:(2:Nat)^255=57896044618658097711785492504343953926634992332820282019728792003956564819968:=by decide
theorem val_lt (a:FF):a.val<57896044618658097711785492504343953926634992332820282019728792003956564819949:=a.isLt
theorem encN_lt (a:PF):encN a<2^256:=by
 unfold encN
 have h:=val_lt a.y
 have h2:a.x.val%2<2:=Nat.mod_lt _ (by decide)
 generalize a.x.val%2=o at *
 generalize a.y.val=y at *
 have h3:(2:Nat)^256=2^255*2:=by decide
 rw [h3,c255];omega
theorem encN_inj {a b:PF} (h:encN a=encN b):a.y=b.y/\a.x.val%2=b.x.val%2:=by
 unfold encN at h
 have h1:=val_lt a.y
 have h2:=val_lt b.y
 have h3:a.x.val%2<2:=Nat.mod_lt _ (by decide)
 have h4:b.x.val%2<2:=Nat.mod_lt _ (by decide)
 rw [c255] at h
 generalize a.x.val%2=o at *
 generalize b.x.val%2=o' at *
 have:a.y.val=b.y.val/\o=o':=by
  generalize a.y.val=y at *
  generalize b.y.val=y' at *
  omega
 exact ⟨Fin.ext this.1,this.2⟩
theorem sq_eq {x y:FF} (h:x*x=y*y):x=y\/x = -y:=by
 have:(x-y)*(x+y)=0:=by grind
 rcases fldFF.cases this with e|e
 ·left;grind
 ·right;grind
theorem neg_val {x y:FF} (h:x = -y) (hp:x.val%2=y.val%2):x=y:=by
 have hs:ph ((x.val+y.val:Nat):Int)=ph ((0:Nat):Int):=by
  rw [Int.natCast_add,ph_add,ph_val,ph_val,h]
  have:ph ((0:Nat):Int)=0:=ph_zero
  rw [this];grind
 rw [ph_nat] at hs
 have h1:=val_lt x
 have h2:=val_lt y
 apply Fin.ext
 generalize x.val=m at *
 generalize y.val=n at *
 have hs':(m+n)%57896044618658097711785492504343953926634992332820282019728792003956564819949=0:=hs
 have ho:57896044618658097711785492504343953926634992332820282019728792003956564819949%2=1:=by decide
 clear hs h
 generalize 57896044618658097711785492504343953926634992332820282019728792003956564819949=P at *
 by_cases hlt:m+n<P
 ·rw [Nat.mod_eq_of_lt hlt] at hs';omega
 ·rw [Nat.mod_eq_sub_mod (by omega),Nat.mod_eq_of_lt (by omega)] at hs'
  omega
theorem pt_eq {a b:PF} (hy:a.y=b.y) (hx:a.x.val%2=b.x.val%2):a=b:=by
 have h1:=a.on
 have h2:=b.on
 unfold OnA at h1 h2
 rw [hy] at h1
 have hk:1+dF*(b.y*b.y)≠0:=fun e=>by
  have hz:=fldFF.nsq iF b.y (by rw [fldFF.sq];grind)
  rw [hz] at e
  exact fldFF.two (by grind)
 have hm:(1+dF*(b.y*b.y))*(a.x*a.x-b.x*b.x)=0:=by
  generalize a.x=x at *
  generalize b.x=x' at *
  generalize b.y=y at *
  grind
 have hsq:a.x*a.x=b.x*b.x:=by
  have:=(fldFF.cases hm).resolve_left hk
  grind
 refine Pt.ext' ?_ hy
 rcases sq_eq hsq with e|e
 ·exact e
 ·exact neg_val e hx
theorem encP_inj {a b:PF} (h:encP a=encP b):a=b:=by
 have:=limbs_inj (by have:=encN_lt a;simpa using this) (by have:=encN_lt b;simpa using this) (zl_inj h)
 obtain ⟨h1,h2⟩:=encN_inj this
 exact pt_eq h1 h2
theorem encP_len (a:PF):(encP a).length=32:=by unfold encP;rw [zl_len,limbsN_len]
theorem encP_byt (a:PF):byt (encP a):=zl_byt (limbsN_lt 8 32 _)
theorem Bytes_is {p:T_points_Point} {a:PF} (hp:POk p) (h:Rep4 (p4 p) a):points_Point_Bytes p=some (encP a):=by
 obtain ⟨hx,hy⟩:=h.x_eq envF
 obtain ⟨v,e,kv,fv⟩:=InvertF hp.z
 unfold points_Point_Bytes
 rw [e,Option.bind_some]
 obtain ⟨x,e,kx,fx⟩:=TimesF hp.x kv;rw [e,Option.bind_some]
 obtain ⟨y,e,ky,fy⟩:=TimesF hp.y kv;rw [e,Option.bind_some,Bytes_some ky,Option.bind_some,Odd_some kx,Option.bind_some]
 have ex:fe x=a.x:=by rw [fx,fv];exact hx
 have ey:fe y=a.y:=by rw [fy,fv];exact hy
 have rx:res x=((a.x.val:Nat):Int):=by rw [fe_res,ex]
 have ry:res y=((a.y.val:Nat):Int):=by rw [fe_res,ey]
 have hb:bytesP (res y)=zl (limbsN 8 32 a.y.val):=by unfold bytesP;rw [ry,Int.toNat_natCast]
 have hyl:=val_lt a.y
 rw [hb,rx]
 unfold encP encN
 by_cases ho:a.x.val%2=1
 ·rw [decide_eq_true (by omega),cond_true,Option.bind_some,ho]
  obtain ⟨s1,s2⟩:=limbsN_set 8 (by decide) 32 (a.y.val+2^255*1) 255 (by decide)
  have e1:(a.y.val+2^255*1)%2^255=a.y.val:=by rw [c255];omega
  have e2:(a.y.val+2^255*1)/2^255%2=1:=by rw [c255];omega
  have e3:(a.y.val+2^255*1)%2^(255+1)=a.y.val+2^255*1:=Nat.mod_eq_of_lt (by
   have h3:(2:Nat)^(255+1)=2^255*2:=by decide
   rw [h3,c255];omega)
  rw [e1,e2,e3] at s2
  rw [e1] at s1
  replace s1:(limbsN 8 32 a.y.val).getD 31 0<2^7:=s1
  replace s2:(limbsN 8 32 a.y.val).set 31 ((limbsN 8 32 a.y.val).getD 31 0+2^7*1)=limbsN 8 32 (a.y.val+2^255*1):=s2
  have hor:bits .u8 .or (((limbsN 8 32 a.y.val).getD 31 0:Nat):Int) 128=(((limbsN 8 32 a.y.val).getD 31 0+2^7*1:Nat):Int):=by
   have:=bits_or8 (n:=(limbsN 8 32 a.y.val).getD 31 0) (m:=1*2^7) (by omega) (by decide)
   rw [or_add s1] at this
   exact this
  rw [zl_getD,hor,zl_set,s2]
 ·have h0:a.x.val%2=0:=by omega
  rw [decide_eq_false (by omega),cond_false,Option.bind_some,h0,Nat.mul_zero,Nat.add_zero]
theorem andNot128:∀ t:Fin 256,bits .u8 .andNot (t.val:Int) 128=((t.val%128:Nat):Int):=by decide
theorem and128:∀ t:Fin 256,(bits .u8 .and (t.val:Int) 128==0)=decide (t.val<128):=by decide
theorem lt_pow {Y a b:Nat} (h:Y<2^a) (hab:a≤b):Y<2^b:=Nat.lt_of_lt_of_le h (Nat.pow_le_pow_right (by decide) hab)
theorem lt255 {Y:Nat} (h:Y<57896044618658097711785492504343953926634992332820282019728792003956564819949):Y<2^255:=by rw [c255];omega
theorem modlt {Y w n:Nat} (h:Y<2^255) (hw:255≤w*n):Y%2^(w*n)=Y:=Nat.mod_eq_of_lt (lt_pow h hw)
theorem val26_n {Y:Nat} (n:Nat) (h:Y<2^255) (hw:255≤26*n):val26 (zl (limbsN 26 n Y))=(Y:Int):=by
 rw [val26_zl,valN_limbs,modlt h hw]
theorem Strict_is {Y:Nat} (h:Y<57896044618658097711785492504343953926634992332820282019728792003956564819949):∃ y,field_Strict (zl (limbsN 8 32 Y))=some (.inl y)/\EOk y/\fe y=ph (Y:Int):=by
 have hm:Y%2^255=Y:=Nat.mod_eq_of_lt (by rw [c255];omega)
 have hR:=Read_eq Y
 rw [hm] at hR
 have ok:EOk ⟨zl (limbsN 26 10 Y)⟩:=⟨zl_lim (limbsN_lt 26 10 Y),by rw [zl_len,limbsN_len]⟩
 have hv:res ⟨zl (limbsN 26 10 Y)⟩=(Y:Int):=by
  show val26 (zl (limbsN 26 10 Y))%PP=_
  rw [val26_n 10 (lt255 h) (by decide),Int.emod_eq_of_lt (Int.natCast_nonneg _) (by unfold PP;omega)]
 refine ⟨_,?_,ok,by unfold fe;rw [hv]⟩
 unfold field_Strict
 rw [hR,Option.bind_some,Bytes_some ok,Option.bind_some,hv]
 have:bytesP ((Y:Nat):Int)=zl (limbsN 8 32 Y):=by unfold bytesP;rw [Int.toNat_natCast]
 rw [this,cond_ff (by simp)]
theorem Read_is (a:PF):∃ r,points_Read (encP a)=some (.inl r)/\POk r/\Rep4 (p4 r) a:=by
 have hyl:=val_lt a.y
 have ho2:a.x.val%2<2:=Nat.mod_lt _ (by decide)
 obtain ⟨o,hoo⟩:∃ o,o=a.x.val%2:=⟨_,rfl⟩
 have hX:encN a=a.y.val+2^255*o:=by unfold encN;rw [hoo]
 have c248:(2:Nat)^248*256=2^256:=by decide
 have c248':(2:Nat)^248*128=2^255:=by decide
 have hXl:=encN_lt a
 have c3:(2:Nat)^256=2^255*2:=by decide
 -- the last byte
 have ht:(limbsN 8 32 (encN a)).getD 31 0=encN a/2^248:=by
  rw [limbsN_get 8 32 _ 31 (by decide)]
  exact Nat.mod_eq_of_lt (Nat.div_lt_of_lt_mul (by rw [c248];exact hXl))
 have htl:encN a/2^248<256:=Nat.div_lt_of_lt_mul (by rw [c248];exact hXl)
 have hYq:a.y.val/2^248<128:=Nat.div_lt_of_lt_mul (by rw [c248',c255];omega)
 have htq:encN a/2^248=a.y.val/2^248+128*o:=by
  rw [hX,show 2^255*o=2^248*(128*o) by rw [←c248',Nat.mul_assoc],Nat.add_mul_div_left _ _ (Nat.two_pow_pos _)]
 have hmod:encN a%2^248=a.y.val%2^248:=by
  rw [hX,show 2^255*o=2^248*(128*o) by rw [←c248',Nat.mul_assoc],Nat.add_mul_mod_self_left]
 have hset:∀ Z,Z<2^256->(limbsN 8 32 (Z%2^248)).set 31 (Z/2^248)=limbsN 8 32 Z:=fun Z hZ=>by
  obtain ⟨s1,s2⟩:=limbsN_setc 8 8 (by decide) (by decide) 32 Z 248 (by decide) (by decide)
  replace s1:(limbsN 8 32 (Z%2^248)).getD 31 0<1:=s1
  replace s2:(limbsN 8 32 (Z%2^248)).set 31 ((limbsN 8 32 (Z%2^248)).getD 31 0+1*(Z/2^248%2^8))=limbsN 8 32 (Z%2^256):=s2
  rw [show (limbsN 8 32 (Z%2^248)).getD 31 0=0 by omega,Nat.zero_add,Nat.one_mul,Nat.mod_eq_of_lt hZ,Nat.mod_eq_of_lt (a:=Z/2^248) (Nat.div_lt_of_lt_mul (by rw [show (2:Nat)^8=256 from rfl,c248];exact hZ))] at s2
  exact s2
 have hset2:(limbsN 8 32 (encN a)).set 31 (a.y.val/2^248)=limbsN 8 32 a.y.val:=by
  rw [←hset (encN a) hXl,List.set_set,hmod,hset a.y.val (by rw [c3,c255];omega)]
 have hb1:bits .u8 .andNot (((limbsN 8 32 (encN a)).getD 31 0:Nat):Int) 128=((a.y.val/2^248:Nat):Int):=by
  rw [ht,andNot128 ⟨_,htl⟩]
  show ((encN a/2^248%128:Nat):Int)=_
  rw [htq];congr 1;omega
 have hb2:(bits .u8 .and (((limbsN 8 32 (encN a)).getD 31 0:Nat):Int) 128==0)=decide (o=0):=by
  rw [ht,and128 ⟨_,htl⟩]
  show decide (encN a/2^248<128)=_
  rw [htq]
  congr 1
  apply propext
  omega
 obtain ⟨y,hS,ky,fy⟩:=Strict_is hyl
 rw [ph_val] at fy
 unfold points_Read
 unfold encP
 simp only [zl_getD,hb1,zl_set,hset2,hb2]
 rw [nm_eq,hS,Option.bind_some]
 dsimp only
 obtain ⟨yy,e,k1,f1⟩:=SquareF ky;rw [e,Option.bind_some,Small1,Option.bind_some]
 obtain ⟨u,e,k2,f2⟩:=SubF k1 e1_ok;rw [e,Option.bind_some,Curve_is,Option.bind_some]
 obtain ⟨v,e,k3,f3⟩:=TimesF eD_ok k1;rw [e,Option.bind_some]
 obtain ⟨v1,e,k4,f4⟩:=AddF k3 e1_ok;rw [e,Option.bind_some]
 obtain ⟨v2,e,k5,f5⟩:=InvertF k4;rw [e,Option.bind_some]
 obtain ⟨q,e,k6,f6⟩:=TimesF k2 k5;rw [e,Option.bind_some]
 have hq:a.x*a.x=fe q:=by
  rw [f6,f5,f4,f3,f2,f1,fy,fe_e1,eD_fe]
  have hk:dF*(a.y*a.y)+1≠0:=fun e=>by
   have hz:=fldFF.nsq iF a.y (by rw [fldFF.sq];grind)
   rw [hz] at e
   exact fldFF.two (by grind)
  have hn:=nvF_mul _ hk
  have on:=a.on
  unfold OnA at on
  generalize nvF (dF*(a.y*a.y)+1)=w at *
  generalize a.x=x at *
  generalize a.y=y' at *
  have:x*x*(dF*(y'*y')+1)=y'*y'-1:=by grind
  rw [←this]
  grind
 obtain ⟨r,b,hr,kr,g1,g2⟩:=Root_some k6
 have hbt:=g2 ⟨a.x,hq⟩
 obtain ⟨g3,g4⟩:=g1 hbt
 rw [hr,Option.bind_some,hbt]
 dsimp only
 rw [cond_ff (by rfl)]
 rw [←hq] at g3
 have hrv:res r=((fe r).val:Int):=fe_res r
 have hrp:(fe r).val%2=0:=by omega
 by_cases h0:o=0
 ·rw [decide_eq_true h0]
  have hx:fe r=a.x:=by
   rcases sq_eq g3 with e|e
   ·exact e
   ·exact neg_val e (by omega)
  obtain ⟨p,p1,p2,p3⟩:=at_some kr ky
  refine ⟨p,?_,p2,?_⟩
  ·rw [cond_ff (by rfl),cond_ff (by rfl),Option.bind_some,p1];rfl
  ·rw [p3,hx,fy]
   exact Rep4.at_ fldFF a.on
 ·rw [decide_eq_false h0]
  have hx:fe r = -a.x:=by
   rcases sq_eq g3 with e|e
   ·exfalso
    rw [e] at hrp
    omega
   ·exact e
  have hnz:res r≠0:=fun e=>by
   have:fe r=0:=by unfold fe;rw [e,ph_zero]
   rw [this] at hx
   have hx0:a.x=0:=by generalize a.x=x at *;grind
   rw [hx0] at hoo
   exact h0 hoo
  obtain ⟨s,e,ks,fs⟩:=SubF e0_ok kr
  obtain ⟨p,p1,p2,p3⟩:=at_some ks ky
  refine ⟨p,?_,p2,?_⟩
  ·rw [cond_tt (by rfl),Zero_some kr,Option.bind_some,decide_eq_false hnz,cond_ff (by rfl),cond_tt (by rfl),Small0,Option.bind_some,e,Option.bind_some,Option.bind_some,p1];rfl
  ·rw [p3,fs,fe_e0,hx,fy]
   have:(0:FF) - -a.x=a.x:=by generalize a.x=x;grind
   rw [this]
   exact Rep4.at_ fldFF a.on
end Go.Eng
