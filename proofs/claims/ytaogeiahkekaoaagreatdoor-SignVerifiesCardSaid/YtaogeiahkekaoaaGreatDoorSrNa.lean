/-
  Part of a proof: SrNa.
-/
import Derived.Test.YtaogeiahkekaoaaGreatDoorSgGa
import Derived.Test.YtaogeiahkekaoaaGreatDoorKemRa
set_option linter.unusedVariables false
set_option linter.unusedSimpArgs false
namespace Go.Eng
set_option maxRecDepth 100000
set_option maxHeartbeats 1000000
def rn (a:FF):List Int:=numP ((a.val:Nat):Int)
theorem val_in (a:FF):0≤((a.val:Nat):Int)/\((a.val:Nat):Int)<PP:=⟨Int.natCast_nonneg _,by rw [PP_eq];exact Int.ofNat_lt.2 a.isLt⟩
theorem upP {x:Int} (h:0≤x/\x<PP):0≤x/\x<P256:=⟨h.1,Int.lt_trans h.2 (by decide)⟩
theorem mulP_in (x y:Int):0≤mulP x y/\mulP x y<PP:=⟨Int.emod_nonneg _ (by decide),Int.emod_lt_of_pos _ (by decide)⟩
theorem addP_in (x y:Int):0≤addP x y/\addP x y<PP:=⟨Int.emod_nonneg _ (by decide),Int.emod_lt_of_pos _ (by decide)⟩
theorem subP_in (x y:Int):0≤subP x y/\subP x y<PP:=⟨Int.emod_nonneg _ (by decide),Int.emod_lt_of_pos _ (by decide)⟩
theorem rn_of {x:Int} {a:FF} (h:0≤x/\x<PP) (e:ph x=a):numP x=rn a:=by rw [rn,←ph_self h e]
theorem Tn (a b:FF):fr09_Times (rn a) (rn b)=some (rn (a*b)):=by
 have ha:=upP (val_in a);have hb:=upP (val_in b)
 rw [rn,rn,Times_ref ha.1 ha.2 hb.1 hb.2,rn_of (mulP_in _ _) (by rw [ph_mulP,ph_val,ph_val])]
theorem An (a b:FF):fr09_Add (rn a) (rn b)=some (rn (a+b)):=by
 have ha:=upP (val_in a);have hb:=upP (val_in b)
 rw [rn,rn,Add_ref ha.1 ha.2 hb.1 hb.2,rn_of (addP_in _ _) (by rw [ph_addP,ph_val,ph_val])]
theorem Sn (a b:FF):fr09_Sub (rn a) (rn b)=some (rn (a-b)):=by
 have ha:=upP (val_in a);have hb:=upP (val_in b)
 rw [rn,rn,Sub_ref ha.1 ha.2 hb.1 hb.2,rn_of (subP_in _ _) (by rw [ph_subP,ph_val,ph_val])]
theorem rn_zero:List.replicate 8 (0:Int)=rn 0:=by decide
theorem rn_one:List.set (List.replicate 8 (0:Int)) 0 1=rn 1:=by decide
theorem numP_inj {x y:Int} (hx:0≤x/\x<P256) (hy:0≤y/\y<P256) (h:numP x=numP y):x=y:=by
 rw [←numP_val hx.1 hx.2,←numP_val hy.1 hy.2,h]
theorem rn_inj {a b:FF} (h:rn a=rn b):a=b:=ph_ext (numP_inj (upP (val_in a)) (upP (val_in b)) h)
theorem rn_beq (a b:FF):(rn a==rn b)=decide (a=b):=by
 by_cases h:a=b
 ·rw [h,decide_eq_true rfl];simp
 ·rw [decide_eq_false h];exact beq_false_of_ne fun e=>h (rn_inj e)
theorem pow_nv (a:FF):ph (powP ((a.val:Nat):Int) PM2)=nvF a:=by
 rw [powP_nat]
 by_cases h0:a=0
 ·rw [h0,nvF_zero]
  obtain ⟨k,hk⟩:∃ k,PM2=k+1:=⟨57896044618658097711785492504343953926634992332820282019728792003956564819946,rfl⟩
  rw [hk,Nat.pow_succ,show (((0:FF).val^k*(0:FF).val)%PN)=0 by rw [show ((0:FF).val)=0 from rfl,Nat.mul_zero];rfl]
  exact ph_zero
 ·have hm:¬ PN∣a.val:=ph_ne.1 (by rw [ph_val];exact h0)
  have e:ph (((a.val^PM2%PN:Nat)):Int)*a=1:=by
   have e1:ph (((a.val^PM2%PN:Nat)):Int)=ph ((a.val^PM2:Nat):Int):=by rw [ph_nat,Nat.mod_mod]
   have e2:a=ph ((a.val:Nat):Int):=(ph_val a).symm
   rw [e1]
   conv=>lhs;rhs;rw [e2]
   rw [←ph_mulN,←Nat.pow_succ]
   exact ph_fermat hm rfl
  have hn:=nvF_mul a h0
  generalize ph (((a.val^PM2%PN:Nat)):Int)=x at *
  generalize nvF a=y at *
  grobner
theorem In (a:FF):fr09_Invert (rn a)=some (rn (nvF a)):=by
 have ha:=val_in a
 rw [rn,Invert_ref ha.1 ha.2,rn_of (powP_range _ _) (pow_nv a)]
theorem Cn:fr09_Curve=some (rn dF):=by kernel_rfl
theorem BXn:fr09_BaseX=some (rn (ph bxN)):=by kernel_rfl
theorem BYn:fr09_BaseY=some (rn (ph byN)):=by kernel_rfl
def tp (p:P3):T_fr12_Point:=⟨rn p.x,rn p.y,rn p.z⟩
theorem sum_gen {F:Type} (r:F->List Int) (m a s:F->F->F) (T:∀ x y,fr09_Times (r x) (r y)=some (r (m x y))) (A:∀ x y,fr09_Add (r x) (r y)=some (r (a x y))) (S:∀ x y,fr09_Sub (r x) (r y)=some (r (s x y))) (px py pz qx qy qz d:F) :
  fr12_Sum ⟨r px,r py,r pz⟩ ⟨r qx,r qy,r qz⟩ (r d)=some ⟨r (m (m (m pz qz) (a (m px qy) (m qx py))) (s (m (m pz qz) (m pz qz)) (m d (m (m px qx) (m py qy))))),r (m (m (m pz qz) (a (m py qy) (m px qx))) (a (m (m pz qz) (m pz qz)) (m d (m (m px qx) (m py qy))))),r (m (a (m (m pz qz) (m pz qz)) (m d (m (m px qx) (m py qy)))) (s (m (m pz qz) (m pz qz)) (m d (m (m px qx) (m py qy)))))⟩:=by
 unfold fr12_Sum
 dsimp only
 rw [T,Option.bind_some];generalize m pz qz=z
 rw [T,Option.bind_some];generalize m z z=w
 rw [T,Option.bind_some];generalize m px qx=xx
 rw [T,Option.bind_some];generalize m py qy=yy
 rw [T,Option.bind_some];generalize m xx yy=u
 rw [T,Option.bind_some];generalize m d u=e
 rw [A,Option.bind_some];generalize a w e=p
 rw [S,Option.bind_some];generalize s w e=l
 rw [T,Option.bind_some];generalize m px qy=c1
 rw [T,Option.bind_some];generalize m qx py=c2
 rw [A,Option.bind_some];generalize a c1 c2=cr
 rw [T,Option.bind_some];generalize m z cr=g1
 rw [T,Option.bind_some];generalize m g1 l=g2
 rw [A,Option.bind_some];generalize a yy xx=k1
 rw [T,Option.bind_some];generalize m z k1=k2
 rw [T,Option.bind_some];generalize m k2 p=k3
 rw [T,Option.bind_some]
theorem sum_P3 (d px py pz qx qy qz:FF):P3.sum d ⟨px,py,pz⟩ ⟨qx,qy,qz⟩=⟨pz*qz*(px*qy+qx*py)*(pz*qz*(pz*qz)-d*(px*qx*(py*qy))),pz*qz*(py*qy+px*qx)*(pz*qz*(pz*qz)+d*(px*qx*(py*qy))),(pz*qz*(pz*qz)+d*(px*qx*(py*qy)))*(pz*qz*(pz*qz)-d*(px*qx*(py*qy)))⟩:=by
 unfold P3.sum
 rfl
theorem Sum_ref (p q:P3):fr12_Sum (tp p) (tp q) (rn dF)=some (tp (P3.sum dF p q)):=by
 obtain ⟨px,py,pz⟩:=p
 obtain ⟨qx,qy,qz⟩:=q
 rw [sum_P3]
 exact sum_gen rn (fun a b=>a*b) (fun a b=>a+b) (fun a b=>a-b) Tn An Sn px py pz qx qy qz dF
theorem Zero_ref:fr12_Zero=some (tp ⟨0,1,1⟩):=by
 unfold fr12_Zero fr12_one tp
 rw [Option.bind_some,Option.bind_some,rn_one,rn_zero]
theorem Base_ref:fr12_Base=some (tp ⟨ph bxN,ph byN,1⟩):=by
 unfold fr12_Base fr12_one tp
 rw [BXn,Option.bind_some,BYn,Option.bind_some,Option.bind_some,rn_one]
theorem Base_rep:Rep3 ⟨ph bxN,ph byN,1⟩ B:=Rep3.at_ fldFF base_on
theorem Zero_rep:Rep3 ⟨0,1,1⟩ (Pt.zero:PF):=⟨fun e=>fldFF.two (by grobner),by show (0:FF)=0*1;grobner,by show (1:FF)=1*1;grobner⟩
theorem bitR (K i:Nat) (hi:i<256):(bits .u8 .and (((limbsN 8 32 K).getD (i/8) 0/2^(i%8):Nat):Int) 1:Int)=((K/2^i%2:Nat):Int):=by
 have h1:=limbsN_bits 8 1 (by decide) 32 K i (by omega) (by omega)
 have h2:(limbsN 8 32 K).getD (i/8) 0<256:=getD_lt (limbsN_lt 8 32 K) (by decide) _
 rw [and1_8 (Nat.lt_of_le_of_lt (Nat.div_le_self _ _) h2)]
 rw [Nat.pow_one] at h1
 rw [h1]
theorem beqR (m:Nat) (h:m<2):(((m:Nat):Int)==1)=decide (m=1):=by
 match m,h with
 |0,_=>rfl
 |1,_=>rfl
theorem i8 {i:Nat} (h:i<256):IntKind.wrap .i64 (Int.tdiv (i:Int) 8)=((i/8:Nat):Int)/\IntKind.wrap .u64 (Int.tmod (i:Int) 8)=((i%8:Nat):Int)/\min (i%8) (IntKind.bits .u8)=i%8 :=
 ⟨by rw [show Int.tdiv (i:Int) 8=((i/8:Nat):Int) from rfl,i64n (by omega)],by rw [show Int.tmod (i:Int) 8=((i%8:Nat):Int) from rfl,u64n,Nat.mod_eq_of_lt (by omega)],by show min _ 8=_;omega⟩
theorem RWith_l1 {p both:P3} {a:PF} {h s:Nat} (ha:Rep3 p a) (hb:Rep3 both (a.add envF B)):∀ (i n:Nat) (x:P3),i<n->i≤256->Rep3 x ((Pt.mul envF a (h/2^i)).add envF (Pt.mul envF B (s/2^i))) ->
  ∃ r,fr12_With_l1 (tp p) (zl (limbsN 8 32 h)) (zl (limbsN 8 32 s)) (rn dF) (tp ⟨ph bxN,ph byN,1⟩) (tp both) n ((i:Int)-1) (tp x)=some (tp r)/\Rep3 r ((Pt.mul envF a h).add envF (Pt.mul envF B s))
 |i,0,x,h,_,_=>absurd h (Nat.not_lt_zero _)
 |0,n+1,x,_,_,rx=>by
  rw [fr12_With_l1.eq_2,cond_ff (by decide)]
  rw [Nat.pow_zero,Nat.div_one,Nat.div_one] at rx
  exact ⟨x,rfl,rx⟩
 |i+1,n+1,x,hin,h',rx=>by
  obtain ⟨e1,e2,e3⟩:=i8 (i:=i) (by omega)
  have hd:=Rep3.sum envF rx rx
  rw [add4,mul_dbl,mul_dbl] at hd
  have hs:=half_step s i
  have hh:=half_step h i
  have main:∀ y,Rep3 y ((Pt.mul envF a (h/2^i)).add envF (Pt.mul envF B (s/2^i)))->∃ r,fr12_With_l1 (tp p) (zl (limbsN 8 32 h)) (zl (limbsN 8 32 s)) (rn dF) (tp ⟨ph bxN,ph byN,1⟩) (tp both) n ((i:Int)-1) (tp y)=some (tp r)/\Rep3 r ((Pt.mul envF a h).add envF (Pt.mul envF B s)):=fun y ry=>RWith_l1 ha hb i n y (by omega) (by omega) ry
  rw [fr12_With_l1.eq_2,show ((i+1:Nat):Int)-1=(i:Int) by omega,cond_tt (by simp),Sum_ref,Option.bind_some,e1,e2]
  simp only [nm_eq,Int.toNat_natCast,e3,zl_getD,fdivn,bitR h i (show i<256 by omega),bitR s i (show i<256 by omega),beqR _ (Nat.mod_lt _ (show 0<2 by decide)),wrap_i64 (n:=(i:Int)-1) (by omega) (by omega)]
  rw [if_pos (by omega),if_pos (by omega),if_pos (by omega),if_pos (by omega)]
  by_cases h1:h/2^i%2=1<;>by_cases h2:s/2^i%2=1
  ·rw [decide_eq_true h1,decide_eq_true h2]
   simp only [cond_true,Sum_ref,Option.bind_some]
   refine main _ ?_
   rw [hs,hh,h1,h2,←mul_succ,←mul_succ,←add4]
   exact Rep3.sum envF hd hb
  ·rw [decide_eq_true h1,decide_eq_false h2]
   simp only [cond_true,cond_false,Sum_ref,Option.bind_some]
   refine main _ ?_
   rw [hs,hh,h1,show s/2^i%2=0 by omega,Nat.add_zero,←mul_succ]
   have:=Rep3.sum envF hd ha
   rw [Pt.add_assoc,Pt.add_comm envF _ a,←Pt.add_assoc] at this
   exact this
  ·rw [decide_eq_false h1,decide_eq_true h2]
   simp only [cond_true,cond_false,Sum_ref,Option.bind_some]
   refine main _ ?_
   rw [hs,hh,h2,show h/2^i%2=0 by omega,Nat.add_zero,←mul_succ]
   have:=Rep3.sum envF hd Base_rep
   rw [Pt.add_assoc] at this
   exact this
  ·rw [decide_eq_false h1,decide_eq_false h2]
   simp only [cond_false,Option.bind_some]
   refine main _ ?_
   rw [hs,hh,show h/2^i%2=0 by omega,show s/2^i%2=0 by omega,Nat.add_zero,Nat.add_zero]
   exact hd
theorem RWith {p:P3} {a:PF} {h s:Nat} (ha:Rep3 p a) (hh:h<2^256) (hs:s<2^256):∃ r,fr12_With (tp p) (zl (limbsN 8 32 h)) (zl (limbsN 8 32 s))=some (tp r)/\Rep3 r ((Pt.mul envF a h).add envF (Pt.mul envF B s)):=by
 obtain ⟨r,h1,h2⟩:=RWith_l1 (h:=h) (s:=s) ha (Rep3.sum envF ha Base_rep) 256 FUEL ⟨0,1,1⟩ (big _ (by decide)) (by decide) (by
  rw [pow256 hs,pow256 hh]
  show Rep3 _ (Pt.zero.add envF Pt.zero)
  rw [Pt.zero_add];exact Zero_rep)
 refine ⟨r,?_,h2⟩
 unfold fr12_With
 rw [Cn,Option.bind_some,Base_ref,Option.bind_some,Sum_ref,Option.bind_some,Zero_ref,Option.bind_some,show (255:Int)=((256:Nat):Int)-1 from rfl,h1];rfl
theorem Neg_ref {p:P3} {a:PF} (ha:Rep3 p a):∃ r,fr12_Negate (tp p)=some (tp r)/\Rep3 r a.neg:=by
 refine ⟨⟨0-p.x,p.y,p.z⟩,?_,Rep3.neg ha⟩
 unfold fr12_Negate tp
 rw [rn_zero,Sn];rfl
end Go.Eng
namespace Go.Eng
set_option maxRecDepth 100000
set_option maxHeartbeats 1000000
theorem rn_par (a:FF):Int.tmod (List.getD (rn a) 0 0) 2=((a.val%2:Nat):Int):=by
 unfold rn numP
 rw [zl_getD,limbsN_get 32 8 _ 0 (by decide),Int.toNat_natCast]
 show ((a.val/2^(32*0)%2^32%2:Nat):Int)=_
 congr 1
 rw [Nat.mul_zero,Nat.pow_zero,Nat.div_one]
 omega
theorem RBytes {p:P3} {a:PF} (h:Rep3 p a):fr12_Bytes (tp p)=some (encP a):=by
 obtain ⟨hx,hy⟩:=h.x_eq envF
 have hyl:=val_lt a.y
 have hin:=upP (val_in a.y)
 unfold fr12_Bytes tp
 rw [In,Option.bind_some,Tn,Option.bind_some,Tn,Option.bind_some,hx,hy]
 rw [show fr09_Bytes (rn a.y)=some (bytesP ((a.y.val:Nat):Int)) from Bytes_ref hin.1 hin.2,Option.bind_some,rn_par,beqR _ (Nat.mod_lt _ (by decide))]
 have hb:bytesP ((a.y.val:Nat):Int)=zl (limbsN 8 32 a.y.val):=by unfold bytesP;rw [Int.toNat_natCast]
 rw [hb]
 unfold encP encN
 by_cases ho:a.x.val%2=1
 ·rw [decide_eq_true ho,cond_true,nm_eq,Option.bind_some,ho]
  obtain ⟨s1,s2⟩:=limbsN_set 8 (by decide) 32 (a.y.val+2^255*1) 255 (by decide)
  have e1:(a.y.val+2^255*1)%2^255=a.y.val:=by rw [c255];omega
  have e2:(a.y.val+2^255*1)/2^255%2=1:=by rw [c255];omega
  have e3:(a.y.val+2^255*1)%2^(255+1)=a.y.val+2^255*1:=Nat.mod_eq_of_lt (by
   have h3:(2:Nat)^(255+1)=2^255*2:=by decide
   rw [h3,c255];omega)
  rw [e1,e2,e3] at s2
  rw [e1] at s1
  replace s1:(limbsN 8 32 a.y.val).getD 31 0<128:=s1
  replace s2:(limbsN 8 32 a.y.val).set 31 ((limbsN 8 32 a.y.val).getD 31 0+2^7*1)=limbsN 8 32 (a.y.val+2^255*1):=s2
  have hor:IntKind.wrap .u8 ((((limbsN 8 32 a.y.val).getD 31 0:Nat):Int)+128)=(((limbsN 8 32 a.y.val).getD 31 0+2^7*1:Nat):Int):=by
   rw [show (((limbsN 8 32 a.y.val).getD 31 0:Nat):Int)+128=(((limbsN 8 32 a.y.val).getD 31 0+128:Nat):Int) from rfl,u8n,Nat.mod_eq_of_lt (by omega)]
  rw [zl_getD,hor,zl_set,s2]
 ·have h0:a.x.val%2=0:=by omega
  rw [decide_eq_false ho,cond_false,Option.bind_some,h0,Nat.mul_zero,Nat.add_zero]
def pw (a:FF) (E:Nat):FF:=ph ((a.val^E:Nat):Int)
theorem pw_mul (a:FF) (j k:Nat):pw a (j+k)=pw a j*pw a k:=ph_pow_add _ _ _
theorem pw_one (a:FF):pw a 1=a:=by unfold pw;rw [Nat.pow_one,ph_val]
theorem Pn (a:FF) {E:Nat} (hE:E<2^256):fr09_Power (rn a) (numP (E:Nat))=some (rn (pw a E)):=by
 have ha:=val_in a
 have h:=Power_l1 _ ha.1 ha.2 E 256 FUEL (big _ (by decide)) (by decide)
 rw [pow256 hE,powP_zero] at h
 have h:fr09_Power_l1 (rn a) (numP (E:Nat)) FUEL 255 (List.set (List.replicate 8 (0:Int)) 0 1)=_:=h
 unfold fr09_Power
 rw [h,Option.bind_some,rn_of (powP_range _ _)]
 rw [powP_nat,pw,ph_nat,Nat.mod_mod]
theorem minusP (x:Nat) (hx:(x:Int)≤PP):fr09_minus (numP PP) (numP (x:Nat))=some (numP (PP-(x:Nat))):=minus_some (by decide) (by decide) (Int.natCast_nonneg _) hx
theorem m1:fr09_minus (numP PP) (rn 1)=some (numP (PP-1)):=by kernel_rfl
theorem h1:fr09_half (numP (PP-1))=some (numP ((28948022309329048855892746252171976963317496166410141009864396001978282409974:Nat):Int)):=by kernel_rfl
theorem h2:fr09_half (numP ((28948022309329048855892746252171976963317496166410141009864396001978282409974:Nat):Int))=some (numP ((14474011154664524427946373126085988481658748083205070504932198000989141204987:Nat):Int)):=by kernel_rfl
theorem m5:(fr09_minus (numP PP) (List.set (rn 0) 0 5)).bind (fun x=>(fr09_half x).bind fun x=>(fr09_half x).bind fun x=>fr09_half x)=some (numP ((7237005577332262213973186563042994240829374041602535252466099000494570602493:Nat):Int)):=by kernel_rfl
theorem n2:List.set (List.replicate 8 (0:Int)) 0 2=rn 2:=by decide
theorem two_i:pw 2 14474011154664524427946373126085988481658748083205070504932198000989141204987*pw 2 14474011154664524427946373126085988481658748083205070504932198000989141204987 = -1:=by
 have h:powm PN 256 2 kN=PN-1:=by kernel_rfl
 rw [powm_eq PN 256 2 kN (by decide)] at h
 rw [←pw_mul,show 14474011154664524427946373126085988481658748083205070504932198000989141204987+14474011154664524427946373126085988481658748083205070504932198000989141204987=kN from rfl]
 have e:pw 2 kN=ph ((PN-1:Nat):Int):=by
  unfold pw
  rw [ph_nat,show ((2:FF).val)=2 from rfl,h];rfl
 rw [e];decide
theorem pw_root {a w:FF} (ha:a≠0) (h:w*w=a):pw a kN=1:=by
 have hw:w≠0:=fun e=>ha (by rw [←h,e];grobner)
 have hm:¬ PN∣w.val:=ph_ne.1 (by rw [ph_val];exact hw)
 have e:a=ph ((w.val*w.val:Nat):Int):=by rw [ph_mulN,ph_val,h]
 have e2:a.val%PN=(w.val*w.val)%PN:=ph_nat.1 (by rw [ph_val];exact e)
 have hp:=half_pow priPN two_kN hm
 unfold pw
 rw [←ph_one,show (1:Int)=((1:Nat):Int) from rfl,ph_nat,Nat.pow_mod,e2,←Nat.pow_mod,hp];rfl
theorem neg_evenR {r:FF} (h:r.val%2=1):fr09_minus (numP PP) (rn r)=some (rn (-r))/\(-r).val%2=0:=by
 have hr:=val_in r
 have hp:PP%2=1:=by decide
 have hi:0≤PP-((r.val:Nat):Int)/\PP-((r.val:Nat):Int)<PP:=by
  generalize PP=P at *;omega
 have e:ph (PP-((r.val:Nat):Int)) = -r:=by
  rw [ph_sub,ph_val]
  have h3:ph PP=0:=by rw [←ph_zero,ph_eq];decide
  rw [h3];grobner
 refine ⟨?_,?_⟩
 ·rw [rn,minusP _ (Int.le_of_lt hr.2),rn_of hi e]
 ·have:=ph_self hi e
  generalize (-r).val=q at *
  generalize PP=P at *
  omega
theorem RRoot (a:FF):∃ e b,fr09_Root (rn a)=some (rn e,b)/\(b=true->e*e=a/\e.val%2=0)/\((∃ w,w*w=a)->b=true):=by
 have ha:=val_in a
 unfold fr09_Root
 have hL:fr09_Least (rn a)=some (rn a):=by
  rw [rn,Least_some ha.1 (upP ha).2,Int.emod_eq_of_lt ha.1 ha.2]
 rw [hL,Option.bind_some,rn_one,n2,rn_zero,rn_beq]
 by_cases h0:a=0
 ·rw [decide_eq_true h0,cond_true]
  exact ⟨a,true,rfl,fun _=>by rw [h0];exact ⟨by grobner,rfl⟩,fun _=>rfl⟩
 rw [decide_eq_false h0,cond_false,P_eq,Option.bind_some,m1,Option.bind_some,h1,Option.bind_some,Pn a (by decide),Option.bind_some,rn_beq]
 obtain ⟨k,hk⟩:∃ k,k=28948022309329048855892746252171976963317496166410141009864396001978282409974:=⟨_,rfl⟩
 rw [←hk]
 by_cases hq:pw a k=1
 rotate_left
 ·rw [decide_eq_false hq,cond_tt (by rfl)]
  exact ⟨0,false,rfl,fun h=>(by cases h),fun ⟨w,hw⟩=>absurd (by rw [hk];exact pw_root h0 hw) hq⟩
 rw [decide_eq_true hq,cond_ff (by rfl),Option.bind_some]
 have hm5:=m5
 obtain ⟨y1,g1,hm5⟩:=bnd hm5
 obtain ⟨y2,g2,hm5⟩:=bnd hm5
 obtain ⟨y3,g3,g4⟩:=bnd hm5
 rw [g1,Option.bind_some,g2,Option.bind_some,g3,Option.bind_some,g4,Option.bind_some,Pn a (by decide),Option.bind_some,Tn,Option.bind_some,Tn,Option.bind_some,rn_beq]
 obtain ⟨j,hj⟩:∃ j,j=14474011154664524427946373126085988481658748083205070504932198000989141204987:=⟨_,rfl⟩
 obtain ⟨K,hK⟩:∃ K,K=7237005577332262213973186563042994240829374041602535252466099000494570602493:=⟨_,rfl⟩
 have hti:=two_i
 rw [Option.bind_some,m1,Option.bind_some,h1,Option.bind_some,h2,Option.bind_some,Pn 2 (by decide),Option.bind_some,Tn,Option.bind_some]
 rw [←hj] at hti ⊢
 rw [←hK]
 have e2:pw a K*a*(pw a K*a)=pw a j*a:=by
  have:pw a K*a*(pw a K*a)=pw a (K+K+1)*a:=by
   rw [pw_mul,pw_mul,pw_one];grobner
  rw [this,show K+K+1=j by rw [hK,hj]]
 have eT:pw a j*pw a j=1:=by rw [←pw_mul,show j+j=k by rw [hj,hk],hq]
 obtain ⟨r,hr,hrr⟩:∃ r,((cond (!decide (pw a K*a*(pw a K*a)=a)) (some (rn (pw a K*a*pw 2 j))) (some (rn (pw a K*a))):Option (List Int)))=some (rn r)/\r*r=a:=by
  by_cases hs:pw a K*a*(pw a K*a)=a
  ·rw [decide_eq_true hs]
   exact ⟨_,rfl,hs⟩
  ·rw [decide_eq_false hs]
   refine ⟨_,rfl,?_⟩
   rw [e2] at hs
   have hc:(pw a j-1)*(pw a j+1)=0:=by
    generalize pw a j=T at *;grobner
   rcases fldFF.cases hc with h|h
   ·exact absurd (by generalize pw a j=T at *;grobner) hs
   ·generalize pw a j=T at *
    generalize pw 2 j=s at *
    generalize pw a K=R at *
    grobner
 rw [hr,Option.bind_some,rn_par,beqR _ (Nat.mod_lt _ (by decide))]
 by_cases ho:r.val%2=1
 ·obtain ⟨f1,f2⟩:=neg_evenR ho
  rw [decide_eq_true ho,cond_true,Option.bind_some,f1,Option.bind_some,Option.bind_some]
  exact ⟨-r,true,rfl,fun _=>⟨by rw [←hrr];grobner,f2⟩,fun _=>rfl⟩
 ·rw [decide_eq_false ho,cond_false,Option.bind_some]
  exact ⟨r,true,rfl,fun _=>⟨hrr,by omega⟩,fun _=>rfl⟩
theorem even_eq {x y:FF} (h:x*x=y*y) (hx:x.val%2=0) (hy:y.val%2=0):x=y:=by
 rcases sq_eq h with e|e
 ·exact e
 ·exact neg_val e (by omega)
end Go.Eng
namespace Go.Eng
set_option maxRecDepth 100000
set_option maxHeartbeats 1000000
theorem limbsN_splt (w:Nat):∀ n X,limbsN w (n+1) X=limbsN w n X++[X/2^(w*n)%2^w]
 |0,X=>by simp [limbsN]
 |n+1,X=>by
  rw [limbsN,limbsN_splt w n,limbsN,List.cons_append,Nat.div_div_eq_div_mul,←Nat.pow_add,Nat.mul_succ,Nat.add_comm w]
theorem limbsN_modm (w:Nat):∀ n X m,w*n≤m->limbsN w n (X%2^m)=limbsN w n X
 |0,_,_,_=>rfl
 |n+1,X,m,h=>by
  rw [Nat.mul_succ] at h
  obtain ⟨k,rfl⟩:∃ k,m=w+k:=⟨m-w,by omega⟩
  rw [limbsN,limbsN,Nat.mod_mod_of_dvd _ ⟨2^k,Nat.pow_add ..⟩,Nat.pow_add,Nat.mod_mul_right_div_self,limbsN_modm w n _ k (by omega)]
theorem mask_top (U:Nat):(zl (limbsN 8 32 U)).set 31 (Int.tmod ((zl (limbsN 8 32 U)).getD 31 0) 128)=zl (limbsN 8 32 (U%2^255)):=by
 rw [zl_getD,limbsN_get 8 32 U 31 (by decide)]
 rw [show Int.tmod ((U/2^(8*31)%2^8:Nat):Int) 128=((U/2^(8*31)%2^8%128:Nat):Int) from rfl,zl_set]
 congr 1
 rw [limbsN_splt 8 31 U,limbsN_splt 8 31 (U%2^255),limbsN_modm 8 31 U 255 (by decide)]
 rw [List.set_append_right _ _ (by rw [limbsN_len];decide),limbsN_len]
 congr 1
 simp only [Nat.sub_self,List.set_cons_zero]
 rw [show (255:Nat)=8*31+7 from rfl,Nat.pow_add,Nat.mod_mul_right_div_self]
 rw [show (128:Nat)=2^7 from rfl,Nat.mod_mod_of_dvd _ (show 2^7∣2^8 by decide),Nat.mod_eq_of_lt (a:=U/2^(8*31)%2^7) (Nat.lt_of_lt_of_le (Nat.mod_lt _ (by decide)) (by decide))]
theorem mask31 (U:Nat):(zl (limbsN 8 32 U)).set 31 (((limbsN 8 32 U).getD 31 0%128:Nat):Int)=zl (limbsN 8 32 (U%2^255)):=by
 have h:=mask_top U
 rw [zl_getD] at h
 exact h
theorem on_of {x y:FF} (h:x*x=(y*y-1)*nvF (dF*(y*y)+1)):OnA dF x y:=by
 have hk:dF*(y*y)+1≠0:=fun e=>by
  have hz:=fldFF.nsq iF y (by rw [fldFF.sq];grobner)
  rw [hz] at e
  exact fldFF.two (by grobner)
 have hn:=nvF_mul _ hk
 unfold OnA
 generalize nvF (dF*(y*y)+1)=w at *
 grobner
theorem Strict_no {Y:Nat} (h:Y<2^255) (hY:¬ Y<57896044618658097711785492504343953926634992332820282019728792003956564819949):field_Strict (zl (limbsN 8 32 Y))=some (.inr ()):=by
 have hm:Y%2^255=Y:=Nat.mod_eq_of_lt h
 have hR:=Read_eq Y
 rw [hm] at hR
 have ok:EOk ⟨zl (limbsN 26 10 Y)⟩:=⟨zl_lim (limbsN_lt 26 10 Y),by rw [zl_len,limbsN_len]⟩
 unfold field_Strict
 rw [hR,Option.bind_some,Bytes_some ok,Option.bind_some]
 have hv:res ⟨zl (limbsN 26 10 Y)⟩=((Y%57896044618658097711785492504343953926634992332820282019728792003956564819949:Nat):Int):=by
  show val26 (zl (limbsN 26 10 Y))%PP=_
  rw [val26_n 10 h (by decide)];rfl
 have hne:¬ bytesP (res ⟨zl (limbsN 26 10 Y)⟩)=zl (limbsN 8 32 Y):=fun e=>by
  rw [hv] at e
  unfold bytesP at e
  rw [Int.toNat_natCast] at e
  have h2:Y%57896044618658097711785492504343953926634992332820282019728792003956564819949<57896044618658097711785492504343953926634992332820282019728792003956564819949:=Nat.mod_lt _ (by decide)
  have:=limbs_inj (lt_pow (lt255 h2) (by decide)) (lt_pow h (by decide)) (zl_inj e)
  omega
 rw [cond_tt (by rw [beq_false_of_ne hne];rfl)]
theorem ReadB {X:Nat} (hX:X<2^256) :
  (∃ r q,∃ a:PF,points_Read (zl (limbsN 8 32 X))=some (.inl r)/\POk r/\Rep4 (p4 r) a/\fr12_Read (zl (limbsN 8 32 X))=some (tp q,0)/\Rep3 q a) \/
  ((∃ q,points_Read (zl (limbsN 8 32 X))=some (.inr q))/\∃ q,fr12_Read (zl (limbsN 8 32 X))=some (q,4)):=by
 have htl:(limbsN 8 32 X).getD 31 0<256:=getD_lt (limbsN_lt 8 32 X) (by decide) _
 obtain ⟨t,ht⟩:∃ t,t=(limbsN 8 32 X).getD 31 0:=⟨_,rfl⟩
 rw [←ht] at htl
 obtain ⟨Y,hYe⟩:∃ Y,Y=X%2^255:=⟨_,rfl⟩
 have hY:Y<2^255:=by rw [hYe];exact Nat.mod_lt _ (Nat.two_pow_pos _)
 have hmask:=mask31 X
 rw [←ht,←hYe] at hmask
 have hb1:bits .u8 .andNot (t:Int) 128=((t%128:Nat):Int):=andNot128 ⟨t,htl⟩
 have hb2:(!(bits .u8 .and (t:Int) 128==0))=decide (128≤t):=by
  rw [show (bits .u8 .and (t:Int) 128==0)=decide (t<128) from and128 ⟨t,htl⟩]
  by_cases h:t<128
  ·rw [decide_eq_true h,decide_eq_false (by omega)];rfl
  ·rw [decide_eq_false h,decide_eq_true (by omega)];rfl
 have hb3:decide (((t:Nat):Int)≥128)=decide (128≤t):=by
  congr 1;apply propext;omega
 have hb4:Int.tmod ((t:Nat):Int) 128=((t%128:Nat):Int):=rfl
 have hRd:fr09_Read (zl (limbsN 8 32 Y))=some (numP ((Y:Nat):Int)):=by
  rw [Read_ref,Nat.mod_eq_of_lt (lt_pow hY (by decide))]
  unfold numP;rw [Int.toNat_natCast]
 have hYi:(0:Int)≤((Y:Nat):Int)/\((Y:Nat):Int)<P256:=⟨Int.natCast_nonneg _,by
  have h2:Y<2^256:=lt_pow hY (by decide)
  have h3:(2:Nat)^256=115792089237316195423570985008687907853269984665640564039457584007913129639936:=by decide
  rw [h3] at h2;show ((Y:Nat):Int)<((115792089237316195423570985008687907853269984665640564039457584007913129639936:Nat):Int);exact Int.ofNat_lt.2 h2⟩
 unfold points_Read fr12_Read
 simp only [zl_getD,←ht,hb1,hb2,hb3,hb4,hmask]
 rw [nm_eq,hRd,Option.bind_some,Least_some hYi.1 hYi.2,Option.bind_some]
 by_cases hlt:Y<57896044618658097711785492504343953926634992332820282019728792003956564819949
 rotate_left
 ·right
  rw [Strict_no hY hlt,Option.bind_some]
  refine ⟨⟨_,rfl⟩,?_⟩
  have hne:¬ numP (((Y:Nat):Int)%PP)=numP ((Y:Nat):Int):=fun e=>by
   have hr:0≤((Y:Nat):Int)%PP/\((Y:Nat):Int)%PP<PP:=⟨Int.emod_nonneg _ (by decide),Int.emod_lt_of_pos _ (by decide)⟩
   have:=numP_inj (upP hr) hYi e
   have h3:((57896044618658097711785492504343953926634992332820282019728792003956564819949:Nat):Int)≤((Y:Nat):Int):=Int.ofNat_le.2 (Nat.not_lt.1 hlt)
   have h4:PP=((57896044618658097711785492504343953926634992332820282019728792003956564819949:Nat):Int):=rfl
   rw [←h4] at h3
   exact absurd hr.2 (by rw [this];exact Int.not_lt.2 h3)
  rw [cond_tt (by rw [beq_false_of_ne hne];rfl)]
  exact ⟨_,rfl⟩
 have hYP:0≤((Y:Nat):Int)/\((Y:Nat):Int)<PP:=⟨Int.natCast_nonneg _,Int.ofNat_lt.2 hlt⟩
 obtain ⟨y,hy⟩:∃ y:FF,y=ph ((Y:Nat):Int):=⟨_,rfl⟩
 have hnY:numP ((Y:Nat):Int)=rn y:=rn_of hYP hy.symm
 obtain ⟨ye,hS,ky,fy⟩:=Strict_is hlt
 rw [←hy] at fy
 rw [hS,Option.bind_some,Int.emod_eq_of_lt hYP.1 hYP.2,cond_ff (by simp),hnY]
 dsimp only
 obtain ⟨yy,e,k1,f1⟩:=SquareF ky;rw [e,Option.bind_some,Small1,Option.bind_some]
 obtain ⟨u,e,k2,f2⟩:=SubF k1 e1_ok;rw [e,Option.bind_some,Curve_is,Option.bind_some]
 obtain ⟨v,e,k3,f3⟩:=TimesF eD_ok k1;rw [e,Option.bind_some]
 obtain ⟨v1,e,k4,f4⟩:=AddF k3 e1_ok;rw [e,Option.bind_some]
 obtain ⟨v2,e,k5,f5⟩:=InvertF k4;rw [e,Option.bind_some]
 obtain ⟨q,e,k6,f6⟩:=TimesF k2 k5;rw [e,Option.bind_some]
 have hq:fe q=(y*y-1)*nvF (dF*(y*y)+1):=by rw [f6,f5,f4,f3,f2,f1,fy,fe_e1,eD_fe]
 unfold fr12_one
 rw [Tn,Option.bind_some,Option.bind_some,rn_one,Sn,Option.bind_some,Cn,Option.bind_some,Tn,Option.bind_some,Option.bind_some,An,Option.bind_some,In,Option.bind_some,Tn,Option.bind_some]
 obtain ⟨r,b,hr,kr,g1,g2⟩:=Root_some k6
 obtain ⟨e',b',hr',g1',g2'⟩:=RRoot ((y*y-1)*nvF (dF*(y*y)+1))
 rw [hr,hr',Option.bind_some,Option.bind_some]
 dsimp only
 rw [hq] at g1 g2
 cases b with
 |false =>
  cases b' with
  |true=>exact absurd (g2 ⟨e',(g1' rfl).1⟩) (by simp)
  |false=>right;exact ⟨⟨_,rfl⟩,⟨_,rfl⟩⟩
 |true =>
  cases b' with
  |false=>exact absurd (g2' ⟨fe r,(g1 rfl).1⟩) (by simp)
  |true =>
   obtain ⟨s1,s2⟩:=g1 rfl
   obtain ⟨t1,t2⟩:=g1' rfl
   have hrv:res r=((fe r).val:Int):=fe_res r
   have hee:fe r=e':=even_eq (by rw [s1,t1]) (by omega) t2
   simp only [Bool.not_true,cond_false]
   by_cases ho:128≤t
   ·rw [decide_eq_true ho]
    simp only [cond_true]
    rw [Zero_some kr,Option.bind_some,rn_zero,rn_beq]
    by_cases hz:e'=0
    ·right
     have hz2:res r=0:=by rw [hrv,hee,hz];rfl
     rw [decide_eq_true hz,decide_eq_true hz2]
     exact ⟨⟨_,rfl⟩,⟨_,rfl⟩⟩
    ·left
     have hz2:res r≠0:=fun e=>by
      have:fe r=0:=by unfold fe;rw [e,ph_zero]
      exact hz (by rw [←hee,this])
     rw [decide_eq_false hz,decide_eq_false hz2,cond_ff (by rfl),cond_ff (by rfl)]
     obtain ⟨s,e,ks,fs⟩:=SubF e0_ok kr
     obtain ⟨p,p1,p2,p3⟩:=at_some ks ky
     have on:OnA dF (0-e') y:=on_of (by rw [←t1];grobner)
     refine ⟨p,⟨0-e',y,1⟩,⟨0-e',y,on⟩,?_,p2,?_,?_,Rep3.at_ fldFF on⟩
     ·rw [Small0,Option.bind_some,e,Option.bind_some,Option.bind_some,p1];rfl
     ·rw [p3,fs,fe_e0,hee,fy];exact Rep4.at_ fldFF on
     ·rw [Sn,Option.bind_some,Option.bind_some,Option.bind_some];rfl
   ·left
    rw [decide_eq_false ho]
    simp only [cond_false,Option.bind_some]
    obtain ⟨p,p1,p2,p3⟩:=at_some kr ky
    have on:OnA dF e' y:=on_of t1
    refine ⟨p,⟨e',y,1⟩,⟨e',y,on⟩,?_,p2,?_,rfl,Rep3.at_ fldFF on⟩
    ·rw [p1];rfl
    ·rw [p3,hee,fy];exact Rep4.at_ fldFF on
end Go.Eng
