/-
  Part of a proof: SrNa.
-/
import Derived.Test.YtaogeiahkekaoaaGreatDoorSgGa
import Derived.Test.YtaogeiahkekaoaaGreatDoorKemRa
set_option linter.unusedVariables false
set_option linter.unusedSimpArgs false
namespace Go.Eng
set_option maxRecDepth 100000
set_option maxHeartbeats 1000000
def rn (a:FF):List Int:=numP ((a.val:Nat):Int)
theorem val_in (a:FF):0≤((a.val:Nat):Int)/\((a.val:Nat):Int)<PP:=⟨Int.natCast_nonneg _,by rw [PP_eq];exact Int.ofNat_lt.2 a.isLt⟩
theorem upP {x:Int} (h:0≤x/\x<PP):0≤x/\x<P256:=⟨h.1,Int.lt_trans h.2 (by decide)⟩
theorem mulP_in (x y:Int):0≤mulP x y/\mulP x y<PP:=⟨Int.emod_nonneg _ (by decide),Int.emod_lt_of_pos _ (by decide)⟩
theorem addP_in (x y:Int):0≤addP x y/\addP x y<PP:=⟨Int.emod_nonneg _ (by decide),Int.emod_lt_of_pos _ (by decide)⟩
theorem subP_in (x y:Int):0≤subP x y/\subP x y<PP:=⟨Int.emod_nonneg _ (by decide),Int.emod_lt_of_pos _ (by decide)⟩
theorem rn_of {x:Int} {a:FF} (h:0≤x/\x<PP) (e:ph x=a):numP x=rn a:=by rw [rn,←ph_self h e]
theorem Tn (a b:FF):fr09_Times (rn a) (rn b)=some (rn (a*b)):=by
 have ha:=upP (val_in a);have hb:=upP (val_in b)
 rw [rn,rn,Times_ref ha.1 ha.2 hb.1 hb.2,rn_of (mulP_in _ _) (by rw [ph_mulP,ph_val,ph_val])]
theorem An (a b:FF):fr09_Add (rn a) (rn b)=some (rn (a+b)):=by
 have ha:=upP (val_in a);have hb:=upP (val_in b)
 rw [rn,rn,Add_ref ha.1 ha.2 hb.1 hb.2,rn_of (addP_in _ _) (by rw [ph_addP,ph_val,ph_val])]
theorem Sn (a b:FF):fr09_Sub (rn a) (rn b)=some (rn (a-b)):=by
 have ha:=upP (val_in a);have hb:=upP (val_in b)
 rw [rn,rn,Sub_ref ha.1 ha.2 hb.1 hb.2,rn_of (subP_in _ _) (by rw [ph_subP,ph_val,ph_val])]
theorem rn_zero:List.replicate 8 (0:Int)=rn 0:=by decide
theorem rn_one:List.set (List.replicate 8 (0:Int)) 0 1=rn 1:=by decide
theorem pow_nv (a:FF):ph (powP ((a.val:Nat):Int) PM2)=nvF a:=by
 rw [powP_nat]
 by_cases h0:a=0
 ·rw [h0,nvF_zero]
  obtain ⟨k,hk⟩:∃ k,PM2=k+1:=⟨57896044618658097711785492504343953926634992332820282019728792003956564819946,rfl⟩
  rw [hk,Nat.pow_succ,show (((0:FF).val^k*(0:FF).val)%PN)=0 by rw [show ((0:FF).val)=0 from rfl,Nat.mul_zero];rfl]
  exact ph_zero
 ·have hm:¬ PN∣a.val:=ph_ne.1 (by rw [ph_val];exact h0)
  have e:ph (((a.val^PM2%PN:Nat)):Int)*a=1:=by
   have e1:ph (((a.val^PM2%PN:Nat)):Int)=ph ((a.val^PM2:Nat):Int):=by rw [ph_nat,Nat.mod_mod]
   have e2:a=ph ((a.val:Nat):Int):=(ph_val a).symm
   rw [e1]
   conv=>lhs;rhs;rw [e2]
   rw [←ph_mulN,←Nat.pow_succ]
   exact ph_fermat hm rfl
  have hn:=nvF_mul a h0
  generalize ph (((a.val^PM2%PN:Nat)):Int)=x at *
  generalize nvF a=y at *
  grobner
theorem In (a:FF):fr09_Invert (rn a)=some (rn (nvF a)):=by
 have ha:=val_in a
 rw [rn,Invert_ref ha.1 ha.2,rn_of (powP_range _ _) (pow_nv a)]
theorem Cn:fr09_Curve=some (rn dF):=by kernel_rfl
theorem BXn:fr09_BaseX=some (rn (ph bxN)):=by kernel_rfl
theorem BYn:fr09_BaseY=some (rn (ph byN)):=by kernel_rfl
def tp (p:P3):T_fr12_Point:=⟨rn p.x,rn p.y,rn p.z⟩
theorem sum_gen {F:Type} (r:F->List Int) (m a s:F->F->F) (T:∀ x y,fr09_Times (r x) (r y)=some (r (m x y))) (A:∀ x y,fr09_Add (r x) (r y)=some (r (a x y))) (S:∀ x y,fr09_Sub (r x) (r y)=some (r (s x y))) (px py pz qx qy qz d:F) :
  fr12_Sum ⟨r px,r py,r pz⟩ ⟨r qx,r qy,r qz⟩ (r d)=some ⟨r (m (m (m pz qz) (a (m px qy) (m qx py))) (s (m (m pz qz) (m pz qz)) (m d (m (m px qx) (m py qy))))),r (m (m (m pz qz) (a (m py qy) (m px qx))) (a (m (m pz qz) (m pz qz)) (m d (m (m px qx) (m py qy))))),r (m (a (m (m pz qz) (m pz qz)) (m d (m (m px qx) (m py qy)))) (s (m (m pz qz) (m pz qz)) (m d (m (m px qx) (m py qy)))))⟩:=by
 unfold fr12_Sum
 dsimp only
 rw [T,Option.bind_some];generalize m pz qz=z
 rw [T,Option.bind_some];generalize m z z=w
 rw [T,Option.bind_some];generalize m px qx=xx
 rw [T,Option.bind_some];generalize m py qy=yy
 rw [T,Option.bind_some];generalize m xx yy=u
 rw [T,Option.bind_some];generalize m d u=e
 rw [A,Option.bind_some];generalize a w e=p
 rw [S,Option.bind_some];generalize s w e=l
 rw [T,Option.bind_some];generalize m px qy=c1
 rw [T,Option.bind_some];generalize m qx py=c2
 rw [A,Option.bind_some];generalize a c1 c2=cr
 rw [T,Option.bind_some];generalize m z cr=g1
 rw [T,Option.bind_some];generalize m g1 l=g2
 rw [A,Option.bind_some];generalize a yy xx=k1
 rw [T,Option.bind_some];generalize m z k1=k2
 rw [T,Option.bind_some];generalize m k2 p=k3
 rw [T,Option.bind_some]
theorem sum_P3 (d px py pz qx qy qz:FF):P3.sum d ⟨px,py,pz⟩ ⟨qx,qy,qz⟩=⟨pz*qz*(px*qy+qx*py)*(pz*qz*(pz*qz)-d*(px*qx*(py*qy))),pz*qz*(py*qy+px*qx)*(pz*qz*(pz*qz)+d*(px*qx*(py*qy))),(pz*qz*(pz*qz)+d*(px*qx*(py*qy)))*(pz*qz*(pz*qz)-d*(px*qx*(py*qy)))⟩:=by
 unfold P3.sum
 rfl
theorem Sum_ref (p q:P3):fr12_Sum (tp p) (tp q) (rn dF)=some (tp (P3.sum dF p q)):=by
 obtain ⟨px,py,pz⟩:=p
 obtain ⟨qx,qy,qz⟩:=q
 rw [sum_P3]
 exact sum_gen rn (fun a b=>a*b) (fun a b=>a+b) (fun a b=>a-b) Tn An Sn px py pz qx qy qz dF
theorem Zero_ref:fr12_Zero=some (tp ⟨0,1,1⟩):=by
 unfold fr12_Zero fr12_one tp
 rw [Option.bind_some,Option.bind_some,rn_one,rn_zero]
theorem Base_ref:fr12_Base=some (tp ⟨ph bxN,ph byN,1⟩):=by
 unfold fr12_Base fr12_one tp
 rw [BXn,Option.bind_some,BYn,Option.bind_some,Option.bind_some,rn_one]
theorem Base_rep:Rep3 ⟨ph bxN,ph byN,1⟩ B:=Rep3.at_ fldFF base_on
theorem Zero_rep:Rep3 ⟨0,1,1⟩ (Pt.zero:PF):=⟨fun e=>fldFF.two (by grobner),by show (0:FF)=0*1;grobner,by show (1:FF)=1*1;grobner⟩
theorem bitR (K i:Nat) (hi:i<256):(bits .u8 .and (((limbsN 8 32 K).getD (i/8) 0/2^(i%8):Nat):Int) 1:Int)=((K/2^i%2:Nat):Int):=by
 have h1:=limbsN_bits 8 1 (by decide) 32 K i (by omega) (by omega)
 have h2:(limbsN 8 32 K).getD (i/8) 0<256:=getD_lt (limbsN_lt 8 32 K) (by decide) _
 rw [and1_8 (Nat.lt_of_le_of_lt (Nat.div_le_self _ _) h2)]
 rw [Nat.pow_one] at h1
 rw [h1]
theorem beqR (m:Nat) (h:m<2):(((m:Nat):Int)==1)=decide (m=1):=by
 match m,h with
 |0,_=>rfl
 |1,_=>rfl
theorem i8 {i:Nat} (h:i<256):IntKind.wrap .i64 (Int.tdiv (i:Int) 8)=((i/8:Nat):Int)/\IntKind.wrap .u64 (Int.tmod (i:Int) 8)=((i%8:Nat):Int)/\min (i%8) (IntKind.bits .u8)=i%8 :=
 ⟨by rw [show Int.tdiv (i:Int) 8=((i/8:Nat):Int) from rfl,i64n (by omega)],by rw [show Int.tmod (i:Int) 8=((i%8:Nat):Int) from rfl,u64n,Nat.mod_eq_of_lt (by omega)],by show min _ 8=_;omega⟩
theorem RTimes_l1 {p:P3} {a:PF} {s:Nat} (ha:Rep3 p a):∀ (i n:Nat) (x:P3),i<n->i≤256->Rep3 x (Pt.mul envF a (s/2^i)) ->
  ∃ r,fr12_Times_l1 (tp p) (zl (limbsN 8 32 s)) (rn dF) n ((i:Int)-1) (tp x)=some (tp r)/\Rep3 r (Pt.mul envF a s)
 |i,0,x,h,_,_=>absurd h (Nat.not_lt_zero _)
 |0,n+1,x,_,_,rx=>by
  rw [fr12_Times_l1.eq_2,cond_ff (by decide)]
  rw [Nat.pow_zero,Nat.div_one] at rx
  exact ⟨x,rfl,rx⟩
 |i+1,n+1,x,h,h',rx=>by
  obtain ⟨e1,e2,e3⟩:=i8 (i:=i) (by omega)
  have hd:=Rep3.sum envF rx rx
  rw [mul_dbl] at hd
  have hs:=half_step s i
  have main:∀ y,Rep3 y (Pt.mul envF a (s/2^i))->∃ r,fr12_Times_l1 (tp p) (zl (limbsN 8 32 s)) (rn dF) n ((i:Int)-1) (tp y)=some (tp r)/\Rep3 r (Pt.mul envF a s):=fun y ry=>RTimes_l1 ha i n y (by omega) (by omega) ry
  rw [fr12_Times_l1.eq_2,show ((i+1:Nat):Int)-1=(i:Int) by omega,cond_tt (by simp),Sum_ref,Option.bind_some,e1,e2,if_pos (by omega),nm_eq,if_pos (by omega),nm_eq,Int.toNat_natCast,Int.toNat_natCast,e3,zl_getD,fdivn,bitR s i (by omega),beqR _ (Nat.mod_lt _ (by decide)),wrap_i64 (n:=(i:Int)-1) (by omega) (by omega)]
  by_cases hb:s/2^i%2=1
  ·rw [decide_eq_true hb,cond_true,Sum_ref,Option.bind_some,Option.bind_some]
   refine main _ ?_
   rw [hs,hb,←mul_succ]
   exact Rep3.sum envF hd ha
  ·rw [decide_eq_false hb,cond_false,Option.bind_some]
   refine main _ ?_
   rw [hs,show s/2^i%2=0 by omega,Nat.add_zero];exact hd
theorem RTimes {p:P3} {a:PF} {s:Nat} (ha:Rep3 p a) (hs:s<2^256):∃ r,fr12_Times (tp p) (zl (limbsN 8 32 s))=some (tp r)/\Rep3 r (Pt.mul envF a s):=by
 obtain ⟨r,h1,h2⟩:=RTimes_l1 (s:=s) ha 256 FUEL ⟨0,1,1⟩ (big _ (by decide)) (by decide) (by rw [pow256 hs];exact Zero_rep)
 refine ⟨r,?_,h2⟩
 unfold fr12_Times
 rw [Cn,Option.bind_some,Zero_ref,Option.bind_some,show (255:Int)=((256:Nat):Int)-1 from rfl,h1];rfl
end Go.Eng
namespace Go.Eng
set_option maxRecDepth 100000
set_option maxHeartbeats 1000000
theorem rn_par (a:FF):Int.tmod (List.getD (rn a) 0 0) 2=((a.val%2:Nat):Int):=by
 unfold rn numP
 rw [zl_getD,limbsN_get 32 8 _ 0 (by decide),Int.toNat_natCast]
 show ((a.val/2^(32*0)%2^32%2:Nat):Int)=_
 congr 1
 rw [Nat.mul_zero,Nat.pow_zero,Nat.div_one]
 omega
theorem RBytes {p:P3} {a:PF} (h:Rep3 p a):fr12_Bytes (tp p)=some (encP a):=by
 obtain ⟨hx,hy⟩:=h.x_eq envF
 have hyl:=val_lt a.y
 have hin:=upP (val_in a.y)
 unfold fr12_Bytes tp
 rw [In,Option.bind_some,Tn,Option.bind_some,Tn,Option.bind_some,hx,hy]
 rw [show fr09_Bytes (rn a.y)=some (bytesP ((a.y.val:Nat):Int)) from Bytes_ref hin.1 hin.2,Option.bind_some,rn_par,beqR _ (Nat.mod_lt _ (by decide))]
 have hb:bytesP ((a.y.val:Nat):Int)=zl (limbsN 8 32 a.y.val):=by unfold bytesP;rw [Int.toNat_natCast]
 rw [hb]
 unfold encP encN
 by_cases ho:a.x.val%2=1
 ·rw [decide_eq_true ho,cond_true,nm_eq,Option.bind_some,ho]
  obtain ⟨s1,s2⟩:=limbsN_set 8 (by decide) 32 (a.y.val+2^255*1) 255 (by decide)
  have e1:(a.y.val+2^255*1)%2^255=a.y.val:=by rw [c255];omega
  have e2:(a.y.val+2^255*1)/2^255%2=1:=by rw [c255];omega
  have e3:(a.y.val+2^255*1)%2^(255+1)=a.y.val+2^255*1:=Nat.mod_eq_of_lt (by
   have h3:(2:Nat)^(255+1)=2^255*2:=by decide
   rw [h3,c255];omega)
  rw [e1,e2,e3] at s2
  rw [e1] at s1
  replace s1:(limbsN 8 32 a.y.val).getD 31 0<128:=s1
  replace s2:(limbsN 8 32 a.y.val).set 31 ((limbsN 8 32 a.y.val).getD 31 0+2^7*1)=limbsN 8 32 (a.y.val+2^255*1):=s2
  have hor:IntKind.wrap .u8 ((((limbsN 8 32 a.y.val).getD 31 0:Nat):Int)+128)=(((limbsN 8 32 a.y.val).getD 31 0+2^7*1:Nat):Int):=by
   rw [show (((limbsN 8 32 a.y.val).getD 31 0:Nat):Int)+128=(((limbsN 8 32 a.y.val).getD 31 0+128:Nat):Int) from rfl,u8n,Nat.mod_eq_of_lt (by omega)]
  rw [zl_getD,hor,zl_set,s2]
 ·have h0:a.x.val%2=0:=by omega
  rw [decide_eq_false ho,cond_false,Option.bind_some,h0,Nat.mul_zero,Nat.add_zero]
theorem m1:fr09_minus (numP PP) (rn 1)=some (numP (PP-1)):=by kernel_rfl
theorem h1:fr09_half (numP (PP-1))=some (numP ((28948022309329048855892746252171976963317496166410141009864396001978282409974:Nat):Int)):=by kernel_rfl
theorem h2:fr09_half (numP ((28948022309329048855892746252171976963317496166410141009864396001978282409974:Nat):Int))=some (numP ((14474011154664524427946373126085988481658748083205070504932198000989141204987:Nat):Int)):=by kernel_rfl
theorem n2:List.set (List.replicate 8 (0:Int)) 0 2=rn 2:=by decide
end Go.Eng
namespace Go.Eng
set_option maxRecDepth 100000
set_option maxHeartbeats 1000000
theorem limbsN_splt (w:Nat):∀ n X,limbsN w (n+1) X=limbsN w n X++[X/2^(w*n)%2^w]
 |0,X=>by simp [limbsN]
 |n+1,X=>by
  rw [limbsN,limbsN_splt w n,limbsN,List.cons_append,Nat.div_div_eq_div_mul,←Nat.pow_add,Nat.mul_succ,Nat.add_comm w]
end Go.Eng
