/-
  Part of a proof: SgGa.
-/
import Derived.Test.YtaogeiahkekaoaaGreatDoorSgHa
import Derived.Test.YtaogeiahkekaoaaGreatDoorNTb
set_option linter.unusedVariables false
set_option linter.unusedSimpArgs false
set_option linter.unusedVariables false
set_option linter.unusedSimpArgs false
namespace Go.Eng
set_option maxRecDepth 100000
set_option maxHeartbeats 1000000
def bQ:Q4:=⟨15112221349535400772501151409588531511454012693041857206046113283949847762202,46316835694926478169428394003475163141307993866256225615783033603165251855960,1,46827403850823179245072216630277197565144205554125654976674165829533817101731⟩
theorem bQ_rep:Rep4 bQ.to B:=by
 have h:=Rep4.at_ fldFF base_on
 have e:ph ((46827403850823179245072216630277197565144205554125654976674165829533817101731:Nat):Int)=ph (bxN:Int)*ph (byN:Int):=by
  rw [←ph_mulN,ph_nat];kernel_rfl
 have h1:ph ((1:Nat):Int)=1:=ph_one
 unfold Q4.to bQ
 simp only [h1]
 rw [e]
 exact h
noncomputable def isZ (q:Q4):Bool:=Q4.rec (fun x y z _=>Nat.beq x 0&&Nat.beq y z) q
theorem lB_raw:isZ (qmul bQ LN 256 q0)=true:=by kernel_rfl
theorem lB:Pt.mul envF B LN=Pt.zero:=by
 have h:=qmul_is bQ_rep (s:=LN) LN_lt
 have hz:=lB_raw
 generalize qmul bQ LN 256 q0=q at *
 obtain ⟨x,y,z,t⟩:=q
 have hz':(Nat.beq x 0&&Nat.beq y z)=true:=hz
 rw [Bool.and_eq_true] at hz'
 have hx:=Nat.eq_of_beq_eq_true hz'.1
 have hy:=Nat.eq_of_beq_eq_true hz'.2
 subst hx hy
 obtain ⟨n1,h1,h2,_⟩:=h
 simp only [Q4.to] at n1 h1 h2
 have h0:ph ((0:Nat):Int)=0:=ph_zero
 rw [h0] at h1
 apply Pt.ext'
 ·show (Pt.mul envF B LN).x=0
  exact (fldFF.cases h1.symm).resolve_right n1
 ·show (Pt.mul envF B LN).y=1
  have hn:=nvF_mul _ n1
  generalize (Pt.mul envF B LN).y=Y at *
  generalize ph (y:Int)=P at *
  generalize nvF P=w at *
  have:Y=Y*(P*w):=by rw [hn];grind
  rw [this]
  have:Y*(P*w)=(Y*P)*w:=by grind
  rw [this,←h2,hn]
theorem B_ne:B≠Pt.zero:=fun h=>by
 have hy:B.y=(Pt.zero:PF).y:=by rw [h]
 have hy':ph (byN:Int)=ph ((1:Nat):Int):=by
  have h1:ph ((1:Nat):Int)=1:=ph_one
  rw [h1];exact hy
 rw [ph_nat] at hy'
 exact absurd hy' (by decide)
theorem order {m:Nat} (h:Pt.mul envF B m=Pt.zero):LN∣m:=by
 refine Classical.byContradiction fun hn => ?_
 have hc:Nat.Coprime LN m:=(show Pri LN from pri_723700).cop hn
 have key:∀ a b,Pt.mul envF B a=Pt.zero->Pt.mul envF B b=Pt.zero->Pt.mul envF B (Nat.gcd a b)=Pt.zero:=by
  intro a b
  induction a,b using Nat.gcd.induction with
  |H0 n=>intro _ h;rw [Nat.gcd_zero_left];exact h
  |H1 m n hm ih =>
   intro h1 h2
   rw [Nat.gcd_rec]
   refine ih ?_ h1
   have:=Pt.mul_mod envF h1 n
   rw [this,h2]
 have h1:=key LN m lB h
 rw [hc] at h1
 exact B_ne (by rw [←mul_one B];exact h1)
theorem mulB_inj {m n:Nat} (h:Pt.mul envF B m=Pt.mul envF B n):m%LN=n%LN:=by
 have main:∀ {m n:Nat},m≤n->Pt.mul envF B m=Pt.mul envF B n->m%LN=n%LN:=by
  intro m n hle h
  obtain ⟨k,rfl⟩:∃ k,n=m+k:=⟨n-m,by omega⟩
  have hz:Pt.mul envF B k=Pt.zero:=by
   refine Pt.cancel envF (p:=Pt.mul envF B m) ?_
   rw [←Pt.mul_add,←h,Pt.add_zero]
  obtain ⟨c,hc⟩:=order hz
  rw [hc,Nat.add_mul_mod_self_left]
 rcases Nat.le_total m n with hle|hle
 ·exact main hle h
 ·exact (main hle h.symm).symm
theorem mulB_mod (n:Nat):Pt.mul envF B (n%LN)=Pt.mul envF B n:=Pt.mul_mod envF lB n
end Go.Eng
set_option linter.unusedVariables false
set_option linter.unusedSimpArgs false
namespace Go.Eng
set_option maxRecDepth 100000
set_option maxHeartbeats 1000000
theorem byt_form {l:List Int} {n:Nat} (hl:l.length=n) (hb:byt l):∃ v,l=zl (limbsN 8 n v)/\v<2^(8*n):=by
 obtain ⟨m,h1,h2,h3⟩:=lim_zl (n:=256) (lim_of hb)
 refine ⟨valN 8 m,?_,?_⟩
 ·rw [h1,←hl,←h2,limbsN_val 8 m h3]
 ·have:=valN_lt 8 m h3
  rw [h2,hl] at this;exact this
def numB (l:List Int):Nat:=valN 8 (l.map Int.toNat)
theorem numB_limbs {n v:Nat} (h:v<2^(8*n)):numB (zl (limbsN 8 n v))=v:=by
 unfold numB
 have:(zl (limbsN 8 n v)).map Int.toNat=limbsN 8 n v:=by
  unfold zl;rw [List.map_map]
  have e:(Int.toNat∘fun (n:Nat)=>(n:Int))=id:=funext fun x=>Int.toNat_natCast x
  rw [e,List.map_id]
 rw [this,valN_limbs,Nat.mod_eq_of_lt h]
def hN (m:List Int):Nat:=numB ((shaC m).getD [])%LN
theorem hash_is {m:List Int} (hm:m.length≤100000):∃ r,shaC m=some r/\r.length=64/\byt r/\scalar_Reduce r=some (zl (limbsN 8 32 (hN m))):=by
 obtain ⟨r,h1,h2,h3⟩:=shaC_tot hm
 obtain ⟨v,rfl,hv⟩:=byt_form h2 h3
 refine ⟨_,h1,h2,h3,?_⟩
 unfold hN
 rw [h1,Option.getD_some,numB_limbs hv]
 exact Reduce_is hv
theorem hN_lt (m:List Int):hN m<LN:=Nat.mod_lt _ LN_pos
theorem hN_lt2 (m:List Int):hN m<2^256:=Nat.lt_trans (hN_lt m) LN_lt
theorem bits8_byt (op:BinOp) (x y:Int):0≤bits .u8 op x y/\bits .u8 op x y<256:=by
 unfold bits
 simp only [wrap_u8]
 split<;>omega
theorem byt_set {l:List Int} (h:byt l) (i:Nat) {e:Int} (he:0≤e/\e<256):byt (l.set i e):=fun y hy=>by
 rcases List.mem_or_eq_of_mem_set hy with hy|rfl
 ·exact h y hy
 ·exact he
theorem Clamp_is {k:List Int} (hk:k.length=32) (kb:byt k):∃ A,ladder_Clamp k=some (zl (limbsN 8 32 A))/\A<2^256:=by
 have hb:byt (List.set (List.set (List.set k 0 (bits .u8 .and (List.getD k 0 0) 248)) 31 (bits .u8 .and (List.getD (List.set k 0 (bits .u8 .and (List.getD k 0 0) 248)) 31 0) 127)) 31 (bits .u8 .or (List.getD (List.set (List.set k 0 (bits .u8 .and (List.getD k 0 0) 248)) 31 (bits .u8 .and (List.getD (List.set k 0 (bits .u8 .and (List.getD k 0 0) 248)) 31 0) 127)) 31 0) 64)) :=
  byt_set (byt_set (byt_set kb _ (bits8_byt _ _ _)) _ (bits8_byt _ _ _)) _ (bits8_byt _ _ _)
 obtain ⟨A,h1,h2⟩:=byt_form (n:=32) (by rw [List.length_set,List.length_set,List.length_set];exact hk) hb
 exact ⟨A,by rw [←h1];rfl,h2⟩
theorem secret_is {k:List Int} (hk:k.length=32):∃ A w,sign_secret k=some (zl (limbsN 8 32 A),w)/\A<2^256/\w.length=64/\byt w:=by
 obtain ⟨w,h1,h2,h3⟩:=shaC_tot (m:=k.take 32) (by rw [List.length_take];omega)
 obtain ⟨A,h4,h5⟩:=Clamp_is (k:=List.take 32 (List.take 32 w)) (by rw [List.length_take,List.length_take];omega) (fun y hy=>h3 y (List.mem_of_mem_take (List.mem_of_mem_take hy)))
 refine ⟨A,w,?_,h5,h2,h3⟩
 unfold sign_secret
 rw [Sum1_is (by decide),h1,Option.bind_some,if_pos (by rw [List.length_take];omega),h4];rfl
theorem baseMul {s:Nat} (hs:s<2^256):∃ b p,points_Base=some b/\points_Point_Times b (zl (limbsN 8 32 s))=some p/\points_Point_Bytes p=some (encP (Pt.mul envF B s)):=by
 obtain ⟨b,b1,b2,b3⟩:=Base_is
 obtain ⟨p,p1,p2,p3⟩:=Times_is b2 b3 hs
 exact ⟨b,p,b1,p1,Bytes_is p2 p3⟩
theorem over64 {R S:List Int} (hR:R.length=32) (hS:S.length=32):over (over (List.replicate 64 (0:Int)) 0 (List.take 64 (List.take 32 R))) 32 (List.take 32 (List.take 32 S))=R++S:=by
 rw [List.take_of_length_le (l:=R) (by omega),List.take_of_length_le (l:=R) (by omega),List.take_of_length_le (l:=S) (by omega),List.take_of_length_le (l:=S) (by omega)]
 unfold over
 rw [List.take_zero,List.nil_append,Nat.zero_add,hR,List.drop_replicate,hS]
 rw [List.take_left' hR,List.drop_of_length_le (by rw [List.length_append,List.length_replicate];omega),List.append_nil]
theorem Sign_is {k:List Int} {n:Nat} {t:List Int} {A:Nat} {w:List Int} (hs:sign_secret k=some (zl (limbsN 8 32 A),w)) (hA:A<2^256) (hw:w.length=64) (hn:n≤1000):∃ r,r<LN /\
  sign_Sign k n t=some (encP (Pt.mul envF B r)++zl (limbsN 8 32 ((r+hN (encP (Pt.mul envF B r)++encP (Pt.mul envF B A)++t.take n)*A%LN)%LN)))/\r=hN (List.take 32 (List.drop 32 w)++t.take n):=by
 have hT:(t.take n).length≤n:=by rw [List.length_take];omega
 have hTT:List.take (t.take n).length (t.take n)=t.take n:=List.take_length ..
 obtain ⟨d1,e1,e2,e3,e4⟩:=hash_is (m:=List.take 32 (List.drop 32 w)++t.take n) (by simp only [List.length_append,List.length_take];omega)
 obtain ⟨r,hr⟩:∃ r,r=hN (List.take 32 (List.drop 32 w)++t.take n):=⟨_,rfl⟩
 rw [←hr] at e4 ⊢
 have hrl:r<LN:=by rw [hr];exact hN_lt _
 have hrl2:r<2^256:=Nat.lt_trans hrl LN_lt
 obtain ⟨b,p,b1,p1,p2⟩:=baseMul hA
 obtain ⟨b',q,b1',q1,q2⟩:=baseMul hrl2
 rw [b1] at b1'
 cases b1'
 have lR:=encP_len (Pt.mul envF B r)
 have lP:=encP_len (Pt.mul envF B A)
 obtain ⟨d2,f1,f2,f3,f4⟩:=hash_is (m:=encP (Pt.mul envF B r)++encP (Pt.mul envF B A)++t.take n) (by simp only [List.length_append,List.length_take,lR,lP];omega)
 refine ⟨r,hrl,?_,rfl⟩
 unfold sign_Sign
 rw [hs,Option.bind_some]
 dsimp only
 rw [b1,Option.bind_some,p1,Option.bind_some,p2,Option.bind_some,Concat2_is (by omega),Option.bind_some]
 have hh1:sign_hash 32 32 (t.take n).length w (t.take n)=some (zl (limbsN 8 32 r)):=by
  unfold sign_hash
  rw [Sum2_is (by omega) (by omega),hTT,e1,Option.bind_some,e4];rfl
 have hh2:sign_hash_2 32 32 (t.take n).length (encP (Pt.mul envF B r)) (encP (Pt.mul envF B A)) (t.take n)=some (zl (limbsN 8 32 (hN (encP (Pt.mul envF B r)++encP (Pt.mul envF B A)++t.take n)))):=by
  unfold sign_hash_2
  rw [Sum3_is (by omega) (by omega) (by omega),hTT,List.take_of_length_le (by omega),List.take_of_length_le (by omega),f1,Option.bind_some,f4];rfl
 rw [hh1,Option.bind_some,Option.bind_some,q1,Option.bind_some,q2,Option.bind_some,hh2,Option.bind_some,STimes_is (hN_lt2 _) hA,Option.bind_some,Add_is hrl2 (mod256 _),Option.bind_some,nm_eq,over64 lR (by rw [zl_len,limbsN_len])]
theorem Public_is {k:List Int} {A:Nat} {w:List Int} (hs:sign_secret k=some (zl (limbsN 8 32 A),w)) (hA:A<2^256):sign_Public k=some (encP (Pt.mul envF B A)):=by
 obtain ⟨b,p,b1,p1,p2⟩:=baseMul hA
 unfold sign_Public
 rw [hs,Option.bind_some]
 dsimp only
 rw [b1,Option.bind_some,p1,Option.bind_some,p2];rfl
theorem Verify_is {a:PF} {R:List Int} {s n:Nat} {t:List Int} (hR:R.length=32) (Rb:byt R) (hs:s<2^256) (hn:n≤1000) :
  sign_Verify (encP a) (R++zl (limbsN 8 32 s)) n t=some (decide (s<LN)&&decide (encP ((Pt.mul envF a.neg (hN (R++encP a++t.take n))).add envF (Pt.mul envF B s))=R)):=by
 have hT:(t.take n).length≤n:=by rw [List.length_take];omega
 have hTT:List.take (t.take n).length (t.take n)=t.take n:=List.take_length ..
 have hd:List.drop 32 (R++zl (limbsN 8 32 s))=zl (limbsN 8 32 s):=List.drop_left' hR
 have ht:List.take 32 (R++zl (limbsN 8 32 s))=R:=List.take_left' hR
 obtain ⟨p,p1,p2,p3⟩:=Read_is a
 obtain ⟨g,g1,g2,g3⟩:=Neg_is p2 p3
 have lP:=encP_len a
 obtain ⟨d2,f1,f2,f3,f4⟩:=hash_is (m:=R++encP a++t.take n) (by simp only [List.length_append,List.length_take,hR,lP];omega)
 obtain ⟨q,q1,q2,q3⟩:=With_is g2 g3 (hN_lt2 (R++encP a++t.take n)) hs
 have hh:sign_hash_3 32 32 (t.take n).length (R++zl (limbsN 8 32 s)) (encP a) (t.take n)=some (zl (limbsN 8 32 (hN (R++encP a++t.take n)))):=by
  unfold sign_hash_3
  rw [Sum4_is (by omega) (by omega) (by omega),hTT,ht,List.take_of_length_le (by omega),f1,Option.bind_some,f4];rfl
 unfold sign_Verify
 rw [hd,take_limbs,take_limbs,if_pos (by rw [zl_len,limbsN_len];decide),p1,Option.bind_some]
 dsimp only
 rw [Right_is hs,Option.bind_some]
 by_cases hl:s<LN
 ·rw [decide_eq_true hl,cond_ff (by rfl),Concat2_is (by omega),Option.bind_some,hh,Option.bind_some,g1,Option.bind_some,q1,Option.bind_some,Bytes_is q2 q3,Option.bind_some,ht,List.take_of_length_le (by rw [encP_len];exact Nat.le_refl _),Equal_is (encP_byt _) Rb (by rw [encP_len];decide)]
  rfl
 ·rw [decide_eq_false hl,cond_tt (by rfl)];rfl
end Go.Eng
set_option linter.unusedVariables false
set_option linter.unusedSimpArgs false
namespace Go.Eng
set_option maxRecDepth 100000
set_option maxHeartbeats 1000000
theorem neg_mul (p:PF):∀ n,(Pt.mul envF p.neg n).add envF (Pt.mul envF p n)=Pt.zero
 |0=>Pt.zero_add envF _
 |n+1=>by
  show ((Pt.mul envF p.neg n).add envF p.neg).add envF ((Pt.mul envF p n).add envF p)=Pt.zero
  rw [add4,neg_mul p n,Pt.neg_add,Pt.zero_add]
theorem verify_eq {A h s r:Nat}:((Pt.mul envF (Pt.mul envF B A).neg h).add envF (Pt.mul envF B s)=Pt.mul envF B r)↔s%LN=(r+A*h)%LN:=by
 have hX:=neg_mul (Pt.mul envF B A) h
 rw [Pt.mul_mul] at hX
 constructor
 ·intro e
  have:Pt.mul envF B s=Pt.mul envF B (r+A*h):=by
   rw [Pt.mul_add,←e,Pt.add_comm envF _ (Pt.mul envF B s),Pt.add_assoc,hX,Pt.add_zero]
  exact mulB_inj this
 ·intro e
  have:Pt.mul envF B s=Pt.mul envF B (r+A*h):=by rw [←mulB_mod s,e,mulB_mod]
  rw [this,Pt.mul_add,←Pt.add_assoc,Pt.add_comm envF _ (Pt.mul envF B r),Pt.add_assoc,hX,Pt.add_zero]
theorem verify_enc {A h s r:Nat}:(encP ((Pt.mul envF (Pt.mul envF B A).neg h).add envF (Pt.mul envF B s))=encP (Pt.mul envF B r))↔s%LN=(r+A*h)%LN:=by
 rw [←verify_eq]
 exact ⟨fun e=>encP_inj e,fun e=>by rw [e]⟩
theorem own_is {A r n s:Nat} {t:List Int} (hs:s<2^256) (hn:n≤1000) :
  sign_Verify (encP (Pt.mul envF B A)) (encP (Pt.mul envF B r)++zl (limbsN 8 32 s)) n t=some (decide (s=(r+hN (encP (Pt.mul envF B r)++encP (Pt.mul envF B A)++t.take n)*A%LN)%LN)):=by
 rw [Verify_is (encP_len _) (encP_byt _) hs hn]
 congr 1
 generalize hN (encP (Pt.mul envF B r)++encP (Pt.mul envF B A)++t.take n)=h
 have hv:=verify_enc (A:=A) (h:=h) (s:=s) (r:=r)
 have he:(r+h*A%LN)%LN=(r+A*h)%LN:=by rw [Nat.add_mod_mod,Nat.mul_comm h]
 rw [he]
 have hl:=Nat.mod_lt (r+A*h) LN_pos
 by_cases hlt:s<LN
 ·rw [decide_eq_true hlt,Bool.true_and]
  rw [Nat.mod_eq_of_lt hlt] at hv
  simp only [hv]
 ·rw [decide_eq_false hlt,Bool.false_and,decide_eq_false (by omega)]
end Go.Eng
