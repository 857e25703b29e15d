/-
  Part of a proof: SrV.
-/
import Derived.Test.YtaogeiahkekaoaaGreatDoorSrSa
import Derived.Test.YtaogeiahkekaoaaGreatDoorSrHa
import Derived.Test.YtaogeiahkekaoaaGreatDoorSgA
set_option linter.unusedVariables false
set_option linter.unusedSimpArgs false
namespace Go.Eng
set_option maxRecDepth 100000
set_option maxHeartbeats 1000000
theorem halvesR {A C:List Int} (hA:A.length=32) (hC:C.length=32):fr13_halves (A++C)=some (A,C):=by
 obtain ⟨a0,a1,a2,a3,a4,a5,a6,a7,a8,a9,a10,a11,a12,a13,a14,a15,a16,a17,a18,a19,a20,a21,a22,a23,a24,a25,a26,a27,a28,a29,a30,a31,rfl⟩:=list32 hA
 obtain ⟨c0,c1,c2,c3,c4,c5,c6,c7,c8,c9,c10,c11,c12,c13,c14,c15,c16,c17,c18,c19,c20,c21,c22,c23,c24,c25,c26,c27,c28,c29,c30,c31,rfl⟩:=list32 hC
 kernel_rfl
theorem beq_dec (x y:List Int):(x==y)=decide (x=y):=by rw [Bool.eq_iff_iff];simp
theorem lt512' {v:Nat} (h:v<2^(8*64)):v<256^64:=Nat.lt_of_lt_of_eq h (Nat.pow_mul 2 8 64)
theorem p256':(256:Nat)^32=2^256:=by decide
theorem hashR {m:List Int} (hb:byt m) (hm:m.length≤100000):fr13_hash m=some (zl (limbsN 8 32 (hN m))):=by
 obtain ⟨r,h1,h2,h3,_⟩:=hash_is hm
 have h4:r=sha5 m:=by
  have:=shaC_is hm hb
  rw [h1] at this;exact Option.some.inj this
 obtain ⟨v,h5,h6⟩:=byt_form h2 h3
 have hN':hN m=v%LN:=by
  unfold hN
  rw [h1]
  show numB r%LN=_
  rw [h5,numB_limbs h6]
 unfold fr13_hash
 rw [SumR hb hm,Option.bind_some,←h4,List.take_of_length_le (by omega),h5,ModS (by decide),Option.bind_some,hN',Nat.mod_eq_of_lt (lt512' h6)]
theorem challR {R P t:List Int} (hR:R.length=32) (hP:P.length=32) (bR:byt R) (bP:byt P) (bt:byt t) (ht:t.length≤1000):fr13_challenge R P t=some (zl (limbsN 8 32 (hN (R++P++t)))):=by
 unfold fr13_challenge
 rw [List.take_of_length_le (l:=R) (by omega),List.take_of_length_le (l:=P) (by omega),List.nil_append,List.length_nil,if_pos (by omega),if_pos (by omega),nm_eq,if_pos (by rw [List.length_append];omega),hashR (byt_app (byt_app bR bP) bt) (by rw [List.length_append,List.length_append];omega)];rfl
theorem VerifyG {k:List Int} {p:T_points_Point} {a:PF} {R:List Int} {s n:Nat} {t:List Int} (hk:k.length=32) (p1:points_Read k=some (.inl p)) (p2:POk p) (p3:Rep4 (p4 p) a) (hR:R.length=32) (Rb:byt R) (hs:s<2^256) (hn:n≤1000) :
  sign_Verify k (R++zl (limbsN 8 32 s)) n t=some (decide (s<LN)&&decide (encP ((Pt.mul envF a.neg (hN (R++k++t.take n))).add envF (Pt.mul envF B s))=R)):=by
 have hT:(t.take n).length≤n:=by rw [List.length_take];omega
 have hTT:List.take (t.take n).length (t.take n)=t.take n:=List.take_length ..
 have hd:List.drop 32 (R++zl (limbsN 8 32 s))=zl (limbsN 8 32 s):=List.drop_left' hR
 have ht:List.take 32 (R++zl (limbsN 8 32 s))=R:=List.take_left' hR
 obtain ⟨g,g1,g2,g3⟩:=Neg_is p2 p3
 obtain ⟨d2,f1,f2,f3,f4⟩:=hash_is (m:=R++k++t.take n) (by simp only [List.length_append,List.length_take,hR,hk];omega)
 obtain ⟨q,q1,q2,q3⟩:=With_is g2 g3 (hN_lt2 (R++k++t.take n)) hs
 have hh:sign_hash_3 32 32 (t.take n).length (R++zl (limbsN 8 32 s)) k (t.take n)=some (zl (limbsN 8 32 (hN (R++k++t.take n)))):=by
  unfold sign_hash_3
  rw [Sum4_is (by omega) (by omega) (by omega),hTT,ht,List.take_of_length_le (by omega),f1,Option.bind_some,f4];rfl
 unfold sign_Verify
 rw [hd,take_limbs,take_limbs,if_pos (by rw [zl_len,limbsN_len];decide),p1,Option.bind_some]
 dsimp only
 rw [Right_is hs,Option.bind_some]
 by_cases hl:s<LN
 ·rw [decide_eq_true hl,cond_ff (by rfl),Concat2_is (by omega),Option.bind_some,hh,Option.bind_some,g1,Option.bind_some,q1,Option.bind_some,Bytes_is q2 q3,Option.bind_some,ht,List.take_of_length_le (by rw [encP_len];exact Nat.le_refl _),Equal_is (encP_byt _) Rb (by rw [encP_len];decide)]
  rfl
 ·rw [decide_eq_false hl,cond_tt (by rfl)];rfl
theorem VerifyN {k:List Int} {p:T_points_Point} {sg:List Int} {n:Nat} {t:List Int} (p1:points_Read k=some (.inr p)) (hs:sg.length=64):sign_Verify k sg n t=some false:=by
 unfold sign_Verify
 rw [if_pos (by rw [List.length_take,List.length_drop];omega),p1];rfl
theorem VerifyR {k:List Int} {q:P3} {a:PF} {R:List Int} {s:Nat} {t:List Int} (hk:k.length=32) (kb:byt k) (p1:fr12_Read k=some (tp q,0)) (p3:Rep3 q a) (hR:R.length=32) (Rb:byt R) (hs:s<2^256) (bt:byt t) (ht:t.length≤1000) :
  fr13_Verify k (R++zl (limbsN 8 32 s)) t=some (decide (s<LN)&&decide (encP ((Pt.mul envF a.neg (hN (R++k++t))).add envF (Pt.mul envF B s))=R)):=by
 obtain ⟨g,g1,g2⟩:=Neg_ref p3
 obtain ⟨u,q1,q2⟩:=RWith g2 (hN_lt2 (R++k++t)) hs
 have hl32:(zl (limbsN 8 32 s)).length=32:=by rw [zl_len,limbsN_len]
 unfold fr13_Verify
 rw [halvesR hR hl32,Option.bind_some]
 dsimp only
 rw [p1,Option.bind_some]
 dsimp only
 rw [cond_ff (by rfl),take_limbs,ModS (by decide),Option.bind_some,p256',Nat.mod_eq_of_lt hs]
 by_cases hl:s<LN
 ·rw [Nat.mod_eq_of_lt hl,cond_ff (by simp),challR hR hk Rb kb bt ht,Option.bind_some,g1,Option.bind_some,q1,Option.bind_some,RBytes q2,Option.bind_some,decide_eq_true hl,Bool.true_and]
  rw [beq_dec]
 ·have hne:¬ zl (limbsN 8 32 (s%LN))=zl (limbsN 8 32 s):=fun e=>by
   have:=limbs_inj (mod256 s) hs (zl_inj e)
   have h2:=Nat.mod_lt s LN_pos
   omega
  rw [cond_tt (by rw [beq_false_of_ne hne];rfl),decide_eq_false hl,Bool.false_and]
theorem VerifyRN {k:List Int} {q:T_fr12_Point} {R C:List Int} {t:List Int} (p1:fr12_Read k=some (q,4)) (hR:R.length=32) (hC:C.length=32):fr13_Verify k (R++C) t=some false:=by
 unfold fr13_Verify
 rw [halvesR hR hC,Option.bind_some]
 dsimp only
 rw [p1,Option.bind_some]
 rfl
theorem verify_both {k sg t:List Int} (hk:k.length=32) (kb:byt k) (hs:sg.length=64) (sb:byt sg) (bt:byt t) (ht:t.length≤1000):∃ b,sign_Verify k sg t.length t=some b/\fr13_Verify k sg t=some b:=by
 obtain ⟨X,hX,hXl⟩:=byt_form hk kb
 have hR:(List.take 32 sg).length=32:=by rw [List.length_take];omega
 obtain ⟨s,h1,h2⟩:=byt_form (l:=List.drop 32 sg) (n:=32) (by rw [List.length_drop];omega) (byt_drop _ sb)
 have hsg:sg=List.take 32 sg++zl (limbsN 8 32 s):=by rw [←h1,List.take_append_drop]
 have htt:t.take t.length=t:=List.take_length ..
 rcases ReadB (X:=X) hXl with ⟨r,q,a,r1,r2,r3,q1,q2⟩|⟨⟨r,r1⟩,q,q1⟩
 ·rw [←hX] at r1 q1
  refine ⟨_,by rw [hsg];exact VerifyG (t:=t) (n:=t.length) hk r1 r2 r3 hR (byt_take _ sb) h2 ht,?_⟩
  rw [htt,hsg]
  have e:List.take 32 (List.take 32 sg++zl (limbsN 8 32 s))=List.take 32 sg:=List.take_left' hR
  rw [e]
  exact VerifyR hk kb q1 q2 hR (byt_take _ sb) h2 bt ht
 ·rw [←hX] at r1 q1
  refine ⟨false,VerifyN r1 hs,?_⟩
  rw [hsg]
  exact VerifyRN q1 hR (by rw [zl_len,limbsN_len])
theorem SignVerifies_is {k sg t:List Int} (hk:k.length=32) (kb:byt k) (hs:sg.length=64) (sb:byt sg) (bt:byt t):fl13_SignVerifies k sg t=some true:=by
 unfold fl13_SignVerifies
 rw [alive_is,Option.bind_some,cond_ff (by rfl)]
 by_cases ht:300<t.length
 ·rw [cond_tt (by simp<;>omega)]
 ·obtain ⟨b,h1,h2⟩:=verify_both hk kb hs sb bt (by omega)
  rw [cond_ff (by simp<;>omega),Verify2_is (by omega),h1,Option.bind_some,h2,Option.bind_some]
  simp
end Go.Eng
