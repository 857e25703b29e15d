/-
  Part of a proof: SrV.
-/
import Derived.Test.YtaogeiahkekaoaaGreatDoorSrSa
import Derived.Test.YtaogeiahkekaoaaGreatDoorSrHa
import Derived.Test.YtaogeiahkekaoaaGreatDoorSgA
set_option linter.unusedVariables false
set_option linter.unusedSimpArgs false
namespace Go.Eng
set_option maxRecDepth 100000
set_option maxHeartbeats 1000000
theorem clamp0:∀ n:Fin 256,bits .u8 .and (n.val:Int) 248=IntKind.wrap .u8 ((IntKind.wrap .u8 (Int.tdiv (n.val:Int) 8))*8):=by decide +kernel
theorem clamp31:∀ n:Fin 256,bits .u8 .or (bits .u8 .and (n.val:Int) 127) 64=IntKind.wrap .u8 ((Int.tmod (n.val:Int) 64)+64):=by decide +kernel
theorem byt_getD {l:List Int} (h:byt l) (i:Nat):0≤l.getD i 0/\l.getD i 0<256:=by
 by_cases hi:i<l.length
 ·rw [List.getD_eq_getElem?_getD,List.getElem?_eq_getElem hi];exact h _ (List.getElem_mem hi)
 ·rw [List.getD_eq_getElem?_getD,List.getElem?_eq_none (by omega)];decide
theorem clampR {k:List Int} (h:byt k) (hn:k.length=32):fr10_Clamp k=ladder_Clamp k:=by
 obtain ⟨a1,a2⟩:=byt_getD h 0
 obtain ⟨b1,b2⟩:=byt_getD h 31
 obtain ⟨n0,e0⟩:=Int.eq_ofNat_of_zero_le a1
 obtain ⟨n1,e1⟩:=Int.eq_ofNat_of_zero_le b1
 have c1:=clamp0 ⟨n0,by omega⟩
 have d1:=clamp31 ⟨n1,by omega⟩
 simp only at c1 d1
 rw [←e0] at c1
 rw [←e1] at d1
 have g31:∀ v,(k.set 0 v).getD 31 0=k.getD 31 0:=fun v=>by simp [List.getD,List.getElem?_set_ne]
 have g:∀ v u,((k.set 0 v).set 31 u).getD 31 0=u:=fun v u=>by simp [List.getD,hn]
 unfold fr10_Clamp ladder_Clamp
 simp only [nm_eq,g31]
 rw [g,List.set_set,c1,d1]
theorem halvesR {A C:List Int} (hA:A.length=32) (hC:C.length=32):fr13_halves (A++C)=some (A,C):=by
 obtain ⟨a0,a1,a2,a3,a4,a5,a6,a7,a8,a9,a10,a11,a12,a13,a14,a15,a16,a17,a18,a19,a20,a21,a22,a23,a24,a25,a26,a27,a28,a29,a30,a31,rfl⟩:=list32 hA
 obtain ⟨c0,c1,c2,c3,c4,c5,c6,c7,c8,c9,c10,c11,c12,c13,c14,c15,c16,c17,c18,c19,c20,c21,c22,c23,c24,c25,c26,c27,c28,c29,c30,c31,rfl⟩:=list32 hC
 kernel_rfl
theorem joinR {A C:List Int} (hA:A.length=32) (hC:C.length=32):fr13_Sign_l1 A C FUEL 0 (List.replicate 64 0)=some (A++C):=by
 obtain ⟨a0,a1,a2,a3,a4,a5,a6,a7,a8,a9,a10,a11,a12,a13,a14,a15,a16,a17,a18,a19,a20,a21,a22,a23,a24,a25,a26,a27,a28,a29,a30,a31,rfl⟩:=list32 hA
 obtain ⟨c0,c1,c2,c3,c4,c5,c6,c7,c8,c9,c10,c11,c12,c13,c14,c15,c16,c17,c18,c19,c20,c21,c22,c23,c24,c25,c26,c27,c28,c29,c30,c31,rfl⟩:=list32 hC
 kernel_rfl
theorem lt512' {v:Nat} (h:v<2^(8*64)):v<256^64:=Nat.lt_of_lt_of_eq h (Nat.pow_mul 2 8 64)
theorem p256':(256:Nat)^32=2^256:=by decide
theorem hashR {m:List Int} (hb:byt m) (hm:m.length≤100000):fr13_hash m=some (zl (limbsN 8 32 (hN m))):=by
 obtain ⟨r,h1,h2,h3,_⟩:=hash_is hm
 have h4:r=sha5 m:=by
  have:=shaC_is hm hb
  rw [h1] at this;exact Option.some.inj this
 obtain ⟨v,h5,h6⟩:=byt_form h2 h3
 have hN':hN m=v%LN:=by
  unfold hN
  rw [h1]
  show numB r%LN=_
  rw [h5,numB_limbs h6]
 unfold fr13_hash
 rw [SumR hb hm,Option.bind_some,←h4,List.take_of_length_le (by omega),h5,ModS (by decide),Option.bind_some,hN',Nat.mod_eq_of_lt (lt512' h6)]
theorem baseR {s:Nat} (hs:s<2^256):fr13_base (zl (limbsN 8 32 s))=some (encP (Pt.mul envF B s)):=by
 obtain ⟨r,h1,h2⟩:=RTimes Base_rep hs
 unfold fr13_base
 rw [Base_ref,Option.bind_some,h1,Option.bind_some,RBytes h2];rfl
theorem secretR {k:List Int} (hk:k.length=32) (kb:byt k) {A:Nat} {w:List Int} (hs:sign_secret k=some (zl (limbsN 8 32 A),w)):w=sha5 k/\fr13_secret k=some (zl (limbsN 8 32 A),List.take 32 (List.drop 32 w)):=by
 have ht:k.take 32=k:=List.take_of_length_le (by omega)
 have h1:=shaC_is (m:=k) (by omega) kb
 obtain ⟨w',e1,e2,e3⟩:=shaC_tot (m:=k) (by omega)
 have hw':w'=sha5 k:=Option.some.inj (e1.symm.trans h1)
 unfold sign_secret at hs
 rw [Sum1_is (by decide),ht,e1,Option.bind_some,if_pos (by rw [List.length_take];omega)] at hs
 obtain ⟨c,hc,hs⟩:=bnd hs
 have hs:=Option.some.inj hs
 injection hs with hA hw
 subst hA
 subst hw
 refine ⟨hw',?_⟩
 have hsp:w'=List.take 32 w'++List.take 32 (List.drop 32 w'):=by
  rw [List.take_of_length_le (l:=List.drop 32 w') (by rw [List.length_drop];omega),List.take_append_drop]
 have hb:byt (List.take 32 w'):=byt_take _ e3
 unfold fr13_secret
 rw [ht,SumR kb (by omega),Option.bind_some,←hw']
 conv=>lhs;rw [hsp]
 rw [halvesR (by rw [List.length_take];omega) (by rw [List.length_take,List.length_drop];omega),Option.bind_some]
 dsimp only
 rw [clampR hb (by rw [List.length_take];omega)]
 rw [List.take_of_length_le (l:=List.take 32 w') (by rw [List.length_take];omega)] at hc
 rw [hc];rfl
theorem challR {R P t:List Int} (hR:R.length=32) (hP:P.length=32) (bR:byt R) (bP:byt P) (bt:byt t) (ht:t.length≤1000):fr13_challenge R P t=some (zl (limbsN 8 32 (hN (R++P++t)))):=by
 unfold fr13_challenge
 rw [List.take_of_length_le (l:=R) (by omega),List.take_of_length_le (l:=P) (by omega),List.nil_append,List.length_nil,if_pos (by omega),if_pos (by omega),nm_eq,if_pos (by rw [List.length_append];omega),hashR (byt_app (byt_app bR bP) bt) (by rw [List.length_append,List.length_append];omega)];rfl
theorem SignR {k t:List Int} (hk:k.length=32) (kb:byt k) (bt:byt t) (ht:t.length≤1000) {A r:Nat} {w:List Int} (hs:sign_secret k=some (zl (limbsN 8 32 A),w)) (hA:A<2^256) (hw:w.length=64) (hr:r=hN (List.take 32 (List.drop 32 w)++t)) :
  fr13_Sign k t=some (encP (Pt.mul envF B r)++zl (limbsN 8 32 ((r+hN (encP (Pt.mul envF B r)++encP (Pt.mul envF B A)++t)*A%LN)%LN))):=by
 obtain ⟨e1,e2⟩:=secretR hk kb hs
 have hpl:(List.take 32 (List.drop 32 w)).length=32:=by rw [List.length_take,List.length_drop];omega
 have hrl:r<2^256:=by rw [hr];exact hN_lt2 _
 have bw:byt w:=by
  obtain ⟨w',q1,q2,q3⟩:=shaC_tot (m:=k) (by omega)
  have:=shaC_is (m:=k) (by omega) kb
  rw [q1] at this
  rw [e1,←Option.some.inj this];exact q3
 unfold fr13_Sign
 rw [e2,Option.bind_some]
 dsimp only
 rw [List.take_of_length_le (l:=List.take 32 (List.drop 32 w)) (by omega),List.nil_append,List.length_nil,if_pos (by omega),if_pos (by omega),hashR (byt_app (byt_take _ (byt_drop _ bw)) bt) (by rw [List.length_append];omega),Option.bind_some,←hr,baseR hrl,Option.bind_some,baseR hA,Option.bind_some,challR (encP_len _) (encP_len _) (encP_byt _) (encP_byt _) bt ht,Option.bind_some,TimesS (by rw [p256'];exact hN_lt2 _) (by rw [p256'];exact hA),Option.bind_some,AddS (by rw [p256'];exact hrl) (by rw [p256'];exact mod256 _),Option.bind_some,joinR (encP_len _) (by rw [zl_len,limbsN_len]),Option.bind_some]
theorem Concat6_two {a b:List Int} (ha:a.length≤300000) (hb:b.length≤300000):slices_Concat_byte_byte_6 [a,b]=some ((a++b).length,a++b):=by
 obtain ⟨g,hg⟩:=Grow_is (x:=((a.length+b.length:Nat):Int)) (by omega) (by omega)
 have w1:IntKind.wrap .i64 (0+(a.length:Int))=(a.length:Int):=by rw [Int.zero_add];exact i64n (by omega)
 have w2:IntKind.wrap .i64 ((a.length:Int)+(b.length:Int))=((a.length+b.length:Nat):Int):=i64n (by omega)
 obtain ⟨m,hm⟩:∃ m,FUEL=m+1+1+1:=⟨18446744073709551613,rfl⟩
 have h1:slices_Concat_byte_byte_6_l1 [a,b] FUEL 0 0=some ((a.length+b.length:Nat):Int):=by
  rw [hm,slices_Concat_byte_byte_6_l1.eq_2,cond_tt (by rfl),if_pos ⟨by decide,(by show (0:Int)<2;decide)⟩,nm_eq]
  show cond (decide (IntKind.wrap .i64 (0+(a.length:Int))<0)) none (slices_Concat_byte_byte_6_l1 [a,b] (m+1+1) (IntKind.wrap .i64 (0+(a.length:Int))) 1)=_
  rw [w1,cond_ff (by simp<;>omega),slices_Concat_byte_byte_6_l1.eq_2,cond_tt (by rfl),if_pos ⟨by decide,(by show (1:Int)<2;decide)⟩,nm_eq]
  show cond (decide (IntKind.wrap .i64 ((a.length:Int)+(b.length:Int))<0)) none (slices_Concat_byte_byte_6_l1 [a,b] (m+1) (IntKind.wrap .i64 ((a.length:Int)+(b.length:Int))) 2)=_
  rw [w2,cond_ff (by simp<;>omega),slices_Concat_byte_byte_6_l1.eq_2,cond_ff (by rfl)]
 have h2:slices_Concat_byte_byte_6_l2 [a,b] FUEL 0 0 g=some (.inr ((a++b).length,a++b)):=by
  rw [hm,slices_Concat_byte_byte_6_l2.eq_2,cond_tt (by rfl),if_pos ⟨by decide,(by show (0:Int)<2;decide)⟩]
  show (if (((0:Nat):Int)+(a.length:Int))*1≤140737488355328 then if 0≤g.length then slices_Concat_byte_byte_6_l2 [a,b] (m+1+1) (List.length (List.take 0 g++a)) 1 (List.take 0 g++a) else none else none)=_
  rw [if_pos (by omega),if_pos (Nat.zero_le _),List.take_zero,List.nil_append,slices_Concat_byte_byte_6_l2.eq_2,cond_tt (by rfl),if_pos ⟨by decide,(by show (1:Int)<2;decide)⟩]
  show (if ((a.length:Int)+(b.length:Int))*1≤140737488355328 then if a.length≤a.length then slices_Concat_byte_byte_6_l2 [a,b] (m+1) (List.length (List.take a.length a++b)) 2 (List.take a.length a++b) else none else none)=_
  rw [if_pos (by omega),if_pos (Nat.le_refl _),List.take_length,slices_Concat_byte_byte_6_l2.eq_2,cond_ff (by rfl)]
 unfold slices_Concat_byte_byte_6
 rw [h1,Option.bind_some,hg,Option.bind_some]
 dsimp only
 rw [h2];rfl
theorem Sign2_two {k a b:List Int} (ha:a.length≤300) (hb:b.length≤300):sign_Sign_2 k [a,b]=sign_Sign k (a++b).length (a++b):=by
 unfold sign_Sign_2 sign_Sign
 rw [Concat6_two (by omega) (by omega)]
 rw [Concat2_is (by rw [List.length_append];omega),List.take_length];rfl
theorem Verify2_eq (k s:List Int) (n:Nat) (t:List Int):sign_Verify_2 k s n t=sign_Verify k s n t:=rfl
theorem SignSigns_is {k a b:List Int} (hk:k.length=32) (kb:byt k) (ab:byt a) (bb:byt b):fl13_SignSigns k a b=some true:=by
 unfold fl13_SignSigns
 rw [alive_is,Option.bind_some,cond_ff (by rfl)]
 by_cases ha:300<a.length
 ·rw [cond_tt (by simp<;>omega)]
 rw [cond_ff (by simp<;>omega)]
 by_cases hb:300<b.length
 ·rw [cond_tt (by simp<;>omega)]
 rw [cond_ff (by simp<;>omega),List.nil_append,List.length_nil,if_pos (by omega),if_pos (by omega)]
 have hl:(a++b).length≤1000:=by rw [List.length_append];omega
 obtain ⟨A,w,h1,h2,h3,_⟩:=secret_is hk
 obtain ⟨r,hr,hS,hre⟩:=Sign_is (n:=(a++b).length) (t:=a++b) h1 h2 h3 hl
 have hP:=Public_is h1 h2
 rw [List.take_length] at hS hre
 have hRS:=SignR hk kb (byt_app ab bb) hl h1 h2 h3 hre
 have hPR:fr13_Public k=some (encP (Pt.mul envF B A)):=by
  unfold fr13_Public
  rw [(secretR hk kb h1).2,Option.bind_some]
  dsimp only
  rw [baseR h2];rfl
 rw [Sign2_two (by omega) (by omega),hS,Option.bind_some,hP,Option.bind_some,hPR,Option.bind_some,cond_tt (by simp),hRS,Option.bind_some,cond_tt (by simp),Option.bind_some,Verify2_eq,own_is (mod256 _) hl,List.take_length,decide_eq_true rfl];rfl
end Go.Eng
