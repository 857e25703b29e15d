/-
  Part of a proof: SrSa.
-/
import Derived.Test.YtaogeiahkekaoaaGreatDoorSrNa
set_option linter.unusedVariables false
set_option linter.unusedSimpArgs false
namespace Go.Eng
set_option maxRecDepth 100000
set_option maxHeartbeats 1000000
def beN:List Nat->Nat
 |[]=>0
 |x::xs=>x*256^xs.length+beN xs
def beL:Nat->Nat->List Nat
 |0,_=>[]
 |r+1,V=>beL r (V/256)++[V%256]
theorem beL_len:∀ r V,(beL r V).length=r
 |0,_=>rfl
 |r+1,V=>by rw [beL,List.length_append,beL_len r];rfl
theorem beL_dig:∀ r V,Dig (beL r V)
 |0,_,x,h=>by cases h
 |r+1,V,x,h=>by
  rcases List.mem_append.1 h with h|h
  ·exact beL_dig r _ x h
  ·rw [List.mem_singleton.1 h];exact Nat.mod_lt _ (by decide)
theorem beN_snoc:∀ (l:List Nat) (x:Nat),beN (l++[x])=beN l*256+x
 |[],x=>by simp [beN]
 |y::l,x=>by
  rw [List.cons_append,beN,beN_snoc l x,beN,List.length_append,List.length_cons,List.length_nil,Nat.pow_succ,Nat.add_mul,Nat.mul_assoc];omega
theorem beN_beL:∀ r V,V<256^r->beN (beL r V)=V
 |0,V,h=>by simp at h;subst h;rfl
 |r+1,V,h=>by
  rw [beL,beN_snoc,beN_beL r _ (Nat.div_lt_of_lt_mul (by rw [Nat.mul_comm,←Nat.pow_succ];exact h))];omega
theorem beL_rev:∀ r V,beL r V=(limbsN 8 r V).reverse
 |0,_=>rfl
 |r+1,V=>by rw [beL,beL_rev r,limbsN,List.reverse_cons]
theorem beN_lt:∀ {l:List Nat},Dig l->beN l<256^l.length
 |[],_=>by simp [beN]
 |x::l,h=>by
  have hx:=h x (List.mem_cons_self ..)
  have:=beN_lt (l:=l) fun y hy=>h y (List.mem_cons_of_mem _ hy)
  rw [beN,List.length_cons,Nat.pow_succ]
  have h2:x*256^l.length+256^l.length≤256^l.length*256:=by
   rw [←Nat.succ_mul,Nat.mul_comm];exact Nat.mul_le_mul_left _ hx
  omega
def lexB:List Nat->List Nat->Bool
 |x::xs,y::ys=>if x=y then lexB xs ys else decide (x<y)
 |_,_=>false
theorem lexB_val:∀ {a b:List Nat},a.length=b.length->Dig a->Dig b->lexB a b=decide (beN a<beN b)
 |[],[],_,_,_=>rfl
 |x::a,y::b,h,ha,hb=>by
  have hl:a.length=b.length:=by simpa using h
  have ha':Dig a:=fun z hz=>ha z (List.mem_cons_of_mem _ hz)
  have hb':Dig b:=fun z hz=>hb z (List.mem_cons_of_mem _ hz)
  have h1:=beN_lt ha'
  have h2:=beN_lt hb'
  rw [lexB,beN,beN,hl]
  rw [hl] at h1
  by_cases e:x=y
  ·rw [if_pos e,lexB_val hl ha' hb',e]
   congr 1;apply propext;omega
  ·rw [if_neg e]
   congr 1;apply propext
   generalize 256^b.length=T at *
   rcases Nat.lt_or_gt_of_ne e with c|c
   ·have:x*T+T≤y*T:=by rw [←Nat.succ_mul];exact Nat.mul_le_mul_right _ c
    exact ⟨fun _=>by omega,fun _=>c⟩
   ·have:y*T+T≤x*T:=by rw [←Nat.succ_mul];exact Nat.mul_le_mul_right _ c
    exact ⟨fun _=>by omega,fun _=>by omega⟩
theorem LN256:LN<256^32:=by decide
theorem modl_eq:fr11_modulus=some (zl (beL 32 LN)):=by decide
theorem modl_33:[0]++zl (beL 32 LN)=zl (beL 33 LN):=by decide
theorem getD_drop {l:List Nat} {i:Nat} (h:i<l.length):l.drop i=l.getD i 0::l.drop (i+1):=by
 rw [List.drop_eq_getElem_cons h];simp only [List.getD,List.getElem?_eq_getElem h,Option.getD_some]
theorem lessS_l1 (a b:List Nat) (hl:a.length=33) (hb:b.length=33) (m:List Int) (hm:[0]++m=zl b):∀ (r n i:Nat),i+r=33->r<n->fr11_less_l1 (zl a) m n (i:Int)=some (if a.drop i=b.drop i then .inl () else .inr (lexB (a.drop i) (b.drop i)))
 |_,0,_,_,h=>absurd h (Nat.not_lt_zero _)
 |0,n+1,i,h,_=>by
  rw [fr11_less_l1.eq_2,zl_len,hl,cond_ff (by simp;omega),List.drop_eq_nil_of_le (by omega),List.drop_eq_nil_of_le (by omega),if_pos rfl]
 |r+1,n+1,i,h,h'=>by
  have hz:((zl b).length:Int)=33:=by rw [zl_len,hb];rfl
  rw [fr11_less_l1.eq_2,zl_len,hl,hm,hz,cond_tt (by simp;omega),if_pos (by omega),if_pos (by omega),nm_eq,Int.toNat_natCast,zl_getD,zl_getD,getD_drop (l:=a) (by omega),getD_drop (l:=b) (by omega)]
  by_cases e:a.getD i 0=b.getD i 0
  ·have ih:=lessS_l1 a b hl hb m hm r n (i+1) (by omega) (by omega)
   rw [cond_ff (by rw [e];simp),wrap_i64 (n:=(i:Int)+1) (by omega) (by omega),show (i:Int)+1=((i+1:Nat):Int) from rfl,ih,e,lexB,if_pos rfl]
   by_cases c:a.drop (i+1)=b.drop (i+1)
   ·rw [if_pos c,if_pos (by rw [c])]
   ·rw [if_neg c,if_neg fun q=>c (List.cons.inj q).2]
  ·have e2:¬ ((a.getD i 0:Nat):Int)=((b.getD i 0:Nat):Int):=fun q=>e (Int.ofNat_inj.1 q)
   rw [cond_tt (by rw [beq_false_of_ne e2];rfl),if_pos (by omega),if_pos (by omega),nm_eq,lexB,if_neg e,if_neg fun q=>e (List.cons.inj q).1]
   congr 2
   apply decide_eq_decide.2;omega
theorem lessS_is {V:Nat} (hV:V<256^33):fr11_less (zl (beL 33 V))=some (decide (V<LN)):=by
 have hLN:LN<256^33:=Nat.lt_trans LN256 (by decide)
 have h:=lessS_l1 (beL 33 V) (beL 33 LN) (beL_len _ _) (beL_len _ _) (zl (beL 32 LN)) modl_33 33 FUEL 0 (by omega) (big _ (by decide))
 rw [List.drop_zero,List.drop_zero,show ((0:Nat):Int)=0 from rfl,lexB_val (by rw [beL_len,beL_len]) (beL_dig _ _) (beL_dig _ _),beN_beL _ _ hV,beN_beL _ _ hLN] at h
 unfold fr11_less
 rw [modl_eq,Option.bind_some,if_pos (by rw [zl_len,beL_len];decide),h,Option.bind_some]
 by_cases e:beL 33 V=beL 33 LN
 ·have:V=LN:=by rw [←beN_beL _ _ hV,e,beN_beL _ _ hLN]
  rw [if_pos e,decide_eq_false (by omega)]
 ·rw [if_neg e]
theorem snoc_of {l:List Nat} {r:Nat} (h:l.length=r+1):∃ l' x,l=l'++[x]/\l'.length=r:=by
 refine ⟨l.take r,l.getD r 0,?_,by rw [List.length_take];omega⟩
 have:=List.take_append_drop r l
 rw [getD_drop (by omega),List.drop_eq_nil_of_le (by omega)] at this
 exact this.symm
theorem zl_snoc_get (l:List Nat) (x:Nat) (t:List Int):(zl (l++[x])++t).getD l.length 0=(x:Int):=by
 rw [zl_append,List.append_assoc,List.getD_eq_getElem?_getD,List.getElem?_append_right (by rw [zl_len];exact Nat.le_refl _),zl_len,Nat.sub_self];rfl
theorem zl_snoc_set (l:List Nat) (x:Nat) (t:List Int) (v:Int):(zl (l++[x])++t).set l.length v=zl l++(v::t):=by
 rw [zl_append,List.append_assoc,List.set_append_right _ _ (by rw [zl_len];exact Nat.le_refl _),zl_len,Nat.sub_self];rfl
theorem subS_l3 (m:List Int):∀ (r n:Nat) (H K:List Nat) (o:Nat) (T T':List Int),H.length=r->K.length=r->Dig H->Dig K->o≤1->beN K+o≤beN H->[0]++m=zl K++T'->T.length=T'.length->T.length+r≤100->r<n ->
  fr11_Mod_l3 m n (o:Int) ((r:Int)-1) (zl H++T)=some (zl (beL r (beN H-beN K-o))++T)
 |_,0,_,_,_,_,_,_,_,_,_,_,_,_,_,_,h=>absurd h (Nat.not_lt_zero _)
 |0,n+1,H,K,o,T,T',hH,hK,_,_,_,_,_,_,_,_=>by
  obtain rfl:=List.eq_nil_of_length_eq_zero hH
  rw [fr11_Mod_l3.eq_2,cond_ff (by decide)];rfl
 |r+1,n+1,H,K,o,T,T',hH,hK,dH,dK,ho,hle,hm,hT,hs,hn=>by
  obtain ⟨H,x,rfl,hH1⟩:=snoc_of hH
  obtain ⟨K,y,rfl,hK1⟩:=snoc_of hK
  have hx:x<256:=dH x (by simp)
  have hy:y<256:=dK y (by simp)
  rw [beN_snoc,beN_snoc] at hle
  have dH':Dig H:=fun z hz=>dH z (List.mem_append_left _ hz)
  have dK':Dig K:=fun z hz=>dK z (List.mem_append_left _ hz)
  have l1:(zl (H++[x])++T).length=r+1+T.length:=by rw [List.length_append,zl_len,hH]
  have l2:(zl (K++[y])++T').length=r+1+T.length:=by rw [List.length_append,zl_len,hK,hT]
  have g1:=zl_snoc_get H x T
  have g2:=zl_snoc_get K y T'
  rw [hH1] at g1
  rw [hK1] at g2
  have w1:IntKind.wrap .i64 ((x:Int)-(y:Int))=(x:Int)-(y:Int):=wrap_i64 (by omega) (by omega)
  have w2:IntKind.wrap .i64 ((x:Int)-(y:Int)-(o:Int))=(x:Int)-(y:Int)-(o:Int):=wrap_i64 (by omega) (by omega)
  rw [fr11_Mod_l3.eq_2,show ((r+1:Nat):Int)-1=(r:Int) by omega,cond_tt (by simp),hm,l1,l2,if_pos (by omega),if_pos (by omega),nm_eq,Int.toNat_natCast,g1,g2,w1,w2,wrap_i64 (n:=(r:Int)-1) (by omega) (by omega)]
  have hm':[0]++m=zl K++((y:Int)::T'):=by rw [hm,zl_append,List.append_assoc];rfl
  rw [beN_snoc,beN_snoc,beL]
  by_cases hneg:x<y+o
  ·have s:=zl_snoc_set H x T ((x+256-y-o:Nat):Int)
   rw [hH1] at s
   have w3:IntKind.wrap .i64 ((x:Int)-(y:Int)-(o:Int)+256)=((x+256-y-o:Nat):Int):=by rw [wrap_i64 (by omega) (by omega)];omega
   rw [cond_tt (by simp;omega),w3,Option.bind_some]
   dsimp only
   rw [if_pos (by omega),s]
   have hlt:beN K+1≤beN H:=by omega
   have ih:=subS_l3 m r n H K 1 (((x+256-y-o:Nat):Int)::T) ((y:Int)::T') hH1 hK1 dH' dK' (by decide) hlt hm' (by simp [hT]) (by rw [List.length_cons];omega) (by omega)
   show fr11_Mod_l3 m n ((1:Nat):Int) _ _=_
   rw [ih,zl_append,List.append_assoc]
   have e1:(beN H*256+x-(beN K*256+y)-o)/256=beN H-beN K-1:=by omega
   have e2:(beN H*256+x-(beN K*256+y)-o)%256=x+256-y-o:=by omega
   rw [e1,e2];rfl
  ·have s:=zl_snoc_set H x T ((x-y-o:Nat):Int)
   rw [hH1] at s
   have w3:(x:Int)-(y:Int)-(o:Int)=((x-y-o:Nat):Int):=by omega
   rw [cond_ff (by simp;omega),w3,Option.bind_some]
   dsimp only
   rw [if_pos (by omega),s]
   have hlt:beN K+0≤beN H:=by omega
   have ih:=subS_l3 m r n H K 0 (((x-y-o:Nat):Int)::T) ((y:Int)::T') hH1 hK1 dH' dK' (by decide) hlt hm' (by simp [hT]) (by rw [List.length_cons];omega) (by omega)
   show fr11_Mod_l3 m n ((0:Nat):Int) _ _=_
   rw [ih,zl_append,List.append_assoc]
   have e1:(beN H*256+x-(beN K*256+y)-o)/256=beN H-beN K-0:=by omega
   have e2:(beN H*256+x-(beN K*256+y)-o)%256=x-y-o:=by omega
   rw [e1,e2];rfl
theorem subS_is {V:Nat} (hV:V<256^33) (hl:LN≤V):fr11_Mod_l3 (zl (beL 32 LN)) FUEL 0 32 (zl (beL 33 V))=some (zl (beL 33 (V-LN))):=by
 have hLN:LN<256^33:=Nat.lt_trans LN256 (by decide)
 have h:=subS_l3 (zl (beL 32 LN)) 33 FUEL (beL 33 V) (beL 33 LN) 0 [] [] (beL_len _ _) (beL_len _ _) (beL_dig _ _) (beL_dig _ _) (by decide) (by rw [beN_beL _ _ hV,beN_beL _ _ hLN];exact hl) (by rw [List.append_nil];exact modl_33) rfl (by decide) (big _ (by decide))
 rw [List.append_nil,List.append_nil,beN_beL _ _ hV,beN_beL _ _ hLN,Nat.sub_zero] at h
 exact h
theorem modS_l2:∀ (n V:Nat),V<256^33->V<n*LN->fr11_Mod_l2 (zl (beL 32 LN)) n (zl (beL 33 V))=some (zl (beL 33 (V%LN)))
 |0,V,_,h=>by simp at h
 |n+1,V,hV,h=>by
  rw [fr11_Mod_l2.eq_2,lessS_is hV,Option.bind_some]
  by_cases hl:V<LN
  ·rw [decide_eq_true hl,cond_ff (by rfl),Nat.mod_eq_of_lt hl]
  ·rw [decide_eq_false hl,cond_tt (by rfl),subS_is hV (by omega),Option.bind_some,modS_l2 n (V-LN) (by omega) (by rw [Nat.succ_mul] at h;omega),←Nat.mod_eq_sub_mod (by omega)]
theorem beL_shift (r V b:Nat) (hb:b<256):beL r V++[b]=beL (r+1) (256*V+b):=by
 rw [beL,show (256*V+b)/256=V by omega,show (256*V+b)%256=b by omega]
theorem beL_head {r V:Nat} (h:V<256^r):beL (r+1) V=0::beL r V:=by
 induction r generalizing V with
 |zero=>simp at h;subst h;rfl
 |succ r ih =>
  rw [beL,ih (Nat.div_lt_of_lt_mul (by rw [Nat.mul_comm,←Nat.pow_succ];exact h)),List.cons_append];rfl
theorem mod_key (l Q:Nat):(256*(Q/256%l)+Q%256)%l=Q%l:=by
 rw [Nat.add_mod,Nat.mul_mod,Nat.mod_mod,←Nat.mul_mod,←Nat.add_mod]
 congr 1
 omega
theorem modS_l1 {L X:Nat} (hL:L≤1000):∀ (i n:Nat),i≤L->i<n->fr11_Mod_l1 (zl (limbsN 8 L X)) (zl (beL 32 LN)) n 33 ((i:Int)-1) (zl (beL 33 (X%256^L/256^i%LN)))=some (.inr (33,zl (beL 33 (X%256^L%LN))))
 |i,0,_,h=>absurd h (Nat.not_lt_zero _)
 |0,n+1,_,_=>by
  rw [fr11_Mod_l1.eq_2,cond_ff (by decide),Nat.pow_zero,Nat.div_one]
 |i+1,n+1,hi,hn=>by
  obtain ⟨V,hV⟩:∃ V,V=X%256^L/256^(i+1)%LN:=⟨_,rfl⟩
  have hVl:V<LN:=by rw [hV];exact Nat.mod_lt _ LN_pos
  have hV32:V<256^32:=Nat.lt_trans hVl LN256
  have hbd:(limbsN 8 L X).getD i 0<256:=getD_lt (limbsN_lt 8 L X) (by decide) _
  obtain ⟨b,hb⟩:∃ b,b=(limbsN 8 L X).getD i 0:=⟨_,rfl⟩
  rw [←hb] at hbd
  have hb2:b=X%256^L/256^i%256:=by
   rw [hb,limbsN_get 8 L X i (by omega),Nat.pow_mul,two8]
   obtain ⟨k,rfl⟩:∃ k,L=i+(k+1):=⟨L-i-1,by omega⟩
   rw [Nat.pow_add,Nat.mod_mul_right_div_self,Nat.pow_succ,Nat.mul_comm (256^k),Nat.mod_mul_right_mod]
  rw [←hV]
  have e1:IntKind.wrap .i64 ((b:Nat):Int)=(b:Int):=i64n (by omega)
  rw [fr11_Mod_l1.eq_2,show ((i+1:Nat):Int)-1=(i:Int) by omega,cond_tt (by simp),if_pos (by decide),beL_head hV32,zl_cons,List.drop_one,List.tail_cons]
  have ht:List.take (Int.toNat (((33:Nat):Int)-1)) (zl (beL 32 V))=zl (beL 32 V):=List.take_of_length_le (by rw [zl_len,beL_len];decide)
  rw [ht,if_pos (by rw [zl_len,beL_len];decide),nm_eq,List.nil_append,if_pos (by rw [zl_len,limbsN_len];omega),Int.toNat_natCast,zl_getD,←hb,e1,if_pos (by rw [zl_len,beL_len,List.length_singleton];decide),nm_eq]
  have e2:zl (beL 32 V)++[(b:Int)]=zl (beL 33 (256*V+b)):=by rw [←beL_shift _ _ _ hbd,zl_append];rfl
  have hnew:256*V+b<256*LN:=by omega
  rw [e2,modS_l2 FUEL (256*V+b) (Nat.lt_trans hnew (show 256*LN<256^33 by decide)) (Nat.lt_of_lt_of_le hnew (Nat.mul_le_mul_right _ (Nat.le_of_lt (big 256 (by decide))))),Option.bind_some,zl_len,beL_len,wrap_i64 (n:=(i:Int)-1) (by omega) (by omega)]
  have e3:(256*V+b)%LN=X%256^L/256^i%LN:=by
   rw [hV,hb2,Nat.pow_succ,←Nat.div_div_eq_div_mul]
   exact mod_key _ _
  rw [e3]
  exact modS_l1 hL i n (by omega) (by omega)
theorem outS_raw (r0 r1 r2 r3 r4 r5 r6 r7 r8 r9 r10 r11 r12 r13 r14 r15 r16 r17 r18 r19 r20 r21 r22 r23 r24 r25 r26 r27 r28 r29 r30 r31 r32:Int) :
  fr11_Mod_l5 33 [r0,r1,r2,r3,r4,r5,r6,r7,r8,r9,r10,r11,r12,r13,r14,r15,r16,r17,r18,r19,r20,r21,r22,r23,r24,r25,r26,r27,r28,r29,r30,r31,r32] FUEL 0 (List.replicate 32 0)=some (List.map (IntKind.wrap .u8) [r32,r31,r30,r29,r28,r27,r26,r25,r24,r23,r22,r21,r20,r19,r18,r17,r16,r15,r14,r13,r12,r11,r10,r9,r8,r7,r6,r5,r4,r3,r2,r1]):=by kernel_rfl
theorem outS_is (R:List Int) (h:R.length=33):fr11_Mod_l5 33 R FUEL 0 (List.replicate 32 0)=some (List.map (IntKind.wrap .u8) (List.take 32 (List.reverse R))):=by
 obtain ⟨zz0,zz1,zz2,zz3,zz4,zz5,zz6,zz7,zz8,zz9,zz10,zz11,zz12,zz13,zz14,zz15,zz16,zz17,zz18,zz19,zz20,zz21,zz22,zz23,zz24,zz25,zz26,zz27,zz28,zz29,zz30,zz31,zz32,e⟩:∃ zz0 zz1 zz2 zz3 zz4 zz5 zz6 zz7 zz8 zz9 zz10 zz11 zz12 zz13 zz14 zz15 zz16 zz17 zz18 zz19 zz20 zz21 zz22 zz23 zz24 zz25 zz26 zz27 zz28 zz29 zz30 zz31 zz32,R=[zz0,zz1,zz2,zz3,zz4,zz5,zz6,zz7,zz8,zz9,zz10,zz11,zz12,zz13,zz14,zz15,zz16,zz17,zz18,zz19,zz20,zz21,zz22,zz23,zz24,zz25,zz26,zz27,zz28,zz29,zz30,zz31,zz32]:=by
  match R,h with
  |zz0::zz1::zz2::zz3::zz4::zz5::zz6::zz7::zz8::zz9::zz10::zz11::zz12::zz13::zz14::zz15::zz16::zz17::zz18::zz19::zz20::zz21::zz22::zz23::zz24::zz25::zz26::zz27::zz28::zz29::zz30::zz31::zz32::[],_=>exact ⟨zz0,zz1,zz2,zz3,zz4,zz5,zz6,zz7,zz8,zz9,zz10,zz11,zz12,zz13,zz14,zz15,zz16,zz17,zz18,zz19,zz20,zz21,zz22,zz23,zz24,zz25,zz26,zz27,zz28,zz29,zz30,zz31,zz32,rfl⟩
 subst e
 exact outS_raw ..
theorem map_wrap8 {l:List Nat} (h:Dig l):List.map (IntKind.wrap .u8) (zl l)=zl l:=by
 unfold zl
 rw [List.map_map]
 apply List.map_congr_left
 intro x hx
 show IntKind.wrap .u8 (x:Int)=(x:Int)
 rw [u8n,Nat.mod_eq_of_lt (h x hx)]
theorem ModS {L X:Nat} (hL:L≤1000):fr11_Mod (zl (limbsN 8 L X))=some (zl (limbsN 8 32 (X%256^L%LN))):=by
 have h:=modS_l1 (X:=X) hL L FUEL (Nat.le_refl _) (big _ (by omega))
 rw [Nat.div_eq_of_lt (Nat.mod_lt _ (Nat.pow_pos (by decide))),Nat.zero_mod] at h
 have hz:zl (beL 33 0)=List.replicate 33 (0:Int):=by decide
 rw [hz] at h
 have hw:IntKind.wrap .i64 (((L:Nat):Int)-1)=((L:Nat):Int)-1:=wrap_i64 (by omega) (by omega)
 unfold fr11_Mod
 rw [modl_eq,Option.bind_some,if_pos (by rw [zl_len,beL_len];decide),zl_len,limbsN_len,hw,List.length_replicate,h,Option.bind_some]
 dsimp only
 rw [outS_is _ (by rw [zl_len,beL_len]),Option.bind_some,beL_rev]
 have e:List.reverse (zl (limbsN 8 33 (X%256^L%LN)).reverse)=zl (limbsN 8 33 (X%256^L%LN)):=by
  unfold zl;rw [List.map_reverse,List.reverse_reverse]
 rw [e,←zl_take,limbsN_splt 8 32,List.take_left' (limbsN_len ..),map_wrap8 (limbsN_lt 8 32 _)]
end Go.Eng
namespace Go.Eng
set_option maxRecDepth 100000
set_option maxHeartbeats 1000000
theorem i64_add (x y:Nat) (h:x+y<9223372036854775808):IntKind.wrap .i64 ((x:Int)+(y:Int))=((x+y:Nat):Int):=i64n h
theorem i64_mul (x y:Nat) (h:x*y<9223372036854775808):IntKind.wrap .i64 ((x:Int)*(y:Int))=((x*y:Nat):Int):=i64n h
theorem tdiv256 (x:Nat):Int.tdiv (x:Int) 256=((x/256:Nat):Int):=rfl
theorem tmod256 (x:Nat):Int.tmod (x:Int) 256=((x%256:Nat):Int):=rfl
theorem limbs_snoc (i X:Nat):limbsN 8 (i+1) X=limbsN 8 i X++[X/256^i%256]:=by
 rw [limbsN_splt 8 i,Nat.pow_mul]
theorem p256s (i:Nat) (X:Nat):X/256^(i+1)=X/256^i/256:=by rw [Nat.pow_succ,Nat.div_div_eq_div_mul]
theorem limbs8_get {A i:Nat} (h:i<32):(limbsN 8 32 A).getD i 0=A/256^i%256:=by
 rw [limbsN_get 8 32 A i h,Nat.pow_mul]
theorem addS_l1 (A C:Nat):∀ (r n i o:Nat),i+r=32->r<n->o+A/256^i+C/256^i=(A+C)/256^i->o≤1 ->
  ∃ o':Nat,fr11_Add_l1 (zl (limbsN 8 32 A)) (zl (limbsN 8 32 C)) n (o:Int) (i:Int) (zl (limbsN 8 i (A+C)))=some ((o':Int),zl (limbsN 8 32 (A+C)))/\o'+A/256^32+C/256^32=(A+C)/256^32/\o'≤1
 |_,0,_,_,_,h,_,_=>absurd h (Nat.not_lt_zero _)
 |0,n+1,i,o,h,_,ho,h1=>by
  obtain rfl:i=32:=by omega
  rw [fr11_Add_l1.eq_2,cond_ff (by decide)]
  exact ⟨o,rfl,ho,h1⟩
 |r+1,n+1,i,o,h,h',ho,h1=>by
  obtain ⟨a,ha⟩:∃ a,a=A/256^i:=⟨_,rfl⟩
  obtain ⟨c,hc⟩:∃ c,c=C/256^i:=⟨_,rfl⟩
  rw [←ha,←hc] at ho
  have ga:(limbsN 8 32 A).getD i 0=a%256:=by rw [limbs8_get (by omega),ha]
  have gc:(limbsN 8 32 C).getD i 0=c%256:=by rw [limbs8_get (by omega),hc]
  obtain ⟨o',q1,q2,q3⟩:=addS_l1 A C r n (i+1) ((o+(a%256+c%256))/256) (by omega) (by omega) (by rw [p256s,p256s,p256s,←ho,←ha,←hc];omega) (by omega)
  refine ⟨o',?_,q2,q3⟩
  have el:((zl (limbsN 8 i (A+C))).length:Int)=(i:Int):=by rw [zl_len,limbsN_len]
  rw [fr11_Add_l1.eq_2,cond_tt (by simp;omega),if_pos (by omega),if_pos (by omega),nm_eq,Int.toNat_natCast,zl_getD,zl_getD,ga,gc,i64n (n:=a%256) (by omega),i64n (n:=c%256) (by omega),i64_add _ _ (by omega),i64_add _ _ (by omega),nm_eq,tmod256,u8n,Nat.mod_mod,el,if_pos (by rw [List.length_singleton];omega),nm_eq,tdiv256,i64n (n:=(o+(a%256+c%256))/256) (by omega),wrap_i64 (n:=(i:Int)+1) (by omega) (by omega)]
  have e:zl (limbsN 8 i (A+C))++[((((o+(a%256+c%256))%256:Nat)):Int)]=zl (limbsN 8 (i+1) (A+C)):=by
   rw [limbs_snoc,zl_append,←ho]
   show _=_++[(((o+a+c)%256:Nat):Int)]
   congr 3;omega
  rw [e]
  exact q1
theorem AddS {A C:Nat} (hA:A<256^32) (hC:C<256^32):fr11_Add (zl (limbsN 8 32 A)) (zl (limbsN 8 32 C))=some (zl (limbsN 8 32 ((A+C)%LN))):=by
 obtain ⟨o,h1,h2,h3⟩:=addS_l1 A C 32 FUEL 0 0 (by omega) (big _ (by decide)) (by rw [Nat.pow_zero,Nat.div_one,Nat.div_one,Nat.div_one];omega) (by decide)
 rw [Nat.div_eq_of_lt hA,Nat.div_eq_of_lt hC] at h2
 have h1:fr11_Add_l1 (zl (limbsN 8 32 A)) (zl (limbsN 8 32 C)) FUEL 0 0 ([]:List Int)=_:=h1
 unfold fr11_Add
 rw [h1,Option.bind_some]
 dsimp only
 have e:zl (limbsN 8 32 (A+C))++[IntKind.wrap .u8 ((o:Nat):Int)]=zl (limbsN 8 33 (A+C)):=by
  rw [limbs_snoc 32 (A+C),zl_append,←h2,u8n];rfl
 rw [e,if_pos (by rw [zl_len,limbsN_len,List.length_singleton];decide),ModS (by decide),Option.bind_some]
 have hlt:A+C<256^33:=Nat.lt_of_lt_of_le (Nat.add_lt_add hA hC) (by decide)
 rw [Nat.mod_eq_of_lt hlt]
def Bel (m:Nat) (l:List Nat):Prop:=∀ x∈l,x≤m
theorem bel_get {m:Nat} {l:List Nat} (h:Bel m l) (j:Nat):l.getD j 0≤m:=by
 by_cases hj:j<l.length
 ·rw [List.getD_eq_getElem?_getD,List.getElem?_eq_getElem hj];exact h _ (List.getElem_mem hj)
 ·rw [List.getD_eq_getElem?_getD,List.getElem?_eq_none (by omega)];exact Nat.zero_le _
theorem timesS_l2 (a b:List Nat) (ha:Dig a) (hb:Dig b) (la:a.length=32) (lb:b.length=32) (i:Nat) (hi:i<32):∀ (r n k m:Nat) (p:List Nat),k+r=32->r<n->p.length=65->Bel m p->m+65025*r<1000000000000 ->
  ∃ p',fr11_Times_l2 (zl a) (zl b) (i:Int) n (k:Int) (zl p)=some (zl p')/\p'.length=65/\Bel (m+65025*r) p'/\V8 p'=V8 p+256^(i+k)*(a.getD i 0*V8 (b.drop k))
 |_,0,_,_,_,_,h,_,_,_=>absurd h (Nat.not_lt_zero _)
 |0,n+1,k,m,p,h,_,hp,hd,hm=>by
  rw [fr11_Times_l2.eq_2,cond_ff (by simp;omega)]
  refine ⟨p,rfl,hp,by simpa using hd,?_⟩
  rw [List.drop_eq_nil_of_le (by omega)];simp [V8,valN]
 |r+1,n+1,k,m,p,h,h',hp,hd,hm=>by
  have ga:a.getD i 0<256:=getD_lt ha (by decide) i
  have gb:b.getD k 0<256:=getD_lt hb (by decide) k
  have gp:=bel_get hd (i+k)
  have hmul:a.getD i 0*b.getD k 0≤255*255:=Nat.mul_le_mul (by omega) (by omega)
  have hd1:Bel (m+65025) (p.set (i+k) (p.getD (i+k) 0+a.getD i 0*b.getD k 0)):=fun x hx=>by
   rcases List.mem_or_eq_of_mem_set hx with hx|rfl
   ·exact Nat.le_trans (hd x hx) (by omega)
   ·omega
  obtain ⟨p',q1,q2,q3,q4⟩:=timesS_l2 a b ha hb la lb i hi r n (k+1) (m+65025) (p.set (i+k) (p.getD (i+k) 0+a.getD i 0*b.getD k 0)) (by omega) (by omega) (by rw [List.length_set];exact hp) hd1 (by omega)
  refine ⟨p',?_,q2,by rw [show m+65025*(r+1)=m+65025+65025*r by omega];exact q3,?_⟩
  ·rw [fr11_Times_l2.eq_2,cond_tt (by simp;omega),i64_add i k (by omega),List.length_replicate,if_pos (by omega),nm_eq,if_pos (by omega),if_pos (by omega),nm_eq,if_pos (by omega),nm_eq,Int.toNat_natCast,Int.toNat_natCast,Int.toNat_natCast,zl_getD,zl_getD,zl_getD,i64n (n:=a.getD i 0) (by omega),i64n (n:=b.getD k 0) (by omega),i64_mul _ _ (by omega),i64_add _ _ (by omega),zl_set,wrap_i64 (n:=(k:Int)+1) (by omega) (by omega)]
   exact q1
  ·rw [q4,V_set p (i+k) _ (by omega),V_drop b k (by omega),show i+(k+1)=(i+k)+1 from rfl,p256,Nat.mul_add,Nat.mul_add]
   generalize V8 (b.drop (k+1))=W
   generalize (256:Nat)^(i+k)=T
   rw [Nat.mul_assoc T 256,Nat.mul_left_comm 256]
   omega
theorem timesS_l1 (a b:List Nat) (ha:Dig a) (hb:Dig b) (la:a.length=32) (lb:b.length=32):∀ (r n i m:Nat) (p:List Nat),i+r=32->r<n->p.length=65->Bel m p->m+2080800*r<1000000000000->V8 p=V8 (a.take i)*V8 b ->
  ∃ p',fr11_Times_l1 (zl a) (zl b) n (i:Int) (zl p)=some (65,65,zl p')/\p'.length=65/\Bel (m+2080800*r) p'/\V8 p'=V8 a*V8 b
 |_,0,_,_,_,_,h,_,_,_,_=>absurd h (Nat.not_lt_zero _)
 |0,n+1,i,m,p,h,_,hp,hd,hm,hv=>by
  rw [fr11_Times_l1.eq_2,cond_ff (by simp;omega),List.length_replicate]
  refine ⟨p,rfl,hp,by simpa using hd,?_⟩
  rw [hv,List.take_of_length_le (by omega)]
 |r+1,n+1,i,m,p,h,h',hp,hd,hm,hv=>by
  have hm3:m+2080800*(r+1)=m+2080800+2080800*r:=by rw [Nat.mul_succ,Nat.add_assoc,Nat.add_comm 2080800]
  have hm2:m+2080800<1000000000000:=Nat.lt_of_le_of_lt (Nat.add_le_add_left (Nat.le_mul_of_pos_right _ (Nat.succ_pos r)) m) hm
  obtain ⟨p1,q1,q2,q3,q4⟩:=timesS_l2 a b ha hb la lb i (by omega) 32 FUEL 0 m p (by omega) (big _ (by decide)) hp hd hm2
  rw [show m+65025*32=m+2080800 from rfl] at q3
  obtain ⟨p',s1,s2,s3,s4⟩:=timesS_l1 a b ha hb la lb r n (i+1) (m+2080800) p1 (by omega) (by omega) q2 q3 (by rw [←hm3];exact hm) (by
   rw [q4,hv,V_take_succ,Nat.add_zero,List.drop_zero,Nat.add_mul,Nat.mul_assoc])
  refine ⟨p',?_,s2,by rw [hm3];exact s3,s4⟩
  have q1:fr11_Times_l2 (zl a) (zl b) (i:Int) FUEL 0 (zl p)=_:=q1
  rw [fr11_Times_l1.eq_2,cond_tt (by simp;omega),q1,Option.bind_some,wrap_i64 (n:=(i:Int)+1) (by omega) (by omega)]
  exact s1
theorem timesS_l3 (d:List Nat) (hd:Bel 100000000 d) (hl:d.length=65) (S:Nat):∀ (r n t o:Nat),t+r=65->r<n->o+V8 (d.drop t)=S/256^t->o≤1000000000 ->
  fr11_Times_l3 65 (zl d) n (o:Int) (t:Int) (zl (limbsN 8 t S))=some (.inr (zl (limbsN 8 65 S)))
 |_,0,_,_,_,h,_,_=>absurd h (Nat.not_lt_zero _)
 |0,n+1,t,o,h,_,_,_=>by
  obtain rfl:t=65:=by omega
  rw [fr11_Times_l3.eq_2,cond_ff (by decide)]
 |r+1,n+1,t,o,h,h',hv,ho=>by
  have gd':=bel_get hd t
  have hvd:=V_drop d t (by omega)
  rw [hvd] at hv
  have ih:=timesS_l3 d hd hl S r n (t+1) ((o+d.getD t 0)/256) (by omega) (by omega) (by rw [p256s,←hv];omega) (by omega)
  have el:((zl (limbsN 8 t S)).length:Int)=(t:Int):=by rw [zl_len,limbsN_len]
  have e:zl (limbsN 8 t S)++[((((o+d.getD t 0)%256:Nat)):Int)]=zl (limbsN 8 (t+1) S):=by
   rw [limbs_snoc,zl_append,←hv]
   show _=_++[(((o+(d.getD t 0+256*V8 (d.drop (t+1))))%256:Nat):Int)]
   congr 3;omega
  rw [fr11_Times_l3.eq_2,cond_tt (by simp;omega),if_pos (by omega),nm_eq,Int.toNat_natCast,zl_getD,i64_add _ _ (by omega),tmod256,u8n,Nat.mod_mod,el,if_pos (by rw [List.length_singleton];omega),tdiv256,i64n (n:=(o+d.getD t 0)/256) (by omega),wrap_i64 (n:=(t:Int)+1) (by omega) (by omega),e]
  exact ih
theorem TimesS {A C:Nat} (hA:A<256^32) (hC:C<256^32):fr11_Times (zl (limbsN 8 32 A)) (zl (limbsN 8 32 C))=some (zl (limbsN 8 32 (A*C%LN))):=by
 obtain ⟨p,h1,h2,h3,h4⟩:=timesS_l1 (limbsN 8 32 A) (limbsN 8 32 C) (limbsN_lt 8 32 A) (limbsN_lt 8 32 C) (limbsN_len ..) (limbsN_len ..) 32 FUEL 0 0 (List.replicate 65 0) (by omega) (big _ (by decide)) (by rw [List.length_replicate]) (fun x hx=>by rw [List.eq_of_mem_replicate hx];exact Nat.le_refl _) (by decide) (by rw [V_zeros,List.take_zero];simp [V8,valN])
 have v:∀ {X:Nat},X<256^32->V8 (limbsN 8 32 X)=X:=fun {X} h=>by
  show valN 8 _=X
  rw [valN_limbs,Nat.pow_mul,two8,Nat.mod_eq_of_lt h]
 rw [v hA,v hC] at h4
 have h5:=timesS_l3 p (fun x hx=>Nat.le_trans (h3 x hx) (by decide)) h2 (A*C) 65 FUEL 0 0 (by omega) (big _ (by decide)) (by rw [List.drop_zero,Nat.zero_add,h4,Nat.pow_zero,Nat.div_one]) (by decide)
 rw [zl_rep] at h1
 have h1:fr11_Times_l1 (zl (limbsN 8 32 A)) (zl (limbsN 8 32 C)) FUEL 0 (List.replicate 65 (0:Int))=_:=h1
 have h5:fr11_Times_l3 65 (zl p) FUEL 0 0 ([]:List Int)=_:=h5
 unfold fr11_Times
 rw [h1,Option.bind_some]
 dsimp only
 rw [h5,Option.bind_some]
 dsimp only
 rw [ModS (by decide),Option.bind_some]
 have hlt:A*C<256^65:=by
  have h6:A*C<256^32*256^32:=Nat.lt_of_le_of_lt (Nat.mul_le_mul_right _ (Nat.le_of_lt hA)) (Nat.mul_lt_mul_of_pos_left hC (Nat.pow_pos (by decide)))
  exact Nat.lt_trans h6 (by decide)
 rw [Nat.mod_eq_of_lt hlt]
end Go.Eng
