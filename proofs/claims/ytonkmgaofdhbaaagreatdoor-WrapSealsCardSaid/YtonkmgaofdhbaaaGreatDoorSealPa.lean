/-
  Part of a proof: SealPa.
-/
import Derived.Test.YtonkmgaofdhbaaaGreatDoorKemSa
import Derived.KernelRfl
set_option linter.unusedVariables false
set_option linter.unusedSimpArgs false
namespace Go.Eng
set_option maxRecDepth 100000
set_option maxHeartbeats 1000000
theorem b46 (n:Int):IntKind.u64.wrap n=n%18446744073709551616:=by simp [IntKind.wrap,IntKind.bits,IntKind.signed]
theorem Hz (n:Int):IntKind.u8.wrap n=n%256:=by simp [IntKind.wrap,IntKind.bits,IntKind.signed]
theorem f39 {k n:List Int} (c:Int) (hk:k.length=32) (hn:n.length=12):∃ b,G9 k c n=some (.inl b)/\b.length=64:=by
 obtain ⟨a0,a1,a2,a3,a4,a5,a6,a7,a8,a9,a10,a11,a12,a13,a14,a15,a16,a17,a18,a19,a20,a21,a22,a23,a24,a25,a26,a27,a28,a29,a30,a31,rfl⟩:=Jk hk
 obtain ⟨b0,b1,b2,b3,b4,b5,b6,b7,b8,b9,b10,b11,rfl⟩:=f23 hn
 obtain ⟨r,h1,h2⟩:=N2 (o:=G9 [a0,a1,a2,a3,a4,a5,a6,a7,a8,a9,a10,a11,a12,a13,a14,a15,a16,a17,a18,a19,a20,a21,a22,a23,a24,a25,a26,a27,a28,a29,a30,a31] c [b0,b1,b2,b3,b4,b5,b6,b7,b8,b9,b10,b11]) (f:=fun r=>match r with | .inl b=>b.length | .inr _=>0) (b:=64) (by kernel_rfl)
 match r,h2 with
 |.inl b,h2=>exact ⟨b,h1,h2⟩
end Go.Eng
namespace Go.Eng
set_option maxRecDepth 100000
set_option maxHeartbeats 1000000
def Ci (l:List Int):Prop:=∀ y,y∈l->0≤y/\y<256
def xr (x y:Int):Int:=bits .u8 .xor x y
theorem i08 (x y:Int):0≤xr x y/\xr x y<256:=by
 unfold xr bits
 simp only [Hz]
 omega
theorem i09 {x:Int} (y:Int) (h:0≤x/\x<256):xr (xr x y) y=x:=by
 unfold xr bits
 simp only [Hz]
 have h8:IntKind.u8.bits=8:=rfl
 rw [h8]
 generalize hA:BitVec.ofInt 8 x=A
 generalize hK:BitVec.ofInt 8 y=K
 have hx:x=(A.toNat:Int):=by
  rw [←hA,BitVec.toNat_ofInt]
  omega
 have e1:(((A^^^K).toNat:Nat):Int)%256=((A^^^K).toNat:Int):=by
  have:=(A^^^K).isLt;omega
 rw [e1]
 have e2:BitVec.ofInt 8 ((A^^^K).toNat:Int)=A^^^K:=by
  rw [BitVec.ofInt_natCast,BitVec.ofNat_toNat,BitVec.setWidth_eq]
 rw [e2,BitVec.xor_assoc,BitVec.xor_self,BitVec.xor_zero,hx]
 have:=A.isLt;omega
def Dq (a b:List Int):List Int:=List.zipWith xr a b
theorem Vu {a b:List Int} (h:a.length≤b.length):(Dq a b).length=a.length:=by
 unfold Dq;rw [List.length_zipWith];omega
theorem e57:∀ (a b:List Int),Ci (Dq a b)
 |[],_=>fun y hy=>by cases hy
 |_::_,[]=>fun y hy=>by cases hy
 |x::a,z::b=>fun y hy=>by
  rcases List.mem_cons.1 hy with rfl|hy
  ·exact i08 x z
  ·exact e57 a b y hy
theorem Xo:∀ {a b:List Int},a.length≤b.length->Ci a->Dq (Dq a b) b=a
 |[],_,_,_=>rfl
 |_::_,[],h,_=>by cases h
 |x::a,z::b,h,hb=>by
  show xr (xr x z) z::Dq (Dq a b) b=x::a
  rw [i09 z (hb x (.head _)),Xo (Nat.le_of_succ_le_succ h) fun y hy=>hb y (.tail _ hy)]
theorem Tn {l:List Int} (h:l.length≤140737488355328):u6 l=some l:=by
 unfold u6
 rw [if_pos (by simp;omega)];rfl
theorem i10 (b c:List Int) (hc:c.length≤1000000):∀ (n i:Nat) (a:List Int),a.length=b.length->c.length=b.length->i≤b.length->b.length-i<n ->
  X8 b c n (i:Int) a=some (a.take i++Dq (a.drop i) (b.drop i))
 |0,_,_,_,_,_,h=>absurd h (Nat.not_lt_zero _)
 |n+1,i,a,ha,hcb,hi,hn=>by
  rw [X8.eq_2]
  by_cases hlt:i<b.length
  ·rw [j7 (by simp;omega),if_pos ⟨by omega,by omega⟩,if_pos ⟨by omega,by omega⟩,m6,if_pos ⟨by omega,by omega⟩,q6 (by omega) (by omega),show (i:Int)+1=((i+1:Nat):Int) from rfl,Int.toNat_natCast,
    i10 b c hc n (i+1) _ (by simp [ha]) hcb (by omega) (by omega)]
   have h1:a.drop i=a.getD i 0::a.drop (i+1):=by
    rw [List.drop_eq_getElem_cons (by omega)];simp [List.getD,List.getElem?_eq_getElem (show i<a.length by omega)]
   have h2:b.drop i=b.getD i 0::b.drop (i+1):=by
    rw [List.drop_eq_getElem_cons (by omega)];simp [List.getD,List.getElem?_eq_getElem hlt]
   rw [h1,h2]
   show _=some (a.take i++(xr (a.getD i 0) (b.getD i 0)::Dq (a.drop (i+1)) (b.drop (i+1))))
   congr 1
   rw [List.drop_set_of_lt (by omega),List.take_add_one,List.take_set_of_le (by omega),List.getElem?_set_self (by omega)]
   simp [xr]
  ·have:i=b.length:=by omega
   subst this
   rw [i0 (by simp;omega)]
   rw [List.take_of_length_le (by omega),List.drop_eq_nil_of_le (by omega)]
   simp [Dq]
theorem i11 {a b:List Int} (h:a.length=b.length) (hl:a.length≤1000000):Mx a b=some (.inl (Dq a b)):=by
 unfold Mx
 rw [i0 (by simp [h]),Tn (by omega)]
 show (X8 b a f9 0 a).bind _=_
 obtain ⟨m,e,hm⟩:=Jj 1000001 (by decide)
 rw [show (0:Int)=((0:Nat):Int) from rfl,i10 b a hl f9 0 a h h (Nat.zero_le _) (by rw [e];omega)]
 simp
end Go.Eng
namespace Go.Eng
set_option maxRecDepth 100000
set_option maxHeartbeats 1000000
def G7 (k:List Int) (c:Int) (n:List Int):List Int:=match G9 k c n with
 |some (.inl b)=>b
 |_=>[]
theorem Eg {k n:List Int} (c:Int) (hk:k.length=32) (hn:n.length=12):G9 k c n=some (.inl (G7 k c n))/\(G7 k c n).length=64:=by
 obtain ⟨b,h,hl⟩:=f39 c hk hn
 unfold G7;rw [h];exact ⟨rfl,hl⟩
def Hq (k n:List Int):Nat->Int->List Int->List Int
 |0,_,_=>[]
 |m+1,c,b=>Dq (b.take 64) (G7 k c n)++Hq k n m (IntKind.wrap .u32 (c+1)) (b.drop 64)
theorem Xp {k n:List Int} (hk:k.length=32) (hn:n.length=12):∀ (m:Nat) (c:Int) (b:List Int),b.length≤64*m->(Hq k n m c b).length=b.length
 |0,c,b,h=>by
  have:b=[]:=List.eq_nil_of_length_eq_zero (by omega)
  subst this;rfl
 |m+1,c,b,h=>by
  show (Dq (b.take 64) (G7 k c n)++Hq k n m _ (b.drop 64)).length=_
  rw [List.length_append,Vu (by rw [(Eg c hk hn).2,List.length_take];omega),Xp hk hn m _ _ (by rw [List.length_drop];omega),List.length_take,List.length_drop]
  omega
theorem Xq {k n:List Int}:∀ (m:Nat) (c:Int) (b:List Int),Ci (Hq k n m c b)
 |0,_,_=>fun y hy=>by cases hy
 |m+1,c,b=>fun y hy=>by
  rcases List.mem_append.1 hy with hy|hy
  ·exact e57 _ _ y hy
  ·exact Xq m _ _ y hy
theorem Rn {k n:List Int}:∀ (m:Nat) (c:Int),Hq k n m c []=[]
 |0,_=>rfl
 |m+1,c=>by
  show Dq [] _++Hq k n m _ []=[]
  rw [Rn m];rfl
theorem Yx {k n:List Int} (hk:k.length=32) (hn:n.length=12):∀ (m:Nat) (c:Int) (b:List Int),b.length≤64*m->Ci b->Hq k n m c (Hq k n m c b)=b
 |0,c,b,h,_=>by
  have:b=[]:=List.eq_nil_of_length_eq_zero (by omega)
  subst this;rfl
 |m+1,c,b,h,hb=>by
  have hbl:=(Eg c hk hn).2
  have h1:(Dq (b.take 64) (G7 k c n)).length=min 64 b.length:=by rw [Vu (by rw [hbl,List.length_take];omega),List.length_take]
  show Dq ((Dq (b.take 64) (G7 k c n)++Hq k n m _ (b.drop 64)).take 64) (G7 k c n)++Hq k n m _ ((Dq (b.take 64) (G7 k c n)++Hq k n m _ (b.drop 64)).drop 64)=b
  by_cases hle:b.length≤64
  ·have hd:b.drop 64=[]:=List.drop_eq_nil_of_le hle
   have ht:b.take 64=b:=List.take_of_length_le hle
   rw [hd,ht,Rn,List.append_nil]
   rw [ht] at h1
   rw [List.take_of_length_le (by omega),List.drop_eq_nil_of_le (by omega),Rn,List.append_nil]
   exact Xo (by omega) hb
  ·have e:(Dq (b.take 64) (G7 k c n)).length=64:=by omega
   rw [List.take_append_of_le_length (by omega),List.take_of_length_le (by omega),List.drop_append_of_le_length (by omega),List.drop_eq_nil_of_le (by omega),List.nil_append,
    Yx hk hn m _ _ (by rw [List.length_drop];omega) (fun y hy=>hb y (List.mem_of_mem_drop hy)),Xo (by rw [hbl,List.length_take];omega) (fun y hy=>hb y (List.mem_of_mem_take hy)),List.take_append_drop]
theorem c63:∀ (p q:List Int),Dq p (q.take p.length)=Dq p q
 |[],_=>rfl
 |_::_,[]=>rfl
 |x::p,y::q=>by
  show xr x y::Dq p (q.take p.length)=xr x y::Dq p q
  rw [c63 p q]
theorem g07 {k nn:List Int} (hk:k.length=32) (hn:nn.length=12) (b:List Int) (hb:b.length≤65536):∀ (n m i:Nat) (c:Int) (a:List Int),i≤b.length+63->a.length≤i->b.length≤i+64*m->b.length+64≤i+64*n ->
  ∃ c',V1 k nn b n (i:Int) c a=some (.inl (c',a++Hq k nn m c (b.drop i)))
 |0,m,i,c,a,h1,h2,h3,h4=>by omega
 |n+1,m,i,c,a,h1,h2,h3,h4=>by
  rw [V1.eq_2]
  by_cases hlt:i<b.length
  ·cases m with
   |zero=>omega
   |succ m =>
   have hbk:=Eg c hk hn
   rw [j7 (by simp;omega),if_pos ⟨by omega,by omega⟩]
   simp only [m6]
   have hl:((List.take (((b.length:Int)-(i:Int)).toNat) (List.drop (i:Int).toNat b)).length:Int)=b.length-i:=by
    rw [List.length_take,List.length_drop,Int.toNat_natCast];omega
   rw [hl]
   have hd:b.drop i=(b.drop i).take 64++b.drop (i+64):=by rw [←List.drop_drop,List.take_append_drop]
   obtain ⟨w,hw⟩:∃ w:Nat,(if (b.length:Int)-(i:Int)<64 then (b.length:Int)-(i:Int) else 64)=(w:Int)/\w=min 64 (b.length-i):=by
    refine ⟨min 64 (b.length-i),?_,rfl⟩
    split<;>omega
   rw [hw.1,q6 (by omega) (by omega),if_pos ⟨by omega,by omega,by omega⟩,if_pos (by omega),hbk.1]
   have ht:List.take (((i:Int)+(w:Int))-(i:Int)).toNat (List.drop (i:Int).toNat b)=(b.drop i).take 64:=by
    rw [show (((i:Int)+(w:Int))-(i:Int)).toNat=w from by omega,Int.toNat_natCast,hw.2]
    by_cases h64:64≤b.length-i
    ·rw [Nat.min_eq_left h64]
    ·rw [Nat.min_eq_right (by omega),List.take_of_length_le (by rw [List.length_drop];omega),List.take_of_length_le (by rw [List.length_drop];omega)]
   rw [ht,Option.bind_some]
   dsimp only
   have hlt64:((b.drop i).take 64).length≤64:=by rw [List.length_take];omega
   rw [if_pos (by rw [hbk.2];omega),if_pos (by omega),show ((((b.drop i).take 64).length:Int)-0).toNat=((b.drop i).take 64).length from by omega,i11 (by rw [List.length_take (l:=G7 k c nn),hbk.2];omega) (by omega),c63,Option.bind_some]
   have hxl:(Dq ((b.drop i).take 64) (G7 k c nn)).length≤64:=by rw [Vu (by rw [hbk.2];exact hlt64)];exact hlt64
   dsimp only
   rw [if_pos (by omega)]
   rw [q6 (by omega) (by omega)]
   obtain ⟨c',e⟩:=g07 hk hn b hb n m (i+64) (IntKind.wrap .u32 (c+1)) (a++Dq ((b.drop i).take 64) (G7 k c nn)) (by omega) (by rw [List.length_append];omega) (by omega) (by omega)
   refine ⟨c',?_⟩
   rw [show (i:Int)+64=((i+64:Nat):Int) from rfl,e,List.append_assoc]
   show _=some (Sum.inl (c',a++(Dq ((b.drop i).take 64) (G7 k c nn)++Hq k nn m _ ((b.drop i).drop 64))))
   rw [List.drop_drop]
  ·rw [i0 (by simp;omega)]
   refine ⟨c,?_⟩
   rw [List.drop_eq_nil_of_le (by omega),Rn,List.append_nil]
end Go.Eng
namespace Go.Eng
set_option maxRecDepth 100000
set_option maxHeartbeats 1000000
def I3 (k n:List Int) (c:Int) (b:List Int):List Int:=Hq k n 1025 c b
theorem g08 {k n:List Int} (hk:k.length=32) (hn:n.length=12) (c:Int) {b:List Int} (hb:b.length≤65536):De k c n b=some (.inl (I3 k n c b)):=by
 unfold De
 rw [i0 (by simp [hn]),i0 (by simp<;>omega)]
 rw [show M7 b 64=some () from rfl,Option.bind_some]
 obtain ⟨m,e,hm⟩:=Jj 1000001 (by decide)
 obtain ⟨c',h⟩:=g07 hk hn b hb f9 1025 0 c [] (by omega) (by simp) (by omega) (by rw [e];omega)
 rw [show ((0:Nat):Int)=0 from rfl] at h
 rw [h,Option.bind_some]
 dsimp only
 rw [Option.bind_some,List.nil_append]
 dsimp only
 rw [List.drop_zero];rfl
def Q4 (b:List Int):List Int:=List.replicate (Int.toNat (Int.tmod (IntKind.wrap .i64 (16-(Int.tmod (List.length b:Int) 16))) 16)) 0
theorem Fm {b:List Int}:I7 b=some (Q4 b)/\(Q4 b).length≤15:=by
 have h1:0≤Int.tmod (b.length:Int) 16:=Int.tmod_nonneg _ (by omega)
 have h2:Int.tmod (b.length:Int) 16<16:=Int.tmod_lt_of_pos _ (by omega)
 have hw:IntKind.wrap .i64 (16-Int.tmod (b.length:Int) 16)=16-Int.tmod (b.length:Int) 16:=q6 (by omega) (by omega)
 have h3:0≤Int.tmod (16-Int.tmod (b.length:Int) 16) 16:=Int.tmod_nonneg _ (by omega)
 have h4:Int.tmod (16-Int.tmod (b.length:Int) 16) 16<16:=Int.tmod_lt_of_pos _ (by omega)
 constructor
 ·unfold I7
  rw [m6,if_pos ⟨by rw [hw];omega,by rw [hw];omega,by rw [hw];omega,by rw [hw];omega⟩]
  rfl
 ·unfold Q4;rw [List.length_replicate,hw];omega
theorem f40 (x:Int):∃ l,I6 x 8=some (.inl l)/\l.length=8:=by
 obtain ⟨r,h1,h2⟩:=N2 (o:=I6 x 8) (f:=fun r=>match r with | .inl b=>b.length | .inr _=>0) (b:=8) (by kernel_rfl)
 match r,h2 with
 |.inl b,h2=>exact ⟨b,h1,h2⟩
def P0 (b:List Int):List Int:=match I6 (IntKind.wrap .u64 (b.length:Int)) 8 with
 |some (.inl l)=>l
 |_=>[]
theorem Ah (b:List Int):M0 b=some (8,P0 b)/\(P0 b).length=8:=by
 obtain ⟨l,h,hl⟩:=f40 (IntKind.wrap .u64 (b.length:Int))
 unfold M0 P0
 rw [h]
 exact ⟨rfl,hl⟩
def Hr (k n:List Int):List Int:=T9 (List.replicate 32 (0:Int)) 0 (List.take 32 (List.take (List.length (G7 k 0 n)) (G7 k 0 n)))
theorem e58 {k n:List Int} (hk:k.length=32) (hn:n.length=12):(Hr k n).length=32:=by
 have h:=(Eg 0 hk hn).2
 unfold Hr T9
 simp [h]
theorem g09 {k n:List Int} (hk:k.length=32) (hn:n.length=12) (w t:List Int) :
  My k n w t=some (.inl (Hr k n,(Q4 w).length,(Q4 t).length,8,8,Q4 w,Q4 t,P0 w,P0 t)):=by
 unfold My
 rw [(Eg 0 hk hn).1,Option.bind_some]
 simp only [m6,Fm.1,(Ah _).1,Option.bind_some]
 rfl
theorem g74 {k n:List Int} (hk:k.length=32) (hn:n.length=12) (w t:List Int) :
  Lg k n w t=some (.inl (Hr k n,(Q4 w).length,(Q4 t).length,8,8,Q4 w,Q4 t,P0 w,P0 t)):=g09 hk hn w t
theorem g21 {x:Int} (h:0≤x) (h':x≤1000000):∃ g,q7 x=some (0,g):=by
 unfold q7
 rw [i0 (by simp<;>omega),q6 (by omega) (by omega)]
 by_cases hx:x-0>0
 ·refine ⟨List.replicate (Int.toNat (x-0)) 0,?_⟩
  rw [j7 (by simp<;>omega),if_pos ⟨by omega,by omega⟩,m6,if_pos (by omega)]
  rfl
 ·refine ⟨[],?_⟩
  rw [i0 (by simp<;>omega)]
  rfl
theorem g75 (A B C D E F:List Int) (h:A.length+B.length+C.length+D.length+E.length+F.length≤1000000) :
  D4 A B.length C.length D.length E.length F.length B C D E F=some (A++B++C++D++E++F):=by
 have w1:IntKind.i64.wrap (0+(A.length:Int))=(A.length:Int):=by rw [q6 (by omega) (by omega)];omega
 have w2:IntKind.i64.wrap ((A.length:Int)+(B.length:Int))=(A.length:Int)+(B.length:Int):=q6 (by omega) (by omega)
 have w3:IntKind.i64.wrap ((A.length:Int)+(B.length:Int)+(C.length:Int))=(A.length:Int)+(B.length:Int)+(C.length:Int):=q6 (by omega) (by omega)
 have w4:IntKind.i64.wrap ((A.length:Int)+(B.length:Int)+(C.length:Int)+(D.length:Int))=(A.length:Int)+(B.length:Int)+(C.length:Int)+(D.length:Int):=q6 (by omega) (by omega)
 have w5:IntKind.i64.wrap ((A.length:Int)+(B.length:Int)+(C.length:Int)+(D.length:Int)+(E.length:Int))=(A.length:Int)+(B.length:Int)+(C.length:Int)+(D.length:Int)+(E.length:Int):=q6 (by omega) (by omega)
 have w6:IntKind.i64.wrap ((A.length:Int)+(B.length:Int)+(C.length:Int)+(D.length:Int)+(E.length:Int)+(F.length:Int))=(A.length:Int)+(B.length:Int)+(C.length:Int)+(D.length:Int)+(E.length:Int)+(F.length:Int):=q6 (by omega) (by omega)
 obtain ⟨g,hg⟩:=g21 (x:=(A.length:Int)+(B.length:Int)+(C.length:Int)+(D.length:Int)+(E.length:Int)+(F.length:Int)) (by omega) (by omega)
 unfold D4
 simp only [m6,w1,w2,w3,w4,w5,w6]
 rw [i0 (by simp<;>omega),i0 (by simp<;>omega),i0 (by simp<;>omega),i0 (by simp<;>omega),i0 (by simp<;>omega),i0 (by simp<;>omega),Option.bind_some,hg,Option.bind_some]
 simp only [List.take_length,List.take_zero,List.nil_append,List.length_append]
 rw [if_pos (by omega),if_pos (by omega),if_pos (by omega),if_pos (by omega),if_pos (by omega),if_pos (by omega),if_pos (by omega)]
 rfl
theorem e59 (A B C D E F:List Int) (h:A.length+B.length+C.length+D.length+E.length+F.length≤1000000) :
  D5 A B.length C D.length E.length F.length B D E F=some (A++B++C++D++E++F):=by
 have w1:IntKind.i64.wrap (0+(A.length:Int))=(A.length:Int):=by rw [q6 (by omega) (by omega)];omega
 have w2:IntKind.i64.wrap ((A.length:Int)+(B.length:Int))=(A.length:Int)+(B.length:Int):=q6 (by omega) (by omega)
 have w3:IntKind.i64.wrap ((A.length:Int)+(B.length:Int)+(C.length:Int))=(A.length:Int)+(B.length:Int)+(C.length:Int):=q6 (by omega) (by omega)
 have w4:IntKind.i64.wrap ((A.length:Int)+(B.length:Int)+(C.length:Int)+(D.length:Int))=(A.length:Int)+(B.length:Int)+(C.length:Int)+(D.length:Int):=q6 (by omega) (by omega)
 have w5:IntKind.i64.wrap ((A.length:Int)+(B.length:Int)+(C.length:Int)+(D.length:Int)+(E.length:Int))=(A.length:Int)+(B.length:Int)+(C.length:Int)+(D.length:Int)+(E.length:Int):=q6 (by omega) (by omega)
 have w6:IntKind.i64.wrap ((A.length:Int)+(B.length:Int)+(C.length:Int)+(D.length:Int)+(E.length:Int)+(F.length:Int))=(A.length:Int)+(B.length:Int)+(C.length:Int)+(D.length:Int)+(E.length:Int)+(F.length:Int):=q6 (by omega) (by omega)
 obtain ⟨g,hg⟩:=g21 (x:=(A.length:Int)+(B.length:Int)+(C.length:Int)+(D.length:Int)+(E.length:Int)+(F.length:Int)) (by omega) (by omega)
 unfold D5
 simp only [m6,w1,w2,w3,w4,w5,w6]
 rw [i0 (by simp<;>omega),i0 (by simp<;>omega),i0 (by simp<;>omega),i0 (by simp<;>omega),i0 (by simp<;>omega),i0 (by simp<;>omega),Option.bind_some,hg,Option.bind_some]
 simp only [List.take_length,List.take_zero,List.nil_append,List.length_append]
 rw [if_pos (by omega),if_pos (by omega),if_pos (by omega),if_pos (by omega),if_pos (by omega),if_pos (by omega),if_pos (by omega)]
 rfl
end Go.Eng
namespace Go.Eng
set_option maxRecDepth 100000
set_option maxHeartbeats 1000000
theorem b47 {α:Type} (o:Option α):(o.bind fun x=>some x)=o:=by cases o<;>rfl
theorem g76 {l m:List Int} (h:m.length≤l.length):(T9 l 0 m).length=l.length:=by unfold T9;simp;omega
theorem g77 {b:List Int} (h:b.length≤32):∃ r,H3 b=some r/\r.length=5:=by
 unfold H3
 simp only [m6]
 have hl:(T9 (List.replicate 32 (0:Int)) 0 (List.take (List.length (List.replicate 32 (0:Int))) b)).length=32:=by rw [g76 (by simp<;>omega)];rfl
 obtain ⟨a0,a1,a2,a3,a4,a5,a6,a7,a8,a9,a10,a11,a12,a13,a14,a15,a16,a17,a18,a19,a20,a21,a22,a23,a24,a25,a26,a27,a28,a29,a30,a31,e⟩:=Jk hl
 rw [e]
 exact N2 (by kernel_rfl)
theorem d28 {k:List Int} (h:k.length=32):∃ r,I8 k=some r/\r.length=5:=by
 obtain ⟨a0,a1,a2,a3,a4,a5,a6,a7,a8,a9,a10,a11,a12,a13,a14,a15,a16,a17,a18,a19,a20,a21,a22,a23,a24,a25,a26,a27,a28,a29,a30,a31,rfl⟩:=Jk h
 exact N2 (by kernel_rfl)
theorem e60 {a b:List Int} (h:a.length=5) (h':b.length=5):∃ r,H4 a f9 0 b=some r/\r.length=5:=by
 obtain ⟨a0,a1,a2,a3,a4,rfl⟩:=Kv h
 obtain ⟨b0,b1,b2,b3,b4,rfl⟩:=Kv h'
 exact N2 (by kernel_rfl)
theorem f41 {a b:List Int} (h:a.length=5) (h':b.length=5):∃ r,S7 a b=some r/\r.length=5:=by
 obtain ⟨a0,a1,a2,a3,a4,rfl⟩:=Kv h
 obtain ⟨b0,b1,b2,b3,b4,rfl⟩:=Kv h'
 exact N2 (by kernel_rfl)
theorem f42 (b:Bool) (x y:Int):∃ r,P5 b x y=some r:=by cases b<;>exact ⟨_,rfl⟩
theorem Sb {x y:List Int}:∀ (n i:Nat) (z:List Int),z.length=5->i≤5->5<i+n->∃ r,A6 x y n (i:Int) z=some r/\r.length=5
 |0,i,z,h,h1,h2=>by omega
 |n+1,i,z,h,h1,h2=>by
  rw [A6.eq_2]
  by_cases hlt:i<5
  ·rw [j7 (by simp<;>omega),if_pos ⟨by omega,by omega⟩,if_pos ⟨by omega,by omega⟩]
   obtain ⟨v,hv⟩:=f42 (!((Int.fdiv (List.getD x 4 0) (2^26))==0)) (List.getD y (Int.toNat i) 0) (List.getD z (Int.toNat i) 0)
   rw [hv,Option.bind_some,if_pos ⟨by omega,by omega⟩,q6 (by omega) (by omega)]
   exact Sb n (i+1) _ (by rw [List.length_set];exact h) (by omega) (by omega)
  ·rw [i0 (by simp<;>omega)]
   exact ⟨z,rfl,h⟩
theorem b94 {a:List Int} (h:a.length=5):∃ r,C4 f9 0 a=some r/\r.length=5:=by
 obtain ⟨a0,a1,a2,a3,a4,rfl⟩:=Kv h
 exact N2 (by kernel_rfl)
theorem b48 {a:List Int} (h:a.length=5):∃ r,z8 a=some r/\r.length=5:=by
 obtain ⟨a0,a1,a2,a3,a4,rfl⟩:=Kv h
 exact N2 (by kernel_rfl)
theorem e61 {a:List Int} (h:a.length=5):∃ r,z9 a=some r/\r.length=5:=by
 obtain ⟨b,hb,hbl⟩:=b48 h
 obtain ⟨c,hc,hcl⟩:=b48 hbl
 obtain ⟨d,hd,hdl⟩:=b94 (a:=List.set c 0 (IntKind.wrap .u64 ((List.getD c 0 0)+5))) (by rw [List.length_set];exact hcl)
 obtain ⟨f,e,hf⟩:=Jj 1000001 (by decide)
 obtain ⟨r,hr,hrl⟩:=Sb (x:=d) (y:=List.set d 4 (bits .u64 .and (List.getD d 4 0) 67108863)) f9 0 c hcl (by omega) (by rw [e];omega)
 refine ⟨r,?_,hrl⟩
 unfold z9
 rw [hb,Option.bind_some,hc,Option.bind_some,m6,hd,Option.bind_some,m6]
 rw [show ((0:Nat):Int)=0 from rfl] at hr
 rw [hr]
 rfl
theorem i12 {a:List Int} (h:a.length=5):∃ r,A2 a=some r/\r.length=16:=by
 obtain ⟨a0,a1,a2,a3,a4,rfl⟩:=Kv h
 exact N2 (by kernel_rfl)
theorem e62 {k b:List Int} (h:k.length=32) (h':b.length=16):∃ r,B4 k f9 0 0 b=some r/\r.length=16:=by
 obtain ⟨a0,a1,a2,a3,a4,a5,a6,a7,a8,a9,a10,a11,a12,a13,a14,a15,a16,a17,a18,a19,a20,a21,a22,a23,a24,a25,a26,a27,a28,a29,a30,a31,rfl⟩:=Jk h
 obtain ⟨b0,b1,b2,b3,b4,b5,b6,b7,b8,b9,b10,b11,b12,b13,b14,b15,rfl⟩:=h69 h'
 exact N2 (by kernel_rfl)
theorem g22 {l:List Int} (h:Ci l) (i:Nat) (e:Int):Ci (l.set i (IntKind.wrap .u8 e)):=fun y hy=>by
 rcases List.mem_or_eq_of_mem_set hy with hy|rfl
 ·exact h y hy
 ·rw [Hz];omega
theorem b49 {k:List Int}:∀ (n:Nat) (c i:Int) (a r:List Int),B4 k n c i a=some r->Ci a->Ci r
 |0,_,_,_,_,h,_=>by cases h
 |n+1,c,i,a,r,h,ha=>by
  rw [B4.eq_2] at h
  cases hd:decide (i<16) with
  |false=>rw [hd] at h;cases h;exact ha
  |true =>
   rw [hd] at h
   obtain ⟨_,h⟩:=gd h
   obtain ⟨_,h⟩:=gd h
   simp only [m6] at h
   obtain ⟨_,h⟩:=gd h
   exact b49 n _ _ _ _ h (g22 ha _ _)
theorem b50 {x:List Int}:∀ (n:Nat) (i:Int) (a r:List Int),y8 x n i a=some r->Ci a->Ci r
 |0,_,_,_,h,_=>by cases h
 |n+1,i,a,r,h,ha=>by
  rw [y8.eq_2] at h
  cases hd:decide (i<16) with
  |false=>rw [hd] at h;cases h;exact ha
  |true =>
   rw [hd] at h
   obtain ⟨_,_,h⟩:=j5 h
   obtain ⟨_,h⟩:=gd h
   exact b50 n _ _ _ h (g22 ha _ _)
theorem i96 {x r:List Int} (h:A2 x=some r):Ci r:=by
 unfold A2 at h
 obtain ⟨a,h1,h2⟩:=j5 h
 cases h2
 exact b50 _ _ _ _ h1 fun y hy=>by rw [List.eq_of_mem_replicate hy];omega
def Zs (k m:List Int):Option (List Int):=(I8 k).bind fun r=>(C6 r m f9 0 (List.replicate 5 0)).bind fun h=>(z9 h).bind fun a=>(A2 a).bind fun b=>B4 k f9 0 0 b
theorem Yy {r m:List Int} (hr:r.length=5) (hm:m.length≤1000000):∀ (n i:Nat) (h:List Int),h.length=5->i≤m.length+15->m.length+16≤i+16*n->∃ h',C6 r m n (i:Int) h=some h'/\h'.length=5
 |0,i,h,hh,h1,h2=>by omega
 |n+1,i,h,hh,h1,h2=>by
  rw [C6.eq_2]
  by_cases hlt:i<m.length
  ·rw [j7 (by simp<;>omega),if_pos ⟨by omega,by omega⟩]
   simp only [m6]
   have e0:(((m.length:Int)-(i:Int)).toNat:Int)=(m.length:Int)-i:=by omega
   rw [e0]
   obtain ⟨w,hw⟩:∃ w:Nat,(if (m.length:Int)-(i:Int)<16 then (m.length:Int)-(i:Int) else 16)=(w:Int)/\w=min 16 (m.length-i):=by
    refine ⟨min 16 (m.length-i),?_,rfl⟩
    split<;>omega
   rw [hw.1,q6 (by omega) (by omega),if_pos ⟨by omega,by omega,by omega⟩,if_pos (by omega)]
   generalize hp:List.take (((i:Int)+(w:Int))-(i:Int)).toNat (List.drop (i:Int).toNat m)=p
   have hpl:p.length≤16:=by rw [←hp,List.length_take];omega
   rw [Tn (by omega),Option.bind_some,if_pos (by simp;omega)]
   obtain ⟨q,hq,hql⟩:=g77 (b:=p++[1]) (by simp;omega)
   obtain ⟨s,hs,hsl⟩:=e60 hql hh
   obtain ⟨t,ht,htl⟩:=f41 hsl hr
   rw [hq,Option.bind_some,hs,Option.bind_some,ht,Option.bind_some,q6 (by omega) (by omega)]
   exact Yy hr hm n (i+16) t htl (by omega) (by omega)
  ·rw [i0 (by simp<;>omega)]
   exact ⟨h,rfl,hh⟩
theorem i13 {k m:List Int} (hk:k.length=32) (hm:m.length≤1000000):∃ t,Zs k m=some t/\t.length=16/\Ci t:=by
 obtain ⟨r,h1,hr⟩:=d28 hk
 obtain ⟨f,e,hf⟩:=Jj 1000001 (by decide)
 obtain ⟨h,h2,hh⟩:=Yy hr hm f9 0 (List.replicate 5 0) (by simp) (by omega) (by rw [e];omega)
 rw [show ((0:Nat):Int)=0 from rfl] at h2
 obtain ⟨a,h3,ha⟩:=e61 hh
 obtain ⟨b,h4,hb⟩:=i12 ha
 obtain ⟨t,h5,ht⟩:=e62 hk hb
 refine ⟨t,?_,ht,b49 _ _ _ _ _ h5 (i96 h4)⟩
 unfold Zs
 rw [h1,Option.bind_some,h2,Option.bind_some,h3,Option.bind_some,h4,Option.bind_some,h5]
theorem Yz (x:List Int):∀ (n:Nat) (i:Int) (a:List Int),O4 x n i a=H4 x n i a
 |0,_,_=>rfl
 |n+1,i,a=>by
  rw [O4.eq_2,H4.eq_2]
  simp only [m6,Yz x n]
theorem Za (x y:List Int):∀ (n:Nat) (i:Int) (a:List Int),O5 x y n i a=C6 x y n i a
 |0,_,_=>rfl
 |n+1,i,a=>by
  rw [O5.eq_2,C6.eq_2]
  simp only [m6,Za x y n,Yz]
theorem Zb (x:List Int):∀ (n:Nat) (c i:Int) (a:List Int),O6 x n c i a=B4 x n c i a
 |0,_,_,_=>rfl
 |n+1,c,i,a=>by
  rw [O6.eq_2,B4.eq_2]
  simp only [m6,Zb x n]
theorem j61 (k A B C D E F:List Int) (h:A.length+B.length+C.length+D.length+E.length+F.length≤1000000) :
  Gu k A B.length C.length D.length E.length F.length B C D E F=Zs k (A++B++C++D++E++F):=by
 unfold Gu Zs
 rw [g75 A B C D E F h]
 simp only [Option.bind_some]
 rw [show B5 16 (A++B++C++D++E++F)=some () from rfl]
 simp only [Option.bind_some,b47]
theorem i14 (k A B C D E F:List Int) (h:A.length+B.length+C.length+D.length+E.length+F.length≤1000000) :
  Bx k A B.length C D.length E.length F.length B D E F=Zs k (A++B++C++D++E++F):=by
 unfold Bx Zs
 rw [e59 A B C D E F h]
 simp only [Option.bind_some]
 rw [show B5 16 (A++B++C++D++E++F)=some () from rfl]
 simp only [Option.bind_some,b47,Za,Zb]
end Go.Eng
