/-
  Part of a proof: SelOa.
-/
import Derived.Test.YtonkmgaofdhbaaaGreatDoorSelNa
import Derived.KernelRfl
set_option linter.unusedVariables false
set_option linter.unusedSimpArgs false
set_option linter.unusedVariables false
set_option linter.unusedSimpArgs false
namespace Go.Eng
set_option maxRecDepth 100000
set_option maxHeartbeats 1000000
def oW (x w:Int):Int:=bits .u64 .or (IntKind.wrap .u64 (x*2^8)) (IntKind.wrap .u64 w)
def x5 (a b c d e:Int):Int:=oW (oW (oW (oW (oW 0 e) d) c) b) a
def lm (x:Int) (r:Nat):Int:=bits .u64 .and (Int.fdiv x (2^r)) 67108863
theorem i04 (w0 w1 w2 w3 w4 w5 w6 w7 w8 w9 w10 w11 w12 w13 w14 w15 w16 w17 w18 w19 w20 w21 w22 w23 w24 w25 w26 w27 w28 w29 w30 w31:Int) :
  L9 [w0,w1,w2,w3,w4,w5,w6,w7,w8,w9,w10,w11,w12,w13,w14,w15,w16,w17,w18,w19,w20,w21,w22,w23,w24,w25,w26,w27,w28,w29,w30,w31] f9 0 (List.replicate 5 0)=some [lm (x5 w0 w1 w2 w3 w4) 0,lm (x5 w3 w4 w5 w6 w7) 2,lm (x5 w6 w7 w8 w9 w10) 4,lm (x5 w9 w10 w11 w12 w13) 6,lm (x5 w13 w14 w15 w16 w17) 0]:=by kernel_rfl
theorem e52 {x w:Nat} (hx:x<4294967296) (hw:w<256):oW (x:Int) (w:Int)=((x*256+w:Nat):Int):=by
 unfold oW
 rw [d83,Np,Np,Nat.mod_eq_of_lt (by omega),Nat.mod_eq_of_lt (by omega),Ly (by omega) (by omega),Nat.or_comm,Wp (by simpa using hw)]
 congr 1;omega
theorem e53 {a b c d e:Nat} (ha:a<256) (hb:b<256) (hc:c<256) (hd:d<256) (he:e<256):x5 a b c d e=((a+256*b+65536*c+16777216*d+4294967296*e:Nat):Int):=by
 unfold x5
 rw [show (0:Int)=((0:Nat):Int) from rfl,e52 (by omega) he,e52 (by omega) hd,e52 (by omega) hc,e52 (by omega) hb,e52 (by omega) ha]
 congr 1;omega
theorem e54 {x:Nat} (r:Nat) (h:x<18446744073709551616):lm (x:Int) r=((x/2^r%67108864:Nat):Int):=by
 unfold lm
 have:x/2^r<18446744073709551616:=Nat.lt_of_le_of_lt (Nat.div_le_self _ _) h
 rw [Ma,a74 (Int.natCast_nonneg _) (Int.ofNat_lt.2 this)];rfl
theorem f25 (m:List Int) (h:m.length≤32):T9 (List.replicate 32 (0:Int)) 0 (m.take 32)=m++List.replicate (32-m.length) 0:=by
 unfold T9
 rw [List.take_of_length_le h,List.take_zero,List.nil_append,Nat.zero_add,List.drop_replicate]
theorem l01 (b:List Nat) (n:Nat):V8 (b++List.replicate n 0)=V8 b:=by rw [Md,d13];omega
def g64 (w0 w1 w2 w3 w4 w5 w6 w7 w8 w9 w10 w11 w12 w13 w14 w15 w16:Nat):List Nat:=[w0+256*w1+65536*w2+16777216*(w3%4),w3/4+64*w4+16384*w5+4194304*(w6%16),w6/16+16*w7+4096*w8+1048576*(w9%64),w9/64+4*w10+1024*w11+262144*w12,w13+256*w14+65536*w15+16777216*w16]
theorem g65 {w0 w1 w2 w3 w4 w5 w6 w7 w8 w9 w10 w11 w12 w13 w14 w15 w16:Nat} (h0:w0<256) (h1:w1<256) (h2:w2<256) (h3:w3<256) (h4:w4<256) (h5:w5<256) (h6:w6<256) (h7:w7<256) (h8:w8<256) (h9:w9<256) (h10:w10<256) (h11:w11<256) (h12:w12<256) (h13:w13<256) (h14:w14<256) (h15:w15<256) (h16:w16<4):L9 (zl [w0,w1,w2,w3,w4,w5,w6,w7,w8,w9,w10,w11,w12,w13,w14,w15,w16,0,0,0,0,0,0,0,0,0,0,0,0,0,0,0]) f9 0 (List.replicate 5 0)=some (zl (g64 w0 w1 w2 w3 w4 w5 w6 w7 w8 w9 w10 w11 w12 w13 w14 w15 w16)):=by
 have l0:(w0+256*w1+65536*w2+16777216*w3+4294967296*w4)/2^0%67108864=w0+256*w1+65536*w2+16777216*(w3%4):=by omega
 have l1:(w3+256*w4+65536*w5+16777216*w6+4294967296*w7)/2^2%67108864=w3/4+64*w4+16384*w5+4194304*(w6%16):=by omega
 have l2:(w6+256*w7+65536*w8+16777216*w9+4294967296*w10)/2^4%67108864=w6/16+16*w7+4096*w8+1048576*(w9%64):=by omega
 have l3:(w9+256*w10+65536*w11+16777216*w12+4294967296*w13)/2^6%67108864=w9/64+4*w10+1024*w11+262144*w12:=by omega
 have l4:(w13+256*w14+65536*w15+16777216*w16+4294967296*0)/2^0%67108864=w13+256*w14+65536*w15+16777216*w16:=by omega
 have e0:lm (x5 w0 w1 w2 w3 w4) 0=((w0+256*w1+65536*w2+16777216*(w3%4):Nat):Int):=by rw [e53 h0 h1 h2 h3 h4,e54 0 (by omega),l0]
 have e1:lm (x5 w3 w4 w5 w6 w7) 2=((w3/4+64*w4+16384*w5+4194304*(w6%16):Nat):Int):=by rw [e53 h3 h4 h5 h6 h7,e54 2 (by omega),l1]
 have e2:lm (x5 w6 w7 w8 w9 w10) 4=((w6/16+16*w7+4096*w8+1048576*(w9%64):Nat):Int):=by rw [e53 h6 h7 h8 h9 h10,e54 4 (by omega),l2]
 have e3:lm (x5 w9 w10 w11 w12 w13) 6=((w9/64+4*w10+1024*w11+262144*w12:Nat):Int):=by rw [e53 h9 h10 h11 h12 h13,e54 6 (by omega),l3]
 have e4:lm (x5 w13 w14 w15 w16 0) 0=((w13+256*w14+65536*w15+16777216*w16:Nat):Int):=by
  have:=e53 h13 h14 h15 (show w16<256 by omega) (show 0<256 by decide)
  rw [show ((0:Nat):Int)=0 from rfl] at this
  rw [this,e54 0 (by omega),l4]
 have hr:=i04 w0 w1 w2 w3 w4 w5 w6 w7 w8 w9 w10 w11 w12 w13 w14 w15 w16 0 0 0 0 0 0 0 0 0 0 0 0 0 0 0
 rw [e0,e1,e2,e3,e4] at hr
 exact hr
theorem i05 {w0 w1 w2 w3 w4 w5 w6 w7 w8 w9 w10 w11 w12 w13 w14 w15 w16:Nat}:Z3 26 (g64 w0 w1 w2 w3 w4 w5 w6 w7 w8 w9 w10 w11 w12 w13 w14 w15 w16)=V8 [w0,w1,w2,w3,w4,w5,w6,w7,w8,w9,w10,w11,w12,w13,w14,w15,w16,0,0,0,0,0,0,0,0,0,0,0,0,0,0,0]:=by
 simp only [g64,V8,Z3,f24,show (2:Nat)^26=67108864 from rfl]
 omega
theorem i85 {w0 w1 w2 w3 w4 w5 w6 w7 w8 w9 w10 w11 w12 w13 w14 w15 w16:Nat} (h0:w0<256) (h1:w1<256) (h2:w2<256) (h3:w3<256) (h4:w4<256) (h5:w5<256) (h6:w6<256) (h7:w7<256) (h8:w8<256) (h9:w9<256) (h10:w10<256) (h11:w11<256) (h12:w12<256) (h13:w13<256) (h14:w14<256) (h15:w15<256) (h16:w16<4):∀ x∈g64 w0 w1 w2 w3 w4 w5 w6 w7 w8 w9 w10 w11 w12 w13 w14 w15 w16,x<67108864:=by
 intro x hx
 simp only [g64,List.mem_cons,List.not_mem_nil,or_false] at hx
 rcases hx with rfl|rfl|rfl|rfl|rfl<;>omega
theorem l84 (l:List Nat) (i:Nat):256^i*l.getD i 0≤V8 l:=by
 have h:=Md (l.take (i+1)) (l.drop (i+1))
 rw [List.take_append_drop,Qd] at h
 omega
theorem g01 {b:List Nat} (hb:Jd b) (hl:b.length≤17) (hv:V8 b<C2):∃ l,G8 (zl b)=some l/\q8 67108864 l/\l.length=5/\j9 l=(V8 b:Int):=by
 have hlen:(b++List.replicate (32-b.length) 0).length=32:=by rw [List.length_append,List.length_replicate];omega
 have hz:∀ j,b.length≤j->(b++List.replicate (32-b.length) 0).getD j 0=0:=fun j hj=>by
  simp only [List.getD];rw [List.getElem?_append_right hj,List.getElem?_replicate];split<;>rfl
 have hd:Jd (b++List.replicate (32-b.length) 0):=fun x hx=>by
  rcases List.mem_append.1 hx with hx|hx
  ·exact hb x hx
  ·rw [List.eq_of_mem_replicate hx];decide
 have hov:T9 (List.replicate 32 (0:Int)) 0 (List.take (List.length (List.replicate 32 (0:Int))) (zl b))=zl (b++List.replicate (32-b.length) 0):=by
  rw [List.length_replicate,f25 _ (by rw [A0];omega),Ey,No,A0];rfl
 have hV:=l01 b (32-b.length)
 have key:∃ m:List Nat,L9 (zl (b++List.replicate (32-b.length) 0)) f9 0 (List.replicate 5 0)=some (zl m)/\m.length=5/\(∀ x∈m,x<67108864)/\Z3 26 m=V8 b:=by
  rw [←hV] at hv ⊢
  have hg:=l84 (b++List.replicate (32-b.length) 0) 16
  generalize b++List.replicate (32-b.length) 0=w at *
  obtain ⟨w0,w1,w2,w3,w4,w5,w6,w7,w8,w9,w10,w11,w12,w13,w14,w15,w16,w17,w18,w19,w20,w21,w22,w23,w24,w25,w26,w27,w28,w29,w30,w31,rfl⟩:=Ix hlen
  have z17:w17=0:=hz 17 (by omega)
  have z18:w18=0:=hz 18 (by omega)
  have z19:w19=0:=hz 19 (by omega)
  have z20:w20=0:=hz 20 (by omega)
  have z21:w21=0:=hz 21 (by omega)
  have z22:w22=0:=hz 22 (by omega)
  have z23:w23=0:=hz 23 (by omega)
  have z24:w24=0:=hz 24 (by omega)
  have z25:w25=0:=hz 25 (by omega)
  have z26:w26=0:=hz 26 (by omega)
  have z27:w27=0:=hz 27 (by omega)
  have z28:w28=0:=hz 28 (by omega)
  have z29:w29=0:=hz 29 (by omega)
  have z30:w30=0:=hz 30 (by omega)
  have z31:w31=0:=hz 31 (by omega)
  subst z17 z18 z19 z20 z21 z22 z23 z24 z25 z26 z27 z28 z29 z30 z31
  have h0:w0<256:=hd w0 (by simp)
  have h1:w1<256:=hd w1 (by simp)
  have h2:w2<256:=hd w2 (by simp)
  have h3:w3<256:=hd w3 (by simp)
  have h4:w4<256:=hd w4 (by simp)
  have h5:w5<256:=hd w5 (by simp)
  have h6:w6<256:=hd w6 (by simp)
  have h7:w7<256:=hd w7 (by simp)
  have h8:w8<256:=hd w8 (by simp)
  have h9:w9<256:=hd w9 (by simp)
  have h10:w10<256:=hd w10 (by simp)
  have h11:w11<256:=hd w11 (by simp)
  have h12:w12<256:=hd w12 (by simp)
  have h13:w13<256:=hd w13 (by simp)
  have h14:w14<256:=hd w14 (by simp)
  have h15:w15<256:=hd w15 (by simp)
  have h16:w16<4:=by
   have c16:(256:Nat)^16=340282366920938463463374607431768211456:=by decide
   rw [c16,show ([w0,w1,w2,w3,w4,w5,w6,w7,w8,w9,w10,w11,w12,w13,w14,w15,w16,0,0,0,0,0,0,0,0,0,0,0,0,0,0,0]:List Nat).getD 16 0=w16 from rfl] at hg
   have:=Nat.lt_of_le_of_lt hg hv
   clear hg hv
   simp only [C2] at this
   omega
  exact ⟨g64 w0 w1 w2 w3 w4 w5 w6 w7 w8 w9 w10 w11 w12 w13 w14 w15 w16,g65 h0 h1 h2 h3 h4 h5 h6 h7 h8 h9 h10 h11 h12 h13 h14 h15 h16,rfl,i85 h0 h1 h2 h3 h4 h5 h6 h7 h8 h9 h10 h11 h12 h13 h14 h15 h16,i05⟩
 obtain ⟨m,k1,k2,k3,k4⟩:=key
 refine ⟨zl m,?_,a82 k3,by rw [A0,k2],by rw [Ur,k4]⟩
 unfold G8
 rw [m6,m6,hov,k1];rfl
end Go.Eng
set_option linter.unusedVariables false
set_option linter.unusedSimpArgs false
namespace Go.Eng
set_option maxRecDepth 100000
set_option maxHeartbeats 1000000
abbrev TI:Int:=1361129467683753853853498429727072845824
abbrev PI:Int:=1361129467683753853853498429727072845819
def Yj (r:Int×List Int):List Int:=List.set r.2 0 (IntKind.wrap .u64 (List.getD r.2 0 0+IntKind.wrap .u64 (5*r.1)))
def J2 (l:List Int):List Int:=Yj (Bp 0 (Yj (Bp 0 l)))
theorem f26 (a0 a1 a2 a3 a4:Int):z7 [a0,a1,a2,a3,a4]=some (J2 [a0,a1,a2,a3,a4]):=by kernel_rfl
theorem Wz {l:List Int} (h:l.length=5):z7 l=some (J2 l):=by
 obtain ⟨a0,a1,a2,a3,a4,rfl⟩:=Kj h
 exact f26 ..
theorem i86:(67108864:Int)^5=1361129467683753853853498429727072845824:=by decide
theorem c52 {o:Int} {l:List Int} (h:q8 67108864 l) (hn:l.length=5) (h0:0≤o) (h1:o<274877906944) :
  j9 (Yj (o,l))=j9 l+5*o/\q8 (67108864+5*o) (Yj (o,l))/\(Yj (o,l)).length=5:=by
 match l,h,hn with
 |x::xs,⟨⟨a,b⟩,c⟩,hn =>
  have e1:IntKind.u64.wrap (5*o)=5*o:=A3 (by omega) (by omega)
  have e2:IntKind.u64.wrap (x+5*o)=x+5*o:=A3 (by omega) (by omega)
  simp only [Yj,List.getD_cons_zero,e1,e2,List.set_cons_zero,j9,q8,List.length_cons] at hn ⊢
  exact ⟨by omega,⟨⟨by omega,by omega⟩,c.mono (by omega)⟩,by omega⟩
theorem Nw {l:List Int} (h:q8 9223372036854775808 l) (hn:l.length=5) :
  j9 (J2 l)%PI=j9 l%PI/\q8 134217728 (J2 l)/\(J2 l).length=5/\0≤j9 (J2 l)/\j9 (J2 l)<TI/\(j9 l<TI->j9 (J2 l)=j9 l/\q8 67108864 (J2 l)):=by
 obtain ⟨a1,a2,a3,a4,a5⟩:=Hv l 0 h (by decide) (by decide)
 rw [hn] at a1 a3
 have a6:=J5 a2
 have a7:=Dp a2
 rw [a3,i86] at a7
 rw [i86] at a1
 unfold J2
 generalize hl1:Bp 0 l=r1 at *
 obtain ⟨o1,l1⟩:=r1
 obtain ⟨b1,b2,b3⟩:=c52 a2 a3 a4 a5
 generalize hb1:Yj (o1,l1)=m1 at *
 simp only at a1 a2 a3 a4 a5 a6 a7 b1 b2
 obtain ⟨c1,c2,c3,c4,c5⟩:=Hv m1 0 (b2.mono (by omega)) (by decide) (by decide)
 rw [b3] at c1 c3
 have c6:=J5 c2
 have c7:=Dp c2
 rw [c3,i86] at c7
 rw [i86] at c1
 generalize hl2:Bp 0 m1=r2 at *
 obtain ⟨o2,l2⟩:=r2
 obtain ⟨d1,d2,d3⟩:=c52 c2 c3 c4 c5
 generalize hb2:Yj (o2,l2)=m2 at *
 simp only at c1 c2 c3 c4 c5 c6 c7 d1 d2
 have z:o2≤1:=by omega
 refine ⟨by simp only [PI];omega,d2.mono (by omega),d3,by omega,by simp only [TI];omega,fun hlt => ?_⟩
 simp only [TI] at hlt
 have z1:o1=0:=by omega
 have z2:o2=0:=by omega
 subst z1 z2
 exact ⟨by omega,d2.mono (by omega)⟩
def us (x y:Int):Int:=IntKind.wrap .u64 (x+y)
def upS (x y:Int):Int:=IntKind.wrap .u64 (x*y)
def uq (x y:Int):Int:=IntKind.wrap .u64 (IntKind.wrap .u64 (x*y)*5)
def su5 (a b c d e:Int):Int:=us (us (us (us (us 0 a) b) c) d) e
theorem g66 (a0 a1 a2 a3 a4 b0 b1 b2 b3 b4:Int):V1 [a0,a1,a2,a3,a4] [b0,b1,b2,b3,b4] f9 0 (List.replicate 5 0)=some
  [su5 (upS a0 b0) (uq a1 b4) (uq a2 b3) (uq a3 b2) (uq a4 b1),su5 (upS a0 b1) (upS a1 b0) (uq a2 b4) (uq a3 b3) (uq a4 b2),su5 (upS a0 b2) (upS a1 b1) (upS a2 b0) (uq a3 b4) (uq a4 b3),su5 (upS a0 b3) (upS a1 b2) (upS a2 b1) (upS a3 b0) (uq a4 b4),su5 (upS a0 b4) (upS a1 b3) (upS a2 b2) (upS a3 b1) (upS a4 b0)]:=by kernel_rfl
theorem Hc {x y:Int} (h0:0≤x) (h1:x<268435456) (h2:0≤y) (h3:y<67108864):upS x y=x*y/\0≤x*y/\x*y≤18014398509481984:=by
 have m0:0≤x*y:=Int.mul_nonneg h0 h2
 have m1:x*y≤268435455*67108863:=Int.mul_le_mul (by omega) (by omega) h2 (by decide)
 exact ⟨A3 m0 (by omega),m0,by omega⟩
theorem Ro {x y:Int} (h0:0≤x) (h1:x<268435456) (h2:0≤y) (h3:y<67108864):uq x y=5*(x*y)/\0≤x*y/\x*y≤18014398509481984:=by
 obtain ⟨e,m0,m1⟩:=Hc h0 h1 h2 h3
 unfold uq
 rw [show IntKind.wrap .u64 (x*y)=x*y from e,A3 (by omega) (by omega)]
 exact ⟨by omega,m0,m1⟩
theorem b39 {a b c d e:Int} (ha:0≤a/\a≤90071992547409920) (hb:0≤b/\b≤90071992547409920) (hc:0≤c/\c≤90071992547409920) (hd:0≤d/\d≤90071992547409920) (he:0≤e/\e≤90071992547409920):su5 a b c d e=a+b+c+d+e:=by
 unfold su5 us
 rw [Int.zero_add,A3 (n:=a) (by omega) (by omega),A3 (n:=a+b) (by omega) (by omega),A3 (n:=a+b+c) (by omega) (by omega),A3 (n:=a+b+c+d) (by omega) (by omega),A3 (by omega) (by omega)]
theorem l02 (a0 a1 a2 a3 a4 b0 b1 b2 b3 b4:Int) :
  j9 [a0,a1,a2,a3,a4]*j9 [b0,b1,b2,b3,b4]=j9 [a0*b0+5*(a1*b4)+5*(a2*b3)+5*(a3*b2)+5*(a4*b1),a0*b1+a1*b0+5*(a2*b4)+5*(a3*b3)+5*(a4*b2),a0*b2+a1*b1+a2*b0+5*(a3*b4)+5*(a4*b3),a0*b3+a1*b2+a2*b1+a3*b0+5*(a4*b4),a0*b4+a1*b3+a2*b2+a3*b1+a4*b0]
   + 1361129467683753853853498429727072845819*(a1*b4+a2*b3+a3*b2+a4*b1+67108864*(a2*b4+a3*b3+a4*b2)+4503599627370496*(a3*b4+a4*b3)+302231454903657293676544*(a4*b4)):=by
 simp only [j9]
 grind
theorem g67 {a b:List Int} (ha:q8 268435456 a) (hb:q8 67108864 b) (la:a.length=5) (lb:b.length=5):∃ r,S9 a b=some r/\q8 134217728 r/\r.length=5/\j9 r%PI=j9 a*j9 b%PI:=by
 obtain ⟨a0,a1,a2,a3,a4,rfl⟩:=Kj la
 obtain ⟨b0,b1,b2,b3,b4,rfl⟩:=Kj lb
 simp only [q8] at ha hb
 obtain ⟨⟨x0,y0⟩,⟨x1,y1⟩,⟨x2,y2⟩,⟨x3,y3⟩,⟨x4,y4⟩,_⟩:=ha
 obtain ⟨⟨u0,v0⟩,⟨u1,v1⟩,⟨u2,v2⟩,⟨u3,v3⟩,⟨u4,v4⟩,_⟩:=hb
 have e00:=Hc x0 y0 u0 v0
 have e01:=Hc x0 y0 u1 v1
 have e02:=Hc x0 y0 u2 v2
 have e03:=Hc x0 y0 u3 v3
 have e04:=Hc x0 y0 u4 v4
 have e10:=Hc x1 y1 u0 v0
 have e11:=Hc x1 y1 u1 v1
 have e12:=Hc x1 y1 u2 v2
 have e13:=Hc x1 y1 u3 v3
 have e14:=Ro x1 y1 u4 v4
 have e20:=Hc x2 y2 u0 v0
 have e21:=Hc x2 y2 u1 v1
 have e22:=Hc x2 y2 u2 v2
 have e23:=Ro x2 y2 u3 v3
 have e24:=Ro x2 y2 u4 v4
 have e30:=Hc x3 y3 u0 v0
 have e31:=Hc x3 y3 u1 v1
 have e32:=Ro x3 y3 u2 v2
 have e33:=Ro x3 y3 u3 v3
 have e34:=Ro x3 y3 u4 v4
 have e40:=Hc x4 y4 u0 v0
 have e41:=Ro x4 y4 u1 v1
 have e42:=Ro x4 y4 u2 v2
 have e43:=Ro x4 y4 u3 v3
 have e44:=Ro x4 y4 u4 v4
 have hr:=l02 a0 a1 a2 a3 a4 b0 b1 b2 b3 b4
 have ht:=g66 a0 a1 a2 a3 a4 b0 b1 b2 b3 b4
 rw [e00.1,e01.1,e02.1,e03.1,e04.1,e10.1,e11.1,e12.1,e13.1,e14.1,e20.1,e21.1,e22.1,e23.1,e24.1,e30.1,e31.1,e32.1,e33.1,e34.1,e40.1,e41.1,e42.1,e43.1,e44.1] at ht
 replace e00:=e00.2
 replace e01:=e01.2
 replace e02:=e02.2
 replace e03:=e03.2
 replace e04:=e04.2
 replace e10:=e10.2
 replace e11:=e11.2
 replace e12:=e12.2
 replace e13:=e13.2
 replace e14:=e14.2
 replace e20:=e20.2
 replace e21:=e21.2
 replace e22:=e22.2
 replace e23:=e23.2
 replace e24:=e24.2
 replace e30:=e30.2
 replace e31:=e31.2
 replace e32:=e32.2
 replace e33:=e33.2
 replace e34:=e34.2
 replace e40:=e40.2
 replace e41:=e41.2
 replace e42:=e42.2
 replace e43:=e43.2
 replace e44:=e44.2
 have t0:=b39 (a:=a0*b0) (b:=5*(a1*b4)) (c:=5*(a2*b3)) (d:=5*(a3*b2)) (e:=5*(a4*b1)) (by omega) (by omega) (by omega) (by omega) (by omega)
 have t1:=b39 (a:=a0*b1) (b:=a1*b0) (c:=5*(a2*b4)) (d:=5*(a3*b3)) (e:=5*(a4*b2)) (by omega) (by omega) (by omega) (by omega) (by omega)
 have t2:=b39 (a:=a0*b2) (b:=a1*b1) (c:=a2*b0) (d:=5*(a3*b4)) (e:=5*(a4*b3)) (by omega) (by omega) (by omega) (by omega) (by omega)
 have t3:=b39 (a:=a0*b3) (b:=a1*b2) (c:=a2*b1) (d:=a3*b0) (e:=5*(a4*b4)) (by omega) (by omega) (by omega) (by omega) (by omega)
 have t4:=b39 (a:=a0*b4) (b:=a1*b3) (c:=a2*b2) (d:=a3*b1) (e:=a4*b0) (by omega) (by omega) (by omega) (by omega) (by omega)
 rw [t0,t1,t2,t3,t4] at ht
 clear t0 t1 t2 t3 t4
 have hL:q8 9223372036854775808 [a0*b0+5*(a1*b4)+5*(a2*b3)+5*(a3*b2)+5*(a4*b1),a0*b1+a1*b0+5*(a2*b4)+5*(a3*b3)+5*(a4*b2),a0*b2+a1*b1+a2*b0+5*(a3*b4)+5*(a4*b3),a0*b3+a1*b2+a2*b1+a3*b0+5*(a4*b4),a0*b4+a1*b3+a2*b2+a3*b1+a4*b0]:=by
  simp only [q8]
  refine ⟨?_,?_,?_,?_,?_,trivial⟩
  ·clear hr ht;omega
  ·clear hr ht;omega
  ·clear hr ht;omega
  ·clear hr ht;omega
  ·clear hr ht;omega
 obtain ⟨c1,c2,c3,_⟩:=Nw hL rfl
 refine ⟨_,?_,c2,c3,?_⟩
 ·unfold S9
  rw [ht,Option.bind_some,Wz rfl];rfl
 ·rw [c1,hr,Int.add_mul_emod_self_left]
end Go.Eng
set_option linter.unusedVariables false
set_option linter.unusedSimpArgs false
namespace Go.Eng
set_option maxRecDepth 100000
set_option maxHeartbeats 1000000
theorem f27 (a0 a1 a2 a3 a4 b0 b1 b2 b3 b4:Int):G9 [b0,b1,b2,b3,b4] f9 0 [a0,a1,a2,a3,a4]=some (Pu [a0,a1,a2,a3,a4] [b0,b1,b2,b3,b4]):=by kernel_rfl
theorem c53:∀ (a b:List Int),a.length=b.length->q8 134217728 a->q8 67108864 b ->
  j9 (Pu a b)=j9 a+j9 b/\q8 268435456 (Pu a b)/\(Pu a b).length=a.length
 |[],[],_,_,_=>by simp [Pu,j9,q8]
 |x::xs,y::ys,h,⟨⟨p1,p2⟩,p3⟩,⟨⟨q1,q2⟩,q3⟩=>by
  obtain ⟨i1,i2,i3⟩:=c53 xs ys (by simpa using h) p3 q3
  simp only [Pu,j9,q8,List.length_cons,i1,i3,A3 (n:=x+y) (by omega) (by omega)]
  exact ⟨by omega,⟨⟨by omega,by omega⟩,i2⟩,trivial⟩
theorem g68 {a b:List Int} (la:a.length=5) (lb:b.length=5):G9 b f9 0 a=some (Pu a b):=by
 obtain ⟨a0,a1,a2,a3,a4,rfl⟩:=Kj la
 obtain ⟨b0,b1,b2,b3,b4,rfl⟩:=Kj lb
 exact f27 ..
theorem c54 {rl:List Int} {r:Nat} (hr:q8 67108864 rl) (lr:rl.length=5) (vr:j9 rl=(r:Int)) (m:List Nat) (hm:Jd m) (hl:m.length≤900000):∀ (k n i a:Nat) (h:List Int),m.length≤i+16*k->k<n->i≤m.length+15->q8 134217728 h->h.length=5->j9 h%PI=(a:Int)%PI ->
  ∃ h',C5 rl (zl m) n (i:Int) h=some h'/\q8 134217728 h'/\h'.length=5/\j9 h'%PI=((Je r k a (m.drop i):Nat):Int)%PI
 |_,0,_,_,_,_,h,_,_,_,_=>absurd h (Nat.not_lt_zero _)
 |k,n+1,i,a,h,h1,h2,h3,h4,h5,h6=>by
  rw [C5.eq_2,A0]
  by_cases hi:i<m.length
  ·cases k with
   |zero=>omega
   |succ k =>
   rw [j7 (by simp<;>omega),if_pos ⟨by omega,by omega⟩,m6]
   obtain ⟨w,hw⟩:∃ w:Nat,(if ((((m.length:Nat):Int)-(i:Int)).toNat:Int)<16 then ((((m.length:Nat):Int)-(i:Int)).toNat:Int) else 16)=(w:Int)/\w=min 16 (m.length-i):=by
    refine ⟨min 16 (m.length-i),?_,rfl⟩
    split<;>omega
   rw [hw.1,o8 (n:=(i:Int)+(w:Int)) (by omega) (by omega),if_pos ⟨by omega,by omega,by omega⟩,if_pos (by omega)]
   have hch:List.take (((i:Int)+(w:Int))-(i:Int)).toNat (List.drop (i:Int).toNat (zl m))=zl ((m.drop i).take 16):=by
    rw [Int.toNat_natCast,←c97,←Zq]
    congr 1
    rw [show (((i:Int)+(w:Int))-(i:Int)).toNat=w by omega,hw.2]
    by_cases h16:i+16≤m.length
    ·rw [show min 16 (m.length-i)=16 by omega]
    ·rw [List.take_of_length_le (by rw [List.length_drop];omega),List.take_of_length_le (by rw [List.length_drop];omega)]
   have hcd:Jd ((m.drop i).take 16++[1]):=fun x hx=>by
    rcases List.mem_append.1 hx with hx|hx
    ·exact hm x (List.mem_of_mem_drop (List.mem_of_mem_take hx))
    ·rw [List.mem_singleton.1 hx];decide
   have hcl:((m.drop i).take 16).length≤16:=by rw [List.length_take];omega
   have hcl2:((m.drop i).take 16++[1]).length≤17:=by rw [List.length_append];simp only [List.length_cons,List.length_nil];omega
   have hzz:zl ((m.drop i).take 16)++[1]=zl ((m.drop i).take 16++[1]):=by rw [Ey];rfl
   have hV:V8 ((m.drop i).take 16++[1])<C2:=by
    have hc:Jd ((m.drop i).take 16):=fun x hx=>hm x (List.mem_of_mem_drop (List.mem_of_mem_take hx))
    have hlt:=d14 hc
    have hle:(256:Nat)^((m.drop i).take 16).length≤256^16:=Nat.pow_le_pow_right (by decide) hcl
    have c16:(256:Nat)^16=340282366920938463463374607431768211456:=by decide
    have e1:V8 [1]=1:=rfl
    rw [Md,e1]
    rw [c16] at hle
    simp only [C2];omega
   rw [hch,Sx (by rw [A0];omega),Option.bind_some,if_pos (by rw [A0];simp only [List.length_cons,List.length_nil];omega),hzz]
   obtain ⟨q,q1,q2,q3,q4⟩:=g01 hcd hcl2 hV
   obtain ⟨s1,s2,s3⟩:=c53 h q (by rw [h5,q3]) h4 q2
   obtain ⟨t,t1,t2,t3,t4⟩:=g67 s2 hr (by rw [s3,h5]) lr
   rw [q1,Option.bind_some,g68 h5 q3,Option.bind_some,t1,Option.bind_some,o8 (by omega) (by omega),show (i:Int)+16=((i+16:Nat):Int) from rfl]
   have hstep:Je r (k+1) a (m.drop i)=Je r k (((a+V8 ((m.drop i).take 16++[1]))*r)%Br) (m.drop (i+16)):=by
    rw [Je,if_neg (by rw [List.isEmpty_iff];intro e;have:=congrArg List.length e;rw [List.length_drop,List.length_nil] at this;omega),List.drop_drop]
   rw [hstep]
   refine c54 hr lr vr m hm hl k n (i+16) _ t (by omega) (by omega) (by omega) t2 t3 ?_
   rw [t4,s1,q4,vr,Int.mul_emod,Int.add_emod,h6,←Int.add_emod,←Int.mul_emod]
   generalize V8 ((m.drop i).take 16++[1])=z
   rw [Int.natCast_emod,Int.natCast_mul,Int.natCast_add]
   exact (Int.emod_emod _ _).symm
  ·rw [i0 (by simp<;>omega),List.drop_eq_nil_of_le (by omega),c49]
   exact ⟨h,rfl,h4,h5,h6⟩
theorem d16 (a0 a1 a2 a3 a4:Int):C3 f9 0 [a0,a1,a2,a3,a4]=some (Cn [a0,a1,a2,a3,a4]):=by kernel_rfl
theorem b40 (x y:Int) (h:0≤x/\x<18446744073709551616) (h':0≤y/\y<18446744073709551616) (b:Bool):P3 b x y=some (cond b x y):=by
 cases b with
 |true =>
  show some (bits .u64 .or (bits .u64 .and x 18446744073709551615) (bits .u64 .andNot y 18446744073709551615))=some x
  rw [f68 h.1 h.2,a81,c21 h.1 h.2]
 |false =>
  show some (bits .u64 .or (bits .u64 .and x 0) (bits .u64 .andNot y 0))=some y
  rw [a80 h.1 h.2,Rm h'.1 h'.2,c22 h'.1 h'.2]
theorem d17 (x y a0 a1 a2 a3 a4 b0 b1 b2 b3 b4:Int) (x0 x1 x2 x3 x4:Int):A5 [x0,x1,x2,x3,x4] [b0,b1,b2,b3,b4] f9 0 [a0,a1,a2,a3,a4]=(P3 (!((Int.fdiv x4 (2^26))==0)) b0 a0).bind fun c0=>(P3 (!((Int.fdiv x4 (2^26))==0)) b1 a1).bind fun c1=>(P3 (!((Int.fdiv x4 (2^26))==0)) b2 a2).bind fun c2=>(P3 (!((Int.fdiv x4 (2^26))==0)) b3 a3).bind fun c3=>(P3 (!((Int.fdiv x4 (2^26))==0)) b4 a4).bind fun c4=>some [c0,c1,c2,c3,c4]:=by kernel_rfl
theorem i06 {a:List Int} (ha:q8 134217728 a) (la:a.length=5):∃ r,z8 a=some r/\q8 67108864 r/\r.length=5/\j9 r=j9 a%PI:=by
 obtain ⟨c1,c2,c3,c4,c5,_⟩:=Nw (ha.mono (by decide)) la
 obtain ⟨_,_,d3,_,_,d6⟩:=Nw (c2.mono (by decide)) c3
 obtain ⟨d6,d7⟩:=d6 c5
 have hv:j9 a%PI=j9 (J2 (J2 a))%PI:=by rw [d6,c1]
 have hlo:0≤j9 (J2 (J2 a)):=by rw [d6];exact c4
 have hhi:j9 (J2 (J2 a))<TI:=by rw [d6];exact c5
 unfold z8
 rw [Wz la,Option.bind_some,Wz c3,Option.bind_some,hv]
 clear hv d6 c1 c2 c4 c5
 generalize J2 (J2 a)=b at *
 obtain ⟨b0,b1,b2,b3,b4,rfl⟩:=Kj d3
 have d7':=d7
 simp only [q8] at d7'
 obtain ⟨h0,h1,h2,h3,h4,_⟩:=d7'
 have e3:IntKind.u64.wrap (b0+5)=b0+5:=A3 (by omega) (by omega)
 have hl:q8 9223372036854775808 [b0+5,b1,b2,b3,b4]:=by
  simp only [q8];refine ⟨by omega,by omega,by omega,by omega,by omega,trivial⟩
 obtain ⟨w1,w2,w3⟩:=Nm _ (by simp) hl
 have hw:j9 [b0+5,b1,b2,b3,b4]=j9 [b0,b1,b2,b3,b4]+5:=by simp only [j9];omega
 have hx:=d16 (b0+5) b1 b2 b3 b4
 simp only [List.getD_cons_zero,List.set_cons_zero,e3]
 rw [m6,hx,Option.bind_some,m6]
 generalize Cn [b0+5,b1,b2,b3,b4]=y at *
 obtain ⟨y0,y1,y2,y3,y4,rfl⟩:=Kj w3
 rw [hw] at w1
 simp only [a79] at w2
 obtain ⟨g0,g1,g2,g3,g4⟩:=w2
 have hy4:y4<134217728:=by simp only [j9] at w1;omega
 have em:bits .u64 .and y4 67108863=y4%67108864:=a74 g4 (by omega)
 simp only [List.getD_cons_zero,List.getD_cons_succ,List.set_cons_zero,List.set_cons_succ,em]
 rw [d17 0 0,b40 _ _ (by omega) (by omega),Option.bind_some,b40 _ _ (by omega) (by omega),Option.bind_some,b40 _ _ (by omega) (by omega),Option.bind_some,b40 _ _ (by omega) (by omega),Option.bind_some,b40 _ _ (by omega) (by omega),Option.bind_some,Option.bind_some,c95]
 by_cases hg:y4/67108864=0
 ·rw [hg]
  refine ⟨_,rfl,d7,rfl,?_⟩
  show j9 [b0,b1,b2,b3,b4]=_
  have:j9 [b0,b1,b2,b3,b4]<PI:=by simp only [j9,PI] at w1 ⊢;omega
  rw [Int.emod_eq_of_lt hlo this]
 ·have hb:(!((y4/67108864)==0))=true:=by simpa using hg
  rw [hb]
  refine ⟨_,rfl,?_,rfl,?_⟩
  ·show q8 67108864 [y0,y1,y2,y3,y4%67108864]
   simp only [q8];refine ⟨by omega,by omega,by omega,by omega,by omega,trivial⟩
  ·show j9 [y0,y1,y2,y3,y4%67108864]=_
   have hv:j9 [y0,y1,y2,y3,y4%67108864]=j9 [b0,b1,b2,b3,b4]-PI:=by
    simp only [j9,PI,TI] at w1 hhi ⊢;omega
   rw [hv]
   have hge:PI≤j9 [b0,b1,b2,b3,b4]:=by simp only [j9,PI] at w1 ⊢;omega
   simp only [PI,TI] at hhi hge ⊢;omega
theorem i07 {l:List Int} (h:q8 67108864 l) (hn:l.length=5):l=zl (j8 26 5 (j9 l).toNat):=by
 obtain ⟨m,rfl,h1,h2⟩:=Wq (n:=67108864) h
 rw [Ur,Int.toNat_natCast,←hn,←h1,Ew 26 m (by simpa using h2)]
theorem c55 (X j:Nat) (hj:j<16):∀ (r n t:Nat),t+r=8->r<n->C1 (zl (j8 26 5 X)) (j:Int) n ((X/2^(8*j)%2^t:Nat):Int) (t:Int)=some ((X/2^(8*j)%2^8:Nat):Int)
 |_,0,_,_,h=>absurd h (Nat.not_lt_zero _)
 |0,n+1,t,h1,h2=>by
  have:t=8:=by omega
  subst this
  rw [C1.eq_2,i0 (by decide)]
 |r+1,n+1,t,h1,h2=>by
  have e0:(8:Int)*(j:Int)=((8*j:Nat):Int):=rfl
  have e1:((8*j:Nat):Int)+(t:Int)=((8*j+t:Nat):Int):=rfl
  have e2:Int.tdiv ((8*j+t:Nat):Int) 26=(((8*j+t)/26:Nat):Int):=rfl
  have e3:Int.tmod ((8*j+t:Nat):Int) 26=(((8*j+t)%26:Nat):Int):=rfl
  have m1:min ((8*j+t)%26) (IntKind.bits .u64)=(8*j+t)%26:=by show min _ 64=_;omega
  have m2:min t (IntKind.bits .u64)=t:=by show min _ 64=_;omega
  have hb:(j8 26 5 X).getD ((8*j+t)/26) 0<67108864:=M3 (U2 26 5 X) (by decide) _
  have hb':(j8 26 5 X).getD ((8*j+t)/26) 0/2^((8*j+t)%26)<18446744073709551616:=Nat.lt_trans (Nat.lt_of_le_of_lt (Nat.div_le_self _ _) hb) (by decide)
  have hbit:=Iz 26 (by decide) 5 X (8*j+t) (by omega)
  have hbit2:X/2^(8*j+t)%2=X/2^(8*j)/2^t%2:=by rw [Nat.pow_add,Nat.div_div_eq_div_mul]
  rw [hbit2] at hbit
  have hlt:X/2^(8*j)%2^t<2^t:=Nat.mod_lt _ (Nat.two_pow_pos t)
  have p1:(2:Nat)^t≤2^7:=Nat.pow_le_pow_right (by decide) (by omega)
  have hlt2:(X/2^(8*j)/2^t%2)*2^t≤1*2^7:=Nat.mul_le_mul (by omega) p1
  have hs:X/2^(8*j)%2^t+2^t*(X/2^(8*j)/2^t%2)=X/2^(8*j)%2^(t+1):=by rw [Nat.pow_succ,Nat.mod_mul]
  rw [C1.eq_2,j7 (by simp<;>omega),e0,A7 (n:=8*j) (by omega),e1,A7 (n:=8*j+t) (by omega),e2,A7 (n:=(8*j+t)/26) (by omega),m6,if_pos ⟨by omega,by omega⟩,e3,m6,if_pos (by omega),m6,if_pos (by omega),m6,Int.toNat_natCast,Int.toNat_natCast,Int.toNat_natCast,F7,m1,Ma,f70 hb',hbit,m2,d83,Np,Nat.mod_eq_of_lt (a:=X/2^(8*j)/2^t%2*2^t) (by omega),Ly (by omega) (by omega),Wp hlt,hs,o8 (by omega) (by omega),show (t:Int)+1=((t+1:Nat):Int) from rfl]
  exact c55 X j hj r n (t+1) (by omega) (by omega)
theorem c56 (X:Nat):∀ (r n i:Nat),i+r=16->r<n->y8 (zl (j8 26 5 X)) n (i:Int) (zl (j8 8 16 (X%2^(8*i))))=some (zl (j8 8 16 (X%2^128)))
 |_,0,_,_,h=>absurd h (Nat.not_lt_zero _)
 |0,n+1,i,h1,h2=>by
  have:i=16:=by omega
  subst this
  rw [y8.eq_2,i0 (by decide)]
 |r+1,n+1,i,h1,h2=>by
  obtain ⟨s1,s2⟩:=Fx 8 8 (by decide) (by decide) 16 X (8*i) (by omega) (by omega)
  rw [show 8*i/8=i by omega,show 8*i%8=0 by omega,Nat.pow_zero] at s1 s2
  rw [show (j8 8 16 (X%2^(8*i))).getD i 0=0 by omega,Nat.zero_add,Nat.one_mul] at s2
  have hl:=c55 X i (by omega) 8 f9 0 (by omega) (big _ (by omega))
  rw [Nat.pow_zero,Nat.mod_one,show ((0:Nat):Int)=0 from rfl] at hl
  rw [y8.eq_2,j7 (by simp<;>omega),hl,Option.bind_some,if_pos ⟨by omega,by omega⟩,Int.toNat_natCast,u8n,Nat.mod_eq_of_lt (a:=X/2^(8*i)%2^8) (Nat.mod_lt _ (by decide)),Ja,s2,o8 (by omega) (by omega),show (i:Int)+1=((i+1:Nat):Int) from rfl]
  exact c56 X r n (i+1) (by omega) (by omega)
theorem j53 {l:List Int} (h:q8 67108864 l) (hn:l.length=5):A1 l=some (zl (j8 8 16 ((j9 l).toNat%2^128))):=by
 have hl:=c56 (j9 l).toNat 16 f9 0 (by omega) (big _ (by omega))
 rw [Nat.mul_zero,Nat.pow_zero,Nat.mod_one,Ez,No,show ((0:Nat):Int)=0 from rfl,←i07 h hn] at hl
 unfold A1
 rw [hl];rfl
def d18:Int->List Int->List Int->List Int
 |c,x::xs,y::ys=>IntKind.wrap .u8 (IntKind.wrap .i64 (c+IntKind.wrap .i64 (IntKind.wrap .i64 x+IntKind.wrap .i64 y)))::d18 (Int.fdiv (IntKind.wrap .i64 (c+IntKind.wrap .i64 (IntKind.wrap .i64 x+IntKind.wrap .i64 y))) (2^8)) xs ys
 |_,_,_=>[]
theorem f28 (k0 k1 k2 k3 k4 k5 k6 k7 k8 k9 k10 k11 k12 k13 k14 k15 k16 k17 k18 k19 k20 k21 k22 k23 k24 k25 k26 k27 k28 k29 k30 k31 a0 a1 a2 a3 a4 a5 a6 a7 a8 a9 a10 a11 a12 a13 a14 a15:Int) :
  B3 [k0,k1,k2,k3,k4,k5,k6,k7,k8,k9,k10,k11,k12,k13,k14,k15,k16,k17,k18,k19,k20,k21,k22,k23,k24,k25,k26,k27,k28,k29,k30,k31] f9 0 0 [a0,a1,a2,a3,a4,a5,a6,a7,a8,a9,a10,a11,a12,a13,a14,a15]=some (d18 0 [a0,a1,a2,a3,a4,a5,a6,a7,a8,a9,a10,a11,a12,a13,a14,a15] [k16,k17,k18,k19,k20,k21,k22,k23,k24,k25,k26,k27,k28,k29,k30,k31]):=by kernel_rfl
theorem b41:∀ (a b:List Nat) (c:Nat),a.length=b.length->Jd a->Jd b->c≤1->d18 (c:Int) (zl a) (zl b)=zl (j8 8 a.length (V8 a+V8 b+c))
 |[],[],c,_,_,_,_=>rfl
 |x::xs,y::ys,c,h,hx,hy,hc=>by
  have h1:=hx x (List.mem_cons_self ..)
  have h2:=hy y (List.mem_cons_self ..)
  have e0:∀ x y:Nat,(x:Int)+(y:Int)=((x+y:Nat):Int):=fun _ _=>rfl
  have ih:=b41 xs ys ((c+(x+y))/256) (by simpa using h) (fun z hz=>hx z (List.mem_cons_of_mem _ hz)) (fun z hz=>hy z (List.mem_cons_of_mem _ hz)) (by omega)
  rw [Uq,Uq,d18,A7 (n:=x) (by omega),A7 (n:=y) (by omega),e0,A7 (n:=x+y) (by omega),e0,A7 (n:=c+(x+y)) (by omega),Ma,u8n,f24,ih,List.length_cons,j8,Uq]
  have eV:V8 (x::xs)+V8 (y::ys)+c=(c+(x+y))+256*(V8 xs+V8 ys):=by simp only [V8,Z3,f24];omega
  rw [eV,f24,Nat.add_mul_mod_self_left,Nat.add_mul_div_left _ _ (by decide),Nat.add_comm ((c+(x+y))/256)]
end Go.Eng
set_option linter.unusedVariables false
set_option linter.unusedSimpArgs false
namespace Go.Eng
set_option maxRecDepth 100000
set_option maxHeartbeats 1000000
theorem e55 (k0 k1 k2 k3 k4 k5 k6 k7 k8 k9 k10 k11 k12 k13 k14 k15 k16 k17 k18 k19 k20 k21 k22 k23 k24 k25 k26 k27 k28 k29 k30 k31:Int) :
  I5 [k0,k1,k2,k3,k4,k5,k6,k7,k8,k9,k10,k11,k12,k13,k14,k15,k16,k17,k18,k19,k20,k21,k22,k23,k24,k25,k26,k27,k28,k29,k30,k31]=(G8 [k0,k1,k2,bits .u8 .and k3 15,bits .u8 .and k4 252,k5,k6,bits .u8 .and k7 15,bits .u8 .and k8 252,k9,k10,bits .u8 .and k11 15,bits .u8 .and k12 252,k13,k14,bits .u8 .and k15 15]).bind fun x=>some x:=by kernel_rfl
theorem g02 {a:Nat} (h:a<256):bits .u8 .and (a:Int) 15=((a%16:Nat):Int):=by
 have:=Wr (n:=a) (m:=15) h (by decide)
 rw [show ((15:Nat):Int)=15 from rfl] at this
 rw [this,show (15:Nat)=2^4-1 from rfl,Nat.and_two_pow_sub_one_eq_mod]
theorem i87:∀ a:Fin 256,a.val&&&252=a.val/4*4:=by decide
theorem f29 {a:Nat} (h:a<256):bits .u8 .and (a:Int) 252=((a/4*4:Nat):Int):=by
 have:=Wr (n:=a) (m:=252) h (by decide)
 rw [show ((252:Nat):Int)=252 from rfl] at this
 rw [this,i87 ⟨a,h⟩]
theorem f30 {k:List Nat} (hk:k.length=32) (kb:Jd k):I5 (zl k)=(G8 (zl (clN (k.take 16)))).bind fun x=>some x:=by
 obtain ⟨k0,k1,k2,k3,k4,k5,k6,k7,k8,k9,k10,k11,k12,k13,k14,k15,k16,k17,k18,k19,k20,k21,k22,k23,k24,k25,k26,k27,k28,k29,k30,k31,rfl⟩:=Ix hk
 have h:=e55 k0 k1 k2 k3 k4 k5 k6 k7 k8 k9 k10 k11 k12 k13 k14 k15 k16 k17 k18 k19 k20 k21 k22 k23 k24 k25 k26 k27 k28 k29 k30 k31
 rw [g02 (kb k3 (by simp)),g02 (kb k7 (by simp)),g02 (kb k11 (by simp)),g02 (kb k15 (by simp)),f29 (kb k4 (by simp)),f29 (kb k8 (by simp)),f29 (kb k12 (by simp))] at h
 exact h
theorem e56 (w n X:Nat):j8 w n (X%2^(w*n))=j8 w n X:=by
 have h:=Ew w (j8 w n X) (U2 w n X)
 rw [Af,Ev] at h
 exact h
theorem g69 {k a:List Nat} (hk:k.length=32) (kb:Jd k) (ha:a.length=16) (ab:Jd a):B3 (zl k) f9 0 0 (zl a)=some (zl (j8 8 16 (V8 a+V8 (k.drop 16)))):=by
 have h:=b41 a (k.drop 16) 0 (by rw [List.length_drop];omega) ab (fun x hx=>kb x (List.mem_of_mem_drop hx)) (by decide)
 rw [ha,Nat.add_zero] at h
 rw [←h]
 obtain ⟨k0,k1,k2,k3,k4,k5,k6,k7,k8,k9,k10,k11,k12,k13,k14,k15,k16,k17,k18,k19,k20,k21,k22,k23,k24,k25,k26,k27,k28,k29,k30,k31,rfl⟩:=Ix hk
 obtain ⟨a0,a1,a2,a3,a4,a5,a6,a7,a8,a9,a10,a11,a12,a13,a14,a15,rfl⟩:=f99 ha
 exact f28 k0 k1 k2 k3 k4 k5 k6 k7 k8 k9 k10 k11 k12 k13 k14 k15 k16 k17 k18 k19 k20 k21 k22 k23 k24 k25 k26 k27 k28 k29 k30 k31 a0 a1 a2 a3 a4 a5 a6 a7 a8 a9 a10 a11 a12 a13 a14 a15
theorem g70:q8 134217728 (List.replicate 5 (0:Int)):=⟨by decide,by decide,by decide,by decide,by decide,trivial⟩
theorem v0:j9 (List.replicate 5 (0:Int))%PI=((0:Nat):Int)%PI:=by decide
theorem j54 (A S V:Nat) (h:V=A%2^128%2^(8*16)):j8 8 16 (V+S)=j8 8 16 ((A+S)%2^128):=by
 rw [←e56 8 16 (V+S),h,show (8*16:Nat)=128 from rfl,Nat.mod_mod,Nat.mod_add_mod]
theorem i88 {k m:List Nat} (hk:k.length=32) (kb:Jd k) (hm:Jd m) (hl:m.length≤900000):Za (zl k) (zl m)=some (zl (i03 k m)):=by
 have k16:(k.take 16).length=16:=by rw [List.length_take];omega
 have kd:Jd (k.take 16):=fun x hx=>kb x (List.mem_of_mem_take hx)
 obtain ⟨c1,c2⟩:=g00 k16 kd
 have hr':V8 (clN (k.take 16))<256^16:=Nat.lt_of_lt_of_le (d14 c1) (Nat.pow_le_pow_right (by decide) (by omega))
 have c16:(256:Nat)^16=340282366920938463463374607431768211456:=by decide
 obtain ⟨rl,r1,r2,r3,r4⟩:=g01 c1 (by omega) (by rw [c16] at hr';simp only [C2];omega)
 obtain ⟨h,h1,h2,h3,h4⟩:=c54 r2 r3 r4 m hm hl (m.length+1) f9 0 0 (List.replicate 5 0) (by omega) (big _ (by omega)) (by omega) g70 rfl v0
 obtain ⟨a,a1,a2,a3,a4⟩:=i06 h2 h3
 rw [List.drop_zero] at h4
 have hA:=b38 (V8 (clN (k.take 16))) (m.length+1) 0 m (by decide)
 unfold i03
 generalize Je (V8 (clN (k.take 16))) (m.length+1) 0 m=A at *
 have ha:j9 a=(A:Int):=by
  rw [a4,h4,Int.emod_eq_of_lt (Int.natCast_nonneg _) (by simp only [Br] at hA;simp only [PI];omega)]
 have hlow:=j53 a2 a3
 rw [ha,Int.toNat_natCast] at hlow
 have hs:=g69 hk kb (Af 8 16 (A%2^128)) (U2 8 16 _)
 unfold Za
 rw [f30 hk kb,r1,Option.bind_some,Option.bind_some]
 rw [show ((0:Nat):Int)=0 from rfl] at h1
 rw [h1,Option.bind_some,a1,Option.bind_some,hlow,Option.bind_some,hs]
 rw [j54 A (V8 (k.drop 16)) _ (Ev 8 16 _)]
end Go.Eng
