/-
  Part of a proof: SelOa.
-/
import Derived.Test.YtonkmgaofdhbaaaGreatDoorSelNa
import Derived.KernelRfl
set_option linter.unusedVariables false
set_option linter.unusedSimpArgs false
set_option linter.unusedVariables false
set_option linter.unusedSimpArgs false
namespace Go.Eng
set_option maxRecDepth 100000
set_option maxHeartbeats 1000000
def oW (x w:Int):Int:=bits .u64 .or (IntKind.wrap .u64 (x*2^8)) (IntKind.wrap .u64 w)
def x5 (a b c d e:Int):Int:=oW (oW (oW (oW (oW 0 e) d) c) b) a
def lm (x:Int) (r:Nat):Int:=bits .u64 .and (Int.fdiv x (2^r)) 67108863
theorem i20 (w0 w1 w2 w3 w4 w5 w6 w7 w8 w9 w10 w11 w12 w13 w14 w15 w16 w17 w18 w19 w20 w21 w22 w23 w24 w25 w26 w27 w28 w29 w30 w31:Int) :
  M1 [w0,w1,w2,w3,w4,w5,w6,w7,w8,w9,w10,w11,w12,w13,w14,w15,w16,w17,w18,w19,w20,w21,w22,w23,w24,w25,w26,w27,w28,w29,w30,w31] f9 0 (List.replicate 5 0)=some [lm (x5 w0 w1 w2 w3 w4) 0,lm (x5 w3 w4 w5 w6 w7) 2,lm (x5 w6 w7 w8 w9 w10) 4,lm (x5 w9 w10 w11 w12 w13) 6,lm (x5 w13 w14 w15 w16 w17) 0]:=by kernel_rfl
theorem e67 {x w:Nat} (hx:x<4294967296) (hw:w<256):oW (x:Int) (w:Int)=((x*256+w:Nat):Int):=by
 unfold oW
 rw [d97,Oc,Oc,Nat.mod_eq_of_lt (by omega),Nat.mod_eq_of_lt (by omega),Mk (by omega) (by omega),Nat.or_comm,Xh (by simpa using hw)]
 congr 1;omega
theorem e68 {a b c d e:Nat} (ha:a<256) (hb:b<256) (hc:c<256) (hd:d<256) (he:e<256):x5 a b c d e=((a+256*b+65536*c+16777216*d+4294967296*e:Nat):Int):=by
 unfold x5
 rw [show (0:Int)=((0:Nat):Int) from rfl,e67 (by omega) he,e67 (by omega) hd,e67 (by omega) hc,e67 (by omega) hb,e67 (by omega) ha]
 congr 1;omega
theorem e69 {x:Nat} (r:Nat) (h:x<18446744073709551616):lm (x:Int) r=((x/2^r%67108864:Nat):Int):=by
 unfold lm
 have:x/2^r<18446744073709551616:=Nat.lt_of_le_of_lt (Nat.div_le_self _ _) h
 rw [Mm,a91 (Int.natCast_nonneg _) (Int.ofNat_lt.2 this)];rfl
theorem f44 (m:List Int) (h:m.length≤32):T9 (List.replicate 32 (0:Int)) 0 (m.take 32)=m++List.replicate (32-m.length) 0:=by
 unfold T9
 rw [List.take_of_length_le h,List.take_zero,List.nil_append,Nat.zero_add,List.drop_replicate]
theorem l14 (b:List Nat) (n:Nat):V8 (b++List.replicate n 0)=V8 b:=by rw [Mr,d29];omega
def g82 (w0 w1 w2 w3 w4 w5 w6 w7 w8 w9 w10 w11 w12 w13 w14 w15 w16:Nat):List Nat:=[w0+256*w1+65536*w2+16777216*(w3%4),w3/4+64*w4+16384*w5+4194304*(w6%16),w6/16+16*w7+4096*w8+1048576*(w9%64),w9/64+4*w10+1024*w11+262144*w12,w13+256*w14+65536*w15+16777216*w16]
theorem g83 {w0 w1 w2 w3 w4 w5 w6 w7 w8 w9 w10 w11 w12 w13 w14 w15 w16:Nat} (h0:w0<256) (h1:w1<256) (h2:w2<256) (h3:w3<256) (h4:w4<256) (h5:w5<256) (h6:w6<256) (h7:w7<256) (h8:w8<256) (h9:w9<256) (h10:w10<256) (h11:w11<256) (h12:w12<256) (h13:w13<256) (h14:w14<256) (h15:w15<256) (h16:w16<4):M1 (zl [w0,w1,w2,w3,w4,w5,w6,w7,w8,w9,w10,w11,w12,w13,w14,w15,w16,0,0,0,0,0,0,0,0,0,0,0,0,0,0,0]) f9 0 (List.replicate 5 0)=some (zl (g82 w0 w1 w2 w3 w4 w5 w6 w7 w8 w9 w10 w11 w12 w13 w14 w15 w16)):=by
 have l0:(w0+256*w1+65536*w2+16777216*w3+4294967296*w4)/2^0%67108864=w0+256*w1+65536*w2+16777216*(w3%4):=by omega
 have l1:(w3+256*w4+65536*w5+16777216*w6+4294967296*w7)/2^2%67108864=w3/4+64*w4+16384*w5+4194304*(w6%16):=by omega
 have l2:(w6+256*w7+65536*w8+16777216*w9+4294967296*w10)/2^4%67108864=w6/16+16*w7+4096*w8+1048576*(w9%64):=by omega
 have l3:(w9+256*w10+65536*w11+16777216*w12+4294967296*w13)/2^6%67108864=w9/64+4*w10+1024*w11+262144*w12:=by omega
 have l4:(w13+256*w14+65536*w15+16777216*w16+4294967296*0)/2^0%67108864=w13+256*w14+65536*w15+16777216*w16:=by omega
 have e0:lm (x5 w0 w1 w2 w3 w4) 0=((w0+256*w1+65536*w2+16777216*(w3%4):Nat):Int):=by rw [e68 h0 h1 h2 h3 h4,e69 0 (by omega),l0]
 have e1:lm (x5 w3 w4 w5 w6 w7) 2=((w3/4+64*w4+16384*w5+4194304*(w6%16):Nat):Int):=by rw [e68 h3 h4 h5 h6 h7,e69 2 (by omega),l1]
 have e2:lm (x5 w6 w7 w8 w9 w10) 4=((w6/16+16*w7+4096*w8+1048576*(w9%64):Nat):Int):=by rw [e68 h6 h7 h8 h9 h10,e69 4 (by omega),l2]
 have e3:lm (x5 w9 w10 w11 w12 w13) 6=((w9/64+4*w10+1024*w11+262144*w12:Nat):Int):=by rw [e68 h9 h10 h11 h12 h13,e69 6 (by omega),l3]
 have e4:lm (x5 w13 w14 w15 w16 0) 0=((w13+256*w14+65536*w15+16777216*w16:Nat):Int):=by
  have:=e68 h13 h14 h15 (show w16<256 by omega) (show 0<256 by decide)
  rw [show ((0:Nat):Int)=0 from rfl] at this
  rw [this,e69 0 (by omega),l4]
 have hr:=i20 w0 w1 w2 w3 w4 w5 w6 w7 w8 w9 w10 w11 w12 w13 w14 w15 w16 0 0 0 0 0 0 0 0 0 0 0 0 0 0 0
 rw [e0,e1,e2,e3,e4] at hr
 exact hr
theorem i21 {w0 w1 w2 w3 w4 w5 w6 w7 w8 w9 w10 w11 w12 w13 w14 w15 w16:Nat}:Z2 26 (g82 w0 w1 w2 w3 w4 w5 w6 w7 w8 w9 w10 w11 w12 w13 w14 w15 w16)=V8 [w0,w1,w2,w3,w4,w5,w6,w7,w8,w9,w10,w11,w12,w13,w14,w15,w16,0,0,0,0,0,0,0,0,0,0,0,0,0,0,0]:=by
 simp only [g82,V8,Z2,f43,show (2:Nat)^26=67108864 from rfl]
 omega
theorem j00 {w0 w1 w2 w3 w4 w5 w6 w7 w8 w9 w10 w11 w12 w13 w14 w15 w16:Nat} (h0:w0<256) (h1:w1<256) (h2:w2<256) (h3:w3<256) (h4:w4<256) (h5:w5<256) (h6:w6<256) (h7:w7<256) (h8:w8<256) (h9:w9<256) (h10:w10<256) (h11:w11<256) (h12:w12<256) (h13:w13<256) (h14:w14<256) (h15:w15<256) (h16:w16<4):∀ x∈g82 w0 w1 w2 w3 w4 w5 w6 w7 w8 w9 w10 w11 w12 w13 w14 w15 w16,x<67108864:=by
 intro x hx
 simp only [g82,List.mem_cons,List.not_mem_nil,or_false] at hx
 rcases hx with rfl|rfl|rfl|rfl|rfl<;>omega
theorem l95 (l:List Nat) (i:Nat):256^i*l.getD i 0≤V8 l:=by
 have h:=Mr (l.take (i+1)) (l.drop (i+1))
 rw [List.take_append_drop,Qp] at h
 omega
theorem g30 {b:List Nat} (hb:Jq b) (hl:b.length≤17) (hv:V8 b<C3):∃ l,H3 (zl b)=some l/\p9 67108864 l/\l.length=5/\m4 l=(V8 b:Int):=by
 have hlen:(b++List.replicate (32-b.length) 0).length=32:=by rw [List.length_append,List.length_replicate];omega
 have hz:∀ j,b.length≤j->(b++List.replicate (32-b.length) 0).getD j 0=0:=fun j hj=>by
  simp only [List.getD];rw [List.getElem?_append_right hj,List.getElem?_replicate];split<;>rfl
 have hd:Jq (b++List.replicate (32-b.length) 0):=fun x hx=>by
  rcases List.mem_append.1 hx with hx|hx
  ·exact hb x hx
  ·rw [List.eq_of_mem_replicate hx];decide
 have hov:T9 (List.replicate 32 (0:Int)) 0 (List.take (List.length (List.replicate 32 (0:Int))) (zl b))=zl (b++List.replicate (32-b.length) 0):=by
  rw [List.length_replicate,f44 _ (by rw [A1];omega),Fk,Ob,A1];rfl
 have hV:=l14 b (32-b.length)
 have key:∃ m:List Nat,M1 (zl (b++List.replicate (32-b.length) 0)) f9 0 (List.replicate 5 0)=some (zl m)/\m.length=5/\(∀ x∈m,x<67108864)/\Z2 26 m=V8 b:=by
  rw [←hV] at hv ⊢
  have hg:=l95 (b++List.replicate (32-b.length) 0) 16
  generalize b++List.replicate (32-b.length) 0=w at *
  obtain ⟨w0,w1,w2,w3,w4,w5,w6,w7,w8,w9,w10,w11,w12,w13,w14,w15,w16,w17,w18,w19,w20,w21,w22,w23,w24,w25,w26,w27,w28,w29,w30,w31,rfl⟩:=Jk hlen
  have z17:w17=0:=hz 17 (by omega)
  have z18:w18=0:=hz 18 (by omega)
  have z19:w19=0:=hz 19 (by omega)
  have z20:w20=0:=hz 20 (by omega)
  have z21:w21=0:=hz 21 (by omega)
  have z22:w22=0:=hz 22 (by omega)
  have z23:w23=0:=hz 23 (by omega)
  have z24:w24=0:=hz 24 (by omega)
  have z25:w25=0:=hz 25 (by omega)
  have z26:w26=0:=hz 26 (by omega)
  have z27:w27=0:=hz 27 (by omega)
  have z28:w28=0:=hz 28 (by omega)
  have z29:w29=0:=hz 29 (by omega)
  have z30:w30=0:=hz 30 (by omega)
  have z31:w31=0:=hz 31 (by omega)
  subst z17 z18 z19 z20 z21 z22 z23 z24 z25 z26 z27 z28 z29 z30 z31
  have h0:w0<256:=hd w0 (by simp)
  have h1:w1<256:=hd w1 (by simp)
  have h2:w2<256:=hd w2 (by simp)
  have h3:w3<256:=hd w3 (by simp)
  have h4:w4<256:=hd w4 (by simp)
  have h5:w5<256:=hd w5 (by simp)
  have h6:w6<256:=hd w6 (by simp)
  have h7:w7<256:=hd w7 (by simp)
  have h8:w8<256:=hd w8 (by simp)
  have h9:w9<256:=hd w9 (by simp)
  have h10:w10<256:=hd w10 (by simp)
  have h11:w11<256:=hd w11 (by simp)
  have h12:w12<256:=hd w12 (by simp)
  have h13:w13<256:=hd w13 (by simp)
  have h14:w14<256:=hd w14 (by simp)
  have h15:w15<256:=hd w15 (by simp)
  have h16:w16<4:=by
   have c16:(256:Nat)^16=340282366920938463463374607431768211456:=by decide
   rw [c16,show ([w0,w1,w2,w3,w4,w5,w6,w7,w8,w9,w10,w11,w12,w13,w14,w15,w16,0,0,0,0,0,0,0,0,0,0,0,0,0,0,0]:List Nat).getD 16 0=w16 from rfl] at hg
   have:=Nat.lt_of_le_of_lt hg hv
   clear hg hv
   simp only [C3] at this
   omega
  exact ⟨g82 w0 w1 w2 w3 w4 w5 w6 w7 w8 w9 w10 w11 w12 w13 w14 w15 w16,g83 h0 h1 h2 h3 h4 h5 h6 h7 h8 h9 h10 h11 h12 h13 h14 h15 h16,rfl,j00 h0 h1 h2 h3 h4 h5 h6 h7 h8 h9 h10 h11 h12 h13 h14 h15 h16,i21⟩
 obtain ⟨m,k1,k2,k3,k4⟩:=key
 refine ⟨zl m,?_,a99 k3,by rw [A1,k2],by rw [Vh,k4]⟩
 unfold H3
 rw [m6,m6,hov,k1];rfl
end Go.Eng
set_option linter.unusedVariables false
set_option linter.unusedSimpArgs false
namespace Go.Eng
set_option maxRecDepth 100000
set_option maxHeartbeats 1000000
abbrev TI:Int:=1361129467683753853853498429727072845824
abbrev PI:Int:=1361129467683753853853498429727072845819
def Zd (r:Int×List Int):List Int:=List.set r.2 0 (IntKind.wrap .u64 (List.getD r.2 0 0+IntKind.wrap .u64 (5*r.1)))
def J5 (l:List Int):List Int:=Zd (Bs 0 (Zd (Bs 0 l)))
theorem f45 (a0 a1 a2 a3 a4:Int):z8 [a0,a1,a2,a3,a4]=some (J5 [a0,a1,a2,a3,a4]):=by kernel_rfl
theorem Xs {l:List Int} (h:l.length=5):z8 l=some (J5 l):=by
 obtain ⟨a0,a1,a2,a3,a4,rfl⟩:=Kv h
 exact f45 ..
theorem j01:(67108864:Int)^5=1361129467683753853853498429727072845824:=by decide
theorem c68 {o:Int} {l:List Int} (h:p9 67108864 l) (hn:l.length=5) (h0:0≤o) (h1:o<274877906944) :
  m4 (Zd (o,l))=m4 l+5*o/\p9 (67108864+5*o) (Zd (o,l))/\(Zd (o,l)).length=5:=by
 match l,h,hn with
 |x::xs,⟨⟨a,b⟩,c⟩,hn =>
  have e1:IntKind.u64.wrap (5*o)=5*o:=A4 (by omega) (by omega)
  have e2:IntKind.u64.wrap (x+5*o)=x+5*o:=A4 (by omega) (by omega)
  simp only [Zd,List.getD_cons_zero,e1,e2,List.set_cons_zero,m4,p9,List.length_cons] at hn ⊢
  exact ⟨by omega,⟨⟨by omega,by omega⟩,c.mono (by omega)⟩,by omega⟩
theorem Oi {l:List Int} (h:p9 9223372036854775808 l) (hn:l.length=5) :
  m4 (J5 l)%PI=m4 l%PI/\p9 134217728 (J5 l)/\(J5 l).length=5/\0≤m4 (J5 l)/\m4 (J5 l)<TI/\(m4 l<TI->m4 (J5 l)=m4 l/\p9 67108864 (J5 l)):=by
 obtain ⟨a1,a2,a3,a4,a5⟩:=Il l 0 h (by decide) (by decide)
 rw [hn] at a1 a3
 have a6:=J7 a2
 have a7:=Dy a2
 rw [a3,j01] at a7
 rw [j01] at a1
 unfold J5
 generalize hl1:Bs 0 l=r1 at *
 obtain ⟨o1,l1⟩:=r1
 obtain ⟨b1,b2,b3⟩:=c68 a2 a3 a4 a5
 generalize hb1:Zd (o1,l1)=m1 at *
 simp only at a1 a2 a3 a4 a5 a6 a7 b1 b2
 obtain ⟨c1,c2,c3,c4,c5⟩:=Il m1 0 (b2.mono (by omega)) (by decide) (by decide)
 rw [b3] at c1 c3
 have c6:=J7 c2
 have c7:=Dy c2
 rw [c3,j01] at c7
 rw [j01] at c1
 generalize hl2:Bs 0 m1=r2 at *
 obtain ⟨o2,l2⟩:=r2
 obtain ⟨d1,d2,d3⟩:=c68 c2 c3 c4 c5
 generalize hb2:Zd (o2,l2)=m2 at *
 simp only at c1 c2 c3 c4 c5 c6 c7 d1 d2
 have z:o2≤1:=by omega
 refine ⟨by simp only [PI];omega,d2.mono (by omega),d3,by omega,by simp only [TI];omega,fun hlt => ?_⟩
 simp only [TI] at hlt
 have z1:o1=0:=by omega
 have z2:o2=0:=by omega
 subst z1 z2
 exact ⟨by omega,d2.mono (by omega)⟩
def us (x y:Int):Int:=IntKind.wrap .u64 (x+y)
def upS (x y:Int):Int:=IntKind.wrap .u64 (x*y)
def uq (x y:Int):Int:=IntKind.wrap .u64 (IntKind.wrap .u64 (x*y)*5)
def su5 (a b c d e:Int):Int:=us (us (us (us (us 0 a) b) c) d) e
theorem g84 (a0 a1 a2 a3 a4 b0 b1 b2 b3 b4:Int):V2 [a0,a1,a2,a3,a4] [b0,b1,b2,b3,b4] f9 0 (List.replicate 5 0)=some
  [su5 (upS a0 b0) (uq a1 b4) (uq a2 b3) (uq a3 b2) (uq a4 b1),su5 (upS a0 b1) (upS a1 b0) (uq a2 b4) (uq a3 b3) (uq a4 b2),su5 (upS a0 b2) (upS a1 b1) (upS a2 b0) (uq a3 b4) (uq a4 b3),su5 (upS a0 b3) (upS a1 b2) (upS a2 b1) (upS a3 b0) (uq a4 b4),su5 (upS a0 b4) (upS a1 b3) (upS a2 b2) (upS a3 b1) (upS a4 b0)]:=by kernel_rfl
theorem Hs {x y:Int} (h0:0≤x) (h1:x<268435456) (h2:0≤y) (h3:y<67108864):upS x y=x*y/\0≤x*y/\x*y≤18014398509481984:=by
 have m0:0≤x*y:=Int.mul_nonneg h0 h2
 have m1:x*y≤268435455*67108863:=Int.mul_le_mul (by omega) (by omega) h2 (by decide)
 exact ⟨A4 m0 (by omega),m0,by omega⟩
theorem Sc {x y:Int} (h0:0≤x) (h1:x<268435456) (h2:0≤y) (h3:y<67108864):uq x y=5*(x*y)/\0≤x*y/\x*y≤18014398509481984:=by
 obtain ⟨e,m0,m1⟩:=Hs h0 h1 h2 h3
 unfold uq
 rw [show IntKind.wrap .u64 (x*y)=x*y from e,A4 (by omega) (by omega)]
 exact ⟨by omega,m0,m1⟩
theorem b53 {a b c d e:Int} (ha:0≤a/\a≤90071992547409920) (hb:0≤b/\b≤90071992547409920) (hc:0≤c/\c≤90071992547409920) (hd:0≤d/\d≤90071992547409920) (he:0≤e/\e≤90071992547409920):su5 a b c d e=a+b+c+d+e:=by
 unfold su5 us
 rw [Int.zero_add,A4 (n:=a) (by omega) (by omega),A4 (n:=a+b) (by omega) (by omega),A4 (n:=a+b+c) (by omega) (by omega),A4 (n:=a+b+c+d) (by omega) (by omega),A4 (by omega) (by omega)]
theorem l15 (a0 a1 a2 a3 a4 b0 b1 b2 b3 b4:Int) :
  m4 [a0,a1,a2,a3,a4]*m4 [b0,b1,b2,b3,b4]=m4 [a0*b0+5*(a1*b4)+5*(a2*b3)+5*(a3*b2)+5*(a4*b1),a0*b1+a1*b0+5*(a2*b4)+5*(a3*b3)+5*(a4*b2),a0*b2+a1*b1+a2*b0+5*(a3*b4)+5*(a4*b3),a0*b3+a1*b2+a2*b1+a3*b0+5*(a4*b4),a0*b4+a1*b3+a2*b2+a3*b1+a4*b0]
   + 1361129467683753853853498429727072845819*(a1*b4+a2*b3+a3*b2+a4*b1+67108864*(a2*b4+a3*b3+a4*b2)+4503599627370496*(a3*b4+a4*b3)+302231454903657293676544*(a4*b4)):=by
 simp only [m4]
 grind
theorem g85 {a b:List Int} (ha:p9 268435456 a) (hb:p9 67108864 b) (la:a.length=5) (lb:b.length=5):∃ r,S7 a b=some r/\p9 134217728 r/\r.length=5/\m4 r%PI=m4 a*m4 b%PI:=by
 obtain ⟨a0,a1,a2,a3,a4,rfl⟩:=Kv la
 obtain ⟨b0,b1,b2,b3,b4,rfl⟩:=Kv lb
 simp only [p9] at ha hb
 obtain ⟨⟨x0,y0⟩,⟨x1,y1⟩,⟨x2,y2⟩,⟨x3,y3⟩,⟨x4,y4⟩,_⟩:=ha
 obtain ⟨⟨u0,v0⟩,⟨u1,v1⟩,⟨u2,v2⟩,⟨u3,v3⟩,⟨u4,v4⟩,_⟩:=hb
 have e00:=Hs x0 y0 u0 v0
 have e01:=Hs x0 y0 u1 v1
 have e02:=Hs x0 y0 u2 v2
 have e03:=Hs x0 y0 u3 v3
 have e04:=Hs x0 y0 u4 v4
 have e10:=Hs x1 y1 u0 v0
 have e11:=Hs x1 y1 u1 v1
 have e12:=Hs x1 y1 u2 v2
 have e13:=Hs x1 y1 u3 v3
 have e14:=Sc x1 y1 u4 v4
 have e20:=Hs x2 y2 u0 v0
 have e21:=Hs x2 y2 u1 v1
 have e22:=Hs x2 y2 u2 v2
 have e23:=Sc x2 y2 u3 v3
 have e24:=Sc x2 y2 u4 v4
 have e30:=Hs x3 y3 u0 v0
 have e31:=Hs x3 y3 u1 v1
 have e32:=Sc x3 y3 u2 v2
 have e33:=Sc x3 y3 u3 v3
 have e34:=Sc x3 y3 u4 v4
 have e40:=Hs x4 y4 u0 v0
 have e41:=Sc x4 y4 u1 v1
 have e42:=Sc x4 y4 u2 v2
 have e43:=Sc x4 y4 u3 v3
 have e44:=Sc x4 y4 u4 v4
 have hr:=l15 a0 a1 a2 a3 a4 b0 b1 b2 b3 b4
 have ht:=g84 a0 a1 a2 a3 a4 b0 b1 b2 b3 b4
 rw [e00.1,e01.1,e02.1,e03.1,e04.1,e10.1,e11.1,e12.1,e13.1,e14.1,e20.1,e21.1,e22.1,e23.1,e24.1,e30.1,e31.1,e32.1,e33.1,e34.1,e40.1,e41.1,e42.1,e43.1,e44.1] at ht
 replace e00:=e00.2
 replace e01:=e01.2
 replace e02:=e02.2
 replace e03:=e03.2
 replace e04:=e04.2
 replace e10:=e10.2
 replace e11:=e11.2
 replace e12:=e12.2
 replace e13:=e13.2
 replace e14:=e14.2
 replace e20:=e20.2
 replace e21:=e21.2
 replace e22:=e22.2
 replace e23:=e23.2
 replace e24:=e24.2
 replace e30:=e30.2
 replace e31:=e31.2
 replace e32:=e32.2
 replace e33:=e33.2
 replace e34:=e34.2
 replace e40:=e40.2
 replace e41:=e41.2
 replace e42:=e42.2
 replace e43:=e43.2
 replace e44:=e44.2
 have t0:=b53 (a:=a0*b0) (b:=5*(a1*b4)) (c:=5*(a2*b3)) (d:=5*(a3*b2)) (e:=5*(a4*b1)) (by omega) (by omega) (by omega) (by omega) (by omega)
 have t1:=b53 (a:=a0*b1) (b:=a1*b0) (c:=5*(a2*b4)) (d:=5*(a3*b3)) (e:=5*(a4*b2)) (by omega) (by omega) (by omega) (by omega) (by omega)
 have t2:=b53 (a:=a0*b2) (b:=a1*b1) (c:=a2*b0) (d:=5*(a3*b4)) (e:=5*(a4*b3)) (by omega) (by omega) (by omega) (by omega) (by omega)
 have t3:=b53 (a:=a0*b3) (b:=a1*b2) (c:=a2*b1) (d:=a3*b0) (e:=5*(a4*b4)) (by omega) (by omega) (by omega) (by omega) (by omega)
 have t4:=b53 (a:=a0*b4) (b:=a1*b3) (c:=a2*b2) (d:=a3*b1) (e:=a4*b0) (by omega) (by omega) (by omega) (by omega) (by omega)
 rw [t0,t1,t2,t3,t4] at ht
 clear t0 t1 t2 t3 t4
 have hL:p9 9223372036854775808 [a0*b0+5*(a1*b4)+5*(a2*b3)+5*(a3*b2)+5*(a4*b1),a0*b1+a1*b0+5*(a2*b4)+5*(a3*b3)+5*(a4*b2),a0*b2+a1*b1+a2*b0+5*(a3*b4)+5*(a4*b3),a0*b3+a1*b2+a2*b1+a3*b0+5*(a4*b4),a0*b4+a1*b3+a2*b2+a3*b1+a4*b0]:=by
  simp only [p9]
  refine ⟨?_,?_,?_,?_,?_,trivial⟩
  ·clear hr ht;omega
  ·clear hr ht;omega
  ·clear hr ht;omega
  ·clear hr ht;omega
  ·clear hr ht;omega
 obtain ⟨c1,c2,c3,_⟩:=Oi hL rfl
 refine ⟨_,?_,c2,c3,?_⟩
 ·unfold S7
  rw [ht,Option.bind_some,Xs rfl];rfl
 ·rw [c1,hr,Int.add_mul_emod_self_left]
end Go.Eng
set_option linter.unusedVariables false
set_option linter.unusedSimpArgs false
namespace Go.Eng
set_option maxRecDepth 100000
set_option maxHeartbeats 1000000
theorem f46 (a0 a1 a2 a3 a4 b0 b1 b2 b3 b4:Int):H4 [b0,b1,b2,b3,b4] f9 0 [a0,a1,a2,a3,a4]=some (Qi [a0,a1,a2,a3,a4] [b0,b1,b2,b3,b4]):=by kernel_rfl
theorem c69:∀ (a b:List Int),a.length=b.length->p9 134217728 a->p9 67108864 b ->
  m4 (Qi a b)=m4 a+m4 b/\p9 268435456 (Qi a b)/\(Qi a b).length=a.length
 |[],[],_,_,_=>by simp [Qi,m4,p9]
 |x::xs,y::ys,h,⟨⟨p1,p2⟩,p3⟩,⟨⟨q1,q2⟩,q3⟩=>by
  obtain ⟨i1,i2,i3⟩:=c69 xs ys (by simpa using h) p3 q3
  simp only [Qi,m4,p9,List.length_cons,i1,i3,A4 (n:=x+y) (by omega) (by omega)]
  exact ⟨by omega,⟨⟨by omega,by omega⟩,i2⟩,trivial⟩
theorem g86 {a b:List Int} (la:a.length=5) (lb:b.length=5):H4 b f9 0 a=some (Qi a b):=by
 obtain ⟨a0,a1,a2,a3,a4,rfl⟩:=Kv la
 obtain ⟨b0,b1,b2,b3,b4,rfl⟩:=Kv lb
 exact f46 ..
theorem c70 {rl:List Int} {r:Nat} (hr:p9 67108864 rl) (lr:rl.length=5) (vr:m4 rl=(r:Int)) (m:List Nat) (hm:Jq m) (hl:m.length≤900000):∀ (k n i a:Nat) (h:List Int),m.length≤i+16*k->k<n->i≤m.length+15->p9 134217728 h->h.length=5->m4 h%PI=(a:Int)%PI ->
  ∃ h',C6 rl (zl m) n (i:Int) h=some h'/\p9 134217728 h'/\h'.length=5/\m4 h'%PI=((Jr r k a (m.drop i):Nat):Int)%PI
 |_,0,_,_,_,_,h,_,_,_,_=>absurd h (Nat.not_lt_zero _)
 |k,n+1,i,a,h,h1,h2,h3,h4,h5,h6=>by
  rw [C6.eq_2,A1]
  by_cases hi:i<m.length
  ·cases k with
   |zero=>omega
   |succ k =>
   rw [j7 (by simp<;>omega),if_pos ⟨by omega,by omega⟩,m6]
   obtain ⟨w,hw⟩:∃ w:Nat,(if ((((m.length:Nat):Int)-(i:Int)).toNat:Int)<16 then ((((m.length:Nat):Int)-(i:Int)).toNat:Int) else 16)=(w:Int)/\w=min 16 (m.length-i):=by
    refine ⟨min 16 (m.length-i),?_,rfl⟩
    split<;>omega
   rw [hw.1,q6 (n:=(i:Int)+(w:Int)) (by omega) (by omega),if_pos ⟨by omega,by omega,by omega⟩,if_pos (by omega)]
   have hch:List.take (((i:Int)+(w:Int))-(i:Int)).toNat (List.drop (i:Int).toNat (zl m))=zl ((m.drop i).take 16):=by
    rw [Int.toNat_natCast,←d14,←a08]
    congr 1
    rw [show (((i:Int)+(w:Int))-(i:Int)).toNat=w by omega,hw.2]
    by_cases h16:i+16≤m.length
    ·rw [show min 16 (m.length-i)=16 by omega]
    ·rw [List.take_of_length_le (by rw [List.length_drop];omega),List.take_of_length_le (by rw [List.length_drop];omega)]
   have hcd:Jq ((m.drop i).take 16++[1]):=fun x hx=>by
    rcases List.mem_append.1 hx with hx|hx
    ·exact hm x (List.mem_of_mem_drop (List.mem_of_mem_take hx))
    ·rw [List.mem_singleton.1 hx];decide
   have hcl:((m.drop i).take 16).length≤16:=by rw [List.length_take];omega
   have hcl2:((m.drop i).take 16++[1]).length≤17:=by rw [List.length_append];simp only [List.length_cons,List.length_nil];omega
   have hzz:zl ((m.drop i).take 16)++[1]=zl ((m.drop i).take 16++[1]):=by rw [Fk];rfl
   have hV:V8 ((m.drop i).take 16++[1])<C3:=by
    have hc:Jq ((m.drop i).take 16):=fun x hx=>hm x (List.mem_of_mem_drop (List.mem_of_mem_take hx))
    have hlt:=d30 hc
    have hle:(256:Nat)^((m.drop i).take 16).length≤256^16:=Nat.pow_le_pow_right (by decide) hcl
    have c16:(256:Nat)^16=340282366920938463463374607431768211456:=by decide
    have e1:V8 [1]=1:=rfl
    rw [Mr,e1]
    rw [c16] at hle
    simp only [C3];omega
   rw [hch,Tn (by rw [A1];omega),Option.bind_some,if_pos (by rw [A1];simp only [List.length_cons,List.length_nil];omega),hzz]
   obtain ⟨q,q1,q2,q3,q4⟩:=g30 hcd hcl2 hV
   obtain ⟨s1,s2,s3⟩:=c69 h q (by rw [h5,q3]) h4 q2
   obtain ⟨t,t1,t2,t3,t4⟩:=g85 s2 hr (by rw [s3,h5]) lr
   rw [q1,Option.bind_some,g86 h5 q3,Option.bind_some,t1,Option.bind_some,q6 (by omega) (by omega),show (i:Int)+16=((i+16:Nat):Int) from rfl]
   have hstep:Jr r (k+1) a (m.drop i)=Jr r k (((a+V8 ((m.drop i).take 16++[1]))*r)%Bu) (m.drop (i+16)):=by
    rw [Jr,if_neg (by rw [List.isEmpty_iff];intro e;have:=congrArg List.length e;rw [List.length_drop,List.length_nil] at this;omega),List.drop_drop]
   rw [hstep]
   refine c70 hr lr vr m hm hl k n (i+16) _ t (by omega) (by omega) (by omega) t2 t3 ?_
   rw [t4,s1,q4,vr,Int.mul_emod,Int.add_emod,h6,←Int.add_emod,←Int.mul_emod]
   generalize V8 ((m.drop i).take 16++[1])=z
   rw [Int.natCast_emod,Int.natCast_mul,Int.natCast_add]
   exact (Int.emod_emod _ _).symm
  ·rw [i0 (by simp<;>omega),List.drop_eq_nil_of_le (by omega),c65]
   exact ⟨h,rfl,h4,h5,h6⟩
theorem d32 (a0 a1 a2 a3 a4:Int):C4 f9 0 [a0,a1,a2,a3,a4]=some (Cr [a0,a1,a2,a3,a4]):=by kernel_rfl
theorem b54 (x y:Int) (h:0≤x/\x<18446744073709551616) (h':0≤y/\y<18446744073709551616) (b:Bool):P5 b x y=some (cond b x y):=by
 cases b with
 |true =>
  show some (bits .u64 .or (bits .u64 .and x 18446744073709551615) (bits .u64 .andNot y 18446744073709551615))=some x
  rw [f86 h.1 h.2,a98,c38 h.1 h.2]
 |false =>
  show some (bits .u64 .or (bits .u64 .and x 0) (bits .u64 .andNot y 0))=some y
  rw [a97 h.1 h.2,Ry h'.1 h'.2,c39 h'.1 h'.2]
theorem d33 (x y a0 a1 a2 a3 a4 b0 b1 b2 b3 b4:Int) (x0 x1 x2 x3 x4:Int):A6 [x0,x1,x2,x3,x4] [b0,b1,b2,b3,b4] f9 0 [a0,a1,a2,a3,a4]=(P5 (!((Int.fdiv x4 (2^26))==0)) b0 a0).bind fun c0=>(P5 (!((Int.fdiv x4 (2^26))==0)) b1 a1).bind fun c1=>(P5 (!((Int.fdiv x4 (2^26))==0)) b2 a2).bind fun c2=>(P5 (!((Int.fdiv x4 (2^26))==0)) b3 a3).bind fun c3=>(P5 (!((Int.fdiv x4 (2^26))==0)) b4 a4).bind fun c4=>some [c0,c1,c2,c3,c4]:=by kernel_rfl
theorem i22 {a:List Int} (ha:p9 134217728 a) (la:a.length=5):∃ r,z9 a=some r/\p9 67108864 r/\r.length=5/\m4 r=m4 a%PI:=by
 obtain ⟨c1,c2,c3,c4,c5,_⟩:=Oi (ha.mono (by decide)) la
 obtain ⟨_,_,d3,_,_,d6⟩:=Oi (c2.mono (by decide)) c3
 obtain ⟨d6,d7⟩:=d6 c5
 have hv:m4 a%PI=m4 (J5 (J5 a))%PI:=by rw [d6,c1]
 have hlo:0≤m4 (J5 (J5 a)):=by rw [d6];exact c4
 have hhi:m4 (J5 (J5 a))<TI:=by rw [d6];exact c5
 unfold z9
 rw [Xs la,Option.bind_some,Xs c3,Option.bind_some,hv]
 clear hv d6 c1 c2 c4 c5
 generalize J5 (J5 a)=b at *
 obtain ⟨b0,b1,b2,b3,b4,rfl⟩:=Kv d3
 have d7':=d7
 simp only [p9] at d7'
 obtain ⟨h0,h1,h2,h3,h4,_⟩:=d7'
 have e3:IntKind.u64.wrap (b0+5)=b0+5:=A4 (by omega) (by omega)
 have hl:p9 9223372036854775808 [b0+5,b1,b2,b3,b4]:=by
  simp only [p9];refine ⟨by omega,by omega,by omega,by omega,by omega,trivial⟩
 obtain ⟨w1,w2,w3⟩:=Nz _ (by simp) hl
 have hw:m4 [b0+5,b1,b2,b3,b4]=m4 [b0,b1,b2,b3,b4]+5:=by simp only [m4];omega
 have hx:=d32 (b0+5) b1 b2 b3 b4
 simp only [List.getD_cons_zero,List.set_cons_zero,e3]
 rw [m6,hx,Option.bind_some,m6]
 generalize Cr [b0+5,b1,b2,b3,b4]=y at *
 obtain ⟨y0,y1,y2,y3,y4,rfl⟩:=Kv w3
 rw [hw] at w1
 simp only [a96] at w2
 obtain ⟨g0,g1,g2,g3,g4⟩:=w2
 have hy4:y4<134217728:=by simp only [m4] at w1;omega
 have em:bits .u64 .and y4 67108863=y4%67108864:=a91 g4 (by omega)
 simp only [List.getD_cons_zero,List.getD_cons_succ,List.set_cons_zero,List.set_cons_succ,em]
 rw [d33 0 0,b54 _ _ (by omega) (by omega),Option.bind_some,b54 _ _ (by omega) (by omega),Option.bind_some,b54 _ _ (by omega) (by omega),Option.bind_some,b54 _ _ (by omega) (by omega),Option.bind_some,b54 _ _ (by omega) (by omega),Option.bind_some,Option.bind_some,d12]
 by_cases hg:y4/67108864=0
 ·rw [hg]
  refine ⟨_,rfl,d7,rfl,?_⟩
  show m4 [b0,b1,b2,b3,b4]=_
  have:m4 [b0,b1,b2,b3,b4]<PI:=by simp only [m4,PI] at w1 ⊢;omega
  rw [Int.emod_eq_of_lt hlo this]
 ·have hb:(!((y4/67108864)==0))=true:=by simpa using hg
  rw [hb]
  refine ⟨_,rfl,?_,rfl,?_⟩
  ·show p9 67108864 [y0,y1,y2,y3,y4%67108864]
   simp only [p9];refine ⟨by omega,by omega,by omega,by omega,by omega,trivial⟩
  ·show m4 [y0,y1,y2,y3,y4%67108864]=_
   have hv:m4 [y0,y1,y2,y3,y4%67108864]=m4 [b0,b1,b2,b3,b4]-PI:=by
    simp only [m4,PI,TI] at w1 hhi ⊢;omega
   rw [hv]
   have hge:PI≤m4 [b0,b1,b2,b3,b4]:=by simp only [m4,PI] at w1 ⊢;omega
   simp only [PI,TI] at hhi hge ⊢;omega
theorem i23 {l:List Int} (h:p9 67108864 l) (hn:l.length=5):l=zl (j8 26 5 (m4 l).toNat):=by
 obtain ⟨m,rfl,h1,h2⟩:=Xi (n:=67108864) h
 rw [Vh,Int.toNat_natCast,←hn,←h1,Fj 26 m (by simpa using h2)]
theorem c71 (X j:Nat) (hj:j<16):∀ (r n t:Nat),t+r=8->r<n->C2 (zl (j8 26 5 X)) (j:Int) n ((X/2^(8*j)%2^t:Nat):Int) (t:Int)=some ((X/2^(8*j)%2^8:Nat):Int)
 |_,0,_,_,h=>absurd h (Nat.not_lt_zero _)
 |0,n+1,t,h1,h2=>by
  have:t=8:=by omega
  subst this
  rw [C2.eq_2,i0 (by decide)]
 |r+1,n+1,t,h1,h2=>by
  have e0:(8:Int)*(j:Int)=((8*j:Nat):Int):=rfl
  have e1:((8*j:Nat):Int)+(t:Int)=((8*j+t:Nat):Int):=rfl
  have e2:Int.tdiv ((8*j+t:Nat):Int) 26=(((8*j+t)/26:Nat):Int):=rfl
  have e3:Int.tmod ((8*j+t:Nat):Int) 26=(((8*j+t)%26:Nat):Int):=rfl
  have m1:min ((8*j+t)%26) (IntKind.bits .u64)=(8*j+t)%26:=by show min _ 64=_;omega
  have m2:min t (IntKind.bits .u64)=t:=by show min _ 64=_;omega
  have hb:(j8 26 5 X).getD ((8*j+t)/26) 0<67108864:=M5 (U2 26 5 X) (by decide) _
  have hb':(j8 26 5 X).getD ((8*j+t)/26) 0/2^((8*j+t)%26)<18446744073709551616:=Nat.lt_trans (Nat.lt_of_le_of_lt (Nat.div_le_self _ _) hb) (by decide)
  have hbit:=Jm 26 (by decide) 5 X (8*j+t) (by omega)
  have hbit2:X/2^(8*j+t)%2=X/2^(8*j)/2^t%2:=by rw [Nat.pow_add,Nat.div_div_eq_div_mul]
  rw [hbit2] at hbit
  have hlt:X/2^(8*j)%2^t<2^t:=Nat.mod_lt _ (Nat.two_pow_pos t)
  have p1:(2:Nat)^t≤2^7:=Nat.pow_le_pow_right (by decide) (by omega)
  have hlt2:(X/2^(8*j)/2^t%2)*2^t≤1*2^7:=Nat.mul_le_mul (by omega) p1
  have hs:X/2^(8*j)%2^t+2^t*(X/2^(8*j)/2^t%2)=X/2^(8*j)%2^(t+1):=by rw [Nat.pow_succ,Nat.mod_mul]
  rw [C2.eq_2,j7 (by simp<;>omega),e0,A8 (n:=8*j) (by omega),e1,A8 (n:=8*j+t) (by omega),e2,A8 (n:=(8*j+t)/26) (by omega),m6,if_pos ⟨by omega,by omega⟩,e3,m6,if_pos (by omega),m6,if_pos (by omega),m6,Int.toNat_natCast,Int.toNat_natCast,Int.toNat_natCast,F9,m1,Mm,f88 hb',hbit,m2,d97,Oc,Nat.mod_eq_of_lt (a:=X/2^(8*j)/2^t%2*2^t) (by omega),Mk (by omega) (by omega),Xh hlt,hs,q6 (by omega) (by omega),show (t:Int)+1=((t+1:Nat):Int) from rfl]
  exact c71 X j hj r n (t+1) (by omega) (by omega)
theorem c72 (X:Nat):∀ (r n i:Nat),i+r=16->r<n->y8 (zl (j8 26 5 X)) n (i:Int) (zl (j8 8 16 (X%2^(8*i))))=some (zl (j8 8 16 (X%2^128)))
 |_,0,_,_,h=>absurd h (Nat.not_lt_zero _)
 |0,n+1,i,h1,h2=>by
  have:i=16:=by omega
  subst this
  rw [y8.eq_2,i0 (by decide)]
 |r+1,n+1,i,h1,h2=>by
  obtain ⟨s1,s2⟩:=Gl 8 8 (by decide) (by decide) 16 X (8*i) (by omega) (by omega)
  rw [show 8*i/8=i by omega,show 8*i%8=0 by omega,Nat.pow_zero] at s1 s2
  rw [show (j8 8 16 (X%2^(8*i))).getD i 0=0 by omega,Nat.zero_add,Nat.one_mul] at s2
  have hl:=c71 X i (by omega) 8 f9 0 (by omega) (big _ (by omega))
  rw [Nat.pow_zero,Nat.mod_one,show ((0:Nat):Int)=0 from rfl] at hl
  rw [y8.eq_2,j7 (by simp<;>omega),hl,Option.bind_some,if_pos ⟨by omega,by omega⟩,Int.toNat_natCast,u8n,Nat.mod_eq_of_lt (a:=X/2^(8*i)%2^8) (Nat.mod_lt _ (by decide)),Jn,s2,q6 (by omega) (by omega),show (i:Int)+1=((i+1:Nat):Int) from rfl]
  exact c72 X r n (i+1) (by omega) (by omega)
theorem j66 {l:List Int} (h:p9 67108864 l) (hn:l.length=5):A2 l=some (zl (j8 8 16 ((m4 l).toNat%2^128))):=by
 have hl:=c72 (m4 l).toNat 16 f9 0 (by omega) (big _ (by omega))
 rw [Nat.mul_zero,Nat.pow_zero,Nat.mod_one,Fl,Ob,show ((0:Nat):Int)=0 from rfl,←i23 h hn] at hl
 unfold A2
 rw [hl];rfl
def d34:Int->List Int->List Int->List Int
 |c,x::xs,y::ys=>IntKind.wrap .u8 (IntKind.wrap .i64 (c+IntKind.wrap .i64 (IntKind.wrap .i64 x+IntKind.wrap .i64 y)))::d34 (Int.fdiv (IntKind.wrap .i64 (c+IntKind.wrap .i64 (IntKind.wrap .i64 x+IntKind.wrap .i64 y))) (2^8)) xs ys
 |_,_,_=>[]
theorem f47 (k0 k1 k2 k3 k4 k5 k6 k7 k8 k9 k10 k11 k12 k13 k14 k15 k16 k17 k18 k19 k20 k21 k22 k23 k24 k25 k26 k27 k28 k29 k30 k31 a0 a1 a2 a3 a4 a5 a6 a7 a8 a9 a10 a11 a12 a13 a14 a15:Int) :
  B4 [k0,k1,k2,k3,k4,k5,k6,k7,k8,k9,k10,k11,k12,k13,k14,k15,k16,k17,k18,k19,k20,k21,k22,k23,k24,k25,k26,k27,k28,k29,k30,k31] f9 0 0 [a0,a1,a2,a3,a4,a5,a6,a7,a8,a9,a10,a11,a12,a13,a14,a15]=some (d34 0 [a0,a1,a2,a3,a4,a5,a6,a7,a8,a9,a10,a11,a12,a13,a14,a15] [k16,k17,k18,k19,k20,k21,k22,k23,k24,k25,k26,k27,k28,k29,k30,k31]):=by kernel_rfl
theorem b55:∀ (a b:List Nat) (c:Nat),a.length=b.length->Jq a->Jq b->c≤1->d34 (c:Int) (zl a) (zl b)=zl (j8 8 a.length (V8 a+V8 b+c))
 |[],[],c,_,_,_,_=>rfl
 |x::xs,y::ys,c,h,hx,hy,hc=>by
  have h1:=hx x (List.mem_cons_self ..)
  have h2:=hy y (List.mem_cons_self ..)
  have e0:∀ x y:Nat,(x:Int)+(y:Int)=((x+y:Nat):Int):=fun _ _=>rfl
  have ih:=b55 xs ys ((c+(x+y))/256) (by simpa using h) (fun z hz=>hx z (List.mem_cons_of_mem _ hz)) (fun z hz=>hy z (List.mem_cons_of_mem _ hz)) (by omega)
  rw [Vg,Vg,d34,A8 (n:=x) (by omega),A8 (n:=y) (by omega),e0,A8 (n:=x+y) (by omega),e0,A8 (n:=c+(x+y)) (by omega),Mm,u8n,f43,ih,List.length_cons,j8,Vg]
  have eV:V8 (x::xs)+V8 (y::ys)+c=(c+(x+y))+256*(V8 xs+V8 ys):=by simp only [V8,Z2,f43];omega
  rw [eV,f43,Nat.add_mul_mod_self_left,Nat.add_mul_div_left _ _ (by decide),Nat.add_comm ((c+(x+y))/256)]
end Go.Eng
set_option linter.unusedVariables false
set_option linter.unusedSimpArgs false
namespace Go.Eng
set_option maxRecDepth 100000
set_option maxHeartbeats 1000000
theorem e70 (k0 k1 k2 k3 k4 k5 k6 k7 k8 k9 k10 k11 k12 k13 k14 k15 k16 k17 k18 k19 k20 k21 k22 k23 k24 k25 k26 k27 k28 k29 k30 k31:Int) :
  I8 [k0,k1,k2,k3,k4,k5,k6,k7,k8,k9,k10,k11,k12,k13,k14,k15,k16,k17,k18,k19,k20,k21,k22,k23,k24,k25,k26,k27,k28,k29,k30,k31]=(H3 [k0,k1,k2,bits .u8 .and k3 15,bits .u8 .and k4 252,k5,k6,bits .u8 .and k7 15,bits .u8 .and k8 252,k9,k10,bits .u8 .and k11 15,bits .u8 .and k12 252,k13,k14,bits .u8 .and k15 15]).bind fun x=>some x:=by kernel_rfl
theorem g32 {a:Nat} (h:a<256):bits .u8 .and (a:Int) 15=((a%16:Nat):Int):=by
 have:=Xj (n:=a) (m:=15) h (by decide)
 rw [show ((15:Nat):Int)=15 from rfl] at this
 rw [this,show (15:Nat)=2^4-1 from rfl,Nat.and_two_pow_sub_one_eq_mod]
theorem j02:∀ a:Fin 256,a.val&&&252=a.val/4*4:=by decide
theorem f48 {a:Nat} (h:a<256):bits .u8 .and (a:Int) 252=((a/4*4:Nat):Int):=by
 have:=Xj (n:=a) (m:=252) h (by decide)
 rw [show ((252:Nat):Int)=252 from rfl] at this
 rw [this,j02 ⟨a,h⟩]
theorem f49 {k:List Nat} (hk:k.length=32) (kb:Jq k):I8 (zl k)=(H3 (zl (clN (k.take 16)))).bind fun x=>some x:=by
 obtain ⟨k0,k1,k2,k3,k4,k5,k6,k7,k8,k9,k10,k11,k12,k13,k14,k15,k16,k17,k18,k19,k20,k21,k22,k23,k24,k25,k26,k27,k28,k29,k30,k31,rfl⟩:=Jk hk
 have h:=e70 k0 k1 k2 k3 k4 k5 k6 k7 k8 k9 k10 k11 k12 k13 k14 k15 k16 k17 k18 k19 k20 k21 k22 k23 k24 k25 k26 k27 k28 k29 k30 k31
 rw [g32 (kb k3 (by simp)),g32 (kb k7 (by simp)),g32 (kb k11 (by simp)),g32 (kb k15 (by simp)),f48 (kb k4 (by simp)),f48 (kb k8 (by simp)),f48 (kb k12 (by simp))] at h
 exact h
theorem e71 (w n X:Nat):j8 w n (X%2^(w*n))=j8 w n X:=by
 have h:=Fj w (j8 w n X) (U2 w n X)
 rw [Ae,Fi] at h
 exact h
theorem g87 {k a:List Nat} (hk:k.length=32) (kb:Jq k) (ha:a.length=16) (ab:Jq a):B4 (zl k) f9 0 0 (zl a)=some (zl (j8 8 16 (V8 a+V8 (k.drop 16)))):=by
 have h:=b55 a (k.drop 16) 0 (by rw [List.length_drop];omega) ab (fun x hx=>kb x (List.mem_of_mem_drop hx)) (by decide)
 rw [ha,Nat.add_zero] at h
 rw [←h]
 obtain ⟨k0,k1,k2,k3,k4,k5,k6,k7,k8,k9,k10,k11,k12,k13,k14,k15,k16,k17,k18,k19,k20,k21,k22,k23,k24,k25,k26,k27,k28,k29,k30,k31,rfl⟩:=Jk hk
 obtain ⟨a0,a1,a2,a3,a4,a5,a6,a7,a8,a9,a10,a11,a12,a13,a14,a15,rfl⟩:=g28 ha
 exact f47 k0 k1 k2 k3 k4 k5 k6 k7 k8 k9 k10 k11 k12 k13 k14 k15 k16 k17 k18 k19 k20 k21 k22 k23 k24 k25 k26 k27 k28 k29 k30 k31 a0 a1 a2 a3 a4 a5 a6 a7 a8 a9 a10 a11 a12 a13 a14 a15
theorem g88:p9 134217728 (List.replicate 5 (0:Int)):=⟨by decide,by decide,by decide,by decide,by decide,trivial⟩
theorem v0:m4 (List.replicate 5 (0:Int))%PI=((0:Nat):Int)%PI:=by decide
theorem j67 (A S V:Nat) (h:V=A%2^128%2^(8*16)):j8 8 16 (V+S)=j8 8 16 ((A+S)%2^128):=by
 rw [←e71 8 16 (V+S),h,show (8*16:Nat)=128 from rfl,Nat.mod_mod,Nat.mod_add_mod]
theorem j03 {k m:List Nat} (hk:k.length=32) (kb:Jq k) (hm:Jq m) (hl:m.length≤900000):Zs (zl k) (zl m)=some (zl (i19 k m)):=by
 have k16:(k.take 16).length=16:=by rw [List.length_take];omega
 have kd:Jq (k.take 16):=fun x hx=>kb x (List.mem_of_mem_take hx)
 obtain ⟨c1,c2⟩:=g29 k16 kd
 have hr':V8 (clN (k.take 16))<256^16:=Nat.lt_of_lt_of_le (d30 c1) (Nat.pow_le_pow_right (by decide) (by omega))
 have c16:(256:Nat)^16=340282366920938463463374607431768211456:=by decide
 obtain ⟨rl,r1,r2,r3,r4⟩:=g30 c1 (by omega) (by rw [c16] at hr';simp only [C3];omega)
 obtain ⟨h,h1,h2,h3,h4⟩:=c70 r2 r3 r4 m hm hl (m.length+1) f9 0 0 (List.replicate 5 0) (by omega) (big _ (by omega)) (by omega) g88 rfl v0
 obtain ⟨a,a1,a2,a3,a4⟩:=i22 h2 h3
 rw [List.drop_zero] at h4
 have hA:=b52 (V8 (clN (k.take 16))) (m.length+1) 0 m (by decide)
 unfold i19
 generalize Jr (V8 (clN (k.take 16))) (m.length+1) 0 m=A at *
 have ha:m4 a=(A:Int):=by
  rw [a4,h4,Int.emod_eq_of_lt (Int.natCast_nonneg _) (by simp only [Bu] at hA;simp only [PI];omega)]
 have hlow:=j66 a2 a3
 rw [ha,Int.toNat_natCast] at hlow
 have hs:=g87 hk kb (Ae 8 16 (A%2^128)) (U2 8 16 _)
 unfold Zs
 rw [f49 hk kb,r1,Option.bind_some,Option.bind_some]
 rw [show ((0:Nat):Int)=0 from rfl] at h1
 rw [h1,Option.bind_some,a1,Option.bind_some,hlow,Option.bind_some,hs]
 rw [j67 A (V8 (k.drop 16)) _ (Fi 8 16 _)]
end Go.Eng
