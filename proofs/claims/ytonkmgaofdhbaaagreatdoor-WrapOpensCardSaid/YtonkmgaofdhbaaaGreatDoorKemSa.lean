/-
  Part of a proof: KemSa.
-/
import Derived.Test.YtonkmgaofdhbaaaGreatDoorKemRa
set_option linter.unusedVariables false
set_option linter.unusedSimpArgs false
namespace Go.Eng
set_option maxRecDepth 100000
set_option maxHeartbeats 1000000
def rr (x:Int) (n:Nat):Int:=bits .u32 .or (Int.fdiv x (2^n)) (IntKind.wrap .u32 (x*2^(32-n)))
theorem i67 (x:Int):v6 x 7=some (rr x 7):=rfl
theorem h71 (x:Int):v6 x 18=some (rr x 18):=rfl
theorem h72 (x:Int):v6 x 17=some (rr x 17):=rfl
theorem h73 (x:Int):v6 x 19=some (rr x 19):=rfl
theorem i68 (x:Int):v6 x 6=some (rr x 6):=rfl
theorem h74 (x:Int):v6 x 11=some (rr x 11):=rfl
theorem h75 (x:Int):v6 x 25=some (rr x 25):=rfl
theorem i69 (x:Int):v6 x 2=some (rr x 2):=rfl
theorem h76 (x:Int):v6 x 13=some (rr x 13):=rfl
theorem h77 (x:Int):v6 x 22=some (rr x 22):=rfl
theorem j40 (x:Int):A9 x 7=some (rr x 7):=rfl
theorem i70 (x:Int):A9 x 18=some (rr x 18):=rfl
theorem i71 (x:Int):A9 x 17=some (rr x 17):=rfl
theorem i72 (x:Int):A9 x 19=some (rr x 19):=rfl
theorem j41 (x:Int):A9 x 6=some (rr x 6):=rfl
theorem i73 (x:Int):A9 x 11=some (rr x 11):=rfl
theorem i74 (x:Int):A9 x 25=some (rr x 25):=rfl
theorem j42 (x:Int):A9 x 2=some (rr x 2):=rfl
theorem i75 (x:Int):A9 x 13=some (rr x 13):=rfl
theorem i76 (x:Int):A9 x 22=some (rr x 22):=rfl
abbrev Oi (a b:Int):Int:=bits .u32 .xor a b
abbrev d96 (a b:Int):Int:=bits .u32 .and a b
def h78 (b:List Int) (t:Nat):Int:=b.getD (4*t) 0*16777216+b.getD (4*t+1) 0*65536+b.getD (4*t+2) 0*256+b.getD (4*t+3) 0
def h79 (W:List Int) (t:Nat):Int :=
 (W.getD (t-16) 0+Oi (Oi (rr (W.getD (t-15) 0) 7) (rr (W.getD (t-15) 0) 18)) (Int.fdiv (W.getD (t-15) 0) (2^3))+W.getD (t-7) 0 +
  Oi (Oi (rr (W.getD (t-2) 0) 17) (rr (W.getD (t-2) 0) 19)) (Int.fdiv (W.getD (t-2) 0) (2^10)))%4294967296
def d02:Nat->List Int->List Int
 |0,W=>W
 |n+1,W=>d02 n (W++[h79 W (63-n)])
def Px (b:List Int):Nat->List Int->List Int
 |0,W=>W
 |n+1,W=>Px b n (W++[h78 b (15-n)])
def Kz (b:List Int):List Int:=d02 48 (Px b 16 [])
theorem Sv (b:List Int):∀ n W,(Px b n W).length=W.length+n
 |0,_=>rfl
 |n+1,W=>by rw [Px,Sv b n];simp;omega
theorem d97:∀ n W,(d02 n W).length=W.length+n
 |0,_=>rfl
 |n+1,W=>by rw [d02,d97 n];simp;omega
theorem f14 (b:List Int):(Kz b).length=64:=by rw [Kz,d97,Sv];rfl
structure S8 where
 a:Int
 b:Int
 c:Int
 d:Int
 e:Int
 f:Int
 g:Int
 h:Int
def S8.l (s:S8):List Int:=[s.a,s.b,s.c,s.d,s.e,s.f,s.g,s.h]
def t1P (k w:Int) (s:S8):Int :=
 IntKind.wrap .u32 (IntKind.wrap .u32 (IntKind.wrap .u32 (IntKind.wrap .u32 (s.h+Oi (Oi (rr s.e 6) (rr s.e 11)) (rr s.e 25))+Oi (d96 s.e s.f) (d96 (Oi (IntKind.max .u32) s.e) s.g))+k)+w)
def t2P (s:S8):Int :=
 IntKind.wrap .u32 (Oi (Oi (rr s.a 2) (rr s.a 13)) (rr s.a 22)+Oi (Oi (d96 s.a s.b) (d96 s.a s.c)) (d96 s.b s.c))
def f15 (k w:Int) (s:S8):S8:=⟨IntKind.wrap .u32 (t1P k w s+t2P s),s.a,s.b,s.c,IntKind.wrap .u32 (s.d+t1P k w s),s.e,s.f,s.g⟩
def Cc (W:List Int):Nat->S8->S8
 |0,s=>s
 |n+1,s=>Cc W n (f15 (y5.getD (63-n) 0) (W.getD (63-n) 0) s)
def j43 (s v:S8):S8:=⟨IntKind.wrap .u32 (s.a+v.a),IntKind.wrap .u32 (s.b+v.b),IntKind.wrap .u32 (s.c+v.c),IntKind.wrap .u32 (s.d+v.d),IntKind.wrap .u32 (s.e+v.e),IntKind.wrap .u32 (s.f+v.f),IntKind.wrap .u32 (s.g+v.g),IntKind.wrap .u32 (s.h+v.h)⟩
def h80 (s:S8) (b:List Int):S8:=j43 s (Cc (Kz b) 64 s)
theorem j44 {a b:Nat} (r:Nat) (h:a<2^r) (hr:r≤32) (hb:b*2^r<4294967296):bits .u32 .or (((b*2^r:Nat)):Int) (a:Int)=((b*2^r+a:Nat):Int):=by
 have ha:a<4294967296:=Nat.lt_of_lt_of_le h (Nat.pow_le_pow_right (by decide) hr)
 show IntKind.u32.wrap (((BitVec.ofInt 32 ((b*2^r:Nat):Int)|||BitVec.ofInt 32 (a:Int):BitVec 32).toNat:Nat):Int)=_
 rw [BitVec.ofInt_natCast,BitVec.ofInt_natCast,BitVec.toNat_or,BitVec.toNat_ofNat,BitVec.toNat_ofNat]
 simp only [Nat.reducePow]
 rw [Nat.mod_eq_of_lt ha,Nat.mod_eq_of_lt hb,Nat.or_comm,Wp h,Nat.mul_comm,Nat.add_comm,a83,Nat.mod_eq_of_lt]
 have:=Nat.or_lt_two_pow (n:=32) ha hb
 rw [Wp h,Nat.mul_comm] at this
 omega
theorem i77 {a b c d:Int} (ha:0≤a/\a<256) (hb:0≤b/\b<256) (hc:0≤c/\c<256) (hd:0≤d/\d<256) :
  bits .u32 .or (bits .u32 .or (bits .u32 .or (IntKind.wrap .u32 (IntKind.wrap .u32 a*2^24)) (IntKind.wrap .u32 (IntKind.wrap .u32 b*2^16))) (IntKind.wrap .u32 (IntKind.wrap .u32 c*2^8))) (IntKind.wrap .u32 d)=a*16777216+b*65536+c*256+d:=by
 obtain ⟨a,rfl⟩:=Int.eq_ofNat_of_zero_le ha.1
 obtain ⟨b,rfl⟩:=Int.eq_ofNat_of_zero_le hb.1
 obtain ⟨c,rfl⟩:=Int.eq_ofNat_of_zero_le hc.1
 obtain ⟨d,rfl⟩:=Int.eq_ofNat_of_zero_le hd.1
 have ha:=Int.ofNat_lt.1 ha.2
 have hb:=Int.ofNat_lt.1 hb.2
 have hc:=Int.ofNat_lt.1 hc.2
 have hd:=Int.ofNat_lt.1 hd.2
 have w1:IntKind.wrap .u32 (IntKind.wrap .u32 (a:Int)*2^24)=((a*2^24:Nat):Int):=by rw [a83,Nat.mod_eq_of_lt (by omega),d83,a83,Nat.mod_eq_of_lt (by omega)]
 have w2:IntKind.wrap .u32 (IntKind.wrap .u32 (b:Int)*2^16)=((b*2^16:Nat):Int):=by rw [a83,Nat.mod_eq_of_lt (by omega),d83,a83,Nat.mod_eq_of_lt (by omega)]
 have w3:IntKind.wrap .u32 (IntKind.wrap .u32 (c:Int)*2^8)=((c*2^8:Nat):Int):=by rw [a83,Nat.mod_eq_of_lt (by omega),d83,a83,Nat.mod_eq_of_lt (by omega)]
 have w4:IntKind.wrap .u32 (d:Int)=((d:Nat):Int):=by rw [a83,Nat.mod_eq_of_lt (by omega)]
 rw [w1,w2,w3,w4]
 rw [j44 24 (by omega) (by decide) (by omega)]
 rw [show a*2^24+b*2^16=(a*256+b)*2^16 by omega]
 rw [j44 16 (by omega) (by decide) (by omega)]
 rw [show (a*256+b)*2^16+c*2^8=(a*65536+b*256+c)*2^8 by omega]
 rw [j44 8 (by omega) (by decide) (by omega)]
 omega
theorem d03 {W:List Int} {n:Nat} (x:Int):(W++List.replicate (n+1) 0).set W.length x=(W++[x])++List.replicate n 0:=by
 rw [List.set_append_right _ _ (Nat.le_refl _),Nat.sub_self,List.replicate_succ,List.set_cons_zero,List.append_assoc];rfl
theorem Du {W Z:List Int} {i:Nat} (h:i<W.length):(W++Z).getD i 0=W.getD i 0:=by
 simp [List.getD,List.getElem?_append_left h]
theorem d98 {b:List Int} (hb:q8 256 b) (hn:b.length=64):∀ (n f:Nat) (W:List Int),n≤16->W.length=16-n->n<f ->
  I1 b f ((16-n:Nat):Int) (W++List.replicate (48+n) 0)=some (Px b n W++List.replicate 48 0)
 |_,0,_,_,_,h=>by omega
 |0,f+1,W,_,_,_=>by rw [I1.eq_2,i0 (by decide)];rfl
 |n+1,f+1,W,h,h',h''=>by
  rw [I1.eq_2,j7 (by simp;omega)]
  have e0:4*((16-(n+1):Nat):Int)=((4*(15-n):Nat):Int):=by omega
  have e1:((4*(15-n):Nat):Int)+1=((4*(15-n)+1:Nat):Int):=rfl
  have e2:((4*(15-n):Nat):Int)+2=((4*(15-n)+2:Nat):Int):=rfl
  have e3:((4*(15-n):Nat):Int)+3=((4*(15-n)+3:Nat):Int):=rfl
  simp only [m6,e0,A7 (n:=4*(15-n)) (by omega),e1,e2,e3,A7 (n:=4*(15-n)+1) (by omega),A7 (n:=4*(15-n)+2) (by omega),A7 (n:=4*(15-n)+3) (by omega),Int.toNat_natCast,hn]
  rw [if_pos (by omega),if_pos (by omega),if_pos (by omega),if_pos (by omega),if_pos (by omega)]
  rw [i77 (Y6 (by decide) _ hb) (Y6 (by decide) _ hb) (Y6 (by decide) _ hb) (Y6 (by decide) _ hb)]
  rw [show 16-(n+1)=W.length from h'.symm,show 48+(n+1)=(48+n)+1 from rfl,d03,show ((W.length:Nat):Int)+1=((16-n:Nat):Int) by omega,A7 (by omega)]
  have ih:=d98 hb hn n f (W++[h78 b (15-n)]) (by omega) (by simp;omega) (by omega)
  exact ih
theorem k95 (a b c d:Int):IntKind.wrap .u32 (IntKind.wrap .u32 (IntKind.wrap .u32 (a+b)+c)+d)=(a+b+c+d)%4294967296:=by
 rw [So,So,So];omega
theorem d99:∀ (n f:Nat) (W:List Int),n≤48->W.length=64-n->n<f ->
  I2 f ((64-n:Nat):Int) (W++List.replicate n 0)=some (d02 n W)
 |_,0,_,_,_,h=>by omega
 |0,f+1,W,_,_,_=>by rw [I2.eq_2,i0 (by decide)];simp [d02]
 |n+1,f+1,W,h,h',h''=>by
  rw [I2.eq_2,j7 (by simp;omega)]
  have e0:((64-(n+1):Nat):Int)-15=((63-n-15:Nat):Int):=by omega
  have e1:((64-(n+1):Nat):Int)-2=((63-n-2:Nat):Int):=by omega
  have e2:((64-(n+1):Nat):Int)-16=((63-n-16:Nat):Int):=by omega
  have e3:((64-(n+1):Nat):Int)-7=((63-n-7:Nat):Int):=by omega
  simp only [m6,e0,e1,e2,e3,A7 (n:=63-n-15) (by omega),A7 (n:=63-n-2) (by omega),A7 (n:=63-n-16) (by omega),A7 (n:=63-n-7) (by omega),Int.toNat_natCast,
   i67,h71,h72,h73,Option.bind_some,Du (W:=W) (i:=63-n-15) (by omega),Du (W:=W) (i:=63-n-2) (by omega),Du (W:=W) (i:=63-n-16) (by omega),Du (W:=W) (i:=63-n-7) (by omega)]
  rw [if_pos (by omega),if_pos (by omega),if_pos (by omega),if_pos (by omega),if_pos (by omega),k95]
  rw [show 64-(n+1)=W.length from h'.symm,d03,show ((W.length:Nat):Int)+1=((64-n:Nat):Int) by omega,A7 (by omega)]
  exact d99 n f (W++[h79 W (63-n)]) (by omega) (by simp;omega) (by omega)
theorem b72 {b:List Int} (hb:q8 256 b) (hn:b.length=64):Dz b=some (Kz b):=by
 unfold Dz
 have h1:=d98 hb hn 16 f9 [] (by decide) rfl (by unfold f9;omega)
 rw [List.nil_append] at h1
 rw [show (0:Int)=((16-16:Nat):Int) from rfl]
 have h1:I1 b f9 ((16-16:Nat):Int) (List.replicate 64 ((16-16:Nat):Int))=_:=h1
 rw [h1,Option.bind_some]
 have h2:=d99 48 f9 (Px b 16 []) (by decide) (by rw [Sv];rfl) (by unfold f9;omega)
 have h2:I2 f9 16 (Px b 16 []++List.replicate 48 0)=_:=h2
 rw [h2];rfl
theorem c36 (W:List Int):∀ (n f:Nat) (s:S8),n≤64->n<f->B6 W f ((64-n:Nat):Int) s.l=some (Cc W n s).l
 |_,0,_,_,h=>by omega
 |0,f+1,s,_,_=>by rw [B6.eq_2,i0 (by decide)];rfl
 |n+1,f+1,s,h,h'=>by
  rw [B6.eq_2,j7 (by simp;omega),if_pos (by omega)]
  have e0:((64-(n+1):Nat):Int)=((63-n:Nat):Int):=by omega
  rw [e0]
  obtain ⟨a,b,c,d,e,f',g,h⟩:=s
  simp only [S8.l,m6,Int.toNat_natCast,List.getD_cons_zero,List.getD_cons_succ,i68,h74,h75,i69,h76,h77,Option.bind_some]
  rw [if_pos (by omega)]
  rw [show ((63-n:Nat):Int)+1=((64-n:Nat):Int) by omega,A7 (by omega)]
  exact c36 W n f (f15 (y5.getD (63-n) 0) (W.getD (63-n) 0) ⟨a,b,c,d,e,f',g,h⟩) (by omega) (by omega)
theorem i78 (s v:S8):M0 v.l f9 0 s.l=some (j43 s v).l:=by
 obtain ⟨a0,a1,a2,a3,a4,a5,a6,a7⟩:=s
 obtain ⟨b0,b1,b2,b3,b4,b5,b6,b7⟩:=v
 kernel_rfl
theorem g51 (s:S8) (off n:Nat) (c:Int) {rows:List Int} (hr:q8 256 ((rows.drop off).take 64)) (hl:((rows.drop off).take 64).length=64) :
  F6 off 64 s.l off n c rows=some (h80 s ((rows.drop off).take 64)).l:=by
 unfold F6
 rw [b72 hr hl,Option.bind_some]
 have h:=c36 (Kz ((rows.drop off).take 64)) 64 f9 s (by decide) (by unfold f9;omega)
 have h:B6 (Kz ((rows.drop off).take 64)) f9 0 s.l=_:=h
 rw [h,Option.bind_some,i78];rfl
end Go.Eng
namespace Go.Eng
set_option maxRecDepth 100000
set_option maxHeartbeats 1000000
def Fy:Nat->S8->List Int->S8
 |0,s,_=>s
 |n+1,s,l=>Fy n (h80 s (l.take 64)) (l.drop 64)
theorem e05:∀ (m n:Nat) (s:S8) (l:List Int),Fy (m+n) s l=Fy n (Fy m s l) (l.drop (64*m))
 |0,n,s,l=>by simp [Fy]
 |m+1,n,s,l=>by
  rw [show m+1+n=(m+n)+1 by omega,Fy,e05 m n,Fy,List.drop_drop]
  rw [show 64+64*m=64*(m+1) by omega]
theorem e06:∀ (n:Nat) (s:S8) (l l':List Int),64*n≤l.length->Fy n s (l++l')=Fy n s l
 |0,_,_,_,_=>rfl
 |n+1,s,l,l',h=>by
  rw [Fy,Fy,List.take_append_of_le_length (by omega),List.drop_append_of_le_length (by omega),e06 n _ _ _ (by rw [List.length_drop];omega)]
def Oj (rows:List Int) (c:Int):Nat->List Int->Nat->Nat->Option (List Int×Nat×Nat)
 |0,_,_,_=>none
 |n+1,s,off,len =>
  cond (decide ((len:Int)≥64))
   (if 64≤(len:Int) then
    (F6 off 64 s off len c rows).bind fun x40 =>
     if (0:Int)≤64/\64≤(len:Int) then
      Oj rows c n x40 (off+64) (Int.toNat ((len:Int)-64))
     else none
   else none)
   (some (s,off,len))
theorem e07 (b:List Int) (c:Int):∀ f s off len,K6 b c f s off len=Oj b c f s off len
 |0,_,_,_=>rfl
 |f+1,s,off,len=>by rw [K6.eq_2,Oj];simp only [e07 b c f]
theorem a92 (b r:List Int) (c:Int):∀ f s off len,H3 b r c f s off len=Oj (r++b) c f s off len
 |0,_,_,_=>rfl
 |f+1,s,off,len=>by rw [H3.eq_2,Oj];simp only [a92 b r c f]
theorem a93 (b:List Int) (o n:Nat) (r:List Int) (c:Int):∀ f s off len,H4 b o n r c f s off len=Oj ((r.drop o).take n++b) c f s off len
 |0,_,_,_=>rfl
 |f+1,s,off,len=>by rw [H4.eq_2,Oj];simp only [a93 b o n r c f]
theorem a94 {n:Int}:∀ {l:List Int} (k:Nat),q8 n l->q8 n (l.drop k)
 |[],_,h=>by simpa using h
 |_::_,0,h=>h
 |_::_,k+1,⟨_,h⟩=>a94 k h
theorem e08 {n:Int}:∀ {l:List Int} (k:Nat),q8 n l->q8 n (l.take k)
 |[],_,h=>by simpa using h
 |_::_,0,_=>trivial
 |_::_,k+1,⟨h,h'⟩=>⟨h,e08 k h'⟩
theorem a95 {rows:List Int} (hr:q8 256 rows) (c:Int):∀ (n f:Nat) (s:S8) (off len:Nat),len/64=n->off+len=rows.length->n<f ->
  Oj rows c f s.l off len=some ((Fy n s (rows.drop off)).l,off+64*n,len-64*n)
 |_,0,_,_,_,_,_,h=>by omega
 |0,f+1,s,off,len,h1,h2,_=>by rw [Oj,i0 (by simp;omega)];simp [Fy]
 |n+1,f+1,s,off,len,h1,h2,h3=>by
  have e:Int.toNat ((len:Int)-64)=len-64:=by omega
  rw [Oj,j7 (by simp;omega),if_pos (by omega),g51 s off len c (e08 _ (a94 _ hr)) (by rw [List.length_take,List.length_drop];omega),Option.bind_some,if_pos (by omega),e]
  rw [a95 hr c n f _ (off+64) (len-64) (by omega) (by omega) (by omega),Fy,List.drop_drop]
  rw [show off+64+64*n=off+64*(n+1) by omega,show len-64-64*n=len-64*(n+1) by omega]
def h0P:S8:=⟨1779033703,3144134277,1013904242,2773480762,1359893119,2600822924,528734635,1541459225⟩
structure Got (M:List Int) (s:List Int) (off len:Nat) (c:Int) (rows:List Int):Prop where
 st:s=(Fy (M.length/64) h0P M).l
 hl:len=M.length%64
 ol:off+len=rows.length
 rd:rows.drop off=M.drop (64*(M.length/64))
 ct:c=M.length
 lim:q8 256 M
 small:M.length<1099511627776
theorem Got.rest {M s:List Int} {off len:Nat} {c:Int} {rows:List Int} (h:Got M s off len c rows):(rows.drop off).take len=M.drop (64*(M.length/64)):=by
 have h1:=h.hl
 rw [h.rd,List.take_of_length_le]
 rw [List.length_drop];omega
theorem Got.put {M b:List Int} (hM:q8 256 M) (hb:q8 256 b) (hs:M.length+b.length<1099511627776) :
  Oj (M.drop (64*(M.length/64))++b) (M.length+b.length:Nat) f9 (Fy (M.length/64) h0P M).l 0 (M.drop (64*(M.length/64))++b).length =
   some ((Fy ((M++b).length/64) h0P (M++b)).l,64*((M.length%64+b.length)/64),(M++b).length%64) /\
  Got (M++b) (Fy ((M++b).length/64) h0P (M++b)).l (64*((M.length%64+b.length)/64)) ((M++b).length%64) (M.length+b.length:Nat) (M.drop (64*(M.length/64))++b):=by
 have hlen:(M.drop (64*(M.length/64))++b).length=M.length%64+b.length:=by rw [List.length_append,List.length_drop];omega
 have hd:(M++b).drop (64*(M.length/64))=M.drop (64*(M.length/64))++b:=List.drop_append_of_le_length (by omega)
 have hk:(M++b).length/64=M.length/64+(M.length%64+b.length)/64:=by rw [List.length_append];omega
 refine ⟨?_,rfl,rfl,by rw [hlen,List.length_append];omega,?_,by rw [List.length_append],s6 hM hb,by rw [List.length_append];exact hs⟩
 ·rw [a95 (s6 (a94 _ hM) hb) _ ((M.length%64+b.length)/64) f9 _ 0 _ (by rw [hlen]) (by omega) (by unfold f9;omega)]
  rw [hk,e05,e06 _ _ _ _ (by omega),hd,List.drop_zero,hlen,List.length_append,Nat.zero_add]
  congr 3
  omega
 ·rw [hk,←hd,List.drop_drop];congr 1;omega
theorem X5 {M s b:List Int} {off len:Nat} {c:Int} {rows:List Int} (h:Got M s off len c rows) (hb:q8 256 b) (hs:M.length+b.length<1099511627776) :
  ∃ s' off' len' c',t7 b s off len c rows=some (s',off',len',c')/\Got (M++b) s' off' len' c' ((rows.drop off).take len++b):=by
 obtain ⟨p,g⟩:=Got.put h.lim hb hs
 have hl:=h.hl
 have ol:=h.ol
 refine ⟨_,_,_,_,?_,by rw [h.rest];exact g⟩
 unfold t7
 have e:IntKind.wrap .u64 (c+IntKind.wrap .u64 (b.length:Int))=((M.length+b.length:Nat):Int):=by
  rw [h.ct,Np,Nat.mod_eq_of_lt (by omega),←Int.natCast_add,Np,Nat.mod_eq_of_lt (by omega)]
 rw [m6,e,if_pos (by omega),if_pos (by omega),a93,h.rest,h.st,p];rfl
theorem d05 {M s b r:List Int} {c:Int} (hst:s=(Fy (M.length/64) h0P M).l) (hct:c=M.length) (hM:q8 256 M) (hr:r=M.drop (64*(M.length/64))) (hb:q8 256 b) (hs:M.length+b.length<1099511627776) :
  ∃ s' off' len' c',U6 b s c r=some (s',off',len',c')/\Got (M++b) s' off' len' c' (r++b):=by
 obtain ⟨p,g⟩:=Got.put hM hb hs
 refine ⟨_,_,_,_,?_,by rw [hr];exact g⟩
 unfold U6
 have e:IntKind.wrap .u64 (c+IntKind.wrap .u64 (b.length:Int))=((M.length+b.length:Nat):Int):=by
  rw [hct,Np,Nat.mod_eq_of_lt (by omega),←Int.natCast_add,Np,Nat.mod_eq_of_lt (by omega)]
 have hl:r.length≤M.length:=by rw [hr,List.length_drop];omega
 rw [m6,e,if_pos (by omega),a92,hr,hst,p];rfl
theorem Sw {b:List Int} (hb:q8 256 b) (hs:b.length<1099511627776) :
  ∃ s' off' len' c',J8 b h0P.l 0=some (s',off',len',c')/\Got b s' off' len' c' b:=by
 obtain ⟨p,g⟩:=Got.put (M:=[]) trivial hb (by simpa using hs)
 refine ⟨_,_,_,_,?_,g⟩
 unfold J8
 have e:IntKind.wrap .u64 (0+IntKind.wrap .u64 (b.length:Int))=((([]:List Int).length+b.length:Nat):Int):=by
  rw [Np,Nat.mod_eq_of_lt (by omega),Int.zero_add,Np,Nat.mod_eq_of_lt (by omega),List.length_nil,Nat.zero_add]
 rw [m6,e,if_pos (by omega),e07]
 rw [show h0P.l=(Fy (([]:List Int).length/64) h0P []).l from rfl]
 have p:Oj b _ f9 (Fy (([]:List Int).length/64) h0P []).l 0 b.length=_:=p
 rw [p];rfl
theorem Got.nil:Got [] h0P.l 0 0 0 []:=⟨rfl,rfl,rfl,rfl,rfl,trivial,by decide⟩
def be8 (x:Nat):List Int:=[((x/2^56%256:Nat):Int),((x/2^48%256:Nat):Int),((x/2^40%256:Nat):Int),((x/2^32%256:Nat):Int),((x/2^24%256:Nat):Int),((x/2^16%256:Nat):Int),((x/2^8%256:Nat):Int),((x%256:Nat):Int)]
theorem f81 (x:Nat):q8 256 (be8 x):=by simp only [be8,q8];refine ⟨?_,?_,?_,?_,?_,?_,?_,?_,trivial⟩<;>omega
def Re (n:Nat):List Int:=128::List.replicate ((119-n%64)%64) 0++be8 (8*n)
theorem h81 (x:Int):Ea x 8=some (.inl [IntKind.wrap .u8 (Int.fdiv (Int.fdiv (Int.fdiv (Int.fdiv (Int.fdiv (Int.fdiv (Int.fdiv x (2^8)) (2^8)) (2^8)) (2^8)) (2^8)) (2^8)) (2^8)),
  IntKind.wrap .u8 (Int.fdiv (Int.fdiv (Int.fdiv (Int.fdiv (Int.fdiv (Int.fdiv x (2^8)) (2^8)) (2^8)) (2^8)) (2^8)) (2^8)),IntKind.wrap .u8 (Int.fdiv (Int.fdiv (Int.fdiv (Int.fdiv (Int.fdiv x (2^8)) (2^8)) (2^8)) (2^8)) (2^8)),
  IntKind.wrap .u8 (Int.fdiv (Int.fdiv (Int.fdiv (Int.fdiv x (2^8)) (2^8)) (2^8)) (2^8)),IntKind.wrap .u8 (Int.fdiv (Int.fdiv (Int.fdiv x (2^8)) (2^8)) (2^8)),IntKind.wrap .u8 (Int.fdiv (Int.fdiv x (2^8)) (2^8)),IntKind.wrap .u8 (Int.fdiv x (2^8)),IntKind.wrap .u8 x]):=by kernel_rfl
theorem f16 (n:Nat):Ea (n:Int) 8=some (.inl (be8 n)):=by
 rw [h81]
 simp only [Ma,u8n,Nat.div_div_eq_div_mul,be8]
theorem e09:∀ (k f:Nat) {M s:List Int} {off len:Nat} {c:Int} {rows:List Int},Got M s off len c rows->k=(56+64-M.length%64)%64->M.length+k<1099511627776->k<f ->
  ∃ s' off' len' c' rows',L6 f s off len c rows=some (s',off',len',c',rows')/\Got (M++List.replicate k 0) s' off' len' c' rows'
 |_,0,_,_,_,_,_,_,_,_,_,h=>by omega
 |0,f+1,M,s,off,len,c,rows,g,h,_,_=>by
  have:=g.hl
  rw [L6.eq_2,i0 (by simp;omega)]
  exact ⟨_,_,_,_,_,rfl,by simpa using g⟩
 |k+1,f+1,M,s,off,len,c,rows,g,h,h',h''=>by
  have:=g.hl
  rw [L6.eq_2,j7 (by simp;omega)]
  obtain ⟨s1,o1,l1,c1,e,g1⟩:=X5 (b:=[0]) g (by simp [q8]) (by simp only [List.length_cons,List.length_nil];omega)
  rw [e,Option.bind_some]
  simp only
  obtain ⟨s2,o2,l2,c2,r2,e2,g2⟩:=e09 k f g1 (by rw [List.length_append,List.length_cons,List.length_nil];omega) (by rw [List.length_append,List.length_cons,List.length_nil];omega) (by omega)
  refine ⟨s2,o2,l2,c2,r2,e2,?_⟩
  rw [List.append_assoc] at g2
  exact g2
def b73 (x:Int):List Int:=[IntKind.wrap .u8 (Int.fdiv x (2^24)),IntKind.wrap .u8 (Int.fdiv x (2^16)),IntKind.wrap .u8 (Int.fdiv x (2^8)),IntKind.wrap .u8 x]
def h82 (s:S8):List Int:=b73 s.a++(b73 s.b++(b73 s.c++(b73 s.d++(b73 s.e++(b73 s.f++(b73 s.g++b73 s.h))))))
theorem Fz (x:Int):q8 256 (b73 x):=by simp only [b73,q8,wu8];refine ⟨?_,?_,?_,?_,trivial⟩<;>omega
theorem h83 (s:S8):q8 256 (h82 s):=s6 (Fz _) (s6 (Fz _) (s6 (Fz _) (s6 (Fz _) (s6 (Fz _) (s6 (Fz _) (s6 (Fz _) (Fz _)))))))
theorem h84 (s:S8):(h82 s).length=32:=rfl
theorem j45 (s:S8):Y7 s.l f9 0 (List.replicate 32 0)=some (h82 s):=by
 obtain ⟨a0,a1,a2,a3,a4,a5,a6,a7⟩:=s
 kernel_rfl
def Gu (M:List Int):List Int:=h82 (Fy ((M++Re M.length).length/64) h0P (M++Re M.length))
theorem a96 (M:List Int):q8 256 (Gu M):=h83 _
theorem Bq (M:List Int):(Gu M).length=32:=h84 _
theorem Uy {M s:List Int} {off len:Nat} {c:Int} {rows:List Int} (h:Got M s off len c rows) (hs:M.length<1000000000000):M4 s off len c rows=some (Gu M):=by
 have hr:=h.rest
 have hlr:(M.drop (64*(M.length/64))).length≤M.length:=by rw [List.length_drop];omega
 unfold M4 Fl u6
 rw [hr,List.length_nil,if_pos (by omega),Option.bind_some,Option.bind_some,List.nil_append]
 have e:IntKind.wrap .u64 (8*c)=((8*M.length:Nat):Int):=by
  rw [h.ct,show 8*(M.length:Int)=((8*M.length:Nat):Int) by omega,Np,Nat.mod_eq_of_lt (by omega)]
 rw [e,f16,Option.bind_some]
 simp only
 obtain ⟨s1,o1,l1,c1,e1,g1⟩:=d05 (b:=[128]) h.st h.ct h.lim rfl (by simp [q8]) (by simp only [List.length_cons,List.length_nil];omega)
 rw [e1,Option.bind_some]
 simp only
 obtain ⟨s2,o2,l2,c2,r2,e2,g2⟩:=e09 ((119-M.length%64)%64) f9 g1 (by rw [List.length_append,List.length_cons,List.length_nil];omega) (by rw [List.length_append,List.length_cons,List.length_nil];omega) (by unfold f9;omega)
 rw [e2,Option.bind_some]
 simp only
 obtain ⟨s3,o3,l3,c3,e3,g3⟩:=X5 (b:=be8 (8*M.length)) g2 (f81 _) (by simp only [List.length_append,List.length_cons,List.length_nil,List.length_replicate,be8];omega)
 have hbe:(be8 (8*M.length)).take (List.replicate (Int.toNat 8) (0:Int)).length=be8 (8*M.length):=rfl
 rw [hbe,e3,Option.bind_some]
 simp only
 have hm:M++[128]++List.replicate ((119-M.length%64)%64) 0++be8 (8*M.length)=M++Re M.length:=by
  rw [Re,List.append_assoc,List.append_assoc];rfl
 rw [m6,g3.st,j45,Option.bind_some,hm];rfl
end Go.Eng
namespace Go.Eng
set_option maxRecDepth 100000
set_option maxHeartbeats 1000000
def j46 (l:List (List Int)):Prop:=∀ x∈l,q8 256 x
theorem a97 {α:Type} (l:List α) (d:α) (i:Nat) (h:i<l.length):l.drop i=l.getD i d::l.drop (i+1):=by
 rw [List.drop_eq_getElem_cons h];simp [List.getD,h]
theorem a98 (parts:List (List Int)) (hp:j46 parts) (hn:parts.length<1000000):∀ (n f i:Nat) {M s:List Int} {off len:Nat} {c:Int} {rows:List Int},i+n=parts.length->n<f->Got M s off len c rows->M.length+(parts.drop i).flatten.length<1000000000000 ->
  ∃ s' off' len' c' rows',P1 parts f (i:Int) s off len c rows=some (s',off',len',c',rows')/\Got (M++(parts.drop i).flatten) s' off' len' c' rows'
 |_,0,_,_,_,_,_,_,_,_,h,_,_=>by omega
 |0,f+1,i,M,s,off,len,c,rows,h,_,g,_=>by
  rw [P1.eq_2,i0 (by simp;omega)]
  exact ⟨_,_,_,_,_,rfl,by rw [List.drop_of_length_le (by omega),List.flatten_nil,List.append_nil];exact g⟩
 |n+1,f+1,i,M,s,off,len,c,rows,h,h',g,hs=>by
  rw [P1.eq_2,j7 (by simp;omega),if_pos (by omega),Int.toNat_natCast]
  have hd:=a97 parts [] i (by omega)
  rw [hd,List.flatten_cons,List.length_append] at hs
  have hb:q8 256 (parts.getD i []):=hp _ (List.mem_of_mem_drop (i:=i) (by rw [hd];exact List.mem_cons_self ..))
  obtain ⟨s1,o1,l1,c1,e,g1⟩:=X5 g hb (by omega)
  rw [e,Option.bind_some]
  simp only [m6]
  rw [show (i:Int)+1=((i+1:Nat):Int) from rfl,A7 (by omega)]
  obtain ⟨s2,o2,l2,c2,r2,e2,g2⟩:=a98 parts hp hn n f (i+1) (by omega) (by omega) g1 (by rw [List.length_append];omega)
  refine ⟨s2,o2,l2,c2,r2,e2,?_⟩
  rw [hd,List.flatten_cons,←List.append_assoc]
  exact g2
theorem d06:Ks=some h0P.l:=rfl
theorem g53 {parts:List (List Int)} (hp:j46 parts) (hn:parts.length<1000000) (hs:parts.flatten.length<1000000000000):Vl parts=some (Gu parts.flatten):=by
 unfold Vl
 rw [d06,Option.bind_some]
 obtain ⟨s2,o2,l2,c2,r2,e2,g2⟩:=a98 parts hp hn parts.length f9 0 (by omega) (by unfold f9;omega) Got.nil (by simpa using hs)
 have e2:P1 parts f9 0 h0P.l 0 (List.length ([]:List Int)) 0 []=_:=e2
 rw [e2,Option.bind_some]
 simp only
 rw [List.drop_zero,List.nil_append] at g2
 rw [Uy g2 hs];rfl
def H9 (key:List Int):List Int:=let k:=if key.length>64 then Gu key else key;k++List.replicate (64-k.length) 0
def R2 (by_:Int) (l:List Int):List Int:=l.map fun x=>bits .u8 .xor x by_
def Z5 (key M:List Int):List Int:=Gu (R2 92 (H9 key)++Gu (R2 54 (H9 key)++M))
theorem J7 (key:List Int):(H9 key).length=64:=by
 unfold H9
 split
 ·simp [Bq]
 ·simp;omega
theorem d07 (n:Nat):q8 256 (List.replicate n (0:Int)):=Nl fun x hx=>by rw [List.eq_of_mem_replicate hx];omega
theorem i79 (x y:Int):0≤bits .u8 .xor x y/\bits .u8 .xor x y<256:=by
 show 0≤IntKind.u8.wrap _/\IntKind.u8.wrap _<256
 rw [wu8];omega
theorem Py (by_:Int) (l:List Int):q8 256 (R2 by_ l):=Nl fun x hx=>by
 obtain ⟨y,_,rfl⟩:=List.mem_map.1 hx
 exact i79 y by_
theorem Jb (by_:Int) (l:List Int):(R2 by_ l).length=l.length:=List.length_map ..
theorem f82 {A B:List Int} (x y:Int):(A++x::B).set A.length y=(A++[y])++B:=by
 rw [List.set_append_right _ _ (Nat.le_refl _),Nat.sub_self,List.set_cons_zero,List.append_assoc];rfl
theorem e15 {A B:List Int} (x:Int):(A++x::B).getD A.length 0=x:=by simp [List.getD]
theorem c38 (by_:Int):∀ (B A:List Int) (f:Nat),A.length+B.length=64->B.length<f->N4 by_ f (A.length:Int) (A++B)=some (A++R2 by_ B)
 |_,_,0,_,h=>by omega
 |[],A,f+1,h,_=>by
  rw [N4.eq_2,m6,i0 (by simp at h ⊢;omega)];rfl
 |x::B,A,f+1,h,h'=>by
  simp only [List.length_cons] at h h'
  have hc:(A.length:Int)<(((List.replicate 64 (0:Int)).length:Nat):Int):=by rw [List.length_replicate];omega
  rw [N4.eq_2,m6,j7 (by simpa using hc),if_pos ⟨by omega,hc⟩,if_pos ⟨by omega,hc⟩,m6,Int.toNat_natCast,f82,e15]
  rw [show (A.length:Int)+1=((A++[bits .u8 .xor x by_]).length:Int) by rw [List.length_append];rfl,A7 (by rw [List.length_append,List.length_cons,List.length_nil];omega)]
  rw [c38 by_ B (A++[bits .u8 .xor x by_]) f (by rw [List.length_append,List.length_cons,List.length_nil];omega) (by omega)]
  rw [List.append_assoc];rfl
theorem c39 (by_:Int):∀ (B A:List Int) (f:Nat),A.length+B.length=64->B.length<f->N5 by_ f (A.length:Int) (A++B)=some (A++R2 by_ B)
 |_,_,0,_,h=>by omega
 |[],A,f+1,h,_=>by
  rw [N5.eq_2,m6,i0 (by simp at h ⊢;omega)];rfl
 |x::B,A,f+1,h,h'=>by
  simp only [List.length_cons] at h h'
  have hc:(A.length:Int)<(((List.replicate 64 (0:Int)).length:Nat):Int):=by rw [List.length_replicate];omega
  rw [N5.eq_2,m6,j7 (by simpa using hc),if_pos ⟨by omega,hc⟩,if_pos ⟨by omega,hc⟩,m6,Int.toNat_natCast,f82,e15]
  rw [show (A.length:Int)+1=((A++[bits .u8 .xor x by_]).length:Int) by rw [List.length_append];rfl,A7 (by rw [List.length_append,List.length_cons,List.length_nil];omega)]
  rw [c39 by_ B (A++[bits .u8 .xor x by_]) f (by rw [List.length_append,List.length_cons,List.length_nil];omega) (by omega)]
  rw [List.append_assoc];rfl
theorem e17 {m:List Int} (h:m.length≤64):T9 (List.replicate 64 0) 0 m=m++List.replicate (64-m.length) 0:=by
 unfold T9
 rw [List.take_zero,List.nil_append,List.drop_replicate,Nat.zero_add]
theorem Pz {key:List Int} (hk:q8 256 key) (hs:key.length<100000000000) (by_:Int):P2 key by_=some (R2 by_ (H9 key)):=by
 have l64:(List.replicate 64 (0:Int)).length=64:=rfl
 unfold P2
 by_cases h:key.length>64
 ·rw [j7 (by simp;omega),g53 (parts:=[key]) (fun x hx=>by rw [List.mem_singleton.1 hx];exact hk) (by simp) (by simp;omega),Option.bind_some,Option.bind_some]
  simp only [List.flatten_cons,List.flatten_nil,List.append_nil]
  have e1:(Gu key).take 32=Gu key:=List.take_of_length_le (by rw [Bq];decide)
  have e2:(Gu key).take 64=Gu key:=List.take_of_length_le (by rw [Bq];decide)
  have ek:H9 key=Gu key++List.replicate (64-(Gu key).length) 0:=by unfold H9;rw [if_pos h]
  rw [m6,m6,e1,l64,e2,e17 (by rw [Bq];decide),←ek]
  have:=c38 by_ (H9 key) [] f9 (by rw [J7];rfl) (by rw [J7];unfold f9;omega)
  have this:N4 by_ f9 0 (H9 key)=_:=this
  rw [this];rfl
 ·rw [i0 (by simp;omega),Option.bind_some]
  simp only
  have e2:key.take 64=key:=List.take_of_length_le (by omega)
  have ek:H9 key=key++List.replicate (64-key.length) 0:=by unfold H9;rw [if_neg h]
  rw [m6,m6,l64,e2,e17 (by omega),←ek]
  have:=c39 by_ (H9 key) [] f9 (by rw [J7];rfl) (by rw [J7];unfold f9;omega)
  have this:N5 by_ f9 0 (H9 key)=_:=this
  rw [this];rfl
theorem f17 {a b:List Int} (ha:q8 256 a) (hb:q8 256 b) (la:a.length=64) (lb:b.length=32):Az 64 32 a b=some (Gu (a++b)):=by
 unfold Az
 have e1:a.take 64=a:=List.take_of_length_le (by omega)
 have e2:b.take 32=b:=List.take_of_length_le (by omega)
 rw [d06,Option.bind_some,e1,e2]
 obtain ⟨s1,o1,l1,c1,e,g1⟩:=Sw ha (by omega)
 rw [e,Option.bind_some]
 simp only
 obtain ⟨s2,o2,l2,c2,e,g2⟩:=X5 g1 hb (by omega)
 rw [e,Option.bind_some]
 simp only [m6,Option.bind_some]
 rw [Uy g2 (by rw [List.length_append];omega)];rfl
theorem f83 {key M:List Int} (hk:q8 256 key) (hs:key.length<100000000000) :
  ((P2 key 92).bind fun x44=>(Az (List.length (List.replicate 64 (0:Int))) 32 x44 (Gu (R2 54 (H9 key)++M))).bind fun x45=>some x45)=some (Z5 key M):=by
 rw [Pz hk hs,Option.bind_some]
 have:=f17 (Py 92 (H9 key)) (a96 (R2 54 (H9 key)++M)) (by rw [Jb,J7]) (Bq _)
 have this:Az (List.length (List.replicate 64 (0:Int))) 32 (R2 92 (H9 key)) (Gu (R2 54 (H9 key)++M))=_:=this
 rw [this];rfl
theorem h85 (parts:List (List Int)):∀ f i s off len c rows,Fc parts f i s off len c rows=P1 parts f i s off len c rows
 |0,_,_,_,_,_,_=>rfl
 |f+1,i,s,off,len,c,rows=>by rw [Fc.eq_2,P1.eq_2];simp only [h85 parts f]
theorem Uz {key:List Int} {parts:List (List Int)} (hk:q8 256 key) (hs:key.length<100000000000) (hp:j46 parts) (hn:parts.length<1000000) (hm:parts.flatten.length<100000000000) :
  Vm key parts=some (Z5 key parts.flatten):=by
 have lk:(R2 54 (H9 key)).length=64:=by rw [Jb,J7]
 have e1:(R2 54 (H9 key)).take (List.length (List.replicate 64 (0:Int)))=R2 54 (H9 key):=List.take_of_length_le (by rw [lk];decide)
 obtain ⟨s1,o1,l1,c1,e,g1⟩:=Sw (Py 54 (H9 key)) (by omega)
 unfold Vm
 rw [d06,Option.bind_some,Pz hk hs,Option.bind_some,e1,e,Option.bind_some]
 simp only
 rw [h85]
 obtain ⟨s2,o2,l2,c2,r2,e2,g2⟩:=a98 parts hp hn parts.length f9 0 (by omega) (by unfold f9;omega) g1 (by rw [List.drop_zero,lk];omega)
 have e2:P1 parts f9 0 s1 o1 l1 c1 (R2 54 (H9 key))=_:=e2
 rw [e2,Option.bind_some]
 simp only
 rw [List.drop_zero] at g2
 rw [Uy g2 (by rw [List.length_append];omega),Option.bind_some]
 exact f83 hk hs
theorem a99 {key a b:List Int} (n:Nat) (hk:q8 256 key) (hs:key.length<100000000000) (ha:q8 256 a) (hb:q8 256 b) (la:a.length<100000000000) (lb:b.length≤n) (hn:n<1000) :
  Hw key a n b=some (Z5 key (a++b)):=by
 have lk:(R2 54 (H9 key)).length=64:=by rw [Jb,J7]
 have e1:(R2 54 (H9 key)).take (List.length (List.replicate 64 (0:Int)))=R2 54 (H9 key):=List.take_of_length_le (by rw [lk];decide)
 have e2:b.take n=b:=List.take_of_length_le lb
 obtain ⟨s1,o1,l1,c1,e,g1⟩:=Sw (Py 54 (H9 key)) (by omega)
 unfold Hw
 rw [d06,Option.bind_some,Pz hk hs,Option.bind_some,e1,e2,e,Option.bind_some]
 simp only
 obtain ⟨s2,o2,l2,c2,e,g2⟩:=X5 (b:=[]) g1 trivial (by rw [lk];simp)
 rw [e,Option.bind_some]
 simp only [m6]
 obtain ⟨s3,o3,l3,c3,e,g3⟩:=X5 g2 ha (by simp only [List.length_append,lk,List.length_nil];omega)
 rw [e,Option.bind_some]
 simp only
 obtain ⟨s4,o4,l4,c4,e,g4⟩:=X5 g3 hb (by simp only [List.length_append,lk,List.length_nil];omega)
 rw [e,Option.bind_some]
 simp only [Option.bind_some]
 rw [Uy g4 (by simp only [List.length_append,lk,List.length_nil];omega),Option.bind_some,List.append_nil,List.append_assoc]
 exact f83 hk hs
theorem Qx (key M:List Int):q8 256 (Z5 key M):=a96 _
theorem Cv (key M:List Int):(Z5 key M).length=32:=Bq _
end Go.Eng
namespace Go.Eng
set_option maxRecDepth 100000
set_option maxHeartbeats 1000000
theorem Ns {m:List Int} {off i:Nat} (h:i<64):m.getD (off+i) 0=((m.drop off).take 64).getD i 0:=by
 simp [List.getD,h]
theorem h86 {a b c d:Int} (ha:0≤a/\a<256) (hb:0≤b/\b<256) (hc:0≤c/\c<256) (hd:0≤d/\d<256) :
  IntKind.wrap .u32 (IntKind.wrap .u32 (IntKind.wrap .u32 (IntKind.wrap .u32 (IntKind.wrap .u32 a*16777216)+IntKind.wrap .u32 (IntKind.wrap .u32 b*65536))+IntKind.wrap .u32 (IntKind.wrap .u32 c*256))+IntKind.wrap .u32 d)=a*16777216+b*65536+c*256+d:=by
 simp only [So];omega
theorem j47 (a b c d:Int):IntKind.wrap .u32 (IntKind.wrap .u32 (IntKind.wrap .u32 (d+c)+b)+a)=(a+b+c+d)%4294967296:=by
 rw [So,So,So];omega
theorem Jc {W:List Int} {n:Nat} (x:Int) {i:Nat} (h:i=W.length):(W++List.replicate (n+1) 0).set i x=(W++[x])++List.replicate n 0:=by
 subst h;exact d03 x
theorem f84 (m:List Int) (at_:Int):∀ (n f:Nat) (W:List Int),n≤48->W.length=64-n->n<f ->
  N8 m at_ f ((64-n:Nat):Int) (W++List.replicate n 0)=some (d02 n W)
 |_,0,_,_,_,h=>by omega
 |0,f+1,W,_,_,_=>by rw [N8.eq_2,i0 (by decide)];simp [d02]
 |n+1,f+1,W,h,h',h''=>by
  have hl:(W++List.replicate (n+1) 0).length=64:=by rw [List.length_append,List.length_replicate];omega
  rw [N8.eq_2,j7 (by simp;omega),i0 (by simp;omega)]
  have e0:((64-(n+1):Nat):Int)-15=((63-n-15:Nat):Int):=by omega
  have e1:((64-(n+1):Nat):Int)-2=((63-n-2:Nat):Int):=by omega
  have e2:((64-(n+1):Nat):Int)-16=((63-n-16:Nat):Int):=by omega
  have e3:((64-(n+1):Nat):Int)-7=((63-n-7:Nat):Int):=by omega
  simp only [m6,hl,e0,e1,e2,e3,A7 (n:=63-n-15) (by omega),A7 (n:=63-n-2) (by omega),A7 (n:=63-n-16) (by omega),A7 (n:=63-n-7) (by omega),Int.toNat_natCast,
   j40,i70,i71,i72,Option.bind_some,Du (W:=W) (i:=63-n-15) (by omega),Du (W:=W) (i:=63-n-2) (by omega),Du (W:=W) (i:=63-n-16) (by omega),Du (W:=W) (i:=63-n-7) (by omega)]
  rw [if_pos (by omega),if_pos (by omega),if_pos (by omega),if_pos (by omega),if_pos (by omega),Option.bind_some,j47]
  rw [Jc _ (show 64-(n+1)=W.length from h'.symm),show ((64-(n+1):Nat):Int)+1=((64-n:Nat):Int) by omega,A7 (by omega)]
  exact f84 m at_ n f (W++[h79 W (63-n)]) (by omega) (by simp;omega) (by omega)
theorem f85 {m:List Int} (hm:q8 256 m) (off:Nat) (ho:off+64≤m.length) (hs:m.length<9000000000000000):∀ (n f:Nat) (W:List Int),n≤16->W.length=16-n->n+48<f ->
  N8 m off f ((16-n:Nat):Int) (W++List.replicate (48+n) 0)=some (d02 48 (Px ((m.drop off).take 64) n W))
 |_,0,_,_,_,h=>by omega
 |0,f+1,W,h,h',h''=>f84 m off 48 (f+1) W (by decide) (by omega) (by omega)
 |n+1,f+1,W,h,h',h''=>by
  have hl:(W++List.replicate (48+(n+1)) 0).length=64:=by rw [List.length_append,List.length_replicate];omega
  rw [N8.eq_2,j7 (by simp;omega),j7 (by simp;omega)]
  have e0:4*((16-(n+1):Nat):Int)=((4*(15-n):Nat):Int):=by omega
  have e1:(off:Int)+((4*(15-n):Nat):Int)=((off+4*(15-n):Nat):Int):=rfl
  have e2:((off+4*(15-n):Nat):Int)+1=((off+(4*(15-n)+1):Nat):Int):=rfl
  have e3:((off+4*(15-n):Nat):Int)+2=((off+(4*(15-n)+2):Nat):Int):=rfl
  have e4:((off+4*(15-n):Nat):Int)+3=((off+(4*(15-n)+3):Nat):Int):=rfl
  simp only [m6,hl,e0,A7 (n:=4*(15-n)) (by omega),e1,A7 (n:=off+4*(15-n)) (by omega),e2,e3,e4,A7 (n:=off+(4*(15-n)+1)) (by omega),A7 (n:=off+(4*(15-n)+2)) (by omega),A7 (n:=off+(4*(15-n)+3)) (by omega),Int.toNat_natCast]
  rw [if_pos (by omega),if_pos (by omega),if_pos (by omega),if_pos (by omega),if_pos (by omega),Option.bind_some]
  rw [h86 (Y6 (by decide) _ hm) (Y6 (by decide) _ hm) (Y6 (by decide) _ hm) (Y6 (by decide) _ hm)]
  rw [show 48+(n+1)=(48+n)+1 from rfl,Jc _ (show 16-(n+1)=W.length from h'.symm),show ((16-(n+1):Nat):Int)+1=((16-n:Nat):Int) by omega,A7 (by omega)]
  rw [Ns (i:=4*(15-n)) (by omega),Ns (i:=4*(15-n)+1) (by omega),Ns (i:=4*(15-n)+2) (by omega),Ns (i:=4*(15-n)+3) (by omega)]
  exact f85 hm off ho hs n f (W++[h78 ((m.drop off).take 64) (15-n)]) (by omega) (by simp;omega) (by omega)
theorem f86 (W:List Int) (hW:W.length=64):∀ (n f:Nat) (s:S8),n≤64->n<f ->
  W3 y5 W f s.a s.b s.c s.d s.e s.f s.g s.h ((64-n:Nat):Int) =
   some ((Cc W n s).a,(Cc W n s).b,(Cc W n s).c,(Cc W n s).d,(Cc W n s).e,(Cc W n s).f,(Cc W n s).g,(Cc W n s).h)
 |_,0,_,_,h=>by omega
 |0,f+1,s,_,_=>by rw [W3.eq_2,i0 (by decide)];rfl
 |n+1,f+1,s,h,h'=>by
  have hk:y5.length=64:=rfl
  rw [W3.eq_2,j7 (by simp;omega)]
  have e0:((64-(n+1):Nat):Int)=((63-n:Nat):Int):=by omega
  rw [e0]
  simp only [m6,Int.toNat_natCast,j41,i73,i74,j42,i75,i76,Option.bind_some,hW,hk]
  rw [if_pos (by omega),if_pos (by omega)]
  rw [show ((63-n:Nat):Int)+1=((64-n:Nat):Int) by omega,A7 (by omega)]
  exact f86 W hW n f (f15 (y5.getD (63-n) 0) (W.getD (63-n) 0) s) (by omega) (by omega)
theorem k96 (s v:S8):Gf h0P.l v.a v.b v.c v.d v.e v.f v.g v.h 8 f9 0 s.l=some (j43 s v).l:=by
 obtain ⟨a0,a1,a2,a3,a4,a5,a6,a7⟩:=s
 obtain ⟨b0,b1,b2,b3,b4,b5,b6,b7⟩:=v
 kernel_rfl
theorem f87 {m:List Int} (hm:q8 256 m) (hs:m.length<9000000000000000):∀ (n f off:Nat) (s:S8),off+64*n=m.length->n<f ->
  W4 y5 h0P.l m f (off:Int) s.l=some (Fy n s (m.drop off)).l
 |_,0,_,_,_,h=>by omega
 |0,f+1,off,s,h,_=>by rw [W4.eq_2,i0 (by simp;omega)];rfl
 |n+1,f+1,off,s,h,h'=>by
  rw [W4.eq_2,j7 (by simp;omega)]
  have h1:=f85 hm off (by omega) hs 16 f9 [] (by decide) rfl (by unfold f9;omega)
  have h1:N8 m off f9 0 (List.replicate 64 0)=some (Kz ((m.drop off).take 64)):=h1
  rw [h1,Option.bind_some]
  have hl:h0P.l.length=8:=rfl
  simp only [hl]
  rw [if_pos (by decide),if_pos (by decide),if_pos (by decide),if_pos (by decide),if_pos (by decide),if_pos (by decide),if_pos (by decide),if_pos (by decide)]
  have h2:=f86 (Kz ((m.drop off).take 64)) (f14 _) 64 f9 s (by decide) (by unfold f9;omega)
  have h2:W3 y5 (Kz ((m.drop off).take 64)) f9 (s.l.getD 0 0) (s.l.getD 1 0) (s.l.getD 2 0) (s.l.getD 3 0) (s.l.getD 4 0) (s.l.getD 5 0) (s.l.getD 6 0) (s.l.getD 7 0) 0=_:=h2
  rw [h2,Option.bind_some]
  simp only [m6]
  have h3:=k96 s (Cc (Kz ((m.drop off).take 64)) 64 s)
  have h4:∀ x:S8,((List.length [x.a,x.b,x.c,x.d,x.e,x.f,x.g,x.h]:Nat):Int)=8:=fun _=>rfl
  rw [h4,h3,Option.bind_some,show (off:Int)+64=((off+64:Nat):Int) from rfl,A7 (by omega)]
  have ih:=f87 hm hs n f (off+64) (h80 s ((m.drop off).take 64)) (by omega) (by omega)
  rw [Fy,List.drop_drop]
  exact ih
theorem l81 (s:S8):Db h0P.l s.l f9 0 (List.replicate 32 0)=some (h82 s):=by
 obtain ⟨a0,a1,a2,a3,a4,a5,a6,a7⟩:=s
 kernel_rfl
theorem c40:∀ (k f:Nat) (l:List Int),k=(56+64-l.length%64)%64->k<f->l.length+k<1000000000000->P5 f l=some (.inr (l++List.replicate k 0))
 |_,0,_,_,h,_=>by omega
 |0,f+1,l,h,_,_=>by
  have e:Int.tmod ((l.length:Nat):Int) 64=((l.length%64:Nat):Int):=rfl
  rw [P5.eq_2,e,i0 (by simp;omega)];simp
 |k+1,f+1,l,h,h',h''=>by
  have e:Int.tmod ((l.length:Nat):Int) 64=((l.length%64:Nat):Int):=rfl
  rw [P5.eq_2,e,j7 (by simp;omega),if_pos (by simp only [List.length_cons,List.length_nil];omega)]
  rw [c40 k f (l++[0]) (by rw [List.length_append,List.length_cons,List.length_nil];omega) (by omega) (by rw [List.length_append,List.length_cons,List.length_nil];omega),List.append_assoc];rfl
def beB (x:Nat):Nat->List Int
 |0=>[]
 |i+1=>((x/2^(8*i)%256:Nat):Int)::beB x i
theorem c41 (x:Nat):∀ (i f:Nat) (l:List Int),i<f->i≤8->l.length+i<1000000000100->P6 (x:Int) f ((i:Int)-1) l=some (l++beB x i)
 |i,0,_,h,_,_=>by omega
 |0,f+1,l,_,_,_=>by rw [P6.eq_2,i0 (by decide),beB,List.append_nil]
 |i+1,f+1,l,h,h',h''=>by
  have e0:8*(i:Int)=((8*i:Nat):Int):=by omega
  have m2:min (8*i) (IntKind.bits .u64)=8*i:=by show min _ 64=_;omega
  rw [P6.eq_2,show ((i+1:Nat):Int)-1=i by omega,j7 (by simp),e0,A7 (by omega),Np,Nat.mod_eq_of_lt (a:=8*i) (by omega),Int.toNat_natCast,m2,Ma]
  rw [if_pos (by omega),m6,u8n,if_pos (by rw [List.length_cons,List.length_nil];omega)]
  rw [o8 (n:=(i:Int)-1) (by omega) (by omega),c41 x i f _ (by omega) (by omega) (by rw [List.length_append,List.length_cons,List.length_nil];omega),List.append_assoc];rfl
theorem k98 (x:Nat):beB x 8=be8 x:=by simp [beB,be8]
theorem e18 {M:List Int} (hs:M.length<100000000000):Ge M=some (M++Re M.length):=by
 unfold Ge
 rw [List.nil_append,List.length_nil,if_pos (by omega),if_pos (by simp only [List.length_cons,List.length_nil];omega)]
 have hl:(M++[(128:Int)]).length=M.length+1:=by rw [List.length_append];rfl
 rw [c40 ((119-M.length%64)%64) f9 (M++[128]) (by rw [hl];omega) (by unfold f9;omega) (by rw [hl];omega),Option.bind_some]
 simp only
 have e:IntKind.wrap .u64 (IntKind.wrap .u64 (M.length:Int)*8)=((8*M.length:Nat):Int):=by
  rw [Np,Nat.mod_eq_of_lt (by omega),show (M.length:Int)*8=((8*M.length:Nat):Int) by omega,Np,Nat.mod_eq_of_lt (by omega)]
 rw [m6,e,show (7:Int)=((8:Nat):Int)-1 from rfl,c41 _ 8 f9 _ (by unfold f9;omega) (by decide) (by rw [List.length_append,hl,List.length_replicate];omega),Option.bind_some,k98,Re,List.append_assoc,List.append_assoc];rfl
theorem h87 (n:Nat):q8 256 (Re n):=⟨by decide,s6 (d07 _) (f81 _)⟩
theorem h88 (n:Nat):(Re n).length=1+(119-n%64)%64+8:=by simp [Re,be8];omega
theorem d08:Ef=some y5:=by kernel_rfl
theorem Wu {M:List Int} (hM:q8 256 M) (hs:M.length<100000000000):Am M=some (Gu M):=by
 have hl:(M++Re M.length).length=M.length+(1+(119-M.length%64)%64+8):=by rw [List.length_append,h88]
 unfold Am
 rw [d08,Option.bind_some,m6,e18 hs,Option.bind_some]
 have h:=f87 (s6 hM (h87 M.length)) (by rw [hl];omega) ((M++Re M.length).length/64) f9 0 h0P (by rw [hl];omega) (by rw [hl];unfold f9;omega)
 have h:W4 y5 [1779033703,3144134277,1013904242,2773480762,1359893119,2600822924,528734635,1541459225] (M++Re M.length) f9 0 [1779033703,3144134277,1013904242,2773480762,1359893119,2600822924,528734635,1541459225]=_:=h
 rw [h,Option.bind_some]
 have h2:=l81 (Fy ((M++Re M.length).length/64) h0P ((M++Re M.length).drop 0))
 have h2:Db [1779033703,3144134277,1013904242,2773480762,1359893119,2600822924,528734635,1541459225] (Fy ((M++Re M.length).length/64) h0P ((M++Re M.length).drop 0)).l f9 0 (List.replicate 32 0)=_:=h2
 rw [h2,List.drop_zero];rfl
end Go.Eng
namespace Go.Eng
set_option maxRecDepth 100000
set_option maxHeartbeats 1000000
theorem c42 {key:List Int} (h:key.length≤64) {i:Nat} (_hi:i<64):(H9 key).getD i 0=if i<key.length then key.getD i 0 else 0:=by
 have ek:H9 key=key++List.replicate (64-key.length) 0:=by unfold H9;rw [if_neg (by omega)]
 rw [ek]
 split
 ·rename_i h;exact Du h
 ·rename_i h'
  simp only [List.getD,List.getElem?_append_right (Nat.le_of_not_lt h')]
  rw [List.getElem?_replicate]
  split<;>rfl
theorem h89 {key:List Int} (h:key.length>64):H9 key=H9 (Gu key):=by
 unfold H9
 rw [if_pos h,if_neg (by rw [Bq];decide)]
theorem Qy {K:List Int} (by_:Int) {i:Nat} (h:i<K.length):R2 by_ (K.take (i+1))=R2 by_ (K.take i)++[bits .u8 .xor (K.getD i 0) by_]:=by
 rw [List.take_succ_eq_append_getElem h]
 unfold R2
 rw [List.map_append];simp [List.getD,h]
theorem e19 {key:List Int} (hk:key.length=32):∀ (n f:Nat),n≤64->n<f ->
  W5 key f ((64-n:Nat):Int) (R2 54 ((H9 key).take (64-n))++List.replicate n 0) (R2 92 ((H9 key).take (64-n))++List.replicate n 0)=some (R2 54 (H9 key),R2 92 (H9 key))
 |_,0,_,h=>by omega
 |0,f+1,_,_=>by
  rw [W5.eq_2,i0 (by decide),List.take_of_length_le (by rw [J7];decide)];simp
 |n+1,f+1,h,h'=>by
  have hl:((List.replicate 64 (0:Int)).length:Int)=64:=rfl
  have hg:=c42 (key:=key) (by omega) (i:=64-(n+1)) (by omega)
  have hc:(cond (decide (((64-(n+1):Nat):Int)<32)) (if (0:Int)≤((64-(n+1):Nat):Int)/\((64-(n+1):Nat):Int)<(32:Int) then some (List.getD key (Int.toNat ((64-(n+1):Nat):Int)) 0) else none) (some 0):Option Int)=some ((H9 key).getD (64-(n+1)) 0):=by
   rw [hg,hk]
   by_cases hx:64-(n+1)<32
   ·rw [j7 (by simp;omega),if_pos (by omega),if_pos hx,Int.toNat_natCast]
   ·rw [i0 (by simp;omega),if_neg hx]
  rw [W5.eq_2,j7 (by simp;omega),hc,Option.bind_some,if_pos ⟨by omega,by rw [hl];omega⟩,if_pos ⟨by omega,by rw [hl];omega⟩,Int.toNat_natCast]
  have lt:∀ b:Int,(R2 b ((H9 key).take (64-(n+1)))).length=64-(n+1):=fun b=>by rw [Jb,List.length_take,J7];omega
  rw [Jc _ (lt 54).symm,Jc _ (lt 92).symm,←Qy 54 (by rw [J7];omega),←Qy 92 (by rw [J7];omega)]
  rw [show ((64-(n+1):Nat):Int)+1=((64-n:Nat):Int) by omega,A7 (by omega),show 64-(n+1)+1=64-n by omega]
  exact e19 hk n f (by omega) (by omega)
theorem e25 {key:List Int} (hk:key.length≤64):∀ (n f:Nat),n≤64->n<f ->
  W6 key f ((64-n:Nat):Int) (R2 54 ((H9 key).take (64-n))++List.replicate n 0) (R2 92 ((H9 key).take (64-n))++List.replicate n 0)=some (R2 54 (H9 key),R2 92 (H9 key))
 |_,0,_,h=>by omega
 |0,f+1,_,_=>by
  rw [W6.eq_2,i0 (by decide),List.take_of_length_le (by rw [J7];decide)];simp
 |n+1,f+1,h,h'=>by
  have hl:((List.replicate 64 (0:Int)).length:Int)=64:=rfl
  have hg:=c42 (key:=key) hk (i:=64-(n+1)) (by omega)
  have hc:(cond (decide (((64-(n+1):Nat):Int)<(key.length:Int))) (if (0:Int)≤((64-(n+1):Nat):Int)/\((64-(n+1):Nat):Int)<(key.length:Int) then some (List.getD key (Int.toNat ((64-(n+1):Nat):Int)) 0) else none) (some 0):Option Int)=some ((H9 key).getD (64-(n+1)) 0):=by
   rw [hg]
   by_cases hx:64-(n+1)<key.length
   ·rw [j7 (by simp;omega),if_pos (by omega),if_pos hx,Int.toNat_natCast]
   ·rw [i0 (by simp;omega),if_neg hx]
  rw [W6.eq_2,j7 (by simp;omega),hc,Option.bind_some,if_pos ⟨by omega,by rw [hl];omega⟩,if_pos ⟨by omega,by rw [hl];omega⟩,Int.toNat_natCast]
  have lt:∀ b:Int,(R2 b ((H9 key).take (64-(n+1)))).length=64-(n+1):=fun b=>by rw [Jb,List.length_take,J7];omega
  rw [Jc _ (lt 54).symm,Jc _ (lt 92).symm,←Qy 54 (by rw [J7];omega),←Qy 92 (by rw [J7];omega)]
  rw [show ((64-(n+1):Nat):Int)+1=((64-n:Nat):Int) by omega,A7 (by omega),show 64-(n+1)+1=64-n by omega]
  exact e25 hk n f (by omega) (by omega)
theorem Nt {key M:List Int} (hk:q8 256 key) (hM:q8 256 M) (lk:key.length<10000000000) (lM:M.length<10000000000):Bw key M=some (Z5 key M):=by
 have l64:(List.replicate 64 (0:Int)).length=64:=rfl
 have x1:(R2 54 (H9 key)).length=64:=by rw [Jb,J7]
 have x2:(R2 92 (H9 key)).length=64:=by rw [Jb,J7]
 have t1:(R2 54 (H9 key)).take 64=R2 54 (H9 key):=List.take_of_length_le (by omega)
 have t2:(R2 92 (H9 key)).take 64=R2 92 (H9 key):=List.take_of_length_le (by omega)
 have s1:Am (R2 54 (H9 key)++M)=some (Gu (R2 54 (H9 key)++M)):=Wu (s6 (Py _ _) hM) (by rw [List.length_append];omega)
 have t3:(Gu (R2 54 (H9 key)++M)).take 32=Gu (R2 54 (H9 key)++M):=List.take_of_length_le (by rw [Bq];decide)
 have l3:(Gu (R2 54 (H9 key)++M)).length=32:=Bq _
 have s2:Am (R2 92 (H9 key)++Gu (R2 54 (H9 key)++M))=some (Z5 key M):=Wu (s6 (Py _ _) (a96 _)) (by rw [List.length_append];omega)
 unfold Bw
 by_cases h:key.length>64
 ·rw [j7 (by simp;omega),Wu hk (by omega),Option.bind_some,Option.bind_some]
  simp only
  have h1:=e19 (key:=Gu key) (Bq _) 64 f9 (by decide) (by unfold f9;omega)
  have h1:W5 (Gu key) f9 0 (List.replicate 64 0) (List.replicate 64 0)=_:=h1
  rw [h1,←h89 h,Option.bind_some]
  simp only
  rw [l64,if_pos (by omega),if_pos (by omega),m6,t1,s1,Option.bind_some,t3,l3,if_pos (by omega),if_pos (by omega),m6,t2,s2];rfl
 ·rw [i0 (by simp;omega),Option.bind_some]
  simp only
  have h1:=e25 (key:=key) (by omega) 64 f9 (by decide) (by unfold f9;omega)
  have h1:W6 key f9 0 (List.replicate 64 0) (List.replicate 64 0)=_:=h1
  rw [h1,Option.bind_some]
  simp only
  rw [l64,if_pos (by omega),if_pos (by omega),m6,t1,s1,Option.bind_some,t3,l3,if_pos (by omega),if_pos (by omega),m6,t2,s2];rfl
theorem Ya {key info:List Int} {n:Nat} (hk:q8 256 key) (hi:q8 256 info) (lk:key.length<10000000000) (li:info.length≤65536) (h0:0<n) (hn:n≤32) :
  G2 key info n=some (.inl (n,Z5 key (info++[1]))):=by
 have l1:(Z5 key (info++[1])).length=32:=Cv _ _
 have t1:(Z5 key (info++[1])).take 32=Z5 key (info++[1]):=List.take_of_length_le (by omega)
 have hm:=a99 (b:=[1]) 1 hk (by omega) hi (by simp [q8]) (by omega) (Nat.le_refl _) (by decide)
 have hm:Hw key info [1].length [1]=_:=hm
 unfold G2
 rw [i0 (by simp),i0 (by simp;omega),i0 (by simp;omega),j7 (by simp;omega),hm,Option.bind_some,t1,l1,if_pos (by omega)]
 obtain ⟨m,e,_⟩:=Iw 10 (by decide)
 rw [e,U7.eq_2,l1,i0 (by simp;omega),if_pos (by omega),if_pos (by omega)]
 rfl
theorem Va {key info:List Int} {n:Nat} (hk:q8 256 key) (hi:q8 256 info) (lk:key.length<10000000000) (li:info.length≤100000) (h0:0<n) (hn:n≤32) :
  W7 key info n=some (Z5 key (info++[1])):=by
 have l1:(Z5 key (info++[1])).length=32:=Cv _ _
 have t1:(Z5 key (info++[1])).take 32=Z5 key (info++[1]):=List.take_of_length_le (by omega)
 obtain ⟨m,e,hm⟩:=Iw 10 (by decide)
 obtain ⟨m,rfl⟩:∃ k,m=k+1:=⟨m-1,by omega⟩
 unfold W7
 rw [e,V4.eq_2,List.length_nil,j7 (by simp;omega),List.take_zero,List.length_nil,if_pos (by decide),List.append_nil,List.length_nil,if_pos (by omega),List.nil_append,List.length_cons,List.length_nil,if_pos (by omega),m6]
 have e2:IntKind.wrap .u8 1=1:=by decide
 rw [e2,Nt hk (s6 hi (by simp [q8])) lk (by rw [List.length_append,List.length_cons,List.length_nil];omega),Option.bind_some,t1,l1,if_pos (by decide),List.nil_append,V4.eq_2,l1,i0 (by simp;omega),Option.bind_some]
 simp only
 rw [l1,if_pos (by omega),if_pos (by omega)]
def J1 (l:List UInt8):List Int:=l.map fun q:UInt8=>(q.toNat:Int)
theorem Ag (l:List UInt8):q8 256 (J1 l):=Nl fun x hx=>by
 obtain ⟨y,_,rfl⟩:=List.mem_map.1 hx
 have:=y.toNat_lt
 omega
theorem O7 (l:List UInt8):(J1 l).length=l.length:=List.length_map ..
theorem b00 (a b:List UInt8):J1 (a++b)=J1 a++J1 b:=List.map_append
theorem Mb {n:Nat} (h:n<100000000000):q6 (n:Int)=some (0,List.replicate n 0):=by
 unfold q6
 rw [i0 (by simp),Int.sub_zero,A7 (by omega)]
 by_cases hn:n=0
 ·subst hn;rfl
 ·rw [j7 (by simp;omega),if_pos (by omega),m6,if_pos (by omega),Int.toNat_natCast,Option.bind_some]
theorem e26 {n:Nat} {l:List Int} (hl:l.length≤n) (hn:n<100000000000):F5 n l=some l:=by
 unfold F5
 rw [Int.zero_add,A7 (by omega),i0 (by simp),Option.bind_some,Mb (by omega),Option.bind_some]
 simp only
 have t:l.take n=l:=List.take_of_length_le hl
 rw [t,if_pos (by omega),if_pos (Nat.zero_le _),Option.bind_some,List.take_zero,List.nil_append]
theorem b74 {n:Nat} {l:List Int} (hl:l.length≤n) (hn:n<100000000000):D1 n l=some l:=by
 unfold D1
 rw [Int.zero_add,A7 (by omega),i0 (by simp),Option.bind_some,Mb (by omega),Option.bind_some]
 simp only
 have t:l.take n=l:=List.take_of_length_le hl
 rw [t,if_pos (by omega),if_pos (Nat.zero_le _),Option.bind_some,List.take_zero,List.nil_append]
theorem b75 {n m:Nat} {a b:List Int} (ha:a.length≤n) (hn:n<10000000000) (hb:b.length≤m) (hm:m<10000000000):D2 n m a b=some (a++b):=by
 unfold D2
 rw [Int.zero_add,A7 (by omega),i0 (by simp),m6,show (n:Int)+(m:Int)=((n+m:Nat):Int) from rfl,A7 (by omega),i0 (by simp;omega),Option.bind_some,Mb (by omega),Option.bind_some]
 simp only
 have t:a.take n=a:=List.take_of_length_le ha
 have t':b.take m=b:=List.take_of_length_le hb
 rw [t,t',if_pos (by omega),if_pos (Nat.zero_le _),List.take_zero,List.nil_append,if_pos (by omega),m6,Option.bind_some]
theorem h90 (L:List (List Int)) (hs:L.flatten.length<100000000000) (hn:L.length<100000000):∀ (n f i:Nat),i+n=L.length->n<f->s9 L f (((L.take i).flatten.length:Nat):Int) (i:Int)=some ((L.flatten.length:Nat):Int)
 |_,0,_,_,h=>by omega
 |0,f+1,i,h,_=>by
  rw [s9.eq_2,i0 (by simp;omega),List.take_of_length_le (by omega)]
 |n+1,f+1,i,h,h'=>by
  have e:L.take (i+1)=L.take i++[L.getD i []]:=by rw [List.take_succ_eq_append_getElem (by omega)];simp [List.getD,show i<L.length by omega]
  have e2:(L.take (i+1)).flatten.length=(L.take i).flatten.length+(L.getD i []).length:=by rw [e,List.flatten_append,List.length_append];simp
  have hle:(L.take (i+1)).flatten.length≤L.flatten.length:=by
   have:=congrArg List.length (congrArg List.flatten (List.take_append_drop (i+1) L))
   rw [List.flatten_append,List.length_append] at this
   omega
  rw [s9.eq_2,j7 (by simp;omega),if_pos (by omega),m6,Int.toNat_natCast,←Int.natCast_add,←e2,A7 (by omega),i0 (by simp),show (i:Int)+1=((i+1:Nat):Int) from rfl,A7 (by omega)]
  exact h90 L hs hn n f (i+1) (by omega) (by omega)
theorem h91 (L:List (List Int)) (hs:L.flatten.length<100000000000) (hn:L.length<100000000):∀ (n f i:Nat) (k:Nat) (x:List Int),i+n=L.length->n<f->k≤x.length->x.take k=(L.take i).flatten ->
  ∃ k' x',t5 L f k (i:Int) x=some (.inr (k',x'))/\x'.take k'=L.flatten
 |_,0,_,_,_,_,h,_,_=>by omega
 |0,f+1,i,k,x,h,_,hk,hx=>by
  rw [t5.eq_2,i0 (by simp;omega)]
  exact ⟨k,x,rfl,by rw [hx,List.take_of_length_le (by omega)]⟩
 |n+1,f+1,i,k,x,h,h',hk,hx=>by
  have e:L.take (i+1)=L.take i++[L.getD i []]:=by rw [List.take_succ_eq_append_getElem (by omega)];simp [List.getD,show i<L.length by omega]
  have e2:(L.take (i+1)).flatten=(L.take i).flatten++L.getD i []:=by rw [e,List.flatten_append];simp
  have hle:(L.take (i+1)).flatten.length≤L.flatten.length:=by
   have:=congrArg List.length (congrArg List.flatten (List.take_append_drop (i+1) L))
   rw [List.flatten_append,List.length_append] at this
   omega
  have hkl:k=(L.take i).flatten.length:=by rw [←hx,List.length_take];omega
  rw [e2,List.length_append] at hle
  rw [t5.eq_2,j7 (by simp;omega),if_pos (by omega),Int.toNat_natCast,if_pos (by omega),if_pos hk,hx,←e2,show (i:Int)+1=((i+1:Nat):Int) from rfl,A7 (by omega)]
  exact h91 L hs hn n f (i+1) _ _ (by omega) (by omega) (Nat.le_refl _) (List.take_length ..)
theorem b76 {L:List (List Int)} (hs:L.flatten.length<100000000000) (hn:L.length<100000000):∃ k x,D0 L=some (k,x)/\x.take k=L.flatten:=by
 unfold D0
 have h1:=h90 L hs hn L.length f9 0 (by omega) (by unfold f9;omega)
 have h1:s9 L f9 0 0=_:=h1
 rw [h1,Option.bind_some,Mb (by omega),Option.bind_some]
 simp only
 obtain ⟨k,x,h2,h3⟩:=h91 L hs hn L.length f9 0 0 (List.replicate L.flatten.length 0) (by omega) (by unfold f9;omega) (Nat.zero_le _) rfl
 have h2:t5 L f9 0 0 (List.replicate L.flatten.length 0)=_:=h2
 rw [h2,Option.bind_some]
 exact ⟨k,x,rfl,h3⟩
end Go.Eng
namespace Go.Eng
set_option maxRecDepth 100000
set_option maxHeartbeats 1000000
def Z9:List UInt8:=[72,80,75,69,45,118,49,75,69,77,0,32]
def R3 (label:List UInt8) (M:List Int):List Int:=Z5 [] (J1 (Z9++label)++M)
def Fj (s:List Int) (label:List UInt8) (info:List Int):List Int:=Z5 s (J1 ([0,32]++Z9++label)++info++[1])
def Gy:List Int:=(List.replicate 32 (0:Int)).set 0 9
def R4 (seed:List Int):List Int×List Int :=
 (Fj (R3 [100,107,112,95,112,114,107] seed) [115,107] [],v9 (Fj (R3 [100,107,112,95,112,114,107] seed) [115,107] []) Gy)
def Cd (dh enc to:List Int):List Int:=Fj (R3 [101,97,101,95,112,114,107] dh) [115,104,97,114,101,100,95,115,101,99,114,101,116] (enc++to)
theorem Qa (s:List Int) (l:List UInt8) (i:List Int):q8 256 (Fj s l i):=Qx _ _
theorem Kn (s:List Int) (l:List UInt8) (i:List Int):(Fj s l i).length=32:=Cv _ _
theorem Nu (l:List UInt8) (i:List Int):q8 256 (R3 l i):=Qx _ _
theorem Nv (l:List UInt8) (i:List Int):(R3 l i).length=32:=Cv _ _
theorem X6 (k u:List Int):q8 256 (v9 k u):=f11 32 _
theorem Ah (k u:List Int):(v9 k u).length=32:=by rw [v9,Ws,A0,Af]
theorem c43:q8 256 Gy:=by unfold Gy;exact Zs (d07 32) (by decide) (by decide)
theorem c44:Gy.length=32:=by simp [Gy]
theorem Vb {M:List Int} (hM:q8 256 M) (lM:M.length<1000000000):B2 [] M=some (Z5 [] M):=by
 unfold B2
 rw [Uz (key:=[]) trivial (by decide) (fun x hx=>by rw [List.mem_singleton.1 hx];exact hM) (by simp) (by simp;omega)]
 simp
theorem d09 {label:List UInt8} {n:Nat} {M:List Int} (hl:label.length<1000) (hM:q8 256 M) (lM:M.length≤n) (hn:n<1000000):Gb label n M=some (R3 label M):=by
 unfold Gb
 rw [if_pos (by simp only [List.length_cons,List.length_nil];omega),m6,e26 lM (by omega),Option.bind_some]
 have h:(J1 (Z9++label)++M).length<2000000:=by rw [List.length_append,O7,List.length_append];simp only [Z9,List.length_cons,List.length_nil];omega
 have h1:(J1 (Z9++label)).length<2000:=by rw [O7,List.length_append];simp only [Z9,List.length_cons,List.length_nil];omega
 show (if (((J1 (Z9++label)).length:Int)+M.length)*1≤140737488355328 then (B2 [] (J1 (Z9++label)++M)).bind fun x13=>some x13 else none)=_
 rw [if_pos (by omega),Vb (s6 (Ag _) hM) (by omega)];rfl
theorem b01 {label:List UInt8} {n:Nat} {M:List Int} (hl:label.length<1000) (hM:q8 256 M) (lM:M.length≤n) (hn:n<1000000):Bt label n M=some (R3 label M):=by
 unfold Bt
 rw [if_pos (by simp only [List.length_cons,List.length_nil];omega),m6,b74 lM (by omega),Option.bind_some]
 have h:(J1 (Z9++label)++M).length<2000000:=by rw [List.length_append,O7,List.length_append];simp only [Z9,List.length_cons,List.length_nil];omega
 have h1:(J1 (Z9++label)).length<2000:=by rw [O7,List.length_append];simp only [Z9,List.length_cons,List.length_nil];omega
 show (if (((J1 (Z9++label)).length:Int)+M.length)*1≤140737488355328 then (B2 [] (J1 (Z9++label)++M)).bind fun x13=>some x13 else none)=_
 rw [if_pos (by omega),Vb (s6 (Ag _) hM) (by omega)];rfl
theorem i80 {m:List Int} (h:m.length=32):T9 (List.replicate 32 0) 0 m=m:=by
 unfold T9
 rw [List.take_zero,List.nil_append,List.drop_of_length_le (by rw [List.length_replicate];omega),List.append_nil]
theorem b02 {s info:List Int} (hs:q8 256 s) (ls:s.length=32) (hi:q8 256 info) (li:info.length≤65536) :
  ((G2 (List.take 32 s) info 32).bind fun r25=>match r25 with
     |(Sum.inl (x22,x23))=>nm ((T9 (List.replicate 32 (0:Int)) 0 (List.take 32 (List.take x22 x23))):List Int) fun x24=>some x24
     |(Sum.inr _)=>some (List.replicate 32 (0:Int)))=some (Z5 s (info++[1])):=by
 have t:s.take 32=s:=List.take_of_length_le (by omega)
 have h:=Ya (n:=32) hs hi (by omega) li (by decide) (by decide)
 have h:G2 s info 32=_:=h
 have t1:(Z5 s (info++[1])).take 32=Z5 s (info++[1]):=List.take_of_length_le (by rw [Cv];decide)
 rw [t,h,Option.bind_some]
 simp only
 rw [m6,t1,t1,i80 (Cv _ _)]
theorem e27 {s:List Int} {label:List UInt8} {L:List (List Int)} (hs:q8 256 s) (ls:s.length=32) (hl:label.length<1000) (hM:q8 256 L.flatten) (lM:L.flatten.length<1000) (hn:L.length<1000) :
  Jn s label L=some (Fj s label L.flatten):=by
 unfold Jn
 obtain ⟨k,x,e,h0⟩:=b76 (L:=L) (by omega) (by omega)
 rw [if_pos (by simp only [List.length_cons,List.length_nil];omega),m6,e,Option.bind_some]
 simp only
 rw [h0]
 have h1:(J1 ([0,32]++Z9++label)).length<2000:=by rw [O7,List.length_append];simp only [Z9,List.length_cons,List.length_nil,List.length_append];omega
 have he:=b02 hs ls (info:=J1 ([0,32]++Z9++label)++L.flatten) (s6 (Ag _) hM) (by rw [List.length_append];omega)
 show (if (((J1 ([0,32]++Z9++label)).length:Int)+L.flatten.length)*1≤140737488355328 then _ else none)=_
 rw [if_pos (by omega),m6]
 exact he
theorem b77 {s a b:List Int} {label:List UInt8} (hs:q8 256 s) (ls:s.length=32) (hl:label.length<1000) (ha:q8 256 a) (hb:q8 256 b) (la:a.length=32) (lb:b.length=32) :
  Ed s label 32 32 a b=some (Fj s label (a++b)):=by
 unfold Ed
 rw [if_pos (by simp only [List.length_cons,List.length_nil];omega),m6,b75 (by omega) (by decide) (by omega) (by decide),Option.bind_some]
 have h0:(a++b).length=64:=by rw [List.length_append];omega
 have h1:(J1 ([0,32]++Z9++label)).length<2000:=by rw [O7,List.length_append];simp only [Z9,List.length_cons,List.length_nil,List.length_append];omega
 have he:=b02 hs ls (info:=J1 ([0,32]++Z9++label)++(a++b)) (s6 (Ag _) (s6 ha hb)) (by rw [List.length_append];omega)
 show (if (((J1 ([0,32]++Z9++label)).length:Int)+(a++b).length)*1≤140737488355328 then _ else none)=_
 rw [if_pos (by omega)]
 exact he
theorem c45 {k:List Int} (hk:q8 256 k) (lk:k.length=32):Cy k=some (v9 k Gy):=by
 unfold Cy
 rw [show (List.replicate 32 (0:Int)).set 0 9=Gy from rfl,c33 hk lk c43 c44];rfl
theorem c46 {M:List Int} {n:Nat} (hM:q8 256 M) (lM:M.length≤n) (hn:n<1000000):Jo n M=some (R4 M):=by
 unfold Jo
 rw [d09 (by decide) hM lM hn,Option.bind_some,e27 (L:=[]) (Nu _ _) (Nv _ _) (by decide) trivial (by decide) (by decide),Option.bind_some]
 rw [List.flatten_nil,c45 (Qa _ _ _) (Kn _ _ _)];rfl
theorem Yb {dh enc to:List Int} (h1:q8 256 dh) (l1:dh.length=32) (h2:q8 256 enc) (l2:enc.length=32) (h3:q8 256 to) (l3:to.length=32):Cp dh enc to=some (Cd dh enc to):=by
 unfold Cp
 rw [b01 (by decide) h1 (by omega) (by decide),Option.bind_some,b77 (Nu _ _) (Nv _ _) (by decide) h2 h3 l2 l3];rfl
theorem b78 {label:List UInt8} {M:List Int} (hl:label.length<1000) (hM:q8 256 M) (lM:M.length<1000000):M6 [75,69,77,0,32] label M=some (R3 label M):=by
 unfold M6
 rw [if_pos (by simp only [List.length_cons,List.length_nil];omega),if_pos (by simp only [List.length_append,List.length_cons,List.length_nil];omega),m6]
 have h1:(J1 (Z9++label)).length<2000:=by rw [O7,List.length_append];simp only [Z9,List.length_cons,List.length_nil];omega
 show (if (((J1 (Z9++label)).length:Int)+M.length)*1≤140737488355328 then (Bw [] (J1 (Z9++label)++M)).bind fun x13=>some x13 else none)=_
 rw [if_pos (by omega),Nt (key:=[]) trivial (s6 (Ag _) hM) (by decide) (by rw [List.length_append];omega)];rfl
theorem d10 {s info:List Int} {label:List UInt8} (hs:q8 256 s) (ls:s.length=32) (hl:label.length<1000) (hi:q8 256 info) (li:info.length<1000):K2 [75,69,77,0,32] s label info 32=some (Fj s label info):=by
 unfold K2
 have h1:(J1 ([0,32]++Z9++label)).length<2000:=by rw [O7,List.length_append];simp only [Z9,List.length_cons,List.length_nil,List.length_append];omega
 have h2:(J1 (Z9++label)).length<2000:=by rw [O7,List.length_append];simp only [Z9,List.length_cons,List.length_nil];omega
 have e:([IntKind.wrap .u8 (IntKind.wrap .i64 (Int.tdiv 32 256)),IntKind.wrap .u8 (Int.tmod 32 256)]:List Int)=[0,32]:=by decide
 have e2:J1 ([0,32]++Z9++label)=[0,32]++J1 (Z9++label):=by rw [List.append_assoc,b00];rfl
 have t:s.take 32=s:=List.take_of_length_le (by omega)
 rw [m6,e,if_pos (by simp only [List.length_cons,List.length_nil];omega),if_pos (by simp only [List.length_append,List.length_cons,List.length_nil];omega)]
 show (if ((([0,32]:List Int).length:Int)+(J1 (Z9++label)).length)*1≤140737488355328 then nm ([0,32]++J1 (Z9++label)) fun x30=>if ((x30.length:Int)+info.length)*1≤140737488355328 then (W7 (s.take 32) (x30++info) 32).bind fun x31=>some x31 else none else none)=_
 rw [if_pos (by simp only [List.length_cons,List.length_nil];omega),m6,←e2,if_pos (by omega),t]
 have h:=Va (n:=32) (info:=J1 ([0,32]++Z9++label)++info) hs (s6 (Ag _) hi) (by omega) (by rw [List.length_append];omega) (by decide) (by decide)
 have h:W7 s (J1 ([0,32]++Z9++label)++info) 32=_:=h
 rw [h];rfl
theorem b03 {b:List Int} {i:Nat} (h:i<b.length):b.take (i+1)=b.take i++[b.getD i 0]:=by
 rw [List.take_succ_eq_append_getElem h];simp [List.getD,h]
theorem h92 {b:List Int} (hb:b.length=32):∀ (n f:Nat),n≤32->n<f->W8 b f ((32-n:Nat):Int) (b.take (32-n)++List.replicate n 0)=some b
 |_,0,_,h=>by omega
 |0,f+1,_,_=>by
  rw [W8.eq_2,i0 (by simp;omega),List.take_of_length_le (by omega)];simp
 |n+1,f+1,h,h'=>by
  have e:b.take (32-n)=b.take (32-(n+1))++[b.getD (32-(n+1)) 0]:=by
   rw [←b03 (by omega),show 32-n=(32-(n+1))+1 by omega]
  rw [W8.eq_2,j7 (by simp;omega),if_pos (by omega),if_pos (by omega),m6,Int.toNat_natCast,Jc _ (by rw [List.length_take];omega),←e,show ((32-(n+1):Nat):Int)+1=((32-n:Nat):Int) by omega,A7 (by omega)]
  exact h92 hb n f (by omega) (by omega)
theorem b04 {b:List Int} (hb:b.length=32):Gg (b.take (Int.toNat (32-0)))=some b:=by
 have t:b.take (Int.toNat (32-0))=b:=List.take_of_length_le (by rw [hb];decide)
 have h:=h92 hb 32 f9 (by decide) (by unfold f9;omega)
 have h:W8 b f9 0 (List.replicate 32 0)=_:=h
 unfold Gg
 rw [t,h];rfl
theorem f18 {k:List Int} (hk:q8 256 k) (lk:k.length=32):Mn k=some (v9 k Gy):=by
 unfold Mn
 rw [show (List.replicate 32 (0:Int)).set 0 9=Gy from rfl,a91 hk lk c43 c44];rfl
end Go.Eng
namespace Go.Eng
set_option maxRecDepth 100000
set_option maxHeartbeats 1000000
theorem d11 {dh enc to:List Int} (h1:q8 256 dh) (l1:dh.length=32) (h2:q8 256 enc) (l2:enc.length=32) (h3:q8 256 to) (l3:to.length=32):Gj dh enc to=some (Cd dh enc to):=by
 unfold Gj
 have t1:dh.take 32=dh:=List.take_of_length_le (by omega)
 have t2:enc.take 32=enc:=List.take_of_length_le (by omega)
 have t3:to.take 32=to:=List.take_of_length_le (by omega)
 rw [t1,t2,t3,b78 (by decide) h1 (by omega),Option.bind_some,List.length_nil,if_pos (by omega),List.nil_append,if_pos (by omega),m6]
 rw [d10 (Nu _ _) (Nv _ _) (by decide) (s6 h2 h3) (by rw [List.length_append];omega),Option.bind_some,b04 (Kn _ _ _)];rfl
def G4:List Int:=List.replicate 32 0
theorem f88 {b:List Int} (hb:q8 256 b):∀ (n f i a:Nat),i+n=b.length->b.length<1000000->n<f->a<256->∃ r:Nat,N7 b f (a:Int) (i:Int)=some (r:Int)/\r<256/\(r=0↔a=0/\∀ j,i≤j->j<b.length->b.getD j 0=0)
 |_,0,_,_,_,_,h,_=>by omega
 |0,f+1,i,a,h,_,_,ha=>by
  rw [N7.eq_2,i0 (by simp;omega)]
  exact ⟨a,rfl,ha,⟨fun h'=>⟨h',fun j h1 h2=>by omega⟩,fun h'=>h'.1⟩⟩
 |n+1,f+1,i,a,h,hs,h',ha=>by
  obtain ⟨g1,g2⟩:=Y6 (by decide) i hb
  obtain ⟨x,e⟩:=Int.eq_ofNat_of_zero_le g1
  have hx:x<256:=by omega
  rw [N7.eq_2,j7 (by simp;omega),if_pos (by omega),Int.toNat_natCast,e,d84 ha hx,show (i:Int)+1=((i+1:Nat):Int) from rfl,A7 (by omega)]
  obtain ⟨r,h1,h2,h3⟩:=f88 hb n f (i+1) (a|||x) (by omega) hs (by omega) (Nat.or_lt_two_pow (n:=8) ha hx)
  refine ⟨r,h1,h2,h3.trans ?_⟩
  rw [Nat.or_eq_zero_iff]
  constructor
  ·rintro ⟨⟨p,q⟩,s⟩
   refine ⟨p,fun j hj hj' => ?_⟩
   by_cases hij:j=i
   ·rw [hij,e,q];rfl
   ·exact s j (by omega) hj'
  ·rintro ⟨p,s⟩
   have:=s i (Nat.le_refl _) (by omega)
   exact ⟨⟨p,by omega⟩,fun j hj hj'=>s j (by omega) hj'⟩
theorem g54 {b:List Int} (hb:q8 256 b) (lb:b.length=32):Jp b=some (b==G4):=by
 obtain ⟨r,h1,h2,h3⟩:=f88 hb 32 f9 0 0 (by omega) (by omega) (by unfold f9;omega) (by decide)
 have h1:N7 b f9 0 0=_:=h1
 unfold Jp
 rw [h1,Option.bind_some]
 congr 1
 by_cases hr:r=0
 ·have hz:b=G4:=by
   refine List.ext_getElem (by rw [lb];rfl) fun j hj hj' => ?_
   have:=(h3.1 hr).2 j (Nat.zero_le _) hj
   simp only [List.getD,List.getElem?_eq_getElem hj,Option.getD_some] at this
   rw [this];exact (List.getElem_replicate ..).symm
  rw [hz,hr];rfl
 ·have hz:b≠G4:=fun e=>hr (h3.2 ⟨rfl,fun j _ hj=>by
   subst e
   simp only [List.getD,List.getElem?_eq_getElem hj,Option.getD_some];exact List.getElem_replicate ..⟩)
  rw [beq_false_of_ne hz]
  apply beq_false_of_ne
  omega
theorem Yc {k u:List Int} (hk:q8 256 k) (lk:k.length=32) (hu:q8 256 u) (lu:u.length=32):S7 k u=some (if v9 k u=G4 then .inr () else .inl (v9 k u)):=by
 have t:(v9 k u).take 32=v9 k u:=List.take_of_length_le (by rw [Ah];decide)
 unfold S7
 rw [c33 hk lk hu lu,Option.bind_some,t,g54 (X6 _ _) (Ah _ _),Option.bind_some]
 by_cases h:v9 k u=G4
 ·rw [if_pos h,j7 (by simpa using h)]
 ·rw [if_neg h,i0 (by simpa using h)]
theorem b05 (M:List Int):q8 256 (R4 M).1/\(R4 M).1.length=32/\q8 256 (R4 M).2/\(R4 M).2.length=32:=⟨Qa _ _ _,Kn _ _ _,X6 _ _,Ah _ _⟩
def Qb (to M:List Int):List Int⊕Unit:=if v9 (R4 M).1 to=G4 then .inr () else .inl (Cd (v9 (R4 M).1 to) (R4 M).2 to)
theorem e28 {to M:List Int} (h:v9 (R4 M).1 to=G4):Qb to M = .inr ():=if_pos h
theorem b06 {to M:List Int} (h:¬ v9 (R4 M).1 to=G4):Qb to M = .inl (Cd (v9 (R4 M).1 to) (R4 M).2 to):=if_neg h
theorem e29 {k u:List Int} (h:v9 k u=G4):(if v9 k u=G4 then .inr () else .inl (v9 k u):List Int⊕Unit) = .inr ():=if_pos h
theorem e35 {k u:List Int} (h:¬ v9 k u=G4):(if v9 k u=G4 then .inr () else .inl (v9 k u):List Int⊕Unit) = .inl (v9 k u):=if_neg h
theorem g55 {to M:List Int} (ht:q8 256 to) (lt:to.length=32) :
  ((S7 (R4 M).1 to).bind fun r9=>match r9 with
   |(Sum.inl x8)=>(Cp x8 (R4 M).2 to).bind fun x9=>some (Sum.inl ((R4 M).2,x9))
   |(Sum.inr ())=>some (Sum.inr ()))=some (match Qb to M with | .inl c => .inl ((R4 M).2,c) | .inr () => .inr ()):=by
 obtain ⟨p1,p2,p3,p4⟩:=b05 M
 rw [Yc p1 p2 ht lt,Option.bind_some]
 by_cases h:v9 (R4 M).1 to=G4
 ·rw [e28 h,e29 h]
 ·rw [b06 h,e35 h]
  simp only
  rw [Yb (X6 _ _) (Ah _ _) p3 p4 ht lt];rfl
theorem f19 {to M:List Int} {n:Nat} (ht:q8 256 to) (lt:to.length=32) (hM:q8 256 M) (lM:M.length≤n) (hn:n<1000000) :
  Mi to n M=some (match Qb to M with | .inl c => .inl ((R4 M).2,c) | .inr () => .inr ()):=by
 unfold Mi
 rw [c46 hM lM hn,Option.bind_some]
 exact g55 ht lt
def La (s enc:List Int):List Int⊕Unit:=if v9 s enc=G4 then .inr () else .inl (Cd (v9 s enc) enc (v9 s Gy))
theorem b07 {s enc:List Int} (h:v9 s enc=G4):La s enc = .inr ():=if_pos h
theorem Qc {s enc:List Int} (h:¬ v9 s enc=G4):La s enc = .inl (Cd (v9 s enc) enc (v9 s Gy)):=if_neg h
theorem b08 {s enc:List Int} (hs:q8 256 s) (ls:s.length=32) (he:q8 256 enc) (le:enc.length=32):Ml s enc=some (La s enc):=by
 unfold Ml
 rw [Yc hs ls he le,Option.bind_some]
 by_cases h:v9 s enc=G4
 ·rw [b07 h,e29 h]
 ·rw [Qc h,e35 h]
  simp only
  rw [c45 hs ls,Option.bind_some,Yb (X6 _ _) (Ah _ _) he le (X6 _ _) (Ah _ _)];rfl
theorem e36 {s enc:List Int} (hs:q8 256 s) (ls:s.length=32) (he:q8 256 enc) (le:enc.length=32):Ju s enc=some (match La s enc with | .inl c=>(c,true) | .inr ()=>(G4,false)):=by
 unfold Ju
 rw [a91 hs ls he le,Option.bind_some]
 by_cases h:v9 s enc=G4
 ·rw [b07 h,h,j7 (by decide)]
 ·rw [Qc h,i0 (by simpa [G4] using h),f18 hs ls,Option.bind_some,d11 (X6 _ _) (Ah _ _) he le (X6 _ _) (Ah _ _)];rfl
end Go.Eng
