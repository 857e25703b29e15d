/-
  Part of a proof: KemSa.
-/
import Derived.Test.YtonkmgaofdhbaaaGreatDoorKemRa
set_option linter.unusedVariables false
set_option linter.unusedSimpArgs false
namespace Go.Eng
set_option maxRecDepth 100000
set_option maxHeartbeats 1000000
def rr (x:Int) (n:Nat):Int:=bits .u32 .or (Int.fdiv x (2^n)) (IntKind.wrap .u32 (x*2^(32-n)))
theorem i82 (x:Int):v7 x 7=some (rr x 7):=rfl
theorem h86 (x:Int):v7 x 18=some (rr x 18):=rfl
theorem h87 (x:Int):v7 x 17=some (rr x 17):=rfl
theorem h88 (x:Int):v7 x 19=some (rr x 19):=rfl
theorem i83 (x:Int):v7 x 6=some (rr x 6):=rfl
theorem h89 (x:Int):v7 x 11=some (rr x 11):=rfl
theorem h90 (x:Int):v7 x 25=some (rr x 25):=rfl
theorem i84 (x:Int):v7 x 2=some (rr x 2):=rfl
theorem h91 (x:Int):v7 x 13=some (rr x 13):=rfl
theorem h92 (x:Int):v7 x 22=some (rr x 22):=rfl
theorem j53 (x:Int):B1 x 7=some (rr x 7):=rfl
theorem i85 (x:Int):B1 x 18=some (rr x 18):=rfl
theorem i86 (x:Int):B1 x 17=some (rr x 17):=rfl
theorem i87 (x:Int):B1 x 19=some (rr x 19):=rfl
theorem j54 (x:Int):B1 x 6=some (rr x 6):=rfl
theorem i88 (x:Int):B1 x 11=some (rr x 11):=rfl
theorem i89 (x:Int):B1 x 25=some (rr x 25):=rfl
theorem j55 (x:Int):B1 x 2=some (rr x 2):=rfl
theorem i90 (x:Int):B1 x 13=some (rr x 13):=rfl
theorem i91 (x:Int):B1 x 22=some (rr x 22):=rfl
abbrev Oy (a b:Int):Int:=bits .u32 .xor a b
abbrev e26 (a b:Int):Int:=bits .u32 .and a b
def h93 (b:List Int) (t:Nat):Int:=b.getD (4*t) 0*16777216+b.getD (4*t+1) 0*65536+b.getD (4*t+2) 0*256+b.getD (4*t+3) 0
def h94 (W:List Int) (t:Nat):Int :=
 (W.getD (t-16) 0+Oy (Oy (rr (W.getD (t-15) 0) 7) (rr (W.getD (t-15) 0) 18)) (Int.fdiv (W.getD (t-15) 0) (2^3))+W.getD (t-7) 0 +
  Oy (Oy (rr (W.getD (t-2) 0) 17) (rr (W.getD (t-2) 0) 19)) (Int.fdiv (W.getD (t-2) 0) (2^10)))%4294967296
def d19:Nat->List Int->List Int
 |0,W=>W
 |n+1,W=>d19 n (W++[h94 W (63-n)])
def Ql (b:List Int):Nat->List Int->List Int
 |0,W=>W
 |n+1,W=>Ql b n (W++[h93 b (15-n)])
def Ll (b:List Int):List Int:=d19 48 (Ql b 16 [])
theorem Tl (b:List Int):∀ n W,(Ql b n W).length=W.length+n
 |0,_=>rfl
 |n+1,W=>by rw [Ql,Tl b n];simp;omega
theorem e27:∀ n W,(d19 n W).length=W.length+n
 |0,_=>rfl
 |n+1,W=>by rw [d19,e27 n];simp;omega
theorem f31 (b:List Int):(Ll b).length=64:=by rw [Ll,e27,Tl];rfl
structure S8 where
 a:Int
 b:Int
 c:Int
 d:Int
 e:Int
 f:Int
 g:Int
 h:Int
def S8.l (s:S8):List Int:=[s.a,s.b,s.c,s.d,s.e,s.f,s.g,s.h]
def t1P (k w:Int) (s:S8):Int :=
 IntKind.wrap .u32 (IntKind.wrap .u32 (IntKind.wrap .u32 (IntKind.wrap .u32 (s.h+Oy (Oy (rr s.e 6) (rr s.e 11)) (rr s.e 25))+Oy (e26 s.e s.f) (e26 (Oy (IntKind.max .u32) s.e) s.g))+k)+w)
def t2P (s:S8):Int :=
 IntKind.wrap .u32 (Oy (Oy (rr s.a 2) (rr s.a 13)) (rr s.a 22)+Oy (Oy (e26 s.a s.b) (e26 s.a s.c)) (e26 s.b s.c))
def f32 (k w:Int) (s:S8):S8:=⟨IntKind.wrap .u32 (t1P k w s+t2P s),s.a,s.b,s.c,IntKind.wrap .u32 (s.d+t1P k w s),s.e,s.f,s.g⟩
def Cg (W:List Int):Nat->S8->S8
 |0,s=>s
 |n+1,s=>Cg W n (f32 (y5.getD (63-n) 0) (W.getD (63-n) 0) s)
def j56 (s v:S8):S8:=⟨IntKind.wrap .u32 (s.a+v.a),IntKind.wrap .u32 (s.b+v.b),IntKind.wrap .u32 (s.c+v.c),IntKind.wrap .u32 (s.d+v.d),IntKind.wrap .u32 (s.e+v.e),IntKind.wrap .u32 (s.f+v.f),IntKind.wrap .u32 (s.g+v.g),IntKind.wrap .u32 (s.h+v.h)⟩
def h95 (s:S8) (b:List Int):S8:=j56 s (Cg (Ll b) 64 s)
theorem j57 {a b:Nat} (r:Nat) (h:a<2^r) (hr:r≤32) (hb:b*2^r<4294967296):bits .u32 .or (((b*2^r:Nat)):Int) (a:Int)=((b*2^r+a:Nat):Int):=by
 have ha:a<4294967296:=Nat.lt_of_lt_of_le h (Nat.pow_le_pow_right (by decide) hr)
 show IntKind.u32.wrap (((BitVec.ofInt 32 ((b*2^r:Nat):Int)|||BitVec.ofInt 32 (a:Int):BitVec 32).toNat:Nat):Int)=_
 rw [BitVec.ofInt_natCast,BitVec.ofInt_natCast,BitVec.toNat_or,BitVec.toNat_ofNat,BitVec.toNat_ofNat]
 simp only [Nat.reducePow]
 rw [Nat.mod_eq_of_lt ha,Nat.mod_eq_of_lt hb,Nat.or_comm,Xh h,Nat.mul_comm,Nat.add_comm,b00,Nat.mod_eq_of_lt]
 have:=Nat.or_lt_two_pow (n:=32) ha hb
 rw [Xh h,Nat.mul_comm] at this
 omega
theorem i92 {a b c d:Int} (ha:0≤a/\a<256) (hb:0≤b/\b<256) (hc:0≤c/\c<256) (hd:0≤d/\d<256) :
  bits .u32 .or (bits .u32 .or (bits .u32 .or (IntKind.wrap .u32 (IntKind.wrap .u32 a*2^24)) (IntKind.wrap .u32 (IntKind.wrap .u32 b*2^16))) (IntKind.wrap .u32 (IntKind.wrap .u32 c*2^8))) (IntKind.wrap .u32 d)=a*16777216+b*65536+c*256+d:=by
 obtain ⟨a,rfl⟩:=Int.eq_ofNat_of_zero_le ha.1
 obtain ⟨b,rfl⟩:=Int.eq_ofNat_of_zero_le hb.1
 obtain ⟨c,rfl⟩:=Int.eq_ofNat_of_zero_le hc.1
 obtain ⟨d,rfl⟩:=Int.eq_ofNat_of_zero_le hd.1
 have ha:=Int.ofNat_lt.1 ha.2
 have hb:=Int.ofNat_lt.1 hb.2
 have hc:=Int.ofNat_lt.1 hc.2
 have hd:=Int.ofNat_lt.1 hd.2
 have w1:IntKind.wrap .u32 (IntKind.wrap .u32 (a:Int)*2^24)=((a*2^24:Nat):Int):=by rw [b00,Nat.mod_eq_of_lt (by omega),d97,b00,Nat.mod_eq_of_lt (by omega)]
 have w2:IntKind.wrap .u32 (IntKind.wrap .u32 (b:Int)*2^16)=((b*2^16:Nat):Int):=by rw [b00,Nat.mod_eq_of_lt (by omega),d97,b00,Nat.mod_eq_of_lt (by omega)]
 have w3:IntKind.wrap .u32 (IntKind.wrap .u32 (c:Int)*2^8)=((c*2^8:Nat):Int):=by rw [b00,Nat.mod_eq_of_lt (by omega),d97,b00,Nat.mod_eq_of_lt (by omega)]
 have w4:IntKind.wrap .u32 (d:Int)=((d:Nat):Int):=by rw [b00,Nat.mod_eq_of_lt (by omega)]
 rw [w1,w2,w3,w4]
 rw [j57 24 (by omega) (by decide) (by omega)]
 rw [show a*2^24+b*2^16=(a*256+b)*2^16 by omega]
 rw [j57 16 (by omega) (by decide) (by omega)]
 rw [show (a*256+b)*2^16+c*2^8=(a*65536+b*256+c)*2^8 by omega]
 rw [j57 8 (by omega) (by decide) (by omega)]
 omega
theorem d20 {W:List Int} {n:Nat} (x:Int):(W++List.replicate (n+1) 0).set W.length x=(W++[x])++List.replicate n 0:=by
 rw [List.set_append_right _ _ (Nat.le_refl _),Nat.sub_self,List.replicate_succ,List.set_cons_zero,List.append_assoc];rfl
theorem Ed {W Z:List Int} {i:Nat} (h:i<W.length):(W++Z).getD i 0=W.getD i 0:=by
 simp [List.getD,List.getElem?_append_left h]
theorem e28 {b:List Int} (hb:p9 256 b) (hn:b.length=64):∀ (n f:Nat) (W:List Int),n≤16->W.length=16-n->n<f ->
  I4 b f ((16-n:Nat):Int) (W++List.replicate (48+n) 0)=some (Ql b n W++List.replicate 48 0)
 |_,0,_,_,_,h=>by omega
 |0,f+1,W,_,_,_=>by rw [I4.eq_2,i0 (by decide)];rfl
 |n+1,f+1,W,h,h',h''=>by
  rw [I4.eq_2,j7 (by simp;omega)]
  have e0:4*((16-(n+1):Nat):Int)=((4*(15-n):Nat):Int):=by omega
  have e1:((4*(15-n):Nat):Int)+1=((4*(15-n)+1:Nat):Int):=rfl
  have e2:((4*(15-n):Nat):Int)+2=((4*(15-n)+2:Nat):Int):=rfl
  have e3:((4*(15-n):Nat):Int)+3=((4*(15-n)+3:Nat):Int):=rfl
  simp only [m6,e0,A8 (n:=4*(15-n)) (by omega),e1,e2,e3,A8 (n:=4*(15-n)+1) (by omega),A8 (n:=4*(15-n)+2) (by omega),A8 (n:=4*(15-n)+3) (by omega),Int.toNat_natCast,hn]
  rw [if_pos (by omega),if_pos (by omega),if_pos (by omega),if_pos (by omega),if_pos (by omega)]
  rw [i92 (Y4 (by decide) _ hb) (Y4 (by decide) _ hb) (Y4 (by decide) _ hb) (Y4 (by decide) _ hb)]
  rw [show 16-(n+1)=W.length from h'.symm,show 48+(n+1)=(48+n)+1 from rfl,d20,show ((W.length:Nat):Int)+1=((16-n:Nat):Int) by omega,A8 (by omega)]
  have ih:=e28 hb hn n f (W++[h93 b (15-n)]) (by omega) (by simp;omega) (by omega)
  exact ih
theorem l08 (a b c d:Int):IntKind.wrap .u32 (IntKind.wrap .u32 (IntKind.wrap .u32 (a+b)+c)+d)=(a+b+c+d)%4294967296:=by
 rw [Te,Te,Te];omega
theorem e29:∀ (n f:Nat) (W:List Int),n≤48->W.length=64-n->n<f ->
  I5 f ((64-n:Nat):Int) (W++List.replicate n 0)=some (d19 n W)
 |_,0,_,_,_,h=>by omega
 |0,f+1,W,_,_,_=>by rw [I5.eq_2,i0 (by decide)];simp [d19]
 |n+1,f+1,W,h,h',h''=>by
  rw [I5.eq_2,j7 (by simp;omega)]
  have e0:((64-(n+1):Nat):Int)-15=((63-n-15:Nat):Int):=by omega
  have e1:((64-(n+1):Nat):Int)-2=((63-n-2:Nat):Int):=by omega
  have e2:((64-(n+1):Nat):Int)-16=((63-n-16:Nat):Int):=by omega
  have e3:((64-(n+1):Nat):Int)-7=((63-n-7:Nat):Int):=by omega
  simp only [m6,e0,e1,e2,e3,A8 (n:=63-n-15) (by omega),A8 (n:=63-n-2) (by omega),A8 (n:=63-n-16) (by omega),A8 (n:=63-n-7) (by omega),Int.toNat_natCast,
   i82,h86,h87,h88,Option.bind_some,Ed (W:=W) (i:=63-n-15) (by omega),Ed (W:=W) (i:=63-n-2) (by omega),Ed (W:=W) (i:=63-n-16) (by omega),Ed (W:=W) (i:=63-n-7) (by omega)]
  rw [if_pos (by omega),if_pos (by omega),if_pos (by omega),if_pos (by omega),if_pos (by omega),l08]
  rw [show 64-(n+1)=W.length from h'.symm,d20,show ((W.length:Nat):Int)+1=((64-n:Nat):Int) by omega,A8 (by omega)]
  exact e29 n f (W++[h94 W (63-n)]) (by omega) (by simp;omega) (by omega)
theorem b89 {b:List Int} (hb:p9 256 b) (hn:b.length=64):El b=some (Ll b):=by
 unfold El
 have h1:=e28 hb hn 16 f9 [] (by decide) rfl (by unfold f9;omega)
 rw [List.nil_append] at h1
 rw [show (0:Int)=((16-16:Nat):Int) from rfl]
 have h1:I4 b f9 ((16-16:Nat):Int) (List.replicate 64 ((16-16:Nat):Int))=_:=h1
 rw [h1,Option.bind_some]
 have h2:=e29 48 f9 (Ql b 16 []) (by decide) (by rw [Tl];rfl) (by unfold f9;omega)
 have h2:I5 f9 16 (Ql b 16 []++List.replicate 48 0)=_:=h2
 rw [h2];rfl
theorem c52 (W:List Int):∀ (n f:Nat) (s:S8),n≤64->n<f->B7 W f ((64-n:Nat):Int) s.l=some (Cg W n s).l
 |_,0,_,_,h=>by omega
 |0,f+1,s,_,_=>by rw [B7.eq_2,i0 (by decide)];rfl
 |n+1,f+1,s,h,h'=>by
  rw [B7.eq_2,j7 (by simp;omega),if_pos (by omega)]
  have e0:((64-(n+1):Nat):Int)=((63-n:Nat):Int):=by omega
  rw [e0]
  obtain ⟨a,b,c,d,e,f',g,h⟩:=s
  simp only [S8.l,m6,Int.toNat_natCast,List.getD_cons_zero,List.getD_cons_succ,i83,h89,h90,i84,h91,h92,Option.bind_some]
  rw [if_pos (by omega)]
  rw [show ((63-n:Nat):Int)+1=((64-n:Nat):Int) by omega,A8 (by omega)]
  exact c52 W n f (f32 (y5.getD (63-n) 0) (W.getD (63-n) 0) ⟨a,b,c,d,e,f',g,h⟩) (by omega) (by omega)
theorem i93 (s v:S8):M2 v.l f9 0 s.l=some (j56 s v).l:=by
 obtain ⟨a0,a1,a2,a3,a4,a5,a6,a7⟩:=s
 obtain ⟨b0,b1,b2,b3,b4,b5,b6,b7⟩:=v
 kernel_rfl
theorem g70 (s:S8) (off n:Nat) (c:Int) {rows:List Int} (hr:p9 256 ((rows.drop off).take 64)) (hl:((rows.drop off).take 64).length=64) :
  F8 off 64 s.l off n c rows=some (h95 s ((rows.drop off).take 64)).l:=by
 unfold F8
 rw [b89 hr hl,Option.bind_some]
 have h:=c52 (Ll ((rows.drop off).take 64)) 64 f9 s (by decide) (by unfold f9;omega)
 have h:B7 (Ll ((rows.drop off).take 64)) f9 0 s.l=_:=h
 rw [h,Option.bind_some,i93];rfl
end Go.Eng
namespace Go.Eng
set_option maxRecDepth 100000
set_option maxHeartbeats 1000000
def Gm:Nat->S8->List Int->S8
 |0,s,_=>s
 |n+1,s,l=>Gm n (h95 s (l.take 64)) (l.drop 64)
theorem e35:∀ (m n:Nat) (s:S8) (l:List Int),Gm (m+n) s l=Gm n (Gm m s l) (l.drop (64*m))
 |0,n,s,l=>by simp [Gm]
 |m+1,n,s,l=>by
  rw [show m+1+n=(m+n)+1 by omega,Gm,e35 m n,Gm,List.drop_drop]
  rw [show 64+64*m=64*(m+1) by omega]
theorem e36:∀ (n:Nat) (s:S8) (l l':List Int),64*n≤l.length->Gm n s (l++l')=Gm n s l
 |0,_,_,_,_=>rfl
 |n+1,s,l,l',h=>by
  rw [Gm,Gm,List.take_append_of_le_length (by omega),List.drop_append_of_le_length (by omega),e36 n _ _ _ (by rw [List.length_drop];omega)]
def Oz (rows:List Int) (c:Int):Nat->List Int->Nat->Nat->Option (List Int×Nat×Nat)
 |0,_,_,_=>none
 |n+1,s,off,len =>
  cond (decide ((len:Int)≥64))
   (if 64≤(len:Int) then
    (F8 off 64 s off len c rows).bind fun x40 =>
     if (0:Int)≤64/\64≤(len:Int) then
      Oz rows c n x40 (off+64) (Int.toNat ((len:Int)-64))
     else none
   else none)
   (some (s,off,len))
theorem e37 (b:List Int) (c:Int):∀ f s off len,K9 b c f s off len=Oz b c f s off len
 |0,_,_,_=>rfl
 |f+1,s,off,len=>by rw [K9.eq_2,Oz];simp only [e37 b c f]
theorem b09 (b r:List Int) (c:Int):∀ f s off len,H5 b r c f s off len=Oz (r++b) c f s off len
 |0,_,_,_=>rfl
 |f+1,s,off,len=>by rw [H5.eq_2,Oz];simp only [b09 b r c f]
theorem b32 (b:List Int) (o n:Nat) (r:List Int) (c:Int):∀ f s off len,H6 b o n r c f s off len=Oz ((r.drop o).take n++b) c f s off len
 |0,_,_,_=>rfl
 |f+1,s,off,len=>by rw [H6.eq_2,Oz];simp only [b32 b o n r c f]
theorem b33 {n:Int}:∀ {l:List Int} (k:Nat),p9 n l->p9 n (l.drop k)
 |[],_,h=>by simpa using h
 |_::_,0,h=>h
 |_::_,k+1,⟨_,h⟩=>b33 k h
theorem e38 {n:Int}:∀ {l:List Int} (k:Nat),p9 n l->p9 n (l.take k)
 |[],_,h=>by simpa using h
 |_::_,0,_=>trivial
 |_::_,k+1,⟨h,h'⟩=>⟨h,e38 k h'⟩
theorem b34 {rows:List Int} (hr:p9 256 rows) (c:Int):∀ (n f:Nat) (s:S8) (off len:Nat),len/64=n->off+len=rows.length->n<f ->
  Oz rows c f s.l off len=some ((Gm n s (rows.drop off)).l,off+64*n,len-64*n)
 |_,0,_,_,_,_,_,h=>by omega
 |0,f+1,s,off,len,h1,h2,_=>by rw [Oz,i0 (by simp;omega)];simp [Gm]
 |n+1,f+1,s,off,len,h1,h2,h3=>by
  have e:Int.toNat ((len:Int)-64)=len-64:=by omega
  rw [Oz,j7 (by simp;omega),if_pos (by omega),g70 s off len c (e38 _ (b33 _ hr)) (by rw [List.length_take,List.length_drop];omega),Option.bind_some,if_pos (by omega),e]
  rw [b34 hr c n f _ (off+64) (len-64) (by omega) (by omega) (by omega),Gm,List.drop_drop]
  rw [show off+64+64*n=off+64*(n+1) by omega,show len-64-64*n=len-64*(n+1) by omega]
def h0P:S8:=⟨1779033703,3144134277,1013904242,2773480762,1359893119,2600822924,528734635,1541459225⟩
structure Got (M:List Int) (s:List Int) (off len:Nat) (c:Int) (rows:List Int):Prop where
 st:s=(Gm (M.length/64) h0P M).l
 hl:len=M.length%64
 ol:off+len=rows.length
 rd:rows.drop off=M.drop (64*(M.length/64))
 ct:c=M.length
 lim:p9 256 M
 small:M.length<1099511627776
theorem Got.rest {M s:List Int} {off len:Nat} {c:Int} {rows:List Int} (h:Got M s off len c rows):(rows.drop off).take len=M.drop (64*(M.length/64)):=by
 have h1:=h.hl
 rw [h.rd,List.take_of_length_le]
 rw [List.length_drop];omega
theorem Got.put {M b:List Int} (hM:p9 256 M) (hb:p9 256 b) (hs:M.length+b.length<1099511627776) :
  Oz (M.drop (64*(M.length/64))++b) (M.length+b.length:Nat) f9 (Gm (M.length/64) h0P M).l 0 (M.drop (64*(M.length/64))++b).length =
   some ((Gm ((M++b).length/64) h0P (M++b)).l,64*((M.length%64+b.length)/64),(M++b).length%64) /\
  Got (M++b) (Gm ((M++b).length/64) h0P (M++b)).l (64*((M.length%64+b.length)/64)) ((M++b).length%64) (M.length+b.length:Nat) (M.drop (64*(M.length/64))++b):=by
 have hlen:(M.drop (64*(M.length/64))++b).length=M.length%64+b.length:=by rw [List.length_append,List.length_drop];omega
 have hd:(M++b).drop (64*(M.length/64))=M.drop (64*(M.length/64))++b:=List.drop_append_of_le_length (by omega)
 have hk:(M++b).length/64=M.length/64+(M.length%64+b.length)/64:=by rw [List.length_append];omega
 refine ⟨?_,rfl,rfl,by rw [hlen,List.length_append];omega,?_,by rw [List.length_append],s5 hM hb,by rw [List.length_append];exact hs⟩
 ·rw [b34 (s5 (b33 _ hM) hb) _ ((M.length%64+b.length)/64) f9 _ 0 _ (by rw [hlen]) (by omega) (by unfold f9;omega)]
  rw [hk,e35,e36 _ _ _ _ (by omega),hd,List.drop_zero,hlen,List.length_append,Nat.zero_add]
  congr 3
  omega
 ·rw [hk,←hd,List.drop_drop];congr 1;omega
theorem X5 {M s b:List Int} {off len:Nat} {c:Int} {rows:List Int} (h:Got M s off len c rows) (hb:p9 256 b) (hs:M.length+b.length<1099511627776) :
  ∃ s' off' len' c',t7 b s off len c rows=some (s',off',len',c')/\Got (M++b) s' off' len' c' ((rows.drop off).take len++b):=by
 obtain ⟨p,g⟩:=Got.put h.lim hb hs
 have hl:=h.hl
 have ol:=h.ol
 refine ⟨_,_,_,_,?_,by rw [h.rest];exact g⟩
 unfold t7
 have e:IntKind.wrap .u64 (c+IntKind.wrap .u64 (b.length:Int))=((M.length+b.length:Nat):Int):=by
  rw [h.ct,Oc,Nat.mod_eq_of_lt (by omega),←Int.natCast_add,Oc,Nat.mod_eq_of_lt (by omega)]
 rw [m6,e,if_pos (by omega),if_pos (by omega),b32,h.rest,h.st,p];rfl
theorem d22 {M s b r:List Int} {c:Int} (hst:s=(Gm (M.length/64) h0P M).l) (hct:c=M.length) (hM:p9 256 M) (hr:r=M.drop (64*(M.length/64))) (hb:p9 256 b) (hs:M.length+b.length<1099511627776) :
  ∃ s' off' len' c',U7 b s c r=some (s',off',len',c')/\Got (M++b) s' off' len' c' (r++b):=by
 obtain ⟨p,g⟩:=Got.put hM hb hs
 refine ⟨_,_,_,_,?_,by rw [hr];exact g⟩
 unfold U7
 have e:IntKind.wrap .u64 (c+IntKind.wrap .u64 (b.length:Int))=((M.length+b.length:Nat):Int):=by
  rw [hct,Oc,Nat.mod_eq_of_lt (by omega),←Int.natCast_add,Oc,Nat.mod_eq_of_lt (by omega)]
 have hl:r.length≤M.length:=by rw [hr,List.length_drop];omega
 rw [m6,e,if_pos (by omega),b09,hr,hst,p];rfl
theorem Tm {b:List Int} (hb:p9 256 b) (hs:b.length<1099511627776) :
  ∃ s' off' len' c',K2 b h0P.l 0=some (s',off',len',c')/\Got b s' off' len' c' b:=by
 obtain ⟨p,g⟩:=Got.put (M:=[]) trivial hb (by simpa using hs)
 refine ⟨_,_,_,_,?_,g⟩
 unfold K2
 have e:IntKind.wrap .u64 (0+IntKind.wrap .u64 (b.length:Int))=((([]:List Int).length+b.length:Nat):Int):=by
  rw [Oc,Nat.mod_eq_of_lt (by omega),Int.zero_add,Oc,Nat.mod_eq_of_lt (by omega),List.length_nil,Nat.zero_add]
 rw [m6,e,if_pos (by omega),e37]
 rw [show h0P.l=(Gm (([]:List Int).length/64) h0P []).l from rfl]
 have p:Oz b _ f9 (Gm (([]:List Int).length/64) h0P []).l 0 b.length=_:=p
 rw [p];rfl
theorem Got.nil:Got [] h0P.l 0 0 0 []:=⟨rfl,rfl,rfl,rfl,rfl,trivial,by decide⟩
def be8 (x:Nat):List Int:=[((x/2^56%256:Nat):Int),((x/2^48%256:Nat):Int),((x/2^40%256:Nat):Int),((x/2^32%256:Nat):Int),((x/2^24%256:Nat):Int),((x/2^16%256:Nat):Int),((x/2^8%256:Nat):Int),((x%256:Nat):Int)]
theorem f99 (x:Nat):p9 256 (be8 x):=by simp only [be8,p9];refine ⟨?_,?_,?_,?_,?_,?_,?_,?_,trivial⟩<;>omega
def Rq (n:Nat):List Int:=128::List.replicate ((119-n%64)%64) 0++be8 (8*n)
theorem h96 (x:Int):Em x 8=some (.inl [IntKind.wrap .u8 (Int.fdiv (Int.fdiv (Int.fdiv (Int.fdiv (Int.fdiv (Int.fdiv (Int.fdiv x (2^8)) (2^8)) (2^8)) (2^8)) (2^8)) (2^8)) (2^8)),
  IntKind.wrap .u8 (Int.fdiv (Int.fdiv (Int.fdiv (Int.fdiv (Int.fdiv (Int.fdiv x (2^8)) (2^8)) (2^8)) (2^8)) (2^8)) (2^8)),IntKind.wrap .u8 (Int.fdiv (Int.fdiv (Int.fdiv (Int.fdiv (Int.fdiv x (2^8)) (2^8)) (2^8)) (2^8)) (2^8)),
  IntKind.wrap .u8 (Int.fdiv (Int.fdiv (Int.fdiv (Int.fdiv x (2^8)) (2^8)) (2^8)) (2^8)),IntKind.wrap .u8 (Int.fdiv (Int.fdiv (Int.fdiv x (2^8)) (2^8)) (2^8)),IntKind.wrap .u8 (Int.fdiv (Int.fdiv x (2^8)) (2^8)),IntKind.wrap .u8 (Int.fdiv x (2^8)),IntKind.wrap .u8 x]):=by kernel_rfl
theorem f33 (n:Nat):Em (n:Int) 8=some (.inl (be8 n)):=by
 rw [h96]
 simp only [Mm,u8n,Nat.div_div_eq_div_mul,be8]
theorem e39:∀ (k f:Nat) {M s:List Int} {off len:Nat} {c:Int} {rows:List Int},Got M s off len c rows->k=(56+64-M.length%64)%64->M.length+k<1099511627776->k<f ->
  ∃ s' off' len' c' rows',L8 f s off len c rows=some (s',off',len',c',rows')/\Got (M++List.replicate k 0) s' off' len' c' rows'
 |_,0,_,_,_,_,_,_,_,_,_,h=>by omega
 |0,f+1,M,s,off,len,c,rows,g,h,_,_=>by
  have:=g.hl
  rw [L8.eq_2,i0 (by simp;omega)]
  exact ⟨_,_,_,_,_,rfl,by simpa using g⟩
 |k+1,f+1,M,s,off,len,c,rows,g,h,h',h''=>by
  have:=g.hl
  rw [L8.eq_2,j7 (by simp;omega)]
  obtain ⟨s1,o1,l1,c1,e,g1⟩:=X5 (b:=[0]) g (by simp [p9]) (by simp only [List.length_cons,List.length_nil];omega)
  rw [e,Option.bind_some]
  simp only
  obtain ⟨s2,o2,l2,c2,r2,e2,g2⟩:=e39 k f g1 (by rw [List.length_append,List.length_cons,List.length_nil];omega) (by rw [List.length_append,List.length_cons,List.length_nil];omega) (by omega)
  refine ⟨s2,o2,l2,c2,r2,e2,?_⟩
  rw [List.append_assoc] at g2
  exact g2
def b90 (x:Int):List Int:=[IntKind.wrap .u8 (Int.fdiv x (2^24)),IntKind.wrap .u8 (Int.fdiv x (2^16)),IntKind.wrap .u8 (Int.fdiv x (2^8)),IntKind.wrap .u8 x]
def h97 (s:S8):List Int:=b90 s.a++(b90 s.b++(b90 s.c++(b90 s.d++(b90 s.e++(b90 s.f++(b90 s.g++b90 s.h))))))
theorem Gn (x:Int):p9 256 (b90 x):=by simp only [b90,p9,wu8];refine ⟨?_,?_,?_,?_,trivial⟩<;>omega
theorem h98 (s:S8):p9 256 (h97 s):=s5 (Gn _) (s5 (Gn _) (s5 (Gn _) (s5 (Gn _) (s5 (Gn _) (s5 (Gn _) (s5 (Gn _) (Gn _)))))))
theorem h99 (s:S8):(h97 s).length=32:=rfl
theorem j58 (s:S8):Y6 s.l f9 0 (List.replicate 32 0)=some (h97 s):=by
 obtain ⟨a0,a1,a2,a3,a4,a5,a6,a7⟩:=s
 kernel_rfl
def Hk (M:List Int):List Int:=h97 (Gm ((M++Rq M.length).length/64) h0P (M++Rq M.length))
theorem b35 (M:List Int):p9 256 (Hk M):=h98 _
theorem Bt (M:List Int):(Hk M).length=32:=h99 _
theorem Vo {M s:List Int} {off len:Nat} {c:Int} {rows:List Int} (h:Got M s off len c rows) (hs:M.length<1000000000000):M6 s off len c rows=some (Hk M):=by
 have hr:=h.rest
 have hlr:(M.drop (64*(M.length/64))).length≤M.length:=by rw [List.length_drop];omega
 unfold M6 Gb u6
 rw [hr,List.length_nil,if_pos (by omega),Option.bind_some,Option.bind_some,List.nil_append]
 have e:IntKind.wrap .u64 (8*c)=((8*M.length:Nat):Int):=by
  rw [h.ct,show 8*(M.length:Int)=((8*M.length:Nat):Int) by omega,Oc,Nat.mod_eq_of_lt (by omega)]
 rw [e,f33,Option.bind_some]
 simp only
 obtain ⟨s1,o1,l1,c1,e1,g1⟩:=d22 (b:=[128]) h.st h.ct h.lim rfl (by simp [p9]) (by simp only [List.length_cons,List.length_nil];omega)
 rw [e1,Option.bind_some]
 simp only
 obtain ⟨s2,o2,l2,c2,r2,e2,g2⟩:=e39 ((119-M.length%64)%64) f9 g1 (by rw [List.length_append,List.length_cons,List.length_nil];omega) (by rw [List.length_append,List.length_cons,List.length_nil];omega) (by unfold f9;omega)
 rw [e2,Option.bind_some]
 simp only
 obtain ⟨s3,o3,l3,c3,e3,g3⟩:=X5 (b:=be8 (8*M.length)) g2 (f99 _) (by simp only [List.length_append,List.length_cons,List.length_nil,List.length_replicate,be8];omega)
 have hbe:(be8 (8*M.length)).take (List.replicate (Int.toNat 8) (0:Int)).length=be8 (8*M.length):=rfl
 rw [hbe,e3,Option.bind_some]
 simp only
 have hm:M++[128]++List.replicate ((119-M.length%64)%64) 0++be8 (8*M.length)=M++Rq M.length:=by
  rw [Rq,List.append_assoc,List.append_assoc];rfl
 rw [m6,g3.st,j58,Option.bind_some,hm];rfl
end Go.Eng
namespace Go.Eng
set_option maxRecDepth 100000
set_option maxHeartbeats 1000000
def j59 (l:List (List Int)):Prop:=∀ x∈l,p9 256 x
theorem b36 {α:Type} (l:List α) (d:α) (i:Nat) (h:i<l.length):l.drop i=l.getD i d::l.drop (i+1):=by
 rw [List.drop_eq_getElem_cons h];simp [List.getD,h]
theorem b37 (parts:List (List Int)) (hp:j59 parts) (hn:parts.length<1000000):∀ (n f i:Nat) {M s:List Int} {off len:Nat} {c:Int} {rows:List Int},i+n=parts.length->n<f->Got M s off len c rows->M.length+(parts.drop i).flatten.length<1000000000000 ->
  ∃ s' off' len' c' rows',P3 parts f (i:Int) s off len c rows=some (s',off',len',c',rows')/\Got (M++(parts.drop i).flatten) s' off' len' c' rows'
 |_,0,_,_,_,_,_,_,_,_,h,_,_=>by omega
 |0,f+1,i,M,s,off,len,c,rows,h,_,g,_=>by
  rw [P3.eq_2,i0 (by simp;omega)]
  exact ⟨_,_,_,_,_,rfl,by rw [List.drop_of_length_le (by omega),List.flatten_nil,List.append_nil];exact g⟩
 |n+1,f+1,i,M,s,off,len,c,rows,h,h',g,hs=>by
  rw [P3.eq_2,j7 (by simp;omega),if_pos (by omega),Int.toNat_natCast]
  have hd:=b36 parts [] i (by omega)
  rw [hd,List.flatten_cons,List.length_append] at hs
  have hb:p9 256 (parts.getD i []):=hp _ (List.mem_of_mem_drop (i:=i) (by rw [hd];exact List.mem_cons_self ..))
  obtain ⟨s1,o1,l1,c1,e,g1⟩:=X5 g hb (by omega)
  rw [e,Option.bind_some]
  simp only [m6]
  rw [show (i:Int)+1=((i+1:Nat):Int) from rfl,A8 (by omega)]
  obtain ⟨s2,o2,l2,c2,r2,e2,g2⟩:=b37 parts hp hn n f (i+1) (by omega) (by omega) g1 (by rw [List.length_append];omega)
  refine ⟨s2,o2,l2,c2,r2,e2,?_⟩
  rw [hd,List.flatten_cons,←List.append_assoc]
  exact g2
theorem d23:Le=some h0P.l:=rfl
theorem g72 {parts:List (List Int)} (hp:j59 parts) (hn:parts.length<1000000) (hs:parts.flatten.length<1000000000000):Wd parts=some (Hk parts.flatten):=by
 unfold Wd
 rw [d23,Option.bind_some]
 obtain ⟨s2,o2,l2,c2,r2,e2,g2⟩:=b37 parts hp hn parts.length f9 0 (by omega) (by unfold f9;omega) Got.nil (by simpa using hs)
 have e2:P3 parts f9 0 h0P.l 0 (List.length ([]:List Int)) 0 []=_:=e2
 rw [e2,Option.bind_some]
 simp only
 rw [List.drop_zero,List.nil_append] at g2
 rw [Vo g2 hs];rfl
def I1 (key:List Int):List Int:=let k:=if key.length>64 then Hk key else key;k++List.replicate (64-k.length) 0
def R4 (by_:Int) (l:List Int):List Int:=l.map fun x=>bits .u8 .xor x by_
def Z4 (key M:List Int):List Int:=Hk (R4 92 (I1 key)++Hk (R4 54 (I1 key)++M))
theorem K0 (key:List Int):(I1 key).length=64:=by
 unfold I1
 split
 ·simp [Bt]
 ·simp;omega
theorem d24 (n:Nat):p9 256 (List.replicate n (0:Int)):=Ny fun x hx=>by rw [List.eq_of_mem_replicate hx];omega
theorem i94 (x y:Int):0≤bits .u8 .xor x y/\bits .u8 .xor x y<256:=by
 show 0≤IntKind.u8.wrap _/\IntKind.u8.wrap _<256
 rw [wu8];omega
theorem Qm (by_:Int) (l:List Int):p9 256 (R4 by_ l):=Ny fun x hx=>by
 obtain ⟨y,_,rfl⟩:=List.mem_map.1 hx
 exact i94 y by_
theorem Jo (by_:Int) (l:List Int):(R4 by_ l).length=l.length:=List.length_map ..
theorem g00 {A B:List Int} (x y:Int):(A++x::B).set A.length y=(A++[y])++B:=by
 rw [List.set_append_right _ _ (Nat.le_refl _),Nat.sub_self,List.set_cons_zero,List.append_assoc];rfl
theorem e45 {A B:List Int} (x:Int):(A++x::B).getD A.length 0=x:=by simp [List.getD]
theorem c54 (by_:Int):∀ (B A:List Int) (f:Nat),A.length+B.length=64->B.length<f->N5 by_ f (A.length:Int) (A++B)=some (A++R4 by_ B)
 |_,_,0,_,h=>by omega
 |[],A,f+1,h,_=>by
  rw [N5.eq_2,m6,i0 (by simp at h ⊢;omega)];rfl
 |x::B,A,f+1,h,h'=>by
  simp only [List.length_cons] at h h'
  have hc:(A.length:Int)<(((List.replicate 64 (0:Int)).length:Nat):Int):=by rw [List.length_replicate];omega
  rw [N5.eq_2,m6,j7 (by simpa using hc),if_pos ⟨by omega,hc⟩,if_pos ⟨by omega,hc⟩,m6,Int.toNat_natCast,g00,e45]
  rw [show (A.length:Int)+1=((A++[bits .u8 .xor x by_]).length:Int) by rw [List.length_append];rfl,A8 (by rw [List.length_append,List.length_cons,List.length_nil];omega)]
  rw [c54 by_ B (A++[bits .u8 .xor x by_]) f (by rw [List.length_append,List.length_cons,List.length_nil];omega) (by omega)]
  rw [List.append_assoc];rfl
theorem c55 (by_:Int):∀ (B A:List Int) (f:Nat),A.length+B.length=64->B.length<f->N6 by_ f (A.length:Int) (A++B)=some (A++R4 by_ B)
 |_,_,0,_,h=>by omega
 |[],A,f+1,h,_=>by
  rw [N6.eq_2,m6,i0 (by simp at h ⊢;omega)];rfl
 |x::B,A,f+1,h,h'=>by
  simp only [List.length_cons] at h h'
  have hc:(A.length:Int)<(((List.replicate 64 (0:Int)).length:Nat):Int):=by rw [List.length_replicate];omega
  rw [N6.eq_2,m6,j7 (by simpa using hc),if_pos ⟨by omega,hc⟩,if_pos ⟨by omega,hc⟩,m6,Int.toNat_natCast,g00,e45]
  rw [show (A.length:Int)+1=((A++[bits .u8 .xor x by_]).length:Int) by rw [List.length_append];rfl,A8 (by rw [List.length_append,List.length_cons,List.length_nil];omega)]
  rw [c55 by_ B (A++[bits .u8 .xor x by_]) f (by rw [List.length_append,List.length_cons,List.length_nil];omega) (by omega)]
  rw [List.append_assoc];rfl
theorem e46 {m:List Int} (h:m.length≤64):T9 (List.replicate 64 0) 0 m=m++List.replicate (64-m.length) 0:=by
 unfold T9
 rw [List.take_zero,List.nil_append,List.drop_replicate,Nat.zero_add]
theorem Qn {key:List Int} (hk:p9 256 key) (hs:key.length<100000000000) (by_:Int):P4 key by_=some (R4 by_ (I1 key)):=by
 have l64:(List.replicate 64 (0:Int)).length=64:=rfl
 unfold P4
 by_cases h:key.length>64
 ·rw [j7 (by simp;omega),g72 (parts:=[key]) (fun x hx=>by rw [List.mem_singleton.1 hx];exact hk) (by simp) (by simp;omega),Option.bind_some,Option.bind_some]
  simp only [List.flatten_cons,List.flatten_nil,List.append_nil]
  have e1:(Hk key).take 32=Hk key:=List.take_of_length_le (by rw [Bt];decide)
  have e2:(Hk key).take 64=Hk key:=List.take_of_length_le (by rw [Bt];decide)
  have ek:I1 key=Hk key++List.replicate (64-(Hk key).length) 0:=by unfold I1;rw [if_pos h]
  rw [m6,m6,e1,l64,e2,e46 (by rw [Bt];decide),←ek]
  have:=c54 by_ (I1 key) [] f9 (by rw [K0];rfl) (by rw [K0];unfold f9;omega)
  have this:N5 by_ f9 0 (I1 key)=_:=this
  rw [this];rfl
 ·rw [i0 (by simp;omega),Option.bind_some]
  simp only
  have e2:key.take 64=key:=List.take_of_length_le (by omega)
  have ek:I1 key=key++List.replicate (64-key.length) 0:=by unfold I1;rw [if_neg h]
  rw [m6,m6,l64,e2,e46 (by omega),←ek]
  have:=c55 by_ (I1 key) [] f9 (by rw [K0];rfl) (by rw [K0];unfold f9;omega)
  have this:N6 by_ f9 0 (I1 key)=_:=this
  rw [this];rfl
theorem f34 {a b:List Int} (ha:p9 256 a) (hb:p9 256 b) (la:a.length=64) (lb:b.length=32):Bb 64 32 a b=some (Hk (a++b)):=by
 unfold Bb
 have e1:a.take 64=a:=List.take_of_length_le (by omega)
 have e2:b.take 32=b:=List.take_of_length_le (by omega)
 rw [d23,Option.bind_some,e1,e2]
 obtain ⟨s1,o1,l1,c1,e,g1⟩:=Tm ha (by omega)
 rw [e,Option.bind_some]
 simp only
 obtain ⟨s2,o2,l2,c2,e,g2⟩:=X5 g1 hb (by omega)
 rw [e,Option.bind_some]
 simp only [m6,Option.bind_some]
 rw [Vo g2 (by rw [List.length_append];omega)];rfl
theorem g01 {key M:List Int} (hk:p9 256 key) (hs:key.length<100000000000) :
  ((P4 key 92).bind fun x44=>(Bb (List.length (List.replicate 64 (0:Int))) 32 x44 (Hk (R4 54 (I1 key)++M))).bind fun x45=>some x45)=some (Z4 key M):=by
 rw [Qn hk hs,Option.bind_some]
 have:=f34 (Qm 92 (I1 key)) (b35 (R4 54 (I1 key)++M)) (by rw [Jo,K0]) (Bt _)
 have this:Bb (List.length (List.replicate 64 (0:Int))) 32 (R4 92 (I1 key)) (Hk (R4 54 (I1 key)++M))=_:=this
 rw [this];rfl
theorem i00 (parts:List (List Int)):∀ f i s off len c rows,Fo parts f i s off len c rows=P3 parts f i s off len c rows
 |0,_,_,_,_,_,_=>rfl
 |f+1,i,s,off,len,c,rows=>by rw [Fo.eq_2,P3.eq_2];simp only [i00 parts f]
theorem Vp {key:List Int} {parts:List (List Int)} (hk:p9 256 key) (hs:key.length<100000000000) (hp:j59 parts) (hn:parts.length<1000000) (hm:parts.flatten.length<100000000000) :
  We key parts=some (Z4 key parts.flatten):=by
 have lk:(R4 54 (I1 key)).length=64:=by rw [Jo,K0]
 have e1:(R4 54 (I1 key)).take (List.length (List.replicate 64 (0:Int)))=R4 54 (I1 key):=List.take_of_length_le (by rw [lk];decide)
 obtain ⟨s1,o1,l1,c1,e,g1⟩:=Tm (Qm 54 (I1 key)) (by omega)
 unfold We
 rw [d23,Option.bind_some,Qn hk hs,Option.bind_some,e1,e,Option.bind_some]
 simp only
 rw [i00]
 obtain ⟨s2,o2,l2,c2,r2,e2,g2⟩:=b37 parts hp hn parts.length f9 0 (by omega) (by unfold f9;omega) g1 (by rw [List.drop_zero,lk];omega)
 have e2:P3 parts f9 0 s1 o1 l1 c1 (R4 54 (I1 key))=_:=e2
 rw [e2,Option.bind_some]
 simp only
 rw [List.drop_zero] at g2
 rw [Vo g2 (by rw [List.length_append];omega),Option.bind_some]
 exact g01 hk hs
theorem b38 {key a b:List Int} (n:Nat) (hk:p9 256 key) (hs:key.length<100000000000) (ha:p9 256 a) (hb:p9 256 b) (la:a.length<100000000000) (lb:b.length≤n) (hn:n<1000) :
  Im key a n b=some (Z4 key (a++b)):=by
 have lk:(R4 54 (I1 key)).length=64:=by rw [Jo,K0]
 have e1:(R4 54 (I1 key)).take (List.length (List.replicate 64 (0:Int)))=R4 54 (I1 key):=List.take_of_length_le (by rw [lk];decide)
 have e2:b.take n=b:=List.take_of_length_le lb
 obtain ⟨s1,o1,l1,c1,e,g1⟩:=Tm (Qm 54 (I1 key)) (by omega)
 unfold Im
 rw [d23,Option.bind_some,Qn hk hs,Option.bind_some,e1,e2,e,Option.bind_some]
 simp only
 obtain ⟨s2,o2,l2,c2,e,g2⟩:=X5 (b:=[]) g1 trivial (by rw [lk];simp)
 rw [e,Option.bind_some]
 simp only [m6]
 obtain ⟨s3,o3,l3,c3,e,g3⟩:=X5 g2 ha (by simp only [List.length_append,lk,List.length_nil];omega)
 rw [e,Option.bind_some]
 simp only
 obtain ⟨s4,o4,l4,c4,e,g4⟩:=X5 g3 hb (by simp only [List.length_append,lk,List.length_nil];omega)
 rw [e,Option.bind_some]
 simp only [Option.bind_some]
 rw [Vo g4 (by simp only [List.length_append,lk,List.length_nil];omega),Option.bind_some,List.append_nil,List.append_assoc]
 exact g01 hk hs
theorem Rl (key M:List Int):p9 256 (Z4 key M):=b35 _
theorem Da (key M:List Int):(Z4 key M).length=32:=Bt _
end Go.Eng
namespace Go.Eng
set_option maxRecDepth 100000
set_option maxHeartbeats 1000000
theorem Of {m:List Int} {off i:Nat} (h:i<64):m.getD (off+i) 0=((m.drop off).take 64).getD i 0:=by
 simp [List.getD,h]
theorem i01 {a b c d:Int} (ha:0≤a/\a<256) (hb:0≤b/\b<256) (hc:0≤c/\c<256) (hd:0≤d/\d<256) :
  IntKind.wrap .u32 (IntKind.wrap .u32 (IntKind.wrap .u32 (IntKind.wrap .u32 (IntKind.wrap .u32 a*16777216)+IntKind.wrap .u32 (IntKind.wrap .u32 b*65536))+IntKind.wrap .u32 (IntKind.wrap .u32 c*256))+IntKind.wrap .u32 d)=a*16777216+b*65536+c*256+d:=by
 simp only [Te];omega
theorem j60 (a b c d:Int):IntKind.wrap .u32 (IntKind.wrap .u32 (IntKind.wrap .u32 (d+c)+b)+a)=(a+b+c+d)%4294967296:=by
 rw [Te,Te,Te];omega
theorem Jp {W:List Int} {n:Nat} (x:Int) {i:Nat} (h:i=W.length):(W++List.replicate (n+1) 0).set i x=(W++[x])++List.replicate n 0:=by
 subst h;exact d20 x
theorem g02 (m:List Int) (at_:Int):∀ (n f:Nat) (W:List Int),n≤48->W.length=64-n->n<f ->
  O0 m at_ f ((64-n:Nat):Int) (W++List.replicate n 0)=some (d19 n W)
 |_,0,_,_,_,h=>by omega
 |0,f+1,W,_,_,_=>by rw [O0.eq_2,i0 (by decide)];simp [d19]
 |n+1,f+1,W,h,h',h''=>by
  have hl:(W++List.replicate (n+1) 0).length=64:=by rw [List.length_append,List.length_replicate];omega
  rw [O0.eq_2,j7 (by simp;omega),i0 (by simp;omega)]
  have e0:((64-(n+1):Nat):Int)-15=((63-n-15:Nat):Int):=by omega
  have e1:((64-(n+1):Nat):Int)-2=((63-n-2:Nat):Int):=by omega
  have e2:((64-(n+1):Nat):Int)-16=((63-n-16:Nat):Int):=by omega
  have e3:((64-(n+1):Nat):Int)-7=((63-n-7:Nat):Int):=by omega
  simp only [m6,hl,e0,e1,e2,e3,A8 (n:=63-n-15) (by omega),A8 (n:=63-n-2) (by omega),A8 (n:=63-n-16) (by omega),A8 (n:=63-n-7) (by omega),Int.toNat_natCast,
   j53,i85,i86,i87,Option.bind_some,Ed (W:=W) (i:=63-n-15) (by omega),Ed (W:=W) (i:=63-n-2) (by omega),Ed (W:=W) (i:=63-n-16) (by omega),Ed (W:=W) (i:=63-n-7) (by omega)]
  rw [if_pos (by omega),if_pos (by omega),if_pos (by omega),if_pos (by omega),if_pos (by omega),Option.bind_some,j60]
  rw [Jp _ (show 64-(n+1)=W.length from h'.symm),show ((64-(n+1):Nat):Int)+1=((64-n:Nat):Int) by omega,A8 (by omega)]
  exact g02 m at_ n f (W++[h94 W (63-n)]) (by omega) (by simp;omega) (by omega)
theorem g03 {m:List Int} (hm:p9 256 m) (off:Nat) (ho:off+64≤m.length) (hs:m.length<9000000000000000):∀ (n f:Nat) (W:List Int),n≤16->W.length=16-n->n+48<f ->
  O0 m off f ((16-n:Nat):Int) (W++List.replicate (48+n) 0)=some (d19 48 (Ql ((m.drop off).take 64) n W))
 |_,0,_,_,_,h=>by omega
 |0,f+1,W,h,h',h''=>g02 m off 48 (f+1) W (by decide) (by omega) (by omega)
 |n+1,f+1,W,h,h',h''=>by
  have hl:(W++List.replicate (48+(n+1)) 0).length=64:=by rw [List.length_append,List.length_replicate];omega
  rw [O0.eq_2,j7 (by simp;omega),j7 (by simp;omega)]
  have e0:4*((16-(n+1):Nat):Int)=((4*(15-n):Nat):Int):=by omega
  have e1:(off:Int)+((4*(15-n):Nat):Int)=((off+4*(15-n):Nat):Int):=rfl
  have e2:((off+4*(15-n):Nat):Int)+1=((off+(4*(15-n)+1):Nat):Int):=rfl
  have e3:((off+4*(15-n):Nat):Int)+2=((off+(4*(15-n)+2):Nat):Int):=rfl
  have e4:((off+4*(15-n):Nat):Int)+3=((off+(4*(15-n)+3):Nat):Int):=rfl
  simp only [m6,hl,e0,A8 (n:=4*(15-n)) (by omega),e1,A8 (n:=off+4*(15-n)) (by omega),e2,e3,e4,A8 (n:=off+(4*(15-n)+1)) (by omega),A8 (n:=off+(4*(15-n)+2)) (by omega),A8 (n:=off+(4*(15-n)+3)) (by omega),Int.toNat_natCast]
  rw [if_pos (by omega),if_pos (by omega),if_pos (by omega),if_pos (by omega),if_pos (by omega),Option.bind_some]
  rw [i01 (Y4 (by decide) _ hm) (Y4 (by decide) _ hm) (Y4 (by decide) _ hm) (Y4 (by decide) _ hm)]
  rw [show 48+(n+1)=(48+n)+1 from rfl,Jp _ (show 16-(n+1)=W.length from h'.symm),show ((16-(n+1):Nat):Int)+1=((16-n:Nat):Int) by omega,A8 (by omega)]
  rw [Of (i:=4*(15-n)) (by omega),Of (i:=4*(15-n)+1) (by omega),Of (i:=4*(15-n)+2) (by omega),Of (i:=4*(15-n)+3) (by omega)]
  exact g03 hm off ho hs n f (W++[h93 ((m.drop off).take 64) (15-n)]) (by omega) (by simp;omega) (by omega)
theorem g04 (W:List Int) (hW:W.length=64):∀ (n f:Nat) (s:S8),n≤64->n<f ->
  W3 y5 W f s.a s.b s.c s.d s.e s.f s.g s.h ((64-n:Nat):Int) =
   some ((Cg W n s).a,(Cg W n s).b,(Cg W n s).c,(Cg W n s).d,(Cg W n s).e,(Cg W n s).f,(Cg W n s).g,(Cg W n s).h)
 |_,0,_,_,h=>by omega
 |0,f+1,s,_,_=>by rw [W3.eq_2,i0 (by decide)];rfl
 |n+1,f+1,s,h,h'=>by
  have hk:y5.length=64:=rfl
  rw [W3.eq_2,j7 (by simp;omega)]
  have e0:((64-(n+1):Nat):Int)=((63-n:Nat):Int):=by omega
  rw [e0]
  simp only [m6,Int.toNat_natCast,j54,i88,i89,j55,i90,i91,Option.bind_some,hW,hk]
  rw [if_pos (by omega),if_pos (by omega)]
  rw [show ((63-n:Nat):Int)+1=((64-n:Nat):Int) by omega,A8 (by omega)]
  exact g04 W hW n f (f32 (y5.getD (63-n) 0) (W.getD (63-n) 0) s) (by omega) (by omega)
theorem l09 (s v:S8):Gy h0P.l v.a v.b v.c v.d v.e v.f v.g v.h 8 f9 0 s.l=some (j56 s v).l:=by
 obtain ⟨a0,a1,a2,a3,a4,a5,a6,a7⟩:=s
 obtain ⟨b0,b1,b2,b3,b4,b5,b6,b7⟩:=v
 kernel_rfl
theorem g05 {m:List Int} (hm:p9 256 m) (hs:m.length<9000000000000000):∀ (n f off:Nat) (s:S8),off+64*n=m.length->n<f ->
  W4 y5 h0P.l m f (off:Int) s.l=some (Gm n s (m.drop off)).l
 |_,0,_,_,_,h=>by omega
 |0,f+1,off,s,h,_=>by rw [W4.eq_2,i0 (by simp;omega)];rfl
 |n+1,f+1,off,s,h,h'=>by
  rw [W4.eq_2,j7 (by simp;omega)]
  have h1:=g03 hm off (by omega) hs 16 f9 [] (by decide) rfl (by unfold f9;omega)
  have h1:O0 m off f9 0 (List.replicate 64 0)=some (Ll ((m.drop off).take 64)):=h1
  rw [h1,Option.bind_some]
  have hl:h0P.l.length=8:=rfl
  simp only [hl]
  rw [if_pos (by decide),if_pos (by decide),if_pos (by decide),if_pos (by decide),if_pos (by decide),if_pos (by decide),if_pos (by decide),if_pos (by decide)]
  have h2:=g04 (Ll ((m.drop off).take 64)) (f31 _) 64 f9 s (by decide) (by unfold f9;omega)
  have h2:W3 y5 (Ll ((m.drop off).take 64)) f9 (s.l.getD 0 0) (s.l.getD 1 0) (s.l.getD 2 0) (s.l.getD 3 0) (s.l.getD 4 0) (s.l.getD 5 0) (s.l.getD 6 0) (s.l.getD 7 0) 0=_:=h2
  rw [h2,Option.bind_some]
  simp only [m6]
  have h3:=l09 s (Cg (Ll ((m.drop off).take 64)) 64 s)
  have h4:∀ x:S8,((List.length [x.a,x.b,x.c,x.d,x.e,x.f,x.g,x.h]:Nat):Int)=8:=fun _=>rfl
  rw [h4,h3,Option.bind_some,show (off:Int)+64=((off+64:Nat):Int) from rfl,A8 (by omega)]
  have ih:=g05 hm hs n f (off+64) (h95 s ((m.drop off).take 64)) (by omega) (by omega)
  rw [Gm,List.drop_drop]
  exact ih
theorem l92 (s:S8):Dh h0P.l s.l f9 0 (List.replicate 32 0)=some (h97 s):=by
 obtain ⟨a0,a1,a2,a3,a4,a5,a6,a7⟩:=s
 kernel_rfl
theorem c56:∀ (k f:Nat) (l:List Int),k=(56+64-l.length%64)%64->k<f->l.length+k<1000000000000->P7 f l=some (.inr (l++List.replicate k 0))
 |_,0,_,_,h,_=>by omega
 |0,f+1,l,h,_,_=>by
  have e:Int.tmod ((l.length:Nat):Int) 64=((l.length%64:Nat):Int):=rfl
  rw [P7.eq_2,e,i0 (by simp;omega)];simp
 |k+1,f+1,l,h,h',h''=>by
  have e:Int.tmod ((l.length:Nat):Int) 64=((l.length%64:Nat):Int):=rfl
  rw [P7.eq_2,e,j7 (by simp;omega),if_pos (by simp only [List.length_cons,List.length_nil];omega)]
  rw [c56 k f (l++[0]) (by rw [List.length_append,List.length_cons,List.length_nil];omega) (by omega) (by rw [List.length_append,List.length_cons,List.length_nil];omega),List.append_assoc];rfl
def beB (x:Nat):Nat->List Int
 |0=>[]
 |i+1=>((x/2^(8*i)%256:Nat):Int)::beB x i
theorem c57 (x:Nat):∀ (i f:Nat) (l:List Int),i<f->i≤8->l.length+i<1000000000100->P8 (x:Int) f ((i:Int)-1) l=some (l++beB x i)
 |i,0,_,h,_,_=>by omega
 |0,f+1,l,_,_,_=>by rw [P8.eq_2,i0 (by decide),beB,List.append_nil]
 |i+1,f+1,l,h,h',h''=>by
  have e0:8*(i:Int)=((8*i:Nat):Int):=by omega
  have m2:min (8*i) (IntKind.bits .u64)=8*i:=by show min _ 64=_;omega
  rw [P8.eq_2,show ((i+1:Nat):Int)-1=i by omega,j7 (by simp),e0,A8 (by omega),Oc,Nat.mod_eq_of_lt (a:=8*i) (by omega),Int.toNat_natCast,m2,Mm]
  rw [if_pos (by omega),m6,u8n,if_pos (by rw [List.length_cons,List.length_nil];omega)]
  rw [q6 (n:=(i:Int)-1) (by omega) (by omega),c57 x i f _ (by omega) (by omega) (by rw [List.length_append,List.length_cons,List.length_nil];omega),List.append_assoc];rfl
theorem l11 (x:Nat):beB x 8=be8 x:=by simp [beB,be8]
theorem e47 {M:List Int} (hs:M.length<100000000000):Gx M=some (M++Rq M.length):=by
 unfold Gx
 rw [List.nil_append,List.length_nil,if_pos (by omega),if_pos (by simp only [List.length_cons,List.length_nil];omega)]
 have hl:(M++[(128:Int)]).length=M.length+1:=by rw [List.length_append];rfl
 rw [c56 ((119-M.length%64)%64) f9 (M++[128]) (by rw [hl];omega) (by unfold f9;omega) (by rw [hl];omega),Option.bind_some]
 simp only
 have e:IntKind.wrap .u64 (IntKind.wrap .u64 (M.length:Int)*8)=((8*M.length:Nat):Int):=by
  rw [Oc,Nat.mod_eq_of_lt (by omega),show (M.length:Int)*8=((8*M.length:Nat):Int) by omega,Oc,Nat.mod_eq_of_lt (by omega)]
 rw [m6,e,show (7:Int)=((8:Nat):Int)-1 from rfl,c57 _ 8 f9 _ (by unfold f9;omega) (by decide) (by rw [List.length_append,hl,List.length_replicate];omega),Option.bind_some,l11,Rq,List.append_assoc,List.append_assoc];rfl
theorem i02 (n:Nat):p9 256 (Rq n):=⟨by decide,s5 (d24 _) (f99 _)⟩
theorem i03 (n:Nat):(Rq n).length=1+(119-n%64)%64+8:=by simp [Rq,be8];omega
theorem d25:Es=some y5:=by kernel_rfl
theorem Xm {M:List Int} (hM:p9 256 M) (hs:M.length<100000000000):Ao M=some (Hk M):=by
 have hl:(M++Rq M.length).length=M.length+(1+(119-M.length%64)%64+8):=by rw [List.length_append,i03]
 unfold Ao
 rw [d25,Option.bind_some,m6,e47 hs,Option.bind_some]
 have h:=g05 (s5 hM (i02 M.length)) (by rw [hl];omega) ((M++Rq M.length).length/64) f9 0 h0P (by rw [hl];omega) (by rw [hl];unfold f9;omega)
 have h:W4 y5 [1779033703,3144134277,1013904242,2773480762,1359893119,2600822924,528734635,1541459225] (M++Rq M.length) f9 0 [1779033703,3144134277,1013904242,2773480762,1359893119,2600822924,528734635,1541459225]=_:=h
 rw [h,Option.bind_some]
 have h2:=l92 (Gm ((M++Rq M.length).length/64) h0P ((M++Rq M.length).drop 0))
 have h2:Dh [1779033703,3144134277,1013904242,2773480762,1359893119,2600822924,528734635,1541459225] (Gm ((M++Rq M.length).length/64) h0P ((M++Rq M.length).drop 0)).l f9 0 (List.replicate 32 0)=_:=h2
 rw [h2,List.drop_zero];rfl
end Go.Eng
namespace Go.Eng
set_option maxRecDepth 100000
set_option maxHeartbeats 1000000
theorem c58 {key:List Int} (h:key.length≤64) {i:Nat} (_hi:i<64):(I1 key).getD i 0=if i<key.length then key.getD i 0 else 0:=by
 have ek:I1 key=key++List.replicate (64-key.length) 0:=by unfold I1;rw [if_neg (by omega)]
 rw [ek]
 split
 ·rename_i h;exact Ed h
 ·rename_i h'
  simp only [List.getD,List.getElem?_append_right (Nat.le_of_not_lt h')]
  rw [List.getElem?_replicate]
  split<;>rfl
theorem i04 {key:List Int} (h:key.length>64):I1 key=I1 (Hk key):=by
 unfold I1
 rw [if_pos h,if_neg (by rw [Bt];decide)]
theorem Rm {K:List Int} (by_:Int) {i:Nat} (h:i<K.length):R4 by_ (K.take (i+1))=R4 by_ (K.take i)++[bits .u8 .xor (K.getD i 0) by_]:=by
 rw [List.take_succ_eq_append_getElem h]
 unfold R4
 rw [List.map_append];simp [List.getD,h]
theorem e48 {key:List Int} (hk:key.length=32):∀ (n f:Nat),n≤64->n<f ->
  W5 key f ((64-n:Nat):Int) (R4 54 ((I1 key).take (64-n))++List.replicate n 0) (R4 92 ((I1 key).take (64-n))++List.replicate n 0)=some (R4 54 (I1 key),R4 92 (I1 key))
 |_,0,_,h=>by omega
 |0,f+1,_,_=>by
  rw [W5.eq_2,i0 (by decide),List.take_of_length_le (by rw [K0];decide)];simp
 |n+1,f+1,h,h'=>by
  have hl:((List.replicate 64 (0:Int)).length:Int)=64:=rfl
  have hg:=c58 (key:=key) (by omega) (i:=64-(n+1)) (by omega)
  have hc:(cond (decide (((64-(n+1):Nat):Int)<32)) (if (0:Int)≤((64-(n+1):Nat):Int)/\((64-(n+1):Nat):Int)<(32:Int) then some (List.getD key (Int.toNat ((64-(n+1):Nat):Int)) 0) else none) (some 0):Option Int)=some ((I1 key).getD (64-(n+1)) 0):=by
   rw [hg,hk]
   by_cases hx:64-(n+1)<32
   ·rw [j7 (by simp;omega),if_pos (by omega),if_pos hx,Int.toNat_natCast]
   ·rw [i0 (by simp;omega),if_neg hx]
  rw [W5.eq_2,j7 (by simp;omega),hc,Option.bind_some,if_pos ⟨by omega,by rw [hl];omega⟩,if_pos ⟨by omega,by rw [hl];omega⟩,Int.toNat_natCast]
  have lt:∀ b:Int,(R4 b ((I1 key).take (64-(n+1)))).length=64-(n+1):=fun b=>by rw [Jo,List.length_take,K0];omega
  rw [Jp _ (lt 54).symm,Jp _ (lt 92).symm,←Rm 54 (by rw [K0];omega),←Rm 92 (by rw [K0];omega)]
  rw [show ((64-(n+1):Nat):Int)+1=((64-n:Nat):Int) by omega,A8 (by omega),show 64-(n+1)+1=64-n by omega]
  exact e48 hk n f (by omega) (by omega)
theorem e49 {key:List Int} (hk:key.length≤64):∀ (n f:Nat),n≤64->n<f ->
  W6 key f ((64-n:Nat):Int) (R4 54 ((I1 key).take (64-n))++List.replicate n 0) (R4 92 ((I1 key).take (64-n))++List.replicate n 0)=some (R4 54 (I1 key),R4 92 (I1 key))
 |_,0,_,h=>by omega
 |0,f+1,_,_=>by
  rw [W6.eq_2,i0 (by decide),List.take_of_length_le (by rw [K0];decide)];simp
 |n+1,f+1,h,h'=>by
  have hl:((List.replicate 64 (0:Int)).length:Int)=64:=rfl
  have hg:=c58 (key:=key) hk (i:=64-(n+1)) (by omega)
  have hc:(cond (decide (((64-(n+1):Nat):Int)<(key.length:Int))) (if (0:Int)≤((64-(n+1):Nat):Int)/\((64-(n+1):Nat):Int)<(key.length:Int) then some (List.getD key (Int.toNat ((64-(n+1):Nat):Int)) 0) else none) (some 0):Option Int)=some ((I1 key).getD (64-(n+1)) 0):=by
   rw [hg]
   by_cases hx:64-(n+1)<key.length
   ·rw [j7 (by simp;omega),if_pos (by omega),if_pos hx,Int.toNat_natCast]
   ·rw [i0 (by simp;omega),if_neg hx]
  rw [W6.eq_2,j7 (by simp;omega),hc,Option.bind_some,if_pos ⟨by omega,by rw [hl];omega⟩,if_pos ⟨by omega,by rw [hl];omega⟩,Int.toNat_natCast]
  have lt:∀ b:Int,(R4 b ((I1 key).take (64-(n+1)))).length=64-(n+1):=fun b=>by rw [Jo,List.length_take,K0];omega
  rw [Jp _ (lt 54).symm,Jp _ (lt 92).symm,←Rm 54 (by rw [K0];omega),←Rm 92 (by rw [K0];omega)]
  rw [show ((64-(n+1):Nat):Int)+1=((64-n:Nat):Int) by omega,A8 (by omega),show 64-(n+1)+1=64-n by omega]
  exact e49 hk n f (by omega) (by omega)
theorem Og {key M:List Int} (hk:p9 256 key) (hM:p9 256 M) (lk:key.length<10000000000) (lM:M.length<10000000000):Ca key M=some (Z4 key M):=by
 have l64:(List.replicate 64 (0:Int)).length=64:=rfl
 have x1:(R4 54 (I1 key)).length=64:=by rw [Jo,K0]
 have x2:(R4 92 (I1 key)).length=64:=by rw [Jo,K0]
 have t1:(R4 54 (I1 key)).take 64=R4 54 (I1 key):=List.take_of_length_le (by omega)
 have t2:(R4 92 (I1 key)).take 64=R4 92 (I1 key):=List.take_of_length_le (by omega)
 have s1:Ao (R4 54 (I1 key)++M)=some (Hk (R4 54 (I1 key)++M)):=Xm (s5 (Qm _ _) hM) (by rw [List.length_append];omega)
 have t3:(Hk (R4 54 (I1 key)++M)).take 32=Hk (R4 54 (I1 key)++M):=List.take_of_length_le (by rw [Bt];decide)
 have l3:(Hk (R4 54 (I1 key)++M)).length=32:=Bt _
 have s2:Ao (R4 92 (I1 key)++Hk (R4 54 (I1 key)++M))=some (Z4 key M):=Xm (s5 (Qm _ _) (b35 _)) (by rw [List.length_append];omega)
 unfold Ca
 by_cases h:key.length>64
 ·rw [j7 (by simp;omega),Xm hk (by omega),Option.bind_some,Option.bind_some]
  simp only
  have h1:=e48 (key:=Hk key) (Bt _) 64 f9 (by decide) (by unfold f9;omega)
  have h1:W5 (Hk key) f9 0 (List.replicate 64 0) (List.replicate 64 0)=_:=h1
  rw [h1,←i04 h,Option.bind_some]
  simp only
  rw [l64,if_pos (by omega),if_pos (by omega),m6,t1,s1,Option.bind_some,t3,l3,if_pos (by omega),if_pos (by omega),m6,t2,s2];rfl
 ·rw [i0 (by simp;omega),Option.bind_some]
  simp only
  have h1:=e49 (key:=key) (by omega) 64 f9 (by decide) (by unfold f9;omega)
  have h1:W6 key f9 0 (List.replicate 64 0) (List.replicate 64 0)=_:=h1
  rw [h1,Option.bind_some]
  simp only
  rw [l64,if_pos (by omega),if_pos (by omega),m6,t1,s1,Option.bind_some,t3,l3,if_pos (by omega),if_pos (by omega),m6,t2,s2];rfl
theorem Yt {key info:List Int} {n:Nat} (hk:p9 256 key) (hi:p9 256 info) (lk:key.length<10000000000) (li:info.length≤65536) (h0:0<n) (hn:n≤32) :
  G5 key info n=some (.inl (n,Z4 key (info++[1]))):=by
 have l1:(Z4 key (info++[1])).length=32:=Da _ _
 have t1:(Z4 key (info++[1])).take 32=Z4 key (info++[1]):=List.take_of_length_le (by omega)
 have hm:=b38 (b:=[1]) 1 hk (by omega) hi (by simp [p9]) (by omega) (Nat.le_refl _) (by decide)
 have hm:Im key info [1].length [1]=_:=hm
 unfold G5
 rw [i0 (by simp),i0 (by simp;omega),i0 (by simp;omega),j7 (by simp;omega),hm,Option.bind_some,t1,l1,if_pos (by omega)]
 obtain ⟨m,e,_⟩:=Jj 10 (by decide)
 rw [e,U8.eq_2,l1,i0 (by simp;omega),if_pos (by omega),if_pos (by omega)]
 rfl
theorem Vq {key info:List Int} {n:Nat} (hk:p9 256 key) (hi:p9 256 info) (lk:key.length<10000000000) (li:info.length≤100000) (h0:0<n) (hn:n≤32) :
  W7 key info n=some (Z4 key (info++[1])):=by
 have l1:(Z4 key (info++[1])).length=32:=Da _ _
 have t1:(Z4 key (info++[1])).take 32=Z4 key (info++[1]):=List.take_of_length_le (by omega)
 obtain ⟨m,e,hm⟩:=Jj 10 (by decide)
 obtain ⟨m,rfl⟩:∃ k,m=k+1:=⟨m-1,by omega⟩
 unfold W7
 rw [e,V6.eq_2,List.length_nil,j7 (by simp;omega),List.take_zero,List.length_nil,if_pos (by decide),List.append_nil,List.length_nil,if_pos (by omega),List.nil_append,List.length_cons,List.length_nil,if_pos (by omega),m6]
 have e2:IntKind.wrap .u8 1=1:=by decide
 rw [e2,Og hk (s5 hi (by simp [p9])) lk (by rw [List.length_append,List.length_cons,List.length_nil];omega),Option.bind_some,t1,l1,if_pos (by decide),List.nil_append,V6.eq_2,l1,i0 (by simp;omega),Option.bind_some]
 simp only
 rw [l1,if_pos (by omega),if_pos (by omega)]
def G3 (l:List UInt8):List Int:=l.map fun q:UInt8=>(q.toNat:Int)
theorem Y5 (l:List UInt8):p9 256 (G3 l):=Ny fun x hx=>by
 obtain ⟨y,_,rfl⟩:=List.mem_map.1 hx
 have:=y.toNat_lt
 omega
theorem K1 (l:List UInt8):(G3 l).length=l.length:=List.length_map ..
theorem b39 (a b:List UInt8):G3 (a++b)=G3 a++G3 b:=List.map_append
theorem Mn {n:Nat} (h:n<100000000000):q7 (n:Int)=some (0,List.replicate n 0):=by
 unfold q7
 rw [i0 (by simp),Int.sub_zero,A8 (by omega)]
 by_cases hn:n=0
 ·subst hn;rfl
 ·rw [j7 (by simp;omega),if_pos (by omega),m6,if_pos (by omega),Int.toNat_natCast,Option.bind_some]
theorem e50 {n:Nat} {l:List Int} (hl:l.length≤n) (hn:n<100000000000):F7 n l=some l:=by
 unfold F7
 rw [Int.zero_add,A8 (by omega),i0 (by simp),Option.bind_some,Mn (by omega),Option.bind_some]
 simp only
 have t:l.take n=l:=List.take_of_length_le hl
 rw [t,if_pos (by omega),if_pos (Nat.zero_le _),Option.bind_some,List.take_zero,List.nil_append]
theorem b91 {n:Nat} {l:List Int} (hl:l.length≤n) (hn:n<100000000000):D2 n l=some l:=by
 unfold D2
 rw [Int.zero_add,A8 (by omega),i0 (by simp),Option.bind_some,Mn (by omega),Option.bind_some]
 simp only
 have t:l.take n=l:=List.take_of_length_le hl
 rw [t,if_pos (by omega),if_pos (Nat.zero_le _),Option.bind_some,List.take_zero,List.nil_append]
theorem b92 {n m:Nat} {a b:List Int} (ha:a.length≤n) (hn:n<10000000000) (hb:b.length≤m) (hm:m<10000000000):D3 n m a b=some (a++b):=by
 unfold D3
 rw [Int.zero_add,A8 (by omega),i0 (by simp),m6,show (n:Int)+(m:Int)=((n+m:Nat):Int) from rfl,A8 (by omega),i0 (by simp;omega),Option.bind_some,Mn (by omega),Option.bind_some]
 simp only
 have t:a.take n=a:=List.take_of_length_le ha
 have t':b.take m=b:=List.take_of_length_le hb
 rw [t,t',if_pos (by omega),if_pos (Nat.zero_le _),List.take_zero,List.nil_append,if_pos (by omega),m6,Option.bind_some]
theorem i05 (L:List (List Int)) (hs:L.flatten.length<100000000000) (hn:L.length<100000000):∀ (n f i:Nat),i+n=L.length->n<f->s9 L f (((L.take i).flatten.length:Nat):Int) (i:Int)=some ((L.flatten.length:Nat):Int)
 |_,0,_,_,h=>by omega
 |0,f+1,i,h,_=>by
  rw [s9.eq_2,i0 (by simp;omega),List.take_of_length_le (by omega)]
 |n+1,f+1,i,h,h'=>by
  have e:L.take (i+1)=L.take i++[L.getD i []]:=by rw [List.take_succ_eq_append_getElem (by omega)];simp [List.getD,show i<L.length by omega]
  have e2:(L.take (i+1)).flatten.length=(L.take i).flatten.length+(L.getD i []).length:=by rw [e,List.flatten_append,List.length_append];simp
  have hle:(L.take (i+1)).flatten.length≤L.flatten.length:=by
   have:=congrArg List.length (congrArg List.flatten (List.take_append_drop (i+1) L))
   rw [List.flatten_append,List.length_append] at this
   omega
  rw [s9.eq_2,j7 (by simp;omega),if_pos (by omega),m6,Int.toNat_natCast,←Int.natCast_add,←e2,A8 (by omega),i0 (by simp),show (i:Int)+1=((i+1:Nat):Int) from rfl,A8 (by omega)]
  exact i05 L hs hn n f (i+1) (by omega) (by omega)
theorem i06 (L:List (List Int)) (hs:L.flatten.length<100000000000) (hn:L.length<100000000):∀ (n f i:Nat) (k:Nat) (x:List Int),i+n=L.length->n<f->k≤x.length->x.take k=(L.take i).flatten ->
  ∃ k' x',t5 L f k (i:Int) x=some (.inr (k',x'))/\x'.take k'=L.flatten
 |_,0,_,_,_,_,h,_,_=>by omega
 |0,f+1,i,k,x,h,_,hk,hx=>by
  rw [t5.eq_2,i0 (by simp;omega)]
  exact ⟨k,x,rfl,by rw [hx,List.take_of_length_le (by omega)]⟩
 |n+1,f+1,i,k,x,h,h',hk,hx=>by
  have e:L.take (i+1)=L.take i++[L.getD i []]:=by rw [List.take_succ_eq_append_getElem (by omega)];simp [List.getD,show i<L.length by omega]
  have e2:(L.take (i+1)).flatten=(L.take i).flatten++L.getD i []:=by rw [e,List.flatten_append];simp
  have hle:(L.take (i+1)).flatten.length≤L.flatten.length:=by
   have:=congrArg List.length (congrArg List.flatten (List.take_append_drop (i+1) L))
   rw [List.flatten_append,List.length_append] at this
   omega
  have hkl:k=(L.take i).flatten.length:=by rw [←hx,List.length_take];omega
  rw [e2,List.length_append] at hle
  rw [t5.eq_2,j7 (by simp;omega),if_pos (by omega),Int.toNat_natCast,if_pos (by omega),if_pos hk,hx,←e2,show (i:Int)+1=((i+1:Nat):Int) from rfl,A8 (by omega)]
  exact i06 L hs hn n f (i+1) _ _ (by omega) (by omega) (Nat.le_refl _) (List.take_length ..)
theorem Rz {L:List (List Int)} (hs:L.flatten.length<100000000000) (hn:L.length<100000000):∃ k x,A9 L=some (k,x)/\x.take k=L.flatten:=by
 unfold A9
 have h1:=i05 L hs hn L.length f9 0 (by omega) (by unfold f9;omega)
 have h1:s9 L f9 0 0=_:=h1
 rw [h1,Option.bind_some,Mn (by omega),Option.bind_some]
 simp only
 obtain ⟨k,x,h2,h3⟩:=i06 L hs hn L.length f9 0 0 (List.replicate L.flatten.length 0) (by omega) (by unfold f9;omega) (Nat.zero_le _) rfl
 have h2:t5 L f9 0 0 (List.replicate L.flatten.length 0)=_:=h2
 rw [h2,Option.bind_some]
 exact ⟨k,x,rfl,h3⟩
end Go.Eng
namespace Go.Eng
set_option maxRecDepth 100000
set_option maxHeartbeats 1000000
def T4:List UInt8:=[72,80,75,69,45,118,49,75,69,77,0,32]
def O9 (label:List UInt8) (M:List Int):List Int:=Z4 [] (G3 (T4++label)++M)
def Fy (s:List Int) (label:List UInt8) (info:List Int):List Int:=Z4 s (G3 ([0,32]++T4++label)++info++[1])
def Hp:List Int:=(List.replicate 32 (0:Int)).set 0 9
def F5 (seed:List Int):List Int×List Int :=
 (Fy (O9 [100,107,112,95,112,114,107] seed) [115,107] [],v9 (Fy (O9 [100,107,112,95,112,114,107] seed) [115,107] []) Hp)
def Ch (dh enc to:List Int):List Int:=Fy (O9 [101,97,101,95,112,114,107] dh) [115,104,97,114,101,100,95,115,101,99,114,101,116] (enc++to)
theorem Gp (s:List Int) (l:List UInt8) (i:List Int):p9 256 (Fy s l i):=Rl _ _
theorem Af (s:List Int) (l:List UInt8) (i:List Int):(Fy s l i).length=32:=Da _ _
theorem Ee (l:List UInt8) (i:List Int):p9 256 (O9 l i):=Rl _ _
theorem Ef (l:List UInt8) (i:List Int):(O9 l i).length=32:=Da _ _
theorem Ag (k u:List Int):p9 256 (v9 k u):=f28 32 _
theorem Cs (k u:List Int):(v9 k u).length=32:=by rw [v9,Xk,A1,Ae]
theorem c59:p9 256 Hp:=by unfold Hp;exact a32 (d24 32) (by decide) (by decide)
theorem c60:Hp.length=32:=by simp [Hp]
theorem Oh {M:List Int} (hM:p9 256 M) (lM:M.length<1000000000):z7 [] M=some (Z4 [] M):=by
 unfold z7
 rw [Vp (key:=[]) trivial (by decide) (fun x hx=>by rw [List.mem_singleton.1 hx];exact hM) (by simp) (by simp;omega)]
 simp
theorem d26 {label:List UInt8} {n:Nat} {M:List Int} (hl:label.length<1000) (hM:p9 256 M) (lM:M.length≤n) (hn:n<1000000):Gt label n M=some (O9 label M):=by
 unfold Gt
 rw [if_pos (by simp only [List.length_cons,List.length_nil];omega),m6,e50 lM (by omega),Option.bind_some]
 have h:(G3 (T4++label)++M).length<2000000:=by rw [List.length_append,K1,List.length_append];simp only [T4,List.length_cons,List.length_nil];omega
 have h1:(G3 (T4++label)).length<2000:=by rw [K1,List.length_append];simp only [T4,List.length_cons,List.length_nil];omega
 show (if (((G3 (T4++label)).length:Int)+M.length)*1≤140737488355328 then (z7 [] (G3 (T4++label)++M)).bind fun x13=>some x13 else none)=_
 rw [if_pos (by omega),Oh (s5 (Y5 _) hM) (by omega)];rfl
theorem b40 {label:List UInt8} {n:Nat} {M:List Int} (hl:label.length<1000) (hM:p9 256 M) (lM:M.length≤n) (hn:n<1000000):Bw label n M=some (O9 label M):=by
 unfold Bw
 rw [if_pos (by simp only [List.length_cons,List.length_nil];omega),m6,b91 lM (by omega),Option.bind_some]
 have h:(G3 (T4++label)++M).length<2000000:=by rw [List.length_append,K1,List.length_append];simp only [T4,List.length_cons,List.length_nil];omega
 have h1:(G3 (T4++label)).length<2000:=by rw [K1,List.length_append];simp only [T4,List.length_cons,List.length_nil];omega
 show (if (((G3 (T4++label)).length:Int)+M.length)*1≤140737488355328 then (z7 [] (G3 (T4++label)++M)).bind fun x13=>some x13 else none)=_
 rw [if_pos (by omega),Oh (s5 (Y5 _) hM) (by omega)];rfl
theorem b41 {label:List UInt8} {L:List (List Int)} (hl:label.length<1000) (hM:p9 256 L.flatten) (lM:L.flatten.length<1000000) (hn:L.length<1000):Bz label L=some (O9 label L.flatten):=by
 unfold Bz
 obtain ⟨k,x,e,h0⟩:=Rz (L:=L) (by omega) (by omega)
 rw [if_pos (by simp only [List.length_cons,List.length_nil];omega),m6,e,Option.bind_some]
 simp only
 rw [h0]
 have h:(G3 (T4++label)++L.flatten).length<2000000:=by rw [List.length_append,K1,List.length_append];simp only [T4,List.length_cons,List.length_nil];omega
 have h1:(G3 (T4++label)).length<2000:=by rw [K1,List.length_append];simp only [T4,List.length_cons,List.length_nil];omega
 show (if (((G3 (T4++label)).length:Int)+L.flatten.length)*1≤140737488355328 then (z7 [] (G3 (T4++label)++L.flatten)).bind fun x13=>some x13 else none)=_
 rw [if_pos (by omega),Oh (s5 (Y5 _) hM) (by omega)];rfl
theorem i95 {m:List Int} (h:m.length=32):T9 (List.replicate 32 0) 0 m=m:=by
 unfold T9
 rw [List.take_zero,List.nil_append,List.drop_of_length_le (by rw [List.length_replicate];omega),List.append_nil]
theorem b42 {s info:List Int} (hs:p9 256 s) (ls:s.length=32) (hi:p9 256 info) (li:info.length≤65536) :
  ((G5 (List.take 32 s) info 32).bind fun r25=>match r25 with
     |(Sum.inl (x22,x23))=>nm ((T9 (List.replicate 32 (0:Int)) 0 (List.take 32 (List.take x22 x23))):List Int) fun x24=>some x24
     |(Sum.inr _)=>some (List.replicate 32 (0:Int)))=some (Z4 s (info++[1])):=by
 have t:s.take 32=s:=List.take_of_length_le (by omega)
 have h:=Yt (n:=32) hs hi (by omega) li (by decide) (by decide)
 have h:G5 s info 32=_:=h
 have t1:(Z4 s (info++[1])).take 32=Z4 s (info++[1]):=List.take_of_length_le (by rw [Da];decide)
 rw [t,h,Option.bind_some]
 simp only
 rw [m6,t1,t1,i95 (Da _ _)]
theorem Yu {s:List Int} {label:List UInt8} {L:List (List Int)} (hs:p9 256 s) (ls:s.length=32) (hl:label.length<1000) (hM:p9 256 L.flatten) (lM:L.flatten.length<1000) (hn:L.length<1000) :
  Fp s label L=some (Fy s label L.flatten):=by
 unfold Fp
 obtain ⟨k,x,e,h0⟩:=Rz (L:=L) (by omega) (by omega)
 rw [if_pos (by simp only [List.length_cons,List.length_nil];omega),m6,e,Option.bind_some]
 simp only
 rw [h0]
 have h1:(G3 ([0,32]++T4++label)).length<2000:=by rw [K1,List.length_append];simp only [T4,List.length_cons,List.length_nil,List.length_append];omega
 have he:=b42 hs ls (info:=G3 ([0,32]++T4++label)++L.flatten) (s5 (Y5 _) hM) (by rw [List.length_append];omega)
 show (if (((G3 ([0,32]++T4++label)).length:Int)+L.flatten.length)*1≤140737488355328 then _ else none)=_
 rw [if_pos (by omega),m6]
 exact he
theorem b93 {s a b:List Int} {label:List UInt8} (hs:p9 256 s) (ls:s.length=32) (hl:label.length<1000) (ha:p9 256 a) (hb:p9 256 b) (la:a.length=32) (lb:b.length=32) :
  Ep s label 32 32 a b=some (Fy s label (a++b)):=by
 unfold Ep
 rw [if_pos (by simp only [List.length_cons,List.length_nil];omega),m6,b92 (by omega) (by decide) (by omega) (by decide),Option.bind_some]
 have h0:(a++b).length=64:=by rw [List.length_append];omega
 have h1:(G3 ([0,32]++T4++label)).length<2000:=by rw [K1,List.length_append];simp only [T4,List.length_cons,List.length_nil,List.length_append];omega
 have he:=b42 hs ls (info:=G3 ([0,32]++T4++label)++(a++b)) (s5 (Y5 _) (s5 ha hb)) (by rw [List.length_append];omega)
 show (if (((G3 ([0,32]++T4++label)).length:Int)+(a++b).length)*1≤140737488355328 then _ else none)=_
 rw [if_pos (by omega)]
 exact he
theorem Xn {k:List Int} (hk:p9 256 k) (lk:k.length=32):Al k=some (v9 k Hp):=by
 unfold Al
 rw [show (List.replicate 32 (0:Int)).set 0 9=Hp from rfl,c50 hk lk c59 c60];rfl
theorem c61 {M:List Int} {n:Nat} (hM:p9 256 M) (lM:M.length≤n) (hn:n<1000000):Jy n M=some (F5 M):=by
 unfold Jy
 rw [d26 (by decide) hM lM hn,Option.bind_some,Yu (L:=[]) (Ee _ _) (Ef _ _) (by decide) trivial (by decide) (by decide),Option.bind_some]
 rw [List.flatten_nil,Xn (Gp _ _ _) (Af _ _ _)];rfl
theorem e51 {L:List (List Int)} (hM:p9 256 L.flatten) (lM:L.flatten.length<1000000) (hn:L.length<1000):Kd L=some (F5 L.flatten):=by
 unfold Kd
 rw [b41 (by decide) hM lM hn,Option.bind_some,Yu (L:=[]) (Ee _ _) (Ef _ _) (by decide) trivial (by decide) (by decide),Option.bind_some]
 rw [List.flatten_nil,Xn (Gp _ _ _) (Af _ _ _)];rfl
theorem Yv {dh enc to:List Int} (h1:p9 256 dh) (l1:dh.length=32) (h2:p9 256 enc) (l2:enc.length=32) (h3:p9 256 to) (l3:to.length=32):Am dh enc to=some (Ch dh enc to):=by
 unfold Am
 rw [b40 (by decide) h1 (by omega) (by decide),Option.bind_some,b93 (Ee _ _) (Ef _ _) (by decide) h2 h3 l2 l3];rfl
theorem Sa {label:List UInt8} {M:List Int} (hl:label.length<1000) (hM:p9 256 M) (lM:M.length<1000000):J8 [75,69,77,0,32] label M=some (O9 label M):=by
 unfold J8
 rw [if_pos (by simp only [List.length_cons,List.length_nil];omega),if_pos (by simp only [List.length_append,List.length_cons,List.length_nil];omega),m6]
 have h1:(G3 (T4++label)).length<2000:=by rw [K1,List.length_append];simp only [T4,List.length_cons,List.length_nil];omega
 show (if (((G3 (T4++label)).length:Int)+M.length)*1≤140737488355328 then (Ca [] (G3 (T4++label)++M)).bind fun x13=>some x13 else none)=_
 rw [if_pos (by omega),Og (key:=[]) trivial (s5 (Y5 _) hM) (by decide) (by rw [List.length_append];omega)];rfl
theorem Vr {s info:List Int} {label:List UInt8} (hs:p9 256 s) (ls:s.length=32) (hl:label.length<1000) (hi:p9 256 info) (li:info.length<1000):I9 [75,69,77,0,32] s label info 32=some (Fy s label info):=by
 unfold I9
 have h1:(G3 ([0,32]++T4++label)).length<2000:=by rw [K1,List.length_append];simp only [T4,List.length_cons,List.length_nil,List.length_append];omega
 have h2:(G3 (T4++label)).length<2000:=by rw [K1,List.length_append];simp only [T4,List.length_cons,List.length_nil];omega
 have e:([IntKind.wrap .u8 (IntKind.wrap .i64 (Int.tdiv 32 256)),IntKind.wrap .u8 (Int.tmod 32 256)]:List Int)=[0,32]:=by decide
 have e2:G3 ([0,32]++T4++label)=[0,32]++G3 (T4++label):=by rw [List.append_assoc,b39];rfl
 have t:s.take 32=s:=List.take_of_length_le (by omega)
 rw [m6,e,if_pos (by simp only [List.length_cons,List.length_nil];omega),if_pos (by simp only [List.length_append,List.length_cons,List.length_nil];omega)]
 show (if ((([0,32]:List Int).length:Int)+(G3 (T4++label)).length)*1≤140737488355328 then nm ([0,32]++G3 (T4++label)) fun x30=>if ((x30.length:Int)+info.length)*1≤140737488355328 then (W7 (s.take 32) (x30++info) 32).bind fun x31=>some x31 else none else none)=_
 rw [if_pos (by simp only [List.length_cons,List.length_nil];omega),m6,←e2,if_pos (by omega),t]
 have h:=Vq (n:=32) (info:=G3 ([0,32]++T4++label)++info) hs (s5 (Y5 _) hi) (by omega) (by rw [List.length_append];omega) (by decide) (by decide)
 have h:W7 s (G3 ([0,32]++T4++label)++info) 32=_:=h
 rw [h];rfl
theorem b43 {b:List Int} {i:Nat} (h:i<b.length):b.take (i+1)=b.take i++[b.getD i 0]:=by
 rw [List.take_succ_eq_append_getElem h];simp [List.getD,h]
theorem i07 {b:List Int} (hb:b.length=32):∀ (n f:Nat),n≤32->n<f->W8 b f ((32-n:Nat):Int) (b.take (32-n)++List.replicate n 0)=some b
 |_,0,_,h=>by omega
 |0,f+1,_,_=>by
  rw [W8.eq_2,i0 (by simp;omega),List.take_of_length_le (by omega)];simp
 |n+1,f+1,h,h'=>by
  have e:b.take (32-n)=b.take (32-(n+1))++[b.getD (32-(n+1)) 0]:=by
   rw [←b43 (by omega),show 32-n=(32-(n+1))+1 by omega]
  rw [W8.eq_2,j7 (by simp;omega),if_pos (by omega),if_pos (by omega),m6,Int.toNat_natCast,Jp _ (by rw [List.length_take];omega),←e,show ((32-(n+1):Nat):Int)+1=((32-n:Nat):Int) by omega,A8 (by omega)]
  exact i07 hb n f (by omega) (by omega)
theorem b44 {b:List Int} (hb:b.length=32):Ke (b.take (Int.toNat (32-0)))=some b:=by
 have t:b.take (Int.toNat (32-0))=b:=List.take_of_length_le (by rw [hb];decide)
 have h:=i07 hb 32 f9 (by decide) (by unfold f9;omega)
 have h:W8 b f9 0 (List.replicate 32 0)=_:=h
 unfold Ke
 rw [t,h];rfl
theorem f35 {k:List Int} (hk:p9 256 k) (lk:k.length=32):Nb k=some (v9 k Hp):=by
 unfold Nb
 rw [show (List.replicate 32 (0:Int)).set 0 9=Hp from rfl,b08 hk lk c59 c60];rfl
theorem f36 {M:List Int} (hM:p9 256 M) (lM:M.length<1000000):Nc M=some (F5 M):=by
 unfold Nc
 rw [Sa (by decide) hM lM,Option.bind_some,Vr (Ee _ _) (Ef _ _) (by decide) (info:=[]) trivial (by decide),Option.bind_some,b44 (Af _ _ _),Option.bind_some,f35 (Gp _ _ _) (Af _ _ _)];rfl
end Go.Eng
namespace Go.Eng
set_option maxRecDepth 100000
set_option maxHeartbeats 1000000
theorem d27 {dh enc to:List Int} (h1:p9 256 dh) (l1:dh.length=32) (h2:p9 256 enc) (l2:enc.length=32) (h3:p9 256 to) (l3:to.length=32):Dj dh enc to=some (Ch dh enc to):=by
 unfold Dj
 have t1:dh.take 32=dh:=List.take_of_length_le (by omega)
 have t2:enc.take 32=enc:=List.take_of_length_le (by omega)
 have t3:to.take 32=to:=List.take_of_length_le (by omega)
 rw [t1,t2,t3,Sa (by decide) h1 (by omega),Option.bind_some,List.length_nil,if_pos (by omega),List.nil_append,if_pos (by omega),m6]
 rw [Vr (Ee _ _) (Ef _ _) (by decide) (s5 h2 h3) (by rw [List.length_append];omega),Option.bind_some,b44 (Af _ _ _)];rfl
def G0:List Int:=List.replicate 32 0
theorem g06 {b:List Int} (hb:p9 256 b):∀ (n f i a:Nat),i+n=b.length->b.length<1000000->n<f->a<256->∃ r:Nat,N8 b f (a:Int) (i:Int)=some (r:Int)/\r<256/\(r=0↔a=0/\∀ j,i≤j->j<b.length->b.getD j 0=0)
 |_,0,_,_,_,_,h,_=>by omega
 |0,f+1,i,a,h,_,_,ha=>by
  rw [N8.eq_2,i0 (by simp;omega)]
  exact ⟨a,rfl,ha,⟨fun h'=>⟨h',fun j h1 h2=>by omega⟩,fun h'=>h'.1⟩⟩
 |n+1,f+1,i,a,h,hs,h',ha=>by
  obtain ⟨g1,g2⟩:=Y4 (by decide) i hb
  obtain ⟨x,e⟩:=Int.eq_ofNat_of_zero_le g1
  have hx:x<256:=by omega
  rw [N8.eq_2,j7 (by simp;omega),if_pos (by omega),Int.toNat_natCast,e,d98 ha hx,show (i:Int)+1=((i+1:Nat):Int) from rfl,A8 (by omega)]
  obtain ⟨r,h1,h2,h3⟩:=g06 hb n f (i+1) (a|||x) (by omega) hs (by omega) (Nat.or_lt_two_pow (n:=8) ha hx)
  refine ⟨r,h1,h2,h3.trans ?_⟩
  rw [Nat.or_eq_zero_iff]
  constructor
  ·rintro ⟨⟨p,q⟩,s⟩
   refine ⟨p,fun j hj hj' => ?_⟩
   by_cases hij:j=i
   ·rw [hij,e,q];rfl
   ·exact s j (by omega) hj'
  ·rintro ⟨p,s⟩
   have:=s i (Nat.le_refl _) (by omega)
   exact ⟨⟨p,by omega⟩,fun j hj hj'=>s j (by omega) hj'⟩
theorem g73 {b:List Int} (hb:p9 256 b) (lb:b.length=32):Jz b=some (b==G0):=by
 obtain ⟨r,h1,h2,h3⟩:=g06 hb 32 f9 0 0 (by omega) (by omega) (by unfold f9;omega) (by decide)
 have h1:N8 b f9 0 0=_:=h1
 unfold Jz
 rw [h1,Option.bind_some]
 congr 1
 by_cases hr:r=0
 ·have hz:b=G0:=by
   refine List.ext_getElem (by rw [lb];rfl) fun j hj hj' => ?_
   have:=(h3.1 hr).2 j (Nat.zero_le _) hj
   simp only [List.getD,List.getElem?_eq_getElem hj,Option.getD_some] at this
   rw [this];exact (List.getElem_replicate ..).symm
  rw [hz,hr];rfl
 ·have hz:b≠G0:=fun e=>hr (h3.2 ⟨rfl,fun j _ hj=>by
   subst e
   simp only [List.getD,List.getElem?_eq_getElem hj,Option.getD_some];exact List.getElem_replicate ..⟩)
  rw [beq_false_of_ne hz]
  apply beq_false_of_ne
  omega
theorem Yw {k u:List Int} (hk:p9 256 k) (lk:k.length=32) (hu:p9 256 u) (lu:u.length=32):N9 k u=some (if v9 k u=G0 then .inr () else .inl (v9 k u)):=by
 have t:(v9 k u).take 32=v9 k u:=List.take_of_length_le (by rw [Cs];decide)
 unfold N9
 rw [c50 hk lk hu lu,Option.bind_some,t,g73 (Ag _ _) (Cs _ _),Option.bind_some]
 by_cases h:v9 k u=G0
 ·rw [if_pos h,j7 (by simpa using h)]
 ·rw [if_neg h,i0 (by simpa using h)]
theorem Mo (M:List Int):p9 256 (F5 M).1/\(F5 M).1.length=32/\p9 256 (F5 M).2/\(F5 M).2.length=32:=⟨Gp _ _ _,Af _ _ _,Ag _ _,Cs _ _⟩
def Ct (to M:List Int):List Int⊕Unit:=if v9 (F5 M).1 to=G0 then .inr () else .inl (Ch (v9 (F5 M).1 to) (F5 M).2 to)
theorem b45 {to M:List Int} (h:v9 (F5 M).1 to=G0):Ct to M = .inr ():=if_pos h
theorem Vs {to M:List Int} (h:¬ v9 (F5 M).1 to=G0):Ct to M = .inl (Ch (v9 (F5 M).1 to) (F5 M).2 to):=if_neg h
theorem e52 {k u:List Int} (h:v9 k u=G0):(if v9 k u=G0 then .inr () else .inl (v9 k u):List Int⊕Unit) = .inr ():=if_pos h
theorem e53 {k u:List Int} (h:¬ v9 k u=G0):(if v9 k u=G0 then .inr () else .inl (v9 k u):List Int⊕Unit) = .inl (v9 k u):=if_neg h
theorem c62 {to M:List Int} (ht:p9 256 to) (lt:to.length=32) :
  ((N9 (F5 M).1 to).bind fun r9=>match r9 with
   |(Sum.inl x8)=>(Am x8 (F5 M).2 to).bind fun x9=>some (Sum.inl ((F5 M).2,x9))
   |(Sum.inr ())=>some (Sum.inr ()))=some (match Ct to M with | .inl c => .inl ((F5 M).2,c) | .inr () => .inr ()):=by
 obtain ⟨p1,p2,p3,p4⟩:=Mo M
 rw [Yw p1 p2 ht lt,Option.bind_some]
 by_cases h:v9 (F5 M).1 to=G0
 ·rw [b45 h,e52 h]
 ·rw [Vs h,e53 h]
  simp only
  rw [Yv (Ag _ _) (Cs _ _) p3 p4 ht lt];rfl
theorem f37 {to M:List Int} {n:Nat} (ht:p9 256 to) (lt:to.length=32) (hM:p9 256 M) (lM:M.length≤n) (hn:n<1000000) :
  Mw to n M=some (match Ct to M with | .inl c => .inl ((F5 M).2,c) | .inr () => .inr ()):=by
 unfold Mw
 rw [c61 hM lM hn,Option.bind_some]
 exact c62 ht lt
theorem e54 {to:List Int} {L:List (List Int)} (ht:p9 256 to) (lt:to.length=32) (hM:p9 256 L.flatten) (lM:L.flatten.length<1000000) (hn:L.length<1000) :
  Gw to L=some (match Ct to L.flatten with | .inl c => .inl ((F5 L.flatten).2,c) | .inr () => .inr ()):=by
 unfold Gw
 rw [e51 hM lM hn,Option.bind_some]
 exact c62 ht lt
theorem e55 {to M:List Int} (ht:p9 256 to) (lt:to.length=32) (hM:p9 256 M) (lM:M.length<1000000) :
  Kh to M=some (match Ct to M with | .inl c=>((F5 M).2,c,true) | .inr ()=>(G0,G0,false)):=by
 obtain ⟨p1,p2,p3,p4⟩:=Mo M
 unfold Kh
 rw [f36 hM lM,Option.bind_some]
 show ((Fr (F5 M).1 to).bind fun x24=>cond (x24==(List.replicate 32 (0:Int))) (some (x24,x24,false)) ((Dj x24 (F5 M).2 to).bind fun x25=>some ((F5 M).2,x25,true)))=_
 rw [b08 p1 p2 ht lt,Option.bind_some]
 by_cases h:v9 (F5 M).1 to=G0
 ·rw [b45 h,h,j7 (by decide)]
 ·rw [Vs h,i0 (by simpa [G0] using h),d27 (Ag _ _) (Cs _ _) p3 p4 ht lt];rfl
def Qo (s enc:List Int):List Int⊕Unit:=if v9 s enc=G0 then .inr () else .inl (Ch (v9 s enc) enc (v9 s Hp))
theorem e56 {s enc:List Int} (h:v9 s enc=G0):Qo s enc = .inr ():=if_pos h
theorem Vt {s enc:List Int} (h:¬ v9 s enc=G0):Qo s enc = .inl (Ch (v9 s enc) enc (v9 s Hp)):=if_neg h
theorem f38 {s enc:List Int} (hs:p9 256 s) (ls:s.length=32) (he:p9 256 enc) (le:enc.length=32):Mz s enc=some (Qo s enc):=by
 unfold Mz
 rw [Yw hs ls he le,Option.bind_some]
 by_cases h:v9 s enc=G0
 ·rw [e56 h,e52 h]
 ·rw [Vt h,e53 h]
  simp only
  rw [Xn hs ls,Option.bind_some,Yv (Ag _ _) (Cs _ _) he le (Ag _ _) (Cs _ _)];rfl
end Go.Eng
