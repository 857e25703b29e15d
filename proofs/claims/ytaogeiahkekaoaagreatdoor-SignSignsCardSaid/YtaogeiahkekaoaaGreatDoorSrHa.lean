/-
  Part of a proof: SrHa.
-/
import Derived.Test.YtaogeiahkekaoaaGreatDoorSgHa
set_option linter.unusedVariables false
set_option linter.unusedSimpArgs false
namespace Go.Eng
set_option maxRecDepth 100000
set_option maxHeartbeats 1000000
def rq (x:Int) (n:Nat):Int:=bits .u64 .or (Int.fdiv x (2^n)) (IntKind.wrap .u64 (x*2^(64-n)))
theorem Rq_14 (x:Int):words_Right64 x 14=some (rq x 14):=rfl
theorem Rq_18 (x:Int):words_Right64 x 18=some (rq x 18):=rfl
theorem Rq_41 (x:Int):words_Right64 x 41=some (rq x 41):=rfl
theorem Rq_28 (x:Int):words_Right64 x 28=some (rq x 28):=rfl
theorem Rq_34 (x:Int):words_Right64 x 34=some (rq x 34):=rfl
theorem Rq_39 (x:Int):words_Right64 x 39=some (rq x 39):=rfl
theorem Rq_1 (x:Int):words_Right64 x 1=some (rq x 1):=rfl
theorem Rq_8 (x:Int):words_Right64 x 8=some (rq x 8):=rfl
theorem Rq_19 (x:Int):words_Right64 x 19=some (rq x 19):=rfl
theorem Rq_61 (x:Int):words_Right64 x 61=some (rq x 61):=rfl
abbrev xor5 (a b:Int):Int:=bits .u64 .xor a b
abbrev and5 (a b:Int):Int:=bits .u64 .and a b
def hor (x:Int):List Int->Int
 |[]=>x
 |c::l=>hor (x*256+c) l
def word5 (b:List Int) (t:Nat):Int:=hor 0 ((b.drop (8*t)).take 8)
def next5 (W:List Int) (t:Nat):Int :=
 (W.getD (t-16) 0+xor5 (xor5 (rq (W.getD (t-15) 0) 1) (rq (W.getD (t-15) 0) 8)) (Int.fdiv (W.getD (t-15) 0) (2^7))+W.getD (t-7) 0 +
  xor5 (xor5 (rq (W.getD (t-2) 0) 19) (rq (W.getD (t-2) 0) 61)) (Int.fdiv (W.getD (t-2) 0) (2^6)))%18446744073709551616
def ext5:Nat->List Int->List Int
 |0,W=>W
 |n+1,W=>ext5 n (W++[next5 W (79-n)])
def words5 (b:List Int):Nat->List Int->List Int
 |0,W=>W
 |n+1,W=>words5 b n (W++[word5 b (15-n)])
def sched5 (b:List Int):List Int:=ext5 64 (words5 b 16 [])
theorem words5_len (b:List Int):∀ n W,(words5 b n W).length=W.length+n
 |0,_=>rfl
 |n+1,W=>by rw [words5,words5_len b n];simp;omega
theorem ext5_len:∀ n W,(ext5 n W).length=W.length+n
 |0,_=>rfl
 |n+1,W=>by rw [ext5,ext5_len n];simp;omega
theorem sched5_len (b:List Int):(sched5 b).length=80:=by rw [sched5,ext5_len,words5_len];rfl
structure S8 where
 a:Int
 b:Int
 c:Int
 d:Int
 e:Int
 f:Int
 g:Int
 h:Int
def S8.l (s:S8):List Int:=[s.a,s.b,s.c,s.d,s.e,s.f,s.g,s.h]
def t15 (k w:Int) (s:S8):Int :=
 IntKind.wrap .u64 (IntKind.wrap .u64 (IntKind.wrap .u64 (IntKind.wrap .u64 (s.h+xor5 (xor5 (rq s.e 14) (rq s.e 18)) (rq s.e 41))+xor5 (and5 s.e s.f) (and5 (xor5 (IntKind.max .u64) s.e) s.g))+k)+w)
def t25 (s:S8):Int :=
 IntKind.wrap .u64 (xor5 (xor5 (rq s.a 28) (rq s.a 34)) (rq s.a 39)+xor5 (xor5 (and5 s.a s.b) (and5 s.a s.c)) (and5 s.b s.c))
def round5 (k w:Int) (s:S8):S8:=⟨IntKind.wrap .u64 (t15 k w s+t25 s),s.a,s.b,s.c,IntKind.wrap .u64 (s.d+t15 k w s),s.e,s.f,s.g⟩
def rounds5 (W:List Int):Nat->S8->S8
 |0,s=>s
 |n+1,s=>rounds5 W n (round5 (tb_shawide_constants.getD (79-n) 0) (W.getD (79-n) 0) s)
def add5 (s v:S8):S8:=⟨IntKind.wrap .u64 (s.a+v.a),IntKind.wrap .u64 (s.b+v.b),IntKind.wrap .u64 (s.c+v.c),IntKind.wrap .u64 (s.d+v.d),IntKind.wrap .u64 (s.e+v.e),IntKind.wrap .u64 (s.f+v.f),IntKind.wrap .u64 (s.g+v.g),IntKind.wrap .u64 (s.h+v.h)⟩
def comp5 (s:S8) (b:List Int):S8:=add5 s (rounds5 (sched5 b) 80 s)
def blk5:Nat->S8->List Int->S8
 |0,s,_=>s
 |n+1,s,l=>blk5 n (comp5 s (l.take 128)) (l.drop 128)
def orw (x c:Int):Int:=bits .u64 .or (IntKind.wrap .u64 (x*2^8)) (IntKind.wrap .u64 c)
theorem word_raw (c0 c1 c2 c3 c4 c5 c6 c7:Int) (r:List Int):shawide_word (c0::c1::c2::c3::c4::c5::c6::c7::r)=(if 8≤(List.length (c0::c1::c2::c3::c4::c5::c6::c7::r):Int) then some (orw (orw (orw (orw (orw (orw (orw (orw 0 c0) c1) c2) c3) c4) c5) c6) c7) else none):=by kernel_rfl
theorem or64 {x c:Nat} (hx:x<72057594037927936) (hc:c<256):orw (x:Int) (c:Int)=((x*256+c:Nat):Int):=by
 have e1:IntKind.wrap .u64 ((x:Int)*2^8)=((x*2^8:Nat):Int):=by rw [muln,u64n,Nat.mod_eq_of_lt (by omega)]
 have e2:IntKind.wrap .u64 (c:Int)=(c:Int):=by rw [u64n,Nat.mod_eq_of_lt (by omega)]
 unfold orw
 rw [e1,e2]
 show IntKind.u64.wrap (((BitVec.ofInt 64 ((x*2^8:Nat):Int)|||BitVec.ofInt 64 (c:Int):BitVec 64).toNat:Nat):Int)=_
 rw [BitVec.ofInt_natCast,BitVec.ofInt_natCast,BitVec.toNat_or,BitVec.toNat_ofNat,BitVec.toNat_ofNat]
 have h:c<2^8:=hc
 simp only [Nat.reducePow]
 rw [Nat.mod_eq_of_lt (a:=c) (by omega),Nat.mod_eq_of_lt (a:=x*256) (by omega),Nat.or_comm,show (256:Nat)=2^8 from rfl,or_add h,Nat.mul_comm,Nat.add_comm,u64n,Nat.mod_eq_of_lt (by omega)]
theorem orw_eq {x:Nat} {c:Int} (hx:x<72057594037927936) (hc:0≤c/\c<256):orw (x:Int) c=(x:Int)*256+c/\∃ y:Nat,(x:Int)*256+c=(y:Int)/\y<(x+1)*256:=by
 obtain ⟨c,rfl⟩:=Int.eq_ofNat_of_zero_le hc.1
 have:c<256:=by have:=hc.2;omega
 exact ⟨by rw [or64 hx this];rfl,x*256+c,rfl,by omega⟩
theorem word_is {b:List Int} (hb:byt b) (h:8≤b.length):shawide_word b=some (hor 0 (b.take 8)):=by
 match b,h,hb with
 |c0::c1::c2::c3::c4::c5::c6::c7::r,h,hb =>
  have m:∀ c∈[c0,c1,c2,c3,c4,c5,c6,c7],0≤c/\c<256:=fun c hc=>hb c (by simp at hc ⊢;omega)
  rw [word_raw,if_pos (by omega)]
  obtain ⟨e0,y0,f0,g0⟩:=orw_eq (x:=0) (by decide) (m c0 (by simp))
  rw [show ((0:Nat):Int)=0 from rfl] at e0 f0
  obtain ⟨e1,y1,f1,g1⟩:=orw_eq (x:=y0) (by omega) (m c1 (by simp))
  obtain ⟨e2,y2,f2,g2⟩:=orw_eq (x:=y1) (by omega) (m c2 (by simp))
  obtain ⟨e3,y3,f3,g3⟩:=orw_eq (x:=y2) (by omega) (m c3 (by simp))
  obtain ⟨e4,y4,f4,g4⟩:=orw_eq (x:=y3) (by omega) (m c4 (by simp))
  obtain ⟨e5,y5,f5,g5⟩:=orw_eq (x:=y4) (by omega) (m c5 (by simp))
  obtain ⟨e6,y6,f6,g6⟩:=orw_eq (x:=y5) (by omega) (m c6 (by simp))
  obtain ⟨e7,y7,f7,g7⟩:=orw_eq (x:=y6) (by omega) (m c7 (by simp))
  rw [e0,f0,e1,f1,e2,f2,e3,f3,e4,f4,e5,f5,e6,f6,e7,f7]
  show _=some (hor (0*256+c0) [c1,c2,c3,c4,c5,c6,c7])
  rw [f0]
  show _=some (hor (y0*256+c1) [c2,c3,c4,c5,c6,c7])
  rw [f1]
  show _=some (hor (y1*256+c2) [c3,c4,c5,c6,c7])
  rw [f2]
  show _=some (hor (y2*256+c3) [c4,c5,c6,c7])
  rw [f3]
  show _=some (hor (y3*256+c4) [c5,c6,c7])
  rw [f4]
  show _=some (hor (y4*256+c5) [c6,c7])
  rw [f5]
  show _=some (hor (y5*256+c6) [c7])
  rw [f6]
  show _=some (y6*256+c7)
  rw [f7]
theorem set_rep {W:List Int} {n:Nat} (x:Int) {i:Nat} (h:i=W.length):(W++List.replicate (n+1) 0).set i x=(W++[x])++List.replicate n 0:=by
 subst h
 rw [List.set_append_right _ _ (Nat.le_refl _),Nat.sub_self,List.replicate_succ,List.set_cons_zero,List.append_assoc];rfl
theorem getD_app {W Z:List Int} {i:Nat} (h:i<W.length):(W++Z).getD i 0=W.getD i 0:=by
 simp [List.getD,List.getElem?_append_left h]
theorem byt_drop {l:List Int} (k:Nat) (h:byt l):byt (l.drop k):=fun y hy=>h y (List.mem_of_mem_drop hy)
theorem byt_take {l:List Int} (k:Nat) (h:byt l):byt (l.take k):=fun y hy=>h y (List.mem_of_mem_take hy)
theorem wrap35 (a b c d:Int):IntKind.wrap .u64 (IntKind.wrap .u64 (IntKind.wrap .u64 (a+b)+c)+d)=(a+b+c+d)%18446744073709551616:=by
 rw [wu64,wu64,wu64];omega
theorem sched5_l2 (b:List Int):∀ (n f:Nat) (W:List Int),n≤64->W.length=80-n->n<f ->
  shawide_schedule_l1 b f ((80-n:Nat):Int) (W++List.replicate n 0)=some (ext5 n W)
 |_,0,_,_,_,h=>by omega
 |0,f+1,W,_,_,_=>by rw [shawide_schedule_l1.eq_2,cond_ff (by decide)];simp [ext5]
 |n+1,f+1,W,h,h',h''=>by
  rw [shawide_schedule_l1.eq_2,cond_tt (by simp;omega),cond_ff (by simp;omega)]
  have e0:((80-(n+1):Nat):Int)-15=((79-n-15:Nat):Int):=by omega
  have e1:((80-(n+1):Nat):Int)-2=((79-n-2:Nat):Int):=by omega
  have e2:((80-(n+1):Nat):Int)-16=((79-n-16:Nat):Int):=by omega
  have e3:((80-(n+1):Nat):Int)-7=((79-n-7:Nat):Int):=by omega
  simp only [nm_eq,e0,e1,e2,e3,i64n (n:=79-n-15) (by omega),i64n (n:=79-n-2) (by omega),i64n (n:=79-n-16) (by omega),i64n (n:=79-n-7) (by omega),Int.toNat_natCast,
   Rq_1,Rq_8,Rq_19,Rq_61,Option.bind_some,getD_app (W:=W) (i:=79-n-15) (by omega),getD_app (W:=W) (i:=79-n-2) (by omega),getD_app (W:=W) (i:=79-n-16) (by omega),getD_app (W:=W) (i:=79-n-7) (by omega)]
  rw [if_pos (by omega),if_pos (by omega),if_pos (by omega),if_pos (by omega),if_pos (by omega),Option.bind_some,wrap35]
  rw [set_rep _ h'.symm,show ((80-(n+1):Nat):Int)+1=((80-n:Nat):Int) by omega,i64n (by omega)]
  exact sched5_l2 b n f (W++[next5 W (79-n)]) (by omega) (by simp;omega) (by omega)
theorem sched5_l1 {b:List Int} (hb:byt b) (hn:b.length=128):∀ (n f:Nat) (W:List Int),n≤16->W.length=16-n->n+64<f ->
  shawide_schedule_l1 b f ((16-n:Nat):Int) (W++List.replicate (64+n) 0)=some (ext5 64 (words5 b n W))
 |_,0,_,_,_,h=>by omega
 |0,f+1,W,h,h',h''=>sched5_l2 b 64 (f+1) W (by decide) (by omega) (by omega)
 |n+1,f+1,W,h,h',h''=>by
  rw [shawide_schedule_l1.eq_2,cond_tt (by simp;omega),cond_tt (by simp;omega)]
  have e0:8*((16-(n+1):Nat):Int)=((8*(15-n):Nat):Int):=by omega
  have e1:Int.toNat (((128:Nat):Int)-((8*(15-n):Nat):Int))=128-8*(15-n):=by omega
  simp only [nm_eq,e0,i64n (n:=8*(15-n)) (by omega),Int.toNat_natCast,hn,e1]
  rw [if_pos (by omega),word_is (byt_take _ (byt_drop _ hb)) (by rw [List.length_take,List.length_drop];omega),Option.bind_some,if_pos (by omega),Option.bind_some,List.take_take,show min 8 (128-8*(15-n))=8 by omega]
  rw [show 64+(n+1)=(64+n)+1 from rfl,set_rep _ h'.symm,show ((16-(n+1):Nat):Int)+1=((16-n:Nat):Int) by omega,i64n (by omega)]
  exact sched5_l1 hb hn n f (W++[word5 b (15-n)]) (by omega) (by simp;omega) (by omega)
theorem schedule_is {b:List Int} (hb:byt b) (hn:b.length=128):shawide_schedule b=some (sched5 b):=by
 unfold shawide_schedule
 have h1:=sched5_l1 hb hn 16 FUEL [] (by decide) rfl (big _ (by omega))
 have h1:shawide_schedule_l1 b FUEL 0 (List.replicate 80 0)=_:=h1
 rw [h1];rfl
theorem rounds5_l1 (W:List Int):∀ (n f:Nat) (s:S8),n≤80->n<f->shawide_state_take_2_l1 W f ((80-n:Nat):Int) s.l=some (rounds5 W n s).l
 |_,0,_,_,h=>by omega
 |0,f+1,s,_,_=>by rw [shawide_state_take_2_l1.eq_2,cond_ff (by decide)];rfl
 |n+1,f+1,s,h,h'=>by
  rw [shawide_state_take_2_l1.eq_2,cond_tt (by simp;omega),if_pos (by omega)]
  have e0:((80-(n+1):Nat):Int)=((79-n:Nat):Int):=by omega
  rw [e0]
  obtain ⟨a,b,c,d,e,f',g,h⟩:=s
  simp only [S8.l,nm_eq,Int.toNat_natCast,List.getD_cons_zero,List.getD_cons_succ,Rq_14,Rq_18,Rq_41,Rq_28,Rq_34,Rq_39,Option.bind_some]
  rw [if_pos (by omega)]
  rw [show ((79-n:Nat):Int)+1=((80-n:Nat):Int) by omega,i64n (by omega)]
  exact rounds5_l1 W n f (round5 (tb_shawide_constants.getD (79-n) 0) (W.getD (79-n) 0) ⟨a,b,c,d,e,f',g,h⟩) (by omega) (by omega)
theorem adds5_l2 (s v:S8):shawide_state_take_2_l2 v.l FUEL 0 s.l=some (add5 s v).l:=by
 obtain ⟨a0,a1,a2,a3,a4,a5,a6,a7⟩:=s
 obtain ⟨b0,b1,b2,b3,b4,b5,b6,b7⟩:=v
 kernel_rfl
theorem take_is (s:S8) (off:Nat) {rows:List Int} (hr:byt rows) (hl:off+128≤rows.length) :
  shawide_state_take_2 off 128 s.l rows=some (comp5 s ((rows.drop off).take 128)).l:=by
 unfold shawide_state_take_2
 rw [schedule_is (byt_take _ (byt_drop _ hr)) (by rw [List.length_take,List.length_drop];omega),Option.bind_some]
 have h:=rounds5_l1 (sched5 ((rows.drop off).take 128)) 80 FUEL s (by decide) (big _ (by omega))
 have h:shawide_state_take_2_l1 (sched5 ((rows.drop off).take 128)) FUEL 0 s.l=_:=h
 rw [h,Option.bind_some,adds5_l2];rfl
theorem blocks5_l2 (x:List Int) {m:List Int} (hx:x.length≤1000000) (hm:m.length=x.length) (hb:byt m):∀ (k n i:Nat) (s:S8),i+128*k=x.length->k<n->shawide_Sum_l2 x m n (i:Int) s.l=some (blk5 k s (m.drop i)).l
 |_,0,_,_,_,h=>absurd h (Nat.not_lt_zero _)
 |0,n+1,i,s,h,_=>by rw [shawide_Sum_l2.eq_2,cond_ff (by simp<;>omega)];rfl
 |k+1,n+1,i,s,h,h'=>by
  have hmin:(if ((((x.length:Nat):Int)-(i:Int)).toNat:Int)<128 then ((((x.length:Nat):Int)-(i:Int)).toNat:Int) else 128)=128:=by split<;>omega
  rw [shawide_Sum_l2.eq_2,cond_tt (by simp<;>omega),if_pos ⟨by omega,by omega⟩,nm_eq,hmin,wrap_i64 (n:=(i:Int)+128) (by omega) (by omega),if_pos ⟨by omega,by omega,by omega⟩,if_pos (by omega),Int.toNat_natCast,show ((i:Int)+128-(i:Int)).toNat=128 by omega,take_is s i hb (by omega),Option.bind_some,show (i:Int)+128=((i+128:Nat):Int) from rfl]
  rw [blocks5_l2 x hx hm hb k n (i+128) _ (by omega) (by omega),blk5,List.drop_drop]
end Go.Eng
namespace Go.Eng
set_option maxRecDepth 100000
set_option maxHeartbeats 1000000
def beB (x:Nat):Nat->List Int
 |0=>[]
 |i+1=>((x/2^(8*i)%256:Nat):Int)::beB x i
theorem beB_len (x:Nat):∀ i,(beB x i).length=i
 |0=>rfl
 |i+1=>by rw [beB,List.length_cons,beB_len x i]
theorem beB_byt (x:Nat):∀ i,byt (beB x i)
 |0,y,h=>by cases h
 |i+1,y,h=>by
  rcases List.mem_cons.1 h with rfl|h
  ·exact ⟨by omega,by omega⟩
  ·exact beB_byt x i y h
def pad5 (n:Nat):List Int:=128::(List.replicate ((239-n%128)%128+8) 0++beB (8*n) 8)
theorem pad5_len (n:Nat):(pad5 n).length=(239-n%128)%128+17:=by
 rw [pad5,List.length_cons,List.length_append,List.length_replicate,beB_len]
theorem rep_byt (n:Nat):byt (List.replicate n 0):=fun y h=>by
 rw [List.eq_of_mem_replicate h];decide
theorem pad5_byt (n:Nat):byt (pad5 n):=fun y h=>by
 rcases List.mem_cons.1 h with rfl|h
 ·decide
 ·exact byt_app (rep_byt _) (beB_byt _ _) y h
def beg5:S8:=⟨7640891576956012808,13503953896175478587,4354685564936845355,11912009170470909681,5840696475078001361,11170449401992604703,2270897969802886507,6620516959819538809⟩
def out5 (s:S8):List Int:=wB s.a++(wB s.b++(wB s.c++(wB s.d++(wB s.e++(wB s.f++(wB s.g++wB s.h))))))
def sha5 (M:List Int):List Int:=out5 (blk5 ((M++pad5 M.length).length/128) beg5 (M++pad5 M.length))
theorem set_mid {X T:List Int} {k:Nat} (v:Int):(X++(List.replicate (k+1) 0++T)).set (X.length+k) v=X++(List.replicate k 0++(v::T)):=by
 rw [List.set_append_right _ _ (by omega),Nat.add_sub_cancel_left,List.replicate_succ',List.append_assoc,List.set_append_right _ _ (by simp),List.length_replicate,Nat.sub_self];rfl
theorem pad_l1 (X:List Int) (N:Nat) (hX:X.length≤900000):∀ (r n i:Nat),i+r=8->r<n->shawide_Sum_l1 (X++List.replicate 8 0) (N:Int) n (i:Int) (X++(List.replicate r 0++beB N i))=some (X++beB N 8)
 |_,0,_,_,h=>absurd h (Nat.not_lt_zero _)
 |0,n+1,i,h,_=>by
  obtain rfl:i=8:=by omega
  rw [shawide_Sum_l1.eq_2,cond_ff (by decide)];rfl
 |r+1,n+1,i,h,h'=>by
  have hl:(X++List.replicate 8 (0:Int)).length=X.length+8:=by rw [List.length_append,List.length_replicate]
  have e1:IntKind.wrap .i64 (8*(i:Int))=((8*i:Nat):Int):=by rw [wrap_i64 (by omega) (by omega)];rfl
  have e2:IntKind.wrap .i64 (IntKind.wrap .i64 (((X.length+8:Nat):Int)-1)-(i:Int))=((X.length+r:Nat):Int):=by
   rw [wrap_i64 (n:=((X.length+8:Nat):Int)-1) (by omega) (by omega),wrap_i64 (by omega) (by omega)];omega
  have e3:min (8*i) (IntKind.bits .u64)=8*i:=by show min _ 64=_;omega
  rw [shawide_Sum_l1.eq_2,cond_tt (by simp;omega),nm_eq,hl,e2,e1,if_pos (by omega),nm_eq,Int.toNat_natCast (8*i),e3,fdivn,u8n,if_pos (by omega),Int.toNat_natCast (X.length+r),set_mid,wrap_i64 (n:=(i:Int)+1) (by omega) (by omega)]
  exact pad_l1 X N hX r n (i+1) (by omega) (by omega)
theorem shaC_is {m:List Int} (hm:m.length≤100000) (hb:byt m):shaC m=some (sha5 m):=by
 obtain ⟨q,hq⟩:∃ q,q=(m.length+144)/128:=⟨_,rfl⟩
 have hbl:shawide_blocks (m.length:Int)=some (q:Int):=by
  unfold shawide_blocks
  rw [nm_eq,wrap_i64 (n:=(m.length:Int)+16) (by omega) (by omega),wrap_i64 (n:=(m.length:Int)+16+128) (by omega) (by omega),show (m.length:Int)+16+128=((m.length+144:Nat):Int) by omega,show Int.tdiv ((m.length+144:Nat):Int) 128=(((m.length+144)/128:Nat):Int) from rfl,i64n (by omega),hq]
 have e14:IntKind.wrap .i64 ((IntKind.wrap .i64 ((q:Int)*128))-(m.length:Int))=((q*128-m.length:Nat):Int):=by
  rw [wrap_i64 (n:=(q:Int)*128) (by omega) (by omega),wrap_i64 (by omega) (by omega)];omega
 have e15:IntKind.wrap .i64 (((q*128-m.length:Nat):Int)-1)=((q*128-m.length-1:Nat):Int):=by
  rw [wrap_i64 (by omega) (by omega)];omega
 obtain ⟨k,hk⟩:∃ k,k=(239-m.length%128)%128:=⟨_,rfl⟩
 have hz:q*128-m.length-1=(k+8)+8:=by omega
 have hx:(m++[128])++List.replicate (q*128-m.length-1) (0:Int)=((m++[128])++List.replicate (k+8) 0)++List.replicate 8 0:=by
  rw [hz,List.append_assoc (m++[128]),List.replicate_append_replicate]
 have hX:((m++[128])++List.replicate (k+8) (0:Int)).length=m.length+1+(k+8):=by
  simp only [List.length_append,List.length_replicate,List.length_cons,List.length_nil]
 have hc:IntKind.wrap .u64 (8*(IntKind.wrap .u64 ((List.length m):Int)))=((8*m.length:Nat):Int):=by
  rw [u64n,Nat.mod_eq_of_lt (by omega),show 8*(m.length:Int)=((8*m.length:Nat):Int) by omega,u64n,Nat.mod_eq_of_lt (by omega)]
 have h1:=pad_l1 ((m++[128])++List.replicate (k+8) 0) (8*m.length) (by rw [hX];omega) 8 FUEL 0 (by omega) (big _ (by omega))
 rw [show beB (8*m.length) 0=[] from rfl,List.append_nil] at h1
 have hp:((m++[128])++List.replicate (k+8) 0)++beB (8*m.length) 8=m++pad5 m.length:=by
  rw [pad5,←hk,List.append_assoc,List.append_assoc];rfl
 rw [hp] at h1
 have hl:(m++pad5 m.length).length=q*128:=by rw [List.length_append,pad5_len];omega
 have hl2:(((m++[128])++List.replicate (k+8) (0:Int))++List.replicate 8 0).length=q*128:=by rw [List.length_append,hX,List.length_replicate];omega
 have h2:=blocks5_l2 (((m++[128])++List.replicate (k+8) (0:Int))++List.replicate 8 0) (m:=m++pad5 m.length) (by rw [hl2];omega) (by rw [hl,hl2]) (byt_app hb (pad5_byt _)) q FUEL 0 beg5 (by rw [hl2];omega) (big _ (by omega))
 rw [show ((0:Nat):Int)=0 from rfl] at h1 h2
 have h2:shawide_Sum_l2 _ _ FUEL 0 beginL=some _:=h2
 unfold shaC
 rw [if_pos (by simp only [List.length_cons,List.length_nil];omega),hbl,Option.bind_some,nm_eq,e14,e15,if_pos ⟨by omega,by rw [List.length_append];simp only [List.length_cons,List.length_nil];omega⟩,nm_eq,nm_eq,Int.toNat_natCast,hx,hc,h1,Option.bind_some,chunk_is,Option.bind_some,h2,Option.bind_some,Option.bind_some,Option.bind_some]
 rw [List.drop_zero,show S8.l (blk5 q beg5 (m++pad5 m.length))=[(blk5 q beg5 (m++pad5 m.length)).a,(blk5 q beg5 (m++pad5 m.length)).b,(blk5 q beg5 (m++pad5 m.length)).c,(blk5 q beg5 (m++pad5 m.length)).d,(blk5 q beg5 (m++pad5 m.length)).e,(blk5 q beg5 (m++pad5 m.length)).f,(blk5 q beg5 (m++pad5 m.length)).g,(blk5 q beg5 (m++pad5 m.length)).h] from rfl,out_raw,Option.bind_some,sha5,hl,Nat.mul_div_cancel _ (by decide)];rfl
end Go.Eng
namespace Go.Eng
set_option maxRecDepth 100000
set_option maxHeartbeats 1000000
theorem tq_14 (x:Int):fr03_turn x 14=some (rq x 14):=rfl
theorem tq_18 (x:Int):fr03_turn x 18=some (rq x 18):=rfl
theorem tq_41 (x:Int):fr03_turn x 41=some (rq x 41):=rfl
theorem tq_28 (x:Int):fr03_turn x 28=some (rq x 28):=rfl
theorem tq_34 (x:Int):fr03_turn x 34=some (rq x 34):=rfl
theorem tq_39 (x:Int):fr03_turn x 39=some (rq x 39):=rfl
theorem tq_1 (x:Int):fr03_turn x 1=some (rq x 1):=rfl
theorem tq_8 (x:Int):fr03_turn x 8=some (rq x 8):=rfl
theorem tq_19 (x:Int):fr03_turn x 19=some (rq x 19):=rfl
theorem tq_61 (x:Int):fr03_turn x 61=some (rq x 61):=rfl
theorem wrap35' (a b c d:Int):IntKind.wrap .u64 (IntKind.wrap .u64 (IntKind.wrap .u64 (d+c)+b)+a)=(a+b+c+d)%18446744073709551616:=by
 rw [wu64,wu64,wu64];omega
theorem set_app {W Z:List Int} (x:Int):(W++Z).set W.length x=W++Z.set 0 x:=by
 rw [List.set_append_right _ _ (Nat.le_refl _),Nat.sub_self]
theorem getD_at {W Z:List Int}:(W++Z).getD W.length 0=Z.getD 0 0:=by
 rw [List.getD_eq_getElem?_getD,List.getElem?_append_right (Nat.le_refl _),Nat.sub_self,List.getD_eq_getElem?_getD]
theorem word_l3 {m:List Int} (hm:byt m) (off:Nat) (hs:m.length<9000000000000000) (W Z:List Int) (hW:W.length≤79) (ho:off+8*W.length+8≤m.length):∀ (r n i v:Nat),i+r=8->r<n->v<256^i ->
  fr03_Sum_l3 m (off:Int) (W.length:Int) n (i:Int) (W++(v:Int)::Z)=some (W++hor (v:Int) ((m.drop (off+8*W.length+i)).take r)::Z)
 |_,0,_,_,_,h,_=>absurd h (Nat.not_lt_zero _)
 |0,n+1,i,v,h,_,_=>by
  rw [fr03_Sum_l3.eq_2,cond_ff (by simp;omega),List.take_zero];rfl
 |r+1,n+1,i,v,h,h',hv=>by
  obtain ⟨T,hT⟩:∃ T,T=off+8*W.length+i:=⟨_,rfl⟩
  have hc:=hm (m.getD T 0) (by
   rw [List.getD_eq_getElem?_getD,List.getElem?_eq_getElem (by omega)];exact List.getElem_mem _)
  obtain ⟨c,hce⟩:=Int.eq_ofNat_of_zero_le hc.1
  have hc2:c<256:=by have:=hc.2;omega
  have hv2:v*256<18446744073709551616:=by
   have:(256:Nat)^i≤256^7:=Nat.pow_le_pow_right (by decide) (by omega)
   have h7:(256:Nat)^7=72057594037927936:=by decide
   omega
  have hd:(m.drop T).take (r+1)=(c:Int)::(m.drop (T+1)).take r:=by
   rw [List.drop_eq_getElem_cons (by omega),List.take_succ_cons]
   congr 1
   rw [←hce,List.getD_eq_getElem?_getD,List.getElem?_eq_getElem (by omega)];rfl
  have e1:IntKind.wrap .i64 (8*((W.length:Nat):Int))=((8*W.length:Nat):Int):=wrap_i64 (by omega) (by omega)
  have e2:IntKind.wrap .i64 ((off:Int)+((8*W.length:Nat):Int))=((off+8*W.length:Nat):Int):=i64n (by omega)
  have e3:IntKind.wrap .i64 (((off+8*W.length:Nat):Int)+(i:Int))=(T:Int):=by rw [hT];exact i64n (by omega)
  have e4:IntKind.wrap .u64 ((v:Int)*256)=((v*256:Nat):Int):=by rw [show (v:Int)*256=((v*256:Nat):Int) from rfl,u64n,Nat.mod_eq_of_lt hv2]
  have e5:IntKind.wrap .u64 (((v*256:Nat):Int)+IntKind.wrap .u64 (c:Int))=((v*256+c:Nat):Int):=by
   rw [u64n c,Nat.mod_eq_of_lt (a:=c) (by omega),show ((v*256:Nat):Int)+(c:Int)=((v*256+c:Nat):Int) from rfl,u64n,Nat.mod_eq_of_lt (by omega)]
  have hl:(W++(v:Int)::Z).length=W.length+(Z.length+1):=by rw [List.length_append,List.length_cons]
  have ih:=word_l3 hm off hs W Z hW ho r n (i+1) (v*256+c) (by omega) (by omega) (by rw [Nat.pow_succ];omega)
  rw [fr03_Sum_l3.eq_2,cond_tt (by simp;omega),hl,if_pos (by omega),nm_eq,Int.toNat_natCast,getD_at,List.getD_cons_zero,e1,e2,e3,e4,nm_eq,if_pos (by omega),Int.toNat_natCast,hce,nm_eq,e5,if_pos (by omega),set_app,List.set_cons_zero,wrap_i64 (n:=(i:Int)+1) (by omega) (by omega),←hT,hd]
  rw [show off+8*W.length+(i+1)=T+1 by omega] at ih
  exact ih
theorem schedR2 (m:List Int) (off:Int):∀ (n f:Nat) (W:List Int),n≤64->W.length=80-n->n<f ->
  fr03_Sum_l2 m off f ((80-n:Nat):Int) (W++List.replicate n 0)=some (ext5 n W)
 |_,0,_,_,_,h=>by omega
 |0,f+1,W,_,_,_=>by rw [fr03_Sum_l2.eq_2,cond_ff (by decide)];simp [ext5]
 |n+1,f+1,W,h,h',h''=>by
  have hl:(W++List.replicate (n+1) 0).length=80:=by rw [List.length_append,List.length_replicate];omega
  rw [fr03_Sum_l2.eq_2,cond_tt (by simp;omega),cond_ff (by simp;omega)]
  have e0:((80-(n+1):Nat):Int)-15=((79-n-15:Nat):Int):=by omega
  have e1:((80-(n+1):Nat):Int)-2=((79-n-2:Nat):Int):=by omega
  have e2:((80-(n+1):Nat):Int)-16=((79-n-16:Nat):Int):=by omega
  have e3:((80-(n+1):Nat):Int)-7=((79-n-7:Nat):Int):=by omega
  simp only [nm_eq,hl,e0,e1,e2,e3,i64n (n:=79-n-15) (by omega),i64n (n:=79-n-2) (by omega),i64n (n:=79-n-16) (by omega),i64n (n:=79-n-7) (by omega),Int.toNat_natCast,
   tq_1,tq_8,tq_19,tq_61,Option.bind_some,getD_app (W:=W) (i:=79-n-15) (by omega),getD_app (W:=W) (i:=79-n-2) (by omega),getD_app (W:=W) (i:=79-n-16) (by omega),getD_app (W:=W) (i:=79-n-7) (by omega)]
  rw [if_pos (by omega),if_pos (by omega),if_pos (by omega),if_pos (by omega),if_pos (by omega),Option.bind_some,wrap35']
  rw [set_rep _ h'.symm,show ((80-(n+1):Nat):Int)+1=((80-n:Nat):Int) by omega,i64n (by omega)]
  exact schedR2 m off n f (W++[next5 W (79-n)]) (by omega) (by simp;omega) (by omega)
theorem schedR1 {m:List Int} (hm:byt m) (off:Nat) (ho:off+128≤m.length) (hs:m.length<9000000000000000):∀ (n f:Nat) (W:List Int),n≤16->W.length=16-n->n+64<f ->
  fr03_Sum_l2 m off f ((16-n:Nat):Int) (W++List.replicate (64+n) 0)=some (ext5 64 (words5 ((m.drop off).take 128) n W))
 |_,0,_,_,_,h=>by omega
 |0,f+1,W,h,h',h''=>schedR2 m off 64 (f+1) W (by decide) (by omega) (by omega)
 |n+1,f+1,W,h,h',h''=>by
  have hw:=word_l3 hm off hs W (List.replicate (64+n) 0) (by omega) (by omega) 8 FUEL 0 0 (by omega) (big _ (by decide)) (by decide)
  have hw:fr03_Sum_l3 m (off:Int) (W.length:Int) FUEL 0 (W++List.replicate (64+(n+1)) 0)=_:=hw
  rw [fr03_Sum_l2.eq_2,cond_tt (by simp;omega),cond_tt (by simp;omega),←h',hw,Option.bind_some,Option.bind_some,h',show ((16-(n+1):Nat):Int)+1=((16-n:Nat):Int) by omega,i64n (by omega)]
  have e:hor ((0:Nat):Int) ((m.drop (off+8*(16-(n+1))+0)).take 8)=word5 ((m.drop off).take 128) (15-n):=by
   unfold word5
   rw [List.drop_take,List.take_take,List.drop_drop,show off+8*(16-(n+1))+0=off+8*(15-n) by omega,show min 8 (128-8*(15-n))=8 by omega];rfl
  rw [e,show W++word5 ((m.drop off).take 128) (15-n)::List.replicate (64+n) 0=(W++[word5 ((m.drop off).take 128) (15-n)])++List.replicate (64+n) 0 by rw [List.append_assoc];rfl]
  exact schedR1 hm off ho hs n f (W++[word5 ((m.drop off).take 128) (15-n)]) (by omega) (by simp;omega) (by omega)
theorem roundsR (W:List Int) (hW:W.length=80):∀ (n f:Nat) (s:S8),n≤80->n<f ->
  fr03_Sum_l4 tb_shawide_constants W f s.a s.b s.c s.d s.e s.f s.g s.h ((80-n:Nat):Int) =
   some ((rounds5 W n s).a,(rounds5 W n s).b,(rounds5 W n s).c,(rounds5 W n s).d,(rounds5 W n s).e,(rounds5 W n s).f,(rounds5 W n s).g,(rounds5 W n s).h)
 |_,0,_,_,h=>by omega
 |0,f+1,s,_,_=>by rw [fr03_Sum_l4.eq_2,cond_ff (by decide)];rfl
 |n+1,f+1,s,h,h'=>by
  have hk:tb_shawide_constants.length=80:=rfl
  rw [fr03_Sum_l4.eq_2,cond_tt (by simp;omega)]
  have e0:((80-(n+1):Nat):Int)=((79-n:Nat):Int):=by omega
  rw [e0]
  simp only [nm_eq,Int.toNat_natCast,tq_14,tq_18,tq_41,tq_28,tq_34,tq_39,Option.bind_some,hW,hk]
  rw [if_pos (by omega),if_pos (by omega)]
  rw [show ((79-n:Nat):Int)+1=((80-n:Nat):Int) by omega,i64n (by omega)]
  exact roundsR W hW n f (round5 (tb_shawide_constants.getD (79-n) 0) (W.getD (79-n) 0) s) (by omega) (by omega)
theorem addsR (s v:S8):fr03_Sum_l5 beg5.l v.a v.b v.c v.d v.e v.f v.g v.h 8 FUEL 0 s.l=some (add5 s v).l:=by
 obtain ⟨a0,a1,a2,a3,a4,a5,a6,a7⟩:=s
 obtain ⟨b0,b1,b2,b3,b4,b5,b6,b7⟩:=v
 kernel_rfl
theorem blocksR {m:List Int} (hm:byt m) (hs:m.length<9000000000000000):∀ (n f off:Nat) (s:S8),off+128*n=m.length->n<f ->
  fr03_Sum_l1 tb_shawide_constants beg5.l m f (off:Int) s.l=some (blk5 n s (m.drop off)).l
 |_,0,_,_,_,h=>by omega
 |0,f+1,off,s,h,_=>by rw [fr03_Sum_l1.eq_2,cond_ff (by simp;omega)];rfl
 |n+1,f+1,off,s,h,h'=>by
  rw [fr03_Sum_l1.eq_2,cond_tt (by simp;omega)]
  have h1:=schedR1 hm off (by omega) hs 16 FUEL [] (by decide) rfl (big _ (by decide))
  have h1:fr03_Sum_l2 m off FUEL 0 (List.replicate 80 0)=some (sched5 ((m.drop off).take 128)):=h1
  rw [h1,Option.bind_some]
  have hl:beg5.l.length=8:=rfl
  simp only [hl]
  rw [if_pos (by decide),if_pos (by decide),if_pos (by decide),if_pos (by decide),if_pos (by decide),if_pos (by decide),if_pos (by decide),if_pos (by decide)]
  have h2:=roundsR (sched5 ((m.drop off).take 128)) (sched5_len _) 80 FUEL s (by decide) (big _ (by decide))
  have h2:fr03_Sum_l4 tb_shawide_constants (sched5 ((m.drop off).take 128)) FUEL (s.l.getD 0 0) (s.l.getD 1 0) (s.l.getD 2 0) (s.l.getD 3 0) (s.l.getD 4 0) (s.l.getD 5 0) (s.l.getD 6 0) (s.l.getD 7 0) 0=_:=h2
  rw [h2,Option.bind_some]
  simp only [nm_eq]
  have h3:=addsR s (rounds5 (sched5 ((m.drop off).take 128)) 80 s)
  have h4:∀ x:S8,((List.length [x.a,x.b,x.c,x.d,x.e,x.f,x.g,x.h]:Nat):Int)=8:=fun _=>rfl
  rw [h4,h3,Option.bind_some,show (off:Int)+128=((off+128:Nat):Int) from rfl,i64n (by omega)]
  have ih:=blocksR hm hs n f (off+128) (comp5 s ((m.drop off).take 128)) (by omega) (by omega)
  rw [blk5,List.drop_drop]
  exact ih
theorem outR (s:S8):fr03_Sum_l6 beg5.l s.l FUEL 0 (List.replicate 64 0)=some (out5 s):=by
 obtain ⟨a0,a1,a2,a3,a4,a5,a6,a7⟩:=s
 kernel_rfl
theorem Padded_l1:∀ (k f:Nat) (l:List Int),k=(112+128-l.length%128)%128->k<f->l.length+k<1000000000000->fr03_Padded_l1 f l=some (.inr (l++List.replicate k 0))
 |_,0,_,_,h,_=>by omega
 |0,f+1,l,h,_,_=>by
  have e:Int.tmod ((l.length:Nat):Int) 128=((l.length%128:Nat):Int):=rfl
  rw [fr03_Padded_l1.eq_2,e,cond_ff (by simp;omega)];simp
 |k+1,f+1,l,h,h',h''=>by
  have e:Int.tmod ((l.length:Nat):Int) 128=((l.length%128:Nat):Int):=rfl
  rw [fr03_Padded_l1.eq_2,e,cond_tt (by simp;omega),if_pos (by simp only [List.length_cons,List.length_nil];omega)]
  rw [Padded_l1 k f (l++[0]) (by rw [List.length_append,List.length_cons,List.length_nil];omega) (by omega) (by rw [List.length_append,List.length_cons,List.length_nil];omega),List.append_assoc];rfl
theorem Padded_l3 (x:Nat):∀ (i f:Nat) (l:List Int),i<f->i≤8->l.length+i<1000000000100->fr03_Padded_l3 (x:Int) f ((i:Int)-1) l=some (l++beB x i)
 |i,0,_,h,_,_=>by omega
 |0,f+1,l,_,_,_=>by rw [fr03_Padded_l3.eq_2,cond_ff (by decide),beB,List.append_nil]
 |i+1,f+1,l,h,h',h''=>by
  have e0:8*(i:Int)=((8*i:Nat):Int):=by omega
  have m2:min (8*i) (IntKind.bits .u64)=8*i:=by show min _ 64=_;omega
  rw [fr03_Padded_l3.eq_2,show ((i+1:Nat):Int)-1=i by omega,cond_tt (by simp),e0,i64n (by omega),u64n,Nat.mod_eq_of_lt (a:=8*i) (by omega),Int.toNat_natCast,m2,fdivn]
  rw [if_pos (by omega),nm_eq,u8n,if_pos (by rw [List.length_cons,List.length_nil];omega)]
  rw [wrap_i64 (n:=(i:Int)-1) (by omega) (by omega),Padded_l3 x i f _ (by omega) (by omega) (by rw [List.length_append,List.length_cons,List.length_nil];omega),List.append_assoc];rfl
theorem Padded_is {M:List Int} (hs:M.length<100000000000):fr03_Padded M=some (M++pad5 M.length):=by
 unfold fr03_Padded
 rw [List.nil_append,List.length_nil,if_pos (by omega),if_pos (by simp only [List.length_cons,List.length_nil];omega)]
 have hl:(M++[(128:Int)]).length=M.length+1:=by rw [List.length_append];rfl
 rw [Padded_l1 ((239-M.length%128)%128) FUEL (M++[128]) (by rw [hl];omega) (big _ (by omega)) (by rw [hl];omega),Option.bind_some]
 dsimp only
 have e:IntKind.wrap .u64 (IntKind.wrap .u64 (M.length:Int)*8)=((8*M.length:Nat):Int):=by
  rw [u64n,Nat.mod_eq_of_lt (by omega),show (M.length:Int)*8=((8*M.length:Nat):Int) by omega,u64n,Nat.mod_eq_of_lt (by omega)]
 have hz:([0,0,0,0,0,0,0,0]:List Int)=List.replicate 8 0:=rfl
 rw [if_pos (by rw [List.length_append,hl,List.length_replicate];simp only [List.length_cons,List.length_nil];omega),nm_eq,e,show (7:Int)=((8:Nat):Int)-1 from rfl,Padded_l3 _ 8 FUEL _ (big _ (by decide)) (by decide) (by rw [List.length_append,List.length_append,hl,List.length_replicate];simp only [List.length_cons,List.length_nil];omega),Option.bind_some,pad5,hz]
 simp only [List.append_assoc,List.cons_append,List.nil_append]
 rw [←List.append_assoc (List.replicate _ _),List.replicate_append_replicate]
theorem constsR:fr03_constants=some tb_shawide_constants:=by kernel_rfl
theorem SumR {M:List Int} (hM:byt M) (hs:M.length≤100000):fr03_Sum M=some (sha5 M):=by
 have hl:(M++pad5 M.length).length=M.length+((239-M.length%128)%128+17):=by rw [List.length_append,pad5_len]
 unfold fr03_Sum
 rw [constsR,Option.bind_some,nm_eq,Padded_is (by omega),Option.bind_some]
 have h:=blocksR (byt_app hM (pad5_byt M.length)) (by rw [hl];omega) ((M++pad5 M.length).length/128) FUEL 0 beg5 (by rw [hl];omega) (by rw [hl];exact big _ (by omega))
 have h:fr03_Sum_l1 tb_shawide_constants [7640891576956012808,13503953896175478587,4354685564936845355,11912009170470909681,5840696475078001361,11170449401992604703,2270897969802886507,6620516959819538809] (M++pad5 M.length) FUEL 0 [7640891576956012808,13503953896175478587,4354685564936845355,11912009170470909681,5840696475078001361,11170449401992604703,2270897969802886507,6620516959819538809]=_:=h
 rw [h,Option.bind_some]
 have h2:=outR (blk5 ((M++pad5 M.length).length/128) beg5 ((M++pad5 M.length).drop 0))
 have h2:fr03_Sum_l6 [7640891576956012808,13503953896175478587,4354685564936845355,11912009170470909681,5840696475078001361,11170449401992604703,2270897969802886507,6620516959819538809] (blk5 ((M++pad5 M.length).length/128) beg5 ((M++pad5 M.length).drop 0)).l FUEL 0 (List.replicate 64 0)=_:=h2
 rw [h2,List.drop_zero];rfl
end Go.Eng
