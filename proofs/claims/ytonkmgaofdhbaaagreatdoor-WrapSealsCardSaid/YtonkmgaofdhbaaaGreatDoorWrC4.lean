/-
  Part of a proof: WrC4.
-/
import Derived.Test.YtonkmgaofdhbaaaGreatDoorWrC3
set_option linter.unusedVariables false
set_option linter.unusedSimpArgs false
set_option linter.unusedVariables false
set_option linter.unusedSimpArgs false
namespace Go.Eng
open Go.Proofs
set_option maxRecDepth 100000
set_option maxHeartbeats 4000000
section
variable {er:Nat->Zp}
theorem f55 {x102 x103 i9} (h:Ng x102 x103=some i9) :
  FB er 87 [(.dv (.ints .u8 32 x102)),(.dv (.roI .u8 x103))] [] [] (.dv (.ints .u8 16 i9)) []:=by
 refine fb Tryz.func87 ?_
 unfold Ng at h
 refine .inl ?_
 refine .inl ?_
 refine dc ?_
 refine dc ?_
 refine ⟨0,16,⟨rfl,rfl⟩,?_⟩
 obtain ⟨hg,h⟩:=gd h
 refine And.intro (j9 (F2 _ _) hg) ?_
 refine ⟨(([]:List Int)++(List.take 16 x102)),m5 (i7 _) (C8 _ _),0,(List.length (([]:List Int)++(List.take 16 x102))),⟨rfl,r7 (F2 _ _)⟩,?_⟩
 refine .inl ?_
 refine .inl ?_
 obtain ⟨x104,g,h⟩:=j5 h
 refine .inr ⟨[21],_,fj (fun x104=>([],[(3,(.rowI .u8 x104))])) x104,0,?_,?_⟩
 ·rintro ⟨x104,rfl⟩
  refine .inl ?_
  obtain ⟨x109,g,h⟩:=j5 h
  refine .inr ⟨[36],_,fj (fun x109=>([],[(3,(.rowI .u8 x109))])) x109,0,?_,?_⟩
  ·rintro ⟨x109,rfl⟩
   obtain ⟨⟨x115,x116⟩,c,h⟩:=j5 h
   refine cl [true] [6] (Lr c) ?_
   refine .inl ?_
   refine .inr ?_
   refine ⟨([]:List Int),by first|rfl|exact i7 _|simp,?_⟩
   obtain ⟨x117,g,h⟩:=j5 h
   refine .inr ⟨[1,10],_,fj (fun x117=>([(11,(.dv (.roI .i64 x117)))],[])) x117,0,?_,?_⟩
   ·rintro ⟨x117,rfl⟩
    refine .inl ?_
    refine dc ?_
    refine ⟨16,16,⟨rfl,rfl⟩,?_⟩
    obtain ⟨⟨x133,x134⟩,c,h⟩:=j5 h
    refine cl [true] [8] (Lr c) ?_
    refine .inl ?_
    obtain ⟨⟨x135,x136⟩,c,h⟩:=j5 h
    refine cl [false,true] [9] (On c) ?_
    refine .inl ?_
    obtain ⟨x137,g,h⟩:=j5 h
    refine .inr ⟨[14],_,fj (fun x137=>([],[(10,(.var (.dv (.ints .u8 16 x137))))])) x137,0,?_,?_⟩
    ·rintro ⟨x137,rfl⟩
     obtain rfl:=e8 h
     exact ⟨0,[],[],mt⟩
    ·replace h:=g
     refine .inl ?_
     refine ⟨[],_,fl (β:=Nat×Int×(List Int)) (fun (n4,x138,x139)=>(As x135 x136 n4 x138 x139=some x137,[(16,(.int .i64 x138))],[(10,(.var (.dv (.ints .u8 16 x139))))],n4)),[],[],⟨(f9,0,(List.replicate 16 (0:Int))),h⟩,mt,?_⟩
     rintro ⟨⟨_|n4,x138,x139⟩,h⟩
     ·exact i6 h
     replace h:=(As.eq_2 x135 x136 x138 x139 n4).symm.trans h
     refine v8 h (fun hb h => ?_) (fun hb h => ?_)
     ·refine v8 h (fun hb h => ?_) (fun hb h => ?_)
      ·refine .inl ?_
       refine m8 h fun hg h => ?_
       refine m8 h fun hg h => ?_
       refine m7 h ?_
       intro x140 h
       exact ⟨⟨(n4,_,_),h⟩,[],mt,Nat.lt_succ_self _⟩
      ·exact ⟨[],[],⟨_,e8 h⟩,[],mt⟩
     ·exact ⟨[],[],⟨_,e8 h⟩,[],mt⟩
   ·replace h:=g
    refine .inl ?_
    refine ⟨[],_,fl (β:=Nat×(List Int)×Int) (fun (n3,x118,x119)=>(Dl x103 x115 x116 n3 x118 x119=some x117,[(11,(.dv (.roI .i64 x118))),(12,(.int .i64 x119))],[],n3)),[],[],⟨(f9,([]:List Int),0),h⟩,mt,?_⟩
    rintro ⟨⟨_|n3,x118,x119⟩,h⟩
    ·exact i6 h
    replace h:=(Dl.eq_2 x103 x115 x116 x118 x119 n3).symm.trans h
    refine v8 h (fun hb h => ?_) (fun hb h => ?_)
    ·obtain ⟨x120,g,h⟩:=j5 h
     refine .inr ⟨[],_,fj (fun x120=>([(11,(.dv (.roI .i64 x120)))],[])) x120,0,?_,?_⟩
     ·rintro ⟨x120,rfl⟩
      exact ⟨⟨(n3,_,_),h⟩,[],mt,Nat.lt_succ_self _⟩
     ·replace h:=g
      refine m7 h ?_
      intro x121 h
      obtain ⟨x122,g,h⟩:=j5 h
      refine .inr ⟨[],_,fj (fun x122=>([(13,(.int .i64 x122))],[])) x122,0,?_,?_⟩
      ·rintro ⟨x122,rfl⟩
       refine .inl ?_
       refine m8 h fun hg h => ?_
       refine m8 h fun hg h => ?_
       refine ⟨(List.take (Int.toNat (x122-x119)) (List.drop (Int.toNat x119) x103)),by first|rfl|simp,?_⟩
       refine m7 h ?_
       intro x123 h
       obtain ⟨hg,h⟩:=gd h
       refine And.intro (hg) ?_
       refine ⟨(([]:List Int)++x123),m5 (i7 _) (rfl),0,(List.length (([]:List Int)++x123)),⟨rfl,r7 (rfl)⟩,?_⟩
       refine .inl ?_
       refine .inl ?_
       obtain ⟨hg,h⟩:=gd h
       refine And.intro (j9 (o5 [1]) hg) ?_
       refine ⟨((([]:List Int)++x123)++[1]),m5 (i7 _) (i7 [1]),0,(List.length ((([]:List Int)++x123)++[1])),⟨rfl,r7 (o5 [1])⟩,?_⟩
       refine .inl ?_
       obtain ⟨⟨x124,x125⟩,c,h⟩:=j5 h
       refine cl [true] [12] (Lr c) ?_ (hv:=⟨u9 _ _,trivial⟩)
       refine .inl ?_
       obtain ⟨⟨x126,x127⟩,c,h⟩:=j5 h
       refine cl [false,true] [13] (On c) ?_
       refine .inl ?_
       obtain ⟨⟨x128,x129⟩,c,h⟩:=j5 h
       refine cl [true,true] [14] (Wc c) ?_
       refine .inr ?_
       refine ⟨(List.take x128 x129),by first|rfl|exact i7 _|simp,?_⟩
       obtain ⟨r132,c,h⟩:=j5 h
       rcases r132 with x130|⟨x131,x132⟩
       ·refine cl [] [] (b72 c) ?_
        exact ⟨[],[],⟨_,e8 h⟩,[],mt⟩
       ·refine cl [] [15] (b72 c) ?_
        refine .inr ?_
        refine ⟨(List.take x131 x132),by first|rfl|exact i7 _|simp,?_⟩
        exact ⟨[],[],⟨_,e8 h⟩,[],mt⟩
      ·replace h:=g
       refine v8 h (fun hb h => ?_) (fun hb h => ?_)
       ·exact ⟨[],[],⟨_,e8 h⟩,[],mt⟩
       ·exact ⟨[],[],⟨_,e8 h⟩,[],mt⟩
    ·exact ⟨[],[],⟨_,e8 h⟩,[],mt⟩
  ·replace h:=g
   refine .inl ?_
   refine ⟨[],_,fl (β:=Nat×Int×(List Int)) (fun (n2,x110,x111)=>(X0 x102 n2 x110 x111=some x109,[(37,(.int .i64 x110))],[(3,(.rowI .u8 x111))],n2)),[],[],⟨(f9,0,x104),h⟩,mt,?_⟩
   rintro ⟨⟨_|n2,x110,x111⟩,h⟩
   ·exact i6 h
   replace h:=(X0.eq_2 x102 x110 x111 n2).symm.trans h
   refine v8 h (fun hb h => ?_) (fun hb h => ?_)
   ·refine .inl ?_
    refine m8 h fun hg h => ?_
    refine m8 h fun hg h => ?_
    refine m7 h ?_
    intro x112 h
    refine dc ?_
    refine m7 h ?_
    intro x113 h
    refine m8 h fun hg h => ?_
    refine m7 h ?_
    intro x114 h
    exact ⟨⟨(n2,_,_),h⟩,[],mt,Nat.lt_succ_self _⟩
   ·exact ⟨[],[],⟨_,e8 h⟩,[],mt⟩
 ·replace h:=g
  refine .inl ?_
  refine ⟨[],_,fl (β:=Nat×Int×(List Int)) (fun (n1,x105,x106)=>(R9 x102 n1 x105 x106=some x104,[(22,(.int .i64 x105))],[(3,(.rowI .u8 x106))],n1)),[],[],⟨(f9,0,(([]:List Int)++(List.take 16 x102))),h⟩,mt,?_⟩
  rintro ⟨⟨_|n1,x105,x106⟩,h⟩
  ·exact i6 h
  replace h:=(R9.eq_2 x102 x105 x106 n1).symm.trans h
  refine v8 h (fun hb h => ?_) (fun hb h => ?_)
  ·refine .inl ?_
   refine m8 h fun hg h => ?_
   refine m8 h fun hg h => ?_
   refine m7 h ?_
   intro x107 h
   refine dc ?_
   refine m8 h fun hg h => ?_
   refine m7 h ?_
   intro x108 h
   exact ⟨⟨(n1,_,_),h⟩,[],mt,Nat.lt_succ_self _⟩
  ·exact ⟨[],[],⟨_,e8 h⟩,[],mt⟩
theorem e89 {x77 x78 x79 x80 i9} (h:Nh x77 x78 x79 x80=some i9) :
  FB er 50 [(.dv (.ints .u8 32 x77)),(.dv (.roI .u8 x78)),(.dv (.roI .u8 x79)),(.dv (.roI .u8 x80))] [] [10] (.sl 10 [] s6 0 16) [(.rowI .u8 i9)]:=by
 refine fb Tryz.func50 ?_
 unfold Nh at h
 obtain ⟨x81,c,h⟩:=j5 h
 refine cl [] [2] (Wb c) ?_
 refine .inl ?_
 obtain ⟨x82,g,h⟩:=j5 h
 refine .inr ⟨[18],_,fj (fun x82=>([],[(1,(.var (.dv (.ints .u8 32 x82))))])) x82,0,?_,?_⟩
 ·rintro ⟨x82,rfl⟩
  obtain ⟨x87,c,h⟩:=j5 h
  refine cl [] [3] (Zm c) ?_
  refine .inl ?_
  obtain ⟨x88,c,h⟩:=j5 h
  refine cl [] [4] (Zm c) ?_
  refine .inl ?_
  obtain ⟨hg,h⟩:=gd h
  refine And.intro (j9 (o5 x88) hg) ?_
  refine ⟨(x87++x88),m5 (i7 _) (i7 x88),0,(List.length (x87++x88)),⟨rfl,r7 (o5 x88)⟩,?_⟩
  refine .inl ?_
  obtain ⟨x89,c,h⟩:=j5 h
  refine cl [] [6] (Sk c) ?_
  refine .inl ?_
  obtain ⟨hg,h⟩:=gd h
  refine And.intro (j9 (o5 x89) hg) ?_
  refine ⟨((x87++x88)++x89),m5 (i7 _) (i7 x89),0,(List.length ((x87++x88)++x89)),⟨rfl,r7 (o5 x89)⟩,?_⟩
  refine .inl ?_
  obtain ⟨x90,c,h⟩:=j5 h
  refine cl [] [8] (Sk c) ?_
  refine .inl ?_
  obtain ⟨hg,h⟩:=gd h
  refine And.intro (j9 (o5 x90) hg) ?_
  refine ⟨(((x87++x88)++x89)++x90),m5 (i7 _) (i7 x90),0,(List.length (((x87++x88)++x89)++x90)),⟨rfl,r7 (o5 x90)⟩,?_⟩
  refine .inl ?_
  obtain ⟨x91,c,h⟩:=j5 h
  refine cl [false,true] [] (f55 c) ?_ (hv:=⟨.inl rfl,u9 _ _,trivial⟩)
  refine .inr ?_
  refine And.intro (by omega) ?_
  refine ⟨x91,rfl,0,16,⟨rfl,rfl⟩,?_⟩
  obtain rfl:=e8 h
  exact ⟨0,[],[],mt⟩
 ·replace h:=g
  refine .inl ?_
  refine ⟨[],_,fl (β:=Nat×Int×(List Int)) (fun (n1,x83,x84)=>(Bk x81 n1 x83 x84=some x82,[(19,(.int .i64 x83))],[(1,(.var (.dv (.ints .u8 32 x84))))],n1)),[],[],⟨(f9,0,(List.replicate 32 (0:Int))),h⟩,mt,?_⟩
  rintro ⟨⟨_|n1,x83,x84⟩,h⟩
  ·exact i6 h
  replace h:=(Bk.eq_2 x81 x83 x84 n1).symm.trans h
  refine v8 h (fun hb h => ?_) (fun hb h => ?_)
  ·refine .inl ?_
   refine m8 h fun hg h => ?_
   obtain ⟨x85,g,h⟩:=j5 h
   refine .inr ⟨[11],_,fj (fun x85=>([],[(1,(.var (.dv (.ints .u8 32 x85))))])) x85,0,?_,?_⟩
   ·rintro ⟨x85,rfl⟩
    exact ⟨⟨(n1,_,_),h⟩,[],mt,Nat.lt_succ_self _⟩
   ·replace h:=g
    refine v8 h (fun hb h => ?_) (fun hb h => ?_)
    ·refine m8 h fun hg h => ?_
     refine m7 h ?_
     intro x86 h
     exact ⟨[],[],⟨_,e8 h⟩,[],mt⟩
    ·exact ⟨[],[],⟨_,e8 h⟩,[],mt⟩
  ·exact ⟨[],[],⟨_,e8 h⟩,[],mt⟩
theorem e90 {x55 x56 x57 x58 i9} (h:Fv x55 x56 x57 x58=some i9) :
  FB er 29 [(.dv (.ints .u8 32 x55)),(.dv (.roI .u8 x56)),(.dv (.roI .u8 x57)),(.dv (.roI .u8 x58))] [] [3] (.tup [(.sl 3 [] s6 0 (List.length i9.2)),(.int .i64 i9.1)]) [(.rowI .u8 i9.2)]:=by
 refine fb Tryz.func29 ?_
 unfold Fv at h
 refine v8 h (fun hb h => ?_) (fun hb h => ?_)
 ·obtain rfl:=e8 h
  exact ⟨2,[(8,(.rowI .u8 ([]:List Int)))],[],mt⟩
 ·refine v8 h (fun hb h => ?_) (fun hb h => ?_)
  ·obtain rfl:=e8 h
   exact ⟨2,[(8,(.rowI .u8 ([]:List Int)))],[],mt⟩
  ·refine v8 h (fun hb h => ?_) (fun hb h => ?_)
   ·obtain rfl:=e8 h
    exact ⟨2,[(8,(.rowI .u8 ([]:List Int)))],[],mt⟩
   ·obtain ⟨x59,c,h⟩:=j5 h
    refine cl [] [1] (e88 c) ?_
    refine .inl ?_
    obtain ⟨x60,c,h⟩:=j5 h
    refine cl [false,false,false,true] [2] (e89 c) ?_ (hv:=⟨.inl rfl,.inl rfl,.inl rfl,u9 _ _,trivial⟩)
    refine .inl ?_
    obtain ⟨hg,h⟩:=gd h
    refine And.intro (j9 (F2 _ _) hg) ?_
    refine ⟨(x59++(List.take 16 x60)),m5 (i7 _) (C8 _ _),0,(List.length (x59++(List.take 16 x60))),⟨rfl,r7 (F2 _ _)⟩,?_⟩
    refine .inl ?_
    obtain rfl:=e8 h
    exact ⟨0,[],[],mt⟩
theorem Zo {x35 x36 x37 x38 x39 i9} (h:Dm x35 x36 x37 x38 x39=some i9) :
  FB er 12 [(.dv (.ints .u8 32 x35)),(.dv (.roI .u8 x36)),(.dv (.roI .u8 x37)),(.dv (.roI .u8 x38)),(.dv (.roI .u8 x39))] [] [6] (.tup [(.sl 6 [] s6 0 (List.length i9.2)),(.int .i64 i9.1)]) [(.rowI .u8 i9.2)]:=by
 refine fb Tryz.func12 ?_
 unfold Dm at h
 refine v8 h (fun hb h => ?_) (fun hb h => ?_)
 ·obtain rfl:=e8 h
  exact ⟨5,[(10,(.rowI .u8 ([]:List Int)))],[],mt⟩
 ·obtain ⟨⟨x40,x41,x42⟩,c,h⟩:=j5 h
  refine cl [] [] (d44 c) ?_
  refine v8 h (fun hb h => ?_) (fun hb h => ?_)
  ·obtain rfl:=e8 h
   exact ⟨3,[(10,(.rowI .u8 ([]:List Int)))],[],mt⟩
  ·obtain ⟨⟨x43,x44⟩,c,h⟩:=j5 h
   refine cl [] [3] (Qx c) ?_
   refine .inl ?_
   obtain ⟨⟨x45,x46⟩,c,h⟩:=j5 h
   refine cl [false,true,false,false] [5] (e90 c) ?_
   refine .inl ?_
   refine v8 h (fun hb h => ?_) (fun hb h => ?_)
   ·obtain rfl:=e8 h
    exact ⟨0,[(10,(.rowI .u8 ([]:List Int)))],[],mt⟩
   ·refine .inr ?_
    refine And.intro (by omega) ?_
    refine ⟨x40,rfl,0,32,⟨rfl,rfl⟩,?_⟩
    obtain ⟨hg,h⟩:=gd h
    refine And.intro (j9 (o5 x46) hg) ?_
    obtain ⟨hg2,h⟩:=gd h
    refine ⟨((List.take 32 x40)++x46),m5 (C8 _ _) (i7 x46),0,(List.length ((List.take 32 x40)++x46)),⟨rfl,Dw hg2 (o5 x46)⟩,?_⟩
    refine .inl ?_
    obtain rfl:=e8 h
    exact ⟨0,[],[],mt⟩
theorem f56 {i9} (h:Wf=some i9) :
  FB er 15 [(.dv (.sc .nilIface))] [] [] (.int .i64 0) []:=by
 refine fb Tryz.func15 ?_
 unfold Wf at h
 refine And.intro (fun _ => ?_) (fun h0=>Bool.noConfusion h0)
 obtain rfl:=e8 h
 exact ⟨0,[],[],mt⟩
theorem d45 {x66 i9} (h:Au x66=some i9) :
  FB er 15 [(Pe er x66)] [] [] (.int .i64 i9) []:=by
 refine fb Tryz.func15 ?_
 unfold Au at h
 refine And.intro (fun h0=>Bool.noConfusion h0) (fun _ => ?_)
 refine .inl ?_
 refine ⟨(List.length [1,2,3,4,5,6,7,8,9,10,11,12,13,14,15,16,17,18,19]),(rw_ (fun q=>l84 er q) 0 [1,2,3,4,5,6,7,8,9,10,11,12,13,14,15,16,17,18,19]),⟨rfl,fun j hj=>match j,hj with|0,_=>rfl|1,_=>rfl|2,_=>rfl|3,_=>rfl|4,_=>rfl|5,_=>rfl|6,_=>rfl|7,_=>rfl|8,_=>rfl|9,_=>rfl|10,_=>rfl|11,_=>rfl|12,_=>rfl|13,_=>rfl|14,_=>rfl|15,_=>rfl|16,_=>rfl|17,_=>rfl|18,_=>rfl|_+19,hj=>absurd hj (by omega)⟩,?_⟩
 refine .inl ?_
 refine m7 h ?_
 intro x67 h
 obtain ⟨r1_0_68,hl1_68,hr1_68⟩:=j5 h
 refine .inr ⟨[29],{p:Unit // (Sum.inl p)=r1_0_68},⟨fun|⟨(),_⟩=>[(2,(.int .i64 0))],fun|⟨(),_⟩=>[],fun _=>0⟩,0,?_,?_⟩
 ·rintro ⟨⟨⟩,hp⟩
  subst hp
  replace h:=hr1_68
  obtain rfl:=e8 h
  exact ⟨0,[],[],mt⟩
 ·replace h:=hl1_68
  refine .inl ?_
  refine ⟨[],_,fl (β:=Nat×Int) (fun (n1,x69)=>(Ge x66 x67 n1 x69=some r1_0_68,[(2,(.int .i64 0)),(30,(.int .i64 x69))],[],n1)),[],[],⟨(f9,0),h⟩,mt,?_⟩
  rintro ⟨⟨_|n1,x69⟩,h⟩
  ·exact i6 h
  replace h:=(Ge.eq_2 x66 x67 x69 n1).symm.trans h
  refine v8 h (fun hb h => ?_) (fun hb h => ?_)
  ·refine .inl ?_
   refine m8 h fun hg h => ?_
   obtain ⟨x70,hc70,h⟩:=j5 h
   refine ⟨[],_,_,_,⟨⟨_,k35 (fun _ h=>h) x66 (List.getD x67 (Int.toNat x69) 0) x70 hc70,⟨.inl rfl,.inl rfl,trivial⟩⟩,trivial,rfl⟩,?_⟩
   refine v8 h (fun hb h => ?_) (fun hb h => ?_)
   ·obtain rfl:=e8 h
    replace h:=hr1_68
    obtain rfl:=e8 h
    exact ⟨0,[],[],mt⟩
   ·exact ⟨⟨(n1,_),h⟩,[],mt,Nat.lt_succ_self _⟩
  ·exact ⟨[],[],⟨_,e8 h⟩,[],mt⟩
theorem Xz {x1 x2 x3 i9} (h:Av x1 x2 x3=some i9) :
  FB er 4 [(.dv (.ints .u8 32 x1)),(.dv (z6.dv x2)),(.dv (.roI .u8 x3))] [] [] (.bl i9) []:=by
 refine fb Tryz.func4 ?_
 unfold Av at h
 obtain ⟨x4,c,h⟩:=j5 h
 refine cl [] [] (d39 c) ?_
 refine v8 h (fun hb h => ?_) (fun hb h => ?_)
 ·obtain rfl:=e8 h
  exact ⟨0,[],[],mt⟩
 ·obtain ⟨x5,c,h⟩:=j5 h
  refine cl [] [] (Xx c) ?_
  refine v8 h (fun hb h => ?_) (fun hb h => ?_)
  ·obtain rfl:=e8 h
   exact ⟨0,[],[],mt⟩
  ·refine v8 h (fun hb h => ?_) (fun hb h => ?_)
   ·obtain rfl:=e8 h
    exact ⟨0,[],[],mt⟩
   ·refine .inl ?_
    refine ⟨(List.length [x2.fSeed]),(rw_ (fun q => .roI .u8 q) [] [x2.fSeed]),⟨rfl,fun j hj=>match j,hj with|0,_=>rfl|_+1,hj=>absurd hj (by omega)⟩,?_⟩
    refine .inl ?_
    obtain ⟨r28,c,h⟩:=j5 h
    rcases r28 with x6|x17
    ·refine cl [false,false,false,false,true] [3] (Sj c) ?_
     refine .inl ?_
     obtain ⟨⟨x7,x8⟩,c,h⟩:=j5 h
     refine cl [] [4] (Zo c) ?_
     refine .inl ?_
     obtain ⟨⟨x9,x10,x11⟩,c,h⟩:=j5 h
     refine cl [] [5] (Gr c) ?_
     refine .inl ?_
     obtain ⟨⟨x12,x13⟩,c,h⟩:=j5 h
     refine cl [] [7] (Qx c) ?_
     refine .inl ?_
     refine ⟨(List.map (fun q:Int=>UInt8.ofNat q.toNat) x6),congrArg (List.map fun q:Int=>UInt8.ofNat q.toNat) (i7 x6),?_⟩
     refine ⟨(List.map (fun q:Int=>UInt8.ofNat q.toNat) x8),congrArg (List.map fun q:Int=>UInt8.ofNat q.toNat) (i7 x8),?_⟩
     refine m7 h ?_
     intro x14 h
     refine v8 h (fun hb h => ?_) (fun hb h => ?_)
     ·obtain ⟨r16,c,h⟩:=j5 h
      refine cl [] [] (f56 c) ?_
      refine v8 h (fun hb h => ?_) (fun hb h => ?_)
      ·refine v8 h (fun hb h => ?_) (fun hb h => ?_)
       ·refine ⟨(List.map (fun q:Int=>UInt8.ofNat q.toNat) (List.take x10 x11)),rfl,?_⟩
        refine m7 h ?_
        intro x15 h
        refine ⟨(List.map (fun q:Int=>UInt8.ofNat q.toNat) (List.take (Int.toNat (12-0)) x13)),rfl,?_⟩
        refine m7 h ?_
        intro x16 h
        obtain rfl:=e8 h
        exact ⟨0,[],[],mt⟩
       ·obtain rfl:=e8 h
        exact ⟨0,[],[],mt⟩
      ·obtain rfl:=e8 h
       exact ⟨0,[],[],mt⟩
     ·obtain rfl:=e8 h
      exact ⟨0,[],[],mt⟩
    ·refine cl [false,false,false,false,true] [] (Sj c) ?_
     obtain ⟨⟨x18,x19⟩,c,h⟩:=j5 h
     refine cl [] [3] (Zo c) ?_
     refine .inl ?_
     obtain ⟨⟨x20,x21,x22⟩,c,h⟩:=j5 h
     refine cl [] [4] (Gr c) ?_
     refine .inl ?_
     obtain ⟨⟨x23,x24⟩,c,h⟩:=j5 h
     refine cl [] [6] (Qx c) ?_
     refine .inl ?_
     refine ⟨(List.map (fun q:Int=>UInt8.ofNat q.toNat) []),rfl,?_⟩
     refine ⟨(List.map (fun q:Int=>UInt8.ofNat q.toNat) x19),congrArg (List.map fun q:Int=>UInt8.ofNat q.toNat) (i7 x19),?_⟩
     refine m7 h ?_
     intro x25 h
     refine v8 h (fun hb h => ?_) (fun hb h => ?_)
     ·obtain ⟨x26,c,h⟩:=j5 h
      refine cl [] [] (d45 c) ?_
      refine v8 h (fun hb h => ?_) (fun hb h => ?_)
      ·refine v8 h (fun hb h => ?_) (fun hb h => ?_)
       ·refine ⟨(List.map (fun q:Int=>UInt8.ofNat q.toNat) (List.take x21 x22)),rfl,?_⟩
        refine m7 h ?_
        intro x27 h
        refine ⟨(List.map (fun q:Int=>UInt8.ofNat q.toNat) (List.take (Int.toNat (12-0)) x24)),rfl,?_⟩
        refine m7 h ?_
        intro x28 h
        obtain rfl:=e8 h
        exact ⟨0,[],[],mt⟩
       ·obtain rfl:=e8 h
        exact ⟨0,[],[],mt⟩
      ·obtain rfl:=e8 h
       exact ⟨0,[],[],mt⟩
     ·obtain rfl:=e8 h
      exact ⟨0,[],[],mt⟩
end
end Go.Eng
