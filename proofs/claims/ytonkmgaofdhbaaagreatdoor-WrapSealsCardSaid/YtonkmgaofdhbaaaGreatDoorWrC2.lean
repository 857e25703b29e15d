/-
  Part of a proof: WrC2.
-/
import Derived.Test.YtonkmgaofdhbaaaGreatDoorWrC1
set_option linter.unusedVariables false
set_option linter.unusedSimpArgs false
set_option linter.unusedVariables false
set_option linter.unusedSimpArgs false
namespace Go.Eng
open Go.Proofs
set_option maxRecDepth 100000
set_option maxHeartbeats 4000000
section
variable {er:Nat->Zp}
theorem Ie {x35 x36 x37 x38 x39 x40 i9} (h:B0 x35 x36 x37 x38 x39 x40=some i9) :
  FB er 30 [(.vs 0 0 3)] [(.var (.cons (.sl 1 [] s6 0 x35) (.cons (.sl 2 [] s6 0 x36) (.cons (.sl 3 [] s6 0 x37) (.dv .nil))))),(.rowI .u8 x38),(.rowI .u8 x39),(.rowI .u8 x40)] [5] (.sl 5 [] s6 0 (List.length i9)) [(.var (.cons (.sl 1 [] s6 0 x35) (.cons (.sl 2 [] s6 0 x36) (.cons (.sl 3 [] s6 0 x37) (.dv .nil))))),(.rowI .u8 x38),(.rowI .u8 x39),(.rowI .u8 x40),(.rowI .u8 i9)]:=by
 refine fb Tryz.func30 ?_
 unfold B0 at h
 obtain ⟨x41,g,h⟩:=j5 h
 refine .inr ⟨[10],_,fj (fun x41=>([(3,(.int .i64 x41))],[])) x41,0,?_,?_⟩
 ·rintro ⟨x41,rfl⟩
  obtain ⟨⟨x43,x44⟩,c,h⟩:=j5 h
  refine cl [] [4] (z0 c) ?_
  refine .inl ?_
  obtain ⟨x45,g,h⟩:=j5 h
  refine .inr ⟨[24,26],_,fj (fun x45=>([(6,(.sl 5 [] s6 0 (List.length x45)))],[(4,.dead),(5,(.rowI .u8 x45))])) x45,1,?_,?_⟩
  ·rintro ⟨x45,rfl⟩
   obtain rfl:=e8 h
   exact ⟨0,[],[],mt⟩
  ·replace h:=g
   refine .inr ⟨30,?_⟩
   refine And.intro (fun _ => ?_) (fun h0=>Bool.noConfusion h0)
   refine .inl ?_
   refine dc ?_
   obtain ⟨hg,h⟩:=gd h
   refine And.intro (j9 (F2 _ _) hg) ?_
   obtain ⟨hg2,h⟩:=gd h
   refine ⟨((List.take x43 x44)++(List.take x35 x38)),m5 (C8 _ _) (C8 _ _),0,(List.length ((List.take x43 x44)++(List.take x35 x38))),⟨rfl,Dw hg2 (F2 _ _)⟩,?_⟩
   refine .inl ?_
   refine And.intro (fun _ => ?_) (fun h0=>Bool.noConfusion h0)
   refine .inl ?_
   refine dc ?_
   obtain ⟨hg,h⟩:=gd h
   refine And.intro (j9 (F2 _ _) hg) ?_
   refine ⟨(((List.take x43 x44)++(List.take x35 x38))++(List.take x36 x39)),m5 (i7 _) (C8 _ _),0,(List.length (((List.take x43 x44)++(List.take x35 x38))++(List.take x36 x39))),⟨rfl,r7 (F2 _ _)⟩,?_⟩
   refine .inl ?_
   refine m7 h ?_
   intro x46 h
   refine And.intro (fun _ => ?_) (fun h0=>Bool.noConfusion h0)
   refine .inl ?_
   refine dc ?_
   obtain ⟨hg,h⟩:=gd h
   refine And.intro (j9 (F2 _ _) hg) ?_
   refine ⟨(x46++(List.take x37 x40)),m5 (i7 _) (C8 _ _),0,(List.length (x46++(List.take x37 x40))),⟨rfl,r7 (F2 _ _)⟩,?_⟩
   refine .inl ?_
   refine And.intro (fun h0=>Bool.noConfusion h0) (fun _ => ?_)
   exact ⟨[],[],⟨_,e8 h⟩,[(5,7)],mt⟩
 ·replace h:=g
  refine .inr ⟨30,?_⟩
  refine And.intro (fun _ => ?_) (fun h0=>Bool.noConfusion h0)
  refine .inl ?_
  refine dc ?_
  refine .inl ?_
  refine v8 h (fun hb h => ?_) (fun hb h => ?_)
  ·exact i6 h
  ·refine And.intro (fun _ => ?_) (fun h0=>Bool.noConfusion h0)
   refine .inl ?_
   refine dc ?_
   refine m7 h ?_
   intro x42 h
   refine .inl ?_
   refine v8 h (fun hb h => ?_) (fun hb h => ?_)
   ·exact i6 h
   ·refine And.intro (fun _ => ?_) (fun h0=>Bool.noConfusion h0)
    refine .inl ?_
    refine dc ?_
    refine .inl ?_
    refine v8 h (fun hb h => ?_) (fun hb h => ?_)
    ·exact i6 h
    ·refine And.intro (fun h0=>Bool.noConfusion h0) (fun _ => ?_)
     exact ⟨[],[],⟨_,e8 h⟩,[],mt⟩
theorem Se {x49 x50 x51 x52 i9} (h:W2 x49 x50 x51 x52=some i9) :
  FB er 32 [(.dv (.roI .u8 x49)),(.dv (.str x50)),(.dv (.roI .u8 x51)),(.int .i64 x52)] [] [3] (.sl 3 [] s6 0 i9.1) [(.rowI .u8 i9.2)]:=by
 refine fb Tryz.func32 ?_
 unfold W2 at h
 refine dc ?_
 refine .inl ?_
 refine m7 h ?_
 intro x53 h
 refine m8 h fun hg h => ?_
 refine m7 h ?_
 intro x54 h
 obtain ⟨hg,h⟩:=gd h
 refine And.intro (hg) ?_
 refine ⟨(x53++(List.map (fun q:UInt8=>(q.toNat:Int)) x54)),m5 (i7 _) (rfl),0,(List.length (x53++(List.map (fun q:UInt8=>(q.toNat:Int)) x54))),⟨rfl,r7 (rfl)⟩,?_⟩
 refine .inl ?_
 obtain ⟨hg,h⟩:=gd h
 refine And.intro (hg) ?_
 refine ⟨((x53++(List.map (fun q:UInt8=>(q.toNat:Int)) x54))++x51),m5 (i7 _) (rfl),0,(List.length ((x53++(List.map (fun q:UInt8=>(q.toNat:Int)) x54))++x51)),⟨rfl,r7 (rfl)⟩,?_⟩
 refine .inl ?_
 refine m7 h ?_
 intro x55 h
 obtain ⟨r58,c,h⟩:=j5 h
 rcases r58 with ⟨x56,x57⟩|x58
 ·refine cl [false,true,false] [3] (Q6 c) ?_ (hv:=⟨.inl rfl,u9 _ _,.inl rfl,trivial⟩)
  refine .inl ?_
  refine And.intro (fun h0=>Bool.noConfusion h0) (fun _ => ?_)
  obtain rfl:=e8 h
  exact ⟨0,[],[],mt⟩
 ·refine cl [false,true,false] [] (Q6 c) ?_ (hv:=⟨.inl rfl,u9 _ _,.inl rfl,trivial⟩)
  refine And.intro (fun _ => ?_) (fun h0=>Bool.noConfusion h0)
  refine m8 h fun hg h => ?_
  refine .inl ?_
  refine ⟨(List.replicate (Int.toNat x52) (0:Int)),rfl,0,(List.length (List.replicate (Int.toNat x52) (0:Int))),⟨rfl,List.length_replicate ..⟩,?_⟩
  refine .inl ?_
  obtain rfl:=e8 h
  exact ⟨0,[],[],mt⟩
theorem Gr {x26 x27 i9} (h:Y8 x26 x27=some i9) :
  FB er 13 [(.dv (.ints .u8 32 x26)),(.dv (.roI .u8 x27))] [] [9] (.tup [(.dv (.ints .u8 32 i9.1)),(.sl 9 [] s6 0 i9.2.1)]) [(.rowI .u8 i9.2.2)]:=by
 refine fb Tryz.func13 ?_
 unfold Y8 at h
 refine .inl ?_
 obtain ⟨x28,c,h⟩:=j5 h
 refine cl [] [3] (Ju c) ?_ (hv:=⟨(.inr (.inr ⟨rfl,.inl ⟨_,rfl⟩⟩)),.inl rfl,(.inr (.inr ⟨rfl,.inl ⟨_,rfl⟩⟩)),trivial⟩)
 refine .inl ?_
 obtain ⟨x29,c,h⟩:=j5 h
 refine cl [] [4] (Ju c) ?_ (hv:=⟨(.inr (.inr ⟨rfl,.inl ⟨_,rfl⟩⟩)),.inl rfl,.inl rfl,trivial⟩)
 refine .inl ?_
 refine .inr ?_
 obtain ⟨x30,c,h⟩:=j5 h
 refine cl [] [5,2,3,4,6] (Ie c) ?_
 refine .inl ?_
 refine .inl ?_
 refine And.intro (by omega) ?_
 refine ⟨0,32,⟨rfl,rfl⟩,?_⟩
 obtain ⟨x31,c,h⟩:=j5 h
 refine cl [true,false,false] [7] (Ju c) ?_ (hv:=⟨.inl rfl,.inl rfl,(.inr (.inr ⟨rfl,.inl ⟨_,rfl⟩⟩)),trivial⟩)
 refine .inl ?_
 obtain ⟨⟨x32,x33⟩,c,h⟩:=j5 h
 refine cl [true,false,true,false] [8] (Se c) ?_ (hv:=⟨.inl rfl,.inl rfl,u9 _ _,.inl rfl,trivial⟩)
 refine .inl ?_
 obtain ⟨hg,h⟩:=gd h
 refine And.intro (by first|exact hg|simpa using hg) ?_
 refine ⟨(List.take 32 (List.take x32 x33)),by first|rfl|simp,?_⟩
 obtain ⟨⟨x34,x35⟩,c,h⟩:=j5 h
 refine cl [true,false,true,false] [9] (Se c) ?_ (hv:=⟨.inl rfl,.inl rfl,u9 _ _,.inl rfl,trivial⟩)
 refine .inl ?_
 obtain rfl:=e8 h
 exact ⟨0,[],[],mt⟩
theorem Lq {x47 x48 i9} (h:M7 x47 x48=some i9) :
  FB er 65 [(.dv (.roI .u8 x47)),(.int .i64 x48)] [] [0,1] (.fn 104 [(.ptr 0 [] Sm),(.ptr 1 [] Ls)]) [(.var (.dv (.roI .u8 x47))),(.var (.int .i64 x48))]:=by
 refine fb Tryz.func65 ?_
 unfold M7 at h
 refine .inl ?_
 refine v8 h (fun hb h => ?_) (fun hb h => ?_)
 ·exact i6 h
 ·obtain rfl:=e8 h
  exact ⟨0,[],[],mt⟩
theorem Sf {x58 i9} (h:Lf x58=some i9) :
  FB er 127 [(.dv (.roI .u8 x58))] [] [] (.int .u32 i9) []:=by
 refine fb Tryz.func127 ?_
 unfold Lf at h
 refine m8 h fun hg h => ?_
 refine m8 h fun hg h => ?_
 refine dc ?_
 refine m7 h ?_
 intro x59 h
 refine m8 h fun hg h => ?_
 refine dc ?_
 refine m7 h ?_
 intro x60 h
 refine m7 h ?_
 intro x61 h
 refine m8 h fun hg h => ?_
 refine dc ?_
 refine m7 h ?_
 intro x62 h
 obtain rfl:=e8 h
 exact ⟨0,[],[],mt⟩
theorem b71 {x54 x55 x56 i9} (h:Er x54 x55 x56=some i9) :
  FB er 105 [(.dv (.ints .u8 32 x54)),(.int .u32 x55),(.dv (.roI .u8 x56))] [] [] (.dv (.ints .u32 16 i9)) []:=by
 refine fb Tryz.func105 ?_
 unfold Er at h
 refine m7 h ?_
 intro x57 h
 obtain ⟨x58,g,h⟩:=j5 h
 refine .inr ⟨[3],_,fj (fun x58=>([],[(2,(.var (.dv (.ints .u32 16 x58))))])) x58,0,?_,?_⟩
 ·rintro ⟨x58,rfl⟩
  refine dc ?_
  obtain ⟨x62,g,h⟩:=j5 h
  refine .inr ⟨[2],_,fj (fun x62=>([],[(2,(.var (.dv (.ints .u32 16 x62))))])) x62,0,?_,?_⟩
  ·rintro ⟨x62,rfl⟩
   obtain rfl:=e8 h
   exact ⟨0,[],[],mt⟩
  ·replace h:=g
   refine .inl ?_
   refine ⟨[],_,fl (β:=Nat×Int×(List Int)) (fun (n2,x63,x64)=>(Ck x56 n2 x63 x64=some x62,[(24,(.int .i64 x63))],[(2,(.var (.dv (.ints .u32 16 x64))))],n2)),[],[],⟨(f9,0,(List.set x58 12 x55)),h⟩,mt,?_⟩
   rintro ⟨⟨_|n2,x63,x64⟩,h⟩
   ·exact i6 h
   replace h:=(Ck.eq_2 x56 x63 x64 n2).symm.trans h
   refine v8 h (fun hb h => ?_) (fun hb h => ?_)
   ·refine .inl ?_
    refine m8 h fun hg h => ?_
    refine ⟨(List.take (Int.toNat ((List.length x56:Int)-(IntKind.wrap .i64 (4*x63)))) (List.drop (Int.toNat (IntKind.wrap .i64 (4*x63))) x56)),by first|rfl|simp,?_⟩
    refine m7 h ?_
    intro x65 h
    obtain ⟨x66,c,h⟩:=j5 h
    refine cl [] [] (Sf c) ?_
    refine m8 h fun hg h => ?_
    refine m7 h ?_
    intro x67 h
    exact ⟨⟨(n2,_,_),h⟩,[],mt,Nat.lt_succ_self _⟩
   ·exact ⟨[],[],⟨_,e8 h⟩,[],mt⟩
 ·replace h:=g
  refine .inl ?_
  refine ⟨[],_,fl (β:=Nat×Int×(List Int)) (fun (n1,x59,x60)=>(Cj x54 n1 x59 x60=some x58,[(11,(.int .i64 x59))],[(2,(.var (.dv (.ints .u32 16 x60))))],n1)),[],[],⟨(f9,0,x57),h⟩,mt,?_⟩
  rintro ⟨⟨_|n1,x59,x60⟩,h⟩
  ·exact i6 h
  replace h:=(Cj.eq_2 x54 x59 x60 n1).symm.trans h
  refine v8 h (fun hb h => ?_) (fun hb h => ?_)
  ·refine .inl ?_
   refine .inl ?_
   refine m8 h fun hg h => ?_
   refine ⟨(Int.toNat (IntKind.wrap .i64 (4*x59))),(Int.toNat (32-(IntKind.wrap .i64 (4*x59)))),⟨rfl,rfl⟩,?_⟩
   obtain ⟨x61,c,h⟩:=j5 h
   refine cl [true] [] (Sf c) ?_
   refine m8 h fun hg h => ?_
   exact ⟨⟨(n1,_,_),h⟩,[],mt,Nat.lt_succ_self _⟩
  ·exact ⟨[],[],⟨_,e8 h⟩,[],mt⟩
theorem Ig {x79 x80 i9} (h:Fq x79 x80=some i9) :
  FB er 138 [(.int .u32 x79),(.int .i64 x80)] [] [] (.int .u32 i9) []:=by
 refine fb Tryz.func138 ?_
 unfold Fq at h
 refine dc ?_
 refine m8 h fun hg h => ?_
 refine m7 h ?_
 intro x81 h
 refine m7 h ?_
 intro x82 h
 refine m8 h fun hg h => ?_
 refine m7 h ?_
 intro x83 h
 obtain rfl:=e8 h
 exact ⟨0,[],[],mt⟩
theorem Xw {x75 x76 x77 x78 i9} (h:Ka x75 x76 x77 x78=some i9) :
  FB er 137 [(.int .u32 x75),(.int .u32 x76),(.int .u32 x77),(.int .u32 x78)] [] [] (.tup [(.int .u32 i9.1),(.int .u32 i9.2.1),(.int .u32 i9.2.2.1),(.int .u32 i9.2.2.2)]) []:=by
 refine fb Tryz.func137 ?_
 unfold Ka at h
 obtain ⟨x79,c,h⟩:=j5 h
 refine cl [] [] (Ig c) ?_
 obtain ⟨x80,c,h⟩:=j5 h
 refine cl [] [] (Ig c) ?_
 refine m7 h ?_
 intro x81 h
 obtain ⟨x82,c,h⟩:=j5 h
 refine cl [] [] (Ig c) ?_
 refine m7 h ?_
 intro x83 h
 obtain ⟨x84,c,h⟩:=j5 h
 refine cl [] [] (Ig c) ?_
 obtain rfl:=e8 h
 exact ⟨0,[],[],mt⟩
theorem Bv {x71 x72 x73 x74 x75 i9} (h:j0 x71 x72 x73 x74 x75=some i9) :
  FB er 128 [(.ptr 0 [] d49),(.int .i64 x71),(.int .i64 x72),(.int .i64 x73),(.int .i64 x74)] [(.var (.dv (.ints .u32 16 x75)))] [] (.tup []) [(.var (.dv (.ints .u32 16 i9)))]:=by
 refine fb Tryz.func128 ?_
 unfold j0 at h
 refine m8 h fun hg h => ?_
 refine m8 h fun hg h => ?_
 refine m8 h fun hg h => ?_
 refine m8 h fun hg h => ?_
 obtain ⟨⟨x76,x77,x78,x79⟩,c,h⟩:=j5 h
 refine cl [] [] (Xw c) ?_
 refine m8 h fun hg h => ?_
 refine m8 h fun hg h => ?_
 refine m7 h ?_
 intro x80 h
 refine m8 h fun hg h => ?_
 refine m8 h fun hg h => ?_
 refine m7 h ?_
 intro x81 h
 obtain rfl:=e8 h
 exact ⟨0,[],[],mt⟩
theorem Db {x70 i9} (h:D8 x70=some i9) :
  FB er 106 [(.ptr 0 [] d49)] [(.var (.dv (.ints .u32 16 x70)))] [] (.tup []) [(.var (.dv (.ints .u32 16 i9)))]:=by
 refine fb Tryz.func106 ?_
 unfold D8 at h
 obtain ⟨x71,g,h⟩:=j5 h
 refine .inr ⟨[],_,fj (fun x71=>([],[(0,(.var (.dv (.ints .u32 16 x71))))])) x71,0,?_,?_⟩
 ·rintro ⟨x71,rfl⟩
  obtain ⟨x75,g,h⟩:=j5 h
  refine .inr ⟨[],_,fj (fun x75=>([],[(0,(.var (.dv (.ints .u32 16 x75))))])) x75,0,?_,?_⟩
  ·rintro ⟨x75,rfl⟩
   obtain rfl:=e8 h
   exact ⟨0,[],[],mt⟩
  ·replace h:=g
   refine .inl ?_
   refine ⟨[],_,fl (β:=Nat×Int×(List Int)) (fun (n2,x76,x77)=>(F0 n2 x76 x77=some x75,[(17,(.int .i64 x76))],[(0,(.var (.dv (.ints .u32 16 x77))))],n2)),[],[],⟨(f9,0,x71),h⟩,mt,?_⟩
   rintro ⟨⟨_|n2,x76,x77⟩,h⟩
   ·exact i6 h
   replace h:=(F0.eq_2 x76 x77 n2).symm.trans h
   refine v8 h (fun hb h => ?_) (fun hb h => ?_)
   ·refine .inl ?_
    refine dc ?_
    refine m7 h ?_
    intro x78 h
    refine dc ?_
    refine m7 h ?_
    intro x79 h
    refine dc ?_
    refine m7 h ?_
    intro x80 h
    obtain ⟨x81,c,h⟩:=j5 h
    refine cl [] [0] (Bv c) ?_
    exact ⟨⟨(n2,_,_),h⟩,[],mt,Nat.lt_succ_self _⟩
   ·exact ⟨[],[],⟨_,e8 h⟩,[],mt⟩
 ·replace h:=g
  refine .inl ?_
  refine ⟨[],_,fl (β:=Nat×Int×(List Int)) (fun (n1,x72,x73)=>(E9 n1 x72 x73=some x71,[(4,(.int .i64 x72))],[(0,(.var (.dv (.ints .u32 16 x73))))],n1)),[],[],⟨(f9,0,x70),h⟩,mt,?_⟩
  rintro ⟨⟨_|n1,x72,x73⟩,h⟩
  ·exact i6 h
  replace h:=(E9.eq_2 x72 x73 n1).symm.trans h
  refine v8 h (fun hb h => ?_) (fun hb h => ?_)
  ·refine .inl ?_
   obtain ⟨x74,c,h⟩:=j5 h
   refine cl [] [0] (Bv c) ?_
   exact ⟨⟨(n1,_,_),h⟩,[],mt,Nat.lt_succ_self _⟩
  ·exact ⟨[],[],⟨_,e8 h⟩,[],mt⟩
theorem U6 {x51 x52 x53 i9} (h:G9 x51 x52 x53=some i9) :
  FB er 66 [(.dv (.ints .u8 32 x51)),(.int .u32 x52),(.dv (.roI .u8 x53))] [] (match i9 with|(Sum.inl p0)=>[3]|(Sum.inr _)=>[]) (match i9 with|(Sum.inl p0)=>(.tup [(.sl 3 [] s6 0 (List.length p0)),(.dv (.sc .nilIface))])|(Sum.inr _)=>(.tup [(.dv (.sc (.slice none 0 0))),(Pe er 4)])) (match i9 with|(Sum.inl p0)=>[(.rowI .u8 p0)]|(Sum.inr _)=>[]):=by
 refine fb Tryz.func66 ?_ (by rcases i9 with _|_<;>rfl)
 unfold G9 at h
 refine v8 h (fun hb h => ?_) (fun hb h => ?_)
 ·obtain rfl:=e8 h
  exact ⟨0,[],[],mt⟩
 ·obtain ⟨x54,c,h⟩:=j5 h
  refine cl [] [] (b71 c) ?_
  refine And.intro (fun _ => ?_) (fun h0=>Bool.noConfusion h0)
  obtain ⟨x55,c,h⟩:=j5 h
  refine cl [] [1] (Db c) ?_
  refine .inr ⟨[1,2,3],_,fl (β:=Nat×Int×(List Int)) (fun (n1,x56,x57)=>(L9 x54 n1 x56 x57=some i9,[(6,(.dv (.sc (.slice none 0 0)))),(7,(.dv (.sc .nilIface))),(8,(.ptr 1 [] d49)),(9,(.ptr 2 [] d49)),(10,(.int .i64 x56))],[(1,(.var (.dv (.ints .u32 16 x57))))],n1)),[],[],⟨(f9,1,x55),h⟩,mt,?_⟩
  rintro ⟨⟨_|n1,x56,x57⟩,h⟩
  ·exact i6 h
  replace h:=(L9.eq_2 x54 x56 x57 n1).symm.trans h
  refine v8 h (fun hb h => ?_) (fun hb h => ?_)
  ·obtain ⟨x58,c,h⟩:=j5 h
   refine cl [] [1] (Db c) ?_
   exact ⟨⟨(n1,_,_),h⟩,[],mt,Nat.lt_succ_self _⟩
  ·obtain ⟨x59,g,h⟩:=j5 h
   refine .inr ⟨[28],_,fj (fun x59=>([(11,(.sl 3 [] s6 0 (List.length x59)))],[(3,(.rowI .u8 x59))])) x59,1,?_,?_⟩
   ·rintro ⟨x59,rfl⟩
    obtain rfl:=e8 h
    exact ⟨0,[],[],mt⟩
   ·replace h:=g
    refine .inl ?_
    refine ⟨[],_,fl (β:=Nat×Int×(List Int)) (fun (n2,x60,x61)=>(Y7 x54 x57 n2 x60 x61=some x59,[(11,(.sl 3 [] s6 0 (List.length x61))),(29,(.int .i64 x60))],[(3,(.rowI .u8 x61))],n2)),[(11,.rowI .u8 [])],[],⟨(f9,0,([]:List Int)),h⟩,mt,?_⟩
    rintro ⟨⟨_|n2,x60,x61⟩,h⟩
    ·exact i6 h
    replace h:=(Y7.eq_2 x54 x57 x60 x61 n2).symm.trans h
    refine v8 h (fun hb h => ?_) (fun hb h => ?_)
    ·refine .inl ?_
     refine m8 h fun hg h => ?_
     refine m8 h fun hg h => ?_
     refine m7 h ?_
     intro x62 h
     refine dc ?_
     refine dc ?_
     refine dc ?_
     refine .inl ?_
     refine m7 h ?_
     intro x63 h
     obtain ⟨hg,h⟩:=gd h
     refine And.intro (j9 (o5 x63) hg) ?_
     refine ⟨(x61++x63),m5 (i7 _) (i7 x63),0,(List.length (x61++x63)),⟨rfl,r7 (o5 x63)⟩,?_⟩
     refine .inl ?_
     exact ⟨⟨(n2,_,_),h⟩,[(3,5)],mt,Nat.lt_succ_self _⟩
    ·exact ⟨[],[],⟨_,e8 h⟩,[],mt⟩
theorem Zf {x65 x66 i9} (h:Mx x65 x66=some i9) :
  FB er 67 [(.dv (.roI .u8 x65)),(.dv (.roI .u8 x66))] [] (match i9 with|(Sum.inl p0)=>[0]|(Sum.inr _)=>[]) (match i9 with|(Sum.inl p0)=>(.tup [(.sl 0 [] s6 0 (List.length p0)),(.dv (.sc .nilIface))])|(Sum.inr _)=>(.tup [(.dv (.sc (.slice none 0 0))),(Pe er 4)])) (match i9 with|(Sum.inl p0)=>[(.rowI .u8 p0)]|(Sum.inr _)=>[]):=by
 refine fb Tryz.func67 ?_ (by rcases i9 with _|_<;>rfl)
 unfold Mx at h
 refine v8 h (fun hb h => ?_) (fun hb h => ?_)
 ·obtain rfl:=e8 h
  exact ⟨0,[],[],mt⟩
 ·obtain ⟨x67,c,h⟩:=j5 h
  refine cl [] [0] (E7 c) ?_
  refine .inl ?_
  obtain ⟨x68,g,h⟩:=j5 h
  refine .inr ⟨[6,15,16,17],_,fj (fun x68=>([(6,(.sl 0 [] s6 0 (List.length x68))),(15,(.sl 0 [] s6 0 (List.length x68))),(16,(.sl 0 [] s6 0 (List.length x68)))],[(0,(.rowI .u8 x68))])) x68,0,?_,?_⟩
  ·rintro ⟨x68,rfl⟩
   obtain rfl:=e8 h
   exact ⟨0,[],[],mt⟩
  ·replace h:=g
   refine .inl ?_
   refine ⟨[6,15,16],_,fl (β:=Nat×Int×(List Int)) (fun (n1,x69,x70)=>(X8 x66 x67 n1 x69 x70=some x68,[(6,(.sl 0 [] s6 0 (List.length x70))),(15,(.sl 0 [] s6 0 (List.length x70))),(16,(.sl 0 [] s6 0 (List.length x70))),(18,(.int .i64 x69))],[(0,(.rowI .u8 x70))],n1)),[],[],⟨(f9,0,x67),h⟩,mt,?_⟩
   rintro ⟨⟨_|n1,x69,x70⟩,h⟩
   ·exact i6 h
   replace h:=(X8.eq_2 x66 x67 x69 x70 n1).symm.trans h
   refine v8 h (fun hb h => ?_) (fun hb h => ?_)
   ·refine .inl ?_
    refine m8 h fun hg h => ?_
    refine m8 h fun hg h => ?_
    refine m7 h ?_
    intro x71 h
    refine m8 h fun hg h => ?_
    exact ⟨⟨(n1,(IntKind.wrap .i64 (x69+1)),(List.set x70 (Int.toNat x69) x71)),h⟩,[],⟨rfl,⟨(show ((.sl 0 [] s6 0 (List.length x70)):AV)=((.sl 0 [] s6 0 (List.length (List.set x70 (Int.toNat x69) x71))):AV) by simp only [List.length_set]),(show ((.sl 0 [] s6 0 (List.length x70)):AV)=((.sl 0 [] s6 0 (List.length (List.set x70 (Int.toNat x69) x71))):AV) by simp only [List.length_set]),(show ((.sl 0 [] s6 0 (List.length x70)):AV)=((.sl 0 [] s6 0 (List.length (List.set x70 (Int.toNat x69) x71))):AV) by simp only [List.length_set]),rfl,trivial⟩,⟨rfl,trivial⟩,rfl⟩,Nat.lt_succ_self _⟩
   ·exact ⟨[],[],⟨_,e8 h⟩,[],mt⟩
theorem Fz {x43 x44 x45 x46 i9} (h:De x43 x44 x45 x46=some i9) :
  FB er 42 [(.dv (.ints .u8 32 x43)),(.int .u32 x44),(.dv (.roI .u8 x45)),(.dv (.roI .u8 x46))] [] (match i9 with|(Sum.inl p0)=>[8]|(Sum.inr p0)=>[]) (match i9 with|(Sum.inl p0)=>(.tup [(.sl 8 [] s6 0 (List.length p0)),(.dv (.sc .nilIface))])|(Sum.inr p0)=>(.tup [(.dv (.sc (.slice none 0 0))),(Pe er p0)])) (match i9 with|(Sum.inl p0)=>[(.rowI .u8 p0)]|(Sum.inr p0)=>[]):=by
 refine fb Tryz.func42 ?_ (by rcases i9 with _|_<;>rfl)
 unfold De at h
 refine .inl ?_
 refine v8 h (fun hb h => ?_) (fun hb h => ?_)
 ·obtain rfl:=e8 h
  exact ⟨0,[],[],mt⟩
 ·refine v8 h (fun hb h => ?_) (fun hb h => ?_)
  ·obtain rfl:=e8 h
   exact ⟨0,[],[],mt⟩
  ·obtain ⟨r62,c,h⟩:=j5 h
   refine cl [] [6,7] (Lq c) ?_
   obtain ⟨r1_0_50,hl1_50,hr1_50⟩:=j5 h
   refine .inr ⟨[4,5,26],{p:Int×(List Int) // (Sum.inl p)=r1_0_50},⟨fun|⟨(x47,x48),_⟩=>[],fun|⟨(x47,x48),_⟩=>[(1,(.var (.int .u32 x47))),(5,(.var (.sl 8 [] s6 0 (List.length x48)))),(8,(.rowI .u8 x48))],fun _=>0⟩,1,?_,?_⟩
   ·rintro ⟨⟨x47,x48⟩,hp⟩
    subst hp
    replace h:=hr1_50
    obtain rfl:=e8 h
    exact ⟨0,[],[],mt⟩
   ·replace h:=hl1_50
    intro L3
    refine ⟨Tryz.f104,_,⟨Tryz.func104,rfl,rfl,rfl⟩,?_⟩
    obtain ⟨r2_0_54,hl2_54,hr2_54⟩:=j5 h
    refine .inr ⟨[0,1,2],{p:Int×(List Int) // (Sum.inl p)=r2_0_54},⟨fun|⟨(x51,x52),_⟩=>[],fun|⟨(x51,x52),_⟩=>[(1,(.var (.int .u32 x51))),(5,(.var (.sl 10 [] s6 0 (List.length x52)))),(10,(.rowI .u8 x52))],fun _=>0⟩,1,?_,?_⟩
    ·rintro ⟨⟨x51,x52⟩,hp⟩
     subst hp
     replace h:=hr2_54
     exact ⟨[],[],⟨_,e8 h⟩,[(8,10)],mt⟩
    ·replace h:=hl2_54
     refine .inl ?_
     refine ⟨[],_,fl (β:=Nat×Int×Int×(List Int)) (fun (n1,x55,x56,x57)=>(V1 x43 x45 x46 n1 x55 x56 x57=some r2_0_54,[(4,(.int .i64 x55))],[(1,(.var (.int .u32 x56))),(5,(.var (.sl 10 [] s6 0 (List.length x57)))),(10,(.rowI .u8 x57))],n1)),[],[(5,[],.rowI .u8 [])],⟨(f9,0,x44,([]:List Int)),h⟩,mt,?_⟩
     rintro ⟨⟨_|n1,x55,x56,x57⟩,h⟩
     ·exact i6 h
     replace h:=(V1.eq_2 x43 x45 x46 x55 x56 x57 n1).symm.trans h
     refine v8 h (fun hb h => ?_) (fun hb h => ?_)
     ·refine .inl ?_
      refine m8 h fun hg h => ?_
      refine ⟨(List.take (Int.toNat ((List.length x46:Int)-x55)) (List.drop (Int.toNat x55) x46)),by first|rfl|simp,?_⟩
      refine m7 h ?_
      intro x58 h
      refine m7 h ?_
      intro x59 h
      refine m8 h fun hg h => ?_
      refine m8 h fun hg h => ?_
      refine ⟨(List.take (Int.toNat ((IntKind.wrap .i64 (x55+x59))-x55)) (List.drop (Int.toNat x55) x46)),by first|rfl|simp,?_⟩
      refine m7 h ?_
      intro x60 h
      refine ⟨rfl,?_⟩
      refine .inl ?_
      obtain ⟨r62,c,h⟩:=j5 h
      rcases r62 with x61|⟨⟩
      ·refine cl [] [11] (U6 c) ?_
       refine .inl ?_
       refine And.intro (fun h0=>Bool.noConfusion h0) (fun _ => ?_)
       refine m8 h fun hg h => ?_
       refine m8 h fun hg h => ?_
       refine ⟨0,(Int.toNat ((List.length x60:Int)-0)),⟨by simp,rfl⟩,?_⟩
       obtain ⟨r62,c,h⟩:=j5 h
       rcases r62 with x62|⟨⟩
       ·refine cl [false,true] [12] (Zf c) ?_
        refine .inl ?_
        refine And.intro (fun h0=>Bool.noConfusion h0) (fun _ => ?_)
        obtain ⟨hg,h⟩:=gd h
        refine And.intro (j9 (o5 x62) hg) ?_
        refine ⟨(x57++x62),m5 (i7 _) (i7 x62),0,(List.length (x57++x62)),⟨rfl,r7 (o5 x62)⟩,?_⟩
        refine .inl ?_
        exact ⟨⟨(n1,_,_,_),h⟩,[(10,13)],mt,Nat.lt_succ_self _⟩
       ·refine cl [false,true] [] (Zf c) ?_
        refine And.intro (fun _ => ?_) (fun h0=>Bool.noConfusion h0)
        obtain rfl:=e8 h
        replace h:=hr2_54
        obtain rfl:=e8 h
        replace h:=hr1_50
        obtain rfl:=e8 h
        exact ⟨0,[],[],mt⟩
      ·refine cl [] [] (U6 c) ?_
       refine And.intro (fun _ => ?_) (fun h0=>Bool.noConfusion h0)
       obtain rfl:=e8 h
       replace h:=hr2_54
       obtain rfl:=e8 h
       replace h:=hr1_50
       obtain rfl:=e8 h
       exact ⟨0,[],[],mt⟩
     ·exact ⟨[],[],⟨_,e8 h⟩,[],mt⟩
theorem N3 {x71 i9} (h:I7 x71=some i9) :
  FB er 68 [(.dv (.roI .u8 x71))] [] [0] (.sl 0 [] s6 0 (List.length i9)) [(.rowI .u8 i9)]:=by
 refine fb Tryz.func68 ?_
 unfold I7 at h
 refine dc ?_
 refine m7 h ?_
 intro x72 h
 refine dc ?_
 refine m8 h fun hg h => ?_
 refine .inl ?_
 refine ⟨(List.replicate (Int.toNat (Int.tmod x72 16)) (0:Int)),rfl,0,(List.length (List.replicate (Int.toNat (Int.tmod x72 16)) (0:Int))),⟨rfl,List.length_replicate ..⟩,?_⟩
 refine .inl ?_
 obtain rfl:=e8 h
 exact ⟨0,[],[],mt⟩
theorem R6 {x75 i9} (h:M0 x75=some i9) :
  FB er 69 [(.dv (.roI .u8 x75))] [] [0] (.sl 0 [] s6 0 i9.1) [(.rowI .u8 i9.2)]:=by
 refine fb Tryz.func69 ?_
 unfold M0 at h
 obtain ⟨r76,c,h⟩:=j5 h
 rcases r76 with x76|⟨⟩
 ·refine cl [] [0] (Z5 c) ?_
  refine .inl ?_
  refine And.intro (fun h0=>Bool.noConfusion h0) (fun _ => ?_)
  obtain rfl:=e8 h
  exact ⟨0,[],[],mt⟩
 ·refine cl [] [] (Z5 c) ?_
  refine And.intro (fun _ => ?_) (fun h0=>Bool.noConfusion h0)
  obtain rfl:=e8 h
  exact ⟨0,[(2,(.rowI .u8 ([]:List Int)))],[],mt⟩
theorem Zg {x64 x65 x66 x67 i9} (h:My x64 x65 x66 x67=some i9) :
  FB er 43 [(.dv (.ints .u8 32 x64)),(.dv (.roI .u8 x65)),(.dv (.roI .u8 x66)),(.dv (.roI .u8 x67))] [] (match i9 with|(Sum.inl (p0,p1,p2,p3,p4,p5,p6,p7,p8))=>[8,4,5,6,7]|(Sum.inr (p0,p1,p2,p3,p4,p5,p6,p7,p8))=>[7,3,4,5,6]) (match i9 with|(Sum.inl (p0,p1,p2,p3,p4,p5,p6,p7,p8))=>(.tup [(.dv (.ints .u8 32 p0)),(.vs 8 0 6),(.dv (.sc .nilIface))])|(Sum.inr (p0,p1,p2,p3,p4,p5,p6,p7,p8))=>(.tup [(.dv (.ints .u8 32 p0)),(.vs 7 0 6),(Pe er 4)])) (match i9 with|(Sum.inl (p0,p1,p2,p3,p4,p5,p6,p7,p8))=>[(.var (.cons (.dv (.roI .u8 x66)) (.cons (.sl 4 [] s6 0 p1) (.cons (.dv (.roI .u8 x67)) (.cons (.sl 5 [] s6 0 p2) (.cons (.sl 6 [] s6 0 p3) (.cons (.sl 7 [] s6 0 p4) (.dv .nil)))))))),(.rowI .u8 p5),(.rowI .u8 p6),(.rowI .u8 p7),(.rowI .u8 p8)]|(Sum.inr (p0,p1,p2,p3,p4,p5,p6,p7,p8))=>[(.var (.cons (.dv (.roI .u8 x66)) (.cons (.sl 3 [] s6 0 p1) (.cons (.dv (.roI .u8 x67)) (.cons (.sl 4 [] s6 0 p2) (.cons (.sl 5 [] s6 0 p3) (.cons (.sl 6 [] s6 0 p4) (.dv .nil)))))))),(.rowI .u8 p5),(.rowI .u8 p6),(.rowI .u8 p7),(.rowI .u8 p8)]):=by
 refine fb Tryz.func43 ?_ (by rcases i9 with _|_<;>rfl)
 unfold My at h
 obtain ⟨r83,c,h⟩:=j5 h
 rcases r83 with x68|⟨⟩
 ·refine cl [] [3] (U6 c) ?_
  refine .inl ?_
  refine .inl ?_
  refine And.intro (by omega) ?_
  refine ⟨0,32,⟨rfl,rfl⟩,?_⟩
  refine m7 h ?_
  intro x69 h
  refine m7 h ?_
  intro x70 h
  obtain ⟨x71,c,h⟩:=j5 h
  refine cl [] [4] (N3 c) ?_
  refine .inl ?_
  obtain ⟨x72,c,h⟩:=j5 h
  refine cl [] [5] (N3 c) ?_
  refine .inl ?_
  obtain ⟨⟨x73,x74⟩,c,h⟩:=j5 h
  refine cl [] [6] (R6 c) ?_
  refine .inl ?_
  obtain ⟨⟨x75,x76⟩,c,h⟩:=j5 h
  refine cl [] [7] (R6 c) ?_
  refine .inl ?_
  refine .inr ?_
  obtain rfl:=e8 h
  exact ⟨0,[],[],mt⟩
 ·refine cl [] [] (U6 c) ?_
  refine .inl ?_
  refine And.intro (by omega) ?_
  refine ⟨0,32,⟨rfl,rfl⟩,?_⟩
  refine m7 h ?_
  intro x77 h
  obtain ⟨x78,c,h⟩:=j5 h
  refine cl [] [3] (N3 c) ?_
  refine .inl ?_
  obtain ⟨x79,c,h⟩:=j5 h
  refine cl [] [4] (N3 c) ?_
  refine .inl ?_
  obtain ⟨⟨x80,x81⟩,c,h⟩:=j5 h
  refine cl [] [5] (R6 c) ?_
  refine .inl ?_
  obtain ⟨⟨x82,x83⟩,c,h⟩:=j5 h
  refine cl [] [6] (R6 c) ?_
  refine .inl ?_
  refine .inr ?_
  obtain rfl:=e8 h
  exact ⟨0,[],[],mt⟩
theorem Sg {x84 x85 x86 x87 i9} (h:Lg x84 x85 x86 x87=some i9) :
  FB er 43 [(.dv (.ints .u8 32 x84)),(.dv (.roI .u8 x85)),(.dv (.roI .u8 x86)),(.sl 0 [] s6 0 (List.length x87))] [(.rowI .u8 x87)] (match i9 with|(Sum.inl (p0,p1,p2,p3,p4,p5,p6,p7,p8))=>[9,5,6,7,8]|(Sum.inr (p0,p1,p2,p3,p4,p5,p6,p7,p8))=>[8,4,5,6,7]) (match i9 with|(Sum.inl (p0,p1,p2,p3,p4,p5,p6,p7,p8))=>(.tup [(.dv (.ints .u8 32 p0)),(.vs 9 0 6),(.dv (.sc .nilIface))])|(Sum.inr (p0,p1,p2,p3,p4,p5,p6,p7,p8))=>(.tup [(.dv (.ints .u8 32 p0)),(.vs 8 0 6),(Pe er 4)])) (match i9 with|(Sum.inl (p0,p1,p2,p3,p4,p5,p6,p7,p8))=>[(.rowI .u8 x87),(.var (.cons (.dv (.roI .u8 x86)) (.cons (.sl 5 [] s6 0 p1) (.cons (.sl 0 [] s6 0 (List.length x87)) (.cons (.sl 6 [] s6 0 p2) (.cons (.sl 7 [] s6 0 p3) (.cons (.sl 8 [] s6 0 p4) (.dv .nil)))))))),(.rowI .u8 p5),(.rowI .u8 p6),(.rowI .u8 p7),(.rowI .u8 p8)]|(Sum.inr (p0,p1,p2,p3,p4,p5,p6,p7,p8))=>[(.rowI .u8 x87),(.var (.cons (.dv (.roI .u8 x86)) (.cons (.sl 4 [] s6 0 p1) (.cons (.sl 0 [] s6 0 (List.length x87)) (.cons (.sl 5 [] s6 0 p2) (.cons (.sl 6 [] s6 0 p3) (.cons (.sl 7 [] s6 0 p4) (.dv .nil)))))))),(.rowI .u8 p5),(.rowI .u8 p6),(.rowI .u8 p7),(.rowI .u8 p8)]):=by
 refine fb Tryz.func43 ?_ (by rcases i9 with _|_<;>rfl)
 unfold Lg at h
 obtain ⟨r103,c,h⟩:=j5 h
 rcases r103 with x88|⟨⟩
 ·refine cl [] [4] (U6 c) ?_
  refine .inl ?_
  refine .inl ?_
  refine And.intro (by omega) ?_
  refine ⟨0,32,⟨rfl,rfl⟩,?_⟩
  refine m7 h ?_
  intro x89 h
  refine m7 h ?_
  intro x90 h
  obtain ⟨x91,c,h⟩:=j5 h
  refine cl [] [5] (N3 c) ?_
  refine .inl ?_
  obtain ⟨x92,c,h⟩:=j5 h
  refine cl [true] [6] (N3 c) ?_ (hv:=⟨u9 _ _,trivial⟩)
  refine .inl ?_
  obtain ⟨⟨x93,x94⟩,c,h⟩:=j5 h
  refine cl [] [7] (R6 c) ?_
  refine .inl ?_
  obtain ⟨⟨x95,x96⟩,c,h⟩:=j5 h
  refine cl [true] [8] (R6 c) ?_ (hv:=⟨u9 _ _,trivial⟩)
  refine .inl ?_
  refine .inr ?_
  obtain rfl:=e8 h
  exact ⟨0,[],[],mt⟩
 ·refine cl [] [] (U6 c) ?_
  refine .inl ?_
  refine And.intro (by omega) ?_
  refine ⟨0,32,⟨rfl,rfl⟩,?_⟩
  refine m7 h ?_
  intro x97 h
  obtain ⟨x98,c,h⟩:=j5 h
  refine cl [] [4] (N3 c) ?_
  refine .inl ?_
  obtain ⟨x99,c,h⟩:=j5 h
  refine cl [true] [5] (N3 c) ?_ (hv:=⟨u9 _ _,trivial⟩)
  refine .inl ?_
  obtain ⟨⟨x100,x101⟩,c,h⟩:=j5 h
  refine cl [] [6] (R6 c) ?_
  refine .inl ?_
  obtain ⟨⟨x102,x103⟩,c,h⟩:=j5 h
  refine cl [true] [7] (R6 c) ?_ (hv:=⟨u9 _ _,trivial⟩)
  refine .inl ?_
  refine .inr ?_
  obtain rfl:=e8 h
  exact ⟨0,[],[],mt⟩
theorem Jv {x129 i9} (h:H3 x129=some i9) :
  FB er 71 [(.dv (.roI .u8 x129))] [] [] (.dv (.ints .u64 5 i9)) []:=by
 refine fb Tryz.func71 ?_
 unfold H3 at h
 refine dc ?_
 refine .inl ?_
 refine ⟨(List.replicate 32 (0:Int)),rfl,0,(List.length (List.replicate 32 (0:Int))),⟨rfl,List.length_replicate ..⟩,?_⟩
 refine .inl ?_
 refine ⟨(T9 (List.replicate 32 (0:Int)) 0 (List.take (List.length (List.replicate 32 (0:Int))) x129)),rfl,?_⟩
 refine m7 h ?_
 intro x130 h
 refine m7 h ?_
 intro x131 h
 obtain ⟨x132,g,h⟩:=j5 h
 refine .inr ⟨[12],_,fj (fun x132=>([],[(2,(.var (.dv (.ints .u64 5 x132))))])) x132,0,?_,?_⟩
 ·rintro ⟨x132,rfl⟩
  obtain rfl:=e8 h
  exact ⟨0,[],[],mt⟩
 ·replace h:=g
  refine .inl ?_
  refine ⟨[12],_,fl (β:=Nat×Int×(List Int)) (fun (n1,x133,x134)=>(M1 x130 n1 x133 x134=some x132,[(13,(.int .i64 x133))],[(2,(.var (.dv (.ints .u64 5 x134))))],n1)),[],[],⟨(f9,0,(List.replicate 5 (0:Int))),h⟩,mt,?_⟩
  rintro ⟨⟨_|n1,x133,x134⟩,h⟩
  ·exact i6 h
  replace h:=(M1.eq_2 x130 x133 x134 n1).symm.trans h
  refine v8 h (fun hb h => ?_) (fun hb h => ?_)
  ·refine .inl ?_
   obtain ⟨x135,g,h⟩:=j5 h
   refine .inr ⟨[],_,fj (fun x135=>([(7,(.int .u64 x135))],[])) x135,0,?_,?_⟩
   ·rintro ⟨x135,rfl⟩
    refine dc ?_
    refine m8 h fun hg h => ?_
    refine m7 h ?_
    intro x141 h
    refine m8 h fun hg h => ?_
    refine m7 h ?_
    intro x142 h
    exact ⟨⟨(n1,_,_),h⟩,[],mt,Nat.lt_succ_self _⟩
   ·replace h:=g
    refine .inl ?_
    refine ⟨[],_,fl (β:=Nat×Int×Int) (fun (n2,x136,x137)=>(Cl x130 x133 n2 x136 x137=some x135,[(7,(.int .u64 x136)),(8,(.int .i64 x137))],[],n2)),[],[],⟨(f9,0,4),h⟩,mt,?_⟩
    rintro ⟨⟨_|n2,x136,x137⟩,h⟩
    ·exact i6 h
    replace h:=(Cl.eq_2 x130 x133 x136 x137 n2).symm.trans h
    refine v8 h (fun hb h => ?_) (fun hb h => ?_)
    ·refine .inl ?_
     refine dc ?_
     refine dc ?_
     refine m7 h ?_
     intro x138 h
     refine m8 h fun hg h => ?_
     refine m7 h ?_
     intro x139 h
     refine m7 h ?_
     intro x140 h
     exact ⟨⟨(n2,_,_),h⟩,[],mt,Nat.lt_succ_self _⟩
    ·exact ⟨[],[],⟨_,e8 h⟩,[],mt⟩
  ·exact ⟨[],[],⟨_,e8 h⟩,[],mt⟩
theorem La {x125 i9} (h:I8 x125=some i9) :
  FB er 70 [(.dv (.ints .u8 32 x125))] [] [] (.dv (.ints .u64 5 i9)) []:=by
 refine fb Tryz.func70 ?_
 unfold I8 at h
 refine .inl ?_
 refine dc ?_
 refine dc ?_
 refine ⟨0,16,⟨rfl,rfl⟩,?_⟩
 obtain ⟨x126,c,h⟩:=j5 h
 refine cl [true] [2] (E7 c) ?_
 refine .inl ?_
 refine .inl ?_
 obtain ⟨x127,g,h⟩:=j5 h
 refine .inr ⟨[11],_,fj (fun x127=>([],[(2,(.rowI .u8 x127))])) x127,0,?_,?_⟩
 ·rintro ⟨x127,rfl⟩
  refine .inl ?_
  obtain ⟨x132,g,h⟩:=j5 h
  refine .inr ⟨[24],_,fj (fun x132=>([],[(2,(.rowI .u8 x132))])) x132,0,?_,?_⟩
  ·rintro ⟨x132,rfl⟩
   obtain ⟨x137,c,h⟩:=j5 h
   refine cl [true] [] (Jv c) ?_
   obtain rfl:=e8 h
   exact ⟨0,[],[],mt⟩
  ·replace h:=g
   refine .inl ?_
   refine ⟨[],_,fl (β:=Nat×Int×(List Int)) (fun (n2,x133,x134)=>(Y0 x126 n2 x133 x134=some x132,[(25,(.int .i64 x133))],[(2,(.rowI .u8 x134))],n2)),[],[],⟨(f9,0,x127),h⟩,mt,?_⟩
   rintro ⟨⟨_|n2,x133,x134⟩,h⟩
   ·exact i6 h
   replace h:=(Y0.eq_2 x126 x133 x134 n2).symm.trans h
   refine v8 h (fun hb h => ?_) (fun hb h => ?_)
   ·refine .inl ?_
    refine m8 h fun hg h => ?_
    refine m8 h fun hg h => ?_
    refine m7 h ?_
    intro x135 h
    refine m8 h fun hg h => ?_
    refine m7 h ?_
    intro x136 h
    exact ⟨⟨(n2,_,_),h⟩,[],mt,Nat.lt_succ_self _⟩
   ·exact ⟨[],[],⟨_,e8 h⟩,[],mt⟩
 ·replace h:=g
  refine .inl ?_
  refine ⟨[],_,fl (β:=Nat×Int×(List Int)) (fun (n1,x128,x129)=>(X9 x126 n1 x128 x129=some x127,[(12,(.int .i64 x128))],[(2,(.rowI .u8 x129))],n1)),[],[],⟨(f9,0,x126),h⟩,mt,?_⟩
  rintro ⟨⟨_|n1,x128,x129⟩,h⟩
  ·exact i6 h
  replace h:=(X9.eq_2 x126 x128 x129 n1).symm.trans h
  refine v8 h (fun hb h => ?_) (fun hb h => ?_)
  ·refine .inl ?_
   refine m8 h fun hg h => ?_
   refine m8 h fun hg h => ?_
   refine m7 h ?_
   intro x130 h
   refine m8 h fun hg h => ?_
   refine m7 h ?_
   intro x131 h
   exact ⟨⟨(n1,_,_),h⟩,[],mt,Nat.lt_succ_self _⟩
  ·exact ⟨[],[],⟨_,e8 h⟩,[],mt⟩
theorem Ih {x139 x140 x141 x142 x143 x144 x145 x146 x147 x148 x149 i9} (h:D4 x139 x140 x141 x142 x143 x144 x145 x146 x147 x148 x149=some i9) :
  FB er 30 [(.vs 0 0 6)] [(.var (.cons (.dv (.roI .u8 x139)) (.cons (.sl 1 [] s6 0 x140) (.cons (.sl 2 [] s6 0 x141) (.cons (.sl 3 [] s6 0 x142) (.cons (.sl 4 [] s6 0 x143) (.cons (.sl 5 [] s6 0 x144) (.dv .nil)))))))),(.rowI .u8 x145),(.rowI .u8 x146),(.rowI .u8 x147),(.rowI .u8 x148),(.rowI .u8 x149)] [7] (.sl 7 [] s6 0 (List.length i9)) [(.var (.cons (.dv (.roI .u8 x139)) (.cons (.sl 1 [] s6 0 x140) (.cons (.sl 2 [] s6 0 x141) (.cons (.sl 3 [] s6 0 x142) (.cons (.sl 4 [] s6 0 x143) (.cons (.sl 5 [] s6 0 x144) (.dv .nil)))))))),(.rowI .u8 x145),(.rowI .u8 x146),(.rowI .u8 x147),(.rowI .u8 x148),(.rowI .u8 x149),(.rowI .u8 i9)]:=by
 refine fb Tryz.func30 ?_
 unfold D4 at h
 obtain ⟨x150,g,h⟩:=j5 h
 refine .inr ⟨[10],_,fj (fun x150=>([(3,(.int .i64 x150))],[])) x150,0,?_,?_⟩
 ·rintro ⟨x150,rfl⟩
  obtain ⟨⟨x155,x156⟩,c,h⟩:=j5 h
  refine cl [] [6] (z0 c) ?_
  refine .inl ?_
  obtain ⟨x157,g,h⟩:=j5 h
  refine .inr ⟨[24,26],_,fj (fun x157=>([(6,(.sl 7 [] s6 0 (List.length x157)))],[(6,.dead),(7,(.rowI .u8 x157))])) x157,1,?_,?_⟩
  ·rintro ⟨x157,rfl⟩
   obtain rfl:=e8 h
   exact ⟨0,[],[],mt⟩
  ·replace h:=g
   refine .inr ⟨30,?_⟩
   refine And.intro (fun _ => ?_) (fun h0=>Bool.noConfusion h0)
   refine .inl ?_
   refine dc ?_
   obtain ⟨hg,h⟩:=gd h
   refine And.intro (hg) ?_
   obtain ⟨hg2,h⟩:=gd h
   refine ⟨((List.take x155 x156)++x139),m5 (C8 _ _) (rfl),0,(List.length ((List.take x155 x156)++x139)),⟨rfl,Dw hg2 (rfl)⟩,?_⟩
   refine .inl ?_
   refine And.intro (fun _ => ?_) (fun h0=>Bool.noConfusion h0)
   refine .inl ?_
   refine dc ?_
   obtain ⟨hg,h⟩:=gd h
   refine And.intro (j9 (F2 _ _) hg) ?_
   refine ⟨(((List.take x155 x156)++x139)++(List.take x140 x145)),m5 (i7 _) (C8 _ _),0,(List.length (((List.take x155 x156)++x139)++(List.take x140 x145))),⟨rfl,r7 (F2 _ _)⟩,?_⟩
   refine .inl ?_
   refine And.intro (fun _ => ?_) (fun h0=>Bool.noConfusion h0)
   refine .inl ?_
   refine dc ?_
   obtain ⟨hg,h⟩:=gd h
   refine And.intro (j9 (F2 _ _) hg) ?_
   refine ⟨((((List.take x155 x156)++x139)++(List.take x140 x145))++(List.take x141 x146)),m5 (i7 _) (C8 _ _),0,(List.length ((((List.take x155 x156)++x139)++(List.take x140 x145))++(List.take x141 x146))),⟨rfl,r7 (F2 _ _)⟩,?_⟩
   refine .inl ?_
   refine m7 h ?_
   intro x158 h
   refine And.intro (fun _ => ?_) (fun h0=>Bool.noConfusion h0)
   refine .inl ?_
   refine dc ?_
   obtain ⟨hg,h⟩:=gd h
   refine And.intro (j9 (F2 _ _) hg) ?_
   refine ⟨(x158++(List.take x142 x147)),m5 (i7 _) (C8 _ _),0,(List.length (x158++(List.take x142 x147))),⟨rfl,r7 (F2 _ _)⟩,?_⟩
   refine .inl ?_
   refine And.intro (fun _ => ?_) (fun h0=>Bool.noConfusion h0)
   refine .inl ?_
   refine dc ?_
   obtain ⟨hg,h⟩:=gd h
   refine And.intro (j9 (F2 _ _) hg) ?_
   refine ⟨((x158++(List.take x142 x147))++(List.take x143 x148)),m5 (i7 _) (C8 _ _),0,(List.length ((x158++(List.take x142 x147))++(List.take x143 x148))),⟨rfl,r7 (F2 _ _)⟩,?_⟩
   refine .inl ?_
   refine And.intro (fun _ => ?_) (fun h0=>Bool.noConfusion h0)
   refine .inl ?_
   refine dc ?_
   obtain ⟨hg,h⟩:=gd h
   refine And.intro (j9 (F2 _ _) hg) ?_
   refine ⟨(((x158++(List.take x142 x147))++(List.take x143 x148))++(List.take x144 x149)),m5 (i7 _) (C8 _ _),0,(List.length (((x158++(List.take x142 x147))++(List.take x143 x148))++(List.take x144 x149))),⟨rfl,r7 (F2 _ _)⟩,?_⟩
   refine .inl ?_
   refine m7 h ?_
   intro x159 h
   refine And.intro (fun h0=>Bool.noConfusion h0) (fun _ => ?_)
   exact ⟨[],[],⟨_,e8 h⟩,[(7,12)],mt⟩
 ·replace h:=g
  refine .inr ⟨30,?_⟩
  refine And.intro (fun _ => ?_) (fun h0=>Bool.noConfusion h0)
  refine .inl ?_
  refine dc ?_
  refine m7 h ?_
  intro x151 h
  refine .inl ?_
  refine v8 h (fun hb h => ?_) (fun hb h => ?_)
  ·exact i6 h
  ·refine And.intro (fun _ => ?_) (fun h0=>Bool.noConfusion h0)
   refine .inl ?_
   refine dc ?_
   refine m7 h ?_
   intro x152 h
   refine .inl ?_
   refine v8 h (fun hb h => ?_) (fun hb h => ?_)
   ·exact i6 h
   ·refine And.intro (fun _ => ?_) (fun h0=>Bool.noConfusion h0)
    refine .inl ?_
    refine dc ?_
    refine .inl ?_
    refine v8 h (fun hb h => ?_) (fun hb h => ?_)
    ·exact i6 h
    ·refine And.intro (fun _ => ?_) (fun h0=>Bool.noConfusion h0)
     refine .inl ?_
     refine dc ?_
     refine m7 h ?_
     intro x153 h
     refine .inl ?_
     refine v8 h (fun hb h => ?_) (fun hb h => ?_)
     ·exact i6 h
     ·refine And.intro (fun _ => ?_) (fun h0=>Bool.noConfusion h0)
      refine .inl ?_
      refine dc ?_
      refine .inl ?_
      refine v8 h (fun hb h => ?_) (fun hb h => ?_)
      ·exact i6 h
      ·refine And.intro (fun _ => ?_) (fun h0=>Bool.noConfusion h0)
       refine .inl ?_
       refine dc ?_
       refine m7 h ?_
       intro x154 h
       refine .inl ?_
       refine v8 h (fun hb h => ?_) (fun hb h => ?_)
       ·exact i6 h
       ·refine And.intro (fun h0=>Bool.noConfusion h0) (fun _ => ?_)
        exact ⟨[],[],⟨_,e8 h⟩,[],mt⟩
theorem Aj {x161 x162 i9} (h:B5 x161 x162=some i9) :
  FB er 65 [(.sl 0 [] s6 0 (List.length x162)),(.int .i64 x161)] [(.rowI .u8 x162)] [1,2] (.fn 104 [(.ptr 1 [] Sm),(.ptr 2 [] Ls)]) [(.rowI .u8 x162),(.var (.sl 0 [] s6 0 (List.length x162))),(.var (.int .i64 x161))]:=by
 refine fb Tryz.func65 ?_
 unfold B5 at h
 refine .inl ?_
 refine v8 h (fun hb h => ?_) (fun hb h => ?_)
 ·exact i6 h
 ·obtain rfl:=e8 h
  exact ⟨0,[],[],mt⟩
theorem S4 {x171 i9} (h:z8 x171=some i9) :
  FB er 108 [(.ptr 0 [] j18)] [(.var (.dv (.ints .u64 5 x171)))] [] (.tup []) [(.var (.dv (.ints .u64 5 i9)))]:=by
 refine fb Tryz.func108 ?_
 unfold z8 at h
 obtain ⟨x172,g,h⟩:=j5 h
 refine .inr ⟨[0],_,fj (fun x172=>([],[(0,(.var (.dv (.ints .u64 5 x172))))])) x172,0,?_,?_⟩
 ·rintro ⟨x172,rfl⟩
  obtain rfl:=e8 h
  exact ⟨0,[],[],mt⟩
 ·replace h:=g
  refine .inl ?_
  refine ⟨[],_,fl (β:=Nat×Int×(List Int)) (fun (n1,x173,x174)=>(J4 n1 x173 x174=some x172,[(4,(.int .i64 x173))],[(0,(.var (.dv (.ints .u64 5 x174))))],n1)),[],[],⟨(f9,0,x171),h⟩,mt,?_⟩
  rintro ⟨⟨_|n1,x173,x174⟩,h⟩
  ·exact i6 h
  replace h:=(J4.eq_2 x173 x174 n1).symm.trans h
  refine v8 h (fun hb h => ?_) (fun hb h => ?_)
  ·refine .inl ?_
   obtain ⟨⟨x175,x176⟩,g,h⟩:=j5 h
   refine .inr ⟨[],_,fj (fun (x175,x176)=>([(2,(.int .u64 x175))],[(0,(.var (.dv (.ints .u64 5 x176))))])) (x175,x176),0,?_,?_⟩
   ·rintro ⟨_,rfl⟩
    refine dc ?_
    refine m7 h ?_
    intro x184 h
    refine dc ?_
    exact ⟨⟨(n1,_,_),h⟩,[],mt,Nat.lt_succ_self _⟩
   ·replace h:=g
    refine .inl ?_
    refine ⟨[],_,fl (β:=Nat×Int×Int×(List Int)) (fun (n2,x177,x178,x179)=>(J3 n2 x177 x178 x179=some (x175,x176),[(2,(.int .u64 x177)),(6,(.int .i64 x178))],[(0,(.var (.dv (.ints .u64 5 x179))))],n2)),[],[],⟨(f9,0,0,x174),h⟩,mt,?_⟩
    rintro ⟨⟨_|n2,x177,x178,x179⟩,h⟩
    ·exact i6 h
    replace h:=(J3.eq_2 x177 x178 x179 n2).symm.trans h
    refine v8 h (fun hb h => ?_) (fun hb h => ?_)
    ·refine .inl ?_
     refine m8 h fun hg h => ?_
     refine m7 h ?_
     intro x180 h
     refine m8 h fun hg h => ?_
     refine m8 h fun hg h => ?_
     refine m7 h ?_
     intro x181 h
     refine dc ?_
     refine m8 h fun hg h => ?_
     refine m7 h ?_
     intro x182 h
     refine m8 h fun hg h => ?_
     refine m7 h ?_
     intro x183 h
     exact ⟨⟨(n2,_,_,_),h⟩,[],mt,Nat.lt_succ_self _⟩
    ·exact ⟨[],[],⟨_,e8 h⟩,[],mt⟩
  ·exact ⟨[],[],⟨_,e8 h⟩,[],mt⟩
theorem Pc {x167 x168 i9} (h:S7 x167 x168=some i9) :
  FB er 73 [(.dv (.ints .u64 5 x167)),(.dv (.ints .u64 5 x168))] [] [] (.dv (.ints .u64 5 i9)) []:=by
 refine fb Tryz.func73 ?_
 unfold S7 at h
 obtain ⟨x169,g,h⟩:=j5 h
 refine .inr ⟨[3,11],_,fj (fun x169=>([],[(3,(.var (.dv (.ints .u64 5 x169))))])) x169,0,?_,?_⟩
 ·rintro ⟨x169,rfl⟩
  obtain ⟨x179,c,h⟩:=j5 h
  refine cl [] [3] (S4 c) ?_
  obtain rfl:=e8 h
  exact ⟨0,[],[],mt⟩
 ·replace h:=g
  refine .inl ?_
  refine ⟨[],_,fl (β:=Nat×Int×(List Int)) (fun (n1,x170,x171)=>(V2 x167 x168 n1 x170 x171=some x169,[(12,(.int .i64 x170))],[(3,(.var (.dv (.ints .u64 5 x171))))],n1)),[],[],⟨(f9,0,(List.replicate 5 (0:Int))),h⟩,mt,?_⟩
  rintro ⟨⟨_|n1,x170,x171⟩,h⟩
  ·exact i6 h
  replace h:=(V2.eq_2 x167 x168 x170 x171 n1).symm.trans h
  refine v8 h (fun hb h => ?_) (fun hb h => ?_)
  ·refine .inl ?_
   refine m8 h fun hg h => ?_
   obtain ⟨x172,g,h⟩:=j5 h
   refine .inr ⟨[6,7,16],_,fj (fun x172=>([],[(3,(.var (.dv (.ints .u64 5 x172))))])) x172,0,?_,?_⟩
   ·rintro ⟨x172,rfl⟩
    exact ⟨⟨(n1,_,_),h⟩,[],mt,Nat.lt_succ_self _⟩
   ·replace h:=g
    refine .inl ?_
    refine ⟨[],_,fl (β:=Nat×Int×(List Int)) (fun (n2,x173,x174)=>(Bd x167 x168 x170 n2 x173 x174=some x172,[(17,(.int .i64 x173))],[(3,(.var (.dv (.ints .u64 5 x174))))],n2)),[],[],⟨(f9,0,x171),h⟩,mt,?_⟩
    rintro ⟨⟨_|n2,x173,x174⟩,h⟩
    ·exact i6 h
    replace h:=(Bd.eq_2 x167 x168 x170 x173 x174 n2).symm.trans h
    refine v8 h (fun hb h => ?_) (fun hb h => ?_)
    ·refine .inl ?_
     refine m8 h fun hg h => ?_
     refine m7 h ?_
     intro x175 h
     obtain ⟨x176,g,h⟩:=j5 h
     refine .inr ⟨[],_,fj (fun x176=>([(10,(.int .u64 x176))],[])) x176,0,?_,?_⟩
     ·rintro ⟨x176,rfl⟩
      refine dc ?_
      refine m8 h fun hg h => ?_
      refine m7 h ?_
      intro x177 h
      refine m8 h fun hg h => ?_
      refine m7 h ?_
      intro x178 h
      exact ⟨⟨(n2,_,_),h⟩,[],mt,Nat.lt_succ_self _⟩
     ·replace h:=g
      refine v8 h (fun hb h => ?_) (fun hb h => ?_)
      ·exact ⟨[],[],⟨_,e8 h⟩,[],mt⟩
      ·exact ⟨[],[],⟨_,e8 h⟩,[],mt⟩
    ·exact ⟨[],[],⟨_,e8 h⟩,[],mt⟩
  ·exact ⟨[],[],⟨_,e8 h⟩,[],mt⟩
theorem Ej {x164 i9} (h:z9 x164=some i9) :
  FB er 74 [(.dv (.ints .u64 5 x164))] [] [] (.dv (.ints .u64 5 i9)) []:=by
 refine fb Tryz.func74 ?_
 unfold z9 at h
 obtain ⟨x165,c,h⟩:=j5 h
 refine cl [] [0] (S4 c) ?_
 obtain ⟨x166,c,h⟩:=j5 h
 refine cl [] [0] (S4 c) ?_
 refine dc ?_
 refine dc ?_
 refine m7 h ?_
 intro x167 h
 obtain ⟨x168,g,h⟩:=j5 h
 refine .inr ⟨[7,8],_,fj (fun x168=>([],[(2,(.var (.dv (.ints .u64 5 x168))))])) x168,0,?_,?_⟩
 ·rintro ⟨x168,rfl⟩
  refine dc ?_
  refine dc ?_
  refine dc ?_
  refine dc ?_
  refine m7 h ?_
  intro x175 h
  obtain ⟨x176,g,h⟩:=j5 h
  refine .inr ⟨[5],_,fj (fun x176=>([],[(0,(.var (.dv (.ints .u64 5 x176))))])) x176,0,?_,?_⟩
  ·rintro ⟨x176,rfl⟩
   obtain rfl:=e8 h
   exact ⟨0,[],[],mt⟩
  ·replace h:=g
   refine .inl ?_
   refine ⟨[],_,fl (β:=Nat×Int×(List Int)) (fun (n2,x177,x178)=>(A6 x168 x175 n2 x177 x178=some x176,[(41,(.int .i64 x177))],[(0,(.var (.dv (.ints .u64 5 x178))))],n2)),[],[],⟨(f9,0,x166),h⟩,mt,?_⟩
   rintro ⟨⟨_|n2,x177,x178⟩,h⟩
   ·exact i6 h
   replace h:=(A6.eq_2 x168 x175 x177 x178 n2).symm.trans h
   refine v8 h (fun hb h => ?_) (fun hb h => ?_)
   ·refine .inl ?_
    refine m8 h fun hg h => ?_
    refine m8 h fun hg h => ?_
    obtain ⟨x179,c,h⟩:=j5 h
    refine cl [] [] (Vz c) ?_
    refine m8 h fun hg h => ?_
    exact ⟨⟨(n2,_,_),h⟩,[],mt,Nat.lt_succ_self _⟩
   ·exact ⟨[],[],⟨_,e8 h⟩,[],mt⟩
 ·replace h:=g
  refine .inl ?_
  refine ⟨[7,8],_,fl (β:=Nat×Int×(List Int)) (fun (n1,x169,x170)=>(C4 n1 x169 x170=some x168,[(14,(.int .i64 x169))],[(2,(.var (.dv (.ints .u64 5 x170))))],n1)),[],[],⟨(f9,0,x167),h⟩,mt,?_⟩
  rintro ⟨⟨_|n1,x169,x170⟩,h⟩
  ·exact i6 h
  replace h:=(C4.eq_2 x169 x170 n1).symm.trans h
  refine v8 h (fun hb h => ?_) (fun hb h => ?_)
  ·refine .inl ?_
   refine m8 h fun hg h => ?_
   refine m7 h ?_
   intro x171 h
   refine m8 h fun hg h => ?_
   refine dc ?_
   refine m7 h ?_
   intro x172 h
   refine m8 h fun hg h => ?_
   refine m7 h ?_
   intro x173 h
   refine m8 h fun hg h => ?_
   refine m7 h ?_
   intro x174 h
   refine m8 h fun hg h => ?_
   exact ⟨⟨(n1,_,_),h⟩,[],mt,Nat.lt_succ_self _⟩
  ·exact ⟨[],[],⟨_,e8 h⟩,[],mt⟩
theorem Gs {x181 i9} (h:A2 x181=some i9) :
  FB er 75 [(.dv (.ints .u64 5 x181))] [] [] (.dv (.ints .u8 16 i9)) []:=by
 refine fb Tryz.func75 ?_
 unfold A2 at h
 obtain ⟨x182,g,h⟩:=j5 h
 refine .inr ⟨[1],_,fj (fun x182=>([],[(2,(.var (.dv (.ints .u8 16 x182))))])) x182,0,?_,?_⟩
 ·rintro ⟨x182,rfl⟩
  obtain rfl:=e8 h
  exact ⟨0,[],[],mt⟩
 ·replace h:=g
  refine .inl ?_
  refine ⟨[],_,fl (β:=Nat×Int×(List Int)) (fun (n1,x183,x184)=>(y8 x181 n1 x183 x184=some x182,[(8,(.int .i64 x183))],[(2,(.var (.dv (.ints .u8 16 x184))))],n1)),[],[],⟨(f9,0,(List.replicate 16 (0:Int))),h⟩,mt,?_⟩
  rintro ⟨⟨_|n1,x183,x184⟩,h⟩
  ·exact i6 h
  replace h:=(y8.eq_2 x181 x183 x184 n1).symm.trans h
  refine v8 h (fun hb h => ?_) (fun hb h => ?_)
  ·refine .inl ?_
   obtain ⟨x185,g,h⟩:=j5 h
   refine .inr ⟨[],_,fj (fun x185=>([(5,(.int .u64 x185))],[])) x185,0,?_,?_⟩
   ·rintro ⟨x185,rfl⟩
    refine m8 h fun hg h => ?_
    exact ⟨⟨(n1,_,_),h⟩,[],mt,Nat.lt_succ_self _⟩
   ·replace h:=g
    refine .inl ?_
    refine ⟨[],_,fl (β:=Nat×Int×Int) (fun (n2,x186,x187)=>(C2 x181 x183 n2 x186 x187=some x185,[(5,(.int .u64 x186)),(11,(.int .i64 x187))],[],n2)),[],[],⟨(f9,0,0),h⟩,mt,?_⟩
    rintro ⟨⟨_|n2,x186,x187⟩,h⟩
    ·exact i6 h
    replace h:=(C2.eq_2 x181 x183 x186 x187 n2).symm.trans h
    refine v8 h (fun hb h => ?_) (fun hb h => ?_)
    ·refine .inl ?_
     refine dc ?_
     refine m7 h ?_
     intro x188 h
     refine m8 h fun hg h => ?_
     refine dc ?_
     refine m7 h ?_
     intro x189 h
     refine m8 h fun hg h => ?_
     refine m7 h ?_
     intro x190 h
     refine m8 h fun hg h => ?_
     refine m7 h ?_
     intro x191 h
     exact ⟨⟨(n2,_,_),h⟩,[],mt,Nat.lt_succ_self _⟩
    ·exact ⟨[],[],⟨_,e8 h⟩,[],mt⟩
  ·exact ⟨[],[],⟨_,e8 h⟩,[],mt⟩
theorem b98 {x113 x114 x115 x116 x117 x118 x119 x120 x121 x122 x123 x124 i9} (h:Gu x113 x114 x115 x116 x117 x118 x119 x120 x121 x122 x123 x124=some i9) :
  FB er 44 [(.dv (.ints .u8 32 x113)),(.vs 0 0 6)] [(.var (.cons (.dv (.roI .u8 x114)) (.cons (.sl 1 [] s6 0 x115) (.cons (.sl 2 [] s6 0 x116) (.cons (.sl 3 [] s6 0 x117) (.cons (.sl 4 [] s6 0 x118) (.cons (.sl 5 [] s6 0 x119) (.dv .nil)))))))),(.rowI .u8 x120),(.rowI .u8 x121),(.rowI .u8 x122),(.rowI .u8 x123),(.rowI .u8 x124)] [] (.dv (.ints .u8 16 i9)) [(.var (.cons (.dv (.roI .u8 x114)) (.cons (.sl 1 [] s6 0 x115) (.cons (.sl 2 [] s6 0 x116) (.cons (.sl 3 [] s6 0 x117) (.cons (.sl 4 [] s6 0 x118) (.cons (.sl 5 [] s6 0 x119) (.dv .nil)))))))),(.rowI .u8 x120),(.rowI .u8 x121),(.rowI .u8 x122),(.rowI .u8 x123),(.rowI .u8 x124)]:=by
 refine fb Tryz.func44 ?_
 unfold Gu at h
 obtain ⟨x125,c,h⟩:=j5 h
 refine cl [] [] (La c) ?_
 obtain ⟨x126,c,h⟩:=j5 h
 refine cl [] [0,1,2,3,4,5,10] (Ih c) ?_
 refine .inl ?_
 obtain ⟨r147,c,h⟩:=j5 h
 refine cl [] [10,11,12] (Aj c) ?_
 obtain ⟨x127,g,h⟩:=j5 h
 refine .inr ⟨[17],_,fj (fun x127=>([],[(9,(.var (.dv (.ints .u64 5 x127))))])) x127,0,?_,?_⟩
 ·rintro ⟨x127,rfl⟩
  obtain ⟨x139,c,h⟩:=j5 h
  refine cl [] [] (Ej c) ?_
  obtain ⟨x140,c,h⟩:=j5 h
  refine cl [] [] (Gs c) ?_
  obtain ⟨x141,g,h⟩:=j5 h
  refine .inr ⟨[],_,fj (fun x141=>([],[(13,(.var (.dv (.ints .u8 16 x141))))])) x141,0,?_,?_⟩
  ·rintro ⟨x141,rfl⟩
   obtain rfl:=e8 h
   exact ⟨0,[],[],mt⟩
  ·replace h:=g
   refine .inl ?_
   refine ⟨[],_,fl (β:=Nat×Int×Int×(List Int)) (fun (n3,x142,x143,x144)=>(B4 x113 n3 x142 x143 x144=some x141,[(11,(.int .i64 x142)),(42,(.int .i64 x143))],[(13,(.var (.dv (.ints .u8 16 x144))))],n3)),[],[],⟨(f9,0,0,x140),h⟩,mt,?_⟩
   rintro ⟨⟨_|n3,x142,x143,x144⟩,h⟩
   ·exact i6 h
   replace h:=(B4.eq_2 x113 x142 x143 x144 n3).symm.trans h
   refine v8 h (fun hb h => ?_) (fun hb h => ?_)
   ·refine .inl ?_
    refine m8 h fun hg h => ?_
    refine m8 h fun hg h => ?_
    refine m7 h ?_
    intro x145 h
    refine m7 h ?_
    intro x146 h
    refine m8 h fun hg h => ?_
    refine m7 h ?_
    intro x147 h
    refine dc ?_
    exact ⟨⟨(n3,_,_,_),h⟩,[],mt,Nat.lt_succ_self _⟩
   ·exact ⟨[],[],⟨_,e8 h⟩,[],mt⟩
 ·replace h:=g
  intro L3
  refine ⟨Tryz.f104,_,⟨Tryz.func104,rfl,rfl,rfl⟩,?_⟩
  obtain ⟨x128,g,h⟩:=j5 h
  refine .inr ⟨[0,1,2],_,fj (fun x128=>([],[(9,(.var (.dv (.ints .u64 5 x128))))])) x128,0,?_,?_⟩
  ·rintro ⟨x128,rfl⟩
   exact ⟨[],[],⟨_,e8 h⟩,[],mt⟩
  ·replace h:=g
   refine .inl ?_
   refine ⟨[],_,fl (β:=Nat×Int×(List Int)) (fun (n1,x129,x130)=>(C6 x125 x126 n1 x129 x130=some x128,[(4,(.int .i64 x129))],[(9,(.var (.dv (.ints .u64 5 x130))))],n1)),[],[],⟨(f9,0,(List.replicate 5 (0:Int))),h⟩,mt,?_⟩
   rintro ⟨⟨_|n1,x129,x130⟩,h⟩
   ·exact i6 h
   replace h:=(C6.eq_2 x125 x126 x129 x130 n1).symm.trans h
   refine v8 h (fun hb h => ?_) (fun hb h => ?_)
   ·refine .inl ?_
    refine m8 h fun hg h => ?_
    refine ⟨(Int.toNat x129),(Int.toNat (((List.length x126):Int)-x129)),⟨by simp,rfl⟩,?_⟩
    refine m7 h ?_
    intro x131 h
    refine m8 h fun hg h => ?_
    refine m8 h fun hg h => ?_
    refine ⟨(Int.toNat x129),(Int.toNat ((IntKind.wrap .i64 (x129+x131))-x129)),⟨by simp,rfl⟩,?_⟩
    refine ⟨rfl,?_⟩
    refine .inl ?_
    obtain ⟨x132,c,h⟩:=j5 h
    refine cl [true] [15] (E7 c) ?_
    refine .inl ?_
    refine .inl ?_
    obtain ⟨hg,h⟩:=gd h
    refine And.intro (j9 (o5 [1]) hg) ?_
    refine ⟨(x132++[1]),m5 (i7 _) (i7 [1]),0,(List.length (x132++[1])),⟨rfl,r7 (o5 [1])⟩,?_⟩
    refine .inl ?_
    obtain ⟨x133,c,h⟩:=j5 h
    refine cl [true] [] (Jv c) ?_ (hv:=⟨u9 _ _,trivial⟩)
    obtain ⟨x134,g,h⟩:=j5 h
    refine .inr ⟨[],_,fj (fun x134=>([],[(9,(.var (.dv (.ints .u64 5 x134))))])) x134,0,?_,?_⟩
    ·rintro ⟨x134,rfl⟩
     obtain ⟨x138,c,h⟩:=j5 h
     refine cl [] [] (Pc c) ?_
     exact ⟨⟨(n1,_,_),h⟩,[],mt,Nat.lt_succ_self _⟩
    ·replace h:=g
     refine .inl ?_
     refine ⟨[],_,fl (β:=Nat×Int×(List Int)) (fun (n2,x135,x136)=>(H4 x133 n2 x135 x136=some x134,[(24,(.int .i64 x135))],[(9,(.var (.dv (.ints .u64 5 x136))))],n2)),[],[],⟨(f9,0,x130),h⟩,mt,?_⟩
     rintro ⟨⟨_|n2,x135,x136⟩,h⟩
     ·exact i6 h
     replace h:=(H4.eq_2 x133 x135 x136 n2).symm.trans h
     refine v8 h (fun hb h => ?_) (fun hb h => ?_)
     ·refine .inl ?_
      refine m8 h fun hg h => ?_
      refine m8 h fun hg h => ?_
      refine m7 h ?_
      intro x137 h
      refine m8 h fun hg h => ?_
      exact ⟨⟨(n2,_,_),h⟩,[],mt,Nat.lt_succ_self _⟩
     ·exact ⟨[],[],⟨_,e8 h⟩,[],mt⟩
   ·exact ⟨[],[],⟨_,e8 h⟩,[],mt⟩
theorem Lb {x39 x40 x41 x42 i9} (h:Be x39 x40 x41 x42=some i9) :
  FB er 21 [(.dv (.ints .u8 32 x39)),(.dv (.roI .u8 x40)),(.dv (.roI .u8 x41)),(.dv (.roI .u8 x42))] [] (match i9 with|(Sum.inl p0)=>[9]|(Sum.inr p0)=>[]) (match i9 with|(Sum.inl p0)=>(.tup [(.sl 9 [] s6 0 (List.length p0)),(.dv (.sc .nilIface))])|(Sum.inr p0)=>(.tup [(.dv (.sc (.slice none 0 0))),(Pe er p0)])) (match i9 with|(Sum.inl p0)=>[(.rowI .u8 p0)]|(Sum.inr p0)=>[]):=by
 refine fb Tryz.func21 ?_ (by rcases i9 with _|_<;>rfl)
 unfold Be at h
 refine .inl ?_
 refine v8 h (fun hb h => ?_) (fun hb h => ?_)
 ·obtain rfl:=e8 h
  exact ⟨0,[],[],mt⟩
 ·refine v8 h (fun hb h => ?_) (fun hb h => ?_)
  ·obtain rfl:=e8 h
   exact ⟨0,[],[],mt⟩
  ·refine v8 h (fun hb h => ?_) (fun hb h => ?_)
   ·obtain rfl:=e8 h
    exact ⟨0,[],[],mt⟩
   ·obtain ⟨r63,c,h⟩:=j5 h
    rcases r63 with x43|x63
    ·refine cl [] [1] (Fz c) ?_
     refine .inl ?_
     refine And.intro (fun h0=>Bool.noConfusion h0) (fun _ => ?_)
     obtain ⟨r62,c,h⟩:=j5 h
     rcases r62 with ⟨x44,x45,x46,x47,x48,x49,x50,x51,x52⟩|⟨x54,x55,x56,x57,x58,x59,x60,x61,x62⟩
     ·refine cl [] [1,2,3,4,5,6] (Sg c) ?_
      refine And.intro (fun h0=>Bool.noConfusion h0) (fun _ => ?_)
      obtain ⟨x53,c,h⟩:=j5 h
      refine cl [] [2,3,1,4,5,6] (b98 c) ?_
      refine .inl ?_
      refine And.intro (by omega) ?_
      refine ⟨0,16,⟨rfl,rfl⟩,?_⟩
      obtain ⟨hg,h⟩:=gd h
      refine And.intro (j9 (F2 _ _) hg) ?_
      refine ⟨(x43++(List.take 16 x53)),m5 (i7 _) (C8 _ _),0,(List.length (x43++(List.take 16 x53))),⟨rfl,r7 (F2 _ _)⟩,?_⟩
      refine .inl ?_
      obtain rfl:=e8 h
      exact ⟨0,[],[],mt⟩
     ·refine cl [] [1,2,3,4,5,6] (Sg c) ?_
      refine And.intro (fun _ => ?_) (fun h0=>Bool.noConfusion h0)
      obtain rfl:=e8 h
      exact ⟨0,[],[],mt⟩
    ·refine cl [] [] (Fz c) ?_
     refine And.intro (fun _ => ?_) (fun h0=>Bool.noConfusion h0)
     obtain rfl:=e8 h
     exact ⟨0,[],[],mt⟩
theorem Zh {x17 x18 x19 x20 x21 x22 i9} (h:Io x17 x18 x19 x20 x21 x22=some i9) :
  FB er 8 [(.dv (.ints .u8 32 x17)),(.dv (.roI .u8 x18)),(.dv (.roI .u8 x19)),(.dv (.roI .u8 x20)),(.vs 0 0 1)] [(.var (.cons (.sl 1 [] s6 0 x21) (.dv .nil))),(.frzI .u8 x22)] (match i9 with|(Sum.inl p0)=>[8]|(Sum.inr p0)=>[]) (match i9 with|(Sum.inl p0)=>(.tup [(.sl 8 [] s6 0 (List.length p0)),(.dv (.sc .nilIface))])|(Sum.inr p0)=>(.tup [(.dv (.sc (.slice none 0 0))),(Pe er p0)])) (match i9 with|(Sum.inl p0)=>[(.var (.cons (.sl 1 [] s6 0 x21) (.dv .nil))),(.frzI .u8 x22),(.rowI .u8 p0)]|(Sum.inr p0)=>[(.var (.cons (.sl 1 [] s6 0 x21) (.dv .nil))),(.frzI .u8 x22)]):=by
 refine fb Tryz.func8 ?_ (by rcases i9 with _|_<;>rfl)
 unfold Io at h
 refine v8 h (fun hb h => ?_) (fun hb h => ?_)
 ·obtain rfl:=e8 h
  exact ⟨0,[],[],mt⟩
 ·obtain ⟨r29,c,h⟩:=j5 h
  rcases r29 with ⟨x23,x24⟩|⟨⟩
  ·refine cl [] [0,1] (Ze c) ?_
   refine And.intro (fun h0=>Bool.noConfusion h0) (fun _ => ?_)
   obtain ⟨⟨x25,x26,x27⟩,c,h⟩:=j5 h
   refine cl [] [5] (Gr c) ?_
   refine .inl ?_
   obtain ⟨r29,c,h⟩:=j5 h
   rcases r29 with x28|x29
   ·refine cl [false,true,false,false] [7] (Lb c) ?_
    refine .inl ?_
    refine And.intro (fun h0=>Bool.noConfusion h0) (fun _ => ?_)
    refine .inr ?_
    refine And.intro (by omega) ?_
    refine ⟨x23,rfl,0,32,⟨rfl,rfl⟩,?_⟩
    obtain ⟨hg,h⟩:=gd h
    refine And.intro (j9 (o5 x28) hg) ?_
    obtain ⟨hg2,h⟩:=gd h
    refine ⟨((List.take 32 x23)++x28),m5 (C8 _ _) (i7 x28),0,(List.length ((List.take 32 x23)++x28)),⟨rfl,Dw hg2 (o5 x28)⟩,?_⟩
    refine .inl ?_
    obtain rfl:=e8 h
    exact ⟨0,[],[],mt⟩
   ·refine cl [false,true,false,false] [] (Lb c) ?_
    refine And.intro (fun _ => ?_) (fun h0=>Bool.noConfusion h0)
    obtain rfl:=e8 h
    exact ⟨0,[],[],mt⟩
  ·refine cl [] [0,1] (Ze c) ?_
   refine And.intro (fun _ => ?_) (fun h0=>Bool.noConfusion h0)
   obtain rfl:=e8 h
   exact ⟨0,[],[],mt⟩
theorem Zi {x35 x36 i9} (h:Mz x35 x36=some i9) :
  FB er 22 [(.dv (.ints .u8 32 x35)),(.dv (.ints .u8 32 x36))] [] [] (match i9 with|(Sum.inl p0)=>(.tup [(.dv (.ints .u8 32 p0)),(.dv (.sc .nilIface))])|(Sum.inr _)=>(.tup [(.dv (.ints .u8 32 (List.replicate 32 (0:Int)))),(Pe er 5)])) (match i9 with|(Sum.inl p0)=>[]|(Sum.inr _)=>[]):=by
 refine fb Tryz.func22 ?_ (by rcases i9 with _|_<;>rfl)
 unfold Mz at h
 obtain ⟨r39,c,h⟩:=j5 h
 rcases r39 with x37|⟨⟩
 ·refine cl [] [] (Q7 c) ?_
  refine And.intro (fun h0=>Bool.noConfusion h0) (fun _ => ?_)
  obtain ⟨x38,c,h⟩:=j5 h
  refine cl [] [] (Lp c) ?_
  obtain ⟨x39,c,h⟩:=j5 h
  refine cl [] [] (Oj c) ?_
  obtain rfl:=e8 h
  exact ⟨0,[],[],mt⟩
 ·refine cl [] [] (Q7 c) ?_
  refine And.intro (fun _ => ?_) (fun h0=>Bool.noConfusion h0)
  obtain rfl:=e8 h
  exact ⟨0,[],[],mt⟩
theorem Ii {x86 x87 x88 x89 x90 x91 x92 x93 x94 x95 i9} (h:D5 x86 x87 x88 x89 x90 x91 x92 x93 x94 x95=some i9) :
  FB er 30 [(.vs 0 0 6)] [(.var (.cons (.dv (.roI .u8 x86)) (.cons (.sl 1 [] s6 0 x87) (.cons (.dv (.roI .u8 x88)) (.cons (.sl 2 [] s6 0 x89) (.cons (.sl 3 [] s6 0 x90) (.cons (.sl 4 [] s6 0 x91) (.dv .nil)))))))),(.rowI .u8 x92),(.rowI .u8 x93),(.rowI .u8 x94),(.rowI .u8 x95)] [6] (.sl 6 [] s6 0 (List.length i9)) [(.var (.cons (.dv (.roI .u8 x86)) (.cons (.sl 1 [] s6 0 x87) (.cons (.dv (.roI .u8 x88)) (.cons (.sl 2 [] s6 0 x89) (.cons (.sl 3 [] s6 0 x90) (.cons (.sl 4 [] s6 0 x91) (.dv .nil)))))))),(.rowI .u8 x92),(.rowI .u8 x93),(.rowI .u8 x94),(.rowI .u8 x95),(.rowI .u8 i9)]:=by
 refine fb Tryz.func30 ?_
 unfold D5 at h
 obtain ⟨x96,g,h⟩:=j5 h
 refine .inr ⟨[10],_,fj (fun x96=>([(3,(.int .i64 x96))],[])) x96,0,?_,?_⟩
 ·rintro ⟨x96,rfl⟩
  obtain ⟨⟨x102,x103⟩,c,h⟩:=j5 h
  refine cl [] [5] (z0 c) ?_
  refine .inl ?_
  obtain ⟨x104,g,h⟩:=j5 h
  refine .inr ⟨[24,26],_,fj (fun x104=>([(6,(.sl 6 [] s6 0 (List.length x104)))],[(5,.dead),(6,(.rowI .u8 x104))])) x104,1,?_,?_⟩
  ·rintro ⟨x104,rfl⟩
   obtain rfl:=e8 h
   exact ⟨0,[],[],mt⟩
  ·replace h:=g
   refine .inr ⟨30,?_⟩
   refine And.intro (fun _ => ?_) (fun h0=>Bool.noConfusion h0)
   refine .inl ?_
   refine dc ?_
   obtain ⟨hg,h⟩:=gd h
   refine And.intro (hg) ?_
   obtain ⟨hg2,h⟩:=gd h
   refine ⟨((List.take x102 x103)++x86),m5 (C8 _ _) (rfl),0,(List.length ((List.take x102 x103)++x86)),⟨rfl,Dw hg2 (rfl)⟩,?_⟩
   refine .inl ?_
   refine And.intro (fun _ => ?_) (fun h0=>Bool.noConfusion h0)
   refine .inl ?_
   refine dc ?_
   obtain ⟨hg,h⟩:=gd h
   refine And.intro (j9 (F2 _ _) hg) ?_
   refine ⟨(((List.take x102 x103)++x86)++(List.take x87 x92)),m5 (i7 _) (C8 _ _),0,(List.length (((List.take x102 x103)++x86)++(List.take x87 x92))),⟨rfl,r7 (F2 _ _)⟩,?_⟩
   refine .inl ?_
   refine And.intro (fun _ => ?_) (fun h0=>Bool.noConfusion h0)
   refine .inl ?_
   refine dc ?_
   obtain ⟨hg,h⟩:=gd h
   refine And.intro (hg) ?_
   refine ⟨((((List.take x102 x103)++x86)++(List.take x87 x92))++x88),m5 (i7 _) (rfl),0,(List.length ((((List.take x102 x103)++x86)++(List.take x87 x92))++x88)),⟨rfl,r7 (rfl)⟩,?_⟩
   refine .inl ?_
   refine m7 h ?_
   intro x105 h
   refine And.intro (fun _ => ?_) (fun h0=>Bool.noConfusion h0)
   refine .inl ?_
   refine dc ?_
   obtain ⟨hg,h⟩:=gd h
   refine And.intro (j9 (F2 _ _) hg) ?_
   refine ⟨(x105++(List.take x89 x93)),m5 (i7 _) (C8 _ _),0,(List.length (x105++(List.take x89 x93))),⟨rfl,r7 (F2 _ _)⟩,?_⟩
   refine .inl ?_
   refine And.intro (fun _ => ?_) (fun h0=>Bool.noConfusion h0)
   refine .inl ?_
   refine dc ?_
   obtain ⟨hg,h⟩:=gd h
   refine And.intro (j9 (F2 _ _) hg) ?_
   refine ⟨((x105++(List.take x89 x93))++(List.take x90 x94)),m5 (i7 _) (C8 _ _),0,(List.length ((x105++(List.take x89 x93))++(List.take x90 x94))),⟨rfl,r7 (F2 _ _)⟩,?_⟩
   refine .inl ?_
   refine And.intro (fun _ => ?_) (fun h0=>Bool.noConfusion h0)
   refine .inl ?_
   refine dc ?_
   obtain ⟨hg,h⟩:=gd h
   refine And.intro (j9 (F2 _ _) hg) ?_
   refine ⟨(((x105++(List.take x89 x93))++(List.take x90 x94))++(List.take x91 x95)),m5 (i7 _) (C8 _ _),0,(List.length (((x105++(List.take x89 x93))++(List.take x90 x94))++(List.take x91 x95))),⟨rfl,r7 (F2 _ _)⟩,?_⟩
   refine .inl ?_
   refine m7 h ?_
   intro x106 h
   refine And.intro (fun h0=>Bool.noConfusion h0) (fun _ => ?_)
   exact ⟨[],[],⟨_,e8 h⟩,[(6,11)],mt⟩
 ·replace h:=g
  refine .inr ⟨30,?_⟩
  refine And.intro (fun _ => ?_) (fun h0=>Bool.noConfusion h0)
  refine .inl ?_
  refine dc ?_
  refine m7 h ?_
  intro x97 h
  refine .inl ?_
  refine v8 h (fun hb h => ?_) (fun hb h => ?_)
  ·exact i6 h
  ·refine And.intro (fun _ => ?_) (fun h0=>Bool.noConfusion h0)
   refine .inl ?_
   refine dc ?_
   refine m7 h ?_
   intro x98 h
   refine .inl ?_
   refine v8 h (fun hb h => ?_) (fun hb h => ?_)
   ·exact i6 h
   ·refine And.intro (fun _ => ?_) (fun h0=>Bool.noConfusion h0)
    refine .inl ?_
    refine dc ?_
    refine m7 h ?_
    intro x99 h
    refine .inl ?_
    refine v8 h (fun hb h => ?_) (fun hb h => ?_)
    ·exact i6 h
    ·refine And.intro (fun _ => ?_) (fun h0=>Bool.noConfusion h0)
     refine .inl ?_
     refine dc ?_
     refine m7 h ?_
     intro x100 h
     refine .inl ?_
     refine v8 h (fun hb h => ?_) (fun hb h => ?_)
     ·exact i6 h
     ·refine And.intro (fun _ => ?_) (fun h0=>Bool.noConfusion h0)
      refine .inl ?_
      refine dc ?_
      refine .inl ?_
      refine v8 h (fun hb h => ?_) (fun hb h => ?_)
      ·exact i6 h
      ·refine And.intro (fun _ => ?_) (fun h0=>Bool.noConfusion h0)
       refine .inl ?_
       refine dc ?_
       refine m7 h ?_
       intro x101 h
       refine .inl ?_
       refine v8 h (fun hb h => ?_) (fun hb h => ?_)
       ·exact i6 h
       ·refine And.intro (fun h0=>Bool.noConfusion h0) (fun _ => ?_)
        exact ⟨[],[],⟨_,e8 h⟩,[],mt⟩
theorem Zv {x74 x75 x76 x77 x78 x79 x80 x81 x82 x83 x84 i9} (h:Bx x74 x75 x76 x77 x78 x79 x80 x81 x82 x83 x84=some i9) :
  FB er 44 [(.dv (.ints .u8 32 x74)),(.vs 0 0 6)] [(.var (.cons (.dv (.roI .u8 x75)) (.cons (.sl 1 [] s6 0 x76) (.cons (.dv (.roI .u8 x77)) (.cons (.sl 2 [] s6 0 x78) (.cons (.sl 3 [] s6 0 x79) (.cons (.sl 4 [] s6 0 x80) (.dv .nil)))))))),(.rowI .u8 x81),(.rowI .u8 x82),(.rowI .u8 x83),(.rowI .u8 x84)] [] (.dv (.ints .u8 16 i9)) [(.var (.cons (.dv (.roI .u8 x75)) (.cons (.sl 1 [] s6 0 x76) (.cons (.dv (.roI .u8 x77)) (.cons (.sl 2 [] s6 0 x78) (.cons (.sl 3 [] s6 0 x79) (.cons (.sl 4 [] s6 0 x80) (.dv .nil)))))))),(.rowI .u8 x81),(.rowI .u8 x82),(.rowI .u8 x83),(.rowI .u8 x84)]:=by
 refine fb Tryz.func44 ?_
 unfold Bx at h
 obtain ⟨x85,c,h⟩:=j5 h
 refine cl [] [] (La c) ?_
 obtain ⟨x86,c,h⟩:=j5 h
 refine cl [] [0,1,2,3,4,9] (Ii c) ?_
 refine .inl ?_
 obtain ⟨r107,c,h⟩:=j5 h
 refine cl [] [9,10,11] (Aj c) ?_
 obtain ⟨x87,g,h⟩:=j5 h
 refine .inr ⟨[17],_,fj (fun x87=>([],[(8,(.var (.dv (.ints .u64 5 x87))))])) x87,0,?_,?_⟩
 ·rintro ⟨x87,rfl⟩
  obtain ⟨x99,c,h⟩:=j5 h
  refine cl [] [] (Ej c) ?_
  obtain ⟨x100,c,h⟩:=j5 h
  refine cl [] [] (Gs c) ?_
  obtain ⟨x101,g,h⟩:=j5 h
  refine .inr ⟨[],_,fj (fun x101=>([],[(12,(.var (.dv (.ints .u8 16 x101))))])) x101,0,?_,?_⟩
  ·rintro ⟨x101,rfl⟩
   obtain rfl:=e8 h
   exact ⟨0,[],[],mt⟩
  ·replace h:=g
   refine .inl ?_
   refine ⟨[],_,fl (β:=Nat×Int×Int×(List Int)) (fun (n3,x102,x103,x104)=>(O6 x74 n3 x102 x103 x104=some x101,[(11,(.int .i64 x102)),(42,(.int .i64 x103))],[(12,(.var (.dv (.ints .u8 16 x104))))],n3)),[],[],⟨(f9,0,0,x100),h⟩,mt,?_⟩
   rintro ⟨⟨_|n3,x102,x103,x104⟩,h⟩
   ·exact i6 h
   replace h:=(O6.eq_2 x74 x102 x103 x104 n3).symm.trans h
   refine v8 h (fun hb h => ?_) (fun hb h => ?_)
   ·refine .inl ?_
    refine m8 h fun hg h => ?_
    refine m8 h fun hg h => ?_
    refine m7 h ?_
    intro x105 h
    refine m7 h ?_
    intro x106 h
    refine m8 h fun hg h => ?_
    refine m7 h ?_
    intro x107 h
    refine dc ?_
    exact ⟨⟨(n3,_,_,_),h⟩,[],mt,Nat.lt_succ_self _⟩
   ·exact ⟨[],[],⟨_,e8 h⟩,[],mt⟩
 ·replace h:=g
  intro L3
  refine ⟨Tryz.f104,_,⟨Tryz.func104,rfl,rfl,rfl⟩,?_⟩
  obtain ⟨x88,g,h⟩:=j5 h
  refine .inr ⟨[0,1,2],_,fj (fun x88=>([],[(8,(.var (.dv (.ints .u64 5 x88))))])) x88,0,?_,?_⟩
  ·rintro ⟨x88,rfl⟩
   exact ⟨[],[],⟨_,e8 h⟩,[],mt⟩
  ·replace h:=g
   refine .inl ?_
   refine ⟨[],_,fl (β:=Nat×Int×(List Int)) (fun (n1,x89,x90)=>(O5 x85 x86 n1 x89 x90=some x88,[(4,(.int .i64 x89))],[(8,(.var (.dv (.ints .u64 5 x90))))],n1)),[],[],⟨(f9,0,(List.replicate 5 (0:Int))),h⟩,mt,?_⟩
   rintro ⟨⟨_|n1,x89,x90⟩,h⟩
   ·exact i6 h
   replace h:=(O5.eq_2 x85 x86 x89 x90 n1).symm.trans h
   refine v8 h (fun hb h => ?_) (fun hb h => ?_)
   ·refine .inl ?_
    refine m8 h fun hg h => ?_
    refine ⟨(Int.toNat x89),(Int.toNat (((List.length x86):Int)-x89)),⟨by simp,rfl⟩,?_⟩
    refine m7 h ?_
    intro x91 h
    refine m8 h fun hg h => ?_
    refine m8 h fun hg h => ?_
    refine ⟨(Int.toNat x89),(Int.toNat ((IntKind.wrap .i64 (x89+x91))-x89)),⟨by simp,rfl⟩,?_⟩
    refine ⟨rfl,?_⟩
    refine .inl ?_
    obtain ⟨x92,c,h⟩:=j5 h
    refine cl [true] [14] (E7 c) ?_
    refine .inl ?_
    refine .inl ?_
    obtain ⟨hg,h⟩:=gd h
    refine And.intro (j9 (o5 [1]) hg) ?_
    refine ⟨(x92++[1]),m5 (i7 _) (i7 [1]),0,(List.length (x92++[1])),⟨rfl,r7 (o5 [1])⟩,?_⟩
    refine .inl ?_
    obtain ⟨x93,c,h⟩:=j5 h
    refine cl [true] [] (Jv c) ?_ (hv:=⟨u9 _ _,trivial⟩)
    obtain ⟨x94,g,h⟩:=j5 h
    refine .inr ⟨[],_,fj (fun x94=>([],[(8,(.var (.dv (.ints .u64 5 x94))))])) x94,0,?_,?_⟩
    ·rintro ⟨x94,rfl⟩
     obtain ⟨x98,c,h⟩:=j5 h
     refine cl [] [] (Pc c) ?_
     exact ⟨⟨(n1,_,_),h⟩,[],mt,Nat.lt_succ_self _⟩
    ·replace h:=g
     refine .inl ?_
     refine ⟨[],_,fl (β:=Nat×Int×(List Int)) (fun (n2,x95,x96)=>(O4 x93 n2 x95 x96=some x94,[(24,(.int .i64 x95))],[(8,(.var (.dv (.ints .u64 5 x96))))],n2)),[],[],⟨(f9,0,x90),h⟩,mt,?_⟩
     rintro ⟨⟨_|n2,x95,x96⟩,h⟩
     ·exact i6 h
     replace h:=(O4.eq_2 x93 x95 x96 n2).symm.trans h
     refine v8 h (fun hb h => ?_) (fun hb h => ?_)
     ·refine .inl ?_
      refine m8 h fun hg h => ?_
      refine m8 h fun hg h => ?_
      refine m7 h ?_
      intro x97 h
      refine m8 h fun hg h => ?_
      exact ⟨⟨(n2,_,_),h⟩,[],mt,Nat.lt_succ_self _⟩
     ·exact ⟨[],[],⟨_,e8 h⟩,[],mt⟩
   ·exact ⟨[],[],⟨_,e8 h⟩,[],mt⟩
theorem b99 {x109 x110 i9} (h:Gv x109 x110=some i9) :
  FB er 76 [(.dv (.roI .u8 x109)),(.dv (.roI .u8 x110))] [] [] (.bl i9) []:=by
 refine fb Tryz.func76 ?_
 unfold Gv at h
 refine v8 h (fun hb h => ?_) (fun hb h => ?_)
 ·obtain rfl:=e8 h
  exact ⟨0,[],[],mt⟩
 ·obtain ⟨x111,g,h⟩:=j5 h
  refine .inr ⟨[13],_,fj (fun x111=>([(5,(.int .u8 x111))],[])) x111,0,?_,?_⟩
  ·rintro ⟨x111,rfl⟩
   obtain rfl:=e8 h
   exact ⟨0,[],[],mt⟩
  ·replace h:=g
   refine .inl ?_
   refine ⟨[],_,fl (β:=Nat×Int×Int) (fun (n1,x112,x113)=>(V3 x109 x110 n1 x112 x113=some x111,[(5,(.int .u8 x112)),(14,(.int .i64 x113))],[],n1)),[],[],⟨(f9,0,0),h⟩,mt,?_⟩
   rintro ⟨⟨_|n1,x112,x113⟩,h⟩
   ·exact i6 h
   replace h:=(V3.eq_2 x109 x110 x112 x113 n1).symm.trans h
   refine v8 h (fun hb h => ?_) (fun hb h => ?_)
   ·refine .inl ?_
    refine m8 h fun hg h => ?_
    refine m8 h fun hg h => ?_
    refine m7 h ?_
    intro x114 h
    exact ⟨⟨(n1,_,_),h⟩,[],mt,Nat.lt_succ_self _⟩
   ·exact ⟨[],[],⟨_,e8 h⟩,[],mt⟩
theorem Zw {x62 x63 x64 x65 x66 x67 x68 x69 x70 x71 x72 x73 i9} (h:By x62 x63 x64 x65 x66 x67 x68 x69 x70 x71 x72 x73=some i9) :
  FB er 45 [(.dv (.ints .u8 32 x62)),(.dv (.roI .u8 x63)),(.vs 0 0 6)] [(.var (.cons (.dv (.roI .u8 x64)) (.cons (.sl 1 [] s6 0 x65) (.cons (.dv (.roI .u8 x66)) (.cons (.sl 2 [] s6 0 x67) (.cons (.sl 3 [] s6 0 x68) (.cons (.sl 4 [] s6 0 x69) (.dv .nil)))))))),(.rowI .u8 x70),(.rowI .u8 x71),(.rowI .u8 x72),(.rowI .u8 x73)] [] (.bl i9) [(.var (.cons (.dv (.roI .u8 x64)) (.cons (.sl 1 [] s6 0 x65) (.cons (.dv (.roI .u8 x66)) (.cons (.sl 2 [] s6 0 x67) (.cons (.sl 3 [] s6 0 x68) (.cons (.sl 4 [] s6 0 x69) (.dv .nil)))))))),(.rowI .u8 x70),(.rowI .u8 x71),(.rowI .u8 x72),(.rowI .u8 x73)]:=by
 refine fb Tryz.func45 ?_
 unfold By at h
 obtain ⟨x74,c,h⟩:=j5 h
 refine cl [] [0,1,2,3,4] (Zv c) ?_
 refine .inl ?_
 refine And.intro (by omega) ?_
 refine ⟨0,16,⟨rfl,rfl⟩,?_⟩
 obtain ⟨x75,c,h⟩:=j5 h
 refine cl [false,true] [] (b99 c) ?_
 obtain rfl:=e8 h
 exact ⟨0,[],[],mt⟩
theorem Zj {x45 x46 x47 x48 i9} (h:Df x45 x46 x47 x48=some i9) :
  FB er 23 [(.dv (.ints .u8 32 x45)),(.dv (.roI .u8 x46)),(.dv (.roI .u8 x47)),(.dv (.roI .u8 x48))] [] (match i9 with|(Sum.inl p0)=>[7]|(Sum.inr p0)=>[]) (match i9 with|(Sum.inl p0)=>(.tup [(.sl 7 [] s6 0 (List.length p0)),(.dv (.sc .nilIface))])|(Sum.inr p0)=>(.tup [(.dv (.sc (.slice none 0 0))),(Pe er p0)])) (match i9 with|(Sum.inl p0)=>[(.rowI .u8 p0)]|(Sum.inr p0)=>[]):=by
 refine fb Tryz.func23 ?_ (by rcases i9 with _|_<;>rfl)
 unfold Df at h
 refine .inl ?_
 refine v8 h (fun hb h => ?_) (fun hb h => ?_)
 ·obtain rfl:=e8 h
  exact ⟨0,[],[],mt⟩
 ·refine m7 h ?_
  intro x49 h
  refine v8 h (fun hb h => ?_) (fun hb h => ?_)
  ·obtain rfl:=e8 h
   exact ⟨0,[],[],mt⟩
  ·refine v8 h (fun hb h => ?_) (fun hb h => ?_)
   ·obtain rfl:=e8 h
    exact ⟨0,[],[],mt⟩
   ·refine m7 h ?_
    intro x50 h
    refine v8 h (fun hb h => ?_) (fun hb h => ?_)
    ·obtain rfl:=e8 h
     exact ⟨0,[],[],mt⟩
    ·refine m8 h fun hg h => ?_
     refine m8 h fun hg h => ?_
     refine ⟨(List.take (Int.toNat ((IntKind.wrap .i64 ((List.length x48:Int)-16))-0)) x48),by first|rfl|simp,?_⟩
     refine m7 h ?_
     intro x51 h
     obtain ⟨r74,c,h⟩:=j5 h
     rcases r74 with ⟨x52,x53,x54,x55,x56,x57,x58,x59,x60⟩|⟨x66,x67,x68,x69,x70,x71,x72,x73,x74⟩
     ·refine cl [] [1,2,3,4,5] (Zg c) ?_
      refine .inl ?_
      refine And.intro (fun h0=>Bool.noConfusion h0) (fun _ => ?_)
      refine m8 h fun hg h => ?_
      refine ⟨(List.take (Int.toNat ((List.length x48:Int)-(IntKind.wrap .i64 ((List.length x48:Int)-16)))) (List.drop (Int.toNat (IntKind.wrap .i64 ((List.length x48:Int)-16))) x48)),by first|rfl|simp,?_⟩
      refine m7 h ?_
      intro x61 h
      obtain ⟨x62,c,h⟩:=j5 h
      refine cl [] [1,2,3,4,5] (Zw c) ?_
      refine v8 h (fun hb h => ?_) (fun hb h => ?_)
      ·obtain rfl:=e8 h
       exact ⟨0,[],[],mt⟩
      ·refine m8 h fun hg h => ?_
       refine m8 h fun hg h => ?_
       refine ⟨(List.take (Int.toNat ((IntKind.wrap .i64 ((List.length x48:Int)-16))-0)) x48),by first|rfl|simp,?_⟩
       refine m7 h ?_
       intro x63 h
       obtain ⟨r65,c,h⟩:=j5 h
       rcases r65 with x64|x65
       ·refine cl [] [7] (Fz c) ?_
        refine .inl ?_
        obtain rfl:=e8 h
        exact ⟨0,[],[],mt⟩
       ·refine cl [] [] (Fz c) ?_
        obtain rfl:=e8 h
        exact ⟨0,[],[],mt⟩
     ·refine cl [] [1,2,3,4,5] (Zg c) ?_
      refine .inl ?_
      refine And.intro (fun _ => ?_) (fun h0=>Bool.noConfusion h0)
      obtain rfl:=e8 h
      exact ⟨0,[],[],mt⟩
theorem Dc {x31 x32 x33 x34 i9} (h:Dg x31 x32 x33 x34=some i9) :
  FB er 9 [(.dv (.ints .u8 32 x31)),(.dv (.roI .u8 x32)),(.dv (.roI .u8 x33)),(.dv (.roI .u8 x34))] [] (match i9 with|(Sum.inl p0)=>[4]|(Sum.inr p0)=>[]) (match i9 with|(Sum.inl p0)=>(.tup [(.sl 4 [] s6 0 (List.length p0)),(.dv (.sc .nilIface))])|(Sum.inr p0)=>(.tup [(.dv (.sc (.slice none 0 0))),(Pe er p0)])) (match i9 with|(Sum.inl p0)=>[(.rowI .u8 p0)]|(Sum.inr p0)=>[]):=by
 refine fb Tryz.func9 ?_ (by rcases i9 with _|_<;>rfl)
 unfold Dg at h
 refine .inl ?_
 refine v8 h (fun hb h => ?_) (fun hb h => ?_)
 ·obtain rfl:=e8 h
  exact ⟨0,[],[],mt⟩
 ·refine v8 h (fun hb h => ?_) (fun hb h => ?_)
  ·obtain rfl:=e8 h
   exact ⟨0,[],[],mt⟩
  ·refine m8 h fun hg h => ?_
   refine dc ?_
   refine ⟨(List.take 32 x34),by first|rfl|simp,?_⟩
   obtain ⟨hg,h⟩:=gd h
   refine And.intro (by first|exact hg|simpa using hg) ?_
   refine ⟨(List.take 32 (List.take 32 x34)),by first|rfl|simp,?_⟩
   obtain ⟨r41,c,h⟩:=j5 h
   rcases r41 with x35|⟨⟩
   ·refine cl [] [] (Zi c) ?_
    refine And.intro (fun h0=>Bool.noConfusion h0) (fun _ => ?_)
    obtain ⟨⟨x36,x37,x38⟩,c,h⟩:=j5 h
    refine cl [] [2] (Gr c) ?_
    refine .inl ?_
    refine m8 h fun hg h => ?_
    refine ⟨(List.take (Int.toNat ((List.length x34:Int)-32)) (List.drop 32 x34)),by first|rfl|simp,?_⟩
    refine m7 h ?_
    intro x39 h
    obtain ⟨r41,c,h⟩:=j5 h
    rcases r41 with x40|x41
    ·refine cl [false,true,false,false] [4] (Zj c) ?_
     refine .inl ?_
     obtain rfl:=e8 h
     exact ⟨0,[],[],mt⟩
    ·refine cl [false,true,false,false] [] (Zj c) ?_
     obtain rfl:=e8 h
     exact ⟨0,[],[],mt⟩
   ·refine cl [] [] (Zi c) ?_
    refine And.intro (fun _ => ?_) (fun h0=>Bool.noConfusion h0)
    obtain rfl:=e8 h
    exact ⟨0,[],[],mt⟩
theorem d39 {i9} (h:Kb=some i9) :
  FB er 6 [] [] [] (.bl i9) []:=by
 refine fb Tryz.func6 ?_
 unfold Kb at h
 refine .inl ?_
 refine ⟨0,(List.length [120]),⟨rfl,rfl⟩,?_⟩
 refine .inl ?_
 refine .inr ?_
 obtain ⟨⟨x4,x5⟩,c,h⟩:=j5 h
 refine cl [] [1,0] (b69 c) ?_
 refine .inl ?_
 refine ⟨0,(List.length [121]),⟨rfl,rfl⟩,?_⟩
 refine .inl ?_
 refine .inr ?_
 obtain ⟨r13,c,h⟩:=j5 h
 rcases r13 with x6|x13
 ·refine cl [] [5,4,6] (Zh c) ?_ (hv:=⟨.inl rfl,(.inr (.inr ⟨rfl,.inl ⟨_,rfl⟩⟩)),(.inr (.inr ⟨rfl,.inl ⟨_,rfl⟩⟩)),(.inr (.inr ⟨rfl,.inl ⟨_,rfl⟩⟩)),.inl rfl,trivial⟩)
  refine .inl ?_
  refine And.intro (fun h0=>Bool.noConfusion h0) (fun _ => ?_)
  refine v8 h (fun hb h => ?_) (fun hb h => ?_)
  ·obtain rfl:=e8 h
   exact ⟨0,[],[],mt⟩
  ·obtain ⟨r12,c,h⟩:=j5 h
   rcases r12 with x7|x10
   ·refine cl [false,false,false,true] [7] (Dc c) ?_ (hv:=⟨.inl rfl,(.inr (.inr ⟨rfl,.inl ⟨_,rfl⟩⟩)),(.inr (.inr ⟨rfl,.inl ⟨_,rfl⟩⟩)),u9 _ _,trivial⟩)
    refine .inl ?_
    obtain ⟨r9,c,h⟩:=j5 h
    rcases r9 with x8|x9
    ·refine cl [false,false,false,true] [8] (Dc c) ?_ (hv:=⟨.inl rfl,(.inr (.inr ⟨rfl,.inl ⟨_,rfl⟩⟩)),(.inr (.inr ⟨rfl,.inl ⟨_,rfl⟩⟩)),u9 _ _,trivial⟩)
     refine .inl ?_
     refine And.intro (fun _ => ?_) (fun h0=>Bool.noConfusion h0)
     obtain rfl:=e8 h
     exact ⟨0,[],[],mt⟩
    ·refine cl [false,false,false,true] [] (Dc c) ?_ (hv:=⟨.inl rfl,(.inr (.inr ⟨rfl,.inl ⟨_,rfl⟩⟩)),(.inr (.inr ⟨rfl,.inl ⟨_,rfl⟩⟩)),u9 _ _,trivial⟩)
     refine And.intro (fun _ => ?_) (fun h0=>Bool.noConfusion h0)
     obtain rfl:=e8 h
     exact ⟨0,[],[],mt⟩
   ·refine cl [false,false,false,true] [] (Dc c) ?_ (hv:=⟨.inl rfl,(.inr (.inr ⟨rfl,.inl ⟨_,rfl⟩⟩)),(.inr (.inr ⟨rfl,.inl ⟨_,rfl⟩⟩)),u9 _ _,trivial⟩)
    obtain ⟨r12,c,h⟩:=j5 h
    rcases r12 with x11|x12
    ·refine cl [false,false,false,true] [7] (Dc c) ?_ (hv:=⟨.inl rfl,(.inr (.inr ⟨rfl,.inl ⟨_,rfl⟩⟩)),(.inr (.inr ⟨rfl,.inl ⟨_,rfl⟩⟩)),u9 _ _,trivial⟩)
     refine .inl ?_
     refine And.intro (fun h0=>Bool.noConfusion h0) (fun _ => ?_)
     obtain rfl:=e8 h
     exact ⟨0,[],[],mt⟩
    ·refine cl [false,false,false,true] [] (Dc c) ?_ (hv:=⟨.inl rfl,(.inr (.inr ⟨rfl,.inl ⟨_,rfl⟩⟩)),(.inr (.inr ⟨rfl,.inl ⟨_,rfl⟩⟩)),u9 _ _,trivial⟩)
     refine And.intro (fun h0=>Bool.noConfusion h0) (fun _ => ?_)
     obtain rfl:=e8 h
     exact ⟨0,[],[],mt⟩
 ·refine cl [] [5,4] (Zh c) ?_ (hv:=⟨.inl rfl,(.inr (.inr ⟨rfl,.inl ⟨_,rfl⟩⟩)),(.inr (.inr ⟨rfl,.inl ⟨_,rfl⟩⟩)),(.inr (.inr ⟨rfl,.inl ⟨_,rfl⟩⟩)),.inl rfl,trivial⟩)
  refine And.intro (fun _ => ?_) (fun h0=>Bool.noConfusion h0)
  obtain rfl:=e8 h
  exact ⟨0,[],[],mt⟩
theorem Xx {x15 i9} (h:V4 x15=some i9) :
  FB er 11 [(.dv (z6.dv x15))] [] [] (.bl i9) []:=by
 refine fb Tryz.func11 ?_
 unfold V4 at h
 refine v8 h (fun hb h => ?_) (fun hb h => ?_)
 ·obtain rfl:=e8 h
  exact ⟨0,[],[],mt⟩
 ·refine v8 h (fun hb h => ?_) (fun hb h => ?_)
  ·obtain rfl:=e8 h
   exact ⟨0,[],[],mt⟩
  ·obtain rfl:=e8 h
   exact ⟨0,[],[],mt⟩
theorem Zx {x25 x26 i9} (h:Bz x25 x26=some i9) :
  FB er 18 [(.dv (.str x25)),(.dv (.ro Sm (List.length x26) (rw_ (fun q => .roI .u8 q) [] x26)))] [] [] (.dv (.ints .u8 32 i9)) []:=by
 refine fb Tryz.func18 ?_
 unfold Bz at h
 refine m8 h fun hg h => ?_
 refine ⟨(List.map (fun q:UInt8=>(q.toNat:Int)) ([72,80,75,69,45,118,49,75,69,77,0,32]++x25)),rfl,0,(List.length (List.map (fun q:UInt8=>(q.toNat:Int)) ([72,80,75,69,45,118,49,75,69,77,0,32]++x25))),⟨rfl,List.length_map ..⟩,?_⟩
 refine .inl ?_
 refine m7 h ?_
 intro x27 h
 obtain ⟨⟨x28,x29⟩,c,h⟩:=j5 h
 refine cl [] [2] (Z6 c) ?_
 refine .inl ?_
 obtain ⟨hg,h⟩:=gd h
 refine And.intro (j9 (F2 _ _) hg) ?_
 refine ⟨(x27++(List.take x28 x29)),m5 (i7 _) (C8 _ _),0,(List.length (x27++(List.take x28 x29))),⟨rfl,r7 (F2 _ _)⟩,?_⟩
 refine .inl ?_
 obtain ⟨x30,c,h⟩:=j5 h
 refine cl [false,true] [] (Az c) ?_ (hv:=⟨(.inr (.inr ⟨rfl,.inl ⟨_,rfl⟩⟩)),u9 _ _,trivial⟩)
 obtain rfl:=e8 h
 exact ⟨0,[],[],mt⟩
theorem d40 {x24 i9} (h:Kd x24=some i9) :
  FB er 7 [(.dv (.ro Sm (List.length x24) (rw_ (fun q => .roI .u8 q) [] x24)))] [] [] (.tup [(.dv (.ints .u8 32 i9.1)),(.dv (.ints .u8 32 i9.2))]) []:=by
 refine fb Tryz.func7 ?_
 unfold Kd at h
 obtain ⟨x25,c,h⟩:=j5 h
 refine cl [] [] (Zx c) ?_
 obtain ⟨x26,c,h⟩:=j5 h
 refine cl [] [] (Vy c) ?_ (hv:=⟨.inl rfl,.inl rfl,(.inr (.inr ⟨rfl,.inr ⟨_,_,rfl⟩⟩)),trivial⟩)
 obtain ⟨x27,c,h⟩:=j5 h
 refine cl [] [] (Lp c) ?_
 obtain rfl:=e8 h
 exact ⟨0,[],[],mt⟩
theorem Si {x22 x23 i9} (h:Gw x22 x23=some i9) :
  FB er 20 [(.dv (.ints .u8 32 x22)),(.dv (.ro Sm (List.length x23) (rw_ (fun q => .roI .u8 q) [] x23)))] [] [] (match i9 with|(Sum.inl (p0,p1))=>(.tup [(.dv (.ints .u8 32 p0)),(.dv (.ints .u8 32 p1)),(.dv (.sc .nilIface))])|(Sum.inr _)=>(.tup [(.dv (.ints .u8 32 (List.replicate 32 (0:Int)))),(.dv (.ints .u8 32 (List.replicate 32 (0:Int)))),(Pe er 5)])) (match i9 with|(Sum.inl (p0,p1))=>[]|(Sum.inr _)=>[]):=by
 refine fb Tryz.func20 ?_ (by rcases i9 with _|_<;>rfl)
 unfold Gw at h
 obtain ⟨⟨x24,x25⟩,c,h⟩:=j5 h
 refine cl [] [] (d40 c) ?_
 obtain ⟨r27,c,h⟩:=j5 h
 rcases r27 with x26|⟨⟩
 ·refine cl [] [] (Q7 c) ?_
  refine And.intro (fun h0=>Bool.noConfusion h0) (fun _ => ?_)
  obtain ⟨x27,c,h⟩:=j5 h
  refine cl [] [] (Oj c) ?_
  obtain rfl:=e8 h
  exact ⟨0,[],[],mt⟩
 ·refine cl [] [] (Q7 c) ?_
  refine And.intro (fun _ => ?_) (fun h0=>Bool.noConfusion h0)
  obtain rfl:=e8 h
  exact ⟨0,[],[],mt⟩
theorem Sj {x17 x18 x19 x20 x21 i9} (h:An x17 x18 x19 x20 x21=some i9) :
  FB er 8 [(.dv (.ints .u8 32 x17)),(.dv (.roI .u8 x18)),(.dv (.roI .u8 x19)),(.dv (.roI .u8 x20)),(.dv (.ro Sm (List.length x21) (rw_ (fun q => .roI .u8 q) [] x21)))] [] (match i9 with|(Sum.inl p0)=>[6]|(Sum.inr p0)=>[]) (match i9 with|(Sum.inl p0)=>(.tup [(.sl 6 [] s6 0 (List.length p0)),(.dv (.sc .nilIface))])|(Sum.inr p0)=>(.tup [(.dv (.sc (.slice none 0 0))),(Pe er p0)])) (match i9 with|(Sum.inl p0)=>[(.rowI .u8 p0)]|(Sum.inr p0)=>[]):=by
 refine fb Tryz.func8 ?_ (by rcases i9 with _|_<;>rfl)
 unfold An at h
 refine v8 h (fun hb h => ?_) (fun hb h => ?_)
 ·obtain rfl:=e8 h
  exact ⟨0,[],[],mt⟩
 ·obtain ⟨r28,c,h⟩:=j5 h
  rcases r28 with ⟨x22,x23⟩|⟨⟩
  ·refine cl [] [] (Si c) ?_
   refine And.intro (fun h0=>Bool.noConfusion h0) (fun _ => ?_)
   obtain ⟨⟨x24,x25,x26⟩,c,h⟩:=j5 h
   refine cl [] [3] (Gr c) ?_
   refine .inl ?_
   obtain ⟨r28,c,h⟩:=j5 h
   rcases r28 with x27|x28
   ·refine cl [false,true,false,false] [5] (Lb c) ?_
    refine .inl ?_
    refine And.intro (fun h0=>Bool.noConfusion h0) (fun _ => ?_)
    refine .inr ?_
    refine And.intro (by omega) ?_
    refine ⟨x22,rfl,0,32,⟨rfl,rfl⟩,?_⟩
    obtain ⟨hg,h⟩:=gd h
    refine And.intro (j9 (o5 x27) hg) ?_
    obtain ⟨hg2,h⟩:=gd h
    refine ⟨((List.take 32 x22)++x27),m5 (C8 _ _) (i7 x27),0,(List.length ((List.take 32 x22)++x27)),⟨rfl,Dw hg2 (o5 x27)⟩,?_⟩
    refine .inl ?_
    obtain rfl:=e8 h
    exact ⟨0,[],[],mt⟩
   ·refine cl [false,true,false,false] [] (Lb c) ?_
    refine And.intro (fun _ => ?_) (fun h0=>Bool.noConfusion h0)
    obtain rfl:=e8 h
    exact ⟨0,[],[],mt⟩
  ·refine cl [] [] (Si c) ?_
   refine And.intro (fun _ => ?_) (fun h0=>Bool.noConfusion h0)
   obtain rfl:=e8 h
   exact ⟨0,[],[],mt⟩
theorem Xy {i9} (h:Es=some i9) :
  FB er 88 [] [] [0] (.sl 0 [] Hu 0 (List.length i9)) [(.rowI .u32 i9)]:=by
 refine fb Tryz.func88 ?_
 unfold Es at h
 refine .inl ?_
 refine m7 h ?_
 intro x45 h
 obtain rfl:=e8 h
 exact ⟨0,[],[],mt⟩
theorem c00 {x48 i9} (h:Gx x48=some i9) :
  FB er 89 [(.dv (.roI .u8 x48))] [] [3] (.sl 3 [] s6 0 (List.length i9)) [(.rowI .u8 i9)]:=by
 refine fb Tryz.func89 ?_
 unfold Gx at h
 refine .inl ?_
 obtain ⟨hg,h⟩:=gd h
 refine And.intro (hg) ?_
 refine ⟨(([]:List Int)++x48),m5 (i7 _) (rfl),0,(List.length (([]:List Int)++x48)),⟨rfl,r7 (rfl)⟩,?_⟩
 refine .inl ?_
 refine .inl ?_
 obtain ⟨hg,h⟩:=gd h
 refine And.intro (j9 (o5 [128]) hg) ?_
 refine ⟨((([]:List Int)++x48)++[128]),m5 (i7 _) (i7 [128]),0,(List.length ((([]:List Int)++x48)++[128])),⟨rfl,r7 (o5 [128])⟩,?_⟩
 refine .inl ?_
 obtain ⟨r1_0_49,hl1_49,hr1_49⟩:=j5 h
 refine .inr ⟨[10],(({p:Unit // (Sum.inl p)=r1_0_49})⊕({p:(List Int) // (Sum.inr p)=r1_0_49})),⟨fun|(Sum.inl (⟨(),_⟩))=>[(3,(.sl 3 [] s6 0 (List.length ((([]:List Int)++x48)++[128])))),(10,(.sl 3 [] s6 0 (List.length ((([]:List Int)++x48)++[128]))))]|(Sum.inr (⟨x49,_⟩))=>[(3,(.sl 3 [] s6 0 (List.length x49)))],fun|(Sum.inl (⟨(),_⟩))=>[]|(Sum.inr (⟨x49,_⟩))=>[(3,(.rowI .u8 x49))],fun _=>0⟩,0,?_,?_⟩
 ·rintro (⟨⟨⟩,hp⟩|⟨x49,hp⟩)
  ·subst hp
   replace h:=hr1_49
   refine m7 h ?_
   intro x51 h
   obtain ⟨x52,g,h⟩:=j5 h
   refine .inr ⟨[4,10],_,fj (fun x52=>([(3,(.sl 3 [] s6 0 (List.length x52)))],[(3,(.rowI .u8 x52))])) x52,0,?_,?_⟩
   ·rintro ⟨x52,rfl⟩
    obtain rfl:=e8 h
    exact ⟨0,[],[],mt⟩
   ·replace h:=g
    refine .inl ?_
    refine ⟨[10],_,fl (β:=Nat×Int×(List Int)) (fun (n2,x53,x54)=>(Et x51 n2 x53 x54=some x52,[(3,(.sl 3 [] s6 0 (List.length x54))),(5,(.int .i64 x53))],[(3,(.rowI .u8 x54))],n2)),[],[],⟨(f9,7,((([]:List Int)++x48)++[128])),h⟩,mt,?_⟩
    rintro ⟨⟨_|n2,x53,x54⟩,h⟩
    ·exact i6 h
    replace h:=(Et.eq_2 x51 x53 x54 n2).symm.trans h
    refine v8 h (fun hb h => ?_) (fun hb h => ?_)
    ·refine .inl ?_
     refine m8 h fun hg h => ?_
     refine m7 h ?_
     intro x55 h
     refine .inl ?_
     obtain ⟨hg,h⟩:=gd h
     refine And.intro (j9 (o5 [(IntKind.wrap .u8 x55)]) hg) ?_
     refine ⟨(x54++[(IntKind.wrap .u8 x55)]),m5 (i7 _) (i7 [(IntKind.wrap .u8 x55)]),0,(List.length (x54++[(IntKind.wrap .u8 x55)])),⟨rfl,r7 (o5 [(IntKind.wrap .u8 x55)])⟩,?_⟩
     refine .inl ?_
     exact ⟨⟨(n2,_,_),h⟩,[(3,5)],mt,Nat.lt_succ_self _⟩
    ·exact ⟨[],[],⟨_,e8 h⟩,[],mt⟩
  ·subst hp
   replace h:=hr1_49
   refine m7 h ?_
   intro x56 h
   obtain ⟨x57,g,h⟩:=j5 h
   refine .inr ⟨[4],_,fj (fun x57=>([(3,(.sl 3 [] s6 0 (List.length x57)))],[(3,(.rowI .u8 x57))])) x57,0,?_,?_⟩
   ·rintro ⟨x57,rfl⟩
    obtain rfl:=e8 h
    exact ⟨0,[],[],mt⟩
   ·replace h:=g
    refine .inl ?_
    refine ⟨[],_,fl (β:=Nat×Int×(List Int)) (fun (n3,x58,x59)=>(P8 x56 n3 x58 x59=some x57,[(3,(.sl 3 [] s6 0 (List.length x59))),(5,(.int .i64 x58))],[(3,(.rowI .u8 x59))],n3)),[],[],⟨(f9,7,x49),h⟩,mt,?_⟩
    rintro ⟨⟨_|n3,x58,x59⟩,h⟩
    ·exact i6 h
    replace h:=(P8.eq_2 x56 x58 x59 n3).symm.trans h
    refine v8 h (fun hb h => ?_) (fun hb h => ?_)
    ·refine .inl ?_
     refine m8 h fun hg h => ?_
     refine m7 h ?_
     intro x60 h
     refine .inl ?_
     obtain ⟨hg,h⟩:=gd h
     refine And.intro (j9 (o5 [(IntKind.wrap .u8 x60)]) hg) ?_
     refine ⟨(x59++[(IntKind.wrap .u8 x60)]),m5 (i7 _) (i7 [(IntKind.wrap .u8 x60)]),0,(List.length (x59++[(IntKind.wrap .u8 x60)])),⟨rfl,r7 (o5 [(IntKind.wrap .u8 x60)])⟩,?_⟩
     refine .inl ?_
     exact ⟨⟨(n3,_,_),h⟩,[(3,5)],mt,Nat.lt_succ_self _⟩
    ·exact ⟨[],[],⟨_,e8 h⟩,[],mt⟩
 ·replace h:=hl1_49
  refine .inl ?_
  refine ⟨[10],_,fl (β:=Nat×(List Int)) (fun (n1,x50)=>(P7 n1 x50=some r1_0_49,[(3,(.sl 3 [] s6 0 (List.length x50)))],[(3,(.rowI .u8 x50))],n1)),[],[],⟨(f9,((([]:List Int)++x48)++[128])),h⟩,mt,?_⟩
  rintro ⟨⟨_|n1,x50⟩,h⟩
  ·exact i6 h
  replace h:=(P7.eq_2 x50 n1).symm.trans h
  refine dc ?_
  refine v8 h (fun hb h => ?_) (fun hb h => ?_)
  ·refine .inl ?_
   refine .inl ?_
   obtain ⟨hg,h⟩:=gd h
   refine And.intro (j9 (o5 [0]) hg) ?_
   refine ⟨(x50++[0]),m5 (i7 _) (i7 [0]),0,(List.length (x50++[0])),⟨rfl,r7 (o5 [0])⟩,?_⟩
   refine .inl ?_
   exact ⟨⟨(n1,_),h⟩,[(3,5)],mt,Nat.lt_succ_self _⟩
  ·exact ⟨[],[],(Sum.inr (⟨_,e8 h⟩)),[],mt⟩
theorem N4 {x72 x73 i9} (h:B1 x72 x73=some i9) :
  FB er 90 [(.int .u32 x72),(.int .u64 x73)] [] [] (.int .u32 i9) []:=by
 refine fb Tryz.func90 ?_
 unfold B1 at h
 refine m8 h fun hg h => ?_
 refine m7 h ?_
 intro x74 h
 refine m8 h fun hg h => ?_
 refine m7 h ?_
 intro x75 h
 obtain rfl:=e8 h
 exact ⟨0,[],[],mt⟩
end
end Go.Eng
