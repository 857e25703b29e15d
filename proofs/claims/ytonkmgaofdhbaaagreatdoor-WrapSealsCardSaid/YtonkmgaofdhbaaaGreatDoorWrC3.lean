/-
  Part of a proof: WrC3.
-/
import Derived.Test.YtonkmgaofdhbaaaGreatDoorWrC2
set_option linter.unusedVariables false
set_option linter.unusedSimpArgs false
set_option linter.unusedVariables false
set_option linter.unusedSimpArgs false
namespace Go.Eng
open Go.Proofs
set_option maxRecDepth 100000
set_option maxHeartbeats 4000000
section
variable {er:Nat->Zp}
theorem Jw {x44 i9} (h:Ao x44=some i9) :
  FB er 52 [(.dv (.roI .u8 x44))] [] [] (.dv (.ints .u8 32 i9)) []:=by
 refine fb Tryz.func52 ?_
 unfold Ao at h
 obtain ⟨x45,c,h⟩:=j5 h
 refine cl [] [1] (Xy c) ?_
 refine .inl ?_
 refine .inl ?_
 refine m7 h ?_
 intro x46 h
 obtain ⟨x47,c,h⟩:=j5 h
 refine cl [] [3] (c00 c) ?_
 refine .inl ?_
 obtain ⟨x48,g,h⟩:=j5 h
 refine .inr ⟨[3,5],_,fj (fun x48=>([],[(2,(.rowI .u32 x48))])) x48,0,?_,?_⟩
 ·rintro ⟨x48,rfl⟩
  obtain ⟨x107,g,h⟩:=j5 h
  refine .inr ⟨[237],_,fj (fun x107=>([],[(4,(.var (.dv (.ints .u8 32 x107))))])) x107,0,?_,?_⟩
  ·rintro ⟨x107,rfl⟩
   obtain rfl:=e8 h
   exact ⟨0,[],[],mt⟩
  ·replace h:=g
   refine .inl ?_
   refine ⟨[],_,fl (β:=Nat×Int×(List Int)) (fun (n5,x108,x109)=>(Dh x46 x48 n5 x108 x109=some x107,[(238,(.int .i64 x108))],[(4,(.var (.dv (.ints .u8 32 x109))))],n5)),[],[],⟨(f9,0,(List.replicate 32 (0:Int))),h⟩,mt,?_⟩
   rintro ⟨⟨_|n5,x108,x109⟩,h⟩
   ·exact i6 h
   replace h:=(Dh.eq_2 x46 x48 x108 x109 n5).symm.trans h
   refine v8 h (fun hb h => ?_) (fun hb h => ?_)
   ·refine .inl ?_
    refine m8 h fun hg h => ?_
    refine dc ?_
    refine m7 h ?_
    intro x110 h
    refine dc ?_
    refine m7 h ?_
    intro x111 h
    refine dc ?_
    refine m7 h ?_
    intro x112 h
    refine m8 h fun hg h => ?_
    refine m7 h ?_
    intro x113 h
    refine m8 h fun hg h => ?_
    refine m7 h ?_
    intro x114 h
    refine m8 h fun hg h => ?_
    refine m7 h ?_
    intro x115 h
    refine m8 h fun hg h => ?_
    refine m7 h ?_
    intro x116 h
    refine m7 h ?_
    intro x117 h
    exact ⟨⟨(n5,_,_),h⟩,[],mt,Nat.lt_succ_self _⟩
   ·exact ⟨[],[],⟨_,e8 h⟩,[],mt⟩
 ·replace h:=g
  refine .inl ?_
  refine ⟨[],_,fl (β:=Nat×Int×(List Int)) (fun (n1,x49,x50)=>(W4 x45 x46 x47 n1 x49 x50=some x48,[(6,(.int .i64 x49))],[(2,(.rowI .u32 x50))],n1)),[],[],⟨(f9,0,x46),h⟩,mt,?_⟩
  rintro ⟨⟨_|n1,x49,x50⟩,h⟩
  ·exact i6 h
  replace h:=(W4.eq_2 x45 x46 x47 x49 x50 n1).symm.trans h
  refine v8 h (fun hb h => ?_) (fun hb h => ?_)
  ·refine .inl ?_
   refine dc ?_
   refine .inl ?_
   refine ⟨(List.replicate 64 (0:Int)),rfl,0,(List.length (List.replicate 64 (0:Int))),⟨rfl,List.length_replicate ..⟩,?_⟩
   refine .inl ?_
   obtain ⟨x51,g,h⟩:=j5 h
   refine .inr ⟨[7,38],_,fj (fun x51=>([(7,(.sl 4 [] Hu 0 (List.length x51))),(38,(.sl 4 [] Hu 0 (List.length x51)))],[(4,(.rowI .u32 x51))])) x51,0,?_,?_⟩
   ·rintro ⟨x51,rfl⟩
    refine m8 h fun hg h => ?_
    refine m8 h fun hg h => ?_
    refine m8 h fun hg h => ?_
    refine m8 h fun hg h => ?_
    refine m8 h fun hg h => ?_
    refine m8 h fun hg h => ?_
    refine m8 h fun hg h => ?_
    refine m8 h fun hg h => ?_
    obtain ⟨⟨x72,x73,x74,x75,x76,x77,x78,x79⟩,g,h⟩:=j5 h
    refine .inr ⟨[],_,fj (fun (x72,x73,x74,x75,x76,x77,x78,x79)=>([(12,(.int .u32 x72)),(13,(.int .u32 x73)),(14,(.int .u32 x74)),(15,(.int .u32 x75)),(16,(.int .u32 x76)),(17,(.int .u32 x77)),(18,(.int .u32 x78)),(19,(.int .u32 x79))],[])) (x72,x73,x74,x75,x76,x77,x78,x79),0,?_,?_⟩
    ·rintro ⟨_,rfl⟩
     refine .inl ?_
     refine m7 h ?_
     intro x101 h
     obtain ⟨x102,g,h⟩:=j5 h
     refine .inr ⟨[221],_,fj (fun x102=>([],[(2,(.rowI .u32 x102))])) x102,0,?_,?_⟩
     ·rintro ⟨x102,rfl⟩
      exact ⟨⟨(n1,_,_),h⟩,[],mt,Nat.lt_succ_self _⟩
     ·replace h:=g
      refine .inl ?_
      refine ⟨[],_,fl (β:=Nat×Int×(List Int)) (fun (n4,x103,x104)=>(Gy x46 x72 x73 x74 x75 x76 x77 x78 x79 x101 n4 x103 x104=some x102,[(222,(.int .i64 x103))],[(2,(.rowI .u32 x104))],n4)),[],[],⟨(f9,0,x50),h⟩,mt,?_⟩
      rintro ⟨⟨_|n4,x103,x104⟩,h⟩
      ·exact i6 h
      replace h:=(Gy.eq_2 x46 x72 x73 x74 x75 x76 x77 x78 x79 x101 x103 x104 n4).symm.trans h
      refine v8 h (fun hb h => ?_) (fun hb h => ?_)
      ·refine .inl ?_
       refine m8 h fun hg h => ?_
       refine m7 h ?_
       intro x105 h
       refine m8 h fun hg h => ?_
       refine m7 h ?_
       intro x106 h
       refine m8 h fun hg h => ?_
       exact ⟨⟨(n4,_,_),h⟩,[],mt,Nat.lt_succ_self _⟩
      ·exact ⟨[],[],⟨_,e8 h⟩,[],mt⟩
    ·replace h:=g
     refine .inl ?_
     refine ⟨[],_,fl (β:=Nat×Int×Int×Int×Int×Int×Int×Int×Int×Int) (fun (n3,x80,x81,x82,x83,x84,x85,x86,x87,x88)=>(W3 x45 x51 n3 x80 x81 x82 x83 x84 x85 x86 x87 x88=some (x72,x73,x74,x75,x76,x77,x78,x79),[(12,(.int .u32 x80)),(13,(.int .u32 x81)),(14,(.int .u32 x82)),(15,(.int .u32 x83)),(16,(.int .u32 x84)),(17,(.int .u32 x85)),(18,(.int .u32 x86)),(19,(.int .u32 x87)),(20,(.int .i64 x88))],[],n3)),[],[],⟨(f9,(List.getD x50 0 0),(List.getD x50 1 0),(List.getD x50 2 0),(List.getD x50 3 0),(List.getD x50 4 0),(List.getD x50 5 0),(List.getD x50 6 0),(List.getD x50 7 0),0),h⟩,mt,?_⟩
     rintro ⟨⟨_|n3,x80,x81,x82,x83,x84,x85,x86,x87,x88⟩,h⟩
     ·exact i6 h
     replace h:=(W3.eq_2 x45 x51 x80 x81 x82 x83 x84 x85 x86 x87 x88 n3).symm.trans h
     refine v8 h (fun hb h => ?_) (fun hb h => ?_)
     ·refine .inl ?_
      obtain ⟨x89,c,h⟩:=j5 h
      refine cl [] [] (N4 c) ?_
      obtain ⟨x90,c,h⟩:=j5 h
      refine cl [] [] (N4 c) ?_
      obtain ⟨x91,c,h⟩:=j5 h
      refine cl [] [] (N4 c) ?_
      refine m7 h ?_
      intro x92 h
      refine m7 h ?_
      intro x93 h
      refine m8 h fun hg h => ?_
      refine m7 h ?_
      intro x94 h
      refine m8 h fun hg h => ?_
      refine m7 h ?_
      intro x95 h
      obtain ⟨x96,c,h⟩:=j5 h
      refine cl [] [] (N4 c) ?_
      obtain ⟨x97,c,h⟩:=j5 h
      refine cl [] [] (N4 c) ?_
      obtain ⟨x98,c,h⟩:=j5 h
      refine cl [] [] (N4 c) ?_
      refine m7 h ?_
      intro x99 h
      refine m7 h ?_
      intro x100 h
      exact ⟨⟨(n3,_,_,_,_,_,_,_,_,_),h⟩,[],mt,Nat.lt_succ_self _⟩
     ·exact ⟨[],[],⟨_,e8 h⟩,[],mt⟩
   ·replace h:=g
    refine .inl ?_
    refine ⟨[7,38],_,fl (β:=Nat×Int×(List Int)) (fun (n2,x52,x53)=>(O0 x47 x49 n2 x52 x53=some x51,[(7,(.sl 4 [] Hu 0 (List.length x53))),(8,(.int .i64 x52)),(38,(.sl 4 [] Hu 0 (List.length x53)))],[(4,(.rowI .u32 x53))],n2)),[],[],⟨(f9,0,(List.replicate 64 (0:Int))),h⟩,mt,?_⟩
    rintro ⟨⟨_|n2,x52,x53⟩,h⟩
    ·exact i6 h
    replace h:=(O0.eq_2 x47 x49 x52 x53 n2).symm.trans h
    refine v8 h (fun hb h => ?_) (fun hb h => ?_)
    ·refine .inl ?_
     obtain ⟨x54,g,h⟩:=j5 h
     refine .inr ⟨[7,38],_,fj (fun x54=>([(7,(.sl 4 [] Hu 0 (List.length x54))),(38,(.sl 4 [] Hu 0 (List.length x54)))],[(4,(.rowI .u32 x54))])) x54,0,?_,?_⟩
     ·rintro ⟨x54,rfl⟩
      exact ⟨⟨(n2,_,_),h⟩,[],mt,Nat.lt_succ_self _⟩
     ·replace h:=g
      refine v8 h (fun hb h => ?_) (fun hb h => ?_)
      ·refine m8 h fun hg h => ?_
       refine m7 h ?_
       intro x55 h
       refine m7 h ?_
       intro x56 h
       refine m7 h ?_
       intro x57 h
       refine m8 h fun hg h => ?_
       refine m7 h ?_
       intro x58 h
       refine m7 h ?_
       intro x59 h
       refine m8 h fun hg h => ?_
       refine m7 h ?_
       intro x60 h
       refine m7 h ?_
       intro x61 h
       refine m8 h fun hg h => ?_
       refine m7 h ?_
       intro x62 h
       refine m8 h fun hg h => ?_
       exact ⟨[],[],⟨(List.set x53 (Int.toNat x52) x62),e8 h⟩,[],rfl,⟨(show ((.sl 4 [] Hu 0 (List.length x53)):AV)=((.sl 4 [] Hu 0 (List.length (List.set x53 (Int.toNat x52) x62))):AV) by simp only [List.length_set]),(show ((.sl 4 [] Hu 0 (List.length x53)):AV)=((.sl 4 [] Hu 0 (List.length (List.set x53 (Int.toNat x52) x62))):AV) by simp only [List.length_set]),trivial⟩,⟨rfl,rfl,rfl,rfl,rfl,trivial⟩,rfl⟩
      ·refine m8 h fun hg h => ?_
       refine m8 h fun hg h => ?_
       obtain ⟨x63,c,h⟩:=j5 h
       refine cl [] [] (N4 c) ?_
       obtain ⟨x64,c,h⟩:=j5 h
       refine cl [] [] (N4 c) ?_
       refine dc ?_
       refine m7 h ?_
       intro x65 h
       refine m8 h fun hg h => ?_
       refine m7 h ?_
       intro x66 h
       obtain ⟨x67,c,h⟩:=j5 h
       refine cl [] [] (N4 c) ?_
       obtain ⟨x68,c,h⟩:=j5 h
       refine cl [] [] (N4 c) ?_
       refine dc ?_
       refine m7 h ?_
       intro x69 h
       refine m7 h ?_
       intro x70 h
       refine m8 h fun hg h => ?_
       refine m7 h ?_
       intro x71 h
       refine m8 h fun hg h => ?_
       exact ⟨[],[],⟨(List.set x53 (Int.toNat x52) x71),e8 h⟩,[],rfl,⟨(show ((.sl 4 [] Hu 0 (List.length x53)):AV)=((.sl 4 [] Hu 0 (List.length (List.set x53 (Int.toNat x52) x71))):AV) by simp only [List.length_set]),(show ((.sl 4 [] Hu 0 (List.length x53)):AV)=((.sl 4 [] Hu 0 (List.length (List.set x53 (Int.toNat x52) x71))):AV) by simp only [List.length_set]),trivial⟩,⟨rfl,rfl,rfl,rfl,rfl,trivial⟩,rfl⟩
    ·exact ⟨[],[],⟨_,e8 h⟩,[],mt⟩
  ·exact ⟨[],[],⟨_,e8 h⟩,[],mt⟩
theorem Tu {x42 x43 i9} (h:Ca x42 x43=some i9) :
  FB er 33 [(.dv (.roI .u8 x42)),(.dv (.roI .u8 x43))] [] [] (.dv (.ints .u8 32 i9)) []:=by
 refine fb Tryz.func33 ?_
 unfold Ca at h
 obtain ⟨r1_0_44,hl1_44,hr1_44⟩:=j5 h
 refine .inr ⟨[],(({p:(List Int) // (Sum.inl p)=r1_0_44})⊕({p:Unit // (Sum.inr p)=r1_0_44})),⟨fun|(Sum.inl (⟨x44,_⟩))=>[(0,(.sl 1 [] s6 0 32))]|(Sum.inr (⟨(),_⟩))=>[(0,(.dv (.roI .u8 x42)))],fun|(Sum.inl (⟨x44,_⟩))=>[(1,(.var (.dv (.ints .u8 32 x44))))]|(Sum.inr (⟨(),_⟩))=>[],fun _=>0⟩,1,?_,?_⟩
 ·rintro (⟨x44,hp⟩|⟨⟨⟩,hp⟩)
  ·subst hp
   replace h:=hr1_44
   refine dc ?_
   refine .inl ?_
   refine ⟨(List.replicate 64 (0:Int)),rfl,0,(List.length (List.replicate 64 (0:Int))),⟨rfl,List.length_replicate ..⟩,?_⟩
   refine .inl ?_
   refine dc ?_
   refine .inl ?_
   refine ⟨(List.replicate 64 (0:Int)),rfl,0,(List.length (List.replicate 64 (0:Int))),⟨rfl,List.length_replicate ..⟩,?_⟩
   refine .inl ?_
   obtain ⟨⟨x46,x47⟩,g,h⟩:=j5 h
   refine .inr ⟨[],_,fj (fun (x46,x47)=>([],[(2,(.rowI .u8 x46)),(3,(.rowI .u8 x47))])) (x46,x47),0,?_,?_⟩
   ·rintro ⟨_,rfl⟩
    obtain ⟨hg,h⟩:=gd h
    refine And.intro (hg) ?_
    obtain ⟨hg2,h⟩:=gd h
    refine ⟨((List.take (List.length (List.replicate 64 (0:Int))) x46)++x43),m5 (C8 _ _) (rfl),0,(List.length ((List.take (List.length (List.replicate 64 (0:Int))) x46)++x43)),⟨rfl,Dw hg2 (rfl)⟩,?_⟩
    refine .inl ?_
    refine m7 h ?_
    intro x52 h
    obtain ⟨x53,c,h⟩:=j5 h
    refine cl [true] [] (Jw c) ?_ (hv:=⟨u9 _ _,trivial⟩)
    refine .inl ?_
    refine And.intro (by omega) ?_
    refine ⟨0,32,⟨rfl,rfl⟩,?_⟩
    obtain ⟨hg,h⟩:=gd h
    refine And.intro (j9 (F2 _ _) hg) ?_
    obtain ⟨hg2,h⟩:=gd h
    refine ⟨((List.take (List.length (List.replicate 64 (0:Int))) x47)++(List.take 32 x53)),m5 (C8 _ _) (C8 _ _),0,(List.length ((List.take (List.length (List.replicate 64 (0:Int))) x47)++(List.take 32 x53))),⟨rfl,Dw hg2 (F2 _ _)⟩,?_⟩
    refine .inl ?_
    refine m7 h ?_
    intro x54 h
    obtain ⟨x55,c,h⟩:=j5 h
    refine cl [true] [] (Jw c) ?_ (hv:=⟨u9 _ _,trivial⟩)
    obtain rfl:=e8 h
    exact ⟨0,[],[],mt⟩
   ·replace h:=g
    refine .inl ?_
    refine ⟨[],_,fl (β:=Nat×Int×(List Int)×(List Int)) (fun (n1,x48,x49,x50)=>(W5 x44 n1 x48 x49 x50=some (x46,x47),[(8,(.int .i64 x48))],[(2,(.rowI .u8 x49)),(3,(.rowI .u8 x50))],n1)),[],[],⟨(f9,0,(List.replicate 64 (0:Int)),(List.replicate 64 (0:Int))),h⟩,mt,?_⟩
    rintro ⟨⟨_|n1,x48,x49,x50⟩,h⟩
    ·exact i6 h
    replace h:=(W5.eq_2 x44 x48 x49 x50 n1).symm.trans h
    refine v8 h (fun hb h => ?_) (fun hb h => ?_)
    ·refine .inl ?_
     obtain ⟨x51,g,h⟩:=j5 h
     refine .inr ⟨[],_,fj (fun x51=>([(9,(.int .u8 x51))],[])) x51,0,?_,?_⟩
     ·rintro ⟨x51,rfl⟩
      refine m8 h fun hg h => ?_
      refine m8 h fun hg h => ?_
      exact ⟨⟨(n1,_,_,_),h⟩,[],mt,Nat.lt_succ_self _⟩
     ·replace h:=g
      refine v8 h (fun hb h => ?_) (fun hb h => ?_)
      ·refine m8 h fun hg h => ?_
       exact ⟨[],[],⟨_,e8 h⟩,[],mt⟩
      ·exact ⟨[],[],⟨_,e8 h⟩,[],mt⟩
    ·exact ⟨[],[],⟨_,e8 h⟩,[],mt⟩
  ·subst hp
   replace h:=hr1_44
   refine dc ?_
   refine .inl ?_
   refine ⟨(List.replicate 64 (0:Int)),rfl,0,(List.length (List.replicate 64 (0:Int))),⟨rfl,List.length_replicate ..⟩,?_⟩
   refine .inl ?_
   refine dc ?_
   refine .inl ?_
   refine ⟨(List.replicate 64 (0:Int)),rfl,0,(List.length (List.replicate 64 (0:Int))),⟨rfl,List.length_replicate ..⟩,?_⟩
   refine .inl ?_
   obtain ⟨⟨x56,x57⟩,g,h⟩:=j5 h
   refine .inr ⟨[],_,fj (fun (x56,x57)=>([],[(2,(.rowI .u8 x56)),(3,(.rowI .u8 x57))])) (x56,x57),0,?_,?_⟩
   ·rintro ⟨_,rfl⟩
    obtain ⟨hg,h⟩:=gd h
    refine And.intro (hg) ?_
    obtain ⟨hg2,h⟩:=gd h
    refine ⟨((List.take (List.length (List.replicate 64 (0:Int))) x56)++x43),m5 (C8 _ _) (rfl),0,(List.length ((List.take (List.length (List.replicate 64 (0:Int))) x56)++x43)),⟨rfl,Dw hg2 (rfl)⟩,?_⟩
    refine .inl ?_
    refine m7 h ?_
    intro x62 h
    obtain ⟨x63,c,h⟩:=j5 h
    refine cl [true] [] (Jw c) ?_ (hv:=⟨u9 _ _,trivial⟩)
    refine .inl ?_
    refine And.intro (by omega) ?_
    refine ⟨0,32,⟨rfl,rfl⟩,?_⟩
    obtain ⟨hg,h⟩:=gd h
    refine And.intro (j9 (F2 _ _) hg) ?_
    obtain ⟨hg2,h⟩:=gd h
    refine ⟨((List.take (List.length (List.replicate 64 (0:Int))) x57)++(List.take 32 x63)),m5 (C8 _ _) (C8 _ _),0,(List.length ((List.take (List.length (List.replicate 64 (0:Int))) x57)++(List.take 32 x63))),⟨rfl,Dw hg2 (F2 _ _)⟩,?_⟩
    refine .inl ?_
    refine m7 h ?_
    intro x64 h
    obtain ⟨x65,c,h⟩:=j5 h
    refine cl [true] [] (Jw c) ?_ (hv:=⟨u9 _ _,trivial⟩)
    obtain rfl:=e8 h
    exact ⟨0,[],[],mt⟩
   ·replace h:=g
    refine .inl ?_
    refine ⟨[],_,fl (β:=Nat×Int×(List Int)×(List Int)) (fun (n2,x58,x59,x60)=>(W6 x42 n2 x58 x59 x60=some (x56,x57),[(8,(.int .i64 x58))],[(2,(.rowI .u8 x59)),(3,(.rowI .u8 x60))],n2)),[],[],⟨(f9,0,(List.replicate 64 (0:Int)),(List.replicate 64 (0:Int))),h⟩,mt,?_⟩
    rintro ⟨⟨_|n2,x58,x59,x60⟩,h⟩
    ·exact i6 h
    replace h:=(W6.eq_2 x42 x58 x59 x60 n2).symm.trans h
    refine v8 h (fun hb h => ?_) (fun hb h => ?_)
    ·refine .inl ?_
     obtain ⟨x61,g,h⟩:=j5 h
     refine .inr ⟨[],_,fj (fun x61=>([(9,(.int .u8 x61))],[])) x61,0,?_,?_⟩
     ·rintro ⟨x61,rfl⟩
      refine m8 h fun hg h => ?_
      refine m8 h fun hg h => ?_
      exact ⟨⟨(n2,_,_,_),h⟩,[],mt,Nat.lt_succ_self _⟩
     ·replace h:=g
      refine v8 h (fun hb h => ?_) (fun hb h => ?_)
      ·refine m8 h fun hg h => ?_
       exact ⟨[],[],⟨_,e8 h⟩,[],mt⟩
      ·exact ⟨[],[],⟨_,e8 h⟩,[],mt⟩
    ·exact ⟨[],[],⟨_,e8 h⟩,[],mt⟩
 ·replace h:=hl1_44
  refine v8 h (fun hb h => ?_) (fun hb h => ?_)
  ·obtain ⟨x45,c,h⟩:=j5 h
   refine cl [] [] (Jw c) ?_
   refine .inl ?_
   refine And.intro (by omega) ?_
   refine ⟨0,32,⟨rfl,rfl⟩,?_⟩
   exact ⟨[],[],(Sum.inl (⟨_,e8 h⟩)),[],mt⟩
  ·exact ⟨[],[],(Sum.inr (⟨_,e8 h⟩)),[],mt⟩
theorem Ek {x38 x39 x40 i9} (h:J8 x38 x39 x40=some i9) :
  FB er 26 [(.dv (.str x38)),(.dv (.str x39)),(.dv (.roI .u8 x40))] [] [] (.dv (.ints .u8 32 i9)) []:=by
 refine fb Tryz.func26 ?_
 unfold J8 at h
 refine m8 h fun hg h => ?_
 refine m8 h fun hg h => ?_
 refine ⟨(List.map (fun q:UInt8=>(q.toNat:Int)) (([72,80,75,69,45,118,49]++x38)++x39)),rfl,0,(List.length (List.map (fun q:UInt8=>(q.toNat:Int)) (([72,80,75,69,45,118,49]++x38)++x39))),⟨rfl,List.length_map ..⟩,?_⟩
 refine .inl ?_
 refine m7 h ?_
 intro x41 h
 obtain ⟨hg,h⟩:=gd h
 refine And.intro (hg) ?_
 refine ⟨(x41++x40),m5 (i7 _) (rfl),0,(List.length (x41++x40)),⟨rfl,r7 (rfl)⟩,?_⟩
 refine .inl ?_
 obtain ⟨x42,c,h⟩:=j5 h
 refine cl [false,true] [] (Tu c) ?_ (hv:=⟨(.inr (.inr ⟨rfl,.inl ⟨_,rfl⟩⟩)),u9 _ _,trivial⟩)
 obtain rfl:=e8 h
 exact ⟨0,[],[],mt⟩
theorem c01 {x51 x52 x53 i9} (h:W7 x51 x52 x53=some i9) :
  FB er 46 [(.dv (.roI .u8 x51)),(.dv (.roI .u8 x52)),(.int .i64 x53)] [] [0] (.sl 0 [] s6 0 (Int.toNat (x53-0))) [(.rowI .u8 i9)]:=by
 refine fb Tryz.func46 ?_
 unfold W7 at h
 refine .inl ?_
 refine .inl ?_
 obtain ⟨r1_0_55,hl1_55,hr1_55⟩:=j5 h
 refine .inr ⟨[0,1,11,12],(({p:Unit // (Sum.inl p)=r1_0_55})⊕(({p:Unit // (Sum.inr (Sum.inl p))=r1_0_55})⊕({p:(List Int)×(List Int) // (Sum.inr (Sum.inr p))=r1_0_55}))),⟨fun|(Sum.inl (⟨(),_⟩))=>[(7,(.sl 0 [] s6 0 (List.length ([]:List Int)))),(11,(.sl 0 [] s6 0 (List.length ([]:List Int)))),(12,(.sl 1 [] s6 0 (List.length ([]:List Int))))]|(Sum.inr (Sum.inl (⟨(),_⟩)))=>[(7,(.sl 0 [] s6 0 (List.length ([]:List Int)))),(12,(.sl 1 [] s6 0 (List.length ([]:List Int))))]|(Sum.inr (Sum.inr (⟨(x54,x55),_⟩)))=>[(7,(.sl 0 [] s6 0 (List.length x54)))],fun|(Sum.inl (⟨(),_⟩))=>[]|(Sum.inr (Sum.inl (⟨(),_⟩)))=>[]|(Sum.inr (Sum.inr (⟨(x54,x55),_⟩)))=>[(0,(.rowI .u8 x54)),(1,(.rowI .u8 x55))],fun _=>0⟩,0,?_,?_⟩
 ·rintro (⟨⟨⟩,hp⟩|⟨⟨⟩,hp⟩|⟨⟨x54,x55⟩,hp⟩)
  ·subst hp
   replace h:=hr1_55
   refine m8 h fun hg h => ?_
   refine m8 h fun hg h => ?_
   refine ⟨0,(Int.toNat (x53-0)),⟨by simp,rfl⟩,?_⟩
   obtain rfl:=e8 h
   exact ⟨0,[],[],mt⟩
  ·subst hp
   replace h:=hr1_55
   refine m8 h fun hg h => ?_
   refine m8 h fun hg h => ?_
   refine ⟨0,(Int.toNat (x53-0)),⟨by simp,rfl⟩,?_⟩
   obtain rfl:=e8 h
   exact ⟨0,[],[],mt⟩
  ·subst hp
   replace h:=hr1_55
   refine m8 h fun hg h => ?_
   refine m8 h fun hg h => ?_
   refine ⟨0,(Int.toNat (x53-0)),⟨by simp,rfl⟩,?_⟩
   obtain rfl:=e8 h
   exact ⟨0,[],[],mt⟩
 ·replace h:=hl1_55
  refine .inl ?_
  refine ⟨[11,12],_,fl (β:=Nat×Nat×Int×(List Int)×(List Int)) (fun (n1,x59,x60,x61,x62)=>(V6 x51 x52 x53 n1 x59 x60 x61 x62=some r1_0_55,[(7,(.sl 0 [] s6 0 (List.length x61))),(8,(.sl 1 [] s6 0 x59)),(9,(.int .i64 x60))],[(0,(.rowI .u8 x61)),(1,(.rowI .u8 x62))],n1)),[],[],⟨(f9,(List.length ([]:List Int)),1,([]:List Int),([]:List Int)),h⟩,mt,?_⟩
  rintro ⟨⟨_|n1,x59,x60,x61,x62⟩,h⟩
  ·exact i6 h
  replace h:=(V6.eq_2 x51 x52 x53 x59 x60 x61 x62 n1).symm.trans h
  refine v8 h (fun hb h => ?_) (fun hb h => ?_)
  ·refine .inl ?_
   refine .inl ?_
   obtain ⟨hg,h⟩:=gd h
   refine And.intro (j9 (F2 _ _) hg) ?_
   refine ⟨(([]:List Int)++(List.take x59 x62)),m5 (i7 _) (C8 _ _),0,(List.length (([]:List Int)++(List.take x59 x62))),⟨rfl,r7 (F2 _ _)⟩,?_⟩
   refine .inl ?_
   obtain ⟨hg,h⟩:=gd h
   refine And.intro (hg) ?_
   refine ⟨((([]:List Int)++(List.take x59 x62))++x52),m5 (i7 _) (rfl),0,(List.length ((([]:List Int)++(List.take x59 x62))++x52)),⟨rfl,r7 (rfl)⟩,?_⟩
   refine .inl ?_
   refine .inl ?_
   obtain ⟨hg,h⟩:=gd h
   refine And.intro (j9 (o5 [(IntKind.wrap .u8 x60)]) hg) ?_
   refine ⟨(((([]:List Int)++(List.take x59 x62))++x52)++[(IntKind.wrap .u8 x60)]),m5 (i7 _) (i7 [(IntKind.wrap .u8 x60)]),0,(List.length (((([]:List Int)++(List.take x59 x62))++x52)++[(IntKind.wrap .u8 x60)])),⟨rfl,r7 (o5 [(IntKind.wrap .u8 x60)])⟩,?_⟩
   refine .inl ?_
   refine m7 h ?_
   intro x63 h
   obtain ⟨x64,c,h⟩:=j5 h
   refine cl [false,true] [] (Tu c) ?_ (hv:=⟨.inl rfl,u9 _ _,trivial⟩)
   refine .inr ?_
   refine And.intro (by omega) ?_
   refine ⟨x64,rfl,0,32,⟨rfl,rfl⟩,?_⟩
   obtain ⟨hg,h⟩:=gd h
   refine And.intro (j9 (F2 _ _) hg) ?_
   refine ⟨(x61++(List.take 32 x64)),m5 (i7 _) (C8 _ _),0,(List.length (x61++(List.take 32 x64))),⟨rfl,r7 (F2 _ _)⟩,?_⟩
   refine .inl ?_
   exact ⟨⟨(n1,_,_,_,_),h⟩,[(0,8),(1,7)],mt,Nat.lt_succ_self _⟩
  ·exact ⟨[],[],(Sum.inr (Sum.inr (⟨_,e8 h⟩))),[],mt⟩
theorem Ga {x44 x45 x46 x47 x48 i9} (h:I9 x44 x45 x46 x47 x48=some i9) :
  FB er 25 [(.dv (.str x44)),(.dv (.ints .u8 32 x45)),(.dv (.str x46)),(.dv (.roI .u8 x47)),(.int .i64 x48)] [] [4] (.sl 4 [] s6 0 (Int.toNat (x48-0))) [(.rowI .u8 i9)]:=by
 refine fb Tryz.func25 ?_
 unfold I9 at h
 refine dc ?_
 refine dc ?_
 refine .inl ?_
 refine m7 h ?_
 intro x49 h
 refine m8 h fun hg h => ?_
 refine m8 h fun hg h => ?_
 obtain ⟨hg,h⟩:=gd h
 refine And.intro (hg) ?_
 refine ⟨(x49++(List.map (fun q:UInt8=>(q.toNat:Int)) (([72,80,75,69,45,118,49]++x44)++x46))),m5 (i7 _) (rfl),0,(List.length (x49++(List.map (fun q:UInt8=>(q.toNat:Int)) (([72,80,75,69,45,118,49]++x44)++x46)))),⟨rfl,r7 (rfl)⟩,?_⟩
 refine .inl ?_
 refine m7 h ?_
 intro x50 h
 refine .inl ?_
 refine And.intro (by omega) ?_
 refine ⟨0,32,⟨rfl,rfl⟩,?_⟩
 obtain ⟨hg,h⟩:=gd h
 refine And.intro (hg) ?_
 refine ⟨(x50++x47),m5 (i7 _) (rfl),0,(List.length (x50++x47)),⟨rfl,r7 (rfl)⟩,?_⟩
 refine .inl ?_
 obtain ⟨x51,c,h⟩:=j5 h
 refine cl [true,true,false] [4] (c01 c) ?_ (hv:=⟨.inl rfl,u9 _ _,.inl rfl,trivial⟩)
 refine .inl ?_
 obtain rfl:=e8 h
 exact ⟨0,[],[],mt⟩
theorem Tv {x53 i9} (h:Ke x53=some i9) :
  FB er 24 [(.dv (.roI .u8 x53))] [] [] (.dv (.ints .u8 32 i9)) []:=by
 refine fb Tryz.func24 ?_
 unfold Ke at h
 obtain ⟨x54,g,h⟩:=j5 h
 refine .inr ⟨[8],_,fj (fun x54=>([],[(1,(.var (.dv (.ints .u8 32 x54))))])) x54,0,?_,?_⟩
 ·rintro ⟨x54,rfl⟩
  obtain rfl:=e8 h
  exact ⟨0,[],[],mt⟩
 ·replace h:=g
  refine .inl ?_
  refine ⟨[],_,fl (β:=Nat×Int×(List Int)) (fun (n1,x55,x56)=>(W8 x53 n1 x55 x56=some x54,[(9,(.int .i64 x55))],[(1,(.var (.dv (.ints .u8 32 x56))))],n1)),[],[],⟨(f9,0,(List.replicate 32 (0:Int))),h⟩,mt,?_⟩
  rintro ⟨⟨_|n1,x55,x56⟩,h⟩
  ·exact i6 h
  replace h:=(W8.eq_2 x53 x55 x56 n1).symm.trans h
  refine v8 h (fun hb h => ?_) (fun hb h => ?_)
  ·refine .inl ?_
   refine m8 h fun hg h => ?_
   refine m8 h fun hg h => ?_
   refine m7 h ?_
   intro x57 h
   exact ⟨⟨(n1,_,_),h⟩,[],mt,Nat.lt_succ_self _⟩
  ·exact ⟨[],[],⟨_,e8 h⟩,[],mt⟩
theorem d41 {x62 i9} (h:Kf x62=some i9) :
  FB er 77 [(.dv (.ints .u8 32 x62))] [] [] (.dv (.ints .u8 32 i9)) []:=by
 refine fb Tryz.func77 ?_
 unfold Kf at h
 refine dc ?_
 refine dc ?_
 refine m7 h ?_
 intro x63 h
 refine dc ?_
 refine dc ?_
 refine dc ?_
 refine m7 h ?_
 intro x64 h
 refine dc ?_
 obtain rfl:=e8 h
 exact ⟨0,[],[],mt⟩
theorem e84 {x67 i9} (h:Na x67=some i9) :
  FB er 111 [(.dv (.ints .u8 32 x67))] [] [] (.dv (.ints .u32 8 i9)) []:=by
 refine fb Tryz.func111 ?_
 unfold Na at h
 obtain ⟨x68,g,h⟩:=j5 h
 refine .inr ⟨[1],_,fj (fun x68=>([],[(2,(.var (.dv (.ints .u32 8 x68))))])) x68,0,?_,?_⟩
 ·rintro ⟨x68,rfl⟩
  obtain rfl:=e8 h
  exact ⟨0,[],[],mt⟩
 ·replace h:=g
  refine .inl ?_
  refine ⟨[],_,fl (β:=Nat×Int×(List Int)) (fun (n1,x69,x70)=>(Bf x67 n1 x69 x70=some x68,[(4,(.int .i64 x69))],[(2,(.var (.dv (.ints .u32 8 x70))))],n1)),[],[],⟨(f9,0,(List.replicate 8 (0:Int))),h⟩,mt,?_⟩
  rintro ⟨⟨_|n1,x69,x70⟩,h⟩
  ·exact i6 h
  replace h:=(Bf.eq_2 x67 x69 x70 n1).symm.trans h
  refine v8 h (fun hb h => ?_) (fun hb h => ?_)
  ·refine .inl ?_
   refine dc ?_
   refine m8 h fun hg h => ?_
   refine m7 h ?_
   intro x71 h
   refine m8 h fun hg h => ?_
   refine dc ?_
   refine m7 h ?_
   intro x72 h
   refine m8 h fun hg h => ?_
   refine m7 h ?_
   intro x73 h
   refine m8 h fun hg h => ?_
   refine m7 h ?_
   intro x74 h
   exact ⟨⟨(n1,_,_),h⟩,[],mt,Nat.lt_succ_self _⟩
  ·exact ⟨[],[],⟨_,e8 h⟩,[],mt⟩
theorem Wa {i9} (h:Tw=some i9) :
  FB er 114 [] [] [] (.dv (.ints .u32 8 i9)) []:=by
 refine fb Tryz.func114 ?_
 unfold Tw at h
 refine m7 h ?_
 intro x77 h
 obtain rfl:=e8 h
 exact ⟨0,[],[],mt⟩
theorem e85 {x79 x80 i9} (h:Ip x79 x80=some i9) :
  FB er 129 [(.dv (.ints .u32 8 x79)),(.dv (.ints .u32 8 x80))] [] [] (.bl i9) []:=by
 refine fb Tryz.func129 ?_
 unfold Ip at h
 obtain ⟨r1_0_81,hl1_81,hr1_81⟩:=j5 h
 refine .inr ⟨[2,3],{p:Unit // (Sum.inl p)=r1_0_81},⟨fun|⟨(),_⟩=>[(4,(.dv (.sc (.bool false))))],fun|⟨(),_⟩=>[],fun _=>0⟩,0,?_,?_⟩
 ·rintro ⟨⟨⟩,hp⟩
  subst hp
  replace h:=hr1_81
  obtain rfl:=e8 h
  exact ⟨0,[],[],mt⟩
 ·replace h:=hl1_81
  refine .inl ?_
  refine ⟨[],_,fl (β:=Nat×Int) (fun (n1,x82)=>(Eu x79 x80 n1 x82=some r1_0_81,[(4,(.dv (.sc (.bool false)))),(5,(.int .i64 x82))],[],n1)),[],[],⟨(f9,7),h⟩,mt,?_⟩
  rintro ⟨⟨_|n1,x82⟩,h⟩
  ·exact i6 h
  replace h:=(Eu.eq_2 x79 x80 x82 n1).symm.trans h
  refine v8 h (fun hb h => ?_) (fun hb h => ?_)
  ·refine .inl ?_
   refine m8 h fun hg h => ?_
   refine m8 h fun hg h => ?_
   refine m7 h ?_
   intro x83 h
   refine v8 h (fun hb h => ?_) (fun hb h => ?_)
   ·refine m8 h fun hg h => ?_
    refine m8 h fun hg h => ?_
    refine m7 h ?_
    intro x84 h
    obtain rfl:=e8 h
    replace h:=hr1_81
    obtain rfl:=e8 h
    exact ⟨0,[],[],mt⟩
   ·exact ⟨⟨(n1,_),h⟩,[],mt,Nat.lt_succ_self _⟩
  ·exact ⟨[],[],⟨_,e8 h⟩,[],mt⟩
theorem Ok {x87 x88 i9} (h:Cv x87 x88=some i9) :
  FB er 113 [(.dv (.ints .u32 8 x87)),(.dv (.ints .u32 8 x88))] [] [] (.dv (.ints .u32 8 i9)) []:=by
 refine fb Tryz.func113 ?_
 unfold Cv at h
 obtain ⟨x89,g,h⟩:=j5 h
 refine .inr ⟨[2,3],_,fj (fun x89=>([],[(3,(.var (.dv (.ints .u32 8 x89))))])) x89,0,?_,?_⟩
 ·rintro ⟨x89,rfl⟩
  obtain rfl:=e8 h
  exact ⟨0,[],[],mt⟩
 ·replace h:=g
  refine .inl ?_
  refine ⟨[],_,fl (β:=Nat×Int×Int×(List Int)) (fun (n1,x90,x91,x92)=>(Gc x87 x88 n1 x90 x91 x92=some x89,[(6,(.int .u64 x90)),(7,(.int .i64 x91))],[(3,(.var (.dv (.ints .u32 8 x92))))],n1)),[],[],⟨(f9,0,0,(List.replicate 8 (0:Int))),h⟩,mt,?_⟩
  rintro ⟨⟨_|n1,x90,x91,x92⟩,h⟩
  ·exact i6 h
  replace h:=(Gc.eq_2 x87 x88 x90 x91 x92 n1).symm.trans h
  refine v8 h (fun hb h => ?_) (fun hb h => ?_)
  ·refine .inl ?_
   refine m8 h fun hg h => ?_
   refine m7 h ?_
   intro x93 h
   refine m8 h fun hg h => ?_
   refine m7 h ?_
   intro x94 h
   refine m8 h fun hg h => ?_
   refine m7 h ?_
   intro x95 h
   refine dc ?_
   refine m7 h ?_
   intro x96 h
   exact ⟨⟨(n1,_,_,_),h⟩,[],mt,Nat.lt_succ_self _⟩
  ·exact ⟨[],[],⟨_,e8 h⟩,[],mt⟩
theorem Ol {x76 i9} (h:Cw x76=some i9) :
  FB er 110 [(.dv (.ints .u32 8 x76))] [] [] (.dv (.ints .u32 8 i9)) []:=by
 refine fb Tryz.func110 ?_
 unfold Cw at h
 obtain ⟨x77,g,h⟩:=j5 h
 refine .inr ⟨[],_,fj (fun x77=>([],[(0,(.var (.dv (.ints .u32 8 x77))))])) x77,0,?_,?_⟩
 ·rintro ⟨x77,rfl⟩
  obtain rfl:=e8 h
  exact ⟨0,[],[],mt⟩
 ·replace h:=g
  refine .inl ?_
  refine ⟨[],_,fl (β:=Nat×(List Int)) (fun (n1,x78)=>(Y9 n1 x78=some x77,[],[(0,(.var (.dv (.ints .u32 8 x78))))],n1)),[],[],⟨(f9,x76),h⟩,mt,?_⟩
  rintro ⟨⟨_|n1,x78⟩,h⟩
  ·exact i6 h
  replace h:=(Y9.eq_2 x78 n1).symm.trans h
  obtain ⟨x79,c,h⟩:=j5 h
  refine cl [] [] (Wa c) ?_
  obtain ⟨x80,c,h⟩:=j5 h
  refine cl [] [] (e85 c) ?_
  refine v8 h (fun hb h => ?_) (fun hb h => ?_)
  ·refine .inl ?_
   obtain ⟨x81,c,h⟩:=j5 h
   refine cl [] [] (Wa c) ?_
   obtain ⟨x82,c,h⟩:=j5 h
   refine cl [] [] (Ok c) ?_
   exact ⟨⟨(n1,_),h⟩,[],mt,Nat.lt_succ_self _⟩
  ·exact ⟨[],[],⟨_,e8 h⟩,[],mt⟩
theorem c02 {x66 i9} (h:Gz x66=some i9) :
  FB er 78 [(.dv (.ints .u8 32 x66))] [] [] (.dv (.ints .u32 8 i9)) []:=by
 refine fb Tryz.func78 ?_
 unfold Gz at h
 refine dc ?_
 refine dc ?_
 refine dc ?_
 obtain ⟨x67,c,h⟩:=j5 h
 refine cl [] [] (e84 c) ?_
 obtain ⟨x68,c,h⟩:=j5 h
 refine cl [] [] (Ol c) ?_
 obtain rfl:=e8 h
 exact ⟨0,[],[],mt⟩
theorem Zk {x79 i9} (h:Iq x79=some i9) :
  FB er 112 [(.dv (.ints .u32 16 x79))] [] [] (.dv (.ints .u32 8 i9)) []:=by
 refine fb Tryz.func112 ?_
 unfold Iq at h
 obtain ⟨⟨x80,x81⟩,g,h⟩:=j5 h
 refine .inr ⟨[1],_,fj (fun (x80,x81)=>([(4,(.int .u64 x80))],[(2,(.var (.dv (.ints .u32 8 x81))))])) (x80,x81),0,?_,?_⟩
 ·rintro ⟨_,rfl⟩
  obtain ⟨⟨x88,x89⟩,g,h⟩:=j5 h
  refine .inr ⟨[],_,fj (fun (x88,x89)=>([(4,(.int .u64 x88))],[(2,(.var (.dv (.ints .u32 8 x89))))])) (x88,x89),0,?_,?_⟩
  ·rintro ⟨_,rfl⟩
   obtain ⟨x98,c,h⟩:=j5 h
   refine cl [] [] (Ol c) ?_
   obtain rfl:=e8 h
   exact ⟨0,[],[],mt⟩
  ·replace h:=g
   refine .inl ?_
   refine ⟨[],_,fl (β:=Nat×Int×(List Int)) (fun (n2,x90,x91)=>(Bi n2 x90 x91=some (x88,x89),[(4,(.int .u64 x90))],[(2,(.var (.dv (.ints .u32 8 x91))))],n2)),[],[],⟨(f9,x80,x81),h⟩,mt,?_⟩
   rintro ⟨⟨_|n2,x90,x91⟩,h⟩
   ·exact i6 h
   replace h:=(Bi.eq_2 x90 x91 n2).symm.trans h
   refine v8 h (fun hb h => ?_) (fun hb h => ?_)
   ·refine .inl ?_
    obtain ⟨⟨x92,x93⟩,g,h⟩:=j5 h
    refine .inr ⟨[],_,fj (fun (x92,x93)=>([(7,(.int .u64 x92))],[(2,(.var (.dv (.ints .u32 8 x93))))])) (x92,x93),0,?_,?_⟩
    ·rintro ⟨_,rfl⟩
     exact ⟨⟨(n2,_,_),h⟩,[],mt,Nat.lt_succ_self _⟩
    ·replace h:=g
     refine .inl ?_
     refine ⟨[],_,fl (β:=Nat×Int×Int×(List Int)) (fun (n3,x94,x95,x96)=>(Bh n3 x94 x95 x96=some (x92,x93),[(7,(.int .u64 x94)),(8,(.int .i64 x95))],[(2,(.var (.dv (.ints .u32 8 x96))))],n3)),[],[],⟨(f9,(IntKind.wrap .u64 (x90*38)),0,x91),h⟩,mt,?_⟩
     rintro ⟨⟨_|n3,x94,x95,x96⟩,h⟩
     ·exact i6 h
     replace h:=(Bh.eq_2 x94 x95 x96 n3).symm.trans h
     refine v8 h (fun hb h => ?_) (fun hb h => ?_)
     ·refine .inl ?_
      refine m8 h fun hg h => ?_
      refine m7 h ?_
      intro x97 h
      refine m8 h fun hg h => ?_
      refine dc ?_
      exact ⟨⟨(n3,_,_,_),h⟩,[],mt,Nat.lt_succ_self _⟩
     ·exact ⟨[],[],⟨_,e8 h⟩,[],mt⟩
   ·exact ⟨[],[],⟨_,e8 h⟩,[],mt⟩
 ·replace h:=g
  refine .inl ?_
  refine ⟨[],_,fl (β:=Nat×Int×Int×(List Int)) (fun (n1,x82,x83,x84)=>(Bg x79 n1 x82 x83 x84=some (x80,x81),[(4,(.int .u64 x82)),(5,(.int .i64 x83))],[(2,(.var (.dv (.ints .u32 8 x84))))],n1)),[],[],⟨(f9,0,0,(List.replicate 8 (0:Int))),h⟩,mt,?_⟩
  rintro ⟨⟨_|n1,x82,x83,x84⟩,h⟩
  ·exact i6 h
  replace h:=(Bg.eq_2 x79 x82 x83 x84 n1).symm.trans h
  refine v8 h (fun hb h => ?_) (fun hb h => ?_)
  ·refine .inl ?_
   refine m8 h fun hg h => ?_
   refine m8 h fun hg h => ?_
   refine m7 h ?_
   intro x85 h
   refine m7 h ?_
   intro x86 h
   refine m8 h fun hg h => ?_
   refine m7 h ?_
   intro x87 h
   refine dc ?_
   exact ⟨⟨(n1,_,_,_),h⟩,[],mt,Nat.lt_succ_self _⟩
  ·exact ⟨[],[],⟨_,e8 h⟩,[],mt⟩
theorem Jx {x75 x76 i9} (h:Cb x75 x76=some i9) :
  FB er 79 [(.dv (.ints .u32 8 x75)),(.dv (.ints .u32 8 x76))] [] [] (.dv (.ints .u32 8 i9)) []:=by
 refine fb Tryz.func79 ?_
 unfold Cb at h
 obtain ⟨⟨x77,x78⟩,g,h⟩:=j5 h
 refine .inr ⟨[2,3],_,fj (fun (x77,x78)=>([(6,(.int .u64 x77))],[(3,(.var (.dv (.ints .u32 16 x78))))])) (x77,x78),0,?_,?_⟩
 ·rintro ⟨_,rfl⟩
  refine dc ?_
  obtain ⟨x84,c,h⟩:=j5 h
  refine cl [] [] (Zk c) ?_
  obtain rfl:=e8 h
  exact ⟨0,[],[],mt⟩
 ·replace h:=g
  refine .inl ?_
  refine ⟨[],_,fl (β:=Nat×Int×Int×(List Int)) (fun (n1,x79,x80,x81)=>(Di x75 x76 n1 x79 x80 x81=some (x77,x78),[(6,(.int .u64 x79)),(7,(.int .i64 x80))],[(3,(.var (.dv (.ints .u32 16 x81))))],n1)),[],[],⟨(f9,0,0,(List.replicate 16 (0:Int))),h⟩,mt,?_⟩
  rintro ⟨⟨_|n1,x79,x80,x81⟩,h⟩
  ·exact i6 h
  replace h:=(Di.eq_2 x75 x76 x79 x80 x81 n1).symm.trans h
  refine v8 h (fun hb h => ?_) (fun hb h => ?_)
  ·refine .inl ?_
   refine m8 h fun hg h => ?_
   refine m8 h fun hg h => ?_
   refine m7 h ?_
   intro x82 h
   refine m8 h fun hg h => ?_
   refine m7 h ?_
   intro x83 h
   refine dc ?_
   exact ⟨⟨(n1,_,_,_),h⟩,[],mt,Nat.lt_succ_self _⟩
  ·exact ⟨[],[],⟨_,e8 h⟩,[],mt⟩
theorem D0 {x86 x87 i9} (h:B3 x86 x87=some i9) :
  FB er 80 [(.dv (.ints .u32 8 x86)),(.dv (.ints .u32 8 x87))] [] [] (.dv (.ints .u32 8 i9)) []:=by
 refine fb Tryz.func80 ?_
 unfold B3 at h
 obtain ⟨x88,g,h⟩:=j5 h
 refine .inr ⟨[2,3],_,fj (fun x88=>([],[(3,(.var (.dv (.ints .u32 16 x88))))])) x88,0,?_,?_⟩
 ·rintro ⟨x88,rfl⟩
  obtain ⟨x101,c,h⟩:=j5 h
  refine cl [] [] (Zk c) ?_
  obtain rfl:=e8 h
  exact ⟨0,[],[],mt⟩
 ·replace h:=g
  refine .inl ?_
  refine ⟨[],_,fl (β:=Nat×Int×(List Int)) (fun (n1,x89,x90)=>(Z0 x86 x87 n1 x89 x90=some x88,[(6,(.int .i64 x89))],[(3,(.var (.dv (.ints .u32 16 x90))))],n1)),[],[],⟨(f9,0,(List.replicate 16 (0:Int))),h⟩,mt,?_⟩
  rintro ⟨⟨_|n1,x89,x90⟩,h⟩
  ·exact i6 h
  replace h:=(Z0.eq_2 x86 x87 x89 x90 n1).symm.trans h
  refine v8 h (fun hb h => ?_) (fun hb h => ?_)
  ·refine .inl ?_
   obtain ⟨⟨x91,x92⟩,g,h⟩:=j5 h
   refine .inr ⟨[],_,fj (fun (x91,x92)=>([(7,(.int .u64 x91))],[(3,(.var (.dv (.ints .u32 16 x92))))])) (x91,x92),0,?_,?_⟩
   ·rintro ⟨_,rfl⟩
    refine m8 h fun hg h => ?_
    refine m7 h ?_
    intro x100 h
    exact ⟨⟨(n1,_,_),h⟩,[],mt,Nat.lt_succ_self _⟩
   ·replace h:=g
    refine .inl ?_
    refine ⟨[],_,fl (β:=Nat×Int×Int×(List Int)) (fun (n2,x93,x94,x95)=>(Gd x86 x87 x89 n2 x93 x94 x95=some (x91,x92),[(7,(.int .u64 x93)),(8,(.int .i64 x94))],[(3,(.var (.dv (.ints .u32 16 x95))))],n2)),[],[],⟨(f9,0,0,x90),h⟩,mt,?_⟩
    rintro ⟨⟨_|n2,x93,x94,x95⟩,h⟩
    ·exact i6 h
    replace h:=(Gd.eq_2 x86 x87 x89 x93 x94 x95 n2).symm.trans h
    refine v8 h (fun hb h => ?_) (fun hb h => ?_)
    ·refine .inl ?_
     refine m8 h fun hg h => ?_
     refine m8 h fun hg h => ?_
     refine m7 h ?_
     intro x96 h
     refine m8 h fun hg h => ?_
     refine m7 h ?_
     intro x97 h
     refine m7 h ?_
     intro x98 h
     refine m8 h fun hg h => ?_
     refine m7 h ?_
     intro x99 h
     refine dc ?_
     exact ⟨⟨(n2,_,_,_),h⟩,[],mt,Nat.lt_succ_self _⟩
    ·exact ⟨[],[],⟨_,e8 h⟩,[],mt⟩
  ·exact ⟨[],[],⟨_,e8 h⟩,[],mt⟩
theorem Om {x103 x104 i9} (h:Ev x103 x104=some i9) :
  FB er 81 [(.dv (.ints .u32 8 x103)),(.dv (.ints .u32 8 x104))] [] [] (.dv (.ints .u32 8 i9)) []:=by
 refine fb Tryz.func81 ?_
 unfold Ev at h
 obtain ⟨x105,c,h⟩:=j5 h
 refine cl [] [] (Wa c) ?_
 obtain ⟨x106,c,h⟩:=j5 h
 refine cl [] [] (Ol c) ?_
 obtain ⟨x107,c,h⟩:=j5 h
 refine cl [] [] (Ok c) ?_
 obtain ⟨x108,c,h⟩:=j5 h
 refine cl [] [] (Jx c) ?_
 obtain rfl:=e8 h
 exact ⟨0,[],[],mt⟩
theorem d42 {x80 x81 i9} (h:Oq x80 x81=some i9) :
  FB er 115 [(.dv (.ints .u32 8 x80)),(.dv (.ints .u32 8 x81))] [] [] (.dv (.ints .u32 8 i9)) []:=by
 refine fb Tryz.func115 ?_
 unfold Oq at h
 obtain ⟨x82,g,h⟩:=j5 h
 refine .inr ⟨[2,3],_,fj (fun x82=>([],[(3,(.var (.dv (.ints .u32 8 x82))))])) x82,0,?_,?_⟩
 ·rintro ⟨x82,rfl⟩
  obtain rfl:=e8 h
  exact ⟨0,[],[],mt⟩
 ·replace h:=g
  refine .inl ?_
  refine ⟨[],_,fl (β:=Nat×Int×(List Int)) (fun (n1,x83,x84)=>(S9 x80 x81 n1 x83 x84=some x82,[(6,(.int .i64 x83))],[(3,(.var (.dv (.ints .u32 8 x84))))],n1)),[],[],⟨(f9,255,(List.set (List.replicate 8 (0:Int)) 0 1)),h⟩,mt,?_⟩
  rintro ⟨⟨_|n1,x83,x84⟩,h⟩
  ·exact i6 h
  replace h:=(S9.eq_2 x80 x81 x83 x84 n1).symm.trans h
  refine v8 h (fun hb h => ?_) (fun hb h => ?_)
  ·refine .inl ?_
   obtain ⟨x85,c,h⟩:=j5 h
   refine cl [] [] (D0 c) ?_
   refine dc ?_
   refine m8 h fun hg h => ?_
   refine m7 h ?_
   intro x86 h
   refine dc ?_
   refine m8 h fun hg h => ?_
   refine m7 h ?_
   intro x87 h
   obtain ⟨x88,g,h⟩:=j5 h
   refine .inr ⟨[],_,fj (fun x88=>([],[(3,(.var (.dv (.ints .u32 8 x88))))])) x88,0,?_,?_⟩
   ·rintro ⟨x88,rfl⟩
    exact ⟨⟨(n1,_,_),h⟩,[],mt,Nat.lt_succ_self _⟩
   ·replace h:=g
    refine v8 h (fun hb h => ?_) (fun hb h => ?_)
    ·obtain ⟨x89,c,h⟩:=j5 h
     refine cl [] [] (D0 c) ?_
     exact ⟨[],[],⟨_,e8 h⟩,[],mt⟩
    ·exact ⟨[],[],⟨_,e8 h⟩,[],mt⟩
  ·exact ⟨[],[],⟨_,e8 h⟩,[],mt⟩
theorem c03 {x77 i9} (h:Ha x77=some i9) :
  FB er 83 [(.dv (.ints .u32 8 x77))] [] [] (.dv (.ints .u32 8 i9)) []:=by
 refine fb Tryz.func83 ?_
 unfold Ha at h
 obtain ⟨x78,c,h⟩:=j5 h
 refine cl [] [] (Wa c) ?_
 obtain ⟨x79,c,h⟩:=j5 h
 refine cl [] [] (Ok c) ?_
 obtain ⟨x80,c,h⟩:=j5 h
 refine cl [] [] (d42 c) ?_
 obtain rfl:=e8 h
 exact ⟨0,[],[],mt⟩
theorem d43 {x83 i9} (h:Kg x83=some i9) :
  FB er 82 [(.dv (.ints .u32 8 x83))] [] [] (.dv (.ints .u8 32 i9)) []:=by
 refine fb Tryz.func82 ?_
 unfold Kg at h
 obtain ⟨x84,g,h⟩:=j5 h
 refine .inr ⟨[1],_,fj (fun x84=>([],[(2,(.var (.dv (.ints .u8 32 x84))))])) x84,0,?_,?_⟩
 ·rintro ⟨x84,rfl⟩
  obtain rfl:=e8 h
  exact ⟨0,[],[],mt⟩
 ·replace h:=g
  refine .inl ?_
  refine ⟨[],_,fl (β:=Nat×Int×(List Int)) (fun (n1,x85,x86)=>(Z1 x83 n1 x85 x86=some x84,[(4,(.int .i64 x85))],[(2,(.var (.dv (.ints .u8 32 x86))))],n1)),[],[],⟨(f9,0,(List.replicate 32 (0:Int))),h⟩,mt,?_⟩
  rintro ⟨⟨_|n1,x85,x86⟩,h⟩
  ·exact i6 h
  replace h:=(Z1.eq_2 x83 x85 x86 n1).symm.trans h
  refine v8 h (fun hb h => ?_) (fun hb h => ?_)
  ·refine .inl ?_
   refine dc ?_
   refine m8 h fun hg h => ?_
   refine m7 h ?_
   intro x87 h
   refine dc ?_
   refine m7 h ?_
   intro x88 h
   refine m8 h fun hg h => ?_
   refine m7 h ?_
   intro x89 h
   refine m8 h fun hg h => ?_
   exact ⟨⟨(n1,_,_),h⟩,[],mt,Nat.lt_succ_self _⟩
  ·exact ⟨[],[],⟨_,e8 h⟩,[],mt⟩
theorem Zl {x60 x61 i9} (h:Fr x60 x61=some i9) :
  FB er 47 [(.dv (.ints .u8 32 x60)),(.dv (.ints .u8 32 x61))] [] [] (.dv (.ints .u8 32 i9)) []:=by
 refine fb Tryz.func47 ?_
 unfold Fr at h
 obtain ⟨x62,c,h⟩:=j5 h
 refine cl [] [] (d41 c) ?_
 obtain ⟨x63,c,h⟩:=j5 h
 refine cl [] [] (c02 c) ?_
 obtain ⟨⟨x64,x65,x66,x67,x68⟩,g,h⟩:=j5 h
 refine .inr ⟨[],_,fj (fun (x64,x65,x66,x67,x68)=>([(11,(.int .u8 x64))],[(5,(.var (.dv (.ints .u32 8 x65)))),(6,(.var (.dv (.ints .u32 8 x66)))),(7,(.var (.dv (.ints .u32 8 x67)))),(8,(.var (.dv (.ints .u32 8 x68))))])) (x64,x65,x66,x67,x68),0,?_,?_⟩
 ·rintro ⟨_,rfl⟩
  obtain ⟨⟨x99,x100⟩,g,h⟩:=j5 h
  refine .inr ⟨[],_,fj (fun (x99,x100)=>([],[(5,(.var (.dv (.ints .u32 8 x99)))),(6,(.var (.dv (.ints .u32 8 x100))))])) (x99,x100),0,?_,?_⟩
  ·rintro ⟨_,rfl⟩
   obtain ⟨x101,c,h⟩:=j5 h
   refine cl [] [] (c03 c) ?_
   obtain ⟨x102,c,h⟩:=j5 h
   refine cl [] [] (D0 c) ?_
   obtain ⟨x103,c,h⟩:=j5 h
   refine cl [] [] (d43 c) ?_
   obtain rfl:=e8 h
   exact ⟨0,[],[],mt⟩
  ·replace h:=g
   refine v8 h (fun hb h => ?_) (fun hb h => ?_)
   ·exact ⟨[],[],⟨_,e8 h⟩,[],mt⟩
   ·exact ⟨[],[],⟨_,e8 h⟩,[],mt⟩
 ·replace h:=g
  refine .inl ?_
  refine ⟨[],_,fl (β:=Nat×Int×Int×(List Int)×(List Int)×(List Int)×(List Int)) (fun (n1,x69,x70,x71,x72,x73,x74)=>(R8 x62 x63 n1 x69 x70 x71 x72 x73 x74=some (x64,x65,x66,x67,x68),[(11,(.int .u8 x69)),(12,(.int .i64 x70))],[(5,(.var (.dv (.ints .u32 8 x71)))),(6,(.var (.dv (.ints .u32 8 x72)))),(7,(.var (.dv (.ints .u32 8 x73)))),(8,(.var (.dv (.ints .u32 8 x74))))],n1)),[],[],⟨(f9,0,254,(List.set (List.replicate 8 (0:Int)) 0 1),(List.replicate 8 (0:Int)),x63,(List.set (List.replicate 8 (0:Int)) 0 1)),h⟩,mt,?_⟩
  rintro ⟨⟨_|n1,x69,x70,x71,x72,x73,x74⟩,h⟩
  ·exact i6 h
  replace h:=(R8.eq_2 x62 x63 x69 x70 x71 x72 x73 x74 n1).symm.trans h
  refine v8 h (fun hb h => ?_) (fun hb h => ?_)
  ·refine .inl ?_
   refine dc ?_
   refine m8 h fun hg h => ?_
   refine m7 h ?_
   intro x75 h
   refine dc ?_
   refine m8 h fun hg h => ?_
   refine m7 h ?_
   intro x76 h
   obtain ⟨⟨x77,x78,x79,x80⟩,g,h⟩:=j5 h
   refine .inr ⟨[],_,fj (fun (x77,x78,x79,x80)=>([],[(5,(.var (.dv (.ints .u32 8 x77)))),(6,(.var (.dv (.ints .u32 8 x78)))),(7,(.var (.dv (.ints .u32 8 x79)))),(8,(.var (.dv (.ints .u32 8 x80))))])) (x77,x78,x79,x80),0,?_,?_⟩
   ·rintro ⟨_,rfl⟩
    obtain ⟨x81,c,h⟩:=j5 h
    refine cl [] [] (Jx c) ?_
    obtain ⟨x82,c,h⟩:=j5 h
    refine cl [] [] (D0 c) ?_
    obtain ⟨x83,c,h⟩:=j5 h
    refine cl [] [] (Om c) ?_
    obtain ⟨x84,c,h⟩:=j5 h
    refine cl [] [] (D0 c) ?_
    obtain ⟨x85,c,h⟩:=j5 h
    refine cl [] [] (Om c) ?_
    obtain ⟨x86,c,h⟩:=j5 h
    refine cl [] [] (Jx c) ?_
    obtain ⟨x87,c,h⟩:=j5 h
    refine cl [] [] (Om c) ?_
    obtain ⟨x88,c,h⟩:=j5 h
    refine cl [] [] (D0 c) ?_
    obtain ⟨x89,c,h⟩:=j5 h
    refine cl [] [] (D0 c) ?_
    obtain ⟨x90,c,h⟩:=j5 h
    refine cl [] [] (Jx c) ?_
    obtain ⟨x91,c,h⟩:=j5 h
    refine cl [] [] (Om c) ?_
    obtain ⟨x92,c,h⟩:=j5 h
    refine cl [] [] (D0 c) ?_
    obtain ⟨x93,c,h⟩:=j5 h
    refine cl [] [] (D0 c) ?_
    obtain ⟨x94,c,h⟩:=j5 h
    refine cl [] [] (D0 c) ?_
    obtain ⟨x95,c,h⟩:=j5 h
    refine cl [] [] (D0 c) ?_
    obtain ⟨x96,c,h⟩:=j5 h
    refine cl [] [] (D0 c) ?_
    obtain ⟨x97,c,h⟩:=j5 h
    refine cl [] [] (Jx c) ?_
    obtain ⟨x98,c,h⟩:=j5 h
    refine cl [] [] (D0 c) ?_
    exact ⟨⟨(n1,_,_,_,_,_,_),h⟩,[],mt,Nat.lt_succ_self _⟩
   ·replace h:=g
    refine v8 h (fun hb h => ?_) (fun hb h => ?_)
    ·exact ⟨[],[],⟨_,e8 h⟩,[],mt⟩
    ·exact ⟨[],[],⟨_,e8 h⟩,[],mt⟩
  ·exact ⟨[],[],⟨_,e8 h⟩,[],mt⟩
theorem e86 {x59 i9} (h:Nb x59=some i9) :
  FB er 27 [(.dv (.ints .u8 32 x59))] [] [] (.dv (.ints .u8 32 i9)) []:=by
 refine fb Tryz.func27 ?_
 unfold Nb at h
 obtain ⟨x60,c,h⟩:=j5 h
 refine cl [] [] (Zl c) ?_
 obtain rfl:=e8 h
 exact ⟨0,[],[],mt⟩
theorem e87 {x37 i9} (h:Nc x37=some i9) :
  FB er 10 [(.dv (.roI .u8 x37))] [] [] (.tup [(.dv (.ints .u8 32 i9.1)),(.dv (.ints .u8 32 i9.2))]) []:=by
 refine fb Tryz.func10 ?_
 unfold Nc at h
 obtain ⟨x38,c,h⟩:=j5 h
 refine cl [] [] (Ek c) ?_
 obtain ⟨x39,c,h⟩:=j5 h
 refine cl [] [2] (Ga c) ?_ (hv:=⟨.inl rfl,.inl rfl,.inl rfl,(.inr (.inr ⟨rfl,.inl ⟨_,rfl⟩⟩)),.inl rfl,trivial⟩)
 refine .inl ?_
 obtain ⟨x40,c,h⟩:=j5 h
 refine cl [true] [] (Tv c) ?_
 obtain ⟨x41,c,h⟩:=j5 h
 refine cl [] [] (e86 c) ?_
 obtain rfl:=e8 h
 exact ⟨0,[],[],mt⟩
theorem c04 {x45 x46 x47 i9} (h:Dj x45 x46 x47=some i9) :
  FB er 48 [(.dv (.ints .u8 32 x45)),(.dv (.ints .u8 32 x46)),(.dv (.ints .u8 32 x47))] [] [] (.dv (.ints .u8 32 i9)) []:=by
 refine fb Tryz.func48 ?_
 unfold Dj at h
 refine .inl ?_
 refine And.intro (by omega) ?_
 refine ⟨0,32,⟨rfl,rfl⟩,?_⟩
 obtain ⟨x48,c,h⟩:=j5 h
 refine cl [false,false,true] [] (Ek c) ?_
 refine .inl ?_
 refine .inl ?_
 refine And.intro (by omega) ?_
 refine ⟨0,32,⟨rfl,rfl⟩,?_⟩
 obtain ⟨hg,h⟩:=gd h
 refine And.intro (j9 (F2 _ _) hg) ?_
 refine ⟨(([]:List Int)++(List.take 32 x46)),m5 (i7 _) (C8 _ _),0,(List.length (([]:List Int)++(List.take 32 x46))),⟨rfl,r7 (F2 _ _)⟩,?_⟩
 refine .inl ?_
 refine .inl ?_
 refine And.intro (by omega) ?_
 refine ⟨0,32,⟨rfl,rfl⟩,?_⟩
 obtain ⟨hg,h⟩:=gd h
 refine And.intro (j9 (F2 _ _) hg) ?_
 refine ⟨((([]:List Int)++(List.take 32 x46))++(List.take 32 x47)),m5 (i7 _) (C8 _ _),0,(List.length ((([]:List Int)++(List.take 32 x46))++(List.take 32 x47))),⟨rfl,r7 (F2 _ _)⟩,?_⟩
 refine .inl ?_
 refine m7 h ?_
 intro x49 h
 obtain ⟨x50,c,h⟩:=j5 h
 refine cl [false,false,false,true,false] [7] (Ga c) ?_ (hv:=⟨.inl rfl,.inl rfl,.inl rfl,u9 _ _,.inl rfl,trivial⟩)
 refine .inl ?_
 obtain ⟨x51,c,h⟩:=j5 h
 refine cl [true] [] (Tv c) ?_
 obtain rfl:=e8 h
 exact ⟨0,[],[],mt⟩
theorem d44 {x35 x36 i9} (h:Kh x35 x36=some i9) :
  FB er 28 [(.dv (.ints .u8 32 x35)),(.dv (.roI .u8 x36))] [] [] (.tup [(.dv (.ints .u8 32 i9.1)),(.dv (.ints .u8 32 i9.2.1)),(.bl i9.2.2)]) []:=by
 refine fb Tryz.func28 ?_
 unfold Kh at h
 obtain ⟨⟨x37,x38⟩,c,h⟩:=j5 h
 refine cl [] [] (e87 c) ?_
 obtain ⟨x39,c,h⟩:=j5 h
 refine cl [] [] (Zl c) ?_
 refine v8 h (fun hb h => ?_) (fun hb h => ?_)
 ·obtain rfl:=e8 h
  exact ⟨0,[],[],mt⟩
 ·obtain ⟨x40,c,h⟩:=j5 h
  refine cl [] [] (c04 c) ?_
  obtain rfl:=e8 h
  exact ⟨0,[],[],mt⟩
theorem Qx {x44 x45 i9} (h:Ft x44 x45=some i9) :
  FB er 14 [(.dv (.ints .u8 32 x44)),(.dv (.roI .u8 x45))] [] [10] (.tup [(.dv (.ints .u8 32 i9.1)),(.sl 10 [] s6 0 (Int.toNat (12-0)))]) [(.rowI .u8 i9.2)]:=by
 refine fb Tryz.func14 ?_
 unfold Ft at h
 obtain ⟨x46,c,h⟩:=j5 h
 refine cl [] [] (Ek c) ?_ (hv:=⟨.inl rfl,.inl rfl,(.inr (.inr ⟨rfl,.inl ⟨_,rfl⟩⟩)),trivial⟩)
 obtain ⟨x47,c,h⟩:=j5 h
 refine cl [] [] (Ek c) ?_
 refine .inl ?_
 refine .inl ?_
 refine And.intro (by omega) ?_
 refine ⟨0,32,⟨rfl,rfl⟩,?_⟩
 obtain ⟨hg,h⟩:=gd h
 refine And.intro (j9 (F2 _ _) hg) ?_
 refine ⟨([0]++(List.take 32 x46)),m5 (i7 _) (C8 _ _),0,(List.length ([0]++(List.take 32 x46))),⟨rfl,r7 (F2 _ _)⟩,?_⟩
 refine .inl ?_
 refine .inl ?_
 refine And.intro (by omega) ?_
 refine ⟨0,32,⟨rfl,rfl⟩,?_⟩
 obtain ⟨hg,h⟩:=gd h
 refine And.intro (j9 (F2 _ _) hg) ?_
 refine ⟨(([0]++(List.take 32 x46))++(List.take 32 x47)),m5 (i7 _) (C8 _ _),0,(List.length (([0]++(List.take 32 x46))++(List.take 32 x47))),⟨rfl,r7 (F2 _ _)⟩,?_⟩
 refine .inl ?_
 refine .inl ?_
 refine And.intro (by omega) ?_
 refine ⟨0,32,⟨rfl,rfl⟩,?_⟩
 refine .inl ?_
 refine m7 h ?_
 intro x48 h
 refine ⟨0,(List.length x48),⟨rfl,rfl⟩,?_⟩
 refine .inl ?_
 obtain ⟨x49,c,h⟩:=j5 h
 refine cl [true,true] [] (Tu c) ?_ (hv:=⟨.inl rfl,u9 _ _,trivial⟩)
 obtain ⟨x50,c,h⟩:=j5 h
 refine cl [false,false,false,true,false] [9] (Ga c) ?_ (hv:=⟨.inl rfl,.inl rfl,.inl rfl,u9 _ _,.inl rfl,trivial⟩)
 refine .inl ?_
 obtain ⟨x51,c,h⟩:=j5 h
 refine cl [true] [] (Tv c) ?_
 obtain ⟨x52,c,h⟩:=j5 h
 refine cl [false,false,false,true,false] [10] (Ga c) ?_ (hv:=⟨.inl rfl,.inl rfl,.inl rfl,u9 _ _,.inl rfl,trivial⟩)
 refine .inl ?_
 obtain rfl:=e8 h
 exact ⟨0,[],[],mt⟩
theorem Lc {x66 x67 i9} (h:Bj x66 x67=some i9) :
  FB er 116 [(.dv (.roI .u8 x66)),(.int .i64 x67)] [] [] (.int .u32 i9) []:=by
 refine fb Tryz.func116 ?_
 unfold Bj at h
 refine m8 h fun hg h => ?_
 refine m7 h ?_
 intro x68 h
 refine m8 h fun hg h => ?_
 refine m7 h ?_
 intro x69 h
 refine m7 h ?_
 intro x70 h
 refine m8 h fun hg h => ?_
 refine m7 h ?_
 intro x71 h
 refine m7 h ?_
 intro x72 h
 refine m8 h fun hg h => ?_
 refine m7 h ?_
 intro x73 h
 refine m7 h ?_
 intro x74 h
 obtain rfl:=e8 h
 exact ⟨0,[],[],mt⟩
theorem Ld {x83 x84 i9} (h:Ir x83 x84=some i9) :
  FB er 130 [(.int .u32 x83),(.int .u64 x84)] [] [] (.int .u32 i9) []:=by
 refine fb Tryz.func130 ?_
 unfold Ir at h
 refine m8 h fun hg h => ?_
 refine m7 h ?_
 intro x85 h
 refine m8 h fun hg h => ?_
 refine m7 h ?_
 intro x86 h
 obtain rfl:=e8 h
 exact ⟨0,[],[],mt⟩
theorem F6 {x101 x102 x103 x104 x105 x106 i9} (h:o7 x101 x102 x103 x104 x105 x106=some i9) :
  FB er 117 [(.sl 0 [] Hu 0 x101),(.int .i64 x102),(.int .i64 x103),(.int .i64 x104),(.int .i64 x105)] [(.rowI .u32 x106)] [] (.tup []) [(.rowI .u32 i9)]:=by
 refine fb Tryz.func117 ?_
 unfold o7 at h
 refine m8 h fun hg h => ?_
 refine m8 h fun hg h => ?_
 refine m7 h ?_
 intro x107 h
 refine m8 h fun hg h => ?_
 refine m8 h fun hg h => ?_
 refine m7 h ?_
 intro x108 h
 refine m8 h fun hg h => ?_
 refine m7 h ?_
 intro x109 h
 obtain ⟨x110,c,h⟩:=j5 h
 refine cl [] [] (Ld c) ?_
 refine m8 h fun hg h => ?_
 refine m7 h ?_
 intro x111 h
 refine m8 h fun hg h => ?_
 refine m8 h fun hg h => ?_
 refine m7 h ?_
 intro x112 h
 refine m8 h fun hg h => ?_
 refine m8 h fun hg h => ?_
 refine m7 h ?_
 intro x113 h
 refine m8 h fun hg h => ?_
 refine m7 h ?_
 intro x114 h
 obtain ⟨x115,c,h⟩:=j5 h
 refine cl [] [] (Ld c) ?_
 refine m8 h fun hg h => ?_
 refine m7 h ?_
 intro x116 h
 refine m8 h fun hg h => ?_
 refine m8 h fun hg h => ?_
 refine m7 h ?_
 intro x117 h
 refine m8 h fun hg h => ?_
 refine m8 h fun hg h => ?_
 refine m7 h ?_
 intro x118 h
 refine m8 h fun hg h => ?_
 refine m7 h ?_
 intro x119 h
 obtain ⟨x120,c,h⟩:=j5 h
 refine cl [] [] (Ld c) ?_
 refine m8 h fun hg h => ?_
 refine m7 h ?_
 intro x121 h
 refine m8 h fun hg h => ?_
 refine m8 h fun hg h => ?_
 refine m7 h ?_
 intro x122 h
 refine m8 h fun hg h => ?_
 refine m8 h fun hg h => ?_
 refine m7 h ?_
 intro x123 h
 refine m8 h fun hg h => ?_
 refine m7 h ?_
 intro x124 h
 obtain ⟨x125,c,h⟩:=j5 h
 refine cl [] [] (Ld c) ?_
 refine m8 h fun hg h => ?_
 refine m7 h ?_
 intro x126 h
 obtain rfl:=e8 h
 exact ⟨0,[],[],mt⟩
theorem Wb {x63 x64 x65 i9} (h:Cx x63 x64 x65=some i9) :
  FB er 84 [(.dv (.ints .u8 32 x63)),(.int .u32 x64),(.dv (.roI .u8 x65))] [] [6] (.sl 6 [] s6 0 (List.length i9)) [(.rowI .u8 i9)]:=by
 refine fb Tryz.func84 ?_
 unfold Cx at h
 refine .inl ?_
 obtain ⟨x66,g,h⟩:=j5 h
 refine .inr ⟨[3,14],_,fj (fun x66=>([(7,(.sl 1 [] Hu 0 (List.length x66)))],[(1,(.rowI .u32 x66))])) x66,0,?_,?_⟩
 ·rintro ⟨x66,rfl⟩
  obtain ⟨x70,c,h⟩:=j5 h
  refine cl [] [] (Lc c) ?_
  obtain ⟨x71,c,h⟩:=j5 h
  refine cl [] [] (Lc c) ?_
  obtain ⟨x72,c,h⟩:=j5 h
  refine cl [] [] (Lc c) ?_
  refine .inl ?_
  obtain ⟨hg,h⟩:=gd h
  refine And.intro (j9 (o5 [x64,x70,x71,x72]) hg) ?_
  refine ⟨(x66++[x64,x70,x71,x72]),m5 (i7 _) (i7 [x64,x70,x71,x72]),0,(List.length (x66++[x64,x70,x71,x72])),⟨rfl,r7 (o5 [x64,x70,x71,x72])⟩,?_⟩
  refine .inl ?_
  refine .inl ?_
  obtain ⟨hg,h⟩:=gd h
  refine And.intro (j9 (o5 (x66++[x64,x70,x71,x72])) hg) ?_
  refine ⟨(([]:List Int)++(x66++[x64,x70,x71,x72])),m5 (i7 _) (i7 (x66++[x64,x70,x71,x72])),0,(List.length (([]:List Int)++(x66++[x64,x70,x71,x72]))),⟨rfl,r7 (o5 (x66++[x64,x70,x71,x72]))⟩,?_⟩
  refine .inl ?_
  obtain ⟨x73,g,h⟩:=j5 h
  refine .inr ⟨[],_,fj (fun x73=>([],[(5,(.rowI .u32 x73))])) x73,0,?_,?_⟩
  ·rintro ⟨x73,rfl⟩
   refine .inl ?_
   obtain ⟨x84,g,h⟩:=j5 h
   refine .inr ⟨[58],_,fj (fun x84=>([(11,(.sl 6 [] s6 0 (List.length x84)))],[(6,(.rowI .u8 x84))])) x84,0,?_,?_⟩
   ·rintro ⟨x84,rfl⟩
    obtain rfl:=e8 h
    exact ⟨0,[],[],mt⟩
   ·replace h:=g
    refine .inl ?_
    refine ⟨[58],_,fl (β:=Nat×Int×(List Int)) (fun (n3,x85,x86)=>(Cd x64 x66 x70 x71 x72 x73 n3 x85 x86=some x84,[(11,(.sl 6 [] s6 0 (List.length x86))),(12,(.int .i64 x85))],[(6,(.rowI .u8 x86))],n3)),[],[],⟨(f9,0,([]:List Int)),h⟩,mt,?_⟩
    rintro ⟨⟨_|n3,x85,x86⟩,h⟩
    ·exact i6 h
    replace h:=(Cd.eq_2 x64 x66 x70 x71 x72 x73 x85 x86 n3).symm.trans h
    refine v8 h (fun hb h => ?_) (fun hb h => ?_)
    ·refine .inl ?_
     refine m8 h fun hg h => ?_
     refine m8 h fun hg h => ?_
     refine m7 h ?_
     intro x87 h
     refine dc ?_
     refine dc ?_
     refine dc ?_
     refine .inl ?_
     refine m7 h ?_
     intro x88 h
     obtain ⟨hg,h⟩:=gd h
     refine And.intro (j9 (o5 x88) hg) ?_
     refine ⟨(x86++x88),m5 (i7 _) (i7 x88),0,(List.length (x86++x88)),⟨rfl,r7 (o5 x88)⟩,?_⟩
     refine .inl ?_
     exact ⟨⟨(n3,_,_),h⟩,[(6,8)],mt,Nat.lt_succ_self _⟩
    ·exact ⟨[],[],⟨_,e8 h⟩,[],mt⟩
  ·replace h:=g
   refine .inl ?_
   refine ⟨[],_,fl (β:=Nat×Int×(List Int)) (fun (n2,x74,x75)=>(T0 x64 x66 x70 x71 x72 n2 x74 x75=some x73,[(10,(.int .i64 x74))],[(5,(.rowI .u32 x75))],n2)),[],[],⟨(f9,0,(([]:List Int)++(x66++[x64,x70,x71,x72]))),h⟩,mt,?_⟩
   rintro ⟨⟨_|n2,x74,x75⟩,h⟩
   ·exact i6 h
   replace h:=(T0.eq_2 x64 x66 x70 x71 x72 x74 x75 n2).symm.trans h
   refine v8 h (fun hb h => ?_) (fun hb h => ?_)
   ·refine .inl ?_
    obtain ⟨x76,c,h⟩:=j5 h
    refine cl [] [5] (F6 c) ?_
    obtain ⟨x77,c,h⟩:=j5 h
    refine cl [] [5] (F6 c) ?_
    obtain ⟨x78,c,h⟩:=j5 h
    refine cl [] [5] (F6 c) ?_
    obtain ⟨x79,c,h⟩:=j5 h
    refine cl [] [5] (F6 c) ?_
    obtain ⟨x80,c,h⟩:=j5 h
    refine cl [] [5] (F6 c) ?_
    obtain ⟨x81,c,h⟩:=j5 h
    refine cl [] [5] (F6 c) ?_
    obtain ⟨x82,c,h⟩:=j5 h
    refine cl [] [5] (F6 c) ?_
    obtain ⟨x83,c,h⟩:=j5 h
    refine cl [] [5] (F6 c) ?_
    exact ⟨⟨(n2,_,_),h⟩,[],mt,Nat.lt_succ_self _⟩
   ·exact ⟨[],[],⟨_,e8 h⟩,[],mt⟩
 ·replace h:=g
  refine .inl ?_
  refine ⟨[14],_,fl (β:=Nat×Int×(List Int)) (fun (n1,x67,x68)=>(Cc x63 n1 x67 x68=some x66,[(7,(.sl 1 [] Hu 0 (List.length x68))),(8,(.int .i64 x67))],[(1,(.rowI .u32 x68))],n1)),[],[],⟨(f9,0,[1634760805,857760878,2036477234,1797285236]),h⟩,mt,?_⟩
  rintro ⟨⟨_|n1,x67,x68⟩,h⟩
  ·exact i6 h
  replace h:=(Cc.eq_2 x63 x67 x68 n1).symm.trans h
  refine v8 h (fun hb h => ?_) (fun hb h => ?_)
  ·refine .inl ?_
   refine .inl ?_
   refine And.intro (by omega) ?_
   refine ⟨0,32,⟨rfl,rfl⟩,?_⟩
   obtain ⟨x69,c,h⟩:=j5 h
   refine cl [true,false] [] (Lc c) ?_
   refine .inl ?_
   obtain ⟨hg,h⟩:=gd h
   refine And.intro (j9 (o5 [x69]) hg) ?_
   refine ⟨(x68++[x69]),m5 (i7 _) (i7 [x69]),0,(List.length (x68++[x69])),⟨rfl,r7 (o5 [x69])⟩,?_⟩
   refine .inl ?_
   exact ⟨⟨(n1,_,_),h⟩,[(1,3)],mt,Nat.lt_succ_self _⟩
  ·exact ⟨[],[],⟨_,e8 h⟩,[],mt⟩
theorem e88 {x59 x60 x61 x62 i9} (h:Nd x59 x60 x61 x62=some i9) :
  FB er 49 [(.dv (.ints .u8 32 x59)),(.int .u32 x60),(.dv (.roI .u8 x61)),(.dv (.roI .u8 x62))] [] [1] (.sl 1 [] s6 0 (List.length i9)) [(.rowI .u8 i9)]:=by
 refine fb Tryz.func49 ?_
 unfold Nd at h
 refine .inl ?_
 refine .inl ?_
 obtain ⟨r1_0_64,hl1_64,hr1_64⟩:=j5 h
 refine .inr ⟨[1,2,4,13,14,16],(({p:Unit // (Sum.inl p)=r1_0_64})⊕(({p:Unit // (Sum.inr (Sum.inl p))=r1_0_64})⊕({p:(List Int)×(List Int) // (Sum.inr (Sum.inr p))=r1_0_64}))),⟨fun|(Sum.inl (⟨(),_⟩))=>[(9,(.sl 1 [] s6 0 (List.length ([]:List Int)))),(13,(.sl 1 [] s6 0 (List.length ([]:List Int)))),(14,(.sl 2 [] s6 0 (List.length ([]:List Int))))]|(Sum.inr (Sum.inl (⟨(),_⟩)))=>[(9,(.sl 1 [] s6 0 (List.length ([]:List Int)))),(14,(.sl 2 [] s6 0 (List.length ([]:List Int))))]|(Sum.inr (Sum.inr (⟨(x63,x64),_⟩)))=>[(9,(.sl 1 [] s6 0 (List.length x63)))],fun|(Sum.inl (⟨(),_⟩))=>[]|(Sum.inr (Sum.inl (⟨(),_⟩)))=>[]|(Sum.inr (Sum.inr (⟨(x63,x64),_⟩)))=>[(1,(.rowI .u8 x63)),(2,(.rowI .u8 x64))],fun _=>0⟩,0,?_,?_⟩
 ·rintro (⟨⟨⟩,hp⟩|⟨⟨⟩,hp⟩|⟨⟨x63,x64⟩,hp⟩)
  ·subst hp
   replace h:=hr1_64
   obtain rfl:=e8 h
   exact ⟨0,[],[],mt⟩
  ·subst hp
   replace h:=hr1_64
   obtain rfl:=e8 h
   exact ⟨0,[],[],mt⟩
  ·subst hp
   replace h:=hr1_64
   obtain rfl:=e8 h
   exact ⟨0,[],[],mt⟩
 ·replace h:=hl1_64
  refine .inl ?_
  refine ⟨[13,14],_,fl (β:=Nat×Int×(List Int)×(List Int)) (fun (n1,x65,x66,x67)=>(Y1 x59 x60 x61 x62 n1 x65 x66 x67=some r1_0_64,[(9,(.sl 1 [] s6 0 (List.length x66))),(10,(.sl 2 [] s6 0 (List.length x67))),(17,(.int .i64 x65))],[(1,(.rowI .u8 x66)),(2,(.rowI .u8 x67))],n1)),[],[],⟨(f9,0,([]:List Int),([]:List Int)),h⟩,mt,?_⟩
  rintro ⟨⟨_|n1,x65,x66,x67⟩,h⟩
  ·exact i6 h
  replace h:=(Y1.eq_2 x59 x60 x61 x62 x65 x66 x67 n1).symm.trans h
  refine v8 h (fun hb h => ?_) (fun hb h => ?_)
  ·obtain ⟨r2_0_70,hl2_70,hr2_70⟩:=j5 h
   refine .inr ⟨[],(({p:(List Int)×(List Int) // (Sum.inl p)=r2_0_70})⊕({p:(List Int) // (Sum.inr p)=r2_0_70})),⟨fun|(Sum.inl (⟨(x68,x69),_⟩))=>[(9,(.sl 3 [] s6 0 (List.length x68))),(10,(.sl 4 [] s6 0 (List.length x69)))]|(Sum.inr (⟨x70,_⟩))=>[(9,(.sl 3 [] s6 0 (List.length x70))),(10,(.sl 2 [] s6 0 (List.length x67)))],fun|(Sum.inl (⟨(x68,x69),_⟩))=>[(1,.dead),(3,(.rowI .u8 x68)),(4,(.rowI .u8 x69))]|(Sum.inr (⟨x70,_⟩))=>[(1,.dead),(3,(.rowI .u8 x70))],fun _=>0⟩,2,?_,?_⟩
   ·rintro (⟨⟨x68,x69⟩,hp⟩|⟨x70,hp⟩)
    ·subst hp
     replace h:=hr2_70
     exact ⟨⟨(n1,_,_,_),h⟩,[(1,3),(2,4)],mt,Nat.lt_succ_self _⟩
    ·subst hp
     replace h:=hr2_70
     exact ⟨⟨(n1,_,_,_),h⟩,[(1,3)],mt,Nat.lt_succ_self _⟩
   ·replace h:=hl2_70
    refine m8 h fun hg h => ?_
    refine dc ?_
    obtain ⟨r3_0_71,hl3_71,hr3_71⟩:=j5 h
    refine .inr ⟨[],(({p:(List Int) // (Sum.inl p)=r3_0_71})⊕({p:Unit // (Sum.inr p)=r3_0_71})),⟨fun|(Sum.inl (⟨x71,_⟩))=>[(10,(.sl 3 [] s6 0 (List.length x71)))]|(Sum.inr (⟨(),_⟩))=>[(10,(.sl 2 [] s6 0 (List.length x67)))],fun|(Sum.inl (⟨x71,_⟩))=>[(3,(.rowI .u8 x71))]|(Sum.inr (⟨(),_⟩))=>[],fun _=>0⟩,1,?_,?_⟩
    ·rintro (⟨x71,hp⟩|⟨⟨⟩,hp⟩)
     ·subst hp
      replace h:=hr3_71
      refine dc ?_
      refine m8 h fun hg h => ?_
      refine m7 h ?_
      intro x74 h
      refine .inl ?_
      obtain ⟨hg,h⟩:=gd h
      refine And.intro (j9 (o5 [x74]) hg) ?_
      refine ⟨(x66++[x74]),m5 (i7 _) (i7 [x74]),0,(List.length (x66++[x74])),⟨rfl,r7 (o5 [x74])⟩,?_⟩
      refine .inl ?_
      exact ⟨[],[],(Sum.inl (⟨_,e8 h⟩)),[(3,5),(4,3)],mt⟩
     ·subst hp
      replace h:=hr3_71
      refine dc ?_
      refine m8 h fun hg h => ?_
      refine m7 h ?_
      intro x75 h
      refine .inl ?_
      obtain ⟨hg,h⟩:=gd h
      refine And.intro (j9 (o5 [x75]) hg) ?_
      refine ⟨(x66++[x75]),m5 (i7 _) (i7 [x75]),0,(List.length (x66++[x75])),⟨rfl,r7 (o5 [x75])⟩,?_⟩
      refine .inl ?_
      exact ⟨[],[],(Sum.inr (⟨_,e8 h⟩)),[(3,5)],mt⟩
    ·replace h:=hl3_71
     refine v8 h (fun hb h => ?_) (fun hb h => ?_)
     ·refine dc ?_
      refine m7 h ?_
      intro x72 h
      obtain ⟨x73,c,h⟩:=j5 h
      refine cl [] [3] (Wb c) ?_
      refine .inl ?_
      exact ⟨[],[],(Sum.inl (⟨_,e8 h⟩)),[],mt⟩
     ·exact ⟨[],[],(Sum.inr (⟨_,e8 h⟩)),[],mt⟩
  ·exact ⟨[],[],(Sum.inr (Sum.inr (⟨_,e8 h⟩))),[],mt⟩
theorem Zm {x83 i9} (h:Iu x83=some i9) :
  FB er 85 [(.dv (.roI .u8 x83))] [] [1] (.sl 1 [] s6 0 (List.length i9)) [(.rowI .u8 i9)]:=by
 refine fb Tryz.func85 ?_
 unfold Iu at h
 refine .inl ?_
 obtain ⟨hg,h⟩:=gd h
 refine And.intro (hg) ?_
 refine ⟨(([]:List Int)++x83),m5 (i7 _) (rfl),0,(List.length (([]:List Int)++x83)),⟨rfl,r7 (rfl)⟩,?_⟩
 refine .inl ?_
 obtain ⟨r1_0_84,hl1_84,hr1_84⟩:=j5 h
 refine .inr ⟨[6],(({p:Unit // (Sum.inl p)=r1_0_84})⊕({p:(List Int) // (Sum.inr p)=r1_0_84})),⟨fun|(Sum.inl (⟨(),_⟩))=>[(3,(.sl 1 [] s6 0 (List.length (([]:List Int)++x83)))),(6,(.sl 1 [] s6 0 (List.length (([]:List Int)++x83))))]|(Sum.inr (⟨x84,_⟩))=>[(3,(.sl 1 [] s6 0 (List.length x84)))],fun|(Sum.inl (⟨(),_⟩))=>[]|(Sum.inr (⟨x84,_⟩))=>[(1,(.rowI .u8 x84))],fun _=>0⟩,0,?_,?_⟩
 ·rintro (⟨⟨⟩,hp⟩|⟨x84,hp⟩)
  ·subst hp
   replace h:=hr1_84
   obtain rfl:=e8 h
   exact ⟨0,[],[],mt⟩
  ·subst hp
   replace h:=hr1_84
   obtain rfl:=e8 h
   exact ⟨0,[],[],mt⟩
 ·replace h:=hl1_84
  refine .inl ?_
  refine ⟨[6],_,fl (β:=Nat×(List Int)) (fun (n1,x85)=>(Y2 n1 x85=some r1_0_84,[(3,(.sl 1 [] s6 0 (List.length x85)))],[(1,(.rowI .u8 x85))],n1)),[],[],⟨(f9,(([]:List Int)++x83)),h⟩,mt,?_⟩
  rintro ⟨⟨_|n1,x85⟩,h⟩
  ·exact i6 h
  replace h:=(Y2.eq_2 x85 n1).symm.trans h
  refine dc ?_
  refine v8 h (fun hb h => ?_) (fun hb h => ?_)
  ·refine .inl ?_
   refine .inl ?_
   obtain ⟨hg,h⟩:=gd h
   refine And.intro (j9 (o5 [0]) hg) ?_
   refine ⟨(x85++[0]),m5 (i7 _) (i7 [0]),0,(List.length (x85++[0])),⟨rfl,r7 (o5 [0])⟩,?_⟩
   refine .inl ?_
   exact ⟨⟨(n1,_),h⟩,[(1,3)],mt,Nat.lt_succ_self _⟩
  ·exact ⟨[],[],(Sum.inr (⟨_,e8 h⟩)),[],mt⟩
theorem Sk {x88 x89 i9} (h:Dk x88 x89=some i9) :
  FB er 86 [(.int .u64 x88),(.int .i64 x89)] [] [0] (.sl 0 [] s6 0 (List.length i9)) [(.rowI .u8 i9)]:=by
 refine fb Tryz.func86 ?_
 unfold Dk at h
 refine .inl ?_
 obtain ⟨r1_0_90,hl1_90,hr1_90⟩:=j5 h
 refine .inr ⟨[1,7],(({p:Unit // (Sum.inl p)=r1_0_90})⊕({p:(List Int) // (Sum.inr p)=r1_0_90})),⟨fun|(Sum.inl (⟨(),_⟩))=>[(5,(.sl 0 [] s6 0 (List.length ([]:List Int)))),(7,(.sl 0 [] s6 0 (List.length ([]:List Int))))]|(Sum.inr (⟨x90,_⟩))=>[(5,(.sl 0 [] s6 0 (List.length x90)))],fun|(Sum.inl (⟨(),_⟩))=>[]|(Sum.inr (⟨x90,_⟩))=>[(0,(.rowI .u8 x90))],fun _=>0⟩,0,?_,?_⟩
 ·rintro (⟨⟨⟩,hp⟩|⟨x90,hp⟩)
  ·subst hp
   replace h:=hr1_90
   obtain rfl:=e8 h
   exact ⟨0,[],[],mt⟩
  ·subst hp
   replace h:=hr1_90
   obtain rfl:=e8 h
   exact ⟨0,[],[],mt⟩
 ·replace h:=hl1_90
  refine .inl ?_
  refine ⟨[7],_,fl (β:=Nat×Int×Int×(List Int)) (fun (n1,x91,x92,x93)=>(Ew x89 n1 x91 x92 x93=some r1_0_90,[(0,(.int .u64 x91)),(5,(.sl 0 [] s6 0 (List.length x93))),(6,(.int .i64 x92))],[(0,(.rowI .u8 x93))],n1)),[],[],⟨(f9,x88,0,([]:List Int)),h⟩,mt,?_⟩
  rintro ⟨⟨_|n1,x91,x92,x93⟩,h⟩
  ·exact i6 h
  replace h:=(Ew.eq_2 x89 x91 x92 x93 n1).symm.trans h
  refine v8 h (fun hb h => ?_) (fun hb h => ?_)
  ·refine .inl ?_
   refine dc ?_
   refine .inl ?_
   obtain ⟨hg,h⟩:=gd h
   refine And.intro (j9 (o5 [(IntKind.wrap .u8 (Int.tmod x91 256))]) hg) ?_
   refine ⟨(x93++[(IntKind.wrap .u8 (Int.tmod x91 256))]),m5 (i7 _) (i7 [(IntKind.wrap .u8 (Int.tmod x91 256))]),0,(List.length (x93++[(IntKind.wrap .u8 (Int.tmod x91 256))])),⟨rfl,r7 (o5 [(IntKind.wrap .u8 (Int.tmod x91 256))])⟩,?_⟩
   refine .inl ?_
   refine dc ?_
   exact ⟨⟨(n1,_,_,_),h⟩,[(0,2)],mt,Nat.lt_succ_self _⟩
  ·exact ⟨[],[],(Sum.inr (⟨_,e8 h⟩)),[],mt⟩
theorem C7 {x107 i9} (h:B9 x107=some i9) :
  FB er 131 [(.sl 0 [] Ls 0 (List.length x107))] [(.rowI .i64 x107)] [] (.sl 0 [] Ls 0 i9) [(.rowI .i64 x107)]:=by
 refine fb Tryz.func131 ?_
 unfold B9 at h
 obtain ⟨x108,g,h⟩:=j5 h
 refine .inr ⟨[],_,fj (fun x108=>([(0,(.sl 0 [] Ls 0 x108))],[])) x108,0,?_,?_⟩
 ·rintro ⟨x108,rfl⟩
  obtain rfl:=e8 h
  exact ⟨0,[],[],mt⟩
 ·replace h:=g
  refine .inl ?_
  refine ⟨[],_,fl (β:=Nat×Nat) (fun (n1,x109)=>(P9 x107 n1 x109=some x108,[(0,(.sl 0 [] Ls 0 x109))],[],n1)),[],[],⟨(f9,(List.length x107)),h⟩,mt,?_⟩
  rintro ⟨⟨_|n1,x109⟩,h⟩
  ·exact i6 h
  replace h:=(P9.eq_2 x107 x109 n1).symm.trans h
  refine v8 h (fun hb h => ?_) (fun hb h => ?_)
  ·refine m8 h fun hg h => ?_
   refine m7 h ?_
   intro x110 h
   refine v8 h (fun hb h => ?_) (fun hb h => ?_)
   ·refine .inl ?_
    refine m8 h fun hg h => ?_
    refine m8 h fun hg h => ?_
    refine ⟨0,(Int.toNat ((IntKind.wrap .i64 ((x109:Int)-1))-0)),⟨by simp,rfl⟩,?_⟩
    exact ⟨⟨(n1,_),h⟩,[],mt,Nat.lt_succ_self _⟩
   ·exact ⟨[],[],⟨_,e8 h⟩,[],mt⟩
  ·exact ⟨[],[],⟨_,e8 h⟩,[],mt⟩
theorem Lr {x100 i9} (h:Ap x100=some i9) :
  FB er 118 [(.dv (.roI .u8 x100))] [] [0] (.sl 0 [] Ls 0 i9.1) [(.rowI .i64 i9.2)]:=by
 refine fb Tryz.func118 ?_
 unfold Ap at h
 refine .inl ?_
 obtain ⟨r1_0_101,hl1_101,hr1_101⟩:=j5 h
 refine .inr ⟨[6,8],(({p:Unit // (Sum.inl p)=r1_0_101})⊕({p:(List Int) // (Sum.inr p)=r1_0_101})),⟨fun|(Sum.inl (⟨(),_⟩))=>[(3,(.sl 0 [] Ls 0 (List.length ([]:List Int)))),(6,(.sl 0 [] Ls 0 (List.length ([]:List Int))))]|(Sum.inr (⟨x101,_⟩))=>[(3,(.sl 0 [] Ls 0 (List.length x101)))],fun|(Sum.inl (⟨(),_⟩))=>[]|(Sum.inr (⟨x101,_⟩))=>[(0,(.rowI .i64 x101))],fun _=>0⟩,0,?_,?_⟩
 ·rintro (⟨⟨⟩,hp⟩|⟨x101,hp⟩)
  ·subst hp
   replace h:=hr1_101
   obtain ⟨x105,c,h⟩:=j5 h
   refine cl [] [0] (C7 c) ?_
   refine .inl ?_
   obtain rfl:=e8 h
   exact ⟨0,[],[],mt⟩
  ·subst hp
   replace h:=hr1_101
   obtain ⟨x106,c,h⟩:=j5 h
   refine cl [] [0] (C7 c) ?_
   refine .inl ?_
   obtain rfl:=e8 h
   exact ⟨0,[],[],mt⟩
 ·replace h:=hl1_101
  refine .inl ?_
  refine ⟨[6],_,fl (β:=Nat×Int×(List Int)) (fun (n1,x102,x103)=>(Q0 x100 n1 x102 x103=some r1_0_101,[(3,(.sl 0 [] Ls 0 (List.length x103))),(9,(.int .i64 x102))],[(0,(.rowI .i64 x103))],n1)),[],[],⟨(f9,0,([]:List Int)),h⟩,mt,?_⟩
  rintro ⟨⟨_|n1,x102,x103⟩,h⟩
  ·exact i6 h
  replace h:=(Q0.eq_2 x100 x102 x103 n1).symm.trans h
  refine v8 h (fun hb h => ?_) (fun hb h => ?_)
  ·refine .inl ?_
   refine m8 h fun hg h => ?_
   refine .inl ?_
   obtain ⟨hg,h⟩:=gd h
   refine And.intro (j9 (o5 [(IntKind.wrap .i64 (List.getD x100 (Int.toNat x102) 0))]) hg) ?_
   refine ⟨(x103++[(IntKind.wrap .i64 (List.getD x100 (Int.toNat x102) 0))]),m5 (i7 _) (i7 [(IntKind.wrap .i64 (List.getD x100 (Int.toNat x102) 0))]),0,(List.length (x103++[(IntKind.wrap .i64 (List.getD x100 (Int.toNat x102) 0))])),⟨rfl,r7 (o5 [(IntKind.wrap .i64 (List.getD x100 (Int.toNat x102) 0))])⟩,?_⟩
   refine .inl ?_
   refine m7 h ?_
   intro x104 h
   exact ⟨⟨(n1,_,_),h⟩,[(0,2)],mt,Nat.lt_succ_self _⟩
  ·exact ⟨[],[],(Sum.inr (⟨_,e8 h⟩)),[],mt⟩
theorem Zn {x118 i9} (h:Iv x118=some i9) :
  FB er 133 [(.dv (.roI .i64 x118))] [] [0] (.sl 0 [] Ls 0 i9.1) [(.rowI .i64 i9.2)]:=by
 refine fb Tryz.func133 ?_
 unfold Iv at h
 refine .inl ?_
 obtain ⟨r1_0_119,hl1_119,hr1_119⟩:=j5 h
 refine .inr ⟨[0,6],(({p:Unit // (Sum.inl p)=r1_0_119})⊕({p:(List Int) // (Sum.inr p)=r1_0_119})),⟨fun|(Sum.inl (⟨(),_⟩))=>[(3,(.sl 0 [] Ls 0 (List.length ([]:List Int)))),(6,(.sl 0 [] Ls 0 (List.length ([]:List Int))))]|(Sum.inr (⟨x119,_⟩))=>[(3,(.sl 0 [] Ls 0 (List.length x119)))],fun|(Sum.inl (⟨(),_⟩))=>[]|(Sum.inr (⟨x119,_⟩))=>[(0,(.rowI .i64 x119))],fun _=>0⟩,0,?_,?_⟩
 ·rintro (⟨⟨⟩,hp⟩|⟨x119,hp⟩)
  ·subst hp
   replace h:=hr1_119
   obtain ⟨x127,c,h⟩:=j5 h
   refine cl [] [0] (C7 c) ?_
   refine .inl ?_
   obtain rfl:=e8 h
   exact ⟨0,[],[],mt⟩
  ·subst hp
   replace h:=hr1_119
   obtain ⟨x128,c,h⟩:=j5 h
   refine cl [] [0] (C7 c) ?_
   refine .inl ?_
   obtain rfl:=e8 h
   exact ⟨0,[],[],mt⟩
 ·replace h:=hl1_119
  refine .inl ?_
  refine ⟨[6],_,fl (β:=Nat×Int×Int×(List Int)) (fun (n1,x120,x121,x122)=>(J9 x118 n1 x120 x121 x122=some r1_0_119,[(3,(.sl 0 [] Ls 0 (List.length x122))),(4,(.int .i64 x120)),(5,(.int .i64 x121))],[(0,(.rowI .i64 x122))],n1)),[],[],⟨(f9,0,0,([]:List Int)),h⟩,mt,?_⟩
  rintro ⟨⟨_|n1,x120,x121,x122⟩,h⟩
  ·exact i6 h
  replace h:=(J9.eq_2 x118 x120 x121 x122 n1).symm.trans h
  refine v8 h (fun hb h => ?_) (fun hb h => ?_)
  ·refine .inl ?_
   obtain ⟨x123,g,h⟩:=j5 h
   refine .inr ⟨[],_,fj (fun x123=>([(4,(.int .i64 x123))],[])) x123,0,?_,?_⟩
   ·rintro ⟨x123,rfl⟩
    refine dc ?_
    refine .inl ?_
    obtain ⟨hg,h⟩:=gd h
    refine And.intro (j9 (o5 [(Int.tmod x123 256)]) hg) ?_
    refine ⟨(x122++[(Int.tmod x123 256)]),m5 (i7 _) (i7 [(Int.tmod x123 256)]),0,(List.length (x122++[(Int.tmod x123 256)])),⟨rfl,r7 (o5 [(Int.tmod x123 256)])⟩,?_⟩
    refine .inl ?_
    refine dc ?_
    exact ⟨⟨(n1,_,_,_),h⟩,[(0,2)],mt,Nat.lt_succ_self _⟩
   ·replace h:=g
    refine v8 h (fun hb h => ?_) (fun hb h => ?_)
    ·refine m8 h fun hg h => ?_
     refine m7 h ?_
     intro x124 h
     exact ⟨[],[],⟨_,e8 h⟩,[],mt⟩
    ·exact ⟨[],[],⟨_,e8 h⟩,[],mt⟩
  ·refine v8 h (fun hb h => ?_) (fun hb h => ?_)
   ·refine .inl ?_
    obtain ⟨x125,g,h⟩:=j5 h
    refine .inr ⟨[],_,fj (fun x125=>([(4,(.int .i64 x125))],[])) x125,0,?_,?_⟩
    ·rintro ⟨x125,rfl⟩
     refine dc ?_
     refine .inl ?_
     obtain ⟨hg,h⟩:=gd h
     refine And.intro (j9 (o5 [(Int.tmod x125 256)]) hg) ?_
     refine ⟨(x122++[(Int.tmod x125 256)]),m5 (i7 _) (i7 [(Int.tmod x125 256)]),0,(List.length (x122++[(Int.tmod x125 256)])),⟨rfl,r7 (o5 [(Int.tmod x125 256)])⟩,?_⟩
     refine .inl ?_
     refine dc ?_
     exact ⟨⟨(n1,_,_,_),h⟩,[(0,2)],mt,Nat.lt_succ_self _⟩
    ·replace h:=g
     refine v8 h (fun hb h => ?_) (fun hb h => ?_)
     ·refine m8 h fun hg h => ?_
      refine m7 h ?_
      intro x126 h
      exact ⟨[],[],⟨_,e8 h⟩,[],mt⟩
     ·exact ⟨[],[],⟨_,e8 h⟩,[],mt⟩
   ·exact ⟨[],[],(Sum.inr (⟨_,e8 h⟩)),[],mt⟩
theorem On {x113 x114 i9} (h:Hc x113 x114=some i9) :
  FB er 121 [(.dv (.roI .i64 x113)),(.dv (.roI .i64 x114))] [] [1] (.sl 1 [] Ls 0 i9.1) [(.rowI .i64 i9.2)]:=by
 refine fb Tryz.func121 ?_
 unfold Hc at h
 refine m7 h ?_
 intro x115 h
 refine m8 h fun hg h => ?_
 refine .inl ?_
 refine ⟨(List.replicate (Int.toNat x115) (0:Int)),rfl,0,(List.length (List.replicate (Int.toNat x115) (0:Int))),⟨rfl,List.length_replicate ..⟩,?_⟩
 refine .inl ?_
 obtain ⟨x116,g,h⟩:=j5 h
 refine .inr ⟨[17],_,fj (fun x116=>([],[(0,(.rowI .i64 x116))])) x116,0,?_,?_⟩
 ·rintro ⟨x116,rfl⟩
  obtain ⟨x120,g,h⟩:=j5 h
  refine .inr ⟨[32],_,fj (fun x120=>([],[(0,(.rowI .i64 x120))])) x120,0,?_,?_⟩
  ·rintro ⟨x120,rfl⟩
   obtain ⟨⟨x124,x125⟩,c,h⟩:=j5 h
   refine cl [true] [1] (Zn c) ?_
   refine .inl ?_
   obtain rfl:=e8 h
   exact ⟨0,[],[],mt⟩
  ·replace h:=g
   refine .inl ?_
   refine ⟨[],_,fl (β:=Nat×Int×(List Int)) (fun (n2,x121,x122)=>(Ar x114 x115 n2 x121 x122=some x120,[(33,(.int .i64 x121))],[(0,(.rowI .i64 x122))],n2)),[],[],⟨(f9,0,x116),h⟩,mt,?_⟩
   rintro ⟨⟨_|n2,x121,x122⟩,h⟩
   ·exact i6 h
   replace h:=(Ar.eq_2 x114 x115 x121 x122 n2).symm.trans h
   refine v8 h (fun hb h => ?_) (fun hb h => ?_)
   ·refine .inl ?_
    refine m8 h fun hg h => ?_
    refine m8 h fun hg h => ?_
    refine m7 h ?_
    intro x123 h
    refine m8 h fun hg h => ?_
    exact ⟨⟨(n2,_,_),h⟩,[],mt,Nat.lt_succ_self _⟩
   ·exact ⟨[],[],⟨_,e8 h⟩,[],mt⟩
 ·replace h:=g
  refine .inl ?_
  refine ⟨[],_,fl (β:=Nat×Int×(List Int)) (fun (n1,x117,x118)=>(Aq x113 x115 n1 x117 x118=some x116,[(18,(.int .i64 x117))],[(0,(.rowI .i64 x118))],n1)),[],[],⟨(f9,0,(List.replicate (Int.toNat x115) (0:Int))),h⟩,mt,?_⟩
  rintro ⟨⟨_|n1,x117,x118⟩,h⟩
  ·exact i6 h
  replace h:=(Aq.eq_2 x113 x115 x117 x118 n1).symm.trans h
  refine v8 h (fun hb h => ?_) (fun hb h => ?_)
  ·refine .inl ?_
   refine m8 h fun hg h => ?_
   refine m8 h fun hg h => ?_
   refine m7 h ?_
   intro x119 h
   refine m8 h fun hg h => ?_
   exact ⟨⟨(n1,_,_),h⟩,[],mt,Nat.lt_succ_self _⟩
  ·exact ⟨[],[],⟨_,e8 h⟩,[],mt⟩
theorem Wc {x128 x129 i9} (h:Fu x128 x129=some i9) :
  FB er 120 [(.dv (.roI .i64 x128)),(.dv (.roI .i64 x129))] [] [1] (.sl 1 [] Ls 0 i9.1) [(.rowI .i64 i9.2)]:=by
 refine fb Tryz.func120 ?_
 unfold Fu at h
 refine m7 h ?_
 intro x130 h
 refine m8 h fun hg h => ?_
 refine .inl ?_
 refine ⟨(List.replicate (Int.toNat x130) (0:Int)),rfl,0,(List.length (List.replicate (Int.toNat x130) (0:Int))),⟨rfl,List.length_replicate ..⟩,?_⟩
 refine .inl ?_
 obtain ⟨x131,g,h⟩:=j5 h
 refine .inr ⟨[17],_,fj (fun x131=>([],[(0,(.rowI .i64 x131))])) x131,0,?_,?_⟩
 ·rintro ⟨x131,rfl⟩
  obtain ⟨⟨x140,x141⟩,c,h⟩:=j5 h
  refine cl [true] [1] (Zn c) ?_
  refine .inl ?_
  obtain rfl:=e8 h
  exact ⟨0,[],[],mt⟩
 ·replace h:=g
  refine .inl ?_
  refine ⟨[],_,fl (β:=Nat×Int×(List Int)) (fun (n1,x132,x133)=>(T2 x128 x129 x130 n1 x132 x133=some x131,[(18,(.int .i64 x132))],[(0,(.rowI .i64 x133))],n1)),[],[],⟨(f9,0,(List.replicate (Int.toNat x130) (0:Int))),h⟩,mt,?_⟩
  rintro ⟨⟨_|n1,x132,x133⟩,h⟩
  ·exact i6 h
  replace h:=(T2.eq_2 x128 x129 x130 x132 x133 n1).symm.trans h
  refine v8 h (fun hb h => ?_) (fun hb h => ?_)
  ·refine .inl ?_
   refine m8 h fun hg h => ?_
   obtain ⟨x134,g,h⟩:=j5 h
   refine .inr ⟨[6,7,24],_,fj (fun x134=>([],[(0,(.rowI .i64 x134))])) x134,0,?_,?_⟩
   ·rintro ⟨x134,rfl⟩
    exact ⟨⟨(n1,_,_),h⟩,[],mt,Nat.lt_succ_self _⟩
   ·replace h:=g
    refine .inl ?_
    refine ⟨[],_,fl (β:=Nat×Int×(List Int)) (fun (n2,x135,x136)=>(T1 x128 x129 x130 x132 n2 x135 x136=some x134,[(25,(.int .i64 x135))],[(0,(.rowI .i64 x136))],n2)),[],[],⟨(f9,0,x133),h⟩,mt,?_⟩
    rintro ⟨⟨_|n2,x135,x136⟩,h⟩
    ·exact i6 h
    replace h:=(T1.eq_2 x128 x129 x130 x132 x135 x136 n2).symm.trans h
    refine v8 h (fun hb h => ?_) (fun hb h => ?_)
    ·refine .inl ?_
     refine m8 h fun hg h => ?_
     refine m8 h fun hg h => ?_
     refine m7 h ?_
     intro x137 h
     refine m7 h ?_
     intro x138 h
     refine m8 h fun hg h => ?_
     refine m7 h ?_
     intro x139 h
     exact ⟨⟨(n2,_,_),h⟩,[],mt,Nat.lt_succ_self _⟩
    ·exact ⟨[],[],⟨_,e8 h⟩,[],mt⟩
  ·exact ⟨[],[],⟨_,e8 h⟩,[],mt⟩
theorem Sl {x145 i9} (h:Hd x145=some i9) :
  FB er 132 [(.dv (.roI .i64 x145))] [] (match i9 with|(Sum.inl _)=>[]|(Sum.inr (p0,p1,p2,p3))=>[2,1]) (match i9 with|(Sum.inl _)=>(.tup [(.dv (.sc (.slice none 0 0))),(.dv (.roI .i64 x145))])|(Sum.inr (p0,p1,p2,p3))=>(.tup [(.sl 2 [] Ls 0 p0),(.sl 1 [] Ls 0 p1)])) (match i9 with|(Sum.inl _)=>[]|(Sum.inr (p0,p1,p2,p3))=>[(.rowI .i64 p2),(.rowI .i64 p3)]):=by
 refine fb Tryz.func132 ?_ (by rcases i9 with _|_<;>rfl)
 unfold Hd at h
 refine v8 h (fun hb h => ?_) (fun hb h => ?_)
 ·obtain rfl:=e8 h
  exact ⟨0,[],[],mt⟩
 ·refine .inl ?_
  refine m8 h fun hg h => ?_
  refine dc ?_
  refine ⟨(List.take 17 x145),by first|rfl|simp,?_⟩
  obtain ⟨hg,h⟩:=gd h
  refine And.intro (hg) ?_
  refine ⟨(([]:List Int)++(List.take 17 x145)),m5 (i7 _) (rfl),0,(List.length (([]:List Int)++(List.take 17 x145))),⟨rfl,r7 (rfl)⟩,?_⟩
  refine .inl ?_
  refine m8 h fun hg h => ?_
  refine dc ?_
  refine m7 h ?_
  intro x146 h
  refine m8 h fun hg h => ?_
  refine .inl ?_
  obtain ⟨r1_0_147,hl1_147,hr1_147⟩:=j5 h
  refine .inr ⟨[22],(({p:Unit // (Sum.inl p)=r1_0_147})⊕({p:(List Int) // (Sum.inr p)=r1_0_147})),⟨fun|(Sum.inl (⟨(),_⟩))=>[(5,(.sl 2 [] Ls 0 (List.length ([]:List Int)))),(22,(.sl 2 [] Ls 0 (List.length ([]:List Int))))]|(Sum.inr (⟨x147,_⟩))=>[(5,(.sl 2 [] Ls 0 (List.length x147)))],fun|(Sum.inl (⟨(),_⟩))=>[]|(Sum.inr (⟨x147,_⟩))=>[(2,(.rowI .i64 x147))],fun _=>0⟩,0,?_,?_⟩
  ·rintro (⟨⟨⟩,hp⟩|⟨x147,hp⟩)
   ·subst hp
    replace h:=hr1_147
    obtain ⟨x155,c,h⟩:=j5 h
    refine cl [] [2] (C7 c) ?_
    refine .inl ?_
    obtain ⟨x156,c,h⟩:=j5 h
    refine cl [] [1] (C7 c) ?_ (hv:=⟨(.inl (show ((.sl 1 [] Ls 0 (List.length (List.set (([]:List Int)++(List.take 17 x145)) 16 x146))):AV)=((.sl 1 [] Ls 0 (List.length (([]:List Int)++(List.take 17 x145)))):AV) by simp only [List.length_set])),trivial⟩)
    refine .inl ?_
    obtain rfl:=e8 h
    exact ⟨0,[],[],mt⟩
   ·subst hp
    replace h:=hr1_147
    obtain ⟨x157,c,h⟩:=j5 h
    refine cl [] [2] (C7 c) ?_
    refine .inl ?_
    obtain ⟨x158,c,h⟩:=j5 h
    refine cl [] [1] (C7 c) ?_ (hv:=⟨(.inl (show ((.sl 1 [] Ls 0 (List.length (List.set (([]:List Int)++(List.take 17 x145)) 16 x146))):AV)=((.sl 1 [] Ls 0 (List.length (([]:List Int)++(List.take 17 x145)))):AV) by simp only [List.length_set])),trivial⟩)
    refine .inl ?_
    obtain rfl:=e8 h
    exact ⟨0,[],[],mt⟩
  ·replace h:=hl1_147
   refine .inl ?_
   refine ⟨[22],_,fl (β:=Nat×Int×(List Int)) (fun (n1,x148,x149)=>(K6 x145 n1 x148 x149=some r1_0_147,[(5,(.sl 2 [] Ls 0 (List.length x149))),(6,(.int .i64 x148))],[(2,(.rowI .i64 x149))],n1)),[],[],⟨(f9,16,([]:List Int)),h⟩,mt,?_⟩
   rintro ⟨⟨_|n1,x148,x149⟩,h⟩
   ·exact i6 h
   replace h:=(K6.eq_2 x145 x148 x149 n1).symm.trans h
   refine v8 h (fun hb h => ?_) (fun hb h => ?_)
   ·refine .inl ?_
    refine m7 h ?_
    intro x150 h
    obtain ⟨x151,g,h⟩:=j5 h
    refine .inr ⟨[],_,fj (fun x151=>([(7,(.int .i64 x151))],[])) x151,0,?_,?_⟩
    ·rintro ⟨x151,rfl⟩
     refine m8 h fun hg h => ?_
     refine dc ?_
     refine m7 h ?_
     intro x153 h
     refine dc ?_
     refine m7 h ?_
     intro x154 h
     refine .inl ?_
     obtain ⟨hg,h⟩:=gd h
     refine And.intro (j9 (o5 [x154]) hg) ?_
     refine ⟨(x149++[x154]),m5 (i7 _) (i7 [x154]),0,(List.length (x149++[x154])),⟨rfl,r7 (o5 [x154])⟩,?_⟩
     refine .inl ?_
     exact ⟨⟨(n1,_,_),h⟩,[(2,4)],mt,Nat.lt_succ_self _⟩
    ·replace h:=g
     refine v8 h (fun hb h => ?_) (fun hb h => ?_)
     ·refine m8 h fun hg h => ?_
      refine m7 h ?_
      intro x152 h
      exact ⟨[],[],⟨_,e8 h⟩,[],mt⟩
     ·exact ⟨[],[],⟨_,e8 h⟩,[],mt⟩
   ·exact ⟨[],[],(Sum.inr (⟨_,e8 h⟩)),[],mt⟩
theorem Pd {x149 x150 i9} (h:O1 x149 x150=some i9) :
  FB er 132 [(.sl 0 [] Ls 0 x149)] [(.rowI .i64 x150)] (match i9 with|(Sum.inl _)=>[]|(Sum.inr (p0,p1,p2,p3))=>[3,2]) (match i9 with|(Sum.inl _)=>(.tup [(.dv (.sc (.slice none 0 0))),(.sl 0 [] Ls 0 x149)])|(Sum.inr (p0,p1,p2,p3))=>(.tup [(.sl 3 [] Ls 0 p0),(.sl 2 [] Ls 0 p1)])) (match i9 with|(Sum.inl _)=>[(.rowI .i64 x150)]|(Sum.inr (p0,p1,p2,p3))=>[(.rowI .i64 x150),(.rowI .i64 p2),(.rowI .i64 p3)]):=by
 refine fb Tryz.func132 ?_ (by rcases i9 with _|_<;>rfl)
 unfold O1 at h
 refine v8 h (fun hb h => ?_) (fun hb h => ?_)
 ·obtain rfl:=e8 h
  exact ⟨0,[],[],mt⟩
 ·refine .inl ?_
  refine m8 h fun hg h => ?_
  refine dc ?_
  refine ⟨0,17,⟨by simp,rfl⟩,?_⟩
  obtain ⟨hg,h⟩:=gd h
  refine And.intro (j9 (F2 _ _) hg) ?_
  refine ⟨(([]:List Int)++(List.take 17 x150)),m5 (i7 _) (C8 _ _),0,(List.length (([]:List Int)++(List.take 17 x150))),⟨rfl,r7 (F2 _ _)⟩,?_⟩
  refine .inl ?_
  refine m8 h fun hg h => ?_
  refine dc ?_
  refine m7 h ?_
  intro x151 h
  refine m8 h fun hg h => ?_
  refine .inl ?_
  obtain ⟨r1_0_152,hl1_152,hr1_152⟩:=j5 h
  refine .inr ⟨[22],(({p:Unit // (Sum.inl p)=r1_0_152})⊕({p:(List Int) // (Sum.inr p)=r1_0_152})),⟨fun|(Sum.inl (⟨(),_⟩))=>[(5,(.sl 3 [] Ls 0 (List.length ([]:List Int)))),(22,(.sl 3 [] Ls 0 (List.length ([]:List Int))))]|(Sum.inr (⟨x152,_⟩))=>[(5,(.sl 3 [] Ls 0 (List.length x152)))],fun|(Sum.inl (⟨(),_⟩))=>[]|(Sum.inr (⟨x152,_⟩))=>[(3,(.rowI .i64 x152))],fun _=>0⟩,0,?_,?_⟩
  ·rintro (⟨⟨⟩,hp⟩|⟨x152,hp⟩)
   ·subst hp
    replace h:=hr1_152
    obtain ⟨x159,c,h⟩:=j5 h
    refine cl [] [3] (C7 c) ?_
    refine .inl ?_
    obtain ⟨x160,c,h⟩:=j5 h
    refine cl [] [2] (C7 c) ?_ (hv:=⟨(.inl (show ((.sl 2 [] Ls 0 (List.length (List.set (([]:List Int)++(List.take 17 x150)) 16 x151))):AV)=((.sl 2 [] Ls 0 (List.length (([]:List Int)++(List.take 17 x150)))):AV) by simp only [List.length_set])),trivial⟩)
    refine .inl ?_
    obtain rfl:=e8 h
    exact ⟨0,[],[],mt⟩
   ·subst hp
    replace h:=hr1_152
    obtain ⟨x161,c,h⟩:=j5 h
    refine cl [] [3] (C7 c) ?_
    refine .inl ?_
    obtain ⟨x162,c,h⟩:=j5 h
    refine cl [] [2] (C7 c) ?_ (hv:=⟨(.inl (show ((.sl 2 [] Ls 0 (List.length (List.set (([]:List Int)++(List.take 17 x150)) 16 x151))):AV)=((.sl 2 [] Ls 0 (List.length (([]:List Int)++(List.take 17 x150)))):AV) by simp only [List.length_set])),trivial⟩)
    refine .inl ?_
    obtain rfl:=e8 h
    exact ⟨0,[],[],mt⟩
  ·replace h:=hl1_152
   refine .inl ?_
   refine ⟨[22],_,fl (β:=Nat×Int×(List Int)) (fun (n1,x153,x154)=>(A7 x149 x150 n1 x153 x154=some r1_0_152,[(5,(.sl 3 [] Ls 0 (List.length x154))),(6,(.int .i64 x153))],[(3,(.rowI .i64 x154))],n1)),[],[],⟨(f9,16,([]:List Int)),h⟩,mt,?_⟩
   rintro ⟨⟨_|n1,x153,x154⟩,h⟩
   ·exact i6 h
   replace h:=(A7.eq_2 x149 x150 x153 x154 n1).symm.trans h
   refine v8 h (fun hb h => ?_) (fun hb h => ?_)
   ·refine .inl ?_
    obtain ⟨x155,g,h⟩:=j5 h
    refine .inr ⟨[],_,fj (fun x155=>([(7,(.int .i64 x155))],[])) x155,0,?_,?_⟩
    ·rintro ⟨x155,rfl⟩
     refine m8 h fun hg h => ?_
     refine dc ?_
     refine m7 h ?_
     intro x157 h
     refine dc ?_
     refine m7 h ?_
     intro x158 h
     refine .inl ?_
     obtain ⟨hg,h⟩:=gd h
     refine And.intro (j9 (o5 [x158]) hg) ?_
     refine ⟨(x154++[x158]),m5 (i7 _) (i7 [x158]),0,(List.length (x154++[x158])),⟨rfl,r7 (o5 [x158])⟩,?_⟩
     refine .inl ?_
     exact ⟨⟨(n1,_,_),h⟩,[(3,5)],mt,Nat.lt_succ_self _⟩
    ·replace h:=g
     refine v8 h (fun hb h => ?_) (fun hb h => ?_)
     ·refine m8 h fun hg h => ?_
      refine m7 h ?_
      intro x156 h
      exact ⟨[],[],⟨_,e8 h⟩,[],mt⟩
     ·exact ⟨[],[],⟨_,e8 h⟩,[],mt⟩
   ·exact ⟨[],[],(Sum.inr (⟨_,e8 h⟩)),[],mt⟩
theorem b72 {x145 i9} (h:Nf x145=some i9) :
  FB er 119 [(.dv (.roI .i64 x145))] [] (match i9 with|(Sum.inl p0)=>[]|(Sum.inr (p0,p1))=>[3]) (match i9 with|(Sum.inl p0)=>(.dv (.roI .i64 p0))|(Sum.inr (p0,p1))=>(.sl 3 [] Ls 0 p0)) (match i9 with|(Sum.inl p0)=>[]|(Sum.inr (p0,p1))=>[(.rowI .i64 p1)]):=by
 refine fb Tryz.func119 ?_ (by rcases i9 with _|_<;>rfl)
 unfold Nf at h
 obtain ⟨x146,g,h⟩:=j5 h
 refine .inr ⟨[],_,fj (fun x146=>([(0,(.dv (.roI .i64 x146)))],[])) x146,0,?_,?_⟩
 ·rintro ⟨x146,rfl⟩
  refine .inl ?_
  obtain ⟨⟨x156,x157⟩,c,h⟩:=j5 h
  refine cl [false,true] [1] (On c) ?_ (hv:=⟨.inl rfl,u9 _ _,trivial⟩)
  refine .inl ?_
  obtain ⟨r161,c,h⟩:=j5 h
  rcases r161 with ⟨⟩|⟨x158,x159,x160,x161⟩
  ·refine cl [] [1] (Pd c) ?_
   refine .inl ?_
   refine And.intro (fun h0=>Bool.noConfusion h0) (fun _ => ?_)
   obtain rfl:=e8 h
   exact ⟨0,[],[],mt⟩
  ·refine cl [] [1,2,3] (Pd c) ?_
   refine .inl ?_
   refine .inl ?_
   refine v8 h (fun hb h => ?_) (fun hb h => ?_)
   ·obtain rfl:=e8 h
    exact ⟨0,[],[],mt⟩
   ·obtain rfl:=e8 h
    exact ⟨0,[],[],mt⟩
 ·replace h:=g
  refine .inl ?_
  refine ⟨[],_,fl (β:=Nat×(List Int)) (fun (n1,x147)=>(W9 n1 x147=some x146,[(0,(.dv (.roI .i64 x147)))],[],n1)),[],[],⟨(f9,x145),h⟩,mt,?_⟩
  rintro ⟨⟨_|n1,x147⟩,h⟩
  ·exact i6 h
  replace h:=(W9.eq_2 x147 n1).symm.trans h
  refine .inl ?_
  obtain ⟨r155,c,h⟩:=j5 h
  rcases r155 with ⟨⟩|⟨x148,x149,x150,x151⟩
  ·refine cl [] [] (Sl c) ?_
   refine And.intro (fun _ => ?_) (fun h0=>Bool.noConfusion h0)
   exact ⟨[],[],⟨_,e8 h⟩,[],mt⟩
  ·refine cl [] [0,1] (Sl c) ?_
   refine .inl ?_
   refine .inl ?_
   refine v8 h (fun hb h => ?_) (fun hb h => ?_)
   ·exact ⟨[],[],⟨_,e8 h⟩,[],mt⟩
   ·refine .inl ?_
    obtain ⟨⟨x152,x153⟩,c,h⟩:=j5 h
    refine cl [true,true] [3] (Wc c) ?_ (hv:=⟨.inl rfl,u9 _ _,trivial⟩)
    refine .inl ?_
    obtain ⟨⟨x154,x155⟩,c,h⟩:=j5 h
    refine cl [true,true] [4] (On c) ?_
    refine .inr ?_
    refine ⟨(List.take x154 x155),by first|rfl|exact i7 _|simp,?_⟩
    exact ⟨⟨(n1,_),h⟩,[],mt,Nat.lt_succ_self _⟩
end
end Go.Eng
