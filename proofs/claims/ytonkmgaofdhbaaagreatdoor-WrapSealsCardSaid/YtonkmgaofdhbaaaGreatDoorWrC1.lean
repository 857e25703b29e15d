/-
  Part of a proof: WrC1.
-/
import Derived.Test.YtonkmgaofdhbaaaGreatDoorWrM
import Derived.Test.YtonkmgaofdhbaaaGreatDoorIss
set_option linter.unusedVariables false
set_option linter.unusedSimpArgs false
set_option linter.unusedVariables false
set_option linter.unusedSimpArgs false
namespace Go.Eng
open Go.Proofs
set_option maxRecDepth 100000
set_option maxHeartbeats 4000000
section
variable {er:Nat->Zp}
def GEv (er:Nat->Zp):Nat->AV
 |0 => .rp (.sc (.iface (er 3).1 (er 3).2))
 |1 => .rp (.sc (.iface (er 2).1 (er 2).2))
 |2 => .rp (.sc (.iface (er 1).1 (er 1).2))
 |3 => .rp (.sc (.iface (er 4).1 (er 4).2))
 |4 => .rp (.sc (.iface (er 5).1 (er 5).2))
 |5 => .rp (.sc (.iface (er 6).1 (er 6).2))
 |6 => .rp (.sc (.iface (er 7).1 (er 7).2))
 |7 => .rp (.sc (.iface (er 8).1 (er 8).2))
 |8 => .rp (.sc (.iface (er 9).1 (er 9).2))
 |9 => .rp (.sc (.iface (er 10).1 (er 10).2))
 |10 => .rp (.sc (.iface (er 11).1 (er 11).2))
 |11 => .rp (.sc (.iface (er 12).1 (er 12).2))
 |12 => .rp (.sc (.iface (er 13).1 (er 13).2))
 |13 => .rp (.sc (.iface (er 14).1 (er 14).2))
 |14 => .rp (.sc (.iface (er 15).1 (er 15).2))
 |15 => .rp (.sc (.iface (er 16).1 (er 16).2))
 |16 => .rp (.sc (.iface (er 17).1 (er 17).2))
 |17 => .rp (.sc (.iface (er 18).1 (er 18).2))
 |18 => .rp (.sc (.iface (er 19).1 (er 19).2))
 |19 => .rp (.ints .u64 10 E8)
 |20 => .rp (.ints .u32 64 y5)
 |_ => .any
def GE (er:Nat->Zp):G1:=⟨GEv er,f22 186 er l37⟩
theorem i45 (er:Nat->Zp):Ja (GE er):=fun g=>by show (GEv er g).inB _=true;unfold GEv;split<;>rfl
abbrev FB (er:Nat->Zp):FuncId->List AV->List j6->List Nat->AV->List j6->Prop:=FnB Tryz.prog (GE er)
theorem fb {er:Nat->Zp} {f:FuncId} {fn:Func} {c:Code} {as0:List AV} {bs0:List j6} {news:List Nat} {r0:AV} {ws:List j6} (hf:Tryz.prog.funcs[f]?=some fn)
  (h:Wv as0 fn.ntmps fun ts=>Ri Tryz.prog (GE er) tab (itR Tryz.prog (GE er) tab 3) bs0.length noY c false [] none (g56 tab fn fun r bs=>r=r0/\Jb bs (List.range bs0.length++news) ws) ts bs0)
  (hchk:c21 as0 bs0 news r0 ws=true:=by rfl) (hname:(fn.name == "runtime.NumGoroutine")=false:=by rfl) (hb:fn.body=some c:=by rfl):FB er f as0 bs0 news r0 ws :=
 FnB.of f57 k96 (i45 er) hf hname hb hchk 3 h
theorem z0 {x14 i9} (h:q7 x14=some i9) :
  FB er 51 [(.dv (.sc (.slice none 0 0))),(.int .i64 x14)] [] [0] (.sl 0 [] s6 0 i9.1) [(.rowI .u8 i9.2)]:=by
 refine fb Tryz.func51 ?_
 unfold q7 at h
 refine .inl ?_
 refine v8 h (fun hb h => ?_) (fun hb h => ?_)
 ·exact i6 h
 ·obtain ⟨⟨x15,x16⟩,g,h⟩:=j5 h
  refine .inr ⟨[],_,fj (fun (x15,x16)=>([(0,(.sl 0 [] s6 0 x15))],[(0,(.rowI .u8 x16))])) (x15,x16),1,?_,?_⟩
  ·rintro ⟨_,rfl⟩
   obtain rfl:=e8 h
   exact ⟨0,[],[],mt⟩
  ·replace h:=g
   refine v8 h (fun hb h => ?_) (fun hb h => ?_)
   ·refine dc ?_
    refine dc ?_
    refine m8 h fun hg h => ?_
    refine ⟨(List.replicate (Int.toNat (IntKind.wrap .i64 (x14-0))) (0:Int)),rfl,0,(List.length (List.replicate (Int.toNat (IntKind.wrap .i64 (x14-0))) (0:Int))),⟨rfl,List.length_replicate ..⟩,?_⟩
    refine .inl ?_
    refine m7 h ?_
    intro x17 h
    refine m8 h fun hg h => ?_
    refine dc ?_
    refine ⟨0,0,⟨by simp,rfl⟩,?_⟩
    exact ⟨[],[],⟨_,e8 h⟩,[],mt⟩
   ·exact ⟨[(0,.rowI .u8 [])],[],⟨_,e8 h⟩,[],mt⟩
theorem Kk {x10 x11 i9} (h:F7 x10 x11=some i9) :
  FB er 30 [(.vs 0 0 1)] [(.var (.cons (.sl 1 [] s6 0 x10) (.dv .nil))),(.frzI .u8 x11)] [3] (.sl 3 [] s6 0 (List.length i9)) [(.var (.cons (.sl 1 [] s6 0 x10) (.dv .nil))),(.frzI .u8 x11),(.rowI .u8 i9)]:=by
 refine fb Tryz.func30 ?_
 unfold F7 at h
 obtain ⟨⟨⟩,g,h⟩:=j5 h
 refine .inr ⟨[10],_,fj (fun ()=>([(3,(.int .i64 (IntKind.wrap .i64 (0+(x10:Int)))))],[])) (),0,?_,?_⟩
 ·rintro ⟨_,rfl⟩
  obtain ⟨⟨x12,x13⟩,c,h⟩:=j5 h
  refine cl [] [2] (z0 c) ?_
  refine .inl ?_
  obtain ⟨⟨⟩,g,h⟩:=j5 h
  refine .inr ⟨[24,26],_,fj (fun ()=>([(6,(.sl 3 [] s6 0 (List.length ((List.take x12 x13)++(List.take x10 x11)))))],[(2,.dead),(3,(.rowI .u8 ((List.take x12 x13)++(List.take x10 x11))))])) (),1,?_,?_⟩
  ·rintro ⟨_,rfl⟩
   obtain rfl:=e8 h
   exact ⟨0,[],[],mt⟩
  ·replace h:=g
   refine .inr ⟨30,?_⟩
   refine And.intro (fun _ => ?_) (fun h0=>Bool.noConfusion h0)
   refine .inl ?_
   refine dc ?_
   obtain ⟨hg,h⟩:=gd h
   refine And.intro (j9 (F2 _ _) hg) ?_
   obtain ⟨hg2,h⟩:=gd h
   refine ⟨((List.take x12 x13)++(List.take x10 x11)),m5 (C8 _ _) (C8 _ _),0,(List.length ((List.take x12 x13)++(List.take x10 x11))),⟨rfl,Dw hg2 (F2 _ _)⟩,?_⟩
   refine .inl ?_
   refine And.intro (fun h0=>Bool.noConfusion h0) (fun _ => ?_)
   exact ⟨[],[],⟨_,e8 h⟩,[],mt⟩
 ·replace h:=g
  refine .inr ⟨30,?_⟩
  refine And.intro (fun _ => ?_) (fun h0=>Bool.noConfusion h0)
  refine .inl ?_
  refine dc ?_
  refine .inl ?_
  refine v8 h (fun hb h => ?_) (fun hb h => ?_)
  ·exact i6 h
  ·refine And.intro (fun h0=>Bool.noConfusion h0) (fun _ => ?_)
   exact ⟨[],[],⟨_,e8 h⟩,[],mt⟩
theorem e81 {i9} (h:Ya=some i9) :
  FB er 122 [] [] [] (.dv (.ints .u32 8 i9)) []:=by
 refine fb Tryz.func122 ?_
 unfold Ya at h
 refine m7 h ?_
 intro x19 h
 obtain rfl:=e8 h
 exact ⟨0,[],[],mt⟩
theorem Mv {i9} (h:Le=some i9) :
  FB er 91 [] [] [0] (.ptr 0 [] Yc) [(.var (.dv (.cons (.ints .u32 8 i9) (.cons (.sc (.slice none 0 0)) (.cons (.sc (.int .u64 0)) .nil)))))]:=by
 refine fb Tryz.func91 ?_
 unfold Le at h
 obtain ⟨x19,c,h⟩:=j5 h
 refine cl [] [] (e81 c) ?_
 obtain rfl:=e8 h
 exact ⟨0,[],[],mt⟩
theorem G4 {x33 x34 i9} (h:v7 x33 x34=some i9) :
  FB er 135 [(.int .u32 x33),(.int .i64 x34)] [] [] (.int .u32 i9) []:=by
 refine fb Tryz.func135 ?_
 unfold v7 at h
 refine dc ?_
 refine m8 h fun hg h => ?_
 refine m7 h ?_
 intro x35 h
 refine m7 h ?_
 intro x36 h
 refine m8 h fun hg h => ?_
 refine m7 h ?_
 intro x37 h
 obtain rfl:=e8 h
 exact ⟨0,[],[],mt⟩
theorem b67 {x31 i9} (h:El x31=some i9) :
  FB er 134 [(.dv (.roI .u8 x31))] [] [] (.dv (.ints .u32 64 i9)) []:=by
 refine fb Tryz.func134 ?_
 unfold El at h
 obtain ⟨x32,g,h⟩:=j5 h
 refine .inr ⟨[0],_,fj (fun x32=>([],[(1,(.var (.dv (.ints .u32 64 x32))))])) x32,0,?_,?_⟩
 ·rintro ⟨x32,rfl⟩
  obtain ⟨x42,g,h⟩:=j5 h
  refine .inr ⟨[],_,fj (fun x42=>([],[(1,(.var (.dv (.ints .u32 64 x42))))])) x42,0,?_,?_⟩
  ·rintro ⟨x42,rfl⟩
   obtain rfl:=e8 h
   exact ⟨0,[],[],mt⟩
  ·replace h:=g
   refine .inl ?_
   refine ⟨[],_,fl (β:=Nat×Int×(List Int)) (fun (n2,x43,x44)=>(I5 n2 x43 x44=some x42,[(5,(.int .i64 x43))],[(1,(.var (.dv (.ints .u32 64 x44))))],n2)),[],[],⟨(f9,16,x32),h⟩,mt,?_⟩
   rintro ⟨⟨_|n2,x43,x44⟩,h⟩
   ·exact i6 h
   replace h:=(I5.eq_2 x43 x44 n2).symm.trans h
   refine v8 h (fun hb h => ?_) (fun hb h => ?_)
   ·refine .inl ?_
    refine m8 h fun hg h => ?_
    refine m8 h fun hg h => ?_
    obtain ⟨x45,c,h⟩:=j5 h
    refine cl [] [] (G4 c) ?_
    obtain ⟨x46,c,h⟩:=j5 h
    refine cl [] [] (G4 c) ?_
    refine dc ?_
    refine m7 h ?_
    intro x47 h
    obtain ⟨x48,c,h⟩:=j5 h
    refine cl [] [] (G4 c) ?_
    obtain ⟨x49,c,h⟩:=j5 h
    refine cl [] [] (G4 c) ?_
    refine dc ?_
    refine m7 h ?_
    intro x50 h
    refine m8 h fun hg h => ?_
    refine m7 h ?_
    intro x51 h
    refine m8 h fun hg h => ?_
    refine m7 h ?_
    intro x52 h
    refine m7 h ?_
    intro x53 h
    refine m8 h fun hg h => ?_
    exact ⟨⟨(n2,_,_),h⟩,[],mt,Nat.lt_succ_self _⟩
   ·exact ⟨[],[],⟨_,e8 h⟩,[],mt⟩
 ·replace h:=g
  refine .inl ?_
  refine ⟨[],_,fl (β:=Nat×Int×(List Int)) (fun (n1,x33,x34)=>(I4 x31 n1 x33 x34=some x32,[(10,(.int .i64 x33))],[(1,(.var (.dv (.ints .u32 64 x34))))],n1)),[],[],⟨(f9,0,(List.replicate 64 (0:Int))),h⟩,mt,?_⟩
  rintro ⟨⟨_|n1,x33,x34⟩,h⟩
  ·exact i6 h
  replace h:=(I4.eq_2 x31 x33 x34 n1).symm.trans h
  refine v8 h (fun hb h => ?_) (fun hb h => ?_)
  ·refine .inl ?_
   refine m8 h fun hg h => ?_
   refine m7 h ?_
   intro x35 h
   refine dc ?_
   refine m8 h fun hg h => ?_
   refine m7 h ?_
   intro x36 h
   refine dc ?_
   refine m7 h ?_
   intro x37 h
   refine m8 h fun hg h => ?_
   refine m7 h ?_
   intro x38 h
   refine dc ?_
   refine m7 h ?_
   intro x39 h
   refine m8 h fun hg h => ?_
   refine m7 h ?_
   intro x40 h
   refine m8 h fun hg h => ?_
   refine m7 h ?_
   intro x41 h
   exact ⟨⟨(n1,_,_),h⟩,[],mt,Nat.lt_succ_self _⟩
  ·exact ⟨[],[],⟨_,e8 h⟩,[],mt⟩
theorem Cu {x34 x35 x36 x37 x38 x39 x40 i9} (h:F8 x34 x35 x36 x37 x38 x39 x40=some i9) :
  FB er 123 [(.ptr 0 [0] h18),(.sl 1 [] s6 x34 x35)] [(.var (.cons (.dv (.ints .u32 8 x36)) (.cons (.sl 1 [] s6 x37 x38) (.dv (.cons (.sc (.int .u64 x39)) .nil))))),(.rowI .u8 x40)] [] (.tup []) [(.var (.cons (.dv (.ints .u32 8 i9)) (.cons (.sl 1 [] s6 x37 x38) (.dv (.cons (.sc (.int .u64 x39)) .nil))))),(.rowI .u8 x40)]:=by
 refine fb Tryz.func123 ?_
 unfold F8 at h
 obtain ⟨x41,c,h⟩:=j5 h
 refine cl [true] [] (b67 c) ?_
 obtain ⟨x42,g,h⟩:=j5 h
 refine .inr ⟨[20],_,fj (fun x42=>([],[(3,(.var (.dv (.ints .u32 8 x42))))])) x42,0,?_,?_⟩
 ·rintro ⟨x42,rfl⟩
  obtain ⟨x61,g,h⟩:=j5 h
  refine .inr ⟨[],_,fj (fun x61=>([],[(0,(.var (.cons (.dv (.ints .u32 8 x61)) (.cons (.sl 1 [] s6 x37 x38) (.dv (.cons (.sc (.int .u64 x39)) .nil))))))])) x61,0,?_,?_⟩
  ·rintro ⟨x61,rfl⟩
   obtain rfl:=e8 h
   exact ⟨0,[],[],mt⟩
  ·replace h:=g
   refine .inl ?_
   refine ⟨[],_,fl (β:=Nat×Int×(List Int)) (fun (n2,x62,x63)=>(M2 x42 n2 x62 x63=some x61,[(96,(.int .i64 x62))],[(0,(.var (.cons (.dv (.ints .u32 8 x63)) (.cons (.sl 1 [] s6 x37 x38) (.dv (.cons (.sc (.int .u64 x39)) .nil))))))],n2)),[],[],⟨(f9,0,x36),h⟩,mt,?_⟩
   rintro ⟨⟨_|n2,x62,x63⟩,h⟩
   ·exact i6 h
   replace h:=(M2.eq_2 x42 x62 x63 n2).symm.trans h
   refine v8 h (fun hb h => ?_) (fun hb h => ?_)
   ·refine .inl ?_
    refine m8 h fun hg h => ?_
    refine m8 h fun hg h => ?_
    refine m7 h ?_
    intro x64 h
    refine m8 h fun hg h => ?_
    exact ⟨⟨(n2,_,_),h⟩,[],mt,Nat.lt_succ_self _⟩
   ·exact ⟨[],[],⟨_,e8 h⟩,[],mt⟩
 ·replace h:=g
  refine .inl ?_
  refine ⟨[],_,fl (β:=Nat×Int×(List Int)) (fun (n1,x43,x44)=>(B7 x41 n1 x43 x44=some x42,[(21,(.int .i64 x43))],[(3,(.var (.dv (.ints .u32 8 x44))))],n1)),[],[],⟨(f9,0,x36),h⟩,mt,?_⟩
  rintro ⟨⟨_|n1,x43,x44⟩,h⟩
  ·exact i6 h
  replace h:=(B7.eq_2 x41 x43 x44 n1).symm.trans h
  refine v8 h (fun hb h => ?_) (fun hb h => ?_)
  ·refine .inl ?_
   refine m8 h fun hg h => ?_
   refine dc ?_
   refine dc ?_
   obtain ⟨x45,c,h⟩:=j5 h
   refine cl [] [] (G4 c) ?_
   obtain ⟨x46,c,h⟩:=j5 h
   refine cl [] [] (G4 c) ?_
   obtain ⟨x47,c,h⟩:=j5 h
   refine cl [] [] (G4 c) ?_
   refine dc ?_
   refine m7 h ?_
   intro x48 h
   refine dc ?_
   refine dc ?_
   refine m7 h ?_
   intro x49 h
   refine m7 h ?_
   intro x50 h
   refine m7 h ?_
   intro x51 h
   refine m8 h fun hg h => ?_
   refine m7 h ?_
   intro x52 h
   obtain ⟨x53,c,h⟩:=j5 h
   refine cl [] [] (G4 c) ?_
   obtain ⟨x54,c,h⟩:=j5 h
   refine cl [] [] (G4 c) ?_
   obtain ⟨x55,c,h⟩:=j5 h
   refine cl [] [] (G4 c) ?_
   refine dc ?_
   refine dc ?_
   refine m7 h ?_
   intro x56 h
   refine dc ?_
   refine dc ?_
   refine m7 h ?_
   intro x57 h
   refine m7 h ?_
   intro x58 h
   refine .inl ?_
   refine dc ?_
   refine ⟨1,7,⟨rfl,rfl⟩,?_⟩
   refine .inl ?_
   refine dc ?_
   refine dc ?_
   refine ⟨0,7,⟨rfl,rfl⟩,?_⟩
   refine dc ?_
   refine m7 h ?_
   intro x59 h
   refine dc ?_
   refine m7 h ?_
   intro x60 h
   refine dc ?_
   exact ⟨⟨(n1,_,_),h⟩,[],mt,Nat.lt_succ_self _⟩
  ·exact ⟨[],[],⟨_,e8 h⟩,[],mt⟩
theorem Ax {x25 x26 x27 i9} (h:K2 x25 x26 x27=some i9) :
  FB er 92 [(.ptr 0 [] Yc),(.dv (.roI .u8 x25))] [(.var (.dv (.cons (.ints .u32 8 x26) (.cons (.sc (.slice none 0 0)) (.cons (.sc (.int .u64 x27)) .nil)))))] [1] (.tup []) [(.var (.cons (.dv (.ints .u32 8 i9.1)) (.cons (.sl 1 [] s6 i9.2.1 i9.2.2.1) (.dv (.cons (.sc (.int .u64 i9.2.2.2)) .nil))))),(.rowI .u8 x25)]:=by
 refine fb Tryz.func92 ?_
 unfold K2 at h
 refine m7 h ?_
 intro x28 h
 obtain ⟨hg,h⟩:=gd h
 refine And.intro (hg) ?_
 refine ⟨x25,rfl,0,(List.length x25),⟨rfl,rfl⟩,?_⟩
 refine .inl ?_
 obtain ⟨⟨x29,x30,x31⟩,g,h⟩:=j5 h
 refine .inr ⟨[],_,fj (fun (x29,x30,x31)=>([],[(0,(.var (.cons (.dv (.ints .u32 8 x29)) (.cons (.sl 1 [] s6 x30 x31) (.dv (.cons (.sc (.int .u64 x28)) .nil))))))])) (x29,x30,x31),0,?_,?_⟩
 ·rintro ⟨_,rfl⟩
  obtain rfl:=e8 h
  exact ⟨0,[],[],mt⟩
 ·replace h:=g
  refine .inl ?_
  refine ⟨[],_,fl (β:=Nat×(List Int)×Nat×Nat) (fun (n1,x34,x35,x36)=>(K9 x25 x28 n1 x34 x35 x36=some (x29,x30,x31),[],[(0,(.var (.cons (.dv (.ints .u32 8 x34)) (.cons (.sl 1 [] s6 x35 x36) (.dv (.cons (.sc (.int .u64 x28)) .nil))))))],n1)),[],[],⟨(f9,x26,0,(List.length x25)),h⟩,mt,?_⟩
  rintro ⟨⟨_|n1,x34,x35,x36⟩,h⟩
  ·exact i6 h
  replace h:=(K9.eq_2 x25 x28 x34 x35 x36 n1).symm.trans h
  refine v8 h (fun hb h => ?_) (fun hb h => ?_)
  ·refine .inl ?_
   refine m8 h fun hg h => ?_
   refine dc ?_
   refine ⟨x35,64,⟨rfl,rfl⟩,?_⟩
   obtain ⟨x37,c,h⟩:=j5 h
   refine cl [] [0,1] (Cu c) ?_
   refine m8 h fun hg h => ?_
   refine ⟨(x35+64),(Int.toNat ((x36:Int)-64)),⟨rfl,rfl⟩,?_⟩
   exact ⟨⟨(n1,_,_,_),h⟩,[],mt,Nat.lt_succ_self _⟩
  ·exact ⟨[],[],⟨_,e8 h⟩,[],mt⟩
theorem Tp {x25 x26 x27 x28 i9} (h:U7 x25 x26 x27 x28=some i9) :
  FB er 92 [(.ptr 0 [] Yc),(.dv (.roI .u8 x25))] [(.var (.cons (.dv (.ints .u32 8 x26)) (.cons (.sl 1 [] s6 0 (List.length x28)) (.dv (.cons (.sc (.int .u64 x27)) .nil))))),(.rowI .u8 x28)] [2] (.tup []) [(.var (.cons (.dv (.ints .u32 8 i9.1)) (.cons (.sl 2 [] s6 i9.2.1 i9.2.2.1) (.dv (.cons (.sc (.int .u64 i9.2.2.2)) .nil))))),.dead,(.rowI .u8 (x28++x25))]:=by
 refine fb Tryz.func92 ?_
 unfold U7 at h
 refine m7 h ?_
 intro x29 h
 obtain ⟨hg,h⟩:=gd h
 refine And.intro (hg) ?_
 refine ⟨(x28++x25),m5 (i7 _) (rfl),0,(List.length (x28++x25)),⟨rfl,r7 (rfl)⟩,?_⟩
 refine .inl ?_
 obtain ⟨⟨x30,x31,x32⟩,g,h⟩:=j5 h
 refine .inr ⟨[],_,fj (fun (x30,x31,x32)=>([],[(0,(.var (.cons (.dv (.ints .u32 8 x30)) (.cons (.sl 2 [] s6 x31 x32) (.dv (.cons (.sc (.int .u64 x29)) .nil))))))])) (x30,x31,x32),0,?_,?_⟩
 ·rintro ⟨_,rfl⟩
  obtain rfl:=e8 h
  exact ⟨0,[],[],mt⟩
 ·replace h:=g
  refine .inl ?_
  refine ⟨[],_,fl (β:=Nat×(List Int)×Nat×Nat) (fun (n1,x35,x36,x37)=>(H5 x25 x28 x29 n1 x35 x36 x37=some (x30,x31,x32),[],[(0,(.var (.cons (.dv (.ints .u32 8 x35)) (.cons (.sl 2 [] s6 x36 x37) (.dv (.cons (.sc (.int .u64 x29)) .nil))))))],n1)),[],[],⟨(f9,x26,0,(List.length (x28++x25))),h⟩,mt,?_⟩
  rintro ⟨⟨_|n1,x35,x36,x37⟩,h⟩
  ·exact i6 h
  replace h:=(H5.eq_2 x25 x28 x29 x35 x36 x37 n1).symm.trans h
  refine v8 h (fun hb h => ?_) (fun hb h => ?_)
  ·refine .inl ?_
   refine m8 h fun hg h => ?_
   refine dc ?_
   refine ⟨x36,64,⟨rfl,rfl⟩,?_⟩
   obtain ⟨x38,c,h⟩:=j5 h
   refine cl [] [0,2] (Cu c) ?_
   refine m8 h fun hg h => ?_
   refine ⟨(x36+64),(Int.toNat ((x37:Int)-64)),⟨rfl,rfl⟩,?_⟩
   exact ⟨⟨(n1,_,_,_),h⟩,[],mt,Nat.lt_succ_self _⟩
  ·exact ⟨[],[],⟨_,e8 h⟩,[],mt⟩
theorem y7 {x30 x31 x32 x33 x34 x35 i9} (h:t7 x30 x31 x32 x33 x34 x35=some i9) :
  FB er 92 [(.ptr 0 [] Yc),(.dv (.roI .u8 x30))] [(.var (.cons (.dv (.ints .u32 8 x31)) (.cons (.sl 1 [] s6 x32 x33) (.dv (.cons (.sc (.int .u64 x34)) .nil))))),(.rowI .u8 x35)] [2] (.tup []) [(.var (.cons (.dv (.ints .u32 8 i9.1)) (.cons (.sl 2 [] s6 i9.2.1 i9.2.2.1) (.dv (.cons (.sc (.int .u64 i9.2.2.2)) .nil))))),.dead,(.rowI .u8 ((List.take x33 (List.drop x32 x35))++x30))]:=by
 refine fb Tryz.func92 ?_
 unfold t7 at h
 refine m7 h ?_
 intro x36 h
 obtain ⟨hg,h⟩:=gd h
 refine And.intro (hg) ?_
 obtain ⟨hg2,h⟩:=gd h
 refine ⟨((List.take x33 (List.drop x32 x35))++x30),m5 (rfl) (rfl),0,(List.length ((List.take x33 (List.drop x32 x35))++x30)),⟨rfl,i66 hg2 (rfl)⟩,?_⟩
 refine .inl ?_
 obtain ⟨⟨x37,x38,x39⟩,g,h⟩:=j5 h
 refine .inr ⟨[],_,fj (fun (x37,x38,x39)=>([],[(0,(.var (.cons (.dv (.ints .u32 8 x37)) (.cons (.sl 2 [] s6 x38 x39) (.dv (.cons (.sc (.int .u64 x36)) .nil))))))])) (x37,x38,x39),0,?_,?_⟩
 ·rintro ⟨_,rfl⟩
  obtain rfl:=e8 h
  exact ⟨0,[],[],mt⟩
 ·replace h:=g
  refine .inl ?_
  refine ⟨[],_,fl (β:=Nat×(List Int)×Nat×Nat) (fun (n1,x42,x43,x44)=>(H6 x30 x32 x33 x35 x36 n1 x42 x43 x44=some (x37,x38,x39),[],[(0,(.var (.cons (.dv (.ints .u32 8 x42)) (.cons (.sl 2 [] s6 x43 x44) (.dv (.cons (.sc (.int .u64 x36)) .nil))))))],n1)),[],[],⟨(f9,x31,0,(List.length ((List.take x33 (List.drop x32 x35))++x30))),h⟩,mt,?_⟩
  rintro ⟨⟨_|n1,x42,x43,x44⟩,h⟩
  ·exact i6 h
  replace h:=(H6.eq_2 x30 x32 x33 x35 x36 x42 x43 x44 n1).symm.trans h
  refine v8 h (fun hb h => ?_) (fun hb h => ?_)
  ·refine .inl ?_
   refine m8 h fun hg h => ?_
   refine dc ?_
   refine ⟨x43,64,⟨rfl,rfl⟩,?_⟩
   obtain ⟨x45,c,h⟩:=j5 h
   refine cl [] [0,2] (Cu c) ?_
   refine m8 h fun hg h => ?_
   refine ⟨(x43+64),(Int.toNat ((x44:Int)-64)),⟨rfl,rfl⟩,?_⟩
   exact ⟨⟨(n1,_,_,_),h⟩,[],mt,Nat.lt_succ_self _⟩
  ·exact ⟨[],[],⟨_,e8 h⟩,[],mt⟩
theorem E7 {x40 i9} (h:u6 x40=some i9) :
  FB er 72 [(.dv (.roI .u8 x40))] [] [1] (.sl 1 [] s6 0 (List.length i9)) [(.rowI .u8 i9)]:=by
 refine fb Tryz.func72 ?_
 unfold u6 at h
 refine And.intro ?_ ?_
 ·intro hnil
  replace hnil:x40=[]:=List.eq_nil_of_length_eq_zero hnil
  replace h:(some ([]:List Int))=some i9:=by simpa [hnil] using h
  obtain rfl:=e8 h
  exact ⟨1,[(2,(.rowI .u8 ([]:List Int)))],[],mt⟩
 ·refine .inl ?_
  obtain ⟨hg,h⟩:=gd h
  refine And.intro (hg) ?_
  refine ⟨(([]:List Int)++x40),m5 (i7 _) (rfl),0,(List.length (([]:List Int)++x40)),⟨rfl,r7 (rfl)⟩,?_⟩
  refine .inl ?_
  obtain rfl:=e8 h
  exact ⟨0,[],[],mt⟩
theorem Zt {x35 x36 x37 x38 x39 i9} (h:Gb x35 x36 x37 x38 x39=some i9) :
  FB er 124 [(.ptr 0 [] Yc)] [(.var (.cons (.dv (.ints .u32 8 x35)) (.cons (.sl 1 [] s6 x36 x37) (.dv (.cons (.sc (.int .u64 x38)) .nil))))),(.rowI .u8 x39)] [3,2] (.ptr 3 [] Yc) [(.var (.cons (.dv (.ints .u32 8 x35)) (.cons (.sl 1 [] s6 x36 x37) (.dv (.cons (.sc (.int .u64 x38)) .nil))))),(.rowI .u8 x39),(.var (.cons (.dv (.ints .u32 8 x35)) (.cons (.sl 2 [] s6 0 (List.length i9)) (.dv (.cons (.sc (.int .u64 x38)) .nil))))),(.rowI .u8 i9)]:=by
 refine fb Tryz.func124 ?_
 unfold Gb at h
 obtain ⟨x40,c,h⟩:=j5 h
 refine cl [true] [2] (E7 c) ?_
 refine .inl ?_
 obtain rfl:=e8 h
 exact ⟨0,[],[],mt⟩
theorem Z5 {x44 x45 i9} (h:I6 x44 x45=some i9) :
  FB er 107 [(.int .u64 x44),(.int .i64 x45)] [] (match i9 with|(Sum.inl p0)=>[0]|(Sum.inr _)=>[]) (match i9 with|(Sum.inl p0)=>(.tup [(.sl 0 [] s6 0 (List.length (List.replicate (Int.toNat x45) (0:Int)))),(.dv (.sc .nilIface))])|(Sum.inr _)=>(.tup [(.dv (.sc (.slice none 0 0))),(Pe er 1)])) (match i9 with|(Sum.inl p0)=>[(.rowI .u8 p0)]|(Sum.inr _)=>[]):=by
 refine fb Tryz.func107 ?_ (by rcases i9 with _|_<;>rfl)
 unfold I6 at h
 refine v8 h (fun hb h => ?_) (fun hb h => ?_)
 ·obtain rfl:=e8 h
  exact ⟨0,[],[],mt⟩
 ·refine v8 h (fun hb h => ?_) (fun hb h => ?_)
  ·obtain rfl:=e8 h
   exact ⟨0,[],[],mt⟩
  ·refine m8 h fun hg h => ?_
   refine .inl ?_
   refine ⟨(List.replicate (Int.toNat x45) (0:Int)),rfl,0,(List.length (List.replicate (Int.toNat x45) (0:Int))),⟨rfl,List.length_replicate ..⟩,?_⟩
   refine .inl ?_
   refine v8 h (fun hb h => ?_) (fun hb h => ?_)
   ·refine m8 h fun hg h => ?_
    refine m7 h ?_
    intro x46 h
    refine dc ?_
    refine .inr ⟨[],_,fl (β:=Nat×Int×Int×(List Int)) (fun (n1,x47,x48,x49)=>(X6 x45 n1 x47 x48 x49=some i9,[(0,(.int .u64 x47)),(4,(.dv (.sc (.slice none 0 0)))),(5,(.dv (.sc .nilIface))),(6,(.sl 0 [] s6 0 (List.length (List.replicate (Int.toNat x45) (0:Int))))),(7,(.int .i64 x48))],[(0,(.rowI .u8 x49))],n1)),[],[],⟨(f9,(Int.fdiv x44 (2^8)),1,x46),h⟩,mt,?_⟩
    rintro ⟨⟨_|n1,x47,x48,x49⟩,h⟩
    ·exact i6 h
    replace h:=(X6.eq_2 x45 x47 x48 x49 n1).symm.trans h
    refine v8 h (fun hb h => ?_) (fun hb h => ?_)
    ·refine m8 h fun hg h => ?_
     refine dc ?_
     exact ⟨⟨(n1,_,_,_),h⟩,[],mt,Nat.lt_succ_self _⟩
    ·obtain rfl:=e8 h
     exact ⟨0,[],[],mt⟩
   ·obtain rfl:=e8 h
    exact ⟨0,[],[],mt⟩
theorem Hl {x52 x53 i9} (h:P1 x52 x53=some i9) :
  FB er 136 [(.sl 0 [] s6 0 x52)] [(.rowI .u8 x53)] [] (.tup []) [(.rowI .u8 i9)]:=by
 refine fb Tryz.func136 ?_
 unfold P1 at h
 obtain ⟨x54,g,h⟩:=j5 h
 refine .inr ⟨[],_,fj (fun x54=>([],[(0,(.rowI .u8 x54))])) x54,0,?_,?_⟩
 ·rintro ⟨x54,rfl⟩
  obtain rfl:=e8 h
  exact ⟨0,[],[],mt⟩
 ·replace h:=g
  refine .inl ?_
  refine ⟨[],_,fl (β:=Nat×Int×Int×(List Int)) (fun (n1,x55,x56,x57)=>(D7 x52 n1 x55 x56 x57=some x54,[(2,(.int .i64 x55)),(3,(.int .i64 x56))],[(0,(.rowI .u8 x57))],n1)),[],[],⟨(f9,0,(IntKind.wrap .i64 ((x52:Int)-1)),x53),h⟩,mt,?_⟩
  rintro ⟨⟨_|n1,x55,x56,x57⟩,h⟩
  ·exact i6 h
  replace h:=(D7.eq_2 x52 x55 x56 x57 n1).symm.trans h
  refine v8 h (fun hb h => ?_) (fun hb h => ?_)
  ·refine .inl ?_
   refine m8 h fun hg h => ?_
   refine m8 h fun hg h => ?_
   refine m8 h fun hg h => ?_
   refine m7 h ?_
   intro x58 h
   refine m8 h fun hg h => ?_
   refine m7 h ?_
   intro x59 h
   exact ⟨⟨(n1,_,_,_),h⟩,[],mt,Nat.lt_succ_self _⟩
  ·exact ⟨[],[],⟨_,e8 h⟩,[],mt⟩
theorem Hm {i9} (h:P2=some i9) :
  FB er 136 [(.dv (.sc (.slice none 0 0)))] [] [] (.tup []) []:=by
 refine fb Tryz.func136 ?_
 unfold P2 at h
 obtain ⟨⟨⟩,g,h⟩:=j5 h
 refine .inr ⟨[],_,fj (fun ()=>([],[])) (),0,?_,?_⟩
 ·rintro ⟨_,rfl⟩
  obtain rfl:=e8 h
  exact ⟨0,[],[],mt⟩
 ·replace h:=g
  refine .inl ?_
  refine ⟨[],_,fl (β:=Nat) (fun n1=>(K3 n1=some (),[(2,(.int .i64 0)),(3,(.int .i64 (-1)))],[],n1)),[],[],⟨f9,h⟩,mt,?_⟩
  rintro ⟨_|n1,h⟩
  ·exact i6 h
  replace h:=(K3.eq_2 n1).symm.trans h
  refine And.intro (fun h0=>Bool.noConfusion h0) (fun _ => ?_)
  exact ⟨[],[],⟨_,e8 h⟩,[],mt⟩
theorem Qv {x42 x43 i9} (h:Em x42 x43=some i9) :
  FB er 125 [(.int .u64 x42),(.int .i64 x43)] [] (match i9 with|(Sum.inl p0)=>[0]|(Sum.inr _)=>[]) (match i9 with|(Sum.inl p0)=>(.tup [(.sl 0 [] s6 0 (List.length (List.replicate (Int.toNat x43) (0:Int)))),(.dv (.sc .nilIface))])|(Sum.inr _)=>(.tup [(.dv (.sc (.slice none 0 0))),(Pe er 1)])) (match i9 with|(Sum.inl p0)=>[(.rowI .u8 p0)]|(Sum.inr _)=>[]):=by
 refine fb Tryz.func125 ?_ (by rcases i9 with _|_<;>rfl)
 unfold Em at h
 obtain ⟨r45,c,h⟩:=j5 h
 rcases r45 with x44|⟨⟩
 ·refine cl [] [0] (Z5 c) ?_
  refine .inl ?_
  obtain ⟨x45,c,h⟩:=j5 h
  refine cl [] [0] (Hl c) ?_
  obtain rfl:=e8 h
  exact ⟨0,[],[],mt⟩
 ·refine cl [] [] (Z5 c) ?_
  obtain ⟨r45,c,h⟩:=j5 h
  refine cl [] [] (Hm c) ?_
  obtain rfl:=e8 h
  exact ⟨0,[],[],mt⟩
theorem Ai {x30 x31 x32 x33 x34 i9} (h:M6 x30 x31 x32 x33 x34=some i9) :
  FB er 94 [(.ptr 0 [] Yc)] [(.var (.cons (.dv (.ints .u32 8 x30)) (.cons (.sl 1 [] s6 x31 x32) (.dv (.cons (.sc (.int .u64 x33)) .nil))))),(.rowI .u8 x34)] [] (.dv (.ints .u8 32 i9)) [(.var (.cons (.dv (.ints .u32 8 x30)) (.cons (.sl 1 [] s6 x31 x32) (.dv (.cons (.sc (.int .u64 x33)) .nil))))),(.rowI .u8 x34)]:=by
 refine fb Tryz.func94 ?_
 unfold M6 at h
 obtain ⟨x35,c,h⟩:=j5 h
 refine cl [] [0,1,3,4] (Zt c) ?_
 obtain ⟨r70,c,h⟩:=j5 h
 rcases r70 with x36|⟨⟩
 ·refine cl [] [5] (Qv c) ?_
  refine .inl ?_
  refine And.intro (fun h0=>Bool.noConfusion h0) (fun _ => ?_)
  refine .inl ?_
  obtain ⟨⟨x37,x38,x39,x40⟩,c,h⟩:=j5 h
  refine cl [false,true] [3,4,7] (Tp c) ?_ (hv:=⟨.inl rfl,u9 _ _,trivial⟩)
  obtain ⟨⟨x41,x42,x43,x44,x45⟩,g,h⟩:=j5 h
  refine .inr ⟨[25],_,fj (fun (x41,x42,x43,x44,x45)=>([],[(3,(.var (.cons (.dv (.ints .u32 8 x41)) (.cons (.sl 7 [] s6 x42 x43) (.dv (.cons (.sc (.int .u64 x44)) .nil)))))),(7,(.rowI .u8 x45))])) (x41,x42,x43,x44,x45),0,?_,?_⟩
  ·rintro ⟨_,rfl⟩
   obtain ⟨⟨x55,x56,x57,x58⟩,c,h⟩:=j5 h
   refine cl [false,true] [3,7,8] (y7 c) ?_
   refine m7 h ?_
   intro x59 h
   obtain ⟨x60,g,h⟩:=j5 h
   refine .inr ⟨[37,41],_,fj (fun x60=>([],[(9,(.var (.dv (.ints .u8 32 x60))))])) x60,0,?_,?_⟩
   ·rintro ⟨x60,rfl⟩
    obtain rfl:=e8 h
    exact ⟨0,[],[],mt⟩
   ·replace h:=g
    refine .inl ?_
    refine ⟨[37],_,fl (β:=Nat×Int×(List Int)) (fun (n2,x61,x62)=>(Y6 x55 n2 x61 x62=some x60,[(42,(.int .i64 x61))],[(9,(.var (.dv (.ints .u8 32 x62))))],n2)),[],[],⟨(f9,0,(List.replicate 32 (0:Int))),h⟩,mt,?_⟩
    rintro ⟨⟨_|n2,x61,x62⟩,h⟩
    ·exact i6 h
    replace h:=(Y6.eq_2 x55 x61 x62 n2).symm.trans h
    refine v8 h (fun hb h => ?_) (fun hb h => ?_)
    ·refine .inl ?_
     refine m8 h fun hg h => ?_
     refine dc ?_
     refine m7 h ?_
     intro x63 h
     refine dc ?_
     refine m7 h ?_
     intro x64 h
     refine dc ?_
     refine m7 h ?_
     intro x65 h
     refine m8 h fun hg h => ?_
     refine m8 h fun hg h => ?_
     refine m7 h ?_
     intro x66 h
     refine m7 h ?_
     intro x67 h
     refine m8 h fun hg h => ?_
     refine m7 h ?_
     intro x68 h
     refine m8 h fun hg h => ?_
     refine m7 h ?_
     intro x69 h
     refine m7 h ?_
     intro x70 h
     exact ⟨⟨(n2,_,_),h⟩,[],mt,Nat.lt_succ_self _⟩
    ·exact ⟨[],[],⟨_,e8 h⟩,[],mt⟩
  ·replace h:=g
   refine .inl ?_
   refine ⟨[25],_,fl (β:=Nat×(List Int)×Nat×Nat×Int×(List Int)) (fun (n1,x46,x47,x48,x49,x50)=>(L8 n1 x46 x47 x48 x49 x50=some (x41,x42,x43,x44,x45),[],[(3,(.var (.cons (.dv (.ints .u32 8 x46)) (.cons (.sl 7 [] s6 x47 x48) (.dv (.cons (.sc (.int .u64 x49)) .nil)))))),(7,(.rowI .u8 x50))],n1)),[],[],⟨(f9,x37,x38,x39,x40,(x35++[128])),h⟩,mt,?_⟩
   rintro ⟨⟨_|n1,x46,x47,x48,x49,x50⟩,h⟩
   ·exact i6 h
   replace h:=(L8.eq_2 x46 x47 x48 x49 x50 n1).symm.trans h
   refine v8 h (fun hb h => ?_) (fun hb h => ?_)
   ·refine .inl ?_
    refine .inl ?_
    obtain ⟨⟨x51,x52,x53,x54⟩,c,h⟩:=j5 h
    refine cl [false,true] [3,7,9] (y7 c) ?_ (hv:=⟨.inl rfl,u9 _ _,trivial⟩)
    exact ⟨⟨(n1,_,_,_,_,_),h⟩,[(7,9)],mt,Nat.lt_succ_self _⟩
   ·exact ⟨[],[],⟨_,e8 h⟩,[],mt⟩
 ·refine cl [] [] (Qv c) ?_
  refine And.intro (fun _ => ?_) (fun h0=>Bool.noConfusion h0)
  obtain rfl:=e8 h
  exact ⟨0,[],[],mt⟩
theorem h00 {x23 i9} (h:Wd x23=some i9) :
  FB er 95 [(.dv (.ro Sm (List.length x23) (rw_ (fun q => .roI .u8 q) [] x23)))] [] [] (.dv (.ints .u8 32 i9)) []:=by
 refine fb Tryz.func95 ?_
 unfold Wd at h
 obtain ⟨x24,c,h⟩:=j5 h
 refine cl [] [1] (Mv c) ?_
 obtain ⟨⟨x25,x26,x27,x28,x29⟩,g,h⟩:=j5 h
 refine .inr ⟨[8],_,fj (fun (x25,x26,x27,x28,x29)=>([],[(1,(.var (.cons (.dv (.ints .u32 8 x25)) (.cons (.sl 2 [] s6 x26 x27) (.dv (.cons (.sc (.int .u64 x28)) .nil)))))),(2,(.rowI .u8 x29))])) (x25,x26,x27,x28,x29),1,?_,?_⟩
 ·rintro ⟨_,rfl⟩
  obtain ⟨x46,c,h⟩:=j5 h
  refine cl [] [1,2] (Ai c) ?_
  obtain rfl:=e8 h
  exact ⟨0,[],[],mt⟩
 ·replace h:=g
  refine .inl ?_
  refine ⟨[],_,fl (β:=Nat×Int×(List Int)×Nat×Nat×Int×(List Int)) (fun (n1,x35,x36,x37,x38,x39,x40)=>(P3 x23 n1 x35 x36 x37 x38 x39 x40=some (x25,x26,x27,x28,x29),[(9,(.int .i64 x35))],[(1,(.var (.cons (.dv (.ints .u32 8 x36)) (.cons (.sl 2 [] s6 x37 x38) (.dv (.cons (.sc (.int .u64 x39)) .nil)))))),(2,(.rowI .u8 x40))],n1)),[],[(1,[1],.rowI .u8 [])],⟨(f9,0,x24,0,(List.length ([]:List Int)),0,([]:List Int)),h⟩,mt,?_⟩
  rintro ⟨⟨_|n1,x35,x36,x37,x38,x39,x40⟩,h⟩
  ·exact i6 h
  replace h:=(P3.eq_2 x23 x35 x36 x37 x38 x39 x40 n1).symm.trans h
  refine v8 h (fun hb h => ?_) (fun hb h => ?_)
  ·refine .inl ?_
   refine m8 h fun hg h => ?_
   obtain ⟨⟨x41,x42,x43,x44⟩,c,h⟩:=j5 h
   refine cl [] [1,2,3] (y7 c) ?_
   refine m7 h ?_
   intro x45 h
   exact ⟨⟨(n1,_,_,_,_,_,_),h⟩,[(2,3)],mt,Nat.lt_succ_self _⟩
  ·exact ⟨[],[],⟨_,e8 h⟩,[],mt⟩
theorem Ay {x21 x22 i9} (h:P4 x21 x22=some i9) :
  FB er 93 [(.dv (.roI .u8 x21)),(.int .u8 x22)] [] [0] (.sl 0 [] s6 0 (List.length (List.replicate 64 (0:Int)))) [(.rowI .u8 i9)]:=by
 refine fb Tryz.func93 ?_
 unfold P4 at h
 refine dc ?_
 refine .inl ?_
 refine ⟨(List.replicate 64 (0:Int)),rfl,0,(List.length (List.replicate 64 (0:Int))),⟨rfl,List.length_replicate ..⟩,?_⟩
 refine .inl ?_
 obtain ⟨r1_0_23,hl1_23,hr1_23⟩:=j5 h
 refine .inr ⟨[],(({p:(List Int) // (Sum.inl p)=r1_0_23})⊕({p:Unit // (Sum.inr p)=r1_0_23})),⟨fun|(Sum.inl (⟨x23,_⟩))=>[(0,(.sl 1 [] s6 0 32))]|(Sum.inr (⟨(),_⟩))=>[(0,(.dv (.roI .u8 x21)))],fun|(Sum.inl (⟨x23,_⟩))=>[(1,(.var (.dv (.ints .u8 32 x23))))]|(Sum.inr (⟨(),_⟩))=>[],fun _=>0⟩,1,?_,?_⟩
 ·rintro (⟨x23,hp⟩|⟨⟨⟩,hp⟩)
  ·subst hp
   replace h:=hr1_23
   refine ⟨(T9 (List.replicate 64 (0:Int)) 0 (List.take (List.length (List.replicate 64 (0:Int))) (List.take 32 x23))),rfl,?_⟩
   refine m7 h ?_
   intro x25 h
   refine m7 h ?_
   intro x26 h
   obtain ⟨x27,g,h⟩:=j5 h
   refine .inr ⟨[1,18,20],_,fj (fun x27=>([],[(0,(.rowI .u8 x27))])) x27,0,?_,?_⟩
   ·rintro ⟨x27,rfl⟩
    obtain rfl:=e8 h
    exact ⟨0,[],[],mt⟩
   ·replace h:=g
    refine .inl ?_
    refine ⟨[18],_,fl (β:=Nat×Int×(List Int)) (fun (n1,x28,x29)=>(N5 x22 n1 x28 x29=some x27,[(21,(.int .i64 x28))],[(0,(.rowI .u8 x29))],n1)),[],[],⟨(f9,0,x25),h⟩,mt,?_⟩
    rintro ⟨⟨_|n1,x28,x29⟩,h⟩
    ·exact i6 h
    replace h:=(N5.eq_2 x22 x28 x29 n1).symm.trans h
    refine m7 h ?_
    intro x30 h
    refine v8 h (fun hb h => ?_) (fun hb h => ?_)
    ·refine .inl ?_
     refine m8 h fun hg h => ?_
     refine m8 h fun hg h => ?_
     refine m7 h ?_
     intro x31 h
     exact ⟨⟨(n1,_,_),h⟩,[],mt,Nat.lt_succ_self _⟩
    ·exact ⟨[],[],⟨_,e8 h⟩,[],mt⟩
  ·subst hp
   replace h:=hr1_23
   refine ⟨(T9 (List.replicate 64 (0:Int)) 0 (List.take (List.length (List.replicate 64 (0:Int))) x21)),rfl,?_⟩
   refine m7 h ?_
   intro x32 h
   refine m7 h ?_
   intro x33 h
   obtain ⟨x34,g,h⟩:=j5 h
   refine .inr ⟨[1,18,20],_,fj (fun x34=>([],[(0,(.rowI .u8 x34))])) x34,0,?_,?_⟩
   ·rintro ⟨x34,rfl⟩
    obtain rfl:=e8 h
    exact ⟨0,[],[],mt⟩
   ·replace h:=g
    refine .inl ?_
    refine ⟨[18],_,fl (β:=Nat×Int×(List Int)) (fun (n2,x35,x36)=>(N6 x22 n2 x35 x36=some x34,[(21,(.int .i64 x35))],[(0,(.rowI .u8 x36))],n2)),[],[],⟨(f9,0,x32),h⟩,mt,?_⟩
    rintro ⟨⟨_|n2,x35,x36⟩,h⟩
    ·exact i6 h
    replace h:=(N6.eq_2 x22 x35 x36 n2).symm.trans h
    refine m7 h ?_
    intro x37 h
    refine v8 h (fun hb h => ?_) (fun hb h => ?_)
    ·refine .inl ?_
     refine m8 h fun hg h => ?_
     refine m8 h fun hg h => ?_
     refine m7 h ?_
     intro x38 h
     exact ⟨⟨(n2,_,_),h⟩,[],mt,Nat.lt_succ_self _⟩
    ·exact ⟨[],[],⟨_,e8 h⟩,[],mt⟩
 ·replace h:=hl1_23
  refine v8 h (fun hb h => ?_) (fun hb h => ?_)
  ·refine .inl ?_
   refine ⟨(List.length [x21]),(rw_ (fun q => .roI .u8 q) [] [x21]),⟨rfl,fun j hj=>match j,hj with|0,_=>rfl|_+1,hj=>absurd hj (by omega)⟩,?_⟩
   refine .inl ?_
   obtain ⟨x24,c,h⟩:=j5 h
   refine cl [true] [] (h00 c) ?_
   refine .inl ?_
   refine And.intro (by omega) ?_
   refine ⟨0,32,⟨rfl,rfl⟩,?_⟩
   exact ⟨[],[],(Sum.inl (⟨_,e8 h⟩)),[(1,2)],mt⟩
  ·exact ⟨[],[],(Sum.inr (⟨_,e8 h⟩)),[],mt⟩
theorem Qw {x51 x52 x53 x54 i9} (h:Bb x51 x52 x53 x54=some i9) :
  FB er 95 [(.vs 0 0 2)] [(.var (.cons (.sl 1 [] s6 0 x51) (.cons (.sl 2 [] s6 0 x52) (.dv .nil)))),(.rowI .u8 x53),(.var (.dv (.ints .u8 32 x54)))] [] (.dv (.ints .u8 32 i9)) [(.var (.cons (.sl 1 [] s6 0 x51) (.cons (.sl 2 [] s6 0 x52) (.dv .nil)))),(.rowI .u8 x53),(.var (.dv (.ints .u8 32 x54)))]:=by
 refine fb Tryz.func95 ?_
 unfold Bb at h
 obtain ⟨x55,c,h⟩:=j5 h
 refine cl [] [4] (Mv c) ?_
 obtain ⟨⟨x56,x57,x58,x59,x60⟩,g,h⟩:=j5 h
 refine .inr ⟨[8],_,fj (fun (x56,x57,x58,x59,x60)=>([],[(4,(.var (.cons (.dv (.ints .u32 8 x56)) (.cons (.sl 5 [] s6 x57 x58) (.dv (.cons (.sc (.int .u64 x59)) .nil)))))),(5,(.rowI .u8 x60))])) (x56,x57,x58,x59,x60),1,?_,?_⟩
 ·rintro ⟨_,rfl⟩
  obtain ⟨x70,c,h⟩:=j5 h
  refine cl [] [4,5] (Ai c) ?_
  obtain rfl:=e8 h
  exact ⟨0,[],[],mt⟩
 ·replace h:=g
  refine .inr ⟨30,?_⟩
  refine And.intro (fun _ => ?_) (fun h0=>Bool.noConfusion h0)
  refine .inl ?_
  refine dc ?_
  obtain ⟨⟨x61,x62,x63,x64⟩,c,h⟩:=j5 h
  refine cl [false,true] [4,5] (Ax c) ?_
  refine And.intro (fun _ => ?_) (fun h0=>Bool.noConfusion h0)
  refine .inl ?_
  refine dc ?_
  obtain ⟨⟨x65,x66,x67,x68⟩,c,h⟩:=j5 h
  refine cl [false,true] [4,5,6] (y7 c) ?_
  refine m7 h ?_
  intro x69 h
  refine And.intro (fun h0=>Bool.noConfusion h0) (fun _ => ?_)
  exact ⟨[],[],⟨_,e8 h⟩,[(5,6)],mt⟩
theorem h01 {x17 x18 i9} (h:We x17 x18=some i9) :
  FB er 55 [(.dv (.roI .u8 x17)),(.dv (.ro Sm (List.length x18) (rw_ (fun q => .roI .u8 q) [] x18)))] [] [] (.dv (.ints .u8 32 i9)) []:=by
 refine fb Tryz.func55 ?_
 unfold We at h
 obtain ⟨x19,c,h⟩:=j5 h
 refine cl [] [1] (Mv c) ?_
 obtain ⟨x20,c,h⟩:=j5 h
 refine cl [] [2] (Ay c) ?_
 refine .inl ?_
 obtain ⟨⟨x21,x22,x23,x24⟩,c,h⟩:=j5 h
 refine cl [false,true] [1,3] (Ax c) ?_
 obtain ⟨⟨x25,x26,x27,x28,x29⟩,g,h⟩:=j5 h
 refine .inr ⟨[13,15],_,fj (fun (x25,x26,x27,x28,x29)=>([],[(1,(.var (.cons (.dv (.ints .u32 8 x25)) (.cons (.sl 3 [] s6 x26 x27) (.dv (.cons (.sc (.int .u64 x28)) .nil)))))),(3,(.rowI .u8 x29))])) (x25,x26,x27,x28,x29),0,?_,?_⟩
 ·rintro ⟨_,rfl⟩
  obtain ⟨x41,c,h⟩:=j5 h
  refine cl [] [1,3] (Ai c) ?_
  obtain ⟨x42,c,h⟩:=j5 h
  refine cl [] [5] (Ay c) ?_
  refine .inl ?_
  refine .inl ?_
  refine And.intro (by omega) ?_
  refine ⟨0,32,⟨rfl,rfl⟩,?_⟩
  refine .inr ?_
  obtain ⟨x43,c,h⟩:=j5 h
  refine cl [] [6,5,4] (Qw c) ?_
  obtain rfl:=e8 h
  exact ⟨0,[],[],mt⟩
 ·replace h:=g
  refine .inl ?_
  refine ⟨[13],_,fl (β:=Nat×Int×(List Int)×Nat×Nat×Int×(List Int)) (fun (n1,x30,x31,x32,x33,x34,x35)=>(Fo x18 n1 x30 x31 x32 x33 x34 x35=some (x25,x26,x27,x28,x29),[(16,(.int .i64 x30))],[(1,(.var (.cons (.dv (.ints .u32 8 x31)) (.cons (.sl 3 [] s6 x32 x33) (.dv (.cons (.sc (.int .u64 x34)) .nil)))))),(3,(.rowI .u8 x35))],n1)),[],[],⟨(f9,0,x21,x22,x23,x24,(List.take (List.length (List.replicate 64 (0:Int))) x20)),h⟩,mt,?_⟩
  rintro ⟨⟨_|n1,x30,x31,x32,x33,x34,x35⟩,h⟩
  ·exact i6 h
  replace h:=(Fo.eq_2 x18 x30 x31 x32 x33 x34 x35 n1).symm.trans h
  refine v8 h (fun hb h => ?_) (fun hb h => ?_)
  ·refine .inl ?_
   refine m8 h fun hg h => ?_
   obtain ⟨⟨x36,x37,x38,x39⟩,c,h⟩:=j5 h
   refine cl [] [1,3,4] (y7 c) ?_
   refine m7 h ?_
   intro x40 h
   exact ⟨⟨(n1,_,_,_,_,_,_),h⟩,[(3,4)],mt,Nat.lt_succ_self _⟩
  ·exact ⟨[],[],⟨_,e8 h⟩,[],mt⟩
theorem Az {x15 x16 i9} (h:z7 x15 x16=some i9) :
  FB er 38 [(.dv (.roI .u8 x15)),(.dv (.roI .u8 x16))] [] [] (.dv (.ints .u8 32 i9)) []:=by
 refine fb Tryz.func38 ?_
 unfold z7 at h
 refine .inl ?_
 refine ⟨(List.length [x16]),(rw_ (fun q => .roI .u8 q) [] [x16]),⟨rfl,fun j hj=>match j,hj with|0,_=>rfl|_+1,hj=>absurd hj (by omega)⟩,?_⟩
 refine .inl ?_
 obtain ⟨x17,c,h⟩:=j5 h
 refine cl [false,true] [] (h01 c) ?_
 obtain rfl:=e8 h
 exact ⟨0,[],[],mt⟩
theorem b97 {x6 x7 x8 i9} (h:Gt x6 x7 x8=some i9) :
  FB er 18 [(.dv (.str x6)),(.vs 0 0 1)] [(.var (.cons (.sl 1 [] s6 0 x7) (.dv .nil))),(.frzI .u8 x8)] [] (.dv (.ints .u8 32 i9)) [(.var (.cons (.sl 1 [] s6 0 x7) (.dv .nil))),(.frzI .u8 x8)]:=by
 refine fb Tryz.func18 ?_
 unfold Gt at h
 refine m8 h fun hg h => ?_
 refine ⟨(List.map (fun q:UInt8=>(q.toNat:Int)) ([72,80,75,69,45,118,49,75,69,77,0,32]++x6)),rfl,0,(List.length (List.map (fun q:UInt8=>(q.toNat:Int)) ([72,80,75,69,45,118,49,75,69,77,0,32]++x6))),⟨rfl,List.length_map ..⟩,?_⟩
 refine .inl ?_
 refine m7 h ?_
 intro x9 h
 obtain ⟨x10,c,h⟩:=j5 h
 refine cl [] [0,1,4] (Kk c) ?_
 refine .inl ?_
 obtain ⟨hg,h⟩:=gd h
 refine And.intro (j9 (o5 x10) hg) ?_
 refine ⟨(x9++x10),m5 (i7 _) (i7 x10),0,(List.length (x9++x10)),⟨rfl,r7 (o5 x10)⟩,?_⟩
 refine .inl ?_
 obtain ⟨x11,c,h⟩:=j5 h
 refine cl [false,true] [] (Az c) ?_ (hv:=⟨(.inr (.inr ⟨rfl,.inl ⟨_,rfl⟩⟩)),u9 _ _,trivial⟩)
 obtain rfl:=e8 h
 exact ⟨0,[],[],mt⟩
theorem Z6 {x17 i9} (h:A9 x17=some i9) :
  FB er 30 [(.dv (.ro Sm (List.length x17) (rw_ (fun q => .roI .u8 q) [] x17)))] [] [0] (.sl 0 [] s6 0 i9.1) [(.rowI .u8 i9.2)]:=by
 refine fb Tryz.func30 ?_
 unfold A9 at h
 obtain ⟨x18,g,h⟩:=j5 h
 refine .inr ⟨[10],_,fj (fun x18=>([(3,(.int .i64 x18))],[])) x18,0,?_,?_⟩
 ·rintro ⟨x18,rfl⟩
  obtain ⟨⟨x22,x23⟩,c,h⟩:=j5 h
  refine cl [] [0] (z0 c) ?_
  refine .inl ?_
  obtain ⟨r2_1_25,hl2_25,hr2_25⟩:=j5 h
  refine .inr ⟨[24,26],(({p:Unit // (Sum.inl p)=r2_1_25})⊕({p:Nat×(List Int) // (Sum.inr p)=r2_1_25})),⟨fun|(Sum.inl (⟨(),_⟩))=>[(6,(.sl 0 [] s6 0 x22)),(24,(.sl 0 [] s6 0 x22))]|(Sum.inr (⟨(x24,x25),_⟩))=>[(6,(.sl 0 [] s6 0 x24))],fun|(Sum.inl (⟨(),_⟩))=>[]|(Sum.inr (⟨(x24,x25),_⟩))=>[(0,(.rowI .u8 x25))],fun _=>0⟩,0,?_,?_⟩
  ·rintro (⟨⟨⟩,hp⟩|⟨⟨x24,x25⟩,hp⟩)
   ·subst hp
    replace h:=hr2_25
    obtain rfl:=e8 h
    exact ⟨0,[],[],mt⟩
   ·subst hp
    replace h:=hr2_25
    obtain rfl:=e8 h
    exact ⟨0,[],[],mt⟩
  ·replace h:=hl2_25
   refine .inl ?_
   refine ⟨[24],_,fl (β:=Nat×Nat×Int×(List Int)) (fun (n2,x26,x27,x28)=>(t5 x17 n2 x26 x27 x28=some r2_1_25,[(6,(.sl 0 [] s6 0 x26)),(27,(.int .i64 x27))],[(0,(.rowI .u8 x28))],n2)),[],[],⟨(f9,x22,0,x23),h⟩,mt,?_⟩
   rintro ⟨⟨_|n2,x26,x27,x28⟩,h⟩
   ·exact i6 h
   replace h:=(t5.eq_2 x17 x26 x27 x28 n2).symm.trans h
   refine v8 h (fun hb h => ?_) (fun hb h => ?_)
   ·refine .inl ?_
    refine m8 h fun hg h => ?_
    obtain ⟨hg,h⟩:=gd h
    refine And.intro (hg) ?_
    obtain ⟨hg2,h⟩:=gd h
    refine ⟨((List.take x26 x28)++(List.getD x17 (Int.toNat x27) [])),m5 (C8 _ _) (rfl),0,(List.length ((List.take x26 x28)++(List.getD x17 (Int.toNat x27) []))),⟨rfl,Dw hg2 (rfl)⟩,?_⟩
    refine .inl ?_
    exact ⟨⟨(n2,_,_,_),h⟩,[(0,1)],mt,Nat.lt_succ_self _⟩
   ·exact ⟨[],[],(Sum.inr (⟨_,e8 h⟩)),[],mt⟩
 ·replace h:=g
  refine .inl ?_
  refine ⟨[],_,fl (β:=Nat×Int×Int) (fun (n1,x19,x20)=>(s9 x17 n1 x19 x20=some x18,[(3,(.int .i64 x19)),(11,(.int .i64 x20))],[],n1)),[],[],⟨(f9,0,0),h⟩,mt,?_⟩
  rintro ⟨⟨_|n1,x19,x20⟩,h⟩
  ·exact i6 h
  replace h:=(s9.eq_2 x17 x19 x20 n1).symm.trans h
  refine v8 h (fun hb h => ?_) (fun hb h => ?_)
  ·refine .inl ?_
   refine m8 h fun hg h => ?_
   refine m7 h ?_
   intro x21 h
   refine .inl ?_
   refine v8 h (fun hb h => ?_) (fun hb h => ?_)
   ·exact i6 h
   ·exact ⟨⟨(n1,_,_),h⟩,[],mt,Nat.lt_succ_self _⟩
  ·exact ⟨[],[],⟨_,e8 h⟩,[],mt⟩
theorem e82 {x35 x36 x37 x38 i9} (h:Im x35 x36 x37 x38=some i9) :
  FB er 55 [(.dv (.roI .u8 x35)),(.vs 0 0 3)] [(.var (.cons (.dv (.sc (.slice none 0 0))) (.cons (.dv (.roI .u8 x36)) (.cons (.sl 1 [] s6 0 x37) (.dv .nil))))),(.rowI .u8 x38)] [] (.dv (.ints .u8 32 i9)) [(.var (.cons (.dv (.sc (.slice none 0 0))) (.cons (.dv (.roI .u8 x36)) (.cons (.sl 1 [] s6 0 x37) (.dv .nil))))),(.rowI .u8 x38)]:=by
 refine fb Tryz.func55 ?_
 unfold Im at h
 obtain ⟨x39,c,h⟩:=j5 h
 refine cl [] [3] (Mv c) ?_
 obtain ⟨x40,c,h⟩:=j5 h
 refine cl [] [4] (Ay c) ?_
 refine .inl ?_
 obtain ⟨⟨x41,x42,x43,x44⟩,c,h⟩:=j5 h
 refine cl [false,true] [3,5] (Ax c) ?_
 obtain ⟨⟨x45,x46,x47,x48,x49⟩,g,h⟩:=j5 h
 refine .inr ⟨[13,15],_,fj (fun (x45,x46,x47,x48,x49)=>([],[(3,(.var (.cons (.dv (.ints .u32 8 x45)) (.cons (.sl 6 [] s6 x46 x47) (.dv (.cons (.sc (.int .u64 x48)) .nil)))))),(5,.dead),(6,(.rowI .u8 x49))])) (x45,x46,x47,x48,x49),1,?_,?_⟩
 ·rintro ⟨_,rfl⟩
  obtain ⟨x64,c,h⟩:=j5 h
  refine cl [] [3,6] (Ai c) ?_
  obtain ⟨x65,c,h⟩:=j5 h
  refine cl [] [8] (Ay c) ?_
  refine .inl ?_
  refine .inl ?_
  refine And.intro (by omega) ?_
  refine ⟨0,32,⟨rfl,rfl⟩,?_⟩
  refine .inr ?_
  obtain ⟨x66,c,h⟩:=j5 h
  refine cl [] [9,8,7] (Qw c) ?_
  obtain rfl:=e8 h
  exact ⟨0,[],[],mt⟩
 ·replace h:=g
  refine .inr ⟨30,?_⟩
  refine And.intro (fun _ => ?_) (fun h0=>Bool.noConfusion h0)
  refine .inl ?_
  refine dc ?_
  obtain ⟨⟨x50,x51,x52,x53⟩,c,h⟩:=j5 h
  refine cl [] [3,5,6] (y7 c) ?_ (hv:=⟨.inl rfl,(.inr (.inr ⟨rfl,.inl ⟨_,rfl⟩⟩)),trivial⟩)
  refine m7 h ?_
  intro x54 h
  refine And.intro (fun _ => ?_) (fun h0=>Bool.noConfusion h0)
  refine .inl ?_
  refine dc ?_
  obtain ⟨⟨x55,x56,x57,x58⟩,c,h⟩:=j5 h
  refine cl [] [3,6,7] (y7 c) ?_
  refine And.intro (fun _ => ?_) (fun h0=>Bool.noConfusion h0)
  refine .inl ?_
  refine dc ?_
  obtain ⟨⟨x59,x60,x61,x62⟩,c,h⟩:=j5 h
  refine cl [false,true] [3,7,8] (y7 c) ?_
  refine m7 h ?_
  intro x63 h
  refine And.intro (fun h0=>Bool.noConfusion h0) (fun _ => ?_)
  exact ⟨[],[],⟨_,e8 h⟩,[(6,8)],mt⟩
theorem e83 {x68 x69 x70 x71 x72 x73 i9} (h:Yb x68 x69 x70 x71 x72 x73=some i9) :
  FB er 55 [(.dv (.roI .u8 x68)),(.vs 0 0 3)] [(.var (.cons (.sl 1 [] s6 0 x69) (.cons (.dv (.roI .u8 x70)) (.cons (.sl 2 [] s6 0 x71) (.dv .nil))))),(.rowI .u8 x72),(.rowI .u8 x73)] [] (.dv (.ints .u8 32 i9)) [(.var (.cons (.sl 1 [] s6 0 x69) (.cons (.dv (.roI .u8 x70)) (.cons (.sl 2 [] s6 0 x71) (.dv .nil))))),(.rowI .u8 x72),(.rowI .u8 x73)]:=by
 refine fb Tryz.func55 ?_
 unfold Yb at h
 obtain ⟨x74,c,h⟩:=j5 h
 refine cl [] [4] (Mv c) ?_
 obtain ⟨x75,c,h⟩:=j5 h
 refine cl [] [5] (Ay c) ?_
 refine .inl ?_
 obtain ⟨⟨x76,x77,x78,x79⟩,c,h⟩:=j5 h
 refine cl [false,true] [4,6] (Ax c) ?_
 obtain ⟨⟨x80,x81,x82,x83,x84⟩,g,h⟩:=j5 h
 refine .inr ⟨[13,15],_,fj (fun (x80,x81,x82,x83,x84)=>([],[(4,(.var (.cons (.dv (.ints .u32 8 x80)) (.cons (.sl 7 [] s6 x81 x82) (.dv (.cons (.sc (.int .u64 x83)) .nil)))))),(6,.dead),(7,(.rowI .u8 x84))])) (x80,x81,x82,x83,x84),1,?_,?_⟩
 ·rintro ⟨_,rfl⟩
  obtain ⟨x99,c,h⟩:=j5 h
  refine cl [] [4,7] (Ai c) ?_
  obtain ⟨x100,c,h⟩:=j5 h
  refine cl [] [9] (Ay c) ?_
  refine .inl ?_
  refine .inl ?_
  refine And.intro (by omega) ?_
  refine ⟨0,32,⟨rfl,rfl⟩,?_⟩
  refine .inr ?_
  obtain ⟨x101,c,h⟩:=j5 h
  refine cl [] [10,9,8] (Qw c) ?_
  obtain rfl:=e8 h
  exact ⟨0,[],[],mt⟩
 ·replace h:=g
  refine .inr ⟨30,?_⟩
  refine And.intro (fun _ => ?_) (fun h0=>Bool.noConfusion h0)
  refine .inl ?_
  refine dc ?_
  obtain ⟨⟨x85,x86,x87,x88⟩,c,h⟩:=j5 h
  refine cl [false,true] [4,6,7] (y7 c) ?_
  refine m7 h ?_
  intro x89 h
  refine And.intro (fun _ => ?_) (fun h0=>Bool.noConfusion h0)
  refine .inl ?_
  refine dc ?_
  obtain ⟨⟨x90,x91,x92,x93⟩,c,h⟩:=j5 h
  refine cl [] [4,7,8] (y7 c) ?_
  refine And.intro (fun _ => ?_) (fun h0=>Bool.noConfusion h0)
  refine .inl ?_
  refine dc ?_
  obtain ⟨⟨x94,x95,x96,x97⟩,c,h⟩:=j5 h
  refine cl [false,true] [4,8,9] (y7 c) ?_
  refine m7 h ?_
  intro x98 h
  refine And.intro (fun h0=>Bool.noConfusion h0) (fun _ => ?_)
  exact ⟨[],[],⟨_,e8 h⟩,[(7,9)],mt⟩
theorem Q6 {x32 x33 x34 i9} (h:G5 x32 x33 x34=some i9) :
  FB er 37 [(.dv (.roI .u8 x32)),(.dv (.roI .u8 x33)),(.int .i64 x34)] [] (match i9 with|(Sum.inl (p0,p1))=>[3]|(Sum.inr p0)=>[]) (match i9 with|(Sum.inl (p0,p1))=>(.tup [(.sl 3 [] s6 0 p0),(.dv (.sc .nilIface))])|(Sum.inr p0)=>(.tup [(.dv (.sc (.slice none 0 0))),(Pe er p0)])) (match i9 with|(Sum.inl (p0,p1))=>[(.rowI .u8 p1)]|(Sum.inr p0)=>[]):=by
 refine fb Tryz.func37 ?_ (by rcases i9 with _|_<;>rfl)
 unfold G5 at h
 refine .inl ?_
 refine v8 h (fun hb h => ?_) (fun hb h => ?_)
 ·obtain rfl:=e8 h
  exact ⟨0,[],[],mt⟩
 ·refine v8 h (fun hb h => ?_) (fun hb h => ?_)
  ·obtain rfl:=e8 h
   exact ⟨0,[],[],mt⟩
  ·refine v8 h (fun hb h => ?_) (fun hb h => ?_)
   ·obtain rfl:=e8 h
    exact ⟨0,[],[],mt⟩
   ·refine v8 h (fun hb h => ?_) (fun hb h => ?_)
    ·refine .inl ?_
     refine .inr ?_
     obtain ⟨x35,c,h⟩:=j5 h
     refine cl [] [1,0] (e82 c) ?_
     refine .inr ?_
     refine And.intro (by omega) ?_
     refine ⟨x35,rfl,0,32,⟨rfl,rfl⟩,?_⟩
     obtain ⟨hg,h⟩:=gd h
     refine And.intro (h67 (F2 _ _) hg) ?_
     refine ⟨(List.take 32 x35),C8 _ _,0,(List.length (List.take 32 x35)),⟨rfl,F2 _ _⟩,?_⟩
     refine .inl ?_
     refine .inr ⟨[],_,fl (β:=Nat×Int×(List Int)×(List Int)) (fun (n1,x36,x37,x38)=>(U8 x32 x33 x34 n1 x36 x37 x38=some i9,[(6,(.dv (.sc (.slice none 0 0)))),(7,(.dv (.sc .nilIface))),(8,(.sl 3 [] s6 0 (List.length x38))),(9,(.sl 2 [] s6 0 32)),(10,(.int .u8 x36))],[(2,(.rowI .u8 x37)),(3,(.rowI .u8 x38))],n1)),[],[],⟨(f9,1,x35,(List.take 32 x35)),h⟩,mt,?_⟩
     rintro ⟨⟨_|n1,x36,x37,x38⟩,h⟩
     ·exact i6 h
     replace h:=(U8.eq_2 x32 x33 x34 x36 x37 x38 n1).symm.trans h
     refine v8 h (fun hb h => ?_) (fun hb h => ?_)
     ·refine .inl ?_
      refine .inr ?_
      obtain ⟨x39,c,h⟩:=j5 h
      refine cl [] [5,2,4] (e83 c) ?_
      refine .inr ?_
      refine And.intro (by omega) ?_
      refine ⟨x39,rfl,0,32,⟨rfl,rfl⟩,?_⟩
      obtain ⟨hg,h⟩:=gd h
      refine And.intro (j9 (F2 _ _) hg) ?_
      refine ⟨(x38++(List.take 32 x39)),m5 (i7 _) (C8 _ _),0,(List.length (x38++(List.take 32 x39))),⟨rfl,r7 (F2 _ _)⟩,?_⟩
      refine .inl ?_
      exact ⟨⟨(n1,_,_,_),h⟩,[(2,6),(3,7)],mt,Nat.lt_succ_self _⟩
     ·refine m8 h fun hg h => ?_
      refine m8 h fun hg h => ?_
      refine ⟨0,(Int.toNat (x34-0)),⟨by simp,rfl⟩,?_⟩
      obtain rfl:=e8 h
      exact ⟨0,[],[],mt⟩
    ·refine m8 h fun hg h => ?_
     refine m8 h fun hg h => ?_
     obtain rfl:=e8 h
     exact ⟨3,[(6,(.rowI .u8 ([]:List Int)))],[],mt⟩
theorem Vy {x13 x14 x15 i9} (h:Fp x13 x14 x15=some i9) :
  FB er 17 [(.dv (.ints .u8 32 x13)),(.dv (.str x14)),(.dv (.ro Sm (List.length x15) (rw_ (fun q => .roI .u8 q) [] x15)))] [] [] (.dv (.ints .u8 32 i9)) []:=by
 refine fb Tryz.func17 ?_
 unfold Fp at h
 refine m8 h fun hg h => ?_
 refine m7 h ?_
 intro x16 h
 refine ⟨(List.map (fun q:UInt8=>(q.toNat:Int)) x16),rfl,0,(List.length (List.map (fun q:UInt8=>(q.toNat:Int)) x16)),⟨rfl,List.length_map ..⟩,?_⟩
 refine .inl ?_
 refine .inl ?_
 refine And.intro (by omega) ?_
 refine ⟨0,32,⟨rfl,rfl⟩,?_⟩
 obtain ⟨⟨x17,x18⟩,c,h⟩:=j5 h
 refine cl [] [4] (Z6 c) ?_
 refine .inl ?_
 obtain ⟨hg,h⟩:=gd h
 refine And.intro (j9 (F2 _ _) hg) ?_
 refine ⟨((List.map (fun q:UInt8=>(q.toNat:Int)) x16)++(List.take x17 x18)),m5 (i7 _) (C8 _ _),0,(List.length ((List.map (fun q:UInt8=>(q.toNat:Int)) x16)++(List.take x17 x18))),⟨rfl,r7 (F2 _ _)⟩,?_⟩
 refine .inl ?_
 refine m7 h ?_
 intro x19 h
 obtain ⟨r23,c,h⟩:=j5 h
 rcases r23 with ⟨x20,x21⟩|x23
 ·refine cl [true,true,false] [6] (Q6 c) ?_ (hv:=⟨.inl rfl,u9 _ _,.inl rfl,trivial⟩)
  refine .inl ?_
  refine .inl ?_
  refine And.intro (fun _ => ?_) (fun h0=>Bool.noConfusion h0)
  refine .inl ?_
  refine And.intro (by omega) ?_
  refine ⟨0,32,⟨rfl,rfl⟩,?_⟩
  refine m7 h ?_
  intro x22 h
  obtain rfl:=e8 h
  exact ⟨0,[],[],mt⟩
 ·refine cl [true,true,false] [] (Q6 c) ?_ (hv:=⟨.inl rfl,u9 _ _,.inl rfl,trivial⟩)
  refine .inl ?_
  refine And.intro (fun h0=>Bool.noConfusion h0) (fun _ => ?_)
  obtain rfl:=e8 h
  exact ⟨0,[],[],mt⟩
theorem b68 {x28 i9} (h:En x28=some i9) :
  FB er 56 [(.dv (.ints .u8 32 x28))] [] [] (.dv (.ints .u8 32 i9)) []:=by
 refine fb Tryz.func56 ?_
 unfold En at h
 refine dc ?_
 refine dc ?_
 refine dc ?_
 refine m7 h ?_
 intro x29 h
 refine dc ?_
 refine m7 h ?_
 intro x30 h
 refine dc ?_
 refine dc ?_
 obtain rfl:=e8 h
 exact ⟨0,[],[],mt⟩
theorem d37 {x32 i9} (h:Oo x32=some i9) :
  FB er 57 [(.dv (.ints .u8 32 x32))] [] [] (.dv (e9.dv i9)) []:=by
 refine fb Tryz.func57 ?_
 unfold Oo at h
 obtain ⟨x33,g,h⟩:=j5 h
 refine .inr ⟨[1],_,fj (fun x33=>([],[(2,(.var (.dv (.cons (.ints .u64 10 x33) .nil))))])) x33,0,?_,?_⟩
 ·rintro ⟨x33,rfl⟩
  obtain rfl:=e8 h
  exact ⟨0,[],[],mt⟩
 ·replace h:=g
  refine .inl ?_
  refine ⟨[],_,fl (β:=Nat×Int×(List Int)) (fun (n1,x34,x35)=>(S5 x32 n1 x34 x35=some x33,[(5,(.int .i64 x34))],[(2,(.var (.dv (.cons (.ints .u64 10 x35) .nil))))],n1)),[],[],⟨(f9,0,(List.replicate 10 (0:Int))),h⟩,mt,?_⟩
  rintro ⟨⟨_|n1,x34,x35⟩,h⟩
  ·exact i6 h
  replace h:=(S5.eq_2 x32 x34 x35 n1).symm.trans h
  refine v8 h (fun hb h => ?_) (fun hb h => ?_)
  ·refine .inl ?_
   refine dc ?_
   refine m8 h fun hg h => ?_
   refine m7 h ?_
   intro x36 h
   refine dc ?_
   refine m8 h fun hg h => ?_
   refine m7 h ?_
   intro x37 h
   refine dc ?_
   refine m8 h fun hg h => ?_
   refine m7 h ?_
   intro x38 h
   refine dc ?_
   refine m8 h fun hg h => ?_
   refine m7 h ?_
   intro x39 h
   refine m8 h fun hg h => ?_
   refine m7 h ?_
   intro x40 h
   exact ⟨⟨(n1,_,_),h⟩,[],mt,Nat.lt_succ_self _⟩
  ·exact ⟨[],[],⟨_,e8 h⟩,[],mt⟩
theorem R5 {x49 i9} (h:F3 x49=some i9) :
  FB er 100 [(.ptr 0 [] d48)] [(.var (.dv (e9.dv x49)))] [] (.tup []) [(.var (.dv (e9.dv i9)))]:=by
 refine fb Tryz.func100 ?_
 unfold F3 at h
 obtain ⟨x50,g,h⟩:=j5 h
 refine .inr ⟨[0],_,fj (fun x50=>([],[(0,(.var (.dv (.cons (.ints .u64 10 x50) .nil))))])) x50,0,?_,?_⟩
 ·rintro ⟨x50,rfl⟩
  obtain rfl:=e8 h
  exact ⟨0,[],[],mt⟩
 ·replace h:=g
  refine .inl ?_
  refine ⟨[],_,fl (β:=Nat×Int×(List Int)) (fun (n1,x51,x52)=>(Q3 n1 x51 x52=some x50,[(4,(.int .i64 x51))],[(0,(.var (.dv (.cons (.ints .u64 10 x52) .nil))))],n1)),[],[],⟨(f9,0,x49.fn),h⟩,mt,?_⟩
  rintro ⟨⟨_|n1,x51,x52⟩,h⟩
  ·exact i6 h
  replace h:=(Q3.eq_2 x51 x52 n1).symm.trans h
  refine v8 h (fun hb h => ?_) (fun hb h => ?_)
  ·refine .inl ?_
   obtain ⟨⟨x53,x54⟩,g,h⟩:=j5 h
   refine .inr ⟨[],_,fj (fun (x53,x54)=>([(2,(.int .u64 x53))],[(0,(.var (.dv (.cons (.ints .u64 10 x54) .nil))))])) (x53,x54),0,?_,?_⟩
   ·rintro ⟨_,rfl⟩
    refine dc ?_
    refine m7 h ?_
    intro x62 h
    refine dc ?_
    exact ⟨⟨(n1,_,_),h⟩,[],mt,Nat.lt_succ_self _⟩
   ·replace h:=g
    refine .inl ?_
    refine ⟨[],_,fl (β:=Nat×Int×Int×(List Int)) (fun (n2,x55,x56,x57)=>(Q2 n2 x55 x56 x57=some (x53,x54),[(2,(.int .u64 x55)),(6,(.int .i64 x56))],[(0,(.var (.dv (.cons (.ints .u64 10 x57) .nil))))],n2)),[],[],⟨(f9,0,0,x52),h⟩,mt,?_⟩
    rintro ⟨⟨_|n2,x55,x56,x57⟩,h⟩
    ·exact i6 h
    replace h:=(Q2.eq_2 x55 x56 x57 n2).symm.trans h
    refine v8 h (fun hb h => ?_) (fun hb h => ?_)
    ·refine .inl ?_
     refine m8 h fun hg h => ?_
     refine m7 h ?_
     intro x58 h
     refine m8 h fun hg h => ?_
     refine m8 h fun hg h => ?_
     refine m7 h ?_
     intro x59 h
     refine dc ?_
     refine m8 h fun hg h => ?_
     refine m7 h ?_
     intro x60 h
     refine m8 h fun hg h => ?_
     refine m7 h ?_
     intro x61 h
     exact ⟨⟨(n2,_,_,_),h⟩,[],mt,Nat.lt_succ_self _⟩
    ·exact ⟨[],[],⟨_,e8 h⟩,[],mt⟩
  ·exact ⟨[],[],⟨_,e8 h⟩,[],mt⟩
theorem U5 {x45 x46 i9} (h:G8 x45 x46=some i9) :
  FB er 96 [(.dv (e9.dv x45)),(.dv (e9.dv x46))] [] [] (.dv (e9.dv i9)) []:=by
 refine fb Tryz.func96 ?_
 unfold G8 at h
 obtain ⟨x47,g,h⟩:=j5 h
 refine .inr ⟨[3],_,fj (fun x47=>([],[(0,(.var (.dv (.cons (.ints .u64 10 x47) .nil))))])) x47,0,?_,?_⟩
 ·rintro ⟨x47,rfl⟩
  obtain ⟨x52,c,h⟩:=j5 h
  refine cl [] [0] (R5 c) ?_
  obtain rfl:=e8 h
  exact ⟨0,[],[],mt⟩
 ·replace h:=g
  refine .inl ?_
  refine ⟨[],_,fl (β:=Nat×Int×(List Int)) (fun (n1,x48,x49)=>(L0 x46 n1 x48 x49=some x47,[(6,(.int .i64 x48))],[(0,(.var (.dv (.cons (.ints .u64 10 x49) .nil))))],n1)),[],[],⟨(f9,0,x45.fn),h⟩,mt,?_⟩
  rintro ⟨⟨_|n1,x48,x49⟩,h⟩
  ·exact i6 h
  replace h:=(L0.eq_2 x46 x48 x49 n1).symm.trans h
  refine v8 h (fun hb h => ?_) (fun hb h => ?_)
  ·refine .inl ?_
   refine m8 h fun hg h => ?_
   refine m8 h fun hg h => ?_
   refine m8 h fun hg h => ?_
   refine m7 h ?_
   intro x50 h
   refine m7 h ?_
   intro x51 h
   refine m8 h fun hg h => ?_
   exact ⟨⟨(n1,_,_),h⟩,[],mt,Nat.lt_succ_self _⟩
  ·exact ⟨[],[],⟨_,e8 h⟩,[],mt⟩
theorem Lo {x42 i9} (h:Ak x42=some i9) :
  FB er 58 [(.int .i64 x42)] [] [] (.dv (e9.dv i9)) []:=by
 refine fb Tryz.func58 ?_
 unfold Ak at h
 obtain ⟨x43,g,h⟩:=j5 h
 refine .inr ⟨[],_,fj (fun x43=>([(4,(.int .u64 x43))],[])) x43,0,?_,?_⟩
 ·rintro ⟨x43,rfl⟩
  obtain ⟨x44,g,h⟩:=j5 h
  refine .inr ⟨[],_,fj (fun x44=>([],[(1,(.var (.dv (.cons (.ints .u64 10 x44) .nil))))])) x44,0,?_,?_⟩
  ·rintro ⟨x44,rfl⟩
   refine v8 h (fun hb h => ?_) (fun hb h => ?_)
   ·obtain ⟨x48,c,h⟩:=j5 h
    refine cl [] [] (U5 c) ?_
    obtain rfl:=e8 h
    exact ⟨0,[],[],mt⟩
   ·obtain rfl:=e8 h
    exact ⟨0,[],[],mt⟩
  ·replace h:=g
   refine .inl ?_
   refine ⟨[],_,fl (β:=Nat×Int×(List Int)) (fun (n1,x45,x46)=>(Eo x43 n1 x45 x46=some x44,[(12,(.int .i64 x45))],[(1,(.var (.dv (.cons (.ints .u64 10 x46) .nil))))],n1)),[],[],⟨(f9,0,(List.replicate 10 (0:Int))),h⟩,mt,?_⟩
   rintro ⟨⟨_|n1,x45,x46⟩,h⟩
   ·exact i6 h
   replace h:=(Eo.eq_2 x43 x45 x46 n1).symm.trans h
   refine v8 h (fun hb h => ?_) (fun hb h => ?_)
   ·refine .inl ?_
    refine m8 h fun hg h => ?_
    refine m7 h ?_
    intro x47 h
    refine m8 h fun hg h => ?_
    exact ⟨⟨(n1,_,_),h⟩,[],mt,Nat.lt_succ_self _⟩
   ·exact ⟨[],[],⟨_,e8 h⟩,[],mt⟩
 ·replace h:=g
  refine v8 h (fun hb h => ?_) (fun hb h => ?_)
  ·exact ⟨[],[],⟨_,e8 h⟩,[],mt⟩
  ·exact ⟨[],[],⟨_,e8 h⟩,[],mt⟩
theorem Vz {x57 x58 x59 i9} (h:P5 x57 x58 x59=some i9) :
  FB er 109 [(.bl x57),(.int .u64 x58),(.int .u64 x59)] [] [] (.int .u64 i9) []:=by
 refine fb Tryz.func109 ?_
 unfold P5 at h
 obtain ⟨x60,g,h⟩:=j5 h
 refine .inr ⟨[],_,fj (fun x60=>([(7,(.int .u64 x60))],[])) x60,0,?_,?_⟩
 ·rintro ⟨x60,rfl⟩
  refine m7 h ?_
  intro x61 h
  obtain rfl:=e8 h
  exact ⟨0,[],[],mt⟩
 ·replace h:=g
  refine v8 h (fun hb h => ?_) (fun hb h => ?_)
  ·exact ⟨[],[],⟨_,e8 h⟩,[],mt⟩
  ·exact ⟨[],[],⟨_,e8 h⟩,[],mt⟩
theorem Ei {x54 x55 x56 i9} (h:S6 x54 x55 x56=some i9) :
  FB er 97 [(.bl x54),(.dv (e9.dv x55)),(.dv (e9.dv x56))] [] [] (.dv (e9.dv i9)) []:=by
 refine fb Tryz.func97 ?_
 unfold S6 at h
 obtain ⟨x57,g,h⟩:=j5 h
 refine .inr ⟨[0,5],_,fj (fun x57=>([],[(0,(.var (.dv (.cons (.ints .u64 10 x57) .nil))))])) x57,0,?_,?_⟩
 ·rintro ⟨x57,rfl⟩
  obtain rfl:=e8 h
  exact ⟨0,[],[],mt⟩
 ·replace h:=g
  refine .inl ?_
  refine ⟨[],_,fl (β:=Nat×Int×(List Int)) (fun (n1,x58,x59)=>(N7 x54 x56 n1 x58 x59=some x57,[(8,(.int .i64 x58))],[(0,(.var (.dv (.cons (.ints .u64 10 x59) .nil))))],n1)),[],[],⟨(f9,0,x55.fn),h⟩,mt,?_⟩
  rintro ⟨⟨_|n1,x58,x59⟩,h⟩
  ·exact i6 h
  replace h:=(N7.eq_2 x54 x56 x58 x59 n1).symm.trans h
  refine v8 h (fun hb h => ?_) (fun hb h => ?_)
  ·refine .inl ?_
   refine m8 h fun hg h => ?_
   refine m8 h fun hg h => ?_
   obtain ⟨x60,c,h⟩:=j5 h
   refine cl [] [] (Vz c) ?_
   refine m8 h fun hg h => ?_
   exact ⟨⟨(n1,_,_),h⟩,[],mt,Nat.lt_succ_self _⟩
  ·exact ⟨[],[],⟨_,e8 h⟩,[],mt⟩
theorem Q1 {x52 x53 i9} (h:B8 x52 x53=some i9) :
  FB er 59 [(.dv (r8.dv x52)),(.bl x53)] [] [] (.dv (r8.dv i9)) []:=by
 refine fb Tryz.func59 ?_
 unfold B8 at h
 obtain ⟨x54,c,h⟩:=j5 h
 refine cl [] [] (Ei c) ?_
 obtain ⟨x55,c,h⟩:=j5 h
 refine cl [] [] (Ei c) ?_
 obtain ⟨x56,c,h⟩:=j5 h
 refine cl [] [] (Ei c) ?_
 obtain ⟨x57,c,h⟩:=j5 h
 refine cl [] [] (Ei c) ?_
 obtain rfl:=e8 h
 exact ⟨0,[],[],mt⟩
theorem Ba {x61 x62 i9} (h:K4 x61 x62=some i9) :
  FB er 98 [(.dv (e9.dv x61)),(.dv (e9.dv x62))] [] [] (.dv (e9.dv i9)) []:=by
 refine fb Tryz.func98 ?_
 unfold K4 at h
 obtain ⟨x63,g,h⟩:=j5 h
 refine .inr ⟨[3],_,fj (fun x63=>([],[(0,(.var (.dv (.cons (.ints .u64 10 x63) .nil))))])) x63,0,?_,?_⟩
 ·rintro ⟨x63,rfl⟩
  obtain ⟨x67,c,h⟩:=j5 h
  refine cl [] [0] (R5 c) ?_
  obtain rfl:=e8 h
  exact ⟨0,[],[],mt⟩
 ·replace h:=g
  refine .inl ?_
  refine ⟨[],_,fl (β:=Nat×Int×(List Int)) (fun (n1,x64,x65)=>(L1 x62 n1 x64 x65=some x63,[(6,(.int .i64 x64))],[(0,(.var (.dv (.cons (.ints .u64 10 x65) .nil))))],n1)),[],[],⟨(f9,0,x61.fn),h⟩,mt,?_⟩
  rintro ⟨⟨_|n1,x64,x65⟩,h⟩
  ·exact i6 h
  replace h:=(L1.eq_2 x62 x64 x65 n1).symm.trans h
  refine v8 h (fun hb h => ?_) (fun hb h => ?_)
  ·refine .inl ?_
   refine m8 h fun hg h => ?_
   refine m8 h fun hg h => ?_
   refine m7 h ?_
   intro x66 h
   refine m8 h fun hg h => ?_
   exact ⟨⟨(n1,_,_),h⟩,[],mt,Nat.lt_succ_self _⟩
  ·exact ⟨[],[],⟨_,e8 h⟩,[],mt⟩
theorem o8 {x71 x72 i9} (h:m9 x71 x72=some i9) :
  FB er 61 [(.dv (e9.dv x71)),(.dv (e9.dv x72))] [] [] (.dv (e9.dv i9)) []:=by
 refine fb Tryz.func61 ?_
 unfold m9 at h
 obtain ⟨x73,g,h⟩:=j5 h
 refine .inr ⟨[3,14],_,fj (fun x73=>([],[(3,(.var (.dv (.ints .u64 20 x73))))])) x73,0,?_,?_⟩
 ·rintro ⟨x73,rfl⟩
  obtain ⟨x82,g,h⟩:=j5 h
  refine .inr ⟨[],_,fj (fun x82=>([],[(3,(.var (.dv (.ints .u64 20 x82))))])) x82,0,?_,?_⟩
  ·rintro ⟨x82,rfl⟩
   obtain ⟨x88,g,h⟩:=j5 h
   refine .inr ⟨[],_,fj (fun x88=>([],[(4,(.var (.dv (.cons (.ints .u64 10 x88) .nil))))])) x88,0,?_,?_⟩
   ·rintro ⟨x88,rfl⟩
    obtain ⟨x93,c,h⟩:=j5 h
    refine cl [] [4] (R5 c) ?_
    obtain rfl:=e8 h
    exact ⟨0,[],[],mt⟩
   ·replace h:=g
    refine .inl ?_
    refine ⟨[],_,fl (β:=Nat×Int×(List Int)) (fun (n4,x89,x90)=>(H9 x82 n4 x89 x90=some x88,[(56,(.int .i64 x89))],[(4,(.var (.dv (.cons (.ints .u64 10 x90) .nil))))],n4)),[],[],⟨(f9,0,(List.replicate 10 (0:Int))),h⟩,mt,?_⟩
    rintro ⟨⟨_|n4,x89,x90⟩,h⟩
    ·exact i6 h
    replace h:=(H9.eq_2 x82 x89 x90 n4).symm.trans h
    refine v8 h (fun hb h => ?_) (fun hb h => ?_)
    ·refine .inl ?_
     refine m8 h fun hg h => ?_
     refine m8 h fun hg h => ?_
     refine m7 h ?_
     intro x91 h
     refine m7 h ?_
     intro x92 h
     refine m8 h fun hg h => ?_
     exact ⟨⟨(n4,_,_),h⟩,[],mt,Nat.lt_succ_self _⟩
    ·exact ⟨[],[],⟨_,e8 h⟩,[],mt⟩
  ·replace h:=g
   refine .inl ?_
   refine ⟨[],_,fl (β:=Nat×Int×(List Int)) (fun (n3,x83,x84)=>(H8 n3 x83 x84=some x82,[(37,(.int .i64 x83))],[(3,(.var (.dv (.ints .u64 20 x84))))],n3)),[],[],⟨(f9,0,x73),h⟩,mt,?_⟩
   rintro ⟨⟨_|n3,x83,x84⟩,h⟩
   ·exact i6 h
   replace h:=(H8.eq_2 x83 x84 n3).symm.trans h
   refine v8 h (fun hb h => ?_) (fun hb h => ?_)
   ·refine .inl ?_
    refine m8 h fun hg h => ?_
    refine m8 h fun hg h => ?_
    refine dc ?_
    refine m7 h ?_
    intro x85 h
    refine m8 h fun hg h => ?_
    refine m8 h fun hg h => ?_
    refine m7 h ?_
    intro x86 h
    refine m8 h fun hg h => ?_
    refine m7 h ?_
    intro x87 h
    exact ⟨⟨(n3,_,_),h⟩,[],mt,Nat.lt_succ_self _⟩
   ·exact ⟨[],[],⟨_,e8 h⟩,[],mt⟩
 ·replace h:=g
  refine .inl ?_
  refine ⟨[],_,fl (β:=Nat×Int×(List Int)) (fun (n1,x74,x75)=>(H7 x71 x72 n1 x74 x75=some x73,[(15,(.int .i64 x74))],[(3,(.var (.dv (.ints .u64 20 x75))))],n1)),[],[],⟨(f9,0,(List.replicate 20 (0:Int))),h⟩,mt,?_⟩
  rintro ⟨⟨_|n1,x74,x75⟩,h⟩
  ·exact i6 h
  replace h:=(H7.eq_2 x71 x72 x74 x75 n1).symm.trans h
  refine v8 h (fun hb h => ?_) (fun hb h => ?_)
  ·refine .inl ?_
   refine m8 h fun hg h => ?_
   obtain ⟨x76,g,h⟩:=j5 h
   refine .inr ⟨[6,7,20],_,fj (fun x76=>([],[(3,(.var (.dv (.ints .u64 20 x76))))])) x76,0,?_,?_⟩
   ·rintro ⟨x76,rfl⟩
    exact ⟨⟨(n1,_,_),h⟩,[],mt,Nat.lt_succ_self _⟩
   ·replace h:=g
    refine .inl ?_
    refine ⟨[],_,fl (β:=Nat×Int×(List Int)) (fun (n2,x77,x78)=>(T6 x71 x72 x74 n2 x77 x78=some x76,[(21,(.int .i64 x77))],[(3,(.var (.dv (.ints .u64 20 x78))))],n2)),[],[],⟨(f9,0,x75),h⟩,mt,?_⟩
    rintro ⟨⟨_|n2,x77,x78⟩,h⟩
    ·exact i6 h
    replace h:=(T6.eq_2 x71 x72 x74 x77 x78 n2).symm.trans h
    refine v8 h (fun hb h => ?_) (fun hb h => ?_)
    ·refine .inl ?_
     refine m8 h fun hg h => ?_
     refine m8 h fun hg h => ?_
     refine m7 h ?_
     intro x79 h
     refine m7 h ?_
     intro x80 h
     refine m8 h fun hg h => ?_
     refine m7 h ?_
     intro x81 h
     exact ⟨⟨(n2,_,_),h⟩,[],mt,Nat.lt_succ_self _⟩
    ·exact ⟨[],[],⟨_,e8 h⟩,[],mt⟩
  ·exact ⟨[],[],⟨_,e8 h⟩,[],mt⟩
theorem B6 {x70 i9} (h:t6 x70=some i9) :
  FB er 99 [(.dv (e9.dv x70))] [] [] (.dv (e9.dv i9)) []:=by
 refine fb Tryz.func99 ?_
 unfold t6 at h
 obtain ⟨x71,c,h⟩:=j5 h
 refine cl [] [] (o8 c) ?_
 obtain rfl:=e8 h
 exact ⟨0,[],[],mt⟩
theorem Jt {x59 x60 i9} (h:O3 x59 x60=some i9) :
  FB er 60 [(.dv (r8.dv x59)),(.dv (e9.dv x60))] [] [] (.dv (r8.dv i9)) []:=by
 refine fb Tryz.func60 ?_
 unfold O3 at h
 obtain ⟨x61,c,h⟩:=j5 h
 refine cl [] [] (Ba c) ?_
 obtain ⟨x62,c,h⟩:=j5 h
 refine cl [] [] (U5 c) ?_
 obtain ⟨x63,c,h⟩:=j5 h
 refine cl [] [] (B6 c) ?_
 obtain ⟨x64,c,h⟩:=j5 h
 refine cl [] [] (B6 c) ?_
 obtain ⟨x65,c,h⟩:=j5 h
 refine cl [] [] (U5 c) ?_
 obtain ⟨x66,c,h⟩:=j5 h
 refine cl [] [] (U5 c) ?_
 obtain ⟨x67,c,h⟩:=j5 h
 refine cl [] [] (o8 c) ?_
 obtain ⟨x68,c,h⟩:=j5 h
 refine cl [] [] (Ba c) ?_
 obtain ⟨x69,c,h⟩:=j5 h
 refine cl [] [] (o8 c) ?_
 obtain ⟨x70,c,h⟩:=j5 h
 refine cl [] [] (o8 c) ?_
 obtain ⟨x71,c,h⟩:=j5 h
 refine cl [] [] (Lo c) ?_
 obtain ⟨x72,c,h⟩:=j5 h
 refine cl [] [] (o8 c) ?_
 obtain ⟨x73,c,h⟩:=j5 h
 refine cl [] [] (Ba c) ?_
 obtain ⟨x74,c,h⟩:=j5 h
 refine cl [] [] (o8 c) ?_
 obtain ⟨x75,c,h⟩:=j5 h
 refine cl [] [] (Ba c) ?_
 obtain ⟨x76,c,h⟩:=j5 h
 refine cl [] [] (B6 c) ?_
 obtain ⟨x77,c,h⟩:=j5 h
 refine cl [] [] (U5 c) ?_
 obtain ⟨x78,c,h⟩:=j5 h
 refine cl [] [] (B6 c) ?_
 obtain ⟨x79,c,h⟩:=j5 h
 refine cl [] [] (o8 c) ?_
 obtain rfl:=e8 h
 exact ⟨0,[],[],mt⟩
theorem z5 {x92 x93 i9} (h:t8 x92 x93=some i9) :
  FB er 102 [(.dv (e9.dv x92)),(.int .i64 x93)] [] [] (.dv (e9.dv i9)) []:=by
 refine fb Tryz.func102 ?_
 unfold t8 at h
 refine v8 h (fun hb h => ?_) (fun hb h => ?_)
 ·obtain ⟨x94,c,h⟩:=j5 h
  refine cl [] [] (B6 c) ?_
  refine .inr ⟨[],_,fl (β:=Nat×Int×e9) (fun (n1,x95,x96)=>(C1 n1 x95 x96=some i9,[(1,(.int .i64 x95))],[(0,(.var (.dv (e9.dv x96))))],n1)),[],[],⟨(f9,(IntKind.wrap .i64 (x93-1)),x94),h⟩,mt,?_⟩
  rintro ⟨⟨_|n1,x95,x96⟩,h⟩
  ·exact i6 h
  replace h:=(C1.eq_2 x95 x96 n1).symm.trans h
  refine v8 h (fun hb h => ?_) (fun hb h => ?_)
  ·obtain ⟨x97,c,h⟩:=j5 h
   refine cl [] [] (B6 c) ?_
   exact ⟨⟨(n1,_,_),h⟩,[],mt,Nat.lt_succ_self _⟩
  ·obtain rfl:=e8 h
   exact ⟨0,[],[],mt⟩
 ·obtain rfl:=e8 h
  exact ⟨0,[],[],mt⟩
theorem Tq {x90 i9} (h:Bc x90=some i9) :
  FB er 101 [(.dv (e9.dv x90))] [] [] (.tup [(.dv (e9.dv i9.1)),(.dv (e9.dv i9.2))]) []:=by
 refine fb Tryz.func101 ?_
 unfold Bc at h
 obtain ⟨x91,c,h⟩:=j5 h
 refine cl [] [] (B6 c) ?_
 obtain ⟨x92,c,h⟩:=j5 h
 refine cl [] [] (z5 c) ?_
 obtain ⟨x93,c,h⟩:=j5 h
 refine cl [] [] (o8 c) ?_
 obtain ⟨x94,c,h⟩:=j5 h
 refine cl [] [] (o8 c) ?_
 obtain ⟨x95,c,h⟩:=j5 h
 refine cl [] [] (B6 c) ?_
 obtain ⟨x96,c,h⟩:=j5 h
 refine cl [] [] (o8 c) ?_
 obtain ⟨x97,c,h⟩:=j5 h
 refine cl [] [] (z5 c) ?_
 obtain ⟨x98,c,h⟩:=j5 h
 refine cl [] [] (o8 c) ?_
 obtain ⟨x99,c,h⟩:=j5 h
 refine cl [] [] (z5 c) ?_
 obtain ⟨x100,c,h⟩:=j5 h
 refine cl [] [] (o8 c) ?_
 obtain ⟨x101,c,h⟩:=j5 h
 refine cl [] [] (z5 c) ?_
 obtain ⟨x102,c,h⟩:=j5 h
 refine cl [] [] (o8 c) ?_
 obtain ⟨x103,c,h⟩:=j5 h
 refine cl [] [] (z5 c) ?_
 obtain ⟨x104,c,h⟩:=j5 h
 refine cl [] [] (o8 c) ?_
 obtain ⟨x105,c,h⟩:=j5 h
 refine cl [] [] (z5 c) ?_
 obtain ⟨x106,c,h⟩:=j5 h
 refine cl [] [] (o8 c) ?_
 obtain ⟨x107,c,h⟩:=j5 h
 refine cl [] [] (z5 c) ?_
 obtain ⟨x108,c,h⟩:=j5 h
 refine cl [] [] (o8 c) ?_
 obtain ⟨x109,c,h⟩:=j5 h
 refine cl [] [] (z5 c) ?_
 obtain ⟨x110,c,h⟩:=j5 h
 refine cl [] [] (o8 c) ?_
 obtain rfl:=e8 h
 exact ⟨0,[],[],mt⟩
theorem Rs {x89 i9} (h:R7 x89=some i9) :
  FB er 62 [(.dv (e9.dv x89))] [] [] (.dv (e9.dv i9)) []:=by
 refine fb Tryz.func62 ?_
 unfold R7 at h
 obtain ⟨⟨x90,x91⟩,c,h⟩:=j5 h
 refine cl [] [] (Tq c) ?_
 obtain ⟨x92,c,h⟩:=j5 h
 refine cl [] [] (z5 c) ?_
 obtain ⟨x93,c,h⟩:=j5 h
 refine cl [] [] (o8 c) ?_
 obtain rfl:=e8 h
 exact ⟨0,[],[],mt⟩
theorem Ht {x100 i9} (h:L5 x100=some i9) :
  FB er 126 [(.ptr 0 [] d48)] [(.var (.dv (e9.dv x100)))] [] (.tup []) [(.var (.dv (e9.dv i9)))]:=by
 refine fb Tryz.func126 ?_
 unfold L5 at h
 refine dc ?_
 refine dc ?_
 refine dc ?_
 refine dc ?_
 refine m7 h ?_
 intro x101 h
 refine dc ?_
 refine m7 h ?_
 intro x102 h
 refine dc ?_
 refine m7 h ?_
 intro x103 h
 obtain ⟨x104,g,h⟩:=j5 h
 refine .inr ⟨[],_,fj (fun x104=>([],[(0,(.var (.dv (.cons (.ints .u64 10 x104) .nil))))])) x104,0,?_,?_⟩
 ·rintro ⟨x104,rfl⟩
  obtain rfl:=e8 h
  exact ⟨0,[],[],mt⟩
 ·replace h:=g
  refine .inl ?_
  refine ⟨[],_,fl (β:=Nat×Int×(List Int)) (fun (n1,x105,x106)=>(K5 n1 x105 x106=some x104,[(30,(.int .i64 x105))],[(0,(.var (.dv (.cons (.ints .u64 10 x106) .nil))))],n1)),[],[],⟨(f9,0,x103),h⟩,mt,?_⟩
  rintro ⟨⟨_|n1,x105,x106⟩,h⟩
  ·exact i6 h
  replace h:=(K5.eq_2 x105 x106 n1).symm.trans h
  refine v8 h (fun hb h => ?_) (fun hb h => ?_)
  ·refine .inl ?_
   refine m8 h fun hg h => ?_
   refine m7 h ?_
   intro x107 h
   refine m8 h fun hg h => ?_
   refine dc ?_
   refine m7 h ?_
   intro x108 h
   refine m8 h fun hg h => ?_
   refine m7 h ?_
   intro x109 h
   refine m8 h fun hg h => ?_
   refine m7 h ?_
   intro x110 h
   refine m8 h fun hg h => ?_
   exact ⟨⟨(n1,_,_),h⟩,[],mt,Nat.lt_succ_self _⟩
  ·exact ⟨[],[],⟨_,e8 h⟩,[],mt⟩
theorem Ts {x97 i9} (h:U9 x97=some i9) :
  FB er 103 [(.dv (e9.dv x97))] [] [] (.dv (e9.dv i9)) []:=by
 refine fb Tryz.func103 ?_
 unfold U9 at h
 obtain ⟨x98,c,h⟩:=j5 h
 refine cl [] [0] (R5 c) ?_
 obtain ⟨x99,c,h⟩:=j5 h
 refine cl [] [0] (Ht c) ?_
 obtain ⟨x100,c,h⟩:=j5 h
 refine cl [] [0] (Ht c) ?_
 refine dc ?_
 refine dc ?_
 refine m7 h ?_
 intro x101 h
 obtain ⟨x102,g,h⟩:=j5 h
 refine .inr ⟨[6,7,8],_,fj (fun x102=>([],[(2,(.var (.dv (.cons (.ints .u64 10 x102) .nil))))])) x102,0,?_,?_⟩
 ·rintro ⟨x102,rfl⟩
  refine dc ?_
  refine dc ?_
  refine dc ?_
  refine dc ?_
  refine m7 h ?_
  intro x109 h
  obtain ⟨x110,c,h⟩:=j5 h
  refine cl [] [] (Ei c) ?_
  obtain rfl:=e8 h
  exact ⟨0,[],[],mt⟩
 ·replace h:=g
  refine .inl ?_
  refine ⟨[6,7,8],_,fl (β:=Nat×Int×(List Int)) (fun (n1,x103,x104)=>(M3 n1 x103 x104=some x102,[(16,(.int .i64 x103))],[(2,(.var (.dv (.cons (.ints .u64 10 x104) .nil))))],n1)),[],[],⟨(f9,0,x101),h⟩,mt,?_⟩
  rintro ⟨⟨_|n1,x103,x104⟩,h⟩
  ·exact i6 h
  replace h:=(M3.eq_2 x103 x104 n1).symm.trans h
  refine v8 h (fun hb h => ?_) (fun hb h => ?_)
  ·refine .inl ?_
   refine m8 h fun hg h => ?_
   refine m7 h ?_
   intro x105 h
   refine m8 h fun hg h => ?_
   refine dc ?_
   refine m7 h ?_
   intro x106 h
   refine m8 h fun hg h => ?_
   refine m7 h ?_
   intro x107 h
   refine m8 h fun hg h => ?_
   refine m7 h ?_
   intro x108 h
   refine m8 h fun hg h => ?_
   exact ⟨⟨(n1,_,_),h⟩,[],mt,Nat.lt_succ_self _⟩
  ·exact ⟨[],[],⟨_,e8 h⟩,[],mt⟩
theorem Tt {x96 i9} (h:V0 x96=some i9) :
  FB er 63 [(.dv (e9.dv x96))] [] [] (.dv (.ints .u8 32 i9)) []:=by
 refine fb Tryz.func63 ?_
 unfold V0 at h
 obtain ⟨x97,c,h⟩:=j5 h
 refine cl [] [] (Ts c) ?_
 obtain ⟨x98,g,h⟩:=j5 h
 refine .inr ⟨[],_,fj (fun x98=>([],[(3,(.var (.dv (.ints .u8 32 x98))))])) x98,0,?_,?_⟩
 ·rintro ⟨x98,rfl⟩
  obtain rfl:=e8 h
  exact ⟨0,[],[],mt⟩
 ·replace h:=g
  refine .inl ?_
  refine ⟨[],_,fl (β:=Nat×Int×(List Int)) (fun (n1,x99,x100)=>(I0 x97 n1 x99 x100=some x98,[(8,(.int .i64 x99))],[(3,(.var (.dv (.ints .u8 32 x100))))],n1)),[],[],⟨(f9,0,(List.replicate 32 (0:Int))),h⟩,mt,?_⟩
  rintro ⟨⟨_|n1,x99,x100⟩,h⟩
  ·exact i6 h
  replace h:=(I0.eq_2 x97 x99 x100 n1).symm.trans h
  refine v8 h (fun hb h => ?_) (fun hb h => ?_)
  ·refine .inl ?_
   refine dc ?_
   refine m8 h fun hg h => ?_
   refine m7 h ?_
   intro x101 h
   refine dc ?_
   refine m8 h fun hg h => ?_
   refine m7 h ?_
   intro x102 h
   refine dc ?_
   refine m8 h fun hg h => ?_
   refine m7 h ?_
   intro x103 h
   refine dc ?_
   refine m8 h fun hg h => ?_
   refine m7 h ?_
   intro x104 h
   refine m8 h fun hg h => ?_
   refine m7 h ?_
   intro x105 h
   exact ⟨⟨(n1,_,_),h⟩,[],mt,Nat.lt_succ_self _⟩
  ·exact ⟨[],[],⟨_,e8 h⟩,[],mt⟩
theorem Sd {x26 x27 i9} (h:Dd x26 x27=some i9) :
  FB er 39 [(.dv (.ints .u8 32 x26)),(.dv (.ints .u8 32 x27))] [] [] (.dv (.ints .u8 32 i9)) []:=by
 refine fb Tryz.func39 ?_
 unfold Dd at h
 obtain ⟨x28,c,h⟩:=j5 h
 refine cl [] [] (b68 c) ?_
 obtain ⟨x29,c,h⟩:=j5 h
 refine cl [] [] (d37 c) ?_
 obtain ⟨x30,c,h⟩:=j5 h
 refine cl [] [] (Lo c) ?_
 obtain ⟨x31,c,h⟩:=j5 h
 refine cl [] [] (Lo c) ?_
 refine And.intro (fun _ => ?_) (fun h0=>Bool.noConfusion h0)
 refine dc ?_
 refine dc ?_
 refine dc ?_
 refine dc ?_
 refine m7 h ?_
 intro x32 h
 obtain ⟨x33,c,h⟩:=j5 h
 refine cl [] [] (Q1 c) ?_
 obtain ⟨x34,c,h⟩:=j5 h
 refine cl [] [] (Jt c) ?_
 obtain ⟨x35,c,h⟩:=j5 h
 refine cl [] [] (Q1 c) ?_
 refine .inr ⟨[3],_,fl (β:=Nat×Int×r8) (fun (n1,x36,x37)=>(P6 x28 x29 n1 x36 x37=some i9,[(5,(.ptr 3 [] d48)),(6,(.ptr 4 [] j17)),(7,(.int .i64 x36))],[(4,(.var (.dv (r8.dv x37))))],n1)),[],[],⟨(f9,253,x35),h⟩,mt,?_⟩
 rintro ⟨⟨_|n1,x36,x37⟩,h⟩
 ·exact i6 h
 replace h:=(P6.eq_2 x28 x29 x36 x37 n1).symm.trans h
 refine v8 h (fun hb h => ?_) (fun hb h => ?_)
 ·refine dc ?_
  refine m8 h fun hg h => ?_
  refine m7 h ?_
  intro x38 h
  refine dc ?_
  refine m8 h fun hg h => ?_
  refine m7 h ?_
  intro x39 h
  obtain ⟨x40,c,h⟩:=j5 h
  refine cl [] [] (Q1 c) ?_
  obtain ⟨x41,c,h⟩:=j5 h
  refine cl [] [] (Jt c) ?_
  obtain ⟨x42,c,h⟩:=j5 h
  refine cl [] [] (Q1 c) ?_
  exact ⟨⟨(n1,_,_),h⟩,[],mt,Nat.lt_succ_self _⟩
 ·obtain ⟨x43,c,h⟩:=j5 h
  refine cl [] [] (Rs c) ?_
  obtain ⟨x44,c,h⟩:=j5 h
  refine cl [] [] (o8 c) ?_
  obtain ⟨x45,c,h⟩:=j5 h
  refine cl [] [] (Tt c) ?_
  obtain rfl:=e8 h
  exact ⟨0,[],[],mt⟩
theorem Lp {x25 i9} (h:Al x25=some i9) :
  FB er 19 [(.dv (.ints .u8 32 x25))] [] [] (.dv (.ints .u8 32 i9)) []:=by
 refine fb Tryz.func19 ?_
 unfold Al at h
 obtain ⟨x26,c,h⟩:=j5 h
 refine cl [] [] (Sd c) ?_
 obtain rfl:=e8 h
 exact ⟨0,[],[],mt⟩
theorem b69 {x4 x5 i9} (h:Jy x4 x5=some i9) :
  FB er 7 [(.vs 0 0 1)] [(.var (.cons (.sl 1 [] s6 0 x4) (.dv .nil))),(.frzI .u8 x5)] [] (.tup [(.dv (.ints .u8 32 i9.1)),(.dv (.ints .u8 32 i9.2))]) [(.var (.cons (.sl 1 [] s6 0 x4) (.dv .nil))),(.frzI .u8 x5)]:=by
 refine fb Tryz.func7 ?_
 unfold Jy at h
 obtain ⟨x6,c,h⟩:=j5 h
 refine cl [] [0,1] (b97 c) ?_
 obtain ⟨x7,c,h⟩:=j5 h
 refine cl [] [] (Vy c) ?_ (hv:=⟨.inl rfl,.inl rfl,(.inr (.inr ⟨rfl,.inr ⟨_,_,rfl⟩⟩)),trivial⟩)
 obtain ⟨x8,c,h⟩:=j5 h
 refine cl [] [] (Lp c) ?_
 obtain rfl:=e8 h
 exact ⟨0,[],[],mt⟩
theorem d38 {x25 i9} (h:Jz x25=some i9) :
  FB er 64 [(.dv (.roI .u8 x25))] [] [] (.bl i9) []:=by
 refine fb Tryz.func64 ?_
 unfold Jz at h
 obtain ⟨x26,g,h⟩:=j5 h
 refine .inr ⟨[7],_,fj (fun x26=>([(3,(.int .u8 x26))],[])) x26,0,?_,?_⟩
 ·rintro ⟨x26,rfl⟩
  obtain rfl:=e8 h
  exact ⟨0,[],[],mt⟩
 ·replace h:=g
  refine .inl ?_
  refine ⟨[],_,fl (β:=Nat×Int×Int) (fun (n1,x27,x28)=>(N8 x25 n1 x27 x28=some x26,[(3,(.int .u8 x27)),(8,(.int .i64 x28))],[],n1)),[],[],⟨(f9,0,0),h⟩,mt,?_⟩
  rintro ⟨⟨_|n1,x27,x28⟩,h⟩
  ·exact i6 h
  replace h:=(N8.eq_2 x25 x27 x28 n1).symm.trans h
  refine v8 h (fun hb h => ?_) (fun hb h => ?_)
  ·refine .inl ?_
   refine m8 h fun hg h => ?_
   exact ⟨⟨(n1,_,_),h⟩,[],mt,Nat.lt_succ_self _⟩
  ·exact ⟨[],[],⟨_,e8 h⟩,[],mt⟩
theorem Q7 {x22 x23 i9} (h:N9 x22 x23=some i9) :
  FB er 40 [(.dv (.ints .u8 32 x22)),(.dv (.ints .u8 32 x23))] [] [] (match i9 with|(Sum.inl p0)=>(.tup [(.dv (.ints .u8 32 p0)),(.dv (.sc .nilIface))])|(Sum.inr _)=>(.tup [(.dv (.ints .u8 32 (List.replicate 32 (0:Int)))),(Pe er 5)])) (match i9 with|(Sum.inl p0)=>[]|(Sum.inr _)=>[]):=by
 refine fb Tryz.func40 ?_ (by rcases i9 with _|_<;>rfl)
 unfold N9 at h
 obtain ⟨x24,c,h⟩:=j5 h
 refine cl [] [] (Sd c) ?_
 refine .inl ?_
 refine And.intro (by omega) ?_
 refine ⟨0,32,⟨rfl,rfl⟩,?_⟩
 obtain ⟨x25,c,h⟩:=j5 h
 refine cl [true] [] (d38 c) ?_
 refine v8 h (fun hb h => ?_) (fun hb h => ?_)
 ·obtain rfl:=e8 h
  exact ⟨0,[],[],mt⟩
 ·obtain rfl:=e8 h
  exact ⟨0,[],[],mt⟩
theorem Ib {x34 x35 i9} (h:D2 x34 x35=some i9) :
  FB er 30 [(.vs 0 0 1)] [(.var (.cons (.sl 1 [] s6 0 x34) (.dv .nil))),(.var (.dv (.ints .u8 32 x35)))] [3] (.sl 3 [] s6 0 (List.length i9)) [(.var (.cons (.sl 1 [] s6 0 x34) (.dv .nil))),(.var (.dv (.ints .u8 32 x35))),(.rowI .u8 i9)]:=by
 refine fb Tryz.func30 ?_
 unfold D2 at h
 obtain ⟨⟨⟩,g,h⟩:=j5 h
 refine .inr ⟨[10],_,fj (fun ()=>([(3,(.int .i64 (IntKind.wrap .i64 (0+(x34:Int)))))],[])) (),0,?_,?_⟩
 ·rintro ⟨_,rfl⟩
  obtain ⟨⟨x36,x37⟩,c,h⟩:=j5 h
  refine cl [] [2] (z0 c) ?_
  refine .inl ?_
  obtain ⟨⟨⟩,g,h⟩:=j5 h
  refine .inr ⟨[24,26],_,fj (fun ()=>([(6,(.sl 3 [] s6 0 (List.length ((List.take x36 x37)++(List.take x34 x35)))))],[(2,.dead),(3,(.rowI .u8 ((List.take x36 x37)++(List.take x34 x35))))])) (),1,?_,?_⟩
  ·rintro ⟨_,rfl⟩
   obtain rfl:=e8 h
   exact ⟨0,[],[],mt⟩
  ·replace h:=g
   refine .inr ⟨30,?_⟩
   refine And.intro (fun _ => ?_) (fun h0=>Bool.noConfusion h0)
   refine .inl ?_
   refine dc ?_
   obtain ⟨hg,h⟩:=gd h
   refine And.intro (j9 (F2 _ _) hg) ?_
   obtain ⟨hg2,h⟩:=gd h
   refine ⟨((List.take x36 x37)++(List.take x34 x35)),m5 (C8 _ _) (C8 _ _),0,(List.length ((List.take x36 x37)++(List.take x34 x35))),⟨rfl,Dw hg2 (F2 _ _)⟩,?_⟩
   refine .inl ?_
   refine And.intro (fun h0=>Bool.noConfusion h0) (fun _ => ?_)
   exact ⟨[],[],⟨_,e8 h⟩,[],mt⟩
 ·replace h:=g
  refine .inr ⟨30,?_⟩
  refine And.intro (fun _ => ?_) (fun h0=>Bool.noConfusion h0)
  refine .inl ?_
  refine dc ?_
  refine .inl ?_
  refine v8 h (fun hb h => ?_) (fun hb h => ?_)
  ·exact i6 h
  ·refine And.intro (fun h0=>Bool.noConfusion h0) (fun _ => ?_)
   exact ⟨[],[],⟨_,e8 h⟩,[],mt⟩
theorem Zu {x30 x31 x32 i9} (h:Bw x30 x31 x32=some i9) :
  FB er 18 [(.dv (.str x30)),(.vs 0 0 1)] [(.var (.cons (.sl 1 [] s6 0 x31) (.dv .nil))),(.var (.dv (.ints .u8 32 x32)))] [] (.dv (.ints .u8 32 i9)) [(.var (.cons (.sl 1 [] s6 0 x31) (.dv .nil))),(.var (.dv (.ints .u8 32 x32)))]:=by
 refine fb Tryz.func18 ?_
 unfold Bw at h
 refine m8 h fun hg h => ?_
 refine ⟨(List.map (fun q:UInt8=>(q.toNat:Int)) ([72,80,75,69,45,118,49,75,69,77,0,32]++x30)),rfl,0,(List.length (List.map (fun q:UInt8=>(q.toNat:Int)) ([72,80,75,69,45,118,49,75,69,77,0,32]++x30))),⟨rfl,List.length_map ..⟩,?_⟩
 refine .inl ?_
 refine m7 h ?_
 intro x33 h
 obtain ⟨x34,c,h⟩:=j5 h
 refine cl [] [0,1,4] (Ib c) ?_
 refine .inl ?_
 obtain ⟨hg,h⟩:=gd h
 refine And.intro (j9 (o5 x34) hg) ?_
 refine ⟨(x33++x34),m5 (i7 _) (i7 x34),0,(List.length (x33++x34)),⟨rfl,r7 (o5 x34)⟩,?_⟩
 refine .inl ?_
 obtain ⟨x35,c,h⟩:=j5 h
 refine cl [false,true] [] (Az c) ?_ (hv:=⟨(.inr (.inr ⟨rfl,.inl ⟨_,rfl⟩⟩)),u9 _ _,trivial⟩)
 obtain rfl:=e8 h
 exact ⟨0,[],[],mt⟩
theorem Ic {x44 x45 x46 x47 i9} (h:D3 x44 x45 x46 x47=some i9) :
  FB er 30 [(.vs 0 0 2)] [(.var (.cons (.sl 1 [] s6 0 x44) (.cons (.sl 2 [] s6 0 x45) (.dv .nil)))),(.var (.dv (.ints .u8 32 x46))),(.var (.dv (.ints .u8 32 x47)))] [4] (.sl 4 [] s6 0 (List.length i9)) [(.var (.cons (.sl 1 [] s6 0 x44) (.cons (.sl 2 [] s6 0 x45) (.dv .nil)))),(.var (.dv (.ints .u8 32 x46))),(.var (.dv (.ints .u8 32 x47))),(.rowI .u8 i9)]:=by
 refine fb Tryz.func30 ?_
 unfold D3 at h
 obtain ⟨x48,g,h⟩:=j5 h
 refine .inr ⟨[10],_,fj (fun x48=>([(3,(.int .i64 x48))],[])) x48,0,?_,?_⟩
 ·rintro ⟨x48,rfl⟩
  obtain ⟨⟨x50,x51⟩,c,h⟩:=j5 h
  refine cl [] [3] (z0 c) ?_
  refine .inl ?_
  obtain ⟨x52,g,h⟩:=j5 h
  refine .inr ⟨[24,26],_,fj (fun x52=>([(6,(.sl 4 [] s6 0 (List.length x52)))],[(3,.dead),(4,(.rowI .u8 x52))])) x52,1,?_,?_⟩
  ·rintro ⟨x52,rfl⟩
   obtain rfl:=e8 h
   exact ⟨0,[],[],mt⟩
  ·replace h:=g
   refine .inr ⟨30,?_⟩
   refine And.intro (fun _ => ?_) (fun h0=>Bool.noConfusion h0)
   refine .inl ?_
   refine dc ?_
   obtain ⟨hg,h⟩:=gd h
   refine And.intro (j9 (F2 _ _) hg) ?_
   obtain ⟨hg2,h⟩:=gd h
   refine ⟨((List.take x50 x51)++(List.take x44 x46)),m5 (C8 _ _) (C8 _ _),0,(List.length ((List.take x50 x51)++(List.take x44 x46))),⟨rfl,Dw hg2 (F2 _ _)⟩,?_⟩
   refine .inl ?_
   refine And.intro (fun _ => ?_) (fun h0=>Bool.noConfusion h0)
   refine .inl ?_
   refine dc ?_
   obtain ⟨hg,h⟩:=gd h
   refine And.intro (j9 (F2 _ _) hg) ?_
   refine ⟨(((List.take x50 x51)++(List.take x44 x46))++(List.take x45 x47)),m5 (i7 _) (C8 _ _),0,(List.length (((List.take x50 x51)++(List.take x44 x46))++(List.take x45 x47))),⟨rfl,r7 (F2 _ _)⟩,?_⟩
   refine .inl ?_
   refine m7 h ?_
   intro x53 h
   refine And.intro (fun h0=>Bool.noConfusion h0) (fun _ => ?_)
   exact ⟨[],[],⟨_,e8 h⟩,[(4,5)],mt⟩
 ·replace h:=g
  refine .inr ⟨30,?_⟩
  refine And.intro (fun _ => ?_) (fun h0=>Bool.noConfusion h0)
  refine .inl ?_
  refine dc ?_
  refine .inl ?_
  refine v8 h (fun hb h => ?_) (fun hb h => ?_)
  ·exact i6 h
  ·refine And.intro (fun _ => ?_) (fun h0=>Bool.noConfusion h0)
   refine .inl ?_
   refine dc ?_
   refine m7 h ?_
   intro x49 h
   refine .inl ?_
   refine v8 h (fun hb h => ?_) (fun hb h => ?_)
   ·exact i6 h
   ·refine And.intro (fun h0=>Bool.noConfusion h0) (fun _ => ?_)
    exact ⟨[],[],⟨_,e8 h⟩,[],mt⟩
theorem b70 {x37 x38 x39 x40 x41 x42 i9} (h:Ep x37 x38 x39 x40 x41 x42=some i9) :
  FB er 17 [(.dv (.ints .u8 32 x37)),(.dv (.str x38)),(.vs 0 0 2)] [(.var (.cons (.sl 1 [] s6 0 x39) (.cons (.sl 2 [] s6 0 x40) (.dv .nil)))),(.var (.dv (.ints .u8 32 x41))),(.var (.dv (.ints .u8 32 x42)))] [] (.dv (.ints .u8 32 i9)) [(.var (.cons (.sl 1 [] s6 0 x39) (.cons (.sl 2 [] s6 0 x40) (.dv .nil)))),(.var (.dv (.ints .u8 32 x41))),(.var (.dv (.ints .u8 32 x42)))]:=by
 refine fb Tryz.func17 ?_
 unfold Ep at h
 refine m8 h fun hg h => ?_
 refine m7 h ?_
 intro x43 h
 refine ⟨(List.map (fun q:UInt8=>(q.toNat:Int)) x43),rfl,0,(List.length (List.map (fun q:UInt8=>(q.toNat:Int)) x43)),⟨rfl,List.length_map ..⟩,?_⟩
 refine .inl ?_
 refine .inl ?_
 refine And.intro (by omega) ?_
 refine ⟨0,32,⟨rfl,rfl⟩,?_⟩
 obtain ⟨x44,c,h⟩:=j5 h
 refine cl [] [0,1,2,7] (Ic c) ?_
 refine .inl ?_
 obtain ⟨hg,h⟩:=gd h
 refine And.intro (j9 (o5 x44) hg) ?_
 refine ⟨((List.map (fun q:UInt8=>(q.toNat:Int)) x43)++x44),m5 (i7 _) (i7 x44),0,(List.length ((List.map (fun q:UInt8=>(q.toNat:Int)) x43)++x44)),⟨rfl,r7 (o5 x44)⟩,?_⟩
 refine .inl ?_
 obtain ⟨r48,c,h⟩:=j5 h
 rcases r48 with ⟨x45,x46⟩|x48
 ·refine cl [true,true,false] [9] (Q6 c) ?_ (hv:=⟨.inl rfl,u9 _ _,.inl rfl,trivial⟩)
  refine .inl ?_
  refine .inl ?_
  refine And.intro (fun _ => ?_) (fun h0=>Bool.noConfusion h0)
  refine .inl ?_
  refine And.intro (by omega) ?_
  refine ⟨0,32,⟨rfl,rfl⟩,?_⟩
  refine m7 h ?_
  intro x47 h
  obtain rfl:=e8 h
  exact ⟨0,[],[],mt⟩
 ·refine cl [true,true,false] [] (Q6 c) ?_ (hv:=⟨.inl rfl,u9 _ _,.inl rfl,trivial⟩)
  refine .inl ?_
  refine And.intro (fun h0=>Bool.noConfusion h0) (fun _ => ?_)
  obtain rfl:=e8 h
  exact ⟨0,[],[],mt⟩
theorem Oj {x27 x28 x29 i9} (h:Am x27 x28 x29=some i9) :
  FB er 41 [(.dv (.ints .u8 32 x27)),(.dv (.ints .u8 32 x28)),(.dv (.ints .u8 32 x29))] [] [] (.dv (.ints .u8 32 i9)) []:=by
 refine fb Tryz.func41 ?_
 unfold Am at h
 refine .inl ?_
 refine And.intro (by omega) ?_
 refine ⟨0,32,⟨rfl,rfl⟩,?_⟩
 refine .inr ?_
 obtain ⟨x30,c,h⟩:=j5 h
 refine cl [] [4,0] (Zu c) ?_
 refine .inl ?_
 refine And.intro (by omega) ?_
 refine ⟨0,32,⟨rfl,rfl⟩,?_⟩
 refine .inl ?_
 refine And.intro (by omega) ?_
 refine ⟨0,32,⟨rfl,rfl⟩,?_⟩
 refine .inr ?_
 obtain ⟨x31,c,h⟩:=j5 h
 refine cl [] [5,1,2] (b70 c) ?_
 obtain rfl:=e8 h
 exact ⟨0,[],[],mt⟩
theorem Ze {x17 x18 x19 i9} (h:Mw x17 x18 x19=some i9) :
  FB er 20 [(.dv (.ints .u8 32 x17)),(.vs 0 0 1)] [(.var (.cons (.sl 1 [] s6 0 x18) (.dv .nil))),(.frzI .u8 x19)] [] (match i9 with|(Sum.inl (p0,p1))=>(.tup [(.dv (.ints .u8 32 p0)),(.dv (.ints .u8 32 p1)),(.dv (.sc .nilIface))])|(Sum.inr _)=>(.tup [(.dv (.ints .u8 32 (List.replicate 32 (0:Int)))),(.dv (.ints .u8 32 (List.replicate 32 (0:Int)))),(Pe er 5)])) (match i9 with|(Sum.inl (p0,p1))=>[(.var (.cons (.sl 1 [] s6 0 x18) (.dv .nil))),(.frzI .u8 x19)]|(Sum.inr _)=>[(.var (.cons (.sl 1 [] s6 0 x18) (.dv .nil))),(.frzI .u8 x19)]):=by
 refine fb Tryz.func20 ?_ (by rcases i9 with _|_<;>rfl)
 unfold Mw at h
 obtain ⟨⟨x20,x21⟩,c,h⟩:=j5 h
 refine cl [] [0,1] (b69 c) ?_
 obtain ⟨r23,c,h⟩:=j5 h
 rcases r23 with x22|⟨⟩
 ·refine cl [] [] (Q7 c) ?_
  refine And.intro (fun h0=>Bool.noConfusion h0) (fun _ => ?_)
  obtain ⟨x23,c,h⟩:=j5 h
  refine cl [] [] (Oj c) ?_
  obtain rfl:=e8 h
  exact ⟨0,[],[],mt⟩
 ·refine cl [] [] (Q7 c) ?_
  refine And.intro (fun _ => ?_) (fun h0=>Bool.noConfusion h0)
  obtain rfl:=e8 h
  exact ⟨0,[],[],mt⟩
theorem Ju {x28 x29 x30 i9} (h:X7 x28 x29 x30=some i9) :
  FB er 31 [(.dv (.roI .u8 x28)),(.dv (.str x29)),(.dv (.roI .u8 x30))] [] [2] (.sl 2 [] s6 0 32) [(.rowI .u8 i9)]:=by
 refine fb Tryz.func31 ?_
 unfold X7 at h
 refine m8 h fun hg h => ?_
 refine m7 h ?_
 intro x31 h
 refine ⟨(List.map (fun q:UInt8=>(q.toNat:Int)) x31),rfl,0,(List.length (List.map (fun q:UInt8=>(q.toNat:Int)) x31)),⟨rfl,List.length_map ..⟩,?_⟩
 refine .inl ?_
 obtain ⟨hg,h⟩:=gd h
 refine And.intro (hg) ?_
 refine ⟨((List.map (fun q:UInt8=>(q.toNat:Int)) x31)++x30),m5 (i7 _) (rfl),0,(List.length ((List.map (fun q:UInt8=>(q.toNat:Int)) x31)++x30)),⟨rfl,r7 (rfl)⟩,?_⟩
 refine .inl ?_
 obtain ⟨x32,c,h⟩:=j5 h
 refine cl [false,true] [] (Az c) ?_ (hv:=⟨.inl rfl,u9 _ _,trivial⟩)
 refine .inr ?_
 refine And.intro (by omega) ?_
 refine ⟨x32,rfl,0,32,⟨rfl,rfl⟩,?_⟩
 obtain rfl:=e8 h
 exact ⟨0,[],[],mt⟩
end
end Go.Eng
