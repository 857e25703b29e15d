/-
  Part of a proof: SbdC1.
-/
import Derived.Test.YtaogeiahkekaoaaGreatDoorSbdM
set_option linter.unusedVariables false
set_option linter.unusedSimpArgs false
set_option linter.unusedVariables false
set_option linter.unusedSimpArgs false
namespace Go.Eng
open Go.Proofs
set_option maxRecDepth 100000
set_option maxHeartbeats 4000000
section
variable {er:Nat->ErrV}
def GEv (er:Nat->ErrV):Nat->AV
 |0 => .rp (.sc (.iface (er 4).1 (er 4).2))
 |1 => .rp (.ints .u64 10 tb_field_many)
 |2 => .rp (.ints .u64 10 tb_field_minus)
 |3 => .rp (.ints .u64 80 tb_shawide_constants)
 |_ => .any
def GE (er:Nat->ErrV):Glob:=⟨GEv er,ErrsOK 139 er errI⟩
theorem GE_plain (er:Nat->ErrV):GPlain (GE er):=fun g=>by show (GEv er g).inB _=true;unfold GEv;split<;>rfl
abbrev FB (er:Nat->ErrV):FuncId->List AV->List Blk->List Nat->AV->List Blk->Prop:=FnB Tryz.prog (GE er)
theorem fb {er:Nat->ErrV} {f:FuncId} {fn:Func} {c:Code} {as0:List AV} {bs0:List Blk} {news:List Nat} {r0:AV} {ws:List Blk} (hf:Tryz.prog.funcs[f]?=some fn)
  (h:startT as0 fn.ntmps fun ts=>vcR Tryz.prog (GE er) tab (itR Tryz.prog (GE er) tab 3) bs0.length noY c false [] none (retK tab fn fun r bs=>r=r0/\leaves bs (List.range bs0.length++news) ws) ts bs0)
  (hchk:bodyB as0 bs0 news r0 ws=true:=by rfl) (hname:(fn.name == "runtime.NumGoroutine")=false:=by rfl) (hb:fn.body=some c:=by rfl):FB er f as0 bs0 news r0 ws :=
 FnB.of tabOK mixed (GE_plain er) hf hname hb hchk 3 h
theorem shawide_begin_c {res} (h:shawide_begin=some res) :
  FB er 82 [] [] [] (.dv (.ints .u64 8 res)) []:=by
 refine fb Tryz.func82 ?_
 unfold shawide_begin at h
 refine nml h ?_
 intro x10 h
 obtain rfl:=some_in h
 exact ⟨0,[],[],mt⟩
theorem shawide_padded_c {x12 x13 res} (h:shawide_padded x12 x13=some res) :
  FB er 83 [(.vs 0 0 1)] [(.var (.cons (.sl 1 [] ly5 0 x12) (.dv .nil))),(.var (.dv (.ints .u8 32 x13)))] [2] (.fn 106 [(.ptr 2 [] ly36)]) [(.var (.cons (.sl 1 [] ly5 0 x12) (.dv .nil))),(.var (.dv (.ints .u8 32 x13))),(.var (.vs 0 0 1))]:=by
 refine fb Tryz.func83 ?_
 unfold shawide_padded at h
 obtain rfl:=some_in h
 exact ⟨0,[],[],mt⟩
theorem slices_Grow_byte_byte_2_c {x18 res} (h:slices_Grow_byte_byte_2 x18=some res) :
  FB er 51 [(.dv (.sc (.slice none 0 0))),(.int .i64 x18)] [] [0] (.sl 0 [] ly5 0 res.1) [(.rowI .u8 res.2)]:=by
 refine fb Tryz.func51 ?_
 unfold slices_Grow_byte_byte_2 at h
 refine .inl ?_
 refine cnd h (fun hb h => ?_) (fun hb h => ?_)
 ·exact no_none h
 ·obtain ⟨⟨x19,x20⟩,g,h⟩:=bnd h
  refine .inr ⟨[],_,fj (fun (x19,x20)=>([(0,(.sl 0 [] ly5 0 x19))],[(0,(.rowI .u8 x20))])) (x19,x20),1,?_,?_⟩
  ·rintro ⟨_,rfl⟩
   obtain rfl:=some_in h
   exact ⟨0,[],[],mt⟩
  ·replace h:=g
   refine cnd h (fun hb h => ?_) (fun hb h => ?_)
   ·refine dc ?_
    refine dc ?_
    refine gdn h fun hg h => ?_
    refine ⟨(List.replicate (Int.toNat (IntKind.wrap .i64 (x18-0))) (0:Int)),rfl,0,(List.length (List.replicate (Int.toNat (IntKind.wrap .i64 (x18-0))) (0:Int))),⟨rfl,List.length_replicate ..⟩,?_⟩
    refine .inl ?_
    refine nml h ?_
    intro x21 h
    refine gdn h fun hg h => ?_
    refine dc ?_
    refine ⟨0,0,⟨by simp,rfl⟩,?_⟩
    exact ⟨[],[],⟨_,some_in h⟩,[],mt⟩
   ·exact ⟨[(0,.rowI .u8 [])],[],⟨_,some_in h⟩,[],mt⟩
theorem slices_Concat_byte_byte_c {x14 x15 res} (h:slices_Concat_byte_byte x14 x15=some res) :
  FB er 16 [(.vs 0 0 1)] [(.var (.cons (.sl 1 [] ly5 0 x14) (.dv .nil))),(.var (.dv (.ints .u8 32 x15)))] [3] (.sl 3 [] ly5 0 (List.length res)) [(.var (.cons (.sl 1 [] ly5 0 x14) (.dv .nil))),(.var (.dv (.ints .u8 32 x15))),(.rowI .u8 res)]:=by
 refine fb Tryz.func16 ?_
 unfold slices_Concat_byte_byte at h
 obtain ⟨⟨⟩,g,h⟩:=bnd h
 refine .inr ⟨[10],_,fj (fun ()=>([(3,(.int .i64 (IntKind.wrap .i64 (0+(x14:Int)))))],[])) (),0,?_,?_⟩
 ·rintro ⟨_,rfl⟩
  obtain ⟨⟨x16,x17⟩,c,h⟩:=bnd h
  refine cl [] [2] (slices_Grow_byte_byte_2_c c) ?_
  refine .inl ?_
  obtain ⟨⟨⟩,g,h⟩:=bnd h
  refine .inr ⟨[24,26],_,fj (fun ()=>([(6,(.sl 3 [] ly5 0 (List.length ((List.take x16 x17)++(List.take x14 x15)))))],[(2,.dead),(3,(.rowI .u8 ((List.take x16 x17)++(List.take x14 x15))))])) (),1,?_,?_⟩
  ·rintro ⟨_,rfl⟩
   obtain rfl:=some_in h
   exact ⟨0,[],[],mt⟩
  ·replace h:=g
   refine .inr ⟨30,?_⟩
   refine And.intro (fun _ => ?_) (fun h0=>Bool.noConfusion h0)
   refine .inl ?_
   refine dc ?_
   obtain ⟨hg,h⟩:=gd h
   refine And.intro (le_of_ln2 (ln_0 _ _) hg) ?_
   obtain ⟨hg2,h⟩:=gd h
   refine ⟨((List.take x16 x17)++(List.take x14 x15)),app_cut (cut_0 _ _) (cut_0 _ _),0,(List.length ((List.take x16 x17)++(List.take x14 x15))),⟨rfl,cut_ln hg2 (ln_0 _ _)⟩,?_⟩
   refine .inl ?_
   refine And.intro (fun h0=>Bool.noConfusion h0) (fun _ => ?_)
   exact ⟨[],[],⟨_,some_in h⟩,[],mt⟩
 ·replace h:=g
  refine .inr ⟨30,?_⟩
  refine And.intro (fun _ => ?_) (fun h0=>Bool.noConfusion h0)
  refine .inl ?_
  refine dc ?_
  refine .inl ?_
  refine cnd h (fun hb h => ?_) (fun hb h => ?_)
  ·exact no_none h
  ·refine And.intro (fun h0=>Bool.noConfusion h0) (fun _ => ?_)
   exact ⟨[],[],⟨_,some_in h⟩,[],mt⟩
theorem shawide_blocks_c {x19 res} (h:shawide_blocks x19=some res) :
  FB er 107 [(.int .i64 x19)] [] [] (.int .i64 res) []:=by
 refine fb Tryz.func107 ?_
 unfold shawide_blocks at h
 refine dc ?_
 refine nml h ?_
 intro x20 h
 obtain rfl:=some_in h
 exact ⟨0,[],[],mt⟩
theorem slices_Chunk_byte_byte_2_c {x28 x29 x30 res} (h:slices_Chunk_byte_byte_2 x28 x29 x30=some res) :
  FB er 108 [(.sl 0 [] ly5 0 x28),(.int .i64 x29)] [(.rowI .u8 x30)] [1,2] (.fn 114 [(.ptr 1 [] ly24),(.ptr 2 [] ly3)]) [(.rowI .u8 x30),(.var (.sl 0 [] ly5 0 x28)),(.var (.int .i64 x29))]:=by
 refine fb Tryz.func108 ?_
 unfold slices_Chunk_byte_byte_2 at h
 refine .inl ?_
 refine cnd h (fun hb h => ?_) (fun hb h => ?_)
 ·exact no_none h
 ·obtain rfl:=some_in h
  exact ⟨0,[],[],mt⟩
theorem shawide_word_c {x35 res} (h:shawide_word x35=some res) :
  FB er 115 [(.dv (.roI .u8 x35))] [] [] (.int .u64 res) []:=by
 refine fb Tryz.func115 ?_
 unfold shawide_word at h
 refine gdn h fun hg h => ?_
 refine dc ?_
 refine ⟨(List.take 8 x35),by first|rfl|simp,?_⟩
 obtain ⟨x36,g,h⟩:=bnd h
 refine .inr ⟨[8],_,fj (fun x36=>([(3,(.int .u64 x36))],[])) x36,0,?_,?_⟩
 ·rintro ⟨x36,rfl⟩
  obtain rfl:=some_in h
  exact ⟨0,[],[],mt⟩
 ·replace h:=g
  refine .inl ?_
  refine ⟨[],_,fl (β:=Nat×Int×Int) (fun (n1,x37,x38)=>(shawide_word_l1 x35 n1 x37 x38=some x36,[(3,(.int .u64 x37)),(9,(.int .i64 x38))],[],n1)),[],[],⟨(FUEL,0,0),h⟩,mt,?_⟩
  rintro ⟨⟨_|n1,x37,x38⟩,h⟩
  ·exact no_none h
  replace h:=(shawide_word_l1.eq_2 x35 x37 x38 n1).symm.trans h
  refine cnd h (fun hb h => ?_) (fun hb h => ?_)
  ·refine .inl ?_
   refine gdn h fun hg h => ?_
   refine dc ?_
   refine nml h ?_
   intro x39 h
   exact ⟨⟨(n1,_,_),h⟩,[],mt,Nat.lt_succ_self _⟩
  ·exact ⟨[],[],⟨_,some_in h⟩,[],mt⟩
theorem words_Right64_c {x39 x40 res} (h:words_Right64 x39 x40=some res) :
  FB er 110 [(.int .u64 x39),(.int .i64 x40)] [] [] (.int .u64 res) []:=by
 refine fb Tryz.func110 ?_
 unfold words_Right64 at h
 refine dc ?_
 refine gdn h fun hg h => ?_
 refine nml h ?_
 intro x41 h
 refine nml h ?_
 intro x42 h
 refine gdn h fun hg h => ?_
 refine nml h ?_
 intro x43 h
 obtain rfl:=some_in h
 exact ⟨0,[],[],mt⟩
theorem shawide_schedule_c {x34 res} (h:shawide_schedule x34=some res) :
  FB er 109 [(.dv (.roI .u8 x34))] [] [] (.dv (.ints .u64 80 res)) []:=by
 refine fb Tryz.func109 ?_
 unfold shawide_schedule at h
 obtain ⟨x35,g,h⟩:=bnd h
 refine .inr ⟨[0],_,fj (fun x35=>([],[(1,(.var (.dv (.ints .u64 80 x35))))])) x35,0,?_,?_⟩
 ·rintro ⟨x35,rfl⟩
  obtain rfl:=some_in h
  exact ⟨0,[],[],mt⟩
 ·replace h:=g
  refine .inl ?_
  refine ⟨[],_,fl (β:=Nat×Int×(List Int)) (fun (n1,x36,x37)=>(shawide_schedule_l1 x34 n1 x36 x37=some x35,[(9,(.int .i64 x36))],[(1,(.var (.dv (.ints .u64 80 x37))))],n1)),[],[],⟨(FUEL,0,(List.replicate 80 (0:Int))),h⟩,mt,?_⟩
  rintro ⟨⟨_|n1,x36,x37⟩,h⟩
  ·exact no_none h
  replace h:=(shawide_schedule_l1.eq_2 x34 x36 x37 n1).symm.trans h
  refine cnd h (fun hb h => ?_) (fun hb h => ?_)
  ·obtain ⟨x38,g,h⟩:=bnd h
   refine .inr ⟨[],_,fj (fun x38=>([],[(1,(.var (.dv (.ints .u64 80 x38))))])) x38,0,?_,?_⟩
   ·rintro ⟨x38,rfl⟩
    exact ⟨⟨(n1,_,_),h⟩,[],mt,Nat.lt_succ_self _⟩
   ·replace h:=g
    refine cnd h (fun hb h => ?_) (fun hb h => ?_)
    ·refine gdn h fun hg h => ?_
     refine ⟨(List.take (Int.toNat ((List.length x34:Int)-(IntKind.wrap .i64 (8*x36)))) (List.drop (Int.toNat (IntKind.wrap .i64 (8*x36))) x34)),by first|rfl|simp,?_⟩
     refine nml h ?_
     intro x39 h
     obtain ⟨x40,c,h⟩:=bnd h
     refine cl [] [] (shawide_word_c c) ?_
     refine gdn h fun hg h => ?_
     exact ⟨[],[],⟨_,some_in h⟩,[],mt⟩
    ·refine gdn h fun hg h => ?_
     refine gdn h fun hg h => ?_
     obtain ⟨x41,c,h⟩:=bnd h
     refine cl [] [] (words_Right64_c c) ?_
     obtain ⟨x42,c,h⟩:=bnd h
     refine cl [] [] (words_Right64_c c) ?_
     refine dc ?_
     refine nml h ?_
     intro x43 h
     obtain ⟨x44,c,h⟩:=bnd h
     refine cl [] [] (words_Right64_c c) ?_
     obtain ⟨x45,c,h⟩:=bnd h
     refine cl [] [] (words_Right64_c c) ?_
     refine dc ?_
     refine nml h ?_
     intro x46 h
     refine gdn h fun hg h => ?_
     refine nml h ?_
     intro x47 h
     refine gdn h fun hg h => ?_
     refine nml h ?_
     intro x48 h
     refine nml h ?_
     intro x49 h
     refine gdn h fun hg h => ?_
     exact ⟨[],[],⟨_,some_in h⟩,[],mt⟩
  ·exact ⟨[],[],⟨_,some_in h⟩,[],mt⟩
theorem shawide_state_take_2_c {x34 x35 x36 x37 res} (h:shawide_state_take_2 x34 x35 x36 x37=some res) :
  FB er 84 [(.ptr 0 [] ly107),(.sl 1 [] ly5 x34 x35)] [(.var (.dv (.ints .u64 8 x36))),(.rowI .u8 x37)] [] (.tup []) [(.var (.dv (.ints .u64 8 res))),(.rowI .u8 x37)]:=by
 refine fb Tryz.func84 ?_
 unfold shawide_state_take_2 at h
 obtain ⟨x38,c,h⟩:=bnd h
 refine cl [true] [] (shawide_schedule_c c) ?_
 obtain ⟨x39,g,h⟩:=bnd h
 refine .inr ⟨[20],_,fj (fun x39=>([],[(3,(.var (.dv (.ints .u64 8 x39))))])) x39,0,?_,?_⟩
 ·rintro ⟨x39,rfl⟩
  obtain ⟨x58,g,h⟩:=bnd h
  refine .inr ⟨[],_,fj (fun x58=>([],[(0,(.var (.dv (.ints .u64 8 x58))))])) x58,0,?_,?_⟩
  ·rintro ⟨x58,rfl⟩
   obtain rfl:=some_in h
   exact ⟨0,[],[],mt⟩
  ·replace h:=g
   refine .inl ?_
   refine ⟨[],_,fl (β:=Nat×Int×(List Int)) (fun (n2,x59,x60)=>(shawide_state_take_2_l2 x39 n2 x59 x60=some x58,[(96,(.int .i64 x59))],[(0,(.var (.dv (.ints .u64 8 x60))))],n2)),[],[],⟨(FUEL,0,x36),h⟩,mt,?_⟩
   rintro ⟨⟨_|n2,x59,x60⟩,h⟩
   ·exact no_none h
   replace h:=(shawide_state_take_2_l2.eq_2 x39 x59 x60 n2).symm.trans h
   refine cnd h (fun hb h => ?_) (fun hb h => ?_)
   ·refine .inl ?_
    refine gdn h fun hg h => ?_
    refine gdn h fun hg h => ?_
    refine nml h ?_
    intro x61 h
    refine gdn h fun hg h => ?_
    exact ⟨⟨(n2,_,_),h⟩,[],mt,Nat.lt_succ_self _⟩
   ·exact ⟨[],[],⟨_,some_in h⟩,[],mt⟩
 ·replace h:=g
  refine .inl ?_
  refine ⟨[],_,fl (β:=Nat×Int×(List Int)) (fun (n1,x40,x41)=>(shawide_state_take_2_l1 x38 n1 x40 x41=some x39,[(21,(.int .i64 x40))],[(3,(.var (.dv (.ints .u64 8 x41))))],n1)),[],[],⟨(FUEL,0,x36),h⟩,mt,?_⟩
  rintro ⟨⟨_|n1,x40,x41⟩,h⟩
  ·exact no_none h
  replace h:=(shawide_state_take_2_l1.eq_2 x38 x40 x41 n1).symm.trans h
  refine cnd h (fun hb h => ?_) (fun hb h => ?_)
  ·refine .inl ?_
   refine gdn h fun hg h => ?_
   refine dc ?_
   refine dc ?_
   obtain ⟨x42,c,h⟩:=bnd h
   refine cl [] [] (words_Right64_c c) ?_
   obtain ⟨x43,c,h⟩:=bnd h
   refine cl [] [] (words_Right64_c c) ?_
   obtain ⟨x44,c,h⟩:=bnd h
   refine cl [] [] (words_Right64_c c) ?_
   refine dc ?_
   refine nml h ?_
   intro x45 h
   refine dc ?_
   refine dc ?_
   refine nml h ?_
   intro x46 h
   refine nml h ?_
   intro x47 h
   refine nml h ?_
   intro x48 h
   refine gdn h fun hg h => ?_
   refine nml h ?_
   intro x49 h
   obtain ⟨x50,c,h⟩:=bnd h
   refine cl [] [] (words_Right64_c c) ?_
   obtain ⟨x51,c,h⟩:=bnd h
   refine cl [] [] (words_Right64_c c) ?_
   obtain ⟨x52,c,h⟩:=bnd h
   refine cl [] [] (words_Right64_c c) ?_
   refine dc ?_
   refine dc ?_
   refine nml h ?_
   intro x53 h
   refine dc ?_
   refine dc ?_
   refine nml h ?_
   intro x54 h
   refine nml h ?_
   intro x55 h
   refine .inl ?_
   refine dc ?_
   refine ⟨1,7,⟨rfl,rfl⟩,?_⟩
   refine .inl ?_
   refine dc ?_
   refine dc ?_
   refine ⟨0,7,⟨rfl,rfl⟩,?_⟩
   refine dc ?_
   refine nml h ?_
   intro x56 h
   refine dc ?_
   refine nml h ?_
   intro x57 h
   refine dc ?_
   exact ⟨⟨(n1,_,_),h⟩,[],mt,Nat.lt_succ_self _⟩
  ·exact ⟨[],[],⟨_,some_in h⟩,[],mt⟩
theorem shawide_Sum_c {x8 x9 res} (h:shawide_Sum x8 x9=some res) :
  FB er 37 [(.vs 0 0 1)] [(.var (.cons (.sl 1 [] ly5 0 x8) (.dv .nil))),(.var (.dv (.ints .u8 32 x9)))] [] (.dv (.ints .u8 64 res)) [(.var (.cons (.sl 1 [] ly5 0 x8) (.dv .nil))),(.var (.dv (.ints .u8 32 x9)))]:=by
 refine fb Tryz.func37 ?_
 unfold shawide_Sum at h
 obtain ⟨x10,c,h⟩:=bnd h
 refine cl [] [] (shawide_begin_c c) ?_
 obtain ⟨r35,c,h⟩:=bnd h
 refine cl [] [0,1,4] (shawide_padded_c c) ?_
 obtain ⟨x11,g,h⟩:=bnd h
 refine .inr ⟨[11],_,fj (fun x11=>([],[(3,(.var (.dv (.ints .u64 8 x11))))])) x11,0,?_,?_⟩
 ·rintro ⟨x11,rfl⟩
  obtain ⟨x28,g,h⟩:=bnd h
  refine .inr ⟨[15],_,fj (fun x28=>([],[(5,(.var (.dv (.ints .u8 64 x28))))])) x28,0,?_,?_⟩
  ·rintro ⟨x28,rfl⟩
   obtain rfl:=some_in h
   exact ⟨0,[],[],mt⟩
  ·replace h:=g
   refine .inl ?_
   refine ⟨[],_,fl (β:=Nat×Int×(List Int)) (fun (n3,x29,x30)=>(shawide_Sum_l3 x11 n3 x29 x30=some x28,[(16,(.int .i64 x29))],[(5,(.var (.dv (.ints .u8 64 x30))))],n3)),[],[],⟨(FUEL,0,(List.replicate 64 (0:Int))),h⟩,mt,?_⟩
   rintro ⟨⟨_|n3,x29,x30⟩,h⟩
   ·exact no_none h
   replace h:=(shawide_Sum_l3.eq_2 x11 x29 x30 n3).symm.trans h
   refine cnd h (fun hb h => ?_) (fun hb h => ?_)
   ·refine .inl ?_
    refine gdn h fun hg h => ?_
    obtain ⟨x31,g,h⟩:=bnd h
    refine .inr ⟨[6,7],_,fj (fun x31=>([],[(5,(.var (.dv (.ints .u8 64 x31))))])) x31,0,?_,?_⟩
    ·rintro ⟨x31,rfl⟩
     exact ⟨⟨(n3,_,_),h⟩,[],mt,Nat.lt_succ_self _⟩
    ·replace h:=g
     refine .inl ?_
     refine ⟨[],_,fl (β:=Nat×Int×(List Int)) (fun (n4,x32,x33)=>(shawide_Sum_l4 x11 x29 n4 x32 x33=some x31,[(20,(.int .i64 x32))],[(5,(.var (.dv (.ints .u8 64 x33))))],n4)),[],[],⟨(FUEL,0,x30),h⟩,mt,?_⟩
     rintro ⟨⟨_|n4,x32,x33⟩,h⟩
     ·exact no_none h
     replace h:=(shawide_Sum_l4.eq_2 x11 x29 x32 x33 n4).symm.trans h
     refine cnd h (fun hb h => ?_) (fun hb h => ?_)
     ·refine .inl ?_
      refine gdn h fun hg h => ?_
      refine nml h ?_
      intro x34 h
      refine gdn h fun hg h => ?_
      refine nml h ?_
      intro x35 h
      exact ⟨⟨(n4,_,_),h⟩,[],mt,Nat.lt_succ_self _⟩
     ·exact ⟨[],[],⟨_,some_in h⟩,[],mt⟩
   ·exact ⟨[],[],⟨_,some_in h⟩,[],mt⟩
 ·replace h:=g
  intro L5
  refine ⟨Tryz.f106,_,⟨Tryz.func106,rfl,rfl,rfl⟩,?_⟩
  obtain ⟨x12,c,h⟩:=bnd h
  refine cl [] [0,1,8] (slices_Concat_byte_byte_c c) ?_
  refine .inl ?_
  refine .inl ?_
  obtain ⟨hg,h⟩:=gd h
  refine And.intro (le_of_ln2 (ln_full [128]) hg) ?_
  refine ⟨(x12++[128]),app_cut (cut_full _) (cut_full [128]),0,(List.length (x12++[128])),⟨rfl,app_ln (ln_full [128])⟩,?_⟩
  refine .inl ?_
  obtain ⟨x13,c,h⟩:=bnd h
  refine cl [] [] (shawide_blocks_c c) ?_
  refine nml h ?_
  intro x14 h
  refine gdn h fun hg h => ?_
  refine ⟨((x12++[128])++(List.replicate (Int.toNat (IntKind.wrap .i64 (x14-1))) (0:Int))),app_cut (cut_full _) rfl,0,(List.length ((x12++[128])++(List.replicate (Int.toNat (IntKind.wrap .i64 (x14-1))) (0:Int)))),⟨rfl,by first|(simp;done)|exact (List.length_append ..).trans (congrArg (_ + ·) (List.length_replicate ..))⟩,?_⟩
  refine .inl ?_
  refine nml h ?_
  intro x15 h
  refine nml h ?_
  intro x16 h
  obtain ⟨x17,g,h⟩:=bnd h
  refine .inr ⟨[5],_,fj (fun x17=>([],[(11,(.rowI .u8 x17))])) x17,0,?_,?_⟩
  ·rintro ⟨x17,rfl⟩
   obtain ⟨r27,c,h⟩:=bnd h
   refine cl [] [11,12,13] (slices_Chunk_byte_byte_2_c c) ?_
   obtain ⟨x22,g,h⟩:=bnd h
   refine .inr ⟨[2,43],_,fj (fun x22=>([],[(3,(.var (.dv (.ints .u64 8 x22))))])) x22,0,?_,?_⟩
   ·rintro ⟨x22,rfl⟩
    exact ⟨[],[],⟨_,some_in h⟩,[],mt⟩
   ·replace h:=g
    intro L7
    refine ⟨Tryz.f114,_,⟨Tryz.func114,rfl,rfl,rfl⟩,?_⟩
    obtain ⟨x23,g,h⟩:=bnd h
    refine .inr ⟨[0,1,2],_,fj (fun x23=>([],[(3,(.var (.dv (.ints .u64 8 x23))))])) x23,0,?_,?_⟩
    ·rintro ⟨x23,rfl⟩
     exact ⟨[],[],⟨_,some_in h⟩,[],mt⟩
    ·replace h:=g
     refine .inl ?_
     refine ⟨[],_,fl (β:=Nat×Int×(List Int)) (fun (n2,x24,x25)=>(shawide_Sum_l2 x15 x17 n2 x24 x25=some x23,[(4,(.int .i64 x24))],[(3,(.var (.dv (.ints .u64 8 x25))))],n2)),[],[],⟨(FUEL,0,x10),h⟩,mt,?_⟩
     rintro ⟨⟨_|n2,x24,x25⟩,h⟩
     ·exact no_none h
     replace h:=(shawide_Sum_l2.eq_2 x15 x17 x24 x25 n2).symm.trans h
     refine cnd h (fun hb h => ?_) (fun hb h => ?_)
     ·refine .inl ?_
      refine gdn h fun hg h => ?_
      refine ⟨(Int.toNat x24),(Int.toNat (((List.length x15):Int)-x24)),⟨by simp,rfl⟩,?_⟩
      refine nml h ?_
      intro x26 h
      refine gdn h fun hg h => ?_
      refine gdn h fun hg h => ?_
      refine ⟨(Int.toNat x24),(Int.toNat ((IntKind.wrap .i64 (x24+x26))-x24)),⟨by simp,rfl⟩,?_⟩
      refine ⟨rfl,?_⟩
      refine .inl ?_
      refine ⟨rfl,?_⟩
      refine .inl ?_
      obtain ⟨x27,c,h⟩:=bnd h
      refine cl [] [3,11] (shawide_state_take_2_c c) ?_
      exact ⟨⟨(n2,_,_),h⟩,[],mt,Nat.lt_succ_self _⟩
     ·exact ⟨[],[],⟨_,some_in h⟩,[],mt⟩
  ·replace h:=g
   refine .inl ?_
   refine ⟨[],_,fl (β:=Nat×Int×(List Int)) (fun (n1,x18,x19)=>(shawide_Sum_l1 x15 x16 n1 x18 x19=some x17,[(26,(.int .i64 x18))],[(11,(.rowI .u8 x19))],n1)),[],[],⟨(FUEL,0,x15),h⟩,mt,?_⟩
   rintro ⟨⟨_|n1,x18,x19⟩,h⟩
   ·exact no_none h
   replace h:=(shawide_Sum_l1.eq_2 x15 x16 x18 x19 n1).symm.trans h
   refine cnd h (fun hb h => ?_) (fun hb h => ?_)
   ·refine .inl ?_
    refine nml h ?_
    intro x20 h
    refine gdn h fun hg h => ?_
    refine nml h ?_
    intro x21 h
    refine gdn h fun hg h => ?_
    exact ⟨⟨(n1,_,_),h⟩,[],mt,Nat.lt_succ_self _⟩
   ·exact ⟨[],[],⟨_,some_in h⟩,[],mt⟩
theorem ladder_Clamp_c {x10 res} (h:ladder_Clamp x10=some res) :
  FB er 38 [(.dv (.ints .u8 32 x10))] [] [] (.dv (.ints .u8 32 res)) []:=by
 refine fb Tryz.func38 ?_
 unfold ladder_Clamp at h
 refine dc ?_
 refine dc ?_
 refine dc ?_
 refine nml h ?_
 intro x11 h
 refine dc ?_
 refine nml h ?_
 intro x12 h
 refine dc ?_
 refine dc ?_
 obtain rfl:=some_in h
 exact ⟨0,[],[],mt⟩
theorem sign_secret_c {x8 res} (h:sign_secret x8=some res) :
  FB er 12 [(.dv (.ints .u8 32 x8))] [] [3] (.tup [(.dv (.ints .u8 32 res.1)),(.sl 3 [] ly5 32 32)]) [(.frzI .u8 res.2)]:=by
 refine fb Tryz.func12 ?_
 unfold sign_secret at h
 refine .inl ?_
 refine And.intro (by omega) ?_
 refine ⟨0,32,⟨rfl,rfl⟩,?_⟩
 refine .inr ?_
 obtain ⟨x9,c,h⟩:=bnd h
 refine cl [] [2,0] (shawide_Sum_c c) ?_
 refine .inr ?_
 refine dc ?_
 refine dc ?_
 refine ⟨x9,rfl,0,32,⟨rfl,rfl⟩,?_⟩
 obtain ⟨hg,h⟩:=gd h
 refine And.intro (by first|exact hg|simpa using hg) ?_
 refine ⟨(List.take 32 (List.take 32 x9)),by first|rfl|simp,?_⟩
 obtain ⟨x10,c,h⟩:=bnd h
 refine cl [] [] (ladder_Clamp_c c) ?_
 refine .inl ?_
 refine dc ?_
 refine ⟨32,32,⟨rfl,rfl⟩,?_⟩
 obtain rfl:=some_in h
 exact ⟨0,[],[],mt⟩
theorem field_BaseX_c {res} (h:field_BaseX=some res) :
  FB er 40 [] [] [] (.dv (T_field_Elem.dv res)) []:=by
 refine fb Tryz.func40 ?_
 unfold field_BaseX at h
 refine nml h ?_
 intro x13 h
 obtain rfl:=some_in h
 exact ⟨0,[],[],mt⟩
theorem field_BaseY_c {res} (h:field_BaseY=some res) :
  FB er 41 [] [] [] (.dv (T_field_Elem.dv res)) []:=by
 refine fb Tryz.func41 ?_
 unfold field_BaseY at h
 refine nml h ?_
 intro x15 h
 obtain rfl:=some_in h
 exact ⟨0,[],[],mt⟩
theorem field_Elem_carry_2_c {x26 res} (h:field_Elem_carry_2 x26=some res) :
  FB er 87 [(.ptr 0 [] ly42)] [(.var (.dv (T_field_Elem.dv x26)))] [] (.tup []) [(.var (.dv (T_field_Elem.dv res)))]:=by
 refine fb Tryz.func87 ?_
 unfold field_Elem_carry_2 at h
 obtain ⟨x27,g,h⟩:=bnd h
 refine .inr ⟨[0],_,fj (fun x27=>([],[(0,(.var (.dv (.cons (.ints .u64 10 x27) .nil))))])) x27,0,?_,?_⟩
 ·rintro ⟨x27,rfl⟩
  obtain rfl:=some_in h
  exact ⟨0,[],[],mt⟩
 ·replace h:=g
  refine .inl ?_
  refine ⟨[],_,fl (β:=Nat×Int×(List Int)) (fun (n1,x28,x29)=>(field_Elem_carry_2_l1 n1 x28 x29=some x27,[(4,(.int .i64 x28))],[(0,(.var (.dv (.cons (.ints .u64 10 x29) .nil))))],n1)),[],[],⟨(FUEL,0,x26.fn),h⟩,mt,?_⟩
  rintro ⟨⟨_|n1,x28,x29⟩,h⟩
  ·exact no_none h
  replace h:=(field_Elem_carry_2_l1.eq_2 x28 x29 n1).symm.trans h
  refine cnd h (fun hb h => ?_) (fun hb h => ?_)
  ·refine .inl ?_
   obtain ⟨⟨x30,x31⟩,g,h⟩:=bnd h
   refine .inr ⟨[],_,fj (fun (x30,x31)=>([(2,(.int .u64 x30))],[(0,(.var (.dv (.cons (.ints .u64 10 x31) .nil))))])) (x30,x31),0,?_,?_⟩
   ·rintro ⟨_,rfl⟩
    refine dc ?_
    refine nml h ?_
    intro x39 h
    refine dc ?_
    exact ⟨⟨(n1,_,_),h⟩,[],mt,Nat.lt_succ_self _⟩
   ·replace h:=g
    refine .inl ?_
    refine ⟨[],_,fl (β:=Nat×Int×Int×(List Int)) (fun (n2,x32,x33,x34)=>(field_Elem_carry_2_l2 n2 x32 x33 x34=some (x30,x31),[(2,(.int .u64 x32)),(6,(.int .i64 x33))],[(0,(.var (.dv (.cons (.ints .u64 10 x34) .nil))))],n2)),[],[],⟨(FUEL,0,0,x29),h⟩,mt,?_⟩
    rintro ⟨⟨_|n2,x32,x33,x34⟩,h⟩
    ·exact no_none h
    replace h:=(field_Elem_carry_2_l2.eq_2 x32 x33 x34 n2).symm.trans h
    refine cnd h (fun hb h => ?_) (fun hb h => ?_)
    ·refine .inl ?_
     refine gdn h fun hg h => ?_
     refine nml h ?_
     intro x35 h
     refine gdn h fun hg h => ?_
     refine gdn h fun hg h => ?_
     refine nml h ?_
     intro x36 h
     refine dc ?_
     refine gdn h fun hg h => ?_
     refine nml h ?_
     intro x37 h
     refine gdn h fun hg h => ?_
     refine nml h ?_
     intro x38 h
     exact ⟨⟨(n2,_,_,_),h⟩,[],mt,Nat.lt_succ_self _⟩
    ·exact ⟨[],[],⟨_,some_in h⟩,[],mt⟩
  ·exact ⟨[],[],⟨_,some_in h⟩,[],mt⟩
theorem field_Elem_Sub_c {x22 x23 res} (h:field_Elem_Sub x22 x23=some res) :
  FB er 63 [(.dv (T_field_Elem.dv x22)),(.dv (T_field_Elem.dv x23))] [] [] (.dv (T_field_Elem.dv res)) []:=by
 refine fb Tryz.func63 ?_
 unfold field_Elem_Sub at h
 obtain ⟨x24,g,h⟩:=bnd h
 refine .inr ⟨[3],_,fj (fun x24=>([],[(0,(.var (.dv (.cons (.ints .u64 10 x24) .nil))))])) x24,0,?_,?_⟩
 ·rintro ⟨x24,rfl⟩
  obtain ⟨x29,c,h⟩:=bnd h
  refine cl [] [0] (field_Elem_carry_2_c c) ?_
  obtain rfl:=some_in h
  exact ⟨0,[],[],mt⟩
 ·replace h:=g
  refine .inl ?_
  refine ⟨[],_,fl (β:=Nat×Int×(List Int)) (fun (n1,x25,x26)=>(field_Elem_Sub_l1 x23 n1 x25 x26=some x24,[(6,(.int .i64 x25))],[(0,(.var (.dv (.cons (.ints .u64 10 x26) .nil))))],n1)),[],[],⟨(FUEL,0,x22.fn),h⟩,mt,?_⟩
  rintro ⟨⟨_|n1,x25,x26⟩,h⟩
  ·exact no_none h
  replace h:=(field_Elem_Sub_l1.eq_2 x23 x25 x26 n1).symm.trans h
  refine cnd h (fun hb h => ?_) (fun hb h => ?_)
  ·refine .inl ?_
   refine gdn h fun hg h => ?_
   refine gdn h fun hg h => ?_
   refine gdn h fun hg h => ?_
   refine nml h ?_
   intro x27 h
   refine nml h ?_
   intro x28 h
   refine gdn h fun hg h => ?_
   exact ⟨⟨(n1,_,_),h⟩,[],mt,Nat.lt_succ_self _⟩
  ·exact ⟨[],[],⟨_,some_in h⟩,[],mt⟩
theorem field_Small_c {x19 res} (h:field_Small x19=some res) :
  FB er 62 [(.int .i64 x19)] [] [] (.dv (T_field_Elem.dv res)) []:=by
 refine fb Tryz.func62 ?_
 unfold field_Small at h
 obtain ⟨x20,g,h⟩:=bnd h
 refine .inr ⟨[],_,fj (fun x20=>([(4,(.int .u64 x20))],[])) x20,0,?_,?_⟩
 ·rintro ⟨x20,rfl⟩
  obtain ⟨x21,g,h⟩:=bnd h
  refine .inr ⟨[],_,fj (fun x21=>([],[(1,(.var (.dv (.cons (.ints .u64 10 x21) .nil))))])) x21,0,?_,?_⟩
  ·rintro ⟨x21,rfl⟩
   refine cnd h (fun hb h => ?_) (fun hb h => ?_)
   ·obtain ⟨x25,c,h⟩:=bnd h
    refine cl [] [] (field_Elem_Sub_c c) ?_
    obtain rfl:=some_in h
    exact ⟨0,[],[],mt⟩
   ·obtain rfl:=some_in h
    exact ⟨0,[],[],mt⟩
  ·replace h:=g
   refine .inl ?_
   refine ⟨[],_,fl (β:=Nat×Int×(List Int)) (fun (n1,x22,x23)=>(field_Small_l1 x20 n1 x22 x23=some x21,[(12,(.int .i64 x22))],[(1,(.var (.dv (.cons (.ints .u64 10 x23) .nil))))],n1)),[],[],⟨(FUEL,0,(List.replicate 10 (0:Int))),h⟩,mt,?_⟩
   rintro ⟨⟨_|n1,x22,x23⟩,h⟩
   ·exact no_none h
   replace h:=(field_Small_l1.eq_2 x20 x22 x23 n1).symm.trans h
   refine cnd h (fun hb h => ?_) (fun hb h => ?_)
   ·refine .inl ?_
    refine gdn h fun hg h => ?_
    refine nml h ?_
    intro x24 h
    refine gdn h fun hg h => ?_
    exact ⟨⟨(n1,_,_),h⟩,[],mt,Nat.lt_succ_self _⟩
   ·exact ⟨[],[],⟨_,some_in h⟩,[],mt⟩
 ·replace h:=g
  refine cnd h (fun hb h => ?_) (fun hb h => ?_)
  ·exact ⟨[],[],⟨_,some_in h⟩,[],mt⟩
  ·exact ⟨[],[],⟨_,some_in h⟩,[],mt⟩
theorem field_Elem_Times_c {x27 x28 res} (h:field_Elem_Times x27 x28=some res) :
  FB er 48 [(.dv (T_field_Elem.dv x27)),(.dv (T_field_Elem.dv x28))] [] [] (.dv (T_field_Elem.dv res)) []:=by
 refine fb Tryz.func48 ?_
 unfold field_Elem_Times at h
 obtain ⟨x29,g,h⟩:=bnd h
 refine .inr ⟨[3,14],_,fj (fun x29=>([],[(3,(.var (.dv (.ints .u64 20 x29))))])) x29,0,?_,?_⟩
 ·rintro ⟨x29,rfl⟩
  obtain ⟨x38,g,h⟩:=bnd h
  refine .inr ⟨[],_,fj (fun x38=>([],[(3,(.var (.dv (.ints .u64 20 x38))))])) x38,0,?_,?_⟩
  ·rintro ⟨x38,rfl⟩
   obtain ⟨x44,g,h⟩:=bnd h
   refine .inr ⟨[],_,fj (fun x44=>([],[(4,(.var (.dv (.cons (.ints .u64 10 x44) .nil))))])) x44,0,?_,?_⟩
   ·rintro ⟨x44,rfl⟩
    obtain ⟨x49,c,h⟩:=bnd h
    refine cl [] [4] (field_Elem_carry_2_c c) ?_
    obtain rfl:=some_in h
    exact ⟨0,[],[],mt⟩
   ·replace h:=g
    refine .inl ?_
    refine ⟨[],_,fl (β:=Nat×Int×(List Int)) (fun (n4,x45,x46)=>(field_Elem_Times_l4 x38 n4 x45 x46=some x44,[(56,(.int .i64 x45))],[(4,(.var (.dv (.cons (.ints .u64 10 x46) .nil))))],n4)),[],[],⟨(FUEL,0,(List.replicate 10 (0:Int))),h⟩,mt,?_⟩
    rintro ⟨⟨_|n4,x45,x46⟩,h⟩
    ·exact no_none h
    replace h:=(field_Elem_Times_l4.eq_2 x38 x45 x46 n4).symm.trans h
    refine cnd h (fun hb h => ?_) (fun hb h => ?_)
    ·refine .inl ?_
     refine gdn h fun hg h => ?_
     refine gdn h fun hg h => ?_
     refine nml h ?_
     intro x47 h
     refine nml h ?_
     intro x48 h
     refine gdn h fun hg h => ?_
     exact ⟨⟨(n4,_,_),h⟩,[],mt,Nat.lt_succ_self _⟩
    ·exact ⟨[],[],⟨_,some_in h⟩,[],mt⟩
  ·replace h:=g
   refine .inl ?_
   refine ⟨[],_,fl (β:=Nat×Int×(List Int)) (fun (n3,x39,x40)=>(field_Elem_Times_l3 n3 x39 x40=some x38,[(37,(.int .i64 x39))],[(3,(.var (.dv (.ints .u64 20 x40))))],n3)),[],[],⟨(FUEL,0,x29),h⟩,mt,?_⟩
   rintro ⟨⟨_|n3,x39,x40⟩,h⟩
   ·exact no_none h
   replace h:=(field_Elem_Times_l3.eq_2 x39 x40 n3).symm.trans h
   refine cnd h (fun hb h => ?_) (fun hb h => ?_)
   ·refine .inl ?_
    refine gdn h fun hg h => ?_
    refine gdn h fun hg h => ?_
    refine dc ?_
    refine nml h ?_
    intro x41 h
    refine gdn h fun hg h => ?_
    refine gdn h fun hg h => ?_
    refine nml h ?_
    intro x42 h
    refine gdn h fun hg h => ?_
    refine nml h ?_
    intro x43 h
    exact ⟨⟨(n3,_,_),h⟩,[],mt,Nat.lt_succ_self _⟩
   ·exact ⟨[],[],⟨_,some_in h⟩,[],mt⟩
 ·replace h:=g
  refine .inl ?_
  refine ⟨[],_,fl (β:=Nat×Int×(List Int)) (fun (n1,x30,x31)=>(field_Elem_Times_l1 x27 x28 n1 x30 x31=some x29,[(15,(.int .i64 x30))],[(3,(.var (.dv (.ints .u64 20 x31))))],n1)),[],[],⟨(FUEL,0,(List.replicate 20 (0:Int))),h⟩,mt,?_⟩
  rintro ⟨⟨_|n1,x30,x31⟩,h⟩
  ·exact no_none h
  replace h:=(field_Elem_Times_l1.eq_2 x27 x28 x30 x31 n1).symm.trans h
  refine cnd h (fun hb h => ?_) (fun hb h => ?_)
  ·refine .inl ?_
   refine gdn h fun hg h => ?_
   obtain ⟨x32,g,h⟩:=bnd h
   refine .inr ⟨[6,7,20],_,fj (fun x32=>([],[(3,(.var (.dv (.ints .u64 20 x32))))])) x32,0,?_,?_⟩
   ·rintro ⟨x32,rfl⟩
    exact ⟨⟨(n1,_,_),h⟩,[],mt,Nat.lt_succ_self _⟩
   ·replace h:=g
    refine .inl ?_
    refine ⟨[],_,fl (β:=Nat×Int×(List Int)) (fun (n2,x33,x34)=>(field_Elem_Times_l2 x27 x28 x30 n2 x33 x34=some x32,[(21,(.int .i64 x33))],[(3,(.var (.dv (.ints .u64 20 x34))))],n2)),[],[],⟨(FUEL,0,x31),h⟩,mt,?_⟩
    rintro ⟨⟨_|n2,x33,x34⟩,h⟩
    ·exact no_none h
    replace h:=(field_Elem_Times_l2.eq_2 x27 x28 x30 x33 x34 n2).symm.trans h
    refine cnd h (fun hb h => ?_) (fun hb h => ?_)
    ·refine .inl ?_
     refine gdn h fun hg h => ?_
     refine gdn h fun hg h => ?_
     refine nml h ?_
     intro x35 h
     refine nml h ?_
     intro x36 h
     refine gdn h fun hg h => ?_
     refine nml h ?_
     intro x37 h
     exact ⟨⟨(n2,_,_),h⟩,[],mt,Nat.lt_succ_self _⟩
    ·exact ⟨[],[],⟨_,some_in h⟩,[],mt⟩
  ·exact ⟨[],[],⟨_,some_in h⟩,[],mt⟩
theorem points_at_c {x17 x18 res} (h:points_at x17 x18=some res) :
  FB er 39 [(.dv (T_field_Elem.dv x17)),(.dv (T_field_Elem.dv x18))] [] [] (.dv (T_points_Point.dv res)) []:=by
 refine fb Tryz.func39 ?_
 unfold points_at at h
 obtain ⟨x19,c,h⟩:=bnd h
 refine cl [] [] (field_Small_c c) ?_
 obtain ⟨x20,c,h⟩:=bnd h
 refine cl [] [] (field_Elem_Times_c c) ?_
 obtain rfl:=some_in h
 exact ⟨0,[],[],mt⟩
theorem points_Base_c {res} (h:points_Base=some res) :
  FB er 13 [] [] [] (.dv (T_points_Point.dv res)) []:=by
 refine fb Tryz.func13 ?_
 unfold points_Base at h
 obtain ⟨x13,c,h⟩:=bnd h
 refine cl [] [] (field_BaseX_c c) ?_
 obtain ⟨x14,c,h⟩:=bnd h
 refine cl [] [] (field_BaseY_c c) ?_
 obtain ⟨x15,c,h⟩:=bnd h
 refine cl [] [] (points_at_c c) ?_
 obtain rfl:=some_in h
 exact ⟨0,[],[],mt⟩
theorem field_Curve_c {res} (h:field_Curve=some res) :
  FB er 64 [] [] [] (.dv (T_field_Elem.dv res)) []:=by
 refine fb Tryz.func64 ?_
 unfold field_Curve at h
 refine nml h ?_
 intro x19 h
 obtain rfl:=some_in h
 exact ⟨0,[],[],mt⟩
theorem field_Elem_Add_c {x21 x22 res} (h:field_Elem_Add x21 x22=some res) :
  FB er 65 [(.dv (T_field_Elem.dv x21)),(.dv (T_field_Elem.dv x22))] [] [] (.dv (T_field_Elem.dv res)) []:=by
 refine fb Tryz.func65 ?_
 unfold field_Elem_Add at h
 obtain ⟨x23,g,h⟩:=bnd h
 refine .inr ⟨[3],_,fj (fun x23=>([],[(0,(.var (.dv (.cons (.ints .u64 10 x23) .nil))))])) x23,0,?_,?_⟩
 ·rintro ⟨x23,rfl⟩
  obtain ⟨x27,c,h⟩:=bnd h
  refine cl [] [0] (field_Elem_carry_2_c c) ?_
  obtain rfl:=some_in h
  exact ⟨0,[],[],mt⟩
 ·replace h:=g
  refine .inl ?_
  refine ⟨[],_,fl (β:=Nat×Int×(List Int)) (fun (n1,x24,x25)=>(field_Elem_Add_l1 x22 n1 x24 x25=some x23,[(6,(.int .i64 x24))],[(0,(.var (.dv (.cons (.ints .u64 10 x25) .nil))))],n1)),[],[],⟨(FUEL,0,x21.fn),h⟩,mt,?_⟩
  rintro ⟨⟨_|n1,x24,x25⟩,h⟩
  ·exact no_none h
  replace h:=(field_Elem_Add_l1.eq_2 x22 x24 x25 n1).symm.trans h
  refine cnd h (fun hb h => ?_) (fun hb h => ?_)
  ·refine .inl ?_
   refine gdn h fun hg h => ?_
   refine gdn h fun hg h => ?_
   refine nml h ?_
   intro x26 h
   refine gdn h fun hg h => ?_
   exact ⟨⟨(n1,_,_),h⟩,[],mt,Nat.lt_succ_self _⟩
  ·exact ⟨[],[],⟨_,some_in h⟩,[],mt⟩
theorem points_twice_c {res} (h:points_twice=some res) :
  FB er 42 [] [] [] (.dv (T_field_Elem.dv res)) []:=by
 refine fb Tryz.func42 ?_
 unfold points_twice at h
 obtain ⟨x19,c,h⟩:=bnd h
 refine cl [] [] (field_Curve_c c) ?_
 obtain ⟨x20,c,h⟩:=bnd h
 refine cl [] [] (field_Elem_Add_c c) ?_
 obtain rfl:=some_in h
 exact ⟨0,[],[],mt⟩
theorem points_Zero_c {res} (h:points_Zero=some res) :
  FB er 43 [] [] [] (.dv (T_points_Point.dv res)) []:=by
 refine fb Tryz.func43 ?_
 unfold points_Zero at h
 obtain ⟨x22,c,h⟩:=bnd h
 refine cl [] [] (field_Small_c c) ?_
 obtain ⟨x23,c,h⟩:=bnd h
 refine cl [] [] (field_Small_c c) ?_
 obtain ⟨x24,c,h⟩:=bnd h
 refine cl [] [] (points_at_c c) ?_
 obtain rfl:=some_in h
 exact ⟨0,[],[],mt⟩
theorem field_Elem_Square_c {x27 res} (h:field_Elem_Square x27=some res) :
  FB er 61 [(.dv (T_field_Elem.dv x27))] [] [] (.dv (T_field_Elem.dv res)) []:=by
 refine fb Tryz.func61 ?_
 unfold field_Elem_Square at h
 obtain ⟨x28,c,h⟩:=bnd h
 refine cl [] [] (field_Elem_Times_c c) ?_
 obtain rfl:=some_in h
 exact ⟨0,[],[],mt⟩
theorem points_Point_double_c {x26 res} (h:points_Point_double x26=some res) :
  FB er 44 [(.dv (T_points_Point.dv x26))] [] [] (.dv (T_points_Point.dv res)) []:=by
 refine fb Tryz.func44 ?_
 unfold points_Point_double at h
 obtain ⟨x27,c,h⟩:=bnd h
 refine cl [] [] (field_Elem_Square_c c) ?_
 obtain ⟨x28,c,h⟩:=bnd h
 refine cl [] [] (field_Elem_Square_c c) ?_
 obtain ⟨x29,c,h⟩:=bnd h
 refine cl [] [] (field_Elem_Square_c c) ?_
 obtain ⟨x30,c,h⟩:=bnd h
 refine cl [] [] (field_Elem_Add_c c) ?_
 obtain ⟨x31,c,h⟩:=bnd h
 refine cl [] [] (field_Elem_Add_c c) ?_
 obtain ⟨x32,c,h⟩:=bnd h
 refine cl [] [] (field_Elem_Add_c c) ?_
 obtain ⟨x33,c,h⟩:=bnd h
 refine cl [] [] (field_Elem_Square_c c) ?_
 obtain ⟨x34,c,h⟩:=bnd h
 refine cl [] [] (field_Elem_Sub_c c) ?_
 obtain ⟨x35,c,h⟩:=bnd h
 refine cl [] [] (field_Elem_Sub_c c) ?_
 obtain ⟨x36,c,h⟩:=bnd h
 refine cl [] [] (field_Elem_Add_c c) ?_
 obtain ⟨x37,c,h⟩:=bnd h
 refine cl [] [] (field_Elem_Times_c c) ?_
 obtain ⟨x38,c,h⟩:=bnd h
 refine cl [] [] (field_Elem_Times_c c) ?_
 obtain ⟨x39,c,h⟩:=bnd h
 refine cl [] [] (field_Elem_Times_c c) ?_
 obtain ⟨x40,c,h⟩:=bnd h
 refine cl [] [] (field_Elem_Times_c c) ?_
 obtain rfl:=some_in h
 exact ⟨0,[],[],mt⟩
theorem scalar_Bit_c {x42 x43 res} (h:scalar_Bit x42 x43=some res) :
  FB er 45 [(.dv (.ints .u8 32 x42)),(.int .i64 x43)] [] [] (.bl res) []:=by
 refine fb Tryz.func45 ?_
 unfold scalar_Bit at h
 refine cnd h (fun hb h => ?_) (fun hb h => ?_)
 ·refine cnd h (fun hb h => ?_) (fun hb h => ?_)
  ·refine dc ?_
   refine gdn h fun hg h => ?_
   refine nml h ?_
   intro x44 h
   refine dc ?_
   refine gdn h fun hg h => ?_
   refine nml h ?_
   intro x45 h
   obtain rfl:=some_in h
   exact ⟨0,[],[],mt⟩
  ·obtain rfl:=some_in h
   exact ⟨0,[],[],mt⟩
 ·obtain rfl:=some_in h
  exact ⟨0,[],[],mt⟩
theorem points_Point_plus_c {x47 x48 x49 res} (h:points_Point_plus x47 x48 x49=some res) :
  FB er 46 [(.dv (T_points_Point.dv x47)),(.dv (T_points_Point.dv x48)),(.dv (T_field_Elem.dv x49))] [] [] (.dv (T_points_Point.dv res)) []:=by
 refine fb Tryz.func46 ?_
 unfold points_Point_plus at h
 obtain ⟨x50,c,h⟩:=bnd h
 refine cl [] [] (field_Elem_Sub_c c) ?_
 obtain ⟨x51,c,h⟩:=bnd h
 refine cl [] [] (field_Elem_Sub_c c) ?_
 obtain ⟨x52,c,h⟩:=bnd h
 refine cl [] [] (field_Elem_Times_c c) ?_
 obtain ⟨x53,c,h⟩:=bnd h
 refine cl [] [] (field_Elem_Add_c c) ?_
 obtain ⟨x54,c,h⟩:=bnd h
 refine cl [] [] (field_Elem_Add_c c) ?_
 obtain ⟨x55,c,h⟩:=bnd h
 refine cl [] [] (field_Elem_Times_c c) ?_
 obtain ⟨x56,c,h⟩:=bnd h
 refine cl [] [] (field_Elem_Times_c c) ?_
 obtain ⟨x57,c,h⟩:=bnd h
 refine cl [] [] (field_Elem_Times_c c) ?_
 obtain ⟨x58,c,h⟩:=bnd h
 refine cl [] [] (field_Elem_Times_c c) ?_
 obtain ⟨x59,c,h⟩:=bnd h
 refine cl [] [] (field_Elem_Add_c c) ?_
 obtain ⟨x60,c,h⟩:=bnd h
 refine cl [] [] (field_Elem_Sub_c c) ?_
 obtain ⟨x61,c,h⟩:=bnd h
 refine cl [] [] (field_Elem_Sub_c c) ?_
 obtain ⟨x62,c,h⟩:=bnd h
 refine cl [] [] (field_Elem_Add_c c) ?_
 obtain ⟨x63,c,h⟩:=bnd h
 refine cl [] [] (field_Elem_Add_c c) ?_
 obtain ⟨x64,c,h⟩:=bnd h
 refine cl [] [] (field_Elem_Times_c c) ?_
 obtain ⟨x65,c,h⟩:=bnd h
 refine cl [] [] (field_Elem_Times_c c) ?_
 obtain ⟨x66,c,h⟩:=bnd h
 refine cl [] [] (field_Elem_Times_c c) ?_
 obtain ⟨x67,c,h⟩:=bnd h
 refine cl [] [] (field_Elem_Times_c c) ?_
 obtain rfl:=some_in h
 exact ⟨0,[],[],mt⟩
theorem points_Point_Times_c {x17 x18 res} (h:points_Point_Times x17 x18=some res) :
  FB er 14 [(.dv (T_points_Point.dv x17)),(.dv (.ints .u8 32 x18))] [] [] (.dv (T_points_Point.dv res)) []:=by
 refine fb Tryz.func14 ?_
 unfold points_Point_Times at h
 obtain ⟨x19,c,h⟩:=bnd h
 refine cl [] [] (points_twice_c c) ?_
 obtain ⟨x20,c,h⟩:=bnd h
 refine cl [] [] (points_Zero_c c) ?_
 refine And.intro (fun _ => ?_) (fun h0=>Bool.noConfusion h0)
 obtain ⟨x21,c,h⟩:=bnd h
 refine cl [] [] (points_Point_double_c c) ?_
 obtain ⟨x22,c,h⟩:=bnd h
 refine cl [] [] (scalar_Bit_c c) ?_
 obtain ⟨x23,g,h⟩:=bnd h
 refine .inr ⟨[],_,fj (fun x23=>([],[(4,(.var (.dv (T_points_Point.dv x23))))])) x23,0,?_,?_⟩
 ·rintro ⟨x23,rfl⟩
  refine .inr ⟨[],_,fl (β:=Nat×Int×T_points_Point) (fun (n1,x25,x26)=>(points_Point_Times_l1 x17 x18 x19 n1 x25 x26=some res,[(5,(.ptr 3 [] ly42)),(6,(.ptr 4 [] ly44)),(7,(.int .i64 x25))],[(4,(.var (.dv (T_points_Point.dv x26))))],n1)),[],[],⟨(FUEL,254,x23),h⟩,mt,?_⟩
  rintro ⟨⟨_|n1,x25,x26⟩,h⟩
  ·exact no_none h
  replace h:=(points_Point_Times_l1.eq_2 x17 x18 x19 x25 x26 n1).symm.trans h
  refine cnd h (fun hb h => ?_) (fun hb h => ?_)
  ·obtain ⟨x27,c,h⟩:=bnd h
   refine cl [] [] (points_Point_double_c c) ?_
   obtain ⟨x28,c,h⟩:=bnd h
   refine cl [] [] (scalar_Bit_c c) ?_
   obtain ⟨x29,g,h⟩:=bnd h
   refine .inr ⟨[],_,fj (fun x29=>([],[(4,(.var (.dv (T_points_Point.dv x29))))])) x29,0,?_,?_⟩
   ·rintro ⟨x29,rfl⟩
    exact ⟨⟨(n1,_,_),h⟩,[],mt,Nat.lt_succ_self _⟩
   ·replace h:=g
    refine cnd h (fun hb h => ?_) (fun hb h => ?_)
    ·obtain ⟨x30,c,h⟩:=bnd h
     refine cl [] [] (points_Point_plus_c c) ?_
     exact ⟨[],[],⟨_,some_in h⟩,[],mt⟩
    ·exact ⟨[],[],⟨_,some_in h⟩,[],mt⟩
  ·obtain rfl:=some_in h
   exact ⟨0,[],[],mt⟩
 ·replace h:=g
  refine cnd h (fun hb h => ?_) (fun hb h => ?_)
  ·obtain ⟨x24,c,h⟩:=bnd h
   refine cl [] [] (points_Point_plus_c c) ?_
   exact ⟨[],[],⟨_,some_in h⟩,[],mt⟩
  ·exact ⟨[],[],⟨_,some_in h⟩,[],mt⟩
theorem field_Elem_squares_c {x36 x37 res} (h:field_Elem_squares x36 x37=some res) :
  FB er 86 [(.dv (T_field_Elem.dv x36)),(.int .i64 x37)] [] [] (.dv (T_field_Elem.dv res)) []:=by
 refine fb Tryz.func86 ?_
 unfold field_Elem_squares at h
 refine cnd h (fun hb h => ?_) (fun hb h => ?_)
 ·obtain ⟨x38,c,h⟩:=bnd h
  refine cl [] [] (field_Elem_Square_c c) ?_
  refine .inr ⟨[],_,fl (β:=Nat×Int×T_field_Elem) (fun (n1,x39,x40)=>(field_Elem_squares_l1 n1 x39 x40=some res,[(1,(.int .i64 x39))],[(0,(.var (.dv (T_field_Elem.dv x40))))],n1)),[],[],⟨(FUEL,(IntKind.wrap .i64 (x37-1)),x38),h⟩,mt,?_⟩
  rintro ⟨⟨_|n1,x39,x40⟩,h⟩
  ·exact no_none h
  replace h:=(field_Elem_squares_l1.eq_2 x39 x40 n1).symm.trans h
  refine cnd h (fun hb h => ?_) (fun hb h => ?_)
  ·obtain ⟨x41,c,h⟩:=bnd h
   refine cl [] [] (field_Elem_Square_c c) ?_
   exact ⟨⟨(n1,_,_),h⟩,[],mt,Nat.lt_succ_self _⟩
  ·obtain rfl:=some_in h
   exact ⟨0,[],[],mt⟩
 ·obtain rfl:=some_in h
  exact ⟨0,[],[],mt⟩
theorem field_Elem_power_c {x34 res} (h:field_Elem_power x34=some res) :
  FB er 85 [(.dv (T_field_Elem.dv x34))] [] [] (.tup [(.dv (T_field_Elem.dv res.1)),(.dv (T_field_Elem.dv res.2))]) []:=by
 refine fb Tryz.func85 ?_
 unfold field_Elem_power at h
 obtain ⟨x35,c,h⟩:=bnd h
 refine cl [] [] (field_Elem_Square_c c) ?_
 obtain ⟨x36,c,h⟩:=bnd h
 refine cl [] [] (field_Elem_squares_c c) ?_
 obtain ⟨x37,c,h⟩:=bnd h
 refine cl [] [] (field_Elem_Times_c c) ?_
 obtain ⟨x38,c,h⟩:=bnd h
 refine cl [] [] (field_Elem_Times_c c) ?_
 obtain ⟨x39,c,h⟩:=bnd h
 refine cl [] [] (field_Elem_Square_c c) ?_
 obtain ⟨x40,c,h⟩:=bnd h
 refine cl [] [] (field_Elem_Times_c c) ?_
 obtain ⟨x41,c,h⟩:=bnd h
 refine cl [] [] (field_Elem_squares_c c) ?_
 obtain ⟨x42,c,h⟩:=bnd h
 refine cl [] [] (field_Elem_Times_c c) ?_
 obtain ⟨x43,c,h⟩:=bnd h
 refine cl [] [] (field_Elem_squares_c c) ?_
 obtain ⟨x44,c,h⟩:=bnd h
 refine cl [] [] (field_Elem_Times_c c) ?_
 obtain ⟨x45,c,h⟩:=bnd h
 refine cl [] [] (field_Elem_squares_c c) ?_
 obtain ⟨x46,c,h⟩:=bnd h
 refine cl [] [] (field_Elem_Times_c c) ?_
 obtain ⟨x47,c,h⟩:=bnd h
 refine cl [] [] (field_Elem_squares_c c) ?_
 obtain ⟨x48,c,h⟩:=bnd h
 refine cl [] [] (field_Elem_Times_c c) ?_
 obtain ⟨x49,c,h⟩:=bnd h
 refine cl [] [] (field_Elem_squares_c c) ?_
 obtain ⟨x50,c,h⟩:=bnd h
 refine cl [] [] (field_Elem_Times_c c) ?_
 obtain ⟨x51,c,h⟩:=bnd h
 refine cl [] [] (field_Elem_squares_c c) ?_
 obtain ⟨x52,c,h⟩:=bnd h
 refine cl [] [] (field_Elem_Times_c c) ?_
 obtain ⟨x53,c,h⟩:=bnd h
 refine cl [] [] (field_Elem_squares_c c) ?_
 obtain ⟨x54,c,h⟩:=bnd h
 refine cl [] [] (field_Elem_Times_c c) ?_
 obtain rfl:=some_in h
 exact ⟨0,[],[],mt⟩
theorem field_Elem_Invert_c {x33 res} (h:field_Elem_Invert x33=some res) :
  FB er 47 [(.dv (T_field_Elem.dv x33))] [] [] (.dv (T_field_Elem.dv res)) []:=by
 refine fb Tryz.func47 ?_
 unfold field_Elem_Invert at h
 obtain ⟨⟨x34,x35⟩,c,h⟩:=bnd h
 refine cl [] [] (field_Elem_power_c c) ?_
 obtain ⟨x36,c,h⟩:=bnd h
 refine cl [] [] (field_Elem_squares_c c) ?_
 obtain ⟨x37,c,h⟩:=bnd h
 refine cl [] [] (field_Elem_Times_c c) ?_
 obtain rfl:=some_in h
 exact ⟨0,[],[],mt⟩
theorem field_Elem_fold_2_c {x45 res} (h:field_Elem_fold_2 x45=some res) :
  FB er 111 [(.ptr 0 [] ly42)] [(.var (.dv (T_field_Elem.dv x45)))] [] (.tup []) [(.var (.dv (T_field_Elem.dv res)))]:=by
 refine fb Tryz.func111 ?_
 unfold field_Elem_fold_2 at h
 refine dc ?_
 refine dc ?_
 refine dc ?_
 refine dc ?_
 refine nml h ?_
 intro x46 h
 refine dc ?_
 refine nml h ?_
 intro x47 h
 refine dc ?_
 refine nml h ?_
 intro x48 h
 obtain ⟨x49,g,h⟩:=bnd h
 refine .inr ⟨[],_,fj (fun x49=>([],[(0,(.var (.dv (.cons (.ints .u64 10 x49) .nil))))])) x49,0,?_,?_⟩
 ·rintro ⟨x49,rfl⟩
  obtain rfl:=some_in h
  exact ⟨0,[],[],mt⟩
 ·replace h:=g
  refine .inl ?_
  refine ⟨[],_,fl (β:=Nat×Int×(List Int)) (fun (n1,x50,x51)=>(field_Elem_fold_2_l1 n1 x50 x51=some x49,[(30,(.int .i64 x50))],[(0,(.var (.dv (.cons (.ints .u64 10 x51) .nil))))],n1)),[],[],⟨(FUEL,0,x48),h⟩,mt,?_⟩
  rintro ⟨⟨_|n1,x50,x51⟩,h⟩
  ·exact no_none h
  replace h:=(field_Elem_fold_2_l1.eq_2 x50 x51 n1).symm.trans h
  refine cnd h (fun hb h => ?_) (fun hb h => ?_)
  ·refine .inl ?_
   refine gdn h fun hg h => ?_
   refine gdn h fun hg h => ?_
   refine dc ?_
   refine nml h ?_
   intro x52 h
   refine gdn h fun hg h => ?_
   refine gdn h fun hg h => ?_
   refine nml h ?_
   intro x53 h
   refine gdn h fun hg h => ?_
   refine nml h ?_
   intro x54 h
   exact ⟨⟨(n1,_,_),h⟩,[],mt,Nat.lt_succ_self _⟩
  ·exact ⟨[],[],⟨_,some_in h⟩,[],mt⟩
theorem words_Pick_c {x63 x64 x65 res} (h:words_Pick x63 x64 x65=some res) :
  FB er 91 [(.bl x63),(.int .u64 x64),(.int .u64 x65)] [] [] (.int .u64 res) []:=by
 refine fb Tryz.func91 ?_
 unfold words_Pick at h
 obtain ⟨x66,g,h⟩:=bnd h
 refine .inr ⟨[],_,fj (fun x66=>([(7,(.int .u64 x66))],[])) x66,0,?_,?_⟩
 ·rintro ⟨x66,rfl⟩
  refine nml h ?_
  intro x67 h
  obtain rfl:=some_in h
  exact ⟨0,[],[],mt⟩
 ·replace h:=g
  refine cnd h (fun hb h => ?_) (fun hb h => ?_)
  ·exact ⟨[],[],⟨_,some_in h⟩,[],mt⟩
  ·exact ⟨[],[],⟨_,some_in h⟩,[],mt⟩
theorem field_Pick_c {x60 x61 x62 res} (h:field_Pick x60 x61 x62=some res) :
  FB er 112 [(.bl x60),(.dv (T_field_Elem.dv x61)),(.dv (T_field_Elem.dv x62))] [] [] (.dv (T_field_Elem.dv res)) []:=by
 refine fb Tryz.func112 ?_
 unfold field_Pick at h
 obtain ⟨x63,g,h⟩:=bnd h
 refine .inr ⟨[0,5],_,fj (fun x63=>([],[(0,(.var (.dv (.cons (.ints .u64 10 x63) .nil))))])) x63,0,?_,?_⟩
 ·rintro ⟨x63,rfl⟩
  obtain rfl:=some_in h
  exact ⟨0,[],[],mt⟩
 ·replace h:=g
  refine .inl ?_
  refine ⟨[],_,fl (β:=Nat×Int×(List Int)) (fun (n1,x64,x65)=>(field_Pick_l1 x60 x62 n1 x64 x65=some x63,[(8,(.int .i64 x64))],[(0,(.var (.dv (.cons (.ints .u64 10 x65) .nil))))],n1)),[],[],⟨(FUEL,0,x61.fn),h⟩,mt,?_⟩
  rintro ⟨⟨_|n1,x64,x65⟩,h⟩
  ·exact no_none h
  replace h:=(field_Pick_l1.eq_2 x60 x62 x64 x65 n1).symm.trans h
  refine cnd h (fun hb h => ?_) (fun hb h => ?_)
  ·refine .inl ?_
   refine gdn h fun hg h => ?_
   refine gdn h fun hg h => ?_
   obtain ⟨x66,c,h⟩:=bnd h
   refine cl [] [] (words_Pick_c c) ?_
   refine gdn h fun hg h => ?_
   exact ⟨⟨(n1,_,_),h⟩,[],mt,Nat.lt_succ_self _⟩
  ·exact ⟨[],[],⟨_,some_in h⟩,[],mt⟩
theorem field_Elem_least_c {x42 res} (h:field_Elem_least x42=some res) :
  FB er 88 [(.dv (T_field_Elem.dv x42))] [] [] (.dv (T_field_Elem.dv res)) []:=by
 refine fb Tryz.func88 ?_
 unfold field_Elem_least at h
 obtain ⟨x43,c,h⟩:=bnd h
 refine cl [] [0] (field_Elem_carry_2_c c) ?_
 obtain ⟨x44,c,h⟩:=bnd h
 refine cl [] [0] (field_Elem_fold_2_c c) ?_
 obtain ⟨x45,c,h⟩:=bnd h
 refine cl [] [0] (field_Elem_fold_2_c c) ?_
 refine dc ?_
 refine dc ?_
 refine nml h ?_
 intro x46 h
 obtain ⟨x47,g,h⟩:=bnd h
 refine .inr ⟨[6,7,8],_,fj (fun x47=>([],[(2,(.var (.dv (.cons (.ints .u64 10 x47) .nil))))])) x47,0,?_,?_⟩
 ·rintro ⟨x47,rfl⟩
  refine dc ?_
  refine dc ?_
  refine dc ?_
  refine dc ?_
  refine nml h ?_
  intro x53 h
  obtain ⟨x54,c,h⟩:=bnd h
  refine cl [] [] (field_Pick_c c) ?_
  obtain rfl:=some_in h
  exact ⟨0,[],[],mt⟩
 ·replace h:=g
  refine .inl ?_
  refine ⟨[6,7,8],_,fl (β:=Nat×Int×(List Int)) (fun (n1,x48,x49)=>(field_Elem_least_l1 n1 x48 x49=some x47,[(16,(.int .i64 x48))],[(2,(.var (.dv (.cons (.ints .u64 10 x49) .nil))))],n1)),[],[],⟨(FUEL,0,x46),h⟩,mt,?_⟩
  rintro ⟨⟨_|n1,x48,x49⟩,h⟩
  ·exact no_none h
  replace h:=(field_Elem_least_l1.eq_2 x48 x49 n1).symm.trans h
  refine cnd h (fun hb h => ?_) (fun hb h => ?_)
  ·refine .inl ?_
   refine gdn h fun hg h => ?_
   refine gdn h fun hg h => ?_
   refine dc ?_
   refine nml h ?_
   intro x50 h
   refine gdn h fun hg h => ?_
   refine gdn h fun hg h => ?_
   refine nml h ?_
   intro x51 h
   refine gdn h fun hg h => ?_
   refine nml h ?_
   intro x52 h
   exact ⟨⟨(n1,_,_),h⟩,[],mt,Nat.lt_succ_self _⟩
  ·exact ⟨[],[],⟨_,some_in h⟩,[],mt⟩
theorem field_Elem_Bytes_c {x41 res} (h:field_Elem_Bytes x41=some res) :
  FB er 49 [(.dv (T_field_Elem.dv x41))] [] [] (.dv (.ints .u8 32 res)) []:=by
 refine fb Tryz.func49 ?_
 unfold field_Elem_Bytes at h
 obtain ⟨x42,c,h⟩:=bnd h
 refine cl [] [] (field_Elem_least_c c) ?_
 obtain ⟨x43,g,h⟩:=bnd h
 refine .inr ⟨[],_,fj (fun x43=>([],[(3,(.var (.dv (.ints .u8 32 x43))))])) x43,0,?_,?_⟩
 ·rintro ⟨x43,rfl⟩
  obtain rfl:=some_in h
  exact ⟨0,[],[],mt⟩
 ·replace h:=g
  refine .inl ?_
  refine ⟨[],_,fl (β:=Nat×Int×(List Int)) (fun (n1,x44,x45)=>(field_Elem_Bytes_l1 x42 n1 x44 x45=some x43,[(8,(.int .i64 x44))],[(3,(.var (.dv (.ints .u8 32 x45))))],n1)),[],[],⟨(FUEL,0,(List.replicate 32 (0:Int))),h⟩,mt,?_⟩
  rintro ⟨⟨_|n1,x44,x45⟩,h⟩
  ·exact no_none h
  replace h:=(field_Elem_Bytes_l1.eq_2 x42 x44 x45 n1).symm.trans h
  refine cnd h (fun hb h => ?_) (fun hb h => ?_)
  ·refine .inl ?_
   refine dc ?_
   refine gdn h fun hg h => ?_
   refine nml h ?_
   intro x46 h
   refine dc ?_
   refine gdn h fun hg h => ?_
   refine nml h ?_
   intro x47 h
   refine dc ?_
   refine gdn h fun hg h => ?_
   refine nml h ?_
   intro x48 h
   refine dc ?_
   refine gdn h fun hg h => ?_
   refine nml h ?_
   intro x49 h
   refine gdn h fun hg h => ?_
   refine nml h ?_
   intro x50 h
   exact ⟨⟨(n1,_,_),h⟩,[],mt,Nat.lt_succ_self _⟩
  ·exact ⟨[],[],⟨_,some_in h⟩,[],mt⟩
theorem field_Elem_Odd_c {x52 res} (h:field_Elem_Odd x52=some res) :
  FB er 50 [(.dv (T_field_Elem.dv x52))] [] [] (.bl res) []:=by
 refine fb Tryz.func50 ?_
 unfold field_Elem_Odd at h
 obtain ⟨x53,c,h⟩:=bnd h
 refine cl [] [] (field_Elem_least_c c) ?_
 refine dc ?_
 obtain rfl:=some_in h
 exact ⟨0,[],[],mt⟩
theorem points_Point_Bytes_c {x32 res} (h:points_Point_Bytes x32=some res) :
  FB er 15 [(.dv (T_points_Point.dv x32))] [] [] (.dv (.ints .u8 32 res)) []:=by
 refine fb Tryz.func15 ?_
 unfold points_Point_Bytes at h
 obtain ⟨x33,c,h⟩:=bnd h
 refine cl [] [] (field_Elem_Invert_c c) ?_
 obtain ⟨x34,c,h⟩:=bnd h
 refine cl [] [] (field_Elem_Times_c c) ?_
 obtain ⟨x35,c,h⟩:=bnd h
 refine cl [] [] (field_Elem_Times_c c) ?_
 obtain ⟨x36,c,h⟩:=bnd h
 refine cl [] [] (field_Elem_Bytes_c c) ?_
 obtain ⟨x37,c,h⟩:=bnd h
 refine cl [] [] (field_Elem_Odd_c c) ?_
 obtain ⟨x38,g,h⟩:=bnd h
 refine .inr ⟨[],_,fj (fun x38=>([],[(5,(.var (.dv (.ints .u8 32 x38))))])) x38,0,?_,?_⟩
 ·rintro ⟨x38,rfl⟩
  obtain rfl:=some_in h
  exact ⟨0,[],[],mt⟩
 ·replace h:=g
  refine cnd h (fun hb h => ?_) (fun hb h => ?_)
  ·refine dc ?_
   refine dc ?_
   exact ⟨[],[],⟨_,some_in h⟩,[],mt⟩
  ·exact ⟨[],[],⟨_,some_in h⟩,[],mt⟩
theorem slices_Concat_byte_byte_2_c {x40 x41 res} (h:slices_Concat_byte_byte_2 x40 x41=some res) :
  FB er 16 [(.vs 0 0 1)] [(.var (.cons (.sl 1 [] ly5 0 x40) (.dv .nil))),(.frzI .u8 x41)] [3] (.sl 3 [] ly5 0 (List.length res)) [(.var (.cons (.sl 1 [] ly5 0 x40) (.dv .nil))),(.frzI .u8 x41),(.rowI .u8 res)]:=by
 refine fb Tryz.func16 ?_
 unfold slices_Concat_byte_byte_2 at h
 obtain ⟨⟨⟩,g,h⟩:=bnd h
 refine .inr ⟨[10],_,fj (fun ()=>([(3,(.int .i64 (IntKind.wrap .i64 (0+(x40:Int)))))],[])) (),0,?_,?_⟩
 ·rintro ⟨_,rfl⟩
  obtain ⟨⟨x42,x43⟩,c,h⟩:=bnd h
  refine cl [] [2] (slices_Grow_byte_byte_2_c c) ?_
  refine .inl ?_
  obtain ⟨⟨⟩,g,h⟩:=bnd h
  refine .inr ⟨[24,26],_,fj (fun ()=>([(6,(.sl 3 [] ly5 0 (List.length ((List.take x42 x43)++(List.take x40 x41)))))],[(2,.dead),(3,(.rowI .u8 ((List.take x42 x43)++(List.take x40 x41))))])) (),1,?_,?_⟩
  ·rintro ⟨_,rfl⟩
   obtain rfl:=some_in h
   exact ⟨0,[],[],mt⟩
  ·replace h:=g
   refine .inr ⟨30,?_⟩
   refine And.intro (fun _ => ?_) (fun h0=>Bool.noConfusion h0)
   refine .inl ?_
   refine dc ?_
   obtain ⟨hg,h⟩:=gd h
   refine And.intro (le_of_ln2 (ln_0 _ _) hg) ?_
   obtain ⟨hg2,h⟩:=gd h
   refine ⟨((List.take x42 x43)++(List.take x40 x41)),app_cut (cut_0 _ _) (cut_0 _ _),0,(List.length ((List.take x42 x43)++(List.take x40 x41))),⟨rfl,cut_ln hg2 (ln_0 _ _)⟩,?_⟩
   refine .inl ?_
   refine And.intro (fun h0=>Bool.noConfusion h0) (fun _ => ?_)
   exact ⟨[],[],⟨_,some_in h⟩,[],mt⟩
 ·replace h:=g
  refine .inr ⟨30,?_⟩
  refine And.intro (fun _ => ?_) (fun h0=>Bool.noConfusion h0)
  refine .inl ?_
  refine dc ?_
  refine .inl ?_
  refine cnd h (fun hb h => ?_) (fun hb h => ?_)
  ·exact no_none h
  ·refine And.intro (fun h0=>Bool.noConfusion h0) (fun _ => ?_)
   exact ⟨[],[],⟨_,some_in h⟩,[],mt⟩
theorem shawide_padded_2_c {x56 x57 x58 x59 x60 res} (h:shawide_padded_2 x56 x57 x58 x59 x60=some res) :
  FB er 83 [(.vs 0 0 2)] [(.var (.cons (.sl 1 [] ly5 x56 x57) (.cons (.sl 2 [] ly5 0 x58) (.dv .nil)))),(.frzI .u8 x59),(.rowI .u8 x60)] [3] (.fn 106 [(.ptr 3 [] ly36)]) [(.var (.cons (.sl 1 [] ly5 x56 x57) (.cons (.sl 2 [] ly5 0 x58) (.dv .nil)))),(.frzI .u8 x59),(.rowI .u8 x60),(.var (.vs 0 0 2))]:=by
 refine fb Tryz.func83 ?_
 unfold shawide_padded_2 at h
 obtain rfl:=some_in h
 exact ⟨0,[],[],mt⟩
theorem slices_Concat_byte_byte_3_c {x61 x62 x63 x64 x65 res} (h:slices_Concat_byte_byte_3 x61 x62 x63 x64 x65=some res) :
  FB er 16 [(.vs 0 0 2)] [(.var (.cons (.sl 1 [] ly5 x61 x62) (.cons (.sl 2 [] ly5 0 x63) (.dv .nil)))),(.frzI .u8 x64),(.rowI .u8 x65)] [4] (.sl 4 [] ly5 0 (List.length res)) [(.var (.cons (.sl 1 [] ly5 x61 x62) (.cons (.sl 2 [] ly5 0 x63) (.dv .nil)))),(.frzI .u8 x64),(.rowI .u8 x65),(.rowI .u8 res)]:=by
 refine fb Tryz.func16 ?_
 unfold slices_Concat_byte_byte_3 at h
 obtain ⟨x66,g,h⟩:=bnd h
 refine .inr ⟨[10],_,fj (fun x66=>([(3,(.int .i64 x66))],[])) x66,0,?_,?_⟩
 ·rintro ⟨x66,rfl⟩
  obtain ⟨⟨x68,x69⟩,c,h⟩:=bnd h
  refine cl [] [3] (slices_Grow_byte_byte_2_c c) ?_
  refine .inl ?_
  obtain ⟨x70,g,h⟩:=bnd h
  refine .inr ⟨[24,26],_,fj (fun x70=>([(6,(.sl 4 [] ly5 0 (List.length x70)))],[(3,.dead),(4,(.rowI .u8 x70))])) x70,1,?_,?_⟩
  ·rintro ⟨x70,rfl⟩
   obtain rfl:=some_in h
   exact ⟨0,[],[],mt⟩
  ·replace h:=g
   refine .inr ⟨30,?_⟩
   refine And.intro (fun _ => ?_) (fun h0=>Bool.noConfusion h0)
   refine .inl ?_
   refine dc ?_
   obtain ⟨hg,h⟩:=gd h
   refine And.intro (hg) ?_
   obtain ⟨hg2,h⟩:=gd h
   refine ⟨((List.take x68 x69)++(List.take x62 (List.drop x61 x64))),app_cut (cut_0 _ _) (rfl),0,(List.length ((List.take x68 x69)++(List.take x62 (List.drop x61 x64)))),⟨rfl,cut_ln hg2 (rfl)⟩,?_⟩
   refine .inl ?_
   refine And.intro (fun _ => ?_) (fun h0=>Bool.noConfusion h0)
   refine .inl ?_
   refine dc ?_
   obtain ⟨hg,h⟩:=gd h
   refine And.intro (le_of_ln2 (ln_0 _ _) hg) ?_
   refine ⟨(((List.take x68 x69)++(List.take x62 (List.drop x61 x64)))++(List.take x63 x65)),app_cut (cut_full _) (cut_0 _ _),0,(List.length (((List.take x68 x69)++(List.take x62 (List.drop x61 x64)))++(List.take x63 x65))),⟨rfl,app_ln (ln_0 _ _)⟩,?_⟩
   refine .inl ?_
   refine nml h ?_
   intro x71 h
   refine And.intro (fun h0=>Bool.noConfusion h0) (fun _ => ?_)
   exact ⟨[],[],⟨_,some_in h⟩,[(4,5)],mt⟩
 ·replace h:=g
  refine .inr ⟨30,?_⟩
  refine And.intro (fun _ => ?_) (fun h0=>Bool.noConfusion h0)
  refine .inl ?_
  refine dc ?_
  refine .inl ?_
  refine cnd h (fun hb h => ?_) (fun hb h => ?_)
  ·exact no_none h
  ·refine And.intro (fun _ => ?_) (fun h0=>Bool.noConfusion h0)
   refine .inl ?_
   refine dc ?_
   refine nml h ?_
   intro x67 h
   refine .inl ?_
   refine cnd h (fun hb h => ?_) (fun hb h => ?_)
   ·exact no_none h
   ·refine And.intro (fun h0=>Bool.noConfusion h0) (fun _ => ?_)
    exact ⟨[],[],⟨_,some_in h⟩,[],mt⟩
theorem shawide_Sum_2_c {x50 x51 x52 x53 x54 res} (h:shawide_Sum_2 x50 x51 x52 x53 x54=some res) :
  FB er 37 [(.vs 0 0 2)] [(.var (.cons (.sl 1 [] ly5 x50 x51) (.cons (.sl 2 [] ly5 0 x52) (.dv .nil)))),(.frzI .u8 x53),(.rowI .u8 x54)] [] (.dv (.ints .u8 64 res)) [(.var (.cons (.sl 1 [] ly5 x50 x51) (.cons (.sl 2 [] ly5 0 x52) (.dv .nil)))),(.frzI .u8 x53),(.rowI .u8 x54)]:=by
 refine fb Tryz.func37 ?_
 unfold shawide_Sum_2 at h
 obtain ⟨x55,c,h⟩:=bnd h
 refine cl [] [] (shawide_begin_c c) ?_
 obtain ⟨r80,c,h⟩:=bnd h
 refine cl [] [0,1,2,5] (shawide_padded_2_c c) ?_
 obtain ⟨x56,g,h⟩:=bnd h
 refine .inr ⟨[11],_,fj (fun x56=>([],[(4,(.var (.dv (.ints .u64 8 x56))))])) x56,0,?_,?_⟩
 ·rintro ⟨x56,rfl⟩
  obtain ⟨x73,g,h⟩:=bnd h
  refine .inr ⟨[15],_,fj (fun x73=>([],[(6,(.var (.dv (.ints .u8 64 x73))))])) x73,0,?_,?_⟩
  ·rintro ⟨x73,rfl⟩
   obtain rfl:=some_in h
   exact ⟨0,[],[],mt⟩
  ·replace h:=g
   refine .inl ?_
   refine ⟨[],_,fl (β:=Nat×Int×(List Int)) (fun (n3,x74,x75)=>(shawide_Sum_2_l3 x56 n3 x74 x75=some x73,[(16,(.int .i64 x74))],[(6,(.var (.dv (.ints .u8 64 x75))))],n3)),[],[],⟨(FUEL,0,(List.replicate 64 (0:Int))),h⟩,mt,?_⟩
   rintro ⟨⟨_|n3,x74,x75⟩,h⟩
   ·exact no_none h
   replace h:=(shawide_Sum_2_l3.eq_2 x56 x74 x75 n3).symm.trans h
   refine cnd h (fun hb h => ?_) (fun hb h => ?_)
   ·refine .inl ?_
    refine gdn h fun hg h => ?_
    obtain ⟨x76,g,h⟩:=bnd h
    refine .inr ⟨[6,7],_,fj (fun x76=>([],[(6,(.var (.dv (.ints .u8 64 x76))))])) x76,0,?_,?_⟩
    ·rintro ⟨x76,rfl⟩
     exact ⟨⟨(n3,_,_),h⟩,[],mt,Nat.lt_succ_self _⟩
    ·replace h:=g
     refine .inl ?_
     refine ⟨[],_,fl (β:=Nat×Int×(List Int)) (fun (n4,x77,x78)=>(shawide_Sum_2_l4 x56 x74 n4 x77 x78=some x76,[(20,(.int .i64 x77))],[(6,(.var (.dv (.ints .u8 64 x78))))],n4)),[],[],⟨(FUEL,0,x75),h⟩,mt,?_⟩
     rintro ⟨⟨_|n4,x77,x78⟩,h⟩
     ·exact no_none h
     replace h:=(shawide_Sum_2_l4.eq_2 x56 x74 x77 x78 n4).symm.trans h
     refine cnd h (fun hb h => ?_) (fun hb h => ?_)
     ·refine .inl ?_
      refine gdn h fun hg h => ?_
      refine nml h ?_
      intro x79 h
      refine gdn h fun hg h => ?_
      refine nml h ?_
      intro x80 h
      exact ⟨⟨(n4,_,_),h⟩,[],mt,Nat.lt_succ_self _⟩
     ·exact ⟨[],[],⟨_,some_in h⟩,[],mt⟩
   ·exact ⟨[],[],⟨_,some_in h⟩,[],mt⟩
 ·replace h:=g
  intro L5
  refine ⟨Tryz.f106,_,⟨Tryz.func106,rfl,rfl,rfl⟩,?_⟩
  obtain ⟨x57,c,h⟩:=bnd h
  refine cl [] [0,1,2,9] (slices_Concat_byte_byte_3_c c) ?_
  refine .inl ?_
  refine .inl ?_
  obtain ⟨hg,h⟩:=gd h
  refine And.intro (le_of_ln2 (ln_full [128]) hg) ?_
  refine ⟨(x57++[128]),app_cut (cut_full _) (cut_full [128]),0,(List.length (x57++[128])),⟨rfl,app_ln (ln_full [128])⟩,?_⟩
  refine .inl ?_
  obtain ⟨x58,c,h⟩:=bnd h
  refine cl [] [] (shawide_blocks_c c) ?_
  refine nml h ?_
  intro x59 h
  refine gdn h fun hg h => ?_
  refine ⟨((x57++[128])++(List.replicate (Int.toNat (IntKind.wrap .i64 (x59-1))) (0:Int))),app_cut (cut_full _) rfl,0,(List.length ((x57++[128])++(List.replicate (Int.toNat (IntKind.wrap .i64 (x59-1))) (0:Int)))),⟨rfl,by first|(simp;done)|exact (List.length_append ..).trans (congrArg (_ + ·) (List.length_replicate ..))⟩,?_⟩
  refine .inl ?_
  refine nml h ?_
  intro x60 h
  refine nml h ?_
  intro x61 h
  obtain ⟨x62,g,h⟩:=bnd h
  refine .inr ⟨[5],_,fj (fun x62=>([],[(12,(.rowI .u8 x62))])) x62,0,?_,?_⟩
  ·rintro ⟨x62,rfl⟩
   obtain ⟨r72,c,h⟩:=bnd h
   refine cl [] [12,13,14] (slices_Chunk_byte_byte_2_c c) ?_
   obtain ⟨x67,g,h⟩:=bnd h
   refine .inr ⟨[2,43],_,fj (fun x67=>([],[(4,(.var (.dv (.ints .u64 8 x67))))])) x67,0,?_,?_⟩
   ·rintro ⟨x67,rfl⟩
    exact ⟨[],[],⟨_,some_in h⟩,[],mt⟩
   ·replace h:=g
    intro L7
    refine ⟨Tryz.f114,_,⟨Tryz.func114,rfl,rfl,rfl⟩,?_⟩
    obtain ⟨x68,g,h⟩:=bnd h
    refine .inr ⟨[0,1,2],_,fj (fun x68=>([],[(4,(.var (.dv (.ints .u64 8 x68))))])) x68,0,?_,?_⟩
    ·rintro ⟨x68,rfl⟩
     exact ⟨[],[],⟨_,some_in h⟩,[],mt⟩
    ·replace h:=g
     refine .inl ?_
     refine ⟨[],_,fl (β:=Nat×Int×(List Int)) (fun (n2,x69,x70)=>(shawide_Sum_2_l2 x60 x62 n2 x69 x70=some x68,[(4,(.int .i64 x69))],[(4,(.var (.dv (.ints .u64 8 x70))))],n2)),[],[],⟨(FUEL,0,x55),h⟩,mt,?_⟩
     rintro ⟨⟨_|n2,x69,x70⟩,h⟩
     ·exact no_none h
     replace h:=(shawide_Sum_2_l2.eq_2 x60 x62 x69 x70 n2).symm.trans h
     refine cnd h (fun hb h => ?_) (fun hb h => ?_)
     ·refine .inl ?_
      refine gdn h fun hg h => ?_
      refine ⟨(Int.toNat x69),(Int.toNat (((List.length x60):Int)-x69)),⟨by simp,rfl⟩,?_⟩
      refine nml h ?_
      intro x71 h
      refine gdn h fun hg h => ?_
      refine gdn h fun hg h => ?_
      refine ⟨(Int.toNat x69),(Int.toNat ((IntKind.wrap .i64 (x69+x71))-x69)),⟨by simp,rfl⟩,?_⟩
      refine ⟨rfl,?_⟩
      refine .inl ?_
      refine ⟨rfl,?_⟩
      refine .inl ?_
      obtain ⟨x72,c,h⟩:=bnd h
      refine cl [] [4,12] (shawide_state_take_2_c c) ?_
      exact ⟨⟨(n2,_,_),h⟩,[],mt,Nat.lt_succ_self _⟩
     ·exact ⟨[],[],⟨_,some_in h⟩,[],mt⟩
  ·replace h:=g
   refine .inl ?_
   refine ⟨[],_,fl (β:=Nat×Int×(List Int)) (fun (n1,x63,x64)=>(shawide_Sum_2_l1 x60 x61 n1 x63 x64=some x62,[(26,(.int .i64 x63))],[(12,(.rowI .u8 x64))],n1)),[],[],⟨(FUEL,0,x60),h⟩,mt,?_⟩
   rintro ⟨⟨_|n1,x63,x64⟩,h⟩
   ·exact no_none h
   replace h:=(shawide_Sum_2_l1.eq_2 x60 x61 x63 x64 n1).symm.trans h
   refine cnd h (fun hb h => ?_) (fun hb h => ?_)
   ·refine .inl ?_
    refine nml h ?_
    intro x65 h
    refine gdn h fun hg h => ?_
    refine nml h ?_
    intro x66 h
    refine gdn h fun hg h => ?_
    exact ⟨⟨(n1,_,_),h⟩,[],mt,Nat.lt_succ_self _⟩
   ·exact ⟨[],[],⟨_,some_in h⟩,[],mt⟩
theorem scalar_modulus_c {res} (h:scalar_modulus=some res) :
  FB er 113 [] [] [] (.dv (.ints .u64 8 res)) []:=by
 refine fb Tryz.func113 ?_
 unfold scalar_modulus at h
 refine nml h ?_
 intro x92 h
 obtain rfl:=some_in h
 exact ⟨0,[],[],mt⟩
theorem scalar_number_less_c {x91 res} (h:scalar_number_less x91=some res) :
  FB er 90 [(.dv (.ints .u64 8 x91))] [] [] (.tup [(.dv (.ints .u64 8 res.1)),(.bl res.2)]) []:=by
 refine fb Tryz.func90 ?_
 unfold scalar_number_less at h
 obtain ⟨x92,c,h⟩:=bnd h
 refine cl [] [] (scalar_modulus_c c) ?_
 obtain ⟨⟨x93,x94⟩,g,h⟩:=bnd h
 refine .inr ⟨[1],_,fj (fun (x93,x94)=>([(6,(.int .u64 x93))],[(3,(.var (.dv (.ints .u64 8 x94))))])) (x93,x94),0,?_,?_⟩
 ·rintro ⟨_,rfl⟩
  obtain rfl:=some_in h
  exact ⟨0,[],[],mt⟩
 ·replace h:=g
  refine .inl ?_
  refine ⟨[],_,fl (β:=Nat×Int×Int×(List Int)) (fun (n1,x95,x96,x97)=>(scalar_number_less_l1 x91 x92 n1 x95 x96 x97=some (x93,x94),[(6,(.int .u64 x95)),(10,(.int .i64 x96))],[(3,(.var (.dv (.ints .u64 8 x97))))],n1)),[],[],⟨(FUEL,0,0,(List.replicate 8 (0:Int))),h⟩,mt,?_⟩
  rintro ⟨⟨_|n1,x95,x96,x97⟩,h⟩
  ·exact no_none h
  replace h:=(scalar_number_less_l1.eq_2 x91 x92 x95 x96 x97 n1).symm.trans h
  refine cnd h (fun hb h => ?_) (fun hb h => ?_)
  ·refine .inl ?_
   refine gdn h fun hg h => ?_
   refine nml h ?_
   intro x98 h
   refine gdn h fun hg h => ?_
   refine nml h ?_
   intro x99 h
   refine gdn h fun hg h => ?_
   refine nml h ?_
   intro x100 h
   refine dc ?_
   refine nml h ?_
   intro x101 h
   exact ⟨⟨(n1,_,_,_),h⟩,[],mt,Nat.lt_succ_self _⟩
  ·exact ⟨[],[],⟨_,some_in h⟩,[],mt⟩
theorem scalar_number_least_c {x90 res} (h:scalar_number_least x90=some res) :
  FB er 54 [(.dv (.ints .u64 8 x90))] [] [] (.dv (.ints .u64 8 res)) []:=by
 refine fb Tryz.func54 ?_
 unfold scalar_number_least at h
 obtain ⟨⟨x91,x92⟩,c,h⟩:=bnd h
 refine cl [] [] (scalar_number_less_c c) ?_
 obtain ⟨x93,g,h⟩:=bnd h
 refine .inr ⟨[4],_,fj (fun x93=>([],[(0,(.var (.dv (.ints .u64 8 x93))))])) x93,0,?_,?_⟩
 ·rintro ⟨x93,rfl⟩
  obtain rfl:=some_in h
  exact ⟨0,[],[],mt⟩
 ·replace h:=g
  refine .inl ?_
  refine ⟨[],_,fl (β:=Nat×Int×(List Int)) (fun (n1,x94,x95)=>(scalar_number_least_l1 x91 x92 n1 x94 x95=some x93,[(11,(.int .i64 x94))],[(0,(.var (.dv (.ints .u64 8 x95))))],n1)),[],[],⟨(FUEL,0,x90),h⟩,mt,?_⟩
  rintro ⟨⟨_|n1,x94,x95⟩,h⟩
  ·exact no_none h
  replace h:=(scalar_number_least_l1.eq_2 x91 x92 x94 x95 n1).symm.trans h
  refine cnd h (fun hb h => ?_) (fun hb h => ?_)
  ·refine .inl ?_
   refine gdn h fun hg h => ?_
   refine gdn h fun hg h => ?_
   obtain ⟨x96,c,h⟩:=bnd h
   refine cl [] [] (words_Pick_c c) ?_
   refine gdn h fun hg h => ?_
   exact ⟨⟨(n1,_,_),h⟩,[],mt,Nat.lt_succ_self _⟩
  ·exact ⟨[],[],⟨_,some_in h⟩,[],mt⟩
theorem scalar_number_grown_c {x87 x88 res} (h:scalar_number_grown x87 x88=some res) :
  FB er 89 [(.dv (.ints .u64 8 x87)),(.int .u64 x88)] [] [] (.dv (.ints .u64 8 res)) []:=by
 refine fb Tryz.func89 ?_
 unfold scalar_number_grown at h
 obtain ⟨x89,g,h⟩:=bnd h
 refine .inr ⟨[],_,fj (fun x89=>([],[(0,(.var (.dv (.ints .u64 8 x89))))])) x89,0,?_,?_⟩
 ·rintro ⟨x89,rfl⟩
  obtain ⟨x95,c,h⟩:=bnd h
  refine cl [] [] (scalar_number_least_c c) ?_
  obtain rfl:=some_in h
  exact ⟨0,[],[],mt⟩
 ·replace h:=g
  refine .inl ?_
  refine ⟨[],_,fl (β:=Nat×Int×Int×(List Int)) (fun (n1,x90,x91,x92)=>(scalar_number_grown_l1 n1 x90 x91 x92=some x89,[(5,(.int .u64 x90)),(9,(.int .i64 x91))],[(0,(.var (.dv (.ints .u64 8 x92))))],n1)),[],[],⟨(FUEL,x88,0,x87),h⟩,mt,?_⟩
  rintro ⟨⟨_|n1,x90,x91,x92⟩,h⟩
  ·exact no_none h
  replace h:=(scalar_number_grown_l1.eq_2 x90 x91 x92 n1).symm.trans h
  refine cnd h (fun hb h => ?_) (fun hb h => ?_)
  ·refine .inl ?_
   refine gdn h fun hg h => ?_
   refine dc ?_
   refine nml h ?_
   intro x93 h
   refine gdn h fun hg h => ?_
   refine nml h ?_
   intro x94 h
   refine dc ?_
   exact ⟨⟨(n1,_,_,_),h⟩,[],mt,Nat.lt_succ_self _⟩
  ·exact ⟨[],[],⟨_,some_in h⟩,[],mt⟩
theorem scalar_mod_c {x83 res} (h:scalar_mod x83=some res) :
  FB er 53 [(.dv (.roI .u8 x83))] [] [] (.dv (.ints .u64 8 res)) []:=by
 refine fb Tryz.func53 ?_
 unfold scalar_mod at h
 refine nml h ?_
 intro x84 h
 refine cnd h (fun hb h => ?_) (fun hb h => ?_)
 ·refine dc ?_
  refine gdn h fun hg h => ?_
  refine nml h ?_
  intro x85 h
  refine dc ?_
  refine gdn h fun hg h => ?_
  refine nml h ?_
  intro x86 h
  obtain ⟨x87,c,h⟩:=bnd h
  refine cl [] [] (scalar_number_grown_c c) ?_
  refine .inr ⟨[],_,fl (β:=Nat×Int×(List Int)) (fun (n1,x88,x89)=>(scalar_mod_l1 x83 n1 x88 x89=some res,[(3,(.ptr 1 [] ly84)),(4,(.int .i64 x88))],[(1,(.var (.dv (.ints .u64 8 x89))))],n1)),[],[],⟨(FUEL,(IntKind.wrap .i64 (x84-1)),x87),h⟩,mt,?_⟩
  rintro ⟨⟨_|n1,x88,x89⟩,h⟩
  ·exact no_none h
  replace h:=(scalar_mod_l1.eq_2 x83 x88 x89 n1).symm.trans h
  refine cnd h (fun hb h => ?_) (fun hb h => ?_)
  ·refine dc ?_
   refine gdn h fun hg h => ?_
   refine nml h ?_
   intro x90 h
   refine dc ?_
   refine gdn h fun hg h => ?_
   refine nml h ?_
   intro x91 h
   obtain ⟨x92,c,h⟩:=bnd h
   refine cl [] [] (scalar_number_grown_c c) ?_
   exact ⟨⟨(n1,_,_),h⟩,[],mt,Nat.lt_succ_self _⟩
  ·obtain rfl:=some_in h
   exact ⟨0,[],[],mt⟩
 ·obtain rfl:=some_in h
  exact ⟨0,[],[],mt⟩
theorem scalar_number_bytes_c {x94 res} (h:scalar_number_bytes x94=some res) :
  FB er 55 [(.dv (.ints .u64 8 x94))] [] [] (.dv (.ints .u8 32 res)) []:=by
 refine fb Tryz.func55 ?_
 unfold scalar_number_bytes at h
 obtain ⟨x95,g,h⟩:=bnd h
 refine .inr ⟨[1],_,fj (fun x95=>([],[(2,(.var (.dv (.ints .u8 32 x95))))])) x95,0,?_,?_⟩
 ·rintro ⟨x95,rfl⟩
  obtain rfl:=some_in h
  exact ⟨0,[],[],mt⟩
 ·replace h:=g
  refine .inl ?_
  refine ⟨[],_,fl (β:=Nat×Int×(List Int)) (fun (n1,x96,x97)=>(scalar_number_bytes_l1 x94 n1 x96 x97=some x95,[(5,(.int .i64 x96))],[(2,(.var (.dv (.ints .u8 32 x97))))],n1)),[],[],⟨(FUEL,0,(List.replicate 32 (0:Int))),h⟩,mt,?_⟩
  rintro ⟨⟨_|n1,x96,x97⟩,h⟩
  ·exact no_none h
  replace h:=(scalar_number_bytes_l1.eq_2 x94 x96 x97 n1).symm.trans h
  refine cnd h (fun hb h => ?_) (fun hb h => ?_)
  ·refine .inl ?_
   refine dc ?_
   refine gdn h fun hg h => ?_
   refine nml h ?_
   intro x98 h
   refine dc ?_
   refine gdn h fun hg h => ?_
   refine nml h ?_
   intro x99 h
   refine gdn h fun hg h => ?_
   exact ⟨⟨(n1,_,_),h⟩,[],mt,Nat.lt_succ_self _⟩
  ·exact ⟨[],[],⟨_,some_in h⟩,[],mt⟩
theorem scalar_Reduce_c {x82 res} (h:scalar_Reduce x82=some res) :
  FB er 52 [(.dv (.ints .u8 64 x82))] [] [] (.dv (.ints .u8 32 res)) []:=by
 refine fb Tryz.func52 ?_
 unfold scalar_Reduce at h
 refine .inl ?_
 refine And.intro (by omega) ?_
 refine ⟨0,64,⟨rfl,rfl⟩,?_⟩
 obtain ⟨x83,c,h⟩:=bnd h
 refine cl [true] [] (scalar_mod_c c) ?_
 obtain ⟨x84,c,h⟩:=bnd h
 refine cl [] [] (scalar_number_bytes_c c) ?_
 obtain rfl:=some_in h
 exact ⟨0,[],[],mt⟩
theorem sign_hash_c {x45 x46 x47 x48 x49 res} (h:sign_hash x45 x46 x47 x48 x49=some res) :
  FB er 17 [(.vs 0 0 2)] [(.var (.cons (.sl 1 [] ly5 x45 x46) (.cons (.sl 2 [] ly5 0 x47) (.dv .nil)))),(.frzI .u8 x48),(.rowI .u8 x49)] [] (.dv (.ints .u8 32 res)) [(.var (.cons (.sl 1 [] ly5 x45 x46) (.cons (.sl 2 [] ly5 0 x47) (.dv .nil)))),(.frzI .u8 x48),(.rowI .u8 x49)]:=by
 refine fb Tryz.func17 ?_
 unfold sign_hash at h
 obtain ⟨x50,c,h⟩:=bnd h
 refine cl [] [0,1,2] (shawide_Sum_2_c c) ?_
 obtain ⟨x51,c,h⟩:=bnd h
 refine cl [] [] (scalar_Reduce_c c) ?_
 obtain rfl:=some_in h
 exact ⟨0,[],[],mt⟩
theorem shawide_padded_3_c {x69 x70 x71 x72 x73 x74 res} (h:shawide_padded_3 x69 x70 x71 x72 x73 x74=some res) :
  FB er 83 [(.vs 0 0 3)] [(.var (.cons (.sl 1 [] ly5 0 x69) (.cons (.sl 2 [] ly5 0 x70) (.cons (.sl 3 [] ly5 0 x71) (.dv .nil))))),(.var (.dv (.ints .u8 32 x72))),(.var (.dv (.ints .u8 32 x73))),(.rowI .u8 x74)] [4] (.fn 106 [(.ptr 4 [] ly36)]) [(.var (.cons (.sl 1 [] ly5 0 x69) (.cons (.sl 2 [] ly5 0 x70) (.cons (.sl 3 [] ly5 0 x71) (.dv .nil))))),(.var (.dv (.ints .u8 32 x72))),(.var (.dv (.ints .u8 32 x73))),(.rowI .u8 x74),(.var (.vs 0 0 3))]:=by
 refine fb Tryz.func83 ?_
 unfold shawide_padded_3 at h
 obtain rfl:=some_in h
 exact ⟨0,[],[],mt⟩
theorem slices_Concat_byte_byte_4_c {x75 x76 x77 x78 x79 x80 res} (h:slices_Concat_byte_byte_4 x75 x76 x77 x78 x79 x80=some res) :
  FB er 16 [(.vs 0 0 3)] [(.var (.cons (.sl 1 [] ly5 0 x75) (.cons (.sl 2 [] ly5 0 x76) (.cons (.sl 3 [] ly5 0 x77) (.dv .nil))))),(.var (.dv (.ints .u8 32 x78))),(.var (.dv (.ints .u8 32 x79))),(.rowI .u8 x80)] [5] (.sl 5 [] ly5 0 (List.length res)) [(.var (.cons (.sl 1 [] ly5 0 x75) (.cons (.sl 2 [] ly5 0 x76) (.cons (.sl 3 [] ly5 0 x77) (.dv .nil))))),(.var (.dv (.ints .u8 32 x78))),(.var (.dv (.ints .u8 32 x79))),(.rowI .u8 x80),(.rowI .u8 res)]:=by
 refine fb Tryz.func16 ?_
 unfold slices_Concat_byte_byte_4 at h
 obtain ⟨x81,g,h⟩:=bnd h
 refine .inr ⟨[10],_,fj (fun x81=>([(3,(.int .i64 x81))],[])) x81,0,?_,?_⟩
 ·rintro ⟨x81,rfl⟩
  obtain ⟨⟨x83,x84⟩,c,h⟩:=bnd h
  refine cl [] [4] (slices_Grow_byte_byte_2_c c) ?_
  refine .inl ?_
  obtain ⟨x85,g,h⟩:=bnd h
  refine .inr ⟨[24,26],_,fj (fun x85=>([(6,(.sl 5 [] ly5 0 (List.length x85)))],[(4,.dead),(5,(.rowI .u8 x85))])) x85,1,?_,?_⟩
  ·rintro ⟨x85,rfl⟩
   obtain rfl:=some_in h
   exact ⟨0,[],[],mt⟩
  ·replace h:=g
   refine .inr ⟨30,?_⟩
   refine And.intro (fun _ => ?_) (fun h0=>Bool.noConfusion h0)
   refine .inl ?_
   refine dc ?_
   obtain ⟨hg,h⟩:=gd h
   refine And.intro (le_of_ln2 (ln_0 _ _) hg) ?_
   obtain ⟨hg2,h⟩:=gd h
   refine ⟨((List.take x83 x84)++(List.take x75 x78)),app_cut (cut_0 _ _) (cut_0 _ _),0,(List.length ((List.take x83 x84)++(List.take x75 x78))),⟨rfl,cut_ln hg2 (ln_0 _ _)⟩,?_⟩
   refine .inl ?_
   refine And.intro (fun _ => ?_) (fun h0=>Bool.noConfusion h0)
   refine .inl ?_
   refine dc ?_
   obtain ⟨hg,h⟩:=gd h
   refine And.intro (le_of_ln2 (ln_0 _ _) hg) ?_
   refine ⟨(((List.take x83 x84)++(List.take x75 x78))++(List.take x76 x79)),app_cut (cut_full _) (cut_0 _ _),0,(List.length (((List.take x83 x84)++(List.take x75 x78))++(List.take x76 x79))),⟨rfl,app_ln (ln_0 _ _)⟩,?_⟩
   refine .inl ?_
   refine nml h ?_
   intro x86 h
   refine And.intro (fun _ => ?_) (fun h0=>Bool.noConfusion h0)
   refine .inl ?_
   refine dc ?_
   obtain ⟨hg,h⟩:=gd h
   refine And.intro (le_of_ln2 (ln_0 _ _) hg) ?_
   refine ⟨(x86++(List.take x77 x80)),app_cut (cut_full _) (cut_0 _ _),0,(List.length (x86++(List.take x77 x80))),⟨rfl,app_ln (ln_0 _ _)⟩,?_⟩
   refine .inl ?_
   refine And.intro (fun h0=>Bool.noConfusion h0) (fun _ => ?_)
   exact ⟨[],[],⟨_,some_in h⟩,[(5,7)],mt⟩
 ·replace h:=g
  refine .inr ⟨30,?_⟩
  refine And.intro (fun _ => ?_) (fun h0=>Bool.noConfusion h0)
  refine .inl ?_
  refine dc ?_
  refine .inl ?_
  refine cnd h (fun hb h => ?_) (fun hb h => ?_)
  ·exact no_none h
  ·refine And.intro (fun _ => ?_) (fun h0=>Bool.noConfusion h0)
   refine .inl ?_
   refine dc ?_
   refine nml h ?_
   intro x82 h
   refine .inl ?_
   refine cnd h (fun hb h => ?_) (fun hb h => ?_)
   ·exact no_none h
   ·refine And.intro (fun _ => ?_) (fun h0=>Bool.noConfusion h0)
    refine .inl ?_
    refine dc ?_
    refine .inl ?_
    refine cnd h (fun hb h => ?_) (fun hb h => ?_)
    ·exact no_none h
    ·refine And.intro (fun h0=>Bool.noConfusion h0) (fun _ => ?_)
     exact ⟨[],[],⟨_,some_in h⟩,[],mt⟩
theorem shawide_Sum_3_c {x62 x63 x64 x65 x66 x67 res} (h:shawide_Sum_3 x62 x63 x64 x65 x66 x67=some res) :
  FB er 37 [(.vs 0 0 3)] [(.var (.cons (.sl 1 [] ly5 0 x62) (.cons (.sl 2 [] ly5 0 x63) (.cons (.sl 3 [] ly5 0 x64) (.dv .nil))))),(.var (.dv (.ints .u8 32 x65))),(.var (.dv (.ints .u8 32 x66))),(.rowI .u8 x67)] [] (.dv (.ints .u8 64 res)) [(.var (.cons (.sl 1 [] ly5 0 x62) (.cons (.sl 2 [] ly5 0 x63) (.cons (.sl 3 [] ly5 0 x64) (.dv .nil))))),(.var (.dv (.ints .u8 32 x65))),(.var (.dv (.ints .u8 32 x66))),(.rowI .u8 x67)]:=by
 refine fb Tryz.func37 ?_
 unfold shawide_Sum_3 at h
 obtain ⟨x68,c,h⟩:=bnd h
 refine cl [] [] (shawide_begin_c c) ?_
 obtain ⟨r93,c,h⟩:=bnd h
 refine cl [] [0,1,2,3,6] (shawide_padded_3_c c) ?_
 obtain ⟨x69,g,h⟩:=bnd h
 refine .inr ⟨[11],_,fj (fun x69=>([],[(5,(.var (.dv (.ints .u64 8 x69))))])) x69,0,?_,?_⟩
 ·rintro ⟨x69,rfl⟩
  obtain ⟨x86,g,h⟩:=bnd h
  refine .inr ⟨[15],_,fj (fun x86=>([],[(7,(.var (.dv (.ints .u8 64 x86))))])) x86,0,?_,?_⟩
  ·rintro ⟨x86,rfl⟩
   obtain rfl:=some_in h
   exact ⟨0,[],[],mt⟩
  ·replace h:=g
   refine .inl ?_
   refine ⟨[],_,fl (β:=Nat×Int×(List Int)) (fun (n3,x87,x88)=>(shawide_Sum_3_l3 x69 n3 x87 x88=some x86,[(16,(.int .i64 x87))],[(7,(.var (.dv (.ints .u8 64 x88))))],n3)),[],[],⟨(FUEL,0,(List.replicate 64 (0:Int))),h⟩,mt,?_⟩
   rintro ⟨⟨_|n3,x87,x88⟩,h⟩
   ·exact no_none h
   replace h:=(shawide_Sum_3_l3.eq_2 x69 x87 x88 n3).symm.trans h
   refine cnd h (fun hb h => ?_) (fun hb h => ?_)
   ·refine .inl ?_
    refine gdn h fun hg h => ?_
    obtain ⟨x89,g,h⟩:=bnd h
    refine .inr ⟨[6,7],_,fj (fun x89=>([],[(7,(.var (.dv (.ints .u8 64 x89))))])) x89,0,?_,?_⟩
    ·rintro ⟨x89,rfl⟩
     exact ⟨⟨(n3,_,_),h⟩,[],mt,Nat.lt_succ_self _⟩
    ·replace h:=g
     refine .inl ?_
     refine ⟨[],_,fl (β:=Nat×Int×(List Int)) (fun (n4,x90,x91)=>(shawide_Sum_3_l4 x69 x87 n4 x90 x91=some x89,[(20,(.int .i64 x90))],[(7,(.var (.dv (.ints .u8 64 x91))))],n4)),[],[],⟨(FUEL,0,x88),h⟩,mt,?_⟩
     rintro ⟨⟨_|n4,x90,x91⟩,h⟩
     ·exact no_none h
     replace h:=(shawide_Sum_3_l4.eq_2 x69 x87 x90 x91 n4).symm.trans h
     refine cnd h (fun hb h => ?_) (fun hb h => ?_)
     ·refine .inl ?_
      refine gdn h fun hg h => ?_
      refine nml h ?_
      intro x92 h
      refine gdn h fun hg h => ?_
      refine nml h ?_
      intro x93 h
      exact ⟨⟨(n4,_,_),h⟩,[],mt,Nat.lt_succ_self _⟩
     ·exact ⟨[],[],⟨_,some_in h⟩,[],mt⟩
   ·exact ⟨[],[],⟨_,some_in h⟩,[],mt⟩
 ·replace h:=g
  intro L5
  refine ⟨Tryz.f106,_,⟨Tryz.func106,rfl,rfl,rfl⟩,?_⟩
  obtain ⟨x70,c,h⟩:=bnd h
  refine cl [] [0,1,2,3,10] (slices_Concat_byte_byte_4_c c) ?_
  refine .inl ?_
  refine .inl ?_
  obtain ⟨hg,h⟩:=gd h
  refine And.intro (le_of_ln2 (ln_full [128]) hg) ?_
  refine ⟨(x70++[128]),app_cut (cut_full _) (cut_full [128]),0,(List.length (x70++[128])),⟨rfl,app_ln (ln_full [128])⟩,?_⟩
  refine .inl ?_
  obtain ⟨x71,c,h⟩:=bnd h
  refine cl [] [] (shawide_blocks_c c) ?_
  refine nml h ?_
  intro x72 h
  refine gdn h fun hg h => ?_
  refine ⟨((x70++[128])++(List.replicate (Int.toNat (IntKind.wrap .i64 (x72-1))) (0:Int))),app_cut (cut_full _) rfl,0,(List.length ((x70++[128])++(List.replicate (Int.toNat (IntKind.wrap .i64 (x72-1))) (0:Int)))),⟨rfl,by first|(simp;done)|exact (List.length_append ..).trans (congrArg (_ + ·) (List.length_replicate ..))⟩,?_⟩
  refine .inl ?_
  refine nml h ?_
  intro x73 h
  refine nml h ?_
  intro x74 h
  obtain ⟨x75,g,h⟩:=bnd h
  refine .inr ⟨[5],_,fj (fun x75=>([],[(13,(.rowI .u8 x75))])) x75,0,?_,?_⟩
  ·rintro ⟨x75,rfl⟩
   obtain ⟨r85,c,h⟩:=bnd h
   refine cl [] [13,14,15] (slices_Chunk_byte_byte_2_c c) ?_
   obtain ⟨x80,g,h⟩:=bnd h
   refine .inr ⟨[2,43],_,fj (fun x80=>([],[(5,(.var (.dv (.ints .u64 8 x80))))])) x80,0,?_,?_⟩
   ·rintro ⟨x80,rfl⟩
    exact ⟨[],[],⟨_,some_in h⟩,[],mt⟩
   ·replace h:=g
    intro L7
    refine ⟨Tryz.f114,_,⟨Tryz.func114,rfl,rfl,rfl⟩,?_⟩
    obtain ⟨x81,g,h⟩:=bnd h
    refine .inr ⟨[0,1,2],_,fj (fun x81=>([],[(5,(.var (.dv (.ints .u64 8 x81))))])) x81,0,?_,?_⟩
    ·rintro ⟨x81,rfl⟩
     exact ⟨[],[],⟨_,some_in h⟩,[],mt⟩
    ·replace h:=g
     refine .inl ?_
     refine ⟨[],_,fl (β:=Nat×Int×(List Int)) (fun (n2,x82,x83)=>(shawide_Sum_3_l2 x73 x75 n2 x82 x83=some x81,[(4,(.int .i64 x82))],[(5,(.var (.dv (.ints .u64 8 x83))))],n2)),[],[],⟨(FUEL,0,x68),h⟩,mt,?_⟩
     rintro ⟨⟨_|n2,x82,x83⟩,h⟩
     ·exact no_none h
     replace h:=(shawide_Sum_3_l2.eq_2 x73 x75 x82 x83 n2).symm.trans h
     refine cnd h (fun hb h => ?_) (fun hb h => ?_)
     ·refine .inl ?_
      refine gdn h fun hg h => ?_
      refine ⟨(Int.toNat x82),(Int.toNat (((List.length x73):Int)-x82)),⟨by simp,rfl⟩,?_⟩
      refine nml h ?_
      intro x84 h
      refine gdn h fun hg h => ?_
      refine gdn h fun hg h => ?_
      refine ⟨(Int.toNat x82),(Int.toNat ((IntKind.wrap .i64 (x82+x84))-x82)),⟨by simp,rfl⟩,?_⟩
      refine ⟨rfl,?_⟩
      refine .inl ?_
      refine ⟨rfl,?_⟩
      refine .inl ?_
      obtain ⟨x85,c,h⟩:=bnd h
      refine cl [] [5,13] (shawide_state_take_2_c c) ?_
      exact ⟨⟨(n2,_,_),h⟩,[],mt,Nat.lt_succ_self _⟩
     ·exact ⟨[],[],⟨_,some_in h⟩,[],mt⟩
  ·replace h:=g
   refine .inl ?_
   refine ⟨[],_,fl (β:=Nat×Int×(List Int)) (fun (n1,x76,x77)=>(shawide_Sum_3_l1 x73 x74 n1 x76 x77=some x75,[(26,(.int .i64 x76))],[(13,(.rowI .u8 x77))],n1)),[],[],⟨(FUEL,0,x73),h⟩,mt,?_⟩
   rintro ⟨⟨_|n1,x76,x77⟩,h⟩
   ·exact no_none h
   replace h:=(shawide_Sum_3_l1.eq_2 x73 x74 x76 x77 n1).symm.trans h
   refine cnd h (fun hb h => ?_) (fun hb h => ?_)
   ·refine .inl ?_
    refine nml h ?_
    intro x78 h
    refine gdn h fun hg h => ?_
    refine nml h ?_
    intro x79 h
    refine gdn h fun hg h => ?_
    exact ⟨⟨(n1,_,_),h⟩,[],mt,Nat.lt_succ_self _⟩
   ·exact ⟨[],[],⟨_,some_in h⟩,[],mt⟩
theorem sign_hash_2_c {x56 x57 x58 x59 x60 x61 res} (h:sign_hash_2 x56 x57 x58 x59 x60 x61=some res) :
  FB er 17 [(.vs 0 0 3)] [(.var (.cons (.sl 1 [] ly5 0 x56) (.cons (.sl 2 [] ly5 0 x57) (.cons (.sl 3 [] ly5 0 x58) (.dv .nil))))),(.var (.dv (.ints .u8 32 x59))),(.var (.dv (.ints .u8 32 x60))),(.rowI .u8 x61)] [] (.dv (.ints .u8 32 res)) [(.var (.cons (.sl 1 [] ly5 0 x56) (.cons (.sl 2 [] ly5 0 x57) (.cons (.sl 3 [] ly5 0 x58) (.dv .nil))))),(.var (.dv (.ints .u8 32 x59))),(.var (.dv (.ints .u8 32 x60))),(.rowI .u8 x61)]:=by
 refine fb Tryz.func17 ?_
 unfold sign_hash_2 at h
 obtain ⟨x62,c,h⟩:=bnd h
 refine cl [] [0,1,2,3] (shawide_Sum_3_c c) ?_
 obtain ⟨x63,c,h⟩:=bnd h
 refine cl [] [] (scalar_Reduce_c c) ?_
 obtain rfl:=some_in h
 exact ⟨0,[],[],mt⟩
theorem scalar_Times_c {x65 x66 res} (h:scalar_Times x65 x66=some res) :
  FB er 19 [(.dv (.ints .u8 32 x65)),(.dv (.ints .u8 32 x66))] [] [] (.dv (.ints .u8 32 res)) []:=by
 refine fb Tryz.func19 ?_
 unfold scalar_Times at h
 obtain ⟨x67,g,h⟩:=bnd h
 refine .inr ⟨[3,11],_,fj (fun x67=>([],[(3,(.var (.dv (.ints .u8 64 x67))))])) x67,0,?_,?_⟩
 ·rintro ⟨x67,rfl⟩
  obtain ⟨x80,c,h⟩:=bnd h
  refine cl [] [] (scalar_Reduce_c c) ?_
  obtain rfl:=some_in h
  exact ⟨0,[],[],mt⟩
 ·replace h:=g
  refine .inl ?_
  refine ⟨[],_,fl (β:=Nat×Int×(List Int)) (fun (n1,x68,x69)=>(scalar_Times_l1 x65 x66 n1 x68 x69=some x67,[(12,(.int .i64 x68))],[(3,(.var (.dv (.ints .u8 64 x69))))],n1)),[],[],⟨(FUEL,0,(List.replicate 64 (0:Int))),h⟩,mt,?_⟩
  rintro ⟨⟨_|n1,x68,x69⟩,h⟩
  ·exact no_none h
  replace h:=(scalar_Times_l1.eq_2 x65 x66 x68 x69 n1).symm.trans h
  refine cnd h (fun hb h => ?_) (fun hb h => ?_)
  ·refine .inl ?_
   refine gdn h fun hg h => ?_
   obtain ⟨⟨x70,x71⟩,g,h⟩:=bnd h
   refine .inr ⟨[7,16],_,fj (fun (x70,x71)=>([(8,(.int .u64 x70))],[(3,(.var (.dv (.ints .u8 64 x71))))])) (x70,x71),0,?_,?_⟩
   ·rintro ⟨_,rfl⟩
    refine gdn h fun hg h => ?_
    refine nml h ?_
    intro x79 h
    exact ⟨⟨(n1,_,_),h⟩,[],mt,Nat.lt_succ_self _⟩
   ·replace h:=g
    refine .inl ?_
    refine ⟨[],_,fl (β:=Nat×Int×Int×(List Int)) (fun (n2,x72,x73,x74)=>(scalar_Times_l2 x65 x66 x68 n2 x72 x73 x74=some (x70,x71),[(8,(.int .u64 x72)),(17,(.int .i64 x73))],[(3,(.var (.dv (.ints .u8 64 x74))))],n2)),[],[],⟨(FUEL,0,0,x69),h⟩,mt,?_⟩
    rintro ⟨⟨_|n2,x72,x73,x74⟩,h⟩
    ·exact no_none h
    replace h:=(scalar_Times_l2.eq_2 x65 x66 x68 x72 x73 x74 n2).symm.trans h
    refine cnd h (fun hb h => ?_) (fun hb h => ?_)
    ·refine .inl ?_
     refine gdn h fun hg h => ?_
     refine gdn h fun hg h => ?_
     refine nml h ?_
     intro x75 h
     refine nml h ?_
     intro x76 h
     refine nml h ?_
     intro x77 h
     refine gdn h fun hg h => ?_
     refine nml h ?_
     intro x78 h
     refine dc ?_
     exact ⟨⟨(n2,_,_,_),h⟩,[],mt,Nat.lt_succ_self _⟩
    ·exact ⟨[],[],⟨_,some_in h⟩,[],mt⟩
  ·exact ⟨[],[],⟨_,some_in h⟩,[],mt⟩
theorem scalar_Add_c {x82 x83 res} (h:scalar_Add x82 x83=some res) :
  FB er 18 [(.dv (.ints .u8 32 x82)),(.dv (.ints .u8 32 x83))] [] [] (.dv (.ints .u8 32 res)) []:=by
 refine fb Tryz.func18 ?_
 unfold scalar_Add at h
 refine .inl ?_
 refine And.intro (by omega) ?_
 refine ⟨0,32,⟨rfl,rfl⟩,?_⟩
 obtain ⟨x84,c,h⟩:=bnd h
 refine cl [true] [] (scalar_mod_c c) ?_
 refine .inl ?_
 refine And.intro (by omega) ?_
 refine ⟨0,32,⟨rfl,rfl⟩,?_⟩
 obtain ⟨x85,c,h⟩:=bnd h
 refine cl [true] [] (scalar_mod_c c) ?_
 obtain ⟨x86,g,h⟩:=bnd h
 refine .inr ⟨[],_,fj (fun x86=>([],[(3,(.var (.dv (.ints .u64 8 x86))))])) x86,0,?_,?_⟩
 ·rintro ⟨x86,rfl⟩
  obtain ⟨x92,c,h⟩:=bnd h
  refine cl [] [] (scalar_number_least_c c) ?_
  obtain ⟨x93,c,h⟩:=bnd h
  refine cl [] [] (scalar_number_bytes_c c) ?_
  obtain rfl:=some_in h
  exact ⟨0,[],[],mt⟩
 ·replace h:=g
  refine .inl ?_
  refine ⟨[],_,fl (β:=Nat×Int×Int×(List Int)) (fun (n1,x87,x88,x89)=>(scalar_Add_l1 x85 n1 x87 x88 x89=some x86,[(7,(.int .u64 x87)),(13,(.int .i64 x88))],[(3,(.var (.dv (.ints .u64 8 x89))))],n1)),[],[],⟨(FUEL,0,0,x84),h⟩,mt,?_⟩
  rintro ⟨⟨_|n1,x87,x88,x89⟩,h⟩
  ·exact no_none h
  replace h:=(scalar_Add_l1.eq_2 x85 x87 x88 x89 n1).symm.trans h
  refine cnd h (fun hb h => ?_) (fun hb h => ?_)
  ·refine .inl ?_
   refine gdn h fun hg h => ?_
   refine gdn h fun hg h => ?_
   refine nml h ?_
   intro x90 h
   refine gdn h fun hg h => ?_
   refine nml h ?_
   intro x91 h
   refine dc ?_
   exact ⟨⟨(n1,_,_,_),h⟩,[],mt,Nat.lt_succ_self _⟩
  ·exact ⟨[],[],⟨_,some_in h⟩,[],mt⟩
theorem sign_Sign_c {x4 x5 x6 res} (h:sign_Sign x4 x5 x6=some res) :
  FB er 6 [(.dv (.ints .u8 32 x4)),(.vs 0 0 1)] [(.var (.cons (.sl 1 [] ly5 0 x5) (.dv .nil))),(.frzI .u8 x6)] [] (.dv (.ints .u8 64 res)) [(.var (.cons (.sl 1 [] ly5 0 x5) (.dv .nil))),(.frzI .u8 x6)]:=by
 refine fb Tryz.func6 ?_
 unfold sign_Sign at h
 obtain ⟨⟨x7,x8⟩,c,h⟩:=bnd h
 refine cl [] [4] (sign_secret_c c) ?_
 refine .inl ?_
 obtain ⟨x9,c,h⟩:=bnd h
 refine cl [] [] (points_Base_c c) ?_
 obtain ⟨x10,c,h⟩:=bnd h
 refine cl [] [] (points_Point_Times_c c) ?_
 obtain ⟨x11,c,h⟩:=bnd h
 refine cl [] [] (points_Point_Bytes_c c) ?_
 obtain ⟨x12,c,h⟩:=bnd h
 refine cl [] [0,1,7] (slices_Concat_byte_byte_2_c c) ?_
 refine .inl ?_
 refine .inr ?_
 obtain ⟨x13,c,h⟩:=bnd h
 refine cl [] [8,4,7] (sign_hash_c c) ?_
 obtain ⟨x14,c,h⟩:=bnd h
 refine cl [] [] (points_Base_c c) ?_
 obtain ⟨x15,c,h⟩:=bnd h
 refine cl [] [] (points_Point_Times_c c) ?_
 obtain ⟨x16,c,h⟩:=bnd h
 refine cl [] [] (points_Point_Bytes_c c) ?_
 refine .inl ?_
 refine And.intro (by omega) ?_
 refine ⟨0,32,⟨rfl,rfl⟩,?_⟩
 refine .inl ?_
 refine And.intro (by omega) ?_
 refine ⟨0,32,⟨rfl,rfl⟩,?_⟩
 refine .inr ?_
 obtain ⟨x17,c,h⟩:=bnd h
 refine cl [] [11,10,6,7] (sign_hash_2_c c) ?_
 obtain ⟨x18,c,h⟩:=bnd h
 refine cl [] [] (scalar_Times_c c) ?_
 obtain ⟨x19,c,h⟩:=bnd h
 refine cl [] [] (scalar_Add_c c) ?_
 refine .inl ?_
 refine And.intro (by omega) ?_
 refine ⟨0,64,⟨rfl,rfl⟩,?_⟩
 refine .inl ?_
 refine And.intro (by omega) ?_
 refine ⟨0,32,⟨rfl,rfl⟩,?_⟩
 refine nml h ?_
 intro x20 h
 refine .inl ?_
 refine dc ?_
 refine ⟨32,32,⟨rfl,rfl⟩,?_⟩
 refine .inl ?_
 refine And.intro (by omega) ?_
 refine ⟨0,32,⟨rfl,rfl⟩,?_⟩
 obtain rfl:=some_in h
 exact ⟨0,[],[],mt⟩
theorem sign_Public_c {x22 res} (h:sign_Public x22=some res) :
  FB er 7 [(.dv (.ints .u8 32 x22))] [] [] (.dv (.ints .u8 32 res)) []:=by
 refine fb Tryz.func7 ?_
 unfold sign_Public at h
 obtain ⟨⟨x23,x24⟩,c,h⟩:=bnd h
 refine cl [] [2] (sign_secret_c c) ?_
 refine .inl ?_
 obtain ⟨x25,c,h⟩:=bnd h
 refine cl [] [] (points_Base_c c) ?_
 obtain ⟨x26,c,h⟩:=bnd h
 refine cl [] [] (points_Point_Times_c c) ?_
 obtain ⟨x27,c,h⟩:=bnd h
 refine cl [] [] (points_Point_Bytes_c c) ?_
 obtain rfl:=some_in h
 exact ⟨0,[],[],mt⟩
theorem field_Read_c {x40 res} (h:field_Read x40=some res) :
  FB er 97 [(.dv (.ints .u8 32 x40))] [] [] (.dv (T_field_Elem.dv res)) []:=by
 refine fb Tryz.func97 ?_
 unfold field_Read at h
 obtain ⟨x41,g,h⟩:=bnd h
 refine .inr ⟨[1],_,fj (fun x41=>([],[(2,(.var (.dv (.cons (.ints .u64 10 x41) .nil))))])) x41,0,?_,?_⟩
 ·rintro ⟨x41,rfl⟩
  obtain rfl:=some_in h
  exact ⟨0,[],[],mt⟩
 ·replace h:=g
  refine .inl ?_
  refine ⟨[],_,fl (β:=Nat×Int×(List Int)) (fun (n1,x42,x43)=>(field_Read_l1 x40 n1 x42 x43=some x41,[(5,(.int .i64 x42))],[(2,(.var (.dv (.cons (.ints .u64 10 x43) .nil))))],n1)),[],[],⟨(FUEL,0,(List.replicate 10 (0:Int))),h⟩,mt,?_⟩
  rintro ⟨⟨_|n1,x42,x43⟩,h⟩
  ·exact no_none h
  replace h:=(field_Read_l1.eq_2 x40 x42 x43 n1).symm.trans h
  refine cnd h (fun hb h => ?_) (fun hb h => ?_)
  ·refine .inl ?_
   refine dc ?_
   refine gdn h fun hg h => ?_
   refine nml h ?_
   intro x44 h
   refine dc ?_
   refine gdn h fun hg h => ?_
   refine nml h ?_
   intro x45 h
   refine dc ?_
   refine gdn h fun hg h => ?_
   refine nml h ?_
   intro x46 h
   refine dc ?_
   refine gdn h fun hg h => ?_
   refine nml h ?_
   intro x47 h
   refine gdn h fun hg h => ?_
   refine nml h ?_
   intro x48 h
   exact ⟨⟨(n1,_,_),h⟩,[],mt,Nat.lt_succ_self _⟩
  ·exact ⟨[],[],⟨_,some_in h⟩,[],mt⟩
theorem field_Strict_c {x39 res} (h:field_Strict x39=some res) :
  FB er 60 [(.dv (.ints .u8 32 x39))] [] [] (match res with|(Sum.inl p0)=>(.tup [(.dv (T_field_Elem.dv p0)),(.dv (.sc .nilIface))])|(Sum.inr _)=>(.tup [(.dv (T_field_Elem.dv ({ fn:=(List.replicate 10 (0:Int)) }:T_field_Elem))),(errA er 4)])) (match res with|(Sum.inl p0)=>[]|(Sum.inr _)=>[]):=by
 refine fb Tryz.func60 ?_ (by rcases res with _|_<;>rfl)
 unfold field_Strict at h
 obtain ⟨x40,c,h⟩:=bnd h
 refine cl [] [] (field_Read_c c) ?_
 obtain ⟨x41,c,h⟩:=bnd h
 refine cl [] [] (field_Elem_Bytes_c c) ?_
 refine cnd h (fun hb h => ?_) (fun hb h => ?_)
 ·obtain rfl:=some_in h
  exact ⟨0,[],[],mt⟩
 ·obtain rfl:=some_in h
  exact ⟨0,[],[],mt⟩
theorem words_Equal_c {x62 x63 res} (h:words_Equal x62 x63=some res) :
  FB er 30 [(.dv (.roI .u8 x62)),(.dv (.roI .u8 x63))] [] [] (.bl res) []:=by
 refine fb Tryz.func30 ?_
 unfold words_Equal at h
 refine cnd h (fun hb h => ?_) (fun hb h => ?_)
 ·obtain rfl:=some_in h
  exact ⟨0,[],[],mt⟩
 ·obtain ⟨x64,g,h⟩:=bnd h
  refine .inr ⟨[13],_,fj (fun x64=>([(5,(.int .u8 x64))],[])) x64,0,?_,?_⟩
  ·rintro ⟨x64,rfl⟩
   obtain rfl:=some_in h
   exact ⟨0,[],[],mt⟩
  ·replace h:=g
   refine .inl ?_
   refine ⟨[],_,fl (β:=Nat×Int×Int) (fun (n1,x65,x66)=>(words_Equal_l1 x62 x63 n1 x65 x66=some x64,[(5,(.int .u8 x65)),(14,(.int .i64 x66))],[],n1)),[],[],⟨(FUEL,0,0),h⟩,mt,?_⟩
   rintro ⟨⟨_|n1,x65,x66⟩,h⟩
   ·exact no_none h
   replace h:=(words_Equal_l1.eq_2 x62 x63 x65 x66 n1).symm.trans h
   refine cnd h (fun hb h => ?_) (fun hb h => ?_)
   ·refine .inl ?_
    refine gdn h fun hg h => ?_
    refine gdn h fun hg h => ?_
    refine nml h ?_
    intro x67 h
    exact ⟨⟨(n1,_,_),h⟩,[],mt,Nat.lt_succ_self _⟩
   ·exact ⟨[],[],⟨_,some_in h⟩,[],mt⟩
theorem field_Elem_Same_c {x58 x59 res} (h:field_Elem_Same x58 x59=some res) :
  FB er 98 [(.dv (T_field_Elem.dv x58)),(.dv (T_field_Elem.dv x59))] [] [] (.bl res) []:=by
 refine fb Tryz.func98 ?_
 unfold field_Elem_Same at h
 obtain ⟨x60,c,h⟩:=bnd h
 refine cl [] [] (field_Elem_Bytes_c c) ?_
 obtain ⟨x61,c,h⟩:=bnd h
 refine cl [] [] (field_Elem_Bytes_c c) ?_
 refine .inl ?_
 refine And.intro (by omega) ?_
 refine ⟨0,32,⟨rfl,rfl⟩,?_⟩
 refine .inl ?_
 refine And.intro (by omega) ?_
 refine ⟨0,32,⟨rfl,rfl⟩,?_⟩
 obtain ⟨x62,c,h⟩:=bnd h
 refine cl [true,true] [] (words_Equal_c c) ?_
 obtain rfl:=some_in h
 exact ⟨0,[],[],mt⟩
theorem field_Elem_Root_c {x51 res} (h:field_Elem_Root x51=some res) :
  FB er 66 [(.dv (T_field_Elem.dv x51))] [] [] (.tup [(.dv (T_field_Elem.dv res.1)),(.bl res.2)]) []:=by
 refine fb Tryz.func66 ?_
 unfold field_Elem_Root at h
 obtain ⟨⟨x52,x53⟩,c,h⟩:=bnd h
 refine cl [] [] (field_Elem_power_c c) ?_
 obtain ⟨x54,c,h⟩:=bnd h
 refine cl [] [] (field_Elem_Square_c c) ?_
 obtain ⟨x55,c,h⟩:=bnd h
 refine cl [] [] (field_Elem_Times_c c) ?_
 obtain ⟨x56,c,h⟩:=bnd h
 refine cl [] [] (field_Elem_Square_c c) ?_
 obtain ⟨x57,c,h⟩:=bnd h
 refine cl [] [] (field_Elem_Square_c c) ?_
 obtain ⟨x58,c,h⟩:=bnd h
 refine cl [] [] (field_Elem_Same_c c) ?_
 obtain ⟨x59,g,h⟩:=bnd h
 refine .inr ⟨[],_,fj (fun x59=>([],[(4,(.var (.dv (T_field_Elem.dv x59))))])) x59,0,?_,?_⟩
 ·rintro ⟨x59,rfl⟩
  obtain ⟨x61,c,h⟩:=bnd h
  refine cl [] [] (field_Elem_Square_c c) ?_
  obtain ⟨x62,c,h⟩:=bnd h
  refine cl [] [] (field_Elem_Same_c c) ?_
  refine cnd h (fun hb h => ?_) (fun hb h => ?_)
  ·obtain rfl:=some_in h
   exact ⟨0,[],[],mt⟩
  ·obtain ⟨x63,c,h⟩:=bnd h
   refine cl [] [] (field_Elem_Odd_c c) ?_
   obtain ⟨x64,g,h⟩:=bnd h
   refine .inr ⟨[],_,fj (fun x64=>([],[(4,(.var (.dv (T_field_Elem.dv x64))))])) x64,0,?_,?_⟩
   ·rintro ⟨x64,rfl⟩
    obtain rfl:=some_in h
    exact ⟨0,[],[],mt⟩
   ·replace h:=g
    refine cnd h (fun hb h => ?_) (fun hb h => ?_)
    ·obtain ⟨x65,c,h⟩:=bnd h
     refine cl [] [] (field_Elem_Sub_c c) ?_
     exact ⟨[],[],⟨_,some_in h⟩,[],mt⟩
    ·exact ⟨[],[],⟨_,some_in h⟩,[],mt⟩
 ·replace h:=g
  refine cnd h (fun hb h => ?_) (fun hb h => ?_)
  ·obtain ⟨x60,c,h⟩:=bnd h
   refine cl [] [] (field_Elem_Times_c c) ?_
   exact ⟨[],[],⟨_,some_in h⟩,[],mt⟩
  ·exact ⟨[],[],⟨_,some_in h⟩,[],mt⟩
theorem words_Zero_c {x70 res} (h:words_Zero x70=some res) :
  FB er 99 [(.dv (.roI .u8 x70))] [] [] (.bl res) []:=by
 refine fb Tryz.func99 ?_
 unfold words_Zero at h
 obtain ⟨x71,g,h⟩:=bnd h
 refine .inr ⟨[7],_,fj (fun x71=>([(3,(.int .u8 x71))],[])) x71,0,?_,?_⟩
 ·rintro ⟨x71,rfl⟩
  obtain rfl:=some_in h
  exact ⟨0,[],[],mt⟩
 ·replace h:=g
  refine .inl ?_
  refine ⟨[],_,fl (β:=Nat×Int×Int) (fun (n1,x72,x73)=>(words_Zero_l1 x70 n1 x72 x73=some x71,[(3,(.int .u8 x72)),(8,(.int .i64 x73))],[],n1)),[],[],⟨(FUEL,0,0),h⟩,mt,?_⟩
  rintro ⟨⟨_|n1,x72,x73⟩,h⟩
  ·exact no_none h
  replace h:=(words_Zero_l1.eq_2 x70 x72 x73 n1).symm.trans h
  refine cnd h (fun hb h => ?_) (fun hb h => ?_)
  ·refine .inl ?_
   refine gdn h fun hg h => ?_
   exact ⟨⟨(n1,_,_),h⟩,[],mt,Nat.lt_succ_self _⟩
  ·exact ⟨[],[],⟨_,some_in h⟩,[],mt⟩
theorem field_Elem_Zero_c {x68 res} (h:field_Elem_Zero x68=some res) :
  FB er 67 [(.dv (T_field_Elem.dv x68))] [] [] (.bl res) []:=by
 refine fb Tryz.func67 ?_
 unfold field_Elem_Zero at h
 obtain ⟨x69,c,h⟩:=bnd h
 refine cl [] [] (field_Elem_Bytes_c c) ?_
 refine .inl ?_
 refine And.intro (by omega) ?_
 refine ⟨0,32,⟨rfl,rfl⟩,?_⟩
 obtain ⟨x70,c,h⟩:=bnd h
 refine cl [true] [] (words_Zero_c c) ?_
 obtain rfl:=some_in h
 exact ⟨0,[],[],mt⟩
theorem points_Read_c {x37 res} (h:points_Read x37=some res) :
  FB er 26 [(.dv (.ints .u8 32 x37))] [] [] (match res with|(Sum.inl p0)=>(.tup [(.dv (T_points_Point.dv p0)),(.dv (.sc .nilIface))])|(Sum.inr p0)=>(.tup [(.dv (T_points_Point.dv p0)),(errA er 4)])) (match res with|(Sum.inl p0)=>[]|(Sum.inr p0)=>[]):=by
 refine fb Tryz.func26 ?_ (by rcases res with _|_<;>rfl)
 unfold points_Read at h
 refine dc ?_
 refine dc ?_
 refine dc ?_
 refine nml h ?_
 intro x38 h
 obtain ⟨r58,c,h⟩:=bnd h
 rcases r58 with x39|⟨⟩
 ·refine cl [] [] (field_Strict_c c) ?_
  refine And.intro (fun h0=>Bool.noConfusion h0) (fun _ => ?_)
  obtain ⟨x40,c,h⟩:=bnd h
  refine cl [] [] (field_Elem_Square_c c) ?_
  obtain ⟨x41,c,h⟩:=bnd h
  refine cl [] [] (field_Small_c c) ?_
  obtain ⟨x42,c,h⟩:=bnd h
  refine cl [] [] (field_Elem_Sub_c c) ?_
  obtain ⟨x43,c,h⟩:=bnd h
  refine cl [] [] (field_Curve_c c) ?_
  obtain ⟨x44,c,h⟩:=bnd h
  refine cl [] [] (field_Elem_Times_c c) ?_
  obtain ⟨x45,c,h⟩:=bnd h
  refine cl [] [] (field_Elem_Add_c c) ?_
  obtain ⟨x46,c,h⟩:=bnd h
  refine cl [] [] (field_Elem_Invert_c c) ?_
  obtain ⟨x47,c,h⟩:=bnd h
  refine cl [] [] (field_Elem_Times_c c) ?_
  obtain ⟨⟨x48,x49⟩,c,h⟩:=bnd h
  refine cl [] [] (field_Elem_Root_c c) ?_
  refine cnd h (fun hb h => ?_) (fun hb h => ?_)
  ·obtain rfl:=some_in h
   exact ⟨0,[],[],mt⟩
  ·refine cnd h (fun hb h => ?_) (fun hb h => ?_)
   ·obtain ⟨x50,c,h⟩:=bnd h
    refine cl [] [] (field_Elem_Zero_c c) ?_
    refine cnd h (fun hb h => ?_) (fun hb h => ?_)
    ·obtain rfl:=some_in h
     exact ⟨0,[],[],mt⟩
    ·obtain ⟨x51,g,h⟩:=bnd h
     refine .inr ⟨[],_,fj (fun x51=>([],[(5,(.var (.dv (T_field_Elem.dv x51))))])) x51,0,?_,?_⟩
     ·rintro ⟨x51,rfl⟩
      obtain ⟨x54,c,h⟩:=bnd h
      refine cl [] [] (points_at_c c) ?_
      obtain rfl:=some_in h
      exact ⟨0,[],[],mt⟩
     ·replace h:=g
      refine cnd h (fun hb h => ?_) (fun hb h => ?_)
      ·obtain ⟨x52,c,h⟩:=bnd h
       refine cl [] [] (field_Small_c c) ?_
       obtain ⟨x53,c,h⟩:=bnd h
       refine cl [] [] (field_Elem_Sub_c c) ?_
       exact ⟨[],[],⟨_,some_in h⟩,[],mt⟩
      ·exact ⟨[],[],⟨_,some_in h⟩,[],mt⟩
   ·obtain ⟨x55,g,h⟩:=bnd h
    refine .inr ⟨[],_,fj (fun x55=>([],[(5,(.var (.dv (T_field_Elem.dv x55))))])) x55,0,?_,?_⟩
    ·rintro ⟨x55,rfl⟩
     obtain ⟨x58,c,h⟩:=bnd h
     refine cl [] [] (points_at_c c) ?_
     obtain rfl:=some_in h
     exact ⟨0,[],[],mt⟩
    ·replace h:=g
     refine cnd h (fun hb h => ?_) (fun hb h => ?_)
     ·obtain ⟨x56,c,h⟩:=bnd h
      refine cl [] [] (field_Small_c c) ?_
      obtain ⟨x57,c,h⟩:=bnd h
      refine cl [] [] (field_Elem_Sub_c c) ?_
      exact ⟨[],[],⟨_,some_in h⟩,[],mt⟩
     ·exact ⟨[],[],⟨_,some_in h⟩,[],mt⟩
 ·refine cl [] [] (field_Strict_c c) ?_
  refine And.intro (fun _ => ?_) (fun h0=>Bool.noConfusion h0)
  obtain rfl:=some_in h
  exact ⟨0,[],[],mt⟩
theorem scalar_Right_c {x60 res} (h:scalar_Right x60=some res) :
  FB er 27 [(.dv (.ints .u8 32 x60))] [] [] (.bl res) []:=by
 refine fb Tryz.func27 ?_
 unfold scalar_Right at h
 refine .inl ?_
 refine And.intro (by omega) ?_
 refine ⟨0,32,⟨rfl,rfl⟩,?_⟩
 obtain ⟨x61,c,h⟩:=bnd h
 refine cl [true] [] (scalar_mod_c c) ?_
 obtain ⟨x62,c,h⟩:=bnd h
 refine cl [] [] (scalar_number_bytes_c c) ?_
 refine .inl ?_
 refine And.intro (by omega) ?_
 refine ⟨0,32,⟨rfl,rfl⟩,?_⟩
 refine .inl ?_
 refine And.intro (by omega) ?_
 refine ⟨0,32,⟨rfl,rfl⟩,?_⟩
 obtain ⟨x63,c,h⟩:=bnd h
 refine cl [true,true] [] (words_Equal_c c) ?_
 obtain rfl:=some_in h
 exact ⟨0,[],[],mt⟩
theorem shawide_padded_4_c {x79 x80 x81 x82 x83 x84 res} (h:shawide_padded_4 x79 x80 x81 x82 x83 x84=some res) :
  FB er 83 [(.vs 0 0 3)] [(.var (.cons (.sl 1 [] ly5 0 x79) (.cons (.sl 2 [] ly5 0 x80) (.cons (.sl 3 [] ly5 0 x81) (.dv .nil))))),(.frzI .u8 x82),(.var (.dv (.ints .u8 32 x83))),(.rowI .u8 x84)] [4] (.fn 106 [(.ptr 4 [] ly36)]) [(.var (.cons (.sl 1 [] ly5 0 x79) (.cons (.sl 2 [] ly5 0 x80) (.cons (.sl 3 [] ly5 0 x81) (.dv .nil))))),(.frzI .u8 x82),(.var (.dv (.ints .u8 32 x83))),(.rowI .u8 x84),(.var (.vs 0 0 3))]:=by
 refine fb Tryz.func83 ?_
 unfold shawide_padded_4 at h
 obtain rfl:=some_in h
 exact ⟨0,[],[],mt⟩
theorem slices_Concat_byte_byte_5_c {x85 x86 x87 x88 x89 x90 res} (h:slices_Concat_byte_byte_5 x85 x86 x87 x88 x89 x90=some res) :
  FB er 16 [(.vs 0 0 3)] [(.var (.cons (.sl 1 [] ly5 0 x85) (.cons (.sl 2 [] ly5 0 x86) (.cons (.sl 3 [] ly5 0 x87) (.dv .nil))))),(.frzI .u8 x88),(.var (.dv (.ints .u8 32 x89))),(.rowI .u8 x90)] [5] (.sl 5 [] ly5 0 (List.length res)) [(.var (.cons (.sl 1 [] ly5 0 x85) (.cons (.sl 2 [] ly5 0 x86) (.cons (.sl 3 [] ly5 0 x87) (.dv .nil))))),(.frzI .u8 x88),(.var (.dv (.ints .u8 32 x89))),(.rowI .u8 x90),(.rowI .u8 res)]:=by
 refine fb Tryz.func16 ?_
 unfold slices_Concat_byte_byte_5 at h
 obtain ⟨x91,g,h⟩:=bnd h
 refine .inr ⟨[10],_,fj (fun x91=>([(3,(.int .i64 x91))],[])) x91,0,?_,?_⟩
 ·rintro ⟨x91,rfl⟩
  obtain ⟨⟨x93,x94⟩,c,h⟩:=bnd h
  refine cl [] [4] (slices_Grow_byte_byte_2_c c) ?_
  refine .inl ?_
  obtain ⟨x95,g,h⟩:=bnd h
  refine .inr ⟨[24,26],_,fj (fun x95=>([(6,(.sl 5 [] ly5 0 (List.length x95)))],[(4,.dead),(5,(.rowI .u8 x95))])) x95,1,?_,?_⟩
  ·rintro ⟨x95,rfl⟩
   obtain rfl:=some_in h
   exact ⟨0,[],[],mt⟩
  ·replace h:=g
   refine .inr ⟨30,?_⟩
   refine And.intro (fun _ => ?_) (fun h0=>Bool.noConfusion h0)
   refine .inl ?_
   refine dc ?_
   obtain ⟨hg,h⟩:=gd h
   refine And.intro (le_of_ln2 (ln_0 _ _) hg) ?_
   obtain ⟨hg2,h⟩:=gd h
   refine ⟨((List.take x93 x94)++(List.take x85 x88)),app_cut (cut_0 _ _) (cut_0 _ _),0,(List.length ((List.take x93 x94)++(List.take x85 x88))),⟨rfl,cut_ln hg2 (ln_0 _ _)⟩,?_⟩
   refine .inl ?_
   refine And.intro (fun _ => ?_) (fun h0=>Bool.noConfusion h0)
   refine .inl ?_
   refine dc ?_
   obtain ⟨hg,h⟩:=gd h
   refine And.intro (le_of_ln2 (ln_0 _ _) hg) ?_
   refine ⟨(((List.take x93 x94)++(List.take x85 x88))++(List.take x86 x89)),app_cut (cut_full _) (cut_0 _ _),0,(List.length (((List.take x93 x94)++(List.take x85 x88))++(List.take x86 x89))),⟨rfl,app_ln (ln_0 _ _)⟩,?_⟩
   refine .inl ?_
   refine nml h ?_
   intro x96 h
   refine And.intro (fun _ => ?_) (fun h0=>Bool.noConfusion h0)
   refine .inl ?_
   refine dc ?_
   obtain ⟨hg,h⟩:=gd h
   refine And.intro (le_of_ln2 (ln_0 _ _) hg) ?_
   refine ⟨(x96++(List.take x87 x90)),app_cut (cut_full _) (cut_0 _ _),0,(List.length (x96++(List.take x87 x90))),⟨rfl,app_ln (ln_0 _ _)⟩,?_⟩
   refine .inl ?_
   refine And.intro (fun h0=>Bool.noConfusion h0) (fun _ => ?_)
   exact ⟨[],[],⟨_,some_in h⟩,[(5,7)],mt⟩
 ·replace h:=g
  refine .inr ⟨30,?_⟩
  refine And.intro (fun _ => ?_) (fun h0=>Bool.noConfusion h0)
  refine .inl ?_
  refine dc ?_
  refine .inl ?_
  refine cnd h (fun hb h => ?_) (fun hb h => ?_)
  ·exact no_none h
  ·refine And.intro (fun _ => ?_) (fun h0=>Bool.noConfusion h0)
   refine .inl ?_
   refine dc ?_
   refine nml h ?_
   intro x92 h
   refine .inl ?_
   refine cnd h (fun hb h => ?_) (fun hb h => ?_)
   ·exact no_none h
   ·refine And.intro (fun _ => ?_) (fun h0=>Bool.noConfusion h0)
    refine .inl ?_
    refine dc ?_
    refine .inl ?_
    refine cnd h (fun hb h => ?_) (fun hb h => ?_)
    ·exact no_none h
    ·refine And.intro (fun h0=>Bool.noConfusion h0) (fun _ => ?_)
     exact ⟨[],[],⟨_,some_in h⟩,[],mt⟩
theorem shawide_Sum_4_c {x72 x73 x74 x75 x76 x77 res} (h:shawide_Sum_4 x72 x73 x74 x75 x76 x77=some res) :
  FB er 37 [(.vs 0 0 3)] [(.var (.cons (.sl 1 [] ly5 0 x72) (.cons (.sl 2 [] ly5 0 x73) (.cons (.sl 3 [] ly5 0 x74) (.dv .nil))))),(.frzI .u8 x75),(.var (.dv (.ints .u8 32 x76))),(.rowI .u8 x77)] [] (.dv (.ints .u8 64 res)) [(.var (.cons (.sl 1 [] ly5 0 x72) (.cons (.sl 2 [] ly5 0 x73) (.cons (.sl 3 [] ly5 0 x74) (.dv .nil))))),(.frzI .u8 x75),(.var (.dv (.ints .u8 32 x76))),(.rowI .u8 x77)]:=by
 refine fb Tryz.func37 ?_
 unfold shawide_Sum_4 at h
 obtain ⟨x78,c,h⟩:=bnd h
 refine cl [] [] (shawide_begin_c c) ?_
 obtain ⟨r103,c,h⟩:=bnd h
 refine cl [] [0,1,2,3,6] (shawide_padded_4_c c) ?_
 obtain ⟨x79,g,h⟩:=bnd h
 refine .inr ⟨[11],_,fj (fun x79=>([],[(5,(.var (.dv (.ints .u64 8 x79))))])) x79,0,?_,?_⟩
 ·rintro ⟨x79,rfl⟩
  obtain ⟨x96,g,h⟩:=bnd h
  refine .inr ⟨[15],_,fj (fun x96=>([],[(7,(.var (.dv (.ints .u8 64 x96))))])) x96,0,?_,?_⟩
  ·rintro ⟨x96,rfl⟩
   obtain rfl:=some_in h
   exact ⟨0,[],[],mt⟩
  ·replace h:=g
   refine .inl ?_
   refine ⟨[],_,fl (β:=Nat×Int×(List Int)) (fun (n3,x97,x98)=>(shawide_Sum_4_l3 x79 n3 x97 x98=some x96,[(16,(.int .i64 x97))],[(7,(.var (.dv (.ints .u8 64 x98))))],n3)),[],[],⟨(FUEL,0,(List.replicate 64 (0:Int))),h⟩,mt,?_⟩
   rintro ⟨⟨_|n3,x97,x98⟩,h⟩
   ·exact no_none h
   replace h:=(shawide_Sum_4_l3.eq_2 x79 x97 x98 n3).symm.trans h
   refine cnd h (fun hb h => ?_) (fun hb h => ?_)
   ·refine .inl ?_
    refine gdn h fun hg h => ?_
    obtain ⟨x99,g,h⟩:=bnd h
    refine .inr ⟨[6,7],_,fj (fun x99=>([],[(7,(.var (.dv (.ints .u8 64 x99))))])) x99,0,?_,?_⟩
    ·rintro ⟨x99,rfl⟩
     exact ⟨⟨(n3,_,_),h⟩,[],mt,Nat.lt_succ_self _⟩
    ·replace h:=g
     refine .inl ?_
     refine ⟨[],_,fl (β:=Nat×Int×(List Int)) (fun (n4,x100,x101)=>(shawide_Sum_4_l4 x79 x97 n4 x100 x101=some x99,[(20,(.int .i64 x100))],[(7,(.var (.dv (.ints .u8 64 x101))))],n4)),[],[],⟨(FUEL,0,x98),h⟩,mt,?_⟩
     rintro ⟨⟨_|n4,x100,x101⟩,h⟩
     ·exact no_none h
     replace h:=(shawide_Sum_4_l4.eq_2 x79 x97 x100 x101 n4).symm.trans h
     refine cnd h (fun hb h => ?_) (fun hb h => ?_)
     ·refine .inl ?_
      refine gdn h fun hg h => ?_
      refine nml h ?_
      intro x102 h
      refine gdn h fun hg h => ?_
      refine nml h ?_
      intro x103 h
      exact ⟨⟨(n4,_,_),h⟩,[],mt,Nat.lt_succ_self _⟩
     ·exact ⟨[],[],⟨_,some_in h⟩,[],mt⟩
   ·exact ⟨[],[],⟨_,some_in h⟩,[],mt⟩
 ·replace h:=g
  intro L5
  refine ⟨Tryz.f106,_,⟨Tryz.func106,rfl,rfl,rfl⟩,?_⟩
  obtain ⟨x80,c,h⟩:=bnd h
  refine cl [] [0,1,2,3,10] (slices_Concat_byte_byte_5_c c) ?_
  refine .inl ?_
  refine .inl ?_
  obtain ⟨hg,h⟩:=gd h
  refine And.intro (le_of_ln2 (ln_full [128]) hg) ?_
  refine ⟨(x80++[128]),app_cut (cut_full _) (cut_full [128]),0,(List.length (x80++[128])),⟨rfl,app_ln (ln_full [128])⟩,?_⟩
  refine .inl ?_
  obtain ⟨x81,c,h⟩:=bnd h
  refine cl [] [] (shawide_blocks_c c) ?_
  refine nml h ?_
  intro x82 h
  refine gdn h fun hg h => ?_
  refine ⟨((x80++[128])++(List.replicate (Int.toNat (IntKind.wrap .i64 (x82-1))) (0:Int))),app_cut (cut_full _) rfl,0,(List.length ((x80++[128])++(List.replicate (Int.toNat (IntKind.wrap .i64 (x82-1))) (0:Int)))),⟨rfl,by first|(simp;done)|exact (List.length_append ..).trans (congrArg (_ + ·) (List.length_replicate ..))⟩,?_⟩
  refine .inl ?_
  refine nml h ?_
  intro x83 h
  refine nml h ?_
  intro x84 h
  obtain ⟨x85,g,h⟩:=bnd h
  refine .inr ⟨[5],_,fj (fun x85=>([],[(13,(.rowI .u8 x85))])) x85,0,?_,?_⟩
  ·rintro ⟨x85,rfl⟩
   obtain ⟨r95,c,h⟩:=bnd h
   refine cl [] [13,14,15] (slices_Chunk_byte_byte_2_c c) ?_
   obtain ⟨x90,g,h⟩:=bnd h
   refine .inr ⟨[2,43],_,fj (fun x90=>([],[(5,(.var (.dv (.ints .u64 8 x90))))])) x90,0,?_,?_⟩
   ·rintro ⟨x90,rfl⟩
    exact ⟨[],[],⟨_,some_in h⟩,[],mt⟩
   ·replace h:=g
    intro L7
    refine ⟨Tryz.f114,_,⟨Tryz.func114,rfl,rfl,rfl⟩,?_⟩
    obtain ⟨x91,g,h⟩:=bnd h
    refine .inr ⟨[0,1,2],_,fj (fun x91=>([],[(5,(.var (.dv (.ints .u64 8 x91))))])) x91,0,?_,?_⟩
    ·rintro ⟨x91,rfl⟩
     exact ⟨[],[],⟨_,some_in h⟩,[],mt⟩
    ·replace h:=g
     refine .inl ?_
     refine ⟨[],_,fl (β:=Nat×Int×(List Int)) (fun (n2,x92,x93)=>(shawide_Sum_4_l2 x83 x85 n2 x92 x93=some x91,[(4,(.int .i64 x92))],[(5,(.var (.dv (.ints .u64 8 x93))))],n2)),[],[],⟨(FUEL,0,x78),h⟩,mt,?_⟩
     rintro ⟨⟨_|n2,x92,x93⟩,h⟩
     ·exact no_none h
     replace h:=(shawide_Sum_4_l2.eq_2 x83 x85 x92 x93 n2).symm.trans h
     refine cnd h (fun hb h => ?_) (fun hb h => ?_)
     ·refine .inl ?_
      refine gdn h fun hg h => ?_
      refine ⟨(Int.toNat x92),(Int.toNat (((List.length x83):Int)-x92)),⟨by simp,rfl⟩,?_⟩
      refine nml h ?_
      intro x94 h
      refine gdn h fun hg h => ?_
      refine gdn h fun hg h => ?_
      refine ⟨(Int.toNat x92),(Int.toNat ((IntKind.wrap .i64 (x92+x94))-x92)),⟨by simp,rfl⟩,?_⟩
      refine ⟨rfl,?_⟩
      refine .inl ?_
      refine ⟨rfl,?_⟩
      refine .inl ?_
      obtain ⟨x95,c,h⟩:=bnd h
      refine cl [] [5,13] (shawide_state_take_2_c c) ?_
      exact ⟨⟨(n2,_,_),h⟩,[],mt,Nat.lt_succ_self _⟩
     ·exact ⟨[],[],⟨_,some_in h⟩,[],mt⟩
  ·replace h:=g
   refine .inl ?_
   refine ⟨[],_,fl (β:=Nat×Int×(List Int)) (fun (n1,x86,x87)=>(shawide_Sum_4_l1 x83 x84 n1 x86 x87=some x85,[(26,(.int .i64 x86))],[(13,(.rowI .u8 x87))],n1)),[],[],⟨(FUEL,0,x83),h⟩,mt,?_⟩
   rintro ⟨⟨_|n1,x86,x87⟩,h⟩
   ·exact no_none h
   replace h:=(shawide_Sum_4_l1.eq_2 x83 x84 x86 x87 n1).symm.trans h
   refine cnd h (fun hb h => ?_) (fun hb h => ?_)
   ·refine .inl ?_
    refine nml h ?_
    intro x88 h
    refine gdn h fun hg h => ?_
    refine nml h ?_
    intro x89 h
    refine gdn h fun hg h => ?_
    exact ⟨⟨(n1,_,_),h⟩,[],mt,Nat.lt_succ_self _⟩
   ·exact ⟨[],[],⟨_,some_in h⟩,[],mt⟩
theorem sign_hash_3_c {x66 x67 x68 x69 x70 x71 res} (h:sign_hash_3 x66 x67 x68 x69 x70 x71=some res) :
  FB er 17 [(.vs 0 0 3)] [(.var (.cons (.sl 1 [] ly5 0 x66) (.cons (.sl 2 [] ly5 0 x67) (.cons (.sl 3 [] ly5 0 x68) (.dv .nil))))),(.frzI .u8 x69),(.var (.dv (.ints .u8 32 x70))),(.rowI .u8 x71)] [] (.dv (.ints .u8 32 res)) [(.var (.cons (.sl 1 [] ly5 0 x66) (.cons (.sl 2 [] ly5 0 x67) (.cons (.sl 3 [] ly5 0 x68) (.dv .nil))))),(.frzI .u8 x69),(.var (.dv (.ints .u8 32 x70))),(.rowI .u8 x71)]:=by
 refine fb Tryz.func17 ?_
 unfold sign_hash_3 at h
 obtain ⟨x72,c,h⟩:=bnd h
 refine cl [] [0,1,2,3] (shawide_Sum_4_c c) ?_
 obtain ⟨x73,c,h⟩:=bnd h
 refine cl [] [] (scalar_Reduce_c c) ?_
 obtain rfl:=some_in h
 exact ⟨0,[],[],mt⟩
theorem points_Point_Negate_c {x75 res} (h:points_Point_Negate x75=some res) :
  FB er 28 [(.dv (T_points_Point.dv x75))] [] [] (.dv (T_points_Point.dv res)) []:=by
 refine fb Tryz.func28 ?_
 unfold points_Point_Negate at h
 obtain ⟨x76,c,h⟩:=bnd h
 refine cl [] [] (field_Small_c c) ?_
 obtain ⟨x77,c,h⟩:=bnd h
 refine cl [] [] (field_Elem_Sub_c c) ?_
 obtain ⟨x78,c,h⟩:=bnd h
 refine cl [] [] (field_Elem_Sub_c c) ?_
 obtain rfl:=some_in h
 exact ⟨0,[],[],mt⟩
theorem points_Point_With_c {x80 x81 x82 res} (h:points_Point_With x80 x81 x82=some res) :
  FB er 29 [(.dv (T_points_Point.dv x80)),(.dv (.ints .u8 32 x81)),(.dv (.ints .u8 32 x82))] [] [] (.dv (T_points_Point.dv res)) []:=by
 refine fb Tryz.func29 ?_
 unfold points_Point_With at h
 obtain ⟨x83,c,h⟩:=bnd h
 refine cl [] [] (points_twice_c c) ?_
 obtain ⟨x84,c,h⟩:=bnd h
 refine cl [] [] (points_Base_c c) ?_
 obtain ⟨x85,c,h⟩:=bnd h
 refine cl [] [] (points_Point_plus_c c) ?_
 obtain ⟨x86,c,h⟩:=bnd h
 refine cl [] [] (points_Zero_c c) ?_
 refine And.intro (fun _ => ?_) (fun h0=>Bool.noConfusion h0)
 obtain ⟨x87,c,h⟩:=bnd h
 refine cl [] [] (points_Point_double_c c) ?_
 obtain ⟨x88,c,h⟩:=bnd h
 refine cl [] [] (scalar_Bit_c c) ?_
 obtain ⟨x89,c,h⟩:=bnd h
 refine cl [] [] (scalar_Bit_c c) ?_
 obtain ⟨x90,g,h⟩:=bnd h
 refine .inr ⟨[12,13],_,fj (fun x90=>([],[(7,(.var (.dv (T_points_Point.dv x90))))])) x90,0,?_,?_⟩
 ·rintro ⟨x90,rfl⟩
  refine .inr ⟨[],_,fl (β:=Nat×Int×T_points_Point) (fun (n1,x101,x102)=>(points_Point_With_l1 x80 x81 x82 x83 x84 x85 n1 x101 x102=some res,[(7,(.ptr 4 [] ly42)),(8,(.ptr 5 [] ly44)),(9,(.ptr 6 [] ly44)),(10,(.ptr 7 [] ly44)),(11,(.int .i64 x101))],[(7,(.var (.dv (T_points_Point.dv x102))))],n1)),[],[],⟨(FUEL,254,x90),h⟩,mt,?_⟩
  rintro ⟨⟨_|n1,x101,x102⟩,h⟩
  ·exact no_none h
  replace h:=(points_Point_With_l1.eq_2 x80 x81 x82 x83 x84 x85 x101 x102 n1).symm.trans h
  refine cnd h (fun hb h => ?_) (fun hb h => ?_)
  ·obtain ⟨x103,c,h⟩:=bnd h
   refine cl [] [] (points_Point_double_c c) ?_
   obtain ⟨x104,c,h⟩:=bnd h
   refine cl [] [] (scalar_Bit_c c) ?_
   obtain ⟨x105,c,h⟩:=bnd h
   refine cl [] [] (scalar_Bit_c c) ?_
   obtain ⟨x106,g,h⟩:=bnd h
   refine .inr ⟨[12,13],_,fj (fun x106=>([],[(7,(.var (.dv (T_points_Point.dv x106))))])) x106,0,?_,?_⟩
   ·rintro ⟨x106,rfl⟩
    exact ⟨⟨(n1,_,_),h⟩,[],mt,Nat.lt_succ_self _⟩
   ·replace h:=g
    refine cnd h (fun hb h => ?_) (fun hb h => ?_)
    ·obtain ⟨x107,g,h⟩:=bnd h
     refine .inr ⟨[],_,fj (fun x107=>([],[(7,(.var (.dv (T_points_Point.dv x107))))])) x107,0,?_,?_⟩
     ·rintro ⟨x107,rfl⟩
      exact ⟨[],[],⟨_,some_in h⟩,[],mt⟩
     ·replace h:=g
      refine cnd h (fun hb h => ?_) (fun hb h => ?_)
      ·obtain ⟨x108,c,h⟩:=bnd h
       refine cl [] [] (points_Point_plus_c c) ?_
       exact ⟨[],[],⟨_,some_in h⟩,[],mt⟩
      ·obtain ⟨x109,g,h⟩:=bnd h
       refine .inr ⟨[],_,fj (fun x109=>([],[(7,(.var (.dv (T_points_Point.dv x109))))])) x109,0,?_,?_⟩
       ·rintro ⟨x109,rfl⟩
        exact ⟨[],[],⟨_,some_in h⟩,[],mt⟩
       ·replace h:=g
        refine cnd h (fun hb h => ?_) (fun hb h => ?_)
        ·obtain ⟨x110,c,h⟩:=bnd h
         refine cl [] [] (points_Point_plus_c c) ?_
         exact ⟨[],[],⟨_,some_in h⟩,[],mt⟩
        ·obtain ⟨x111,g,h⟩:=bnd h
         refine .inr ⟨[],_,fj (fun x111=>([],[(7,(.var (.dv (T_points_Point.dv x111))))])) x111,0,?_,?_⟩
         ·rintro ⟨x111,rfl⟩
          exact ⟨[],[],⟨_,some_in h⟩,[],mt⟩
         ·replace h:=g
          refine cnd h (fun hb h => ?_) (fun hb h => ?_)
          ·obtain ⟨x112,c,h⟩:=bnd h
           refine cl [] [] (points_Point_plus_c c) ?_
           exact ⟨[],[],⟨_,some_in h⟩,[],mt⟩
          ·exact ⟨[],[],⟨_,some_in h⟩,[],mt⟩
    ·obtain ⟨x113,g,h⟩:=bnd h
     refine .inr ⟨[],_,fj (fun x113=>([],[(7,(.var (.dv (T_points_Point.dv x113))))])) x113,0,?_,?_⟩
     ·rintro ⟨x113,rfl⟩
      exact ⟨[],[],⟨_,some_in h⟩,[],mt⟩
     ·replace h:=g
      refine cnd h (fun hb h => ?_) (fun hb h => ?_)
      ·obtain ⟨x114,c,h⟩:=bnd h
       refine cl [] [] (points_Point_plus_c c) ?_
       exact ⟨[],[],⟨_,some_in h⟩,[],mt⟩
      ·obtain ⟨x115,g,h⟩:=bnd h
       refine .inr ⟨[],_,fj (fun x115=>([],[(7,(.var (.dv (T_points_Point.dv x115))))])) x115,0,?_,?_⟩
       ·rintro ⟨x115,rfl⟩
        exact ⟨[],[],⟨_,some_in h⟩,[],mt⟩
       ·replace h:=g
        refine cnd h (fun hb h => ?_) (fun hb h => ?_)
        ·obtain ⟨x116,c,h⟩:=bnd h
         refine cl [] [] (points_Point_plus_c c) ?_
         exact ⟨[],[],⟨_,some_in h⟩,[],mt⟩
        ·exact ⟨[],[],⟨_,some_in h⟩,[],mt⟩
  ·obtain rfl:=some_in h
   exact ⟨0,[],[],mt⟩
 ·replace h:=g
  refine cnd h (fun hb h => ?_) (fun hb h => ?_)
  ·obtain ⟨x91,g,h⟩:=bnd h
   refine .inr ⟨[],_,fj (fun x91=>([],[(7,(.var (.dv (T_points_Point.dv x91))))])) x91,0,?_,?_⟩
   ·rintro ⟨x91,rfl⟩
    exact ⟨[],[],⟨_,some_in h⟩,[],mt⟩
   ·replace h:=g
    refine cnd h (fun hb h => ?_) (fun hb h => ?_)
    ·obtain ⟨x92,c,h⟩:=bnd h
     refine cl [] [] (points_Point_plus_c c) ?_
     exact ⟨[],[],⟨_,some_in h⟩,[],mt⟩
    ·obtain ⟨x93,g,h⟩:=bnd h
     refine .inr ⟨[],_,fj (fun x93=>([],[(7,(.var (.dv (T_points_Point.dv x93))))])) x93,0,?_,?_⟩
     ·rintro ⟨x93,rfl⟩
      exact ⟨[],[],⟨_,some_in h⟩,[],mt⟩
     ·replace h:=g
      refine cnd h (fun hb h => ?_) (fun hb h => ?_)
      ·obtain ⟨x94,c,h⟩:=bnd h
       refine cl [] [] (points_Point_plus_c c) ?_
       exact ⟨[],[],⟨_,some_in h⟩,[],mt⟩
      ·obtain ⟨x95,g,h⟩:=bnd h
       refine .inr ⟨[],_,fj (fun x95=>([],[(7,(.var (.dv (T_points_Point.dv x95))))])) x95,0,?_,?_⟩
       ·rintro ⟨x95,rfl⟩
        exact ⟨[],[],⟨_,some_in h⟩,[],mt⟩
       ·replace h:=g
        refine cnd h (fun hb h => ?_) (fun hb h => ?_)
        ·obtain ⟨x96,c,h⟩:=bnd h
         refine cl [] [] (points_Point_plus_c c) ?_
         exact ⟨[],[],⟨_,some_in h⟩,[],mt⟩
        ·exact ⟨[],[],⟨_,some_in h⟩,[],mt⟩
  ·obtain ⟨x97,g,h⟩:=bnd h
   refine .inr ⟨[],_,fj (fun x97=>([],[(7,(.var (.dv (T_points_Point.dv x97))))])) x97,0,?_,?_⟩
   ·rintro ⟨x97,rfl⟩
    exact ⟨[],[],⟨_,some_in h⟩,[],mt⟩
   ·replace h:=g
    refine cnd h (fun hb h => ?_) (fun hb h => ?_)
    ·obtain ⟨x98,c,h⟩:=bnd h
     refine cl [] [] (points_Point_plus_c c) ?_
     exact ⟨[],[],⟨_,some_in h⟩,[],mt⟩
    ·obtain ⟨x99,g,h⟩:=bnd h
     refine .inr ⟨[],_,fj (fun x99=>([],[(7,(.var (.dv (T_points_Point.dv x99))))])) x99,0,?_,?_⟩
     ·rintro ⟨x99,rfl⟩
      exact ⟨[],[],⟨_,some_in h⟩,[],mt⟩
     ·replace h:=g
      refine cnd h (fun hb h => ?_) (fun hb h => ?_)
      ·obtain ⟨x100,c,h⟩:=bnd h
       refine cl [] [] (points_Point_plus_c c) ?_
       exact ⟨[],[],⟨_,some_in h⟩,[],mt⟩
      ·exact ⟨[],[],⟨_,some_in h⟩,[],mt⟩
theorem sign_Verify_c {x33 x34 x35 x36 res} (h:sign_Verify x33 x34 x35 x36=some res) :
  FB er 10 [(.dv (.ints .u8 32 x33)),(.dv (.ints .u8 64 x34)),(.vs 0 0 1)] [(.var (.cons (.sl 1 [] ly5 0 x35) (.dv .nil))),(.frzI .u8 x36)] [] (.bl res) [(.var (.cons (.sl 1 [] ly5 0 x35) (.dv .nil))),(.frzI .u8 x36)]:=by
 refine fb Tryz.func10 ?_
 unfold sign_Verify at h
 refine .inr ?_
 refine dc ?_
 refine ⟨x34,rfl,32,32,⟨rfl,rfl⟩,?_⟩
 obtain ⟨hg,h⟩:=gd h
 refine And.intro (by first|exact hg|simpa using hg) ?_
 refine ⟨(List.take 32 (List.take 32 (List.drop 32 x34))),by first|rfl|simp,?_⟩
 obtain ⟨r45,c,h⟩:=bnd h
 rcases r45 with x37|x45
 ·refine cl [] [] (points_Read_c c) ?_
  refine And.intro (fun h0=>Bool.noConfusion h0) (fun _ => ?_)
  obtain ⟨x38,c,h⟩:=bnd h
  refine cl [] [] (scalar_Right_c c) ?_
  refine cnd h (fun hb h => ?_) (fun hb h => ?_)
  ·obtain rfl:=some_in h
   exact ⟨0,[],[],mt⟩
  ·refine .inl ?_
   refine dc ?_
   refine dc ?_
   refine ⟨0,32,⟨rfl,rfl⟩,?_⟩
   refine .inl ?_
   refine And.intro (by omega) ?_
   refine ⟨0,32,⟨rfl,rfl⟩,?_⟩
   obtain ⟨x39,c,h⟩:=bnd h
   refine cl [] [0,1,6] (slices_Concat_byte_byte_2_c c) ?_
   refine .inl ?_
   refine .inr ?_
   obtain ⟨x40,c,h⟩:=bnd h
   refine cl [] [7,3,2,6] (sign_hash_3_c c) ?_
   obtain ⟨x41,c,h⟩:=bnd h
   refine cl [] [] (points_Point_Negate_c c) ?_
   obtain ⟨x42,c,h⟩:=bnd h
   refine cl [] [] (points_Point_With_c c) ?_
   obtain ⟨x43,c,h⟩:=bnd h
   refine cl [] [] (points_Point_Bytes_c c) ?_
   refine .inl ?_
   refine And.intro (by omega) ?_
   refine ⟨0,32,⟨rfl,rfl⟩,?_⟩
   refine .inl ?_
   refine dc ?_
   refine dc ?_
   refine ⟨0,32,⟨rfl,rfl⟩,?_⟩
   obtain ⟨x44,c,h⟩:=bnd h
   refine cl [true,true] [] (words_Equal_c c) ?_
   obtain rfl:=some_in h
   exact ⟨0,[],[],mt⟩
 ·refine cl [] [] (points_Read_c c) ?_
  refine And.intro (fun _ => ?_) (fun h0=>Bool.noConfusion h0)
  obtain rfl:=some_in h
  exact ⟨0,[],[],mt⟩
theorem fl13_alive_c {res} (h:fl13_alive=some res) :
  FB er 5 [] [] [] (.bl res) []:=by
 refine fb Tryz.func5 ?_
 unfold fl13_alive at h
 refine .inl ?_
 refine ⟨0,(List.length [97]),⟨rfl,rfl⟩,?_⟩
 refine .inl ?_
 refine .inr ?_
 obtain ⟨x4,c,h⟩:=bnd h
 refine cl [] [1,0] (sign_Sign_c c) ?_
 obtain ⟨x5,c,h⟩:=bnd h
 refine cl [] [] (sign_Public_c c) ?_
 refine .inl ?_
 refine ⟨0,(List.length [97]),⟨rfl,rfl⟩,?_⟩
 refine .inl ?_
 refine .inr ?_
 obtain ⟨x6,c,h⟩:=bnd h
 refine cl [] [4,3] (sign_Verify_c c) ?_
 refine cnd h (fun hb h => ?_) (fun hb h => ?_)
 ·obtain ⟨x7,c,h⟩:=bnd h
  refine cl [] [] (sign_Public_c c) ?_
  refine .inl ?_
  refine ⟨0,(List.length [97]),⟨rfl,rfl⟩,?_⟩
  refine .inl ?_
  refine .inr ?_
  obtain ⟨x8,c,h⟩:=bnd h
  refine cl [] [6,5] (sign_Verify_c c) ?_
  obtain rfl:=some_in h
  exact ⟨0,[],[],mt⟩
 ·obtain rfl:=some_in h
  exact ⟨0,[],[],mt⟩
theorem slices_Concat_byte_byte_6_c {x17 res} (h:slices_Concat_byte_byte_6 x17=some res) :
  FB er 16 [(.dv (.ro ly24 (List.length x17) (rw_ (fun q => .roI .u8 q) [] x17)))] [] [0] (.sl 0 [] ly5 0 res.1) [(.rowI .u8 res.2)]:=by
 refine fb Tryz.func16 ?_
 unfold slices_Concat_byte_byte_6 at h
 obtain ⟨x18,g,h⟩:=bnd h
 refine .inr ⟨[10],_,fj (fun x18=>([(3,(.int .i64 x18))],[])) x18,0,?_,?_⟩
 ·rintro ⟨x18,rfl⟩
  obtain ⟨⟨x22,x23⟩,c,h⟩:=bnd h
  refine cl [] [0] (slices_Grow_byte_byte_2_c c) ?_
  refine .inl ?_
  obtain ⟨r2_1_25,hl2_25,hr2_25⟩:=bnd h
  refine .inr ⟨[24,26],(({p:Unit // (Sum.inl p)=r2_1_25})⊕({p:Nat×(List Int) // (Sum.inr p)=r2_1_25})),⟨fun|(Sum.inl (⟨(),_⟩))=>[(6,(.sl 0 [] ly5 0 x22)),(24,(.sl 0 [] ly5 0 x22))]|(Sum.inr (⟨(x24,x25),_⟩))=>[(6,(.sl 0 [] ly5 0 x24))],fun|(Sum.inl (⟨(),_⟩))=>[]|(Sum.inr (⟨(x24,x25),_⟩))=>[(0,(.rowI .u8 x25))],fun _=>0⟩,0,?_,?_⟩
  ·rintro (⟨⟨⟩,hp⟩|⟨⟨x24,x25⟩,hp⟩)
   ·subst hp
    replace h:=hr2_25
    obtain rfl:=some_in h
    exact ⟨0,[],[],mt⟩
   ·subst hp
    replace h:=hr2_25
    obtain rfl:=some_in h
    exact ⟨0,[],[],mt⟩
  ·replace h:=hl2_25
   refine .inl ?_
   refine ⟨[24],_,fl (β:=Nat×Nat×Int×(List Int)) (fun (n2,x26,x27,x28)=>(slices_Concat_byte_byte_6_l2 x17 n2 x26 x27 x28=some r2_1_25,[(6,(.sl 0 [] ly5 0 x26)),(27,(.int .i64 x27))],[(0,(.rowI .u8 x28))],n2)),[],[],⟨(FUEL,x22,0,x23),h⟩,mt,?_⟩
   rintro ⟨⟨_|n2,x26,x27,x28⟩,h⟩
   ·exact no_none h
   replace h:=(slices_Concat_byte_byte_6_l2.eq_2 x17 x26 x27 x28 n2).symm.trans h
   refine cnd h (fun hb h => ?_) (fun hb h => ?_)
   ·refine .inl ?_
    refine gdn h fun hg h => ?_
    obtain ⟨hg,h⟩:=gd h
    refine And.intro (hg) ?_
    obtain ⟨hg2,h⟩:=gd h
    refine ⟨((List.take x26 x28)++(List.getD x17 (Int.toNat x27) [])),app_cut (cut_0 _ _) (rfl),0,(List.length ((List.take x26 x28)++(List.getD x17 (Int.toNat x27) []))),⟨rfl,cut_ln hg2 (rfl)⟩,?_⟩
    refine .inl ?_
    exact ⟨⟨(n2,_,_,_),h⟩,[(0,1)],mt,Nat.lt_succ_self _⟩
   ·exact ⟨[],[],(Sum.inr (⟨_,some_in h⟩)),[],mt⟩
 ·replace h:=g
  refine .inl ?_
  refine ⟨[],_,fl (β:=Nat×Int×Int) (fun (n1,x19,x20)=>(slices_Concat_byte_byte_6_l1 x17 n1 x19 x20=some x18,[(3,(.int .i64 x19)),(11,(.int .i64 x20))],[],n1)),[],[],⟨(FUEL,0,0),h⟩,mt,?_⟩
  rintro ⟨⟨_|n1,x19,x20⟩,h⟩
  ·exact no_none h
  replace h:=(slices_Concat_byte_byte_6_l1.eq_2 x17 x19 x20 n1).symm.trans h
  refine cnd h (fun hb h => ?_) (fun hb h => ?_)
  ·refine .inl ?_
   refine gdn h fun hg h => ?_
   refine nml h ?_
   intro x21 h
   refine .inl ?_
   refine cnd h (fun hb h => ?_) (fun hb h => ?_)
   ·exact no_none h
   ·exact ⟨⟨(n1,_,_),h⟩,[],mt,Nat.lt_succ_self _⟩
  ·exact ⟨[],[],⟨_,some_in h⟩,[],mt⟩
theorem sign_Sign_2_c {x10 x11 res} (h:sign_Sign_2 x10 x11=some res) :
  FB er 6 [(.dv (.ints .u8 32 x10)),(.dv (.ro ly24 (List.length x11) (rw_ (fun q => .roI .u8 q) [] x11)))] [] [] (.dv (.ints .u8 64 res)) []:=by
 refine fb Tryz.func6 ?_
 unfold sign_Sign_2 at h
 obtain ⟨⟨x12,x13⟩,c,h⟩:=bnd h
 refine cl [] [2] (sign_secret_c c) ?_
 refine .inl ?_
 obtain ⟨x14,c,h⟩:=bnd h
 refine cl [] [] (points_Base_c c) ?_
 obtain ⟨x15,c,h⟩:=bnd h
 refine cl [] [] (points_Point_Times_c c) ?_
 obtain ⟨x16,c,h⟩:=bnd h
 refine cl [] [] (points_Point_Bytes_c c) ?_
 obtain ⟨⟨x17,x18⟩,c,h⟩:=bnd h
 refine cl [] [5] (slices_Concat_byte_byte_6_c c) ?_
 refine .inl ?_
 refine .inr ?_
 obtain ⟨x19,c,h⟩:=bnd h
 refine cl [] [6,2,5] (sign_hash_c c) ?_
 obtain ⟨x20,c,h⟩:=bnd h
 refine cl [] [] (points_Base_c c) ?_
 obtain ⟨x21,c,h⟩:=bnd h
 refine cl [] [] (points_Point_Times_c c) ?_
 obtain ⟨x22,c,h⟩:=bnd h
 refine cl [] [] (points_Point_Bytes_c c) ?_
 refine .inl ?_
 refine And.intro (by omega) ?_
 refine ⟨0,32,⟨rfl,rfl⟩,?_⟩
 refine .inl ?_
 refine And.intro (by omega) ?_
 refine ⟨0,32,⟨rfl,rfl⟩,?_⟩
 refine .inr ?_
 obtain ⟨x23,c,h⟩:=bnd h
 refine cl [] [9,8,4,5] (sign_hash_2_c c) ?_
 obtain ⟨x24,c,h⟩:=bnd h
 refine cl [] [] (scalar_Times_c c) ?_
 obtain ⟨x25,c,h⟩:=bnd h
 refine cl [] [] (scalar_Add_c c) ?_
 refine .inl ?_
 refine And.intro (by omega) ?_
 refine ⟨0,64,⟨rfl,rfl⟩,?_⟩
 refine .inl ?_
 refine And.intro (by omega) ?_
 refine ⟨0,32,⟨rfl,rfl⟩,?_⟩
 refine nml h ?_
 intro x26 h
 refine .inl ?_
 refine dc ?_
 refine ⟨32,32,⟨rfl,rfl⟩,?_⟩
 refine .inl ?_
 refine And.intro (by omega) ?_
 refine ⟨0,32,⟨rfl,rfl⟩,?_⟩
 obtain rfl:=some_in h
 exact ⟨0,[],[],mt⟩
theorem fr03_constants_c {res} (h:fr03_constants=some res) :
  FB er 92 [] [] [0] (.sl 0 [] ly39 0 (List.length res)) [(.rowI .u64 res)]:=by
 refine fb Tryz.func92 ?_
 unfold fr03_constants at h
 refine .inl ?_
 refine nml h ?_
 intro x32 h
 obtain rfl:=some_in h
 exact ⟨0,[],[],mt⟩
theorem fr03_Padded_c {x35 res} (h:fr03_Padded x35=some res) :
  FB er 93 [(.dv (.roI .u8 x35))] [] [5] (.sl 5 [] ly5 0 (List.length res)) [(.rowI .u8 res)]:=by
 refine fb Tryz.func93 ?_
 unfold fr03_Padded at h
 refine .inl ?_
 obtain ⟨hg,h⟩:=gd h
 refine And.intro (hg) ?_
 refine ⟨(([]:List Int)++x35),app_cut (cut_full _) (rfl),0,(List.length (([]:List Int)++x35)),⟨rfl,app_ln (rfl)⟩,?_⟩
 refine .inl ?_
 refine .inl ?_
 obtain ⟨hg,h⟩:=gd h
 refine And.intro (le_of_ln2 (ln_full [128]) hg) ?_
 refine ⟨((([]:List Int)++x35)++[128]),app_cut (cut_full _) (cut_full [128]),0,(List.length ((([]:List Int)++x35)++[128])),⟨rfl,app_ln (ln_full [128])⟩,?_⟩
 refine .inl ?_
 obtain ⟨r1_0_36,hl1_36,hr1_36⟩:=bnd h
 refine .inr ⟨[10],(({p:Unit // (Sum.inl p)=r1_0_36})⊕({p:(List Int) // (Sum.inr p)=r1_0_36})),⟨fun|(Sum.inl (⟨(),_⟩))=>[(3,(.sl 3 [] ly5 0 (List.length ((([]:List Int)++x35)++[128])))),(10,(.sl 3 [] ly5 0 (List.length ((([]:List Int)++x35)++[128]))))]|(Sum.inr (⟨x36,_⟩))=>[(3,(.sl 3 [] ly5 0 (List.length x36)))],fun|(Sum.inl (⟨(),_⟩))=>[]|(Sum.inr (⟨x36,_⟩))=>[(3,(.rowI .u8 x36))],fun _=>0⟩,0,?_,?_⟩
 ·rintro (⟨⟨⟩,hp⟩|⟨x36,hp⟩)
  ·subst hp
   replace h:=hr1_36
   refine .inl ?_
   obtain ⟨hg,h⟩:=gd h
   refine And.intro (le_of_ln2 (ln_full [0,0,0,0,0,0,0,0]) hg) ?_
   refine ⟨(((([]:List Int)++x35)++[128])++[0,0,0,0,0,0,0,0]),app_cut (cut_full _) (cut_full [0,0,0,0,0,0,0,0]),0,(List.length (((([]:List Int)++x35)++[128])++[0,0,0,0,0,0,0,0])),⟨rfl,app_ln (ln_full [0,0,0,0,0,0,0,0])⟩,?_⟩
   refine .inl ?_
   refine nml h ?_
   intro x38 h
   refine nml h ?_
   intro x39 h
   obtain ⟨x40,g,h⟩:=bnd h
   refine .inr ⟨[4,20],_,fj (fun x40=>([(3,(.sl 5 [] ly5 0 (List.length x40)))],[(5,(.rowI .u8 x40))])) x40,0,?_,?_⟩
   ·rintro ⟨x40,rfl⟩
    obtain rfl:=some_in h
    exact ⟨0,[],[],mt⟩
   ·replace h:=g
    refine .inl ?_
    refine ⟨[20],_,fl (β:=Nat×Int×(List Int)) (fun (n2,x41,x42)=>(fr03_Padded_l2 x39 n2 x41 x42=some x40,[(3,(.sl 5 [] ly5 0 (List.length x42))),(5,(.int .i64 x41))],[(5,(.rowI .u8 x42))],n2)),[],[],⟨(FUEL,7,x38),h⟩,mt,?_⟩
    rintro ⟨⟨_|n2,x41,x42⟩,h⟩
    ·exact no_none h
    replace h:=(fr03_Padded_l2.eq_2 x39 x41 x42 n2).symm.trans h
    refine cnd h (fun hb h => ?_) (fun hb h => ?_)
    ·refine .inl ?_
     refine gdn h fun hg h => ?_
     refine nml h ?_
     intro x43 h
     refine .inl ?_
     obtain ⟨hg,h⟩:=gd h
     refine And.intro (le_of_ln2 (ln_full [(IntKind.wrap .u8 x43)]) hg) ?_
     refine ⟨(x42++[(IntKind.wrap .u8 x43)]),app_cut (cut_full _) (cut_full [(IntKind.wrap .u8 x43)]),0,(List.length (x42++[(IntKind.wrap .u8 x43)])),⟨rfl,app_ln (ln_full [(IntKind.wrap .u8 x43)])⟩,?_⟩
     refine .inl ?_
     exact ⟨⟨(n2,_,_),h⟩,[(5,7)],mt,Nat.lt_succ_self _⟩
    ·exact ⟨[],[],⟨_,some_in h⟩,[],mt⟩
  ·subst hp
   replace h:=hr1_36
   refine .inl ?_
   obtain ⟨hg,h⟩:=gd h
   refine And.intro (le_of_ln2 (ln_full [0,0,0,0,0,0,0,0]) hg) ?_
   refine ⟨(x36++[0,0,0,0,0,0,0,0]),app_cut (cut_full _) (cut_full [0,0,0,0,0,0,0,0]),0,(List.length (x36++[0,0,0,0,0,0,0,0])),⟨rfl,app_ln (ln_full [0,0,0,0,0,0,0,0])⟩,?_⟩
   refine .inl ?_
   refine nml h ?_
   intro x44 h
   obtain ⟨x45,g,h⟩:=bnd h
   refine .inr ⟨[4,20],_,fj (fun x45=>([(3,(.sl 5 [] ly5 0 (List.length x45)))],[(5,(.rowI .u8 x45))])) x45,0,?_,?_⟩
   ·rintro ⟨x45,rfl⟩
    obtain rfl:=some_in h
    exact ⟨0,[],[],mt⟩
   ·replace h:=g
    refine .inl ?_
    refine ⟨[20],_,fl (β:=Nat×Int×(List Int)) (fun (n3,x46,x47)=>(fr03_Padded_l3 x44 n3 x46 x47=some x45,[(3,(.sl 5 [] ly5 0 (List.length x47))),(5,(.int .i64 x46))],[(5,(.rowI .u8 x47))],n3)),[],[],⟨(FUEL,7,(x36++[0,0,0,0,0,0,0,0])),h⟩,mt,?_⟩
    rintro ⟨⟨_|n3,x46,x47⟩,h⟩
    ·exact no_none h
    replace h:=(fr03_Padded_l3.eq_2 x44 x46 x47 n3).symm.trans h
    refine cnd h (fun hb h => ?_) (fun hb h => ?_)
    ·refine .inl ?_
     refine gdn h fun hg h => ?_
     refine nml h ?_
     intro x48 h
     refine .inl ?_
     obtain ⟨hg,h⟩:=gd h
     refine And.intro (le_of_ln2 (ln_full [(IntKind.wrap .u8 x48)]) hg) ?_
     refine ⟨(x47++[(IntKind.wrap .u8 x48)]),app_cut (cut_full _) (cut_full [(IntKind.wrap .u8 x48)]),0,(List.length (x47++[(IntKind.wrap .u8 x48)])),⟨rfl,app_ln (ln_full [(IntKind.wrap .u8 x48)])⟩,?_⟩
     refine .inl ?_
     exact ⟨⟨(n3,_,_),h⟩,[(5,7)],mt,Nat.lt_succ_self _⟩
    ·exact ⟨[],[],⟨_,some_in h⟩,[],mt⟩
 ·replace h:=hl1_36
  refine .inl ?_
  refine ⟨[10],_,fl (β:=Nat×(List Int)) (fun (n1,x37)=>(fr03_Padded_l1 n1 x37=some r1_0_36,[(3,(.sl 3 [] ly5 0 (List.length x37)))],[(3,(.rowI .u8 x37))],n1)),[],[],⟨(FUEL,((([]:List Int)++x35)++[128])),h⟩,mt,?_⟩
  rintro ⟨⟨_|n1,x37⟩,h⟩
  ·exact no_none h
  replace h:=(fr03_Padded_l1.eq_2 x37 n1).symm.trans h
  refine dc ?_
  refine cnd h (fun hb h => ?_) (fun hb h => ?_)
  ·refine .inl ?_
   refine .inl ?_
   obtain ⟨hg,h⟩:=gd h
   refine And.intro (le_of_ln2 (ln_full [0]) hg) ?_
   refine ⟨(x37++[0]),app_cut (cut_full _) (cut_full [0]),0,(List.length (x37++[0])),⟨rfl,app_ln (ln_full [0])⟩,?_⟩
   refine .inl ?_
   exact ⟨⟨(n1,_),h⟩,[(3,5)],mt,Nat.lt_succ_self _⟩
  ·exact ⟨[],[],(Sum.inr (⟨_,some_in h⟩)),[],mt⟩
theorem fr03_turn_c {x53 x54 res} (h:fr03_turn x53 x54=some res) :
  FB er 94 [(.int .u64 x53),(.int .u64 x54)] [] [] (.int .u64 res) []:=by
 refine fb Tryz.func94 ?_
 unfold fr03_turn at h
 refine gdn h fun hg h => ?_
 refine nml h ?_
 intro x55 h
 refine gdn h fun hg h => ?_
 refine nml h ?_
 intro x56 h
 obtain rfl:=some_in h
 exact ⟨0,[],[],mt⟩
theorem fr03_Sum_c {x31 res} (h:fr03_Sum x31=some res) :
  FB er 56 [(.dv (.roI .u8 x31))] [] [] (.dv (.ints .u8 64 res)) []:=by
 refine fb Tryz.func56 ?_
 unfold fr03_Sum at h
 obtain ⟨x32,c,h⟩:=bnd h
 refine cl [] [1] (fr03_constants_c c) ?_
 refine .inl ?_
 refine .inl ?_
 refine nml h ?_
 intro x33 h
 obtain ⟨x34,c,h⟩:=bnd h
 refine cl [] [3] (fr03_Padded_c c) ?_
 refine .inl ?_
 obtain ⟨x35,g,h⟩:=bnd h
 refine .inr ⟨[3,5],_,fj (fun x35=>([],[(2,(.rowI .u64 x35))])) x35,0,?_,?_⟩
 ·rintro ⟨x35,rfl⟩
  obtain ⟨x92,g,h⟩:=bnd h
  refine .inr ⟨[225],_,fj (fun x92=>([],[(4,(.var (.dv (.ints .u8 64 x92))))])) x92,0,?_,?_⟩
  ·rintro ⟨x92,rfl⟩
   obtain rfl:=some_in h
   exact ⟨0,[],[],mt⟩
  ·replace h:=g
   refine .inl ?_
   refine ⟨[],_,fl (β:=Nat×Int×(List Int)) (fun (n6,x93,x94)=>(fr03_Sum_l6 x33 x35 n6 x93 x94=some x92,[(226,(.int .i64 x93))],[(4,(.var (.dv (.ints .u8 64 x94))))],n6)),[],[],⟨(FUEL,0,(List.replicate 64 (0:Int))),h⟩,mt,?_⟩
   rintro ⟨⟨_|n6,x93,x94⟩,h⟩
   ·exact no_none h
   replace h:=(fr03_Sum_l6.eq_2 x33 x35 x93 x94 n6).symm.trans h
   refine cnd h (fun hb h => ?_) (fun hb h => ?_)
   ·refine .inl ?_
    refine gdn h fun hg h => ?_
    obtain ⟨x95,g,h⟩:=bnd h
    refine .inr ⟨[26,27],_,fj (fun x95=>([],[(4,(.var (.dv (.ints .u8 64 x95))))])) x95,0,?_,?_⟩
    ·rintro ⟨x95,rfl⟩
     exact ⟨⟨(n6,_,_),h⟩,[],mt,Nat.lt_succ_self _⟩
    ·replace h:=g
     refine .inl ?_
     refine ⟨[],_,fl (β:=Nat×Int×(List Int)) (fun (n7,x96,x97)=>(fr03_Sum_l7 x35 x93 n7 x96 x97=some x95,[(28,(.int .i64 x96))],[(4,(.var (.dv (.ints .u8 64 x97))))],n7)),[],[],⟨(FUEL,0,x94),h⟩,mt,?_⟩
     rintro ⟨⟨_|n7,x96,x97⟩,h⟩
     ·exact no_none h
     replace h:=(fr03_Sum_l7.eq_2 x35 x93 x96 x97 n7).symm.trans h
     refine cnd h (fun hb h => ?_) (fun hb h => ?_)
     ·refine .inl ?_
      refine nml h ?_
      intro x98 h
      refine gdn h fun hg h => ?_
      refine nml h ?_
      intro x99 h
      refine gdn h fun hg h => ?_
      refine nml h ?_
      intro x100 h
      exact ⟨⟨(n7,_,_),h⟩,[],mt,Nat.lt_succ_self _⟩
     ·exact ⟨[],[],⟨_,some_in h⟩,[],mt⟩
   ·exact ⟨[],[],⟨_,some_in h⟩,[],mt⟩
 ·replace h:=g
  refine .inl ?_
  refine ⟨[],_,fl (β:=Nat×Int×(List Int)) (fun (n1,x36,x37)=>(fr03_Sum_l1 x32 x33 x34 n1 x36 x37=some x35,[(6,(.int .i64 x36))],[(2,(.rowI .u64 x37))],n1)),[],[],⟨(FUEL,0,x33),h⟩,mt,?_⟩
  rintro ⟨⟨_|n1,x36,x37⟩,h⟩
  ·exact no_none h
  replace h:=(fr03_Sum_l1.eq_2 x32 x33 x34 x36 x37 n1).symm.trans h
  refine cnd h (fun hb h => ?_) (fun hb h => ?_)
  ·refine .inl ?_
   refine dc ?_
   refine .inl ?_
   refine ⟨(List.replicate 80 (0:Int)),rfl,0,(List.length (List.replicate 80 (0:Int))),⟨rfl,List.length_replicate ..⟩,?_⟩
   refine .inl ?_
   obtain ⟨x38,g,h⟩:=bnd h
   refine .inr ⟨[7,39],_,fj (fun x38=>([(7,(.sl 4 [] ly39 0 (List.length x38))),(39,(.sl 4 [] ly39 0 (List.length x38)))],[(4,(.rowI .u64 x38))])) x38,0,?_,?_⟩
   ·rintro ⟨x38,rfl⟩
    refine gdn h fun hg h => ?_
    refine gdn h fun hg h => ?_
    refine gdn h fun hg h => ?_
    refine gdn h fun hg h => ?_
    refine gdn h fun hg h => ?_
    refine gdn h fun hg h => ?_
    refine gdn h fun hg h => ?_
    refine gdn h fun hg h => ?_
    obtain ⟨⟨x57,x58,x59,x60,x61,x62,x63,x64⟩,g,h⟩:=bnd h
    refine .inr ⟨[],_,fj (fun (x57,x58,x59,x60,x61,x62,x63,x64)=>([(12,(.int .u64 x57)),(13,(.int .u64 x58)),(14,(.int .u64 x59)),(15,(.int .u64 x60)),(16,(.int .u64 x61)),(17,(.int .u64 x62)),(18,(.int .u64 x63)),(19,(.int .u64 x64))],[])) (x57,x58,x59,x60,x61,x62,x63,x64),0,?_,?_⟩
    ·rintro ⟨_,rfl⟩
     refine .inl ?_
     refine nml h ?_
     intro x86 h
     obtain ⟨x87,g,h⟩:=bnd h
     refine .inr ⟨[209],_,fj (fun x87=>([],[(2,(.rowI .u64 x87))])) x87,0,?_,?_⟩
     ·rintro ⟨x87,rfl⟩
      exact ⟨⟨(n1,_,_),h⟩,[],mt,Nat.lt_succ_self _⟩
     ·replace h:=g
      refine .inl ?_
      refine ⟨[],_,fl (β:=Nat×Int×(List Int)) (fun (n5,x88,x89)=>(fr03_Sum_l5 x33 x57 x58 x59 x60 x61 x62 x63 x64 x86 n5 x88 x89=some x87,[(210,(.int .i64 x88))],[(2,(.rowI .u64 x89))],n5)),[],[],⟨(FUEL,0,x37),h⟩,mt,?_⟩
      rintro ⟨⟨_|n5,x88,x89⟩,h⟩
      ·exact no_none h
      replace h:=(fr03_Sum_l5.eq_2 x33 x57 x58 x59 x60 x61 x62 x63 x64 x86 x88 x89 n5).symm.trans h
      refine cnd h (fun hb h => ?_) (fun hb h => ?_)
      ·refine .inl ?_
       refine gdn h fun hg h => ?_
       refine nml h ?_
       intro x90 h
       refine gdn h fun hg h => ?_
       refine nml h ?_
       intro x91 h
       refine gdn h fun hg h => ?_
       exact ⟨⟨(n5,_,_),h⟩,[],mt,Nat.lt_succ_self _⟩
      ·exact ⟨[],[],⟨_,some_in h⟩,[],mt⟩
    ·replace h:=g
     refine .inl ?_
     refine ⟨[],_,fl (β:=Nat×Int×Int×Int×Int×Int×Int×Int×Int×Int) (fun (n4,x65,x66,x67,x68,x69,x70,x71,x72,x73)=>(fr03_Sum_l4 x32 x38 n4 x65 x66 x67 x68 x69 x70 x71 x72 x73=some (x57,x58,x59,x60,x61,x62,x63,x64),[(12,(.int .u64 x65)),(13,(.int .u64 x66)),(14,(.int .u64 x67)),(15,(.int .u64 x68)),(16,(.int .u64 x69)),(17,(.int .u64 x70)),(18,(.int .u64 x71)),(19,(.int .u64 x72)),(20,(.int .i64 x73))],[],n4)),[],[],⟨(FUEL,(List.getD x37 0 0),(List.getD x37 1 0),(List.getD x37 2 0),(List.getD x37 3 0),(List.getD x37 4 0),(List.getD x37 5 0),(List.getD x37 6 0),(List.getD x37 7 0),0),h⟩,mt,?_⟩
     rintro ⟨⟨_|n4,x65,x66,x67,x68,x69,x70,x71,x72,x73⟩,h⟩
     ·exact no_none h
     replace h:=(fr03_Sum_l4.eq_2 x32 x38 x65 x66 x67 x68 x69 x70 x71 x72 x73 n4).symm.trans h
     refine cnd h (fun hb h => ?_) (fun hb h => ?_)
     ·refine .inl ?_
      obtain ⟨x74,c,h⟩:=bnd h
      refine cl [] [] (fr03_turn_c c) ?_
      obtain ⟨x75,c,h⟩:=bnd h
      refine cl [] [] (fr03_turn_c c) ?_
      obtain ⟨x76,c,h⟩:=bnd h
      refine cl [] [] (fr03_turn_c c) ?_
      refine nml h ?_
      intro x77 h
      refine nml h ?_
      intro x78 h
      refine gdn h fun hg h => ?_
      refine nml h ?_
      intro x79 h
      refine gdn h fun hg h => ?_
      refine nml h ?_
      intro x80 h
      obtain ⟨x81,c,h⟩:=bnd h
      refine cl [] [] (fr03_turn_c c) ?_
      obtain ⟨x82,c,h⟩:=bnd h
      refine cl [] [] (fr03_turn_c c) ?_
      obtain ⟨x83,c,h⟩:=bnd h
      refine cl [] [] (fr03_turn_c c) ?_
      refine nml h ?_
      intro x84 h
      refine nml h ?_
      intro x85 h
      exact ⟨⟨(n4,_,_,_,_,_,_,_,_,_),h⟩,[],mt,Nat.lt_succ_self _⟩
     ·exact ⟨[],[],⟨_,some_in h⟩,[],mt⟩
   ·replace h:=g
    refine .inl ?_
    refine ⟨[7,39],_,fl (β:=Nat×Int×(List Int)) (fun (n2,x39,x40)=>(fr03_Sum_l2 x34 x36 n2 x39 x40=some x38,[(7,(.sl 4 [] ly39 0 (List.length x40))),(8,(.int .i64 x39)),(39,(.sl 4 [] ly39 0 (List.length x40)))],[(4,(.rowI .u64 x40))],n2)),[],[],⟨(FUEL,0,(List.replicate 80 (0:Int))),h⟩,mt,?_⟩
    rintro ⟨⟨_|n2,x39,x40⟩,h⟩
    ·exact no_none h
    replace h:=(fr03_Sum_l2.eq_2 x34 x36 x39 x40 n2).symm.trans h
    refine cnd h (fun hb h => ?_) (fun hb h => ?_)
    ·refine .inl ?_
     obtain ⟨x41,g,h⟩:=bnd h
     refine .inr ⟨[7,39],_,fj (fun x41=>([(7,(.sl 4 [] ly39 0 (List.length x41))),(39,(.sl 4 [] ly39 0 (List.length x41)))],[(4,(.rowI .u64 x41))])) x41,0,?_,?_⟩
     ·rintro ⟨x41,rfl⟩
      exact ⟨⟨(n2,_,_),h⟩,[],mt,Nat.lt_succ_self _⟩
     ·replace h:=g
      refine cnd h (fun hb h => ?_) (fun hb h => ?_)
      ·obtain ⟨x42,g,h⟩:=bnd h
       refine .inr ⟨[7,39],_,fj (fun x42=>([(7,(.sl 4 [] ly39 0 (List.length x42))),(39,(.sl 4 [] ly39 0 (List.length x42)))],[(4,(.rowI .u64 x42))])) x42,0,?_,?_⟩
       ·rintro ⟨x42,rfl⟩
        exact ⟨[],[],⟨_,some_in h⟩,[],mt⟩
       ·replace h:=g
        refine .inl ?_
        refine ⟨[7,39],_,fl (β:=Nat×Int×(List Int)) (fun (n3,x43,x44)=>(fr03_Sum_l3 x34 x36 x39 n3 x43 x44=some x42,[(7,(.sl 4 [] ly39 0 (List.length x44))),(9,(.int .i64 x43)),(39,(.sl 4 [] ly39 0 (List.length x44)))],[(4,(.rowI .u64 x44))],n3)),[],[],⟨(FUEL,0,x40),h⟩,mt,?_⟩
        rintro ⟨⟨_|n3,x43,x44⟩,h⟩
        ·exact no_none h
        replace h:=(fr03_Sum_l3.eq_2 x34 x36 x39 x43 x44 n3).symm.trans h
        refine cnd h (fun hb h => ?_) (fun hb h => ?_)
        ·refine .inl ?_
         refine gdn h fun hg h => ?_
         refine nml h ?_
         intro x45 h
         refine nml h ?_
         intro x46 h
         refine gdn h fun hg h => ?_
         refine nml h ?_
         intro x47 h
         refine gdn h fun hg h => ?_
         exact ⟨⟨(n3,(IntKind.wrap .i64 (x43+1)),(List.set x44 (Int.toNat x39) x47)),h⟩,[],⟨rfl,⟨(show ((.sl 4 [] ly39 0 (List.length x44)):AV)=((.sl 4 [] ly39 0 (List.length (List.set x44 (Int.toNat x39) x47))):AV) by simp only [List.length_set]),rfl,(show ((.sl 4 [] ly39 0 (List.length x44)):AV)=((.sl 4 [] ly39 0 (List.length (List.set x44 (Int.toNat x39) x47))):AV) by simp only [List.length_set]),trivial⟩,⟨rfl,rfl,rfl,rfl,rfl,trivial⟩,rfl⟩,Nat.lt_succ_self _⟩
        ·exact ⟨[],[],⟨_,some_in h⟩,[],mt⟩
      ·refine gdn h fun hg h => ?_
       refine gdn h fun hg h => ?_
       obtain ⟨x48,c,h⟩:=bnd h
       refine cl [] [] (fr03_turn_c c) ?_
       obtain ⟨x49,c,h⟩:=bnd h
       refine cl [] [] (fr03_turn_c c) ?_
       refine dc ?_
       refine nml h ?_
       intro x50 h
       refine gdn h fun hg h => ?_
       refine nml h ?_
       intro x51 h
       obtain ⟨x52,c,h⟩:=bnd h
       refine cl [] [] (fr03_turn_c c) ?_
       obtain ⟨x53,c,h⟩:=bnd h
       refine cl [] [] (fr03_turn_c c) ?_
       refine dc ?_
       refine nml h ?_
       intro x54 h
       refine nml h ?_
       intro x55 h
       refine gdn h fun hg h => ?_
       refine nml h ?_
       intro x56 h
       refine gdn h fun hg h => ?_
       exact ⟨[],[],⟨(List.set x40 (Int.toNat x39) x56),some_in h⟩,[],rfl,⟨(show ((.sl 4 [] ly39 0 (List.length x40)):AV)=((.sl 4 [] ly39 0 (List.length (List.set x40 (Int.toNat x39) x56))):AV) by simp only [List.length_set]),(show ((.sl 4 [] ly39 0 (List.length x40)):AV)=((.sl 4 [] ly39 0 (List.length (List.set x40 (Int.toNat x39) x56))):AV) by simp only [List.length_set]),trivial⟩,⟨rfl,rfl,rfl,rfl,rfl,trivial⟩,rfl⟩
    ·exact ⟨[],[],⟨_,some_in h⟩,[],mt⟩
  ·exact ⟨[],[],⟨_,some_in h⟩,[],mt⟩
theorem fr13_halves_c {x102 res} (h:fr13_halves x102=some res) :
  FB er 31 [(.dv (.ints .u8 64 x102))] [] [] (.tup [(.dv (.ints .u8 32 res.1)),(.dv (.ints .u8 32 res.2))]) []:=by
 refine fb Tryz.func31 ?_
 unfold fr13_halves at h
 obtain ⟨⟨x103,x104⟩,g,h⟩:=bnd h
 refine .inr ⟨[1],_,fj (fun (x103,x104)=>([],[(3,(.var (.dv (.ints .u8 32 x103)))),(4,(.var (.dv (.ints .u8 32 x104))))])) (x103,x104),0,?_,?_⟩
 ·rintro ⟨_,rfl⟩
  obtain rfl:=some_in h
  exact ⟨0,[],[],mt⟩
 ·replace h:=g
  refine .inl ?_
  refine ⟨[],_,fl (β:=Nat×Int×(List Int)×(List Int)) (fun (n1,x105,x106,x107)=>(fr13_halves_l1 x102 n1 x105 x106 x107=some (x103,x104),[(6,(.int .i64 x105))],[(3,(.var (.dv (.ints .u8 32 x106)))),(4,(.var (.dv (.ints .u8 32 x107))))],n1)),[],[],⟨(FUEL,0,(List.replicate 32 (0:Int)),(List.replicate 32 (0:Int))),h⟩,mt,?_⟩
  rintro ⟨⟨_|n1,x105,x106,x107⟩,h⟩
  ·exact no_none h
  replace h:=(fr13_halves_l1.eq_2 x102 x105 x106 x107 n1).symm.trans h
  refine cnd h (fun hb h => ?_) (fun hb h => ?_)
  ·refine .inl ?_
   refine gdn h fun hg h => ?_
   refine gdn h fun hg h => ?_
   refine nml h ?_
   intro x108 h
   refine gdn h fun hg h => ?_
   refine nml h ?_
   intro x109 h
   refine gdn h fun hg h => ?_
   exact ⟨⟨(n1,_,_,_),h⟩,[],mt,Nat.lt_succ_self _⟩
  ·exact ⟨[],[],⟨_,some_in h⟩,[],mt⟩
theorem fr10_Clamp_c {x112 res} (h:fr10_Clamp x112=some res) :
  FB er 57 [(.dv (.ints .u8 32 x112))] [] [] (.dv (.ints .u8 32 res)) []:=by
 refine fb Tryz.func57 ?_
 unfold fr10_Clamp at h
 refine dc ?_
 refine dc ?_
 refine nml h ?_
 intro x113 h
 refine dc ?_
 refine dc ?_
 refine dc ?_
 refine nml h ?_
 intro x114 h
 refine dc ?_
 obtain rfl:=some_in h
 exact ⟨0,[],[],mt⟩
theorem fr13_secret_c {x30 res} (h:fr13_secret x30=some res) :
  FB er 20 [(.dv (.ints .u8 32 x30))] [] [] (.tup [(.dv (.ints .u8 32 res.1)),(.dv (.ints .u8 32 res.2))]) []:=by
 refine fb Tryz.func20 ?_
 unfold fr13_secret at h
 refine .inl ?_
 refine And.intro (by omega) ?_
 refine ⟨0,32,⟨rfl,rfl⟩,?_⟩
 obtain ⟨x31,c,h⟩:=bnd h
 refine cl [true] [] (fr03_Sum_c c) ?_
 obtain ⟨⟨x32,x33⟩,c,h⟩:=bnd h
 refine cl [] [] (fr13_halves_c c) ?_
 obtain ⟨x34,c,h⟩:=bnd h
 refine cl [] [] (fr10_Clamp_c c) ?_
 obtain rfl:=some_in h
 exact ⟨0,[],[],mt⟩
theorem fr09_BaseX_c {res} (h:fr09_BaseX=some res) :
  FB er 95 [] [] [] (.dv (.ints .u32 8 res)) []:=by
 refine fb Tryz.func95 ?_
 unfold fr09_BaseX at h
 refine nml h ?_
 intro x38 h
 obtain rfl:=some_in h
 exact ⟨0,[],[],mt⟩
theorem fr09_BaseY_c {res} (h:fr09_BaseY=some res) :
  FB er 96 [] [] [] (.dv (.ints .u32 8 res)) []:=by
 refine fb Tryz.func96 ?_
 unfold fr09_BaseY at h
 refine nml h ?_
 intro x40 h
 obtain rfl:=some_in h
 exact ⟨0,[],[],mt⟩
theorem fr12_one_c {res} (h:fr12_one=some res) :
  FB er 73 [] [] [] (.dv (.ints .u32 8 (List.set (List.replicate 8 (0:Int)) 0 1))) []:=by
 refine fb Tryz.func73 ?_
 unfold fr12_one at h
 obtain rfl:=some_in h
 exact ⟨0,[],[],mt⟩
theorem fr12_Base_c {res} (h:fr12_Base=some res) :
  FB er 59 [] [] [] (.dv (T_fr12_Point.dv res)) []:=by
 refine fb Tryz.func59 ?_
 unfold fr12_Base at h
 obtain ⟨x38,c,h⟩:=bnd h
 refine cl [] [] (fr09_BaseX_c c) ?_
 obtain ⟨x39,c,h⟩:=bnd h
 refine cl [] [] (fr09_BaseY_c c) ?_
 obtain ⟨r39,c,h⟩:=bnd h
 refine cl [] [] (fr12_one_c c) ?_
 obtain rfl:=some_in h
 exact ⟨0,[],[],mt⟩
theorem fr09_Curve_c {res} (h:fr09_Curve=some res) :
  FB er 76 [] [] [] (.dv (.ints .u32 8 res)) []:=by
 refine fb Tryz.func76 ?_
 unfold fr09_Curve at h
 refine nml h ?_
 intro x43 h
 obtain rfl:=some_in h
 exact ⟨0,[],[],mt⟩
theorem fr12_Zero_c {res} (h:fr12_Zero=some res) :
  FB er 81 [] [] [] (.dv (T_fr12_Point.dv res)) []:=by
 refine fb Tryz.func81 ?_
 unfold fr12_Zero at h
 obtain ⟨r44,c,h⟩:=bnd h
 refine cl [] [] (fr12_one_c c) ?_
 obtain ⟨r44,c,h⟩:=bnd h
 refine cl [] [] (fr12_one_c c) ?_
 obtain rfl:=some_in h
 exact ⟨0,[],[],mt⟩
theorem fr09_P_c {res} (h:fr09_P=some res) :
  FB er 101 [] [] [] (.dv (.ints .u32 8 res)) []:=by
 refine fb Tryz.func101 ?_
 unfold fr09_P at h
 refine nml h ?_
 intro x58 h
 obtain rfl:=some_in h
 exact ⟨0,[],[],mt⟩
theorem fr09_less_c {x60 x61 res} (h:fr09_less x60 x61=some res) :
  FB er 100 [(.dv (.ints .u32 8 x60)),(.dv (.ints .u32 8 x61))] [] [] (.bl res) []:=by
 refine fb Tryz.func100 ?_
 unfold fr09_less at h
 obtain ⟨r1_0_62,hl1_62,hr1_62⟩:=bnd h
 refine .inr ⟨[2,3],{p:Unit // (Sum.inl p)=r1_0_62},⟨fun|⟨(),_⟩=>[(4,(.dv (.sc (.bool false))))],fun|⟨(),_⟩=>[],fun _=>0⟩,0,?_,?_⟩
 ·rintro ⟨⟨⟩,hp⟩
  subst hp
  replace h:=hr1_62
  obtain rfl:=some_in h
  exact ⟨0,[],[],mt⟩
 ·replace h:=hl1_62
  refine .inl ?_
  refine ⟨[],_,fl (β:=Nat×Int) (fun (n1,x63)=>(fr09_less_l1 x60 x61 n1 x63=some r1_0_62,[(4,(.dv (.sc (.bool false)))),(5,(.int .i64 x63))],[],n1)),[],[],⟨(FUEL,7),h⟩,mt,?_⟩
  rintro ⟨⟨_|n1,x63⟩,h⟩
  ·exact no_none h
  replace h:=(fr09_less_l1.eq_2 x60 x61 x63 n1).symm.trans h
  refine cnd h (fun hb h => ?_) (fun hb h => ?_)
  ·refine .inl ?_
   refine gdn h fun hg h => ?_
   refine gdn h fun hg h => ?_
   refine nml h ?_
   intro x64 h
   refine cnd h (fun hb h => ?_) (fun hb h => ?_)
   ·refine gdn h fun hg h => ?_
    refine gdn h fun hg h => ?_
    refine nml h ?_
    intro x65 h
    obtain rfl:=some_in h
    replace h:=hr1_62
    obtain rfl:=some_in h
    exact ⟨0,[],[],mt⟩
   ·exact ⟨⟨(n1,_),h⟩,[],mt,Nat.lt_succ_self _⟩
  ·exact ⟨[],[],⟨_,some_in h⟩,[],mt⟩
theorem fr09_minus_c {x68 x69 res} (h:fr09_minus x68 x69=some res) :
  FB er 102 [(.dv (.ints .u32 8 x68)),(.dv (.ints .u32 8 x69))] [] [] (.dv (.ints .u32 8 res)) []:=by
 refine fb Tryz.func102 ?_
 unfold fr09_minus at h
 obtain ⟨x70,g,h⟩:=bnd h
 refine .inr ⟨[2,3],_,fj (fun x70=>([],[(3,(.var (.dv (.ints .u32 8 x70))))])) x70,0,?_,?_⟩
 ·rintro ⟨x70,rfl⟩
  obtain rfl:=some_in h
  exact ⟨0,[],[],mt⟩
 ·replace h:=g
  refine .inl ?_
  refine ⟨[],_,fl (β:=Nat×Int×Int×(List Int)) (fun (n1,x71,x72,x73)=>(fr09_minus_l1 x68 x69 n1 x71 x72 x73=some x70,[(6,(.int .u64 x71)),(7,(.int .i64 x72))],[(3,(.var (.dv (.ints .u32 8 x73))))],n1)),[],[],⟨(FUEL,0,0,(List.replicate 8 (0:Int))),h⟩,mt,?_⟩
  rintro ⟨⟨_|n1,x71,x72,x73⟩,h⟩
  ·exact no_none h
  replace h:=(fr09_minus_l1.eq_2 x68 x69 x71 x72 x73 n1).symm.trans h
  refine cnd h (fun hb h => ?_) (fun hb h => ?_)
  ·refine .inl ?_
   refine gdn h fun hg h => ?_
   refine nml h ?_
   intro x74 h
   refine gdn h fun hg h => ?_
   refine nml h ?_
   intro x75 h
   refine gdn h fun hg h => ?_
   refine nml h ?_
   intro x76 h
   refine dc ?_
   refine nml h ?_
   intro x77 h
   exact ⟨⟨(n1,_,_,_),h⟩,[],mt,Nat.lt_succ_self _⟩
  ·exact ⟨[],[],⟨_,some_in h⟩,[],mt⟩
theorem fr09_Least_c {x57 res} (h:fr09_Least x57=some res) :
  FB er 69 [(.dv (.ints .u32 8 x57))] [] [] (.dv (.ints .u32 8 res)) []:=by
 refine fb Tryz.func69 ?_
 unfold fr09_Least at h
 obtain ⟨x58,g,h⟩:=bnd h
 refine .inr ⟨[],_,fj (fun x58=>([],[(0,(.var (.dv (.ints .u32 8 x58))))])) x58,0,?_,?_⟩
 ·rintro ⟨x58,rfl⟩
  obtain rfl:=some_in h
  exact ⟨0,[],[],mt⟩
 ·replace h:=g
  refine .inl ?_
  refine ⟨[],_,fl (β:=Nat×(List Int)) (fun (n1,x59)=>(fr09_Least_l1 n1 x59=some x58,[],[(0,(.var (.dv (.ints .u32 8 x59))))],n1)),[],[],⟨(FUEL,x57),h⟩,mt,?_⟩
  rintro ⟨⟨_|n1,x59⟩,h⟩
  ·exact no_none h
  replace h:=(fr09_Least_l1.eq_2 x59 n1).symm.trans h
  obtain ⟨x60,c,h⟩:=bnd h
  refine cl [] [] (fr09_P_c c) ?_
  obtain ⟨x61,c,h⟩:=bnd h
  refine cl [] [] (fr09_less_c c) ?_
  refine cnd h (fun hb h => ?_) (fun hb h => ?_)
  ·refine .inl ?_
   obtain ⟨x62,c,h⟩:=bnd h
   refine cl [] [] (fr09_P_c c) ?_
   obtain ⟨x63,c,h⟩:=bnd h
   refine cl [] [] (fr09_minus_c c) ?_
   exact ⟨⟨(n1,_),h⟩,[],mt,Nat.lt_succ_self _⟩
  ·exact ⟨[],[],⟨_,some_in h⟩,[],mt⟩
theorem fr09_fold_c {x52 res} (h:fr09_fold x52=some res) :
  FB er 103 [(.dv (.ints .u32 16 x52))] [] [] (.dv (.ints .u32 8 res)) []:=by
 refine fb Tryz.func103 ?_
 unfold fr09_fold at h
 obtain ⟨⟨x53,x54⟩,g,h⟩:=bnd h
 refine .inr ⟨[1],_,fj (fun (x53,x54)=>([(4,(.int .u64 x53))],[(2,(.var (.dv (.ints .u32 8 x54))))])) (x53,x54),0,?_,?_⟩
 ·rintro ⟨_,rfl⟩
  obtain ⟨⟨x61,x62⟩,g,h⟩:=bnd h
  refine .inr ⟨[],_,fj (fun (x61,x62)=>([(4,(.int .u64 x61))],[(2,(.var (.dv (.ints .u32 8 x62))))])) (x61,x62),0,?_,?_⟩
  ·rintro ⟨_,rfl⟩
   obtain ⟨x71,c,h⟩:=bnd h
   refine cl [] [] (fr09_Least_c c) ?_
   obtain rfl:=some_in h
   exact ⟨0,[],[],mt⟩
  ·replace h:=g
   refine .inl ?_
   refine ⟨[],_,fl (β:=Nat×Int×(List Int)) (fun (n2,x63,x64)=>(fr09_fold_l2 n2 x63 x64=some (x61,x62),[(4,(.int .u64 x63))],[(2,(.var (.dv (.ints .u32 8 x64))))],n2)),[],[],⟨(FUEL,x53,x54),h⟩,mt,?_⟩
   rintro ⟨⟨_|n2,x63,x64⟩,h⟩
   ·exact no_none h
   replace h:=(fr09_fold_l2.eq_2 x63 x64 n2).symm.trans h
   refine cnd h (fun hb h => ?_) (fun hb h => ?_)
   ·refine .inl ?_
    obtain ⟨⟨x65,x66⟩,g,h⟩:=bnd h
    refine .inr ⟨[],_,fj (fun (x65,x66)=>([(7,(.int .u64 x65))],[(2,(.var (.dv (.ints .u32 8 x66))))])) (x65,x66),0,?_,?_⟩
    ·rintro ⟨_,rfl⟩
     exact ⟨⟨(n2,_,_),h⟩,[],mt,Nat.lt_succ_self _⟩
    ·replace h:=g
     refine .inl ?_
     refine ⟨[],_,fl (β:=Nat×Int×Int×(List Int)) (fun (n3,x67,x68,x69)=>(fr09_fold_l3 n3 x67 x68 x69=some (x65,x66),[(7,(.int .u64 x67)),(8,(.int .i64 x68))],[(2,(.var (.dv (.ints .u32 8 x69))))],n3)),[],[],⟨(FUEL,(IntKind.wrap .u64 (x63*38)),0,x64),h⟩,mt,?_⟩
     rintro ⟨⟨_|n3,x67,x68,x69⟩,h⟩
     ·exact no_none h
     replace h:=(fr09_fold_l3.eq_2 x67 x68 x69 n3).symm.trans h
     refine cnd h (fun hb h => ?_) (fun hb h => ?_)
     ·refine .inl ?_
      refine gdn h fun hg h => ?_
      refine nml h ?_
      intro x70 h
      refine gdn h fun hg h => ?_
      refine dc ?_
      exact ⟨⟨(n3,_,_,_),h⟩,[],mt,Nat.lt_succ_self _⟩
     ·exact ⟨[],[],⟨_,some_in h⟩,[],mt⟩
   ·exact ⟨[],[],⟨_,some_in h⟩,[],mt⟩
 ·replace h:=g
  refine .inl ?_
  refine ⟨[],_,fl (β:=Nat×Int×Int×(List Int)) (fun (n1,x55,x56,x57)=>(fr09_fold_l1 x52 n1 x55 x56 x57=some (x53,x54),[(4,(.int .u64 x55)),(5,(.int .i64 x56))],[(2,(.var (.dv (.ints .u32 8 x57))))],n1)),[],[],⟨(FUEL,0,0,(List.replicate 8 (0:Int))),h⟩,mt,?_⟩
  rintro ⟨⟨_|n1,x55,x56,x57⟩,h⟩
  ·exact no_none h
  replace h:=(fr09_fold_l1.eq_2 x52 x55 x56 x57 n1).symm.trans h
  refine cnd h (fun hb h => ?_) (fun hb h => ?_)
  ·refine .inl ?_
   refine gdn h fun hg h => ?_
   refine gdn h fun hg h => ?_
   refine nml h ?_
   intro x58 h
   refine nml h ?_
   intro x59 h
   refine gdn h fun hg h => ?_
   refine nml h ?_
   intro x60 h
   refine dc ?_
   exact ⟨⟨(n1,_,_,_),h⟩,[],mt,Nat.lt_succ_self _⟩
  ·exact ⟨[],[],⟨_,some_in h⟩,[],mt⟩
theorem fr09_Times_c {x49 x50 res} (h:fr09_Times x49 x50=some res) :
  FB er 70 [(.dv (.ints .u32 8 x49)),(.dv (.ints .u32 8 x50))] [] [] (.dv (.ints .u32 8 res)) []:=by
 refine fb Tryz.func70 ?_
 unfold fr09_Times at h
 obtain ⟨x51,g,h⟩:=bnd h
 refine .inr ⟨[2,3],_,fj (fun x51=>([],[(3,(.var (.dv (.ints .u32 16 x51))))])) x51,0,?_,?_⟩
 ·rintro ⟨x51,rfl⟩
  obtain ⟨x64,c,h⟩:=bnd h
  refine cl [] [] (fr09_fold_c c) ?_
  obtain rfl:=some_in h
  exact ⟨0,[],[],mt⟩
 ·replace h:=g
  refine .inl ?_
  refine ⟨[],_,fl (β:=Nat×Int×(List Int)) (fun (n1,x52,x53)=>(fr09_Times_l1 x49 x50 n1 x52 x53=some x51,[(6,(.int .i64 x52))],[(3,(.var (.dv (.ints .u32 16 x53))))],n1)),[],[],⟨(FUEL,0,(List.replicate 16 (0:Int))),h⟩,mt,?_⟩
  rintro ⟨⟨_|n1,x52,x53⟩,h⟩
  ·exact no_none h
  replace h:=(fr09_Times_l1.eq_2 x49 x50 x52 x53 n1).symm.trans h
  refine cnd h (fun hb h => ?_) (fun hb h => ?_)
  ·refine .inl ?_
   obtain ⟨⟨x54,x55⟩,g,h⟩:=bnd h
   refine .inr ⟨[],_,fj (fun (x54,x55)=>([(7,(.int .u64 x54))],[(3,(.var (.dv (.ints .u32 16 x55))))])) (x54,x55),0,?_,?_⟩
   ·rintro ⟨_,rfl⟩
    refine gdn h fun hg h => ?_
    refine nml h ?_
    intro x63 h
    exact ⟨⟨(n1,_,_),h⟩,[],mt,Nat.lt_succ_self _⟩
   ·replace h:=g
    refine .inl ?_
    refine ⟨[],_,fl (β:=Nat×Int×Int×(List Int)) (fun (n2,x56,x57,x58)=>(fr09_Times_l2 x49 x50 x52 n2 x56 x57 x58=some (x54,x55),[(7,(.int .u64 x56)),(8,(.int .i64 x57))],[(3,(.var (.dv (.ints .u32 16 x58))))],n2)),[],[],⟨(FUEL,0,0,x53),h⟩,mt,?_⟩
    rintro ⟨⟨_|n2,x56,x57,x58⟩,h⟩
    ·exact no_none h
    replace h:=(fr09_Times_l2.eq_2 x49 x50 x52 x56 x57 x58 n2).symm.trans h
    refine cnd h (fun hb h => ?_) (fun hb h => ?_)
    ·refine .inl ?_
     refine gdn h fun hg h => ?_
     refine gdn h fun hg h => ?_
     refine nml h ?_
     intro x59 h
     refine gdn h fun hg h => ?_
     refine nml h ?_
     intro x60 h
     refine nml h ?_
     intro x61 h
     refine gdn h fun hg h => ?_
     refine nml h ?_
     intro x62 h
     refine dc ?_
     exact ⟨⟨(n2,_,_,_),h⟩,[],mt,Nat.lt_succ_self _⟩
    ·exact ⟨[],[],⟨_,some_in h⟩,[],mt⟩
  ·exact ⟨[],[],⟨_,some_in h⟩,[],mt⟩
theorem fr09_Add_c {x71 x72 res} (h:fr09_Add x71 x72=some res) :
  FB er 75 [(.dv (.ints .u32 8 x71)),(.dv (.ints .u32 8 x72))] [] [] (.dv (.ints .u32 8 res)) []:=by
 refine fb Tryz.func75 ?_
 unfold fr09_Add at h
 obtain ⟨⟨x73,x74⟩,g,h⟩:=bnd h
 refine .inr ⟨[2,3],_,fj (fun (x73,x74)=>([(6,(.int .u64 x73))],[(3,(.var (.dv (.ints .u32 16 x74))))])) (x73,x74),0,?_,?_⟩
 ·rintro ⟨_,rfl⟩
  refine dc ?_
  obtain ⟨x80,c,h⟩:=bnd h
  refine cl [] [] (fr09_fold_c c) ?_
  obtain rfl:=some_in h
  exact ⟨0,[],[],mt⟩
 ·replace h:=g
  refine .inl ?_
  refine ⟨[],_,fl (β:=Nat×Int×Int×(List Int)) (fun (n1,x75,x76,x77)=>(fr09_Add_l1 x71 x72 n1 x75 x76 x77=some (x73,x74),[(6,(.int .u64 x75)),(7,(.int .i64 x76))],[(3,(.var (.dv (.ints .u32 16 x77))))],n1)),[],[],⟨(FUEL,0,0,(List.replicate 16 (0:Int))),h⟩,mt,?_⟩
  rintro ⟨⟨_|n1,x75,x76,x77⟩,h⟩
  ·exact no_none h
  replace h:=(fr09_Add_l1.eq_2 x71 x72 x75 x76 x77 n1).symm.trans h
  refine cnd h (fun hb h => ?_) (fun hb h => ?_)
  ·refine .inl ?_
   refine gdn h fun hg h => ?_
   refine gdn h fun hg h => ?_
   refine nml h ?_
   intro x78 h
   refine gdn h fun hg h => ?_
   refine nml h ?_
   intro x79 h
   refine dc ?_
   exact ⟨⟨(n1,_,_,_),h⟩,[],mt,Nat.lt_succ_self _⟩
  ·exact ⟨[],[],⟨_,some_in h⟩,[],mt⟩
theorem fr09_Sub_c {x82 x83 res} (h:fr09_Sub x82 x83=some res) :
  FB er 72 [(.dv (.ints .u32 8 x82)),(.dv (.ints .u32 8 x83))] [] [] (.dv (.ints .u32 8 res)) []:=by
 refine fb Tryz.func72 ?_
 unfold fr09_Sub at h
 obtain ⟨x84,c,h⟩:=bnd h
 refine cl [] [] (fr09_P_c c) ?_
 obtain ⟨x85,c,h⟩:=bnd h
 refine cl [] [] (fr09_Least_c c) ?_
 obtain ⟨x86,c,h⟩:=bnd h
 refine cl [] [] (fr09_minus_c c) ?_
 obtain ⟨x87,c,h⟩:=bnd h
 refine cl [] [] (fr09_Add_c c) ?_
 obtain rfl:=some_in h
 exact ⟨0,[],[],mt⟩
theorem fr12_Sum_c {x46 x47 x48 res} (h:fr12_Sum x46 x47 x48=some res) :
  FB er 80 [(.dv (T_fr12_Point.dv x46)),(.dv (T_fr12_Point.dv x47)),(.dv (.ints .u32 8 x48))] [] [] (.dv (T_fr12_Point.dv res)) []:=by
 refine fb Tryz.func80 ?_
 unfold fr12_Sum at h
 obtain ⟨x49,c,h⟩:=bnd h
 refine cl [] [] (fr09_Times_c c) ?_
 obtain ⟨x50,c,h⟩:=bnd h
 refine cl [] [] (fr09_Times_c c) ?_
 obtain ⟨x51,c,h⟩:=bnd h
 refine cl [] [] (fr09_Times_c c) ?_
 obtain ⟨x52,c,h⟩:=bnd h
 refine cl [] [] (fr09_Times_c c) ?_
 obtain ⟨x53,c,h⟩:=bnd h
 refine cl [] [] (fr09_Times_c c) ?_
 obtain ⟨x54,c,h⟩:=bnd h
 refine cl [] [] (fr09_Times_c c) ?_
 obtain ⟨x55,c,h⟩:=bnd h
 refine cl [] [] (fr09_Add_c c) ?_
 obtain ⟨x56,c,h⟩:=bnd h
 refine cl [] [] (fr09_Sub_c c) ?_
 obtain ⟨x57,c,h⟩:=bnd h
 refine cl [] [] (fr09_Times_c c) ?_
 obtain ⟨x58,c,h⟩:=bnd h
 refine cl [] [] (fr09_Times_c c) ?_
 obtain ⟨x59,c,h⟩:=bnd h
 refine cl [] [] (fr09_Add_c c) ?_
 obtain ⟨x60,c,h⟩:=bnd h
 refine cl [] [] (fr09_Times_c c) ?_
 obtain ⟨x61,c,h⟩:=bnd h
 refine cl [] [] (fr09_Times_c c) ?_
 obtain ⟨x62,c,h⟩:=bnd h
 refine cl [] [] (fr09_Add_c c) ?_
 obtain ⟨x63,c,h⟩:=bnd h
 refine cl [] [] (fr09_Times_c c) ?_
 obtain ⟨x64,c,h⟩:=bnd h
 refine cl [] [] (fr09_Times_c c) ?_
 obtain ⟨x65,c,h⟩:=bnd h
 refine cl [] [] (fr09_Times_c c) ?_
 obtain rfl:=some_in h
 exact ⟨0,[],[],mt⟩
theorem fr12_Times_c {x41 x42 res} (h:fr12_Times x41 x42=some res) :
  FB er 58 [(.dv (T_fr12_Point.dv x41)),(.dv (.ints .u8 32 x42))] [] [] (.dv (T_fr12_Point.dv res)) []:=by
 refine fb Tryz.func58 ?_
 unfold fr12_Times at h
 obtain ⟨x43,c,h⟩:=bnd h
 refine cl [] [] (fr09_Curve_c c) ?_
 obtain ⟨x44,c,h⟩:=bnd h
 refine cl [] [] (fr12_Zero_c c) ?_
 obtain ⟨x45,g,h⟩:=bnd h
 refine .inr ⟨[2,3],_,fj (fun x45=>([],[(4,(.var (.dv (T_fr12_Point.dv x45))))])) x45,0,?_,?_⟩
 ·rintro ⟨x45,rfl⟩
  obtain rfl:=some_in h
  exact ⟨0,[],[],mt⟩
 ·replace h:=g
  refine .inl ?_
  refine ⟨[],_,fl (β:=Nat×Int×T_fr12_Point) (fun (n1,x46,x47)=>(fr12_Times_l1 x41 x42 x43 n1 x46 x47=some x45,[(7,(.int .i64 x46))],[(4,(.var (.dv (T_fr12_Point.dv x47))))],n1)),[],[],⟨(FUEL,255,x44),h⟩,mt,?_⟩
  rintro ⟨⟨_|n1,x46,x47⟩,h⟩
  ·exact no_none h
  replace h:=(fr12_Times_l1.eq_2 x41 x42 x43 x46 x47 n1).symm.trans h
  refine cnd h (fun hb h => ?_) (fun hb h => ?_)
  ·refine .inl ?_
   obtain ⟨x48,c,h⟩:=bnd h
   refine cl [] [] (fr12_Sum_c c) ?_
   refine dc ?_
   refine gdn h fun hg h => ?_
   refine nml h ?_
   intro x49 h
   refine dc ?_
   refine gdn h fun hg h => ?_
   refine nml h ?_
   intro x50 h
   obtain ⟨x51,g,h⟩:=bnd h
   refine .inr ⟨[],_,fj (fun x51=>([],[(4,(.var (.dv (T_fr12_Point.dv x51))))])) x51,0,?_,?_⟩
   ·rintro ⟨x51,rfl⟩
    exact ⟨⟨(n1,_,_),h⟩,[],mt,Nat.lt_succ_self _⟩
   ·replace h:=g
    refine cnd h (fun hb h => ?_) (fun hb h => ?_)
    ·obtain ⟨x52,c,h⟩:=bnd h
     refine cl [] [] (fr12_Sum_c c) ?_
     exact ⟨[],[],⟨_,some_in h⟩,[],mt⟩
    ·exact ⟨[],[],⟨_,some_in h⟩,[],mt⟩
  ·exact ⟨[],[],⟨_,some_in h⟩,[],mt⟩
theorem fr09_Power_c {x58 x59 res} (h:fr09_Power x58 x59=some res) :
  FB er 104 [(.dv (.ints .u32 8 x58)),(.dv (.ints .u32 8 x59))] [] [] (.dv (.ints .u32 8 res)) []:=by
 refine fb Tryz.func104 ?_
 unfold fr09_Power at h
 obtain ⟨x60,g,h⟩:=bnd h
 refine .inr ⟨[2,3],_,fj (fun x60=>([],[(3,(.var (.dv (.ints .u32 8 x60))))])) x60,0,?_,?_⟩
 ·rintro ⟨x60,rfl⟩
  obtain rfl:=some_in h
  exact ⟨0,[],[],mt⟩
 ·replace h:=g
  refine .inl ?_
  refine ⟨[],_,fl (β:=Nat×Int×(List Int)) (fun (n1,x61,x62)=>(fr09_Power_l1 x58 x59 n1 x61 x62=some x60,[(6,(.int .i64 x61))],[(3,(.var (.dv (.ints .u32 8 x62))))],n1)),[],[],⟨(FUEL,255,(List.set (List.replicate 8 (0:Int)) 0 1)),h⟩,mt,?_⟩
  rintro ⟨⟨_|n1,x61,x62⟩,h⟩
  ·exact no_none h
  replace h:=(fr09_Power_l1.eq_2 x58 x59 x61 x62 n1).symm.trans h
  refine cnd h (fun hb h => ?_) (fun hb h => ?_)
  ·refine .inl ?_
   obtain ⟨x63,c,h⟩:=bnd h
   refine cl [] [] (fr09_Times_c c) ?_
   refine dc ?_
   refine gdn h fun hg h => ?_
   refine nml h ?_
   intro x64 h
   refine dc ?_
   refine gdn h fun hg h => ?_
   refine nml h ?_
   intro x65 h
   obtain ⟨x66,g,h⟩:=bnd h
   refine .inr ⟨[],_,fj (fun x66=>([],[(3,(.var (.dv (.ints .u32 8 x66))))])) x66,0,?_,?_⟩
   ·rintro ⟨x66,rfl⟩
    exact ⟨⟨(n1,_,_),h⟩,[],mt,Nat.lt_succ_self _⟩
   ·replace h:=g
    refine cnd h (fun hb h => ?_) (fun hb h => ?_)
    ·obtain ⟨x67,c,h⟩:=bnd h
     refine cl [] [] (fr09_Times_c c) ?_
     exact ⟨[],[],⟨_,some_in h⟩,[],mt⟩
    ·exact ⟨[],[],⟨_,some_in h⟩,[],mt⟩
  ·exact ⟨[],[],⟨_,some_in h⟩,[],mt⟩
theorem fr09_Invert_c {x55 res} (h:fr09_Invert x55=some res) :
  FB er 74 [(.dv (.ints .u32 8 x55))] [] [] (.dv (.ints .u32 8 res)) []:=by
 refine fb Tryz.func74 ?_
 unfold fr09_Invert at h
 obtain ⟨x56,c,h⟩:=bnd h
 refine cl [] [] (fr09_P_c c) ?_
 obtain ⟨x57,c,h⟩:=bnd h
 refine cl [] [] (fr09_minus_c c) ?_
 obtain ⟨x58,c,h⟩:=bnd h
 refine cl [] [] (fr09_Power_c c) ?_
 obtain rfl:=some_in h
 exact ⟨0,[],[],mt⟩
theorem fr09_Bytes_c {x62 res} (h:fr09_Bytes x62=some res) :
  FB er 79 [(.dv (.ints .u32 8 x62))] [] [] (.dv (.ints .u8 32 res)) []:=by
 refine fb Tryz.func79 ?_
 unfold fr09_Bytes at h
 obtain ⟨x63,g,h⟩:=bnd h
 refine .inr ⟨[1],_,fj (fun x63=>([],[(2,(.var (.dv (.ints .u8 32 x63))))])) x63,0,?_,?_⟩
 ·rintro ⟨x63,rfl⟩
  obtain rfl:=some_in h
  exact ⟨0,[],[],mt⟩
 ·replace h:=g
  refine .inl ?_
  refine ⟨[],_,fl (β:=Nat×Int×(List Int)) (fun (n1,x64,x65)=>(fr09_Bytes_l1 x62 n1 x64 x65=some x63,[(4,(.int .i64 x64))],[(2,(.var (.dv (.ints .u8 32 x65))))],n1)),[],[],⟨(FUEL,0,(List.replicate 32 (0:Int))),h⟩,mt,?_⟩
  rintro ⟨⟨_|n1,x64,x65⟩,h⟩
  ·exact no_none h
  replace h:=(fr09_Bytes_l1.eq_2 x62 x64 x65 n1).symm.trans h
  refine cnd h (fun hb h => ?_) (fun hb h => ?_)
  ·refine .inl ?_
   refine dc ?_
   refine gdn h fun hg h => ?_
   refine nml h ?_
   intro x66 h
   refine dc ?_
   refine nml h ?_
   intro x67 h
   refine gdn h fun hg h => ?_
   refine nml h ?_
   intro x68 h
   refine gdn h fun hg h => ?_
   exact ⟨⟨(n1,_,_),h⟩,[],mt,Nat.lt_succ_self _⟩
  ·exact ⟨[],[],⟨_,some_in h⟩,[],mt⟩
theorem fr12_Bytes_c {x54 res} (h:fr12_Bytes x54=some res) :
  FB er 34 [(.dv (T_fr12_Point.dv x54))] [] [] (.dv (.ints .u8 32 res)) []:=by
 refine fb Tryz.func34 ?_
 unfold fr12_Bytes at h
 obtain ⟨x55,c,h⟩:=bnd h
 refine cl [] [] (fr09_Invert_c c) ?_
 obtain ⟨x56,c,h⟩:=bnd h
 refine cl [] [] (fr09_Times_c c) ?_
 obtain ⟨x57,c,h⟩:=bnd h
 refine cl [] [] (fr09_Times_c c) ?_
 obtain ⟨x58,c,h⟩:=bnd h
 refine cl [] [] (fr09_Bytes_c c) ?_
 refine dc ?_
 refine dc ?_
 obtain ⟨x59,g,h⟩:=bnd h
 refine .inr ⟨[],_,fj (fun x59=>([],[(5,(.var (.dv (.ints .u8 32 x59))))])) x59,0,?_,?_⟩
 ·rintro ⟨x59,rfl⟩
  obtain rfl:=some_in h
  exact ⟨0,[],[],mt⟩
 ·replace h:=g
  refine cnd h (fun hb h => ?_) (fun hb h => ?_)
  ·refine dc ?_
   refine dc ?_
   refine nml h ?_
   intro x60 h
   exact ⟨[],[],⟨_,some_in h⟩,[],mt⟩
  ·exact ⟨[],[],⟨_,some_in h⟩,[],mt⟩
theorem fr13_base_c {x37 res} (h:fr13_base x37=some res) :
  FB er 21 [(.dv (.ints .u8 32 x37))] [] [] (.dv (.ints .u8 32 res)) []:=by
 refine fb Tryz.func21 ?_
 unfold fr13_base at h
 obtain ⟨x38,c,h⟩:=bnd h
 refine cl [] [] (fr12_Base_c c) ?_
 obtain ⟨x39,c,h⟩:=bnd h
 refine cl [] [] (fr12_Times_c c) ?_
 obtain ⟨x40,c,h⟩:=bnd h
 refine cl [] [] (fr12_Bytes_c c) ?_
 obtain rfl:=some_in h
 exact ⟨0,[],[],mt⟩
theorem fr13_Public_c {x29 res} (h:fr13_Public x29=some res) :
  FB er 8 [(.dv (.ints .u8 32 x29))] [] [] (.dv (.ints .u8 32 res)) []:=by
 refine fb Tryz.func8 ?_
 unfold fr13_Public at h
 obtain ⟨⟨x30,x31⟩,c,h⟩:=bnd h
 refine cl [] [] (fr13_secret_c c) ?_
 obtain ⟨x32,c,h⟩:=bnd h
 refine cl [] [] (fr13_base_c c) ?_
 obtain rfl:=some_in h
 exact ⟨0,[],[],mt⟩
theorem fr11_modulus_c {res} (h:fr11_modulus=some res) :
  FB er 77 [] [] [0] (.sl 0 [] ly3 0 (List.length res)) [(.rowI .i64 res)]:=by
 refine fb Tryz.func77 ?_
 unfold fr11_modulus at h
 refine .inl ?_
 refine nml h ?_
 intro x41 h
 obtain rfl:=some_in h
 exact ⟨0,[],[],mt⟩
theorem fr11_less_c {x47 res} (h:fr11_less x47=some res) :
  FB er 78 [(.dv (.roI .i64 x47))] [] [] (.bl res) []:=by
 refine fb Tryz.func78 ?_
 unfold fr11_less at h
 refine .inl ?_
 obtain ⟨x48,c,h⟩:=bnd h
 refine cl [] [1] (fr11_modulus_c c) ?_
 refine .inl ?_
 obtain ⟨hg,h⟩:=gd h
 refine And.intro (le_of_ln2 (ln_full x48) hg) ?_
 refine ⟨([0]++x48),app_cut (cut_full _) (cut_full x48),0,(List.length ([0]++x48)),⟨rfl,app_ln (ln_full x48)⟩,?_⟩
 refine .inl ?_
 obtain ⟨r1_0_49,hl1_49,hr1_49⟩:=bnd h
 refine .inr ⟨[3,9],{p:Unit // (Sum.inl p)=r1_0_49},⟨fun|⟨(),_⟩=>[(2,(.dv (.sc (.bool false))))],fun|⟨(),_⟩=>[],fun _=>0⟩,0,?_,?_⟩
 ·rintro ⟨⟨⟩,hp⟩
  subst hp
  replace h:=hr1_49
  obtain rfl:=some_in h
  exact ⟨0,[],[],mt⟩
 ·replace h:=hl1_49
  refine .inl ?_
  refine ⟨[],_,fl (β:=Nat×Int) (fun (n1,x50)=>(fr11_less_l1 x47 x48 n1 x50=some r1_0_49,[(2,(.dv (.sc (.bool false)))),(10,(.int .i64 x50))],[],n1)),[],[],⟨(FUEL,0),h⟩,mt,?_⟩
  rintro ⟨⟨_|n1,x50⟩,h⟩
  ·exact no_none h
  replace h:=(fr11_less_l1.eq_2 x47 x48 x50 n1).symm.trans h
  refine cnd h (fun hb h => ?_) (fun hb h => ?_)
  ·refine .inl ?_
   refine gdn h fun hg h => ?_
   refine gdn h fun hg h => ?_
   refine nml h ?_
   intro x51 h
   refine cnd h (fun hb h => ?_) (fun hb h => ?_)
   ·refine gdn h fun hg h => ?_
    refine gdn h fun hg h => ?_
    refine nml h ?_
    intro x52 h
    obtain rfl:=some_in h
    replace h:=hr1_49
    obtain rfl:=some_in h
    exact ⟨0,[],[],mt⟩
   ·exact ⟨⟨(n1,_),h⟩,[],mt,Nat.lt_succ_self _⟩
  ·exact ⟨[],[],⟨_,some_in h⟩,[],mt⟩
theorem fr11_Mod_c {x40 res} (h:fr11_Mod x40=some res) :
  FB er 33 [(.dv (.roI .u8 x40))] [] [] (.dv (.ints .u8 32 res)) []:=by
 refine fb Tryz.func33 ?_
 unfold fr11_Mod at h
 refine dc ?_
 refine .inl ?_
 refine ⟨(List.replicate 33 (0:Int)),rfl,0,(List.length (List.replicate 33 (0:Int))),⟨rfl,List.length_replicate ..⟩,?_⟩
 refine .inl ?_
 refine .inl ?_
 obtain ⟨x41,c,h⟩:=bnd h
 refine cl [] [3] (fr11_modulus_c c) ?_
 refine .inl ?_
 obtain ⟨hg,h⟩:=gd h
 refine And.intro (le_of_ln2 (ln_full x41) hg) ?_
 refine ⟨([0]++x41),app_cut (cut_full _) (cut_full x41),0,(List.length ([0]++x41)),⟨rfl,app_ln (ln_full x41)⟩,?_⟩
 refine .inl ?_
 obtain ⟨r1_0_43,hl1_43,hr1_43⟩:=bnd h
 refine .inr ⟨[4,11],(({p:Unit // (Sum.inl p)=r1_0_43})⊕({p:Nat×(List Int) // (Sum.inr p)=r1_0_43})),⟨fun|(Sum.inl (⟨(),_⟩))=>[(3,(.sl 1 [] ly3 0 (List.length (List.replicate 33 (0:Int))))),(11,(.sl 1 [] ly3 0 (List.length (List.replicate 33 (0:Int)))))]|(Sum.inr (⟨(x42,x43),_⟩))=>[(3,(.sl 1 [] ly3 0 x42))],fun|(Sum.inl (⟨(),_⟩))=>[]|(Sum.inr (⟨(x42,x43),_⟩))=>[(1,(.rowI .i64 x43))],fun _=>0⟩,0,?_,?_⟩
 ·rintro (⟨⟨⟩,hp⟩|⟨⟨x42,x43⟩,hp⟩)
  ·subst hp
   replace h:=hr1_43
   obtain ⟨x61,g,h⟩:=bnd h
   refine .inr ⟨[],_,fj (fun x61=>([],[(5,(.var (.dv (.ints .u8 32 x61))))])) x61,0,?_,?_⟩
   ·rintro ⟨x61,rfl⟩
    obtain rfl:=some_in h
    exact ⟨0,[],[],mt⟩
   ·replace h:=g
    refine .inl ?_
    refine ⟨[],_,fl (β:=Nat×Int×(List Int)) (fun (n4,x62,x63)=>(fr11_Mod_l4 n4 x62 x63=some x61,[(10,(.int .i64 x62))],[(5,(.var (.dv (.ints .u8 32 x63))))],n4)),[],[],⟨(FUEL,0,(List.replicate 32 (0:Int))),h⟩,mt,?_⟩
    rintro ⟨⟨_|n4,x62,x63⟩,h⟩
    ·exact no_none h
    replace h:=(fr11_Mod_l4.eq_2 x62 x63 n4).symm.trans h
    refine cnd h (fun hb h => ?_) (fun hb h => ?_)
    ·refine .inl ?_
     refine gdn h fun hg h => ?_
     refine nml h ?_
     intro x64 h
     refine gdn h fun hg h => ?_
     exact ⟨⟨(n4,_,_),h⟩,[],mt,Nat.lt_succ_self _⟩
    ·exact ⟨[],[],⟨_,some_in h⟩,[],mt⟩
  ·subst hp
   replace h:=hr1_43
   obtain ⟨x65,g,h⟩:=bnd h
   refine .inr ⟨[],_,fj (fun x65=>([],[(5,(.var (.dv (.ints .u8 32 x65))))])) x65,0,?_,?_⟩
   ·rintro ⟨x65,rfl⟩
    obtain rfl:=some_in h
    exact ⟨0,[],[],mt⟩
   ·replace h:=g
    refine .inl ?_
    refine ⟨[],_,fl (β:=Nat×Int×(List Int)) (fun (n5,x66,x67)=>(fr11_Mod_l5 x42 x43 n5 x66 x67=some x65,[(10,(.int .i64 x66))],[(5,(.var (.dv (.ints .u8 32 x67))))],n5)),[],[],⟨(FUEL,0,(List.replicate 32 (0:Int))),h⟩,mt,?_⟩
    rintro ⟨⟨_|n5,x66,x67⟩,h⟩
    ·exact no_none h
    replace h:=(fr11_Mod_l5.eq_2 x42 x43 x66 x67 n5).symm.trans h
    refine cnd h (fun hb h => ?_) (fun hb h => ?_)
    ·refine .inl ?_
     refine gdn h fun hg h => ?_
     refine nml h ?_
     intro x68 h
     refine gdn h fun hg h => ?_
     exact ⟨⟨(n5,_,_),h⟩,[],mt,Nat.lt_succ_self _⟩
    ·exact ⟨[],[],⟨_,some_in h⟩,[],mt⟩
 ·replace h:=hl1_43
  refine .inl ?_
  refine ⟨[11],_,fl (β:=Nat×Nat×Int×(List Int)) (fun (n1,x46,x47,x48)=>(fr11_Mod_l1 x40 x41 n1 x46 x47 x48=some r1_0_43,[(3,(.sl 1 [] ly3 0 x46)),(5,(.int .i64 x47))],[(1,(.rowI .i64 x48))],n1)),[],[],⟨(FUEL,(List.length (List.replicate 33 (0:Int))),(IntKind.wrap .i64 ((List.length x40:Int)-1)),(List.replicate 33 (0:Int))),h⟩,mt,?_⟩
  rintro ⟨⟨_|n1,x46,x47,x48⟩,h⟩
  ·exact no_none h
  replace h:=(fr11_Mod_l1.eq_2 x40 x41 x46 x47 x48 n1).symm.trans h
  refine cnd h (fun hb h => ?_) (fun hb h => ?_)
  ·refine .inl ?_
   refine .inl ?_
   refine gdn h fun hg h => ?_
   refine ⟨1,(Int.toNat ((x46:Int)-1)),⟨by simp,rfl⟩,?_⟩
   obtain ⟨hg,h⟩:=gd h
   refine And.intro (hg) ?_
   refine ⟨(([]:List Int)++(List.take (Int.toNat ((x46:Int)-1)) (List.drop 1 x48))),app_cut (cut_full _) (rfl),0,(List.length (([]:List Int)++(List.take (Int.toNat ((x46:Int)-1)) (List.drop 1 x48)))),⟨rfl,app_ln (rfl)⟩,?_⟩
   refine .inl ?_
   refine nml h ?_
   intro x49 h
   refine gdn h fun hg h => ?_
   refine .inl ?_
   obtain ⟨hg,h⟩:=gd h
   refine And.intro (le_of_ln2 (ln_full [(IntKind.wrap .i64 (List.getD x40 (Int.toNat x47) 0))]) hg) ?_
   refine ⟨(x49++[(IntKind.wrap .i64 (List.getD x40 (Int.toNat x47) 0))]),app_cut (cut_full _) (cut_full [(IntKind.wrap .i64 (List.getD x40 (Int.toNat x47) 0))]),0,(List.length (x49++[(IntKind.wrap .i64 (List.getD x40 (Int.toNat x47) 0))])),⟨rfl,app_ln (ln_full [(IntKind.wrap .i64 (List.getD x40 (Int.toNat x47) 0))])⟩,?_⟩
   refine .inl ?_
   refine nml h ?_
   intro x50 h
   obtain ⟨x51,g,h⟩:=bnd h
   refine .inr ⟨[3,32],_,fj (fun x51=>([(3,(.sl 8 [] ly3 0 (List.length x51))),(32,(.sl 8 [] ly3 0 (List.length x51)))],[(8,(.rowI .i64 x51))])) x51,0,?_,?_⟩
   ·rintro ⟨x51,rfl⟩
    exact ⟨⟨(n1,_,_,_),h⟩,[(1,8)],mt,Nat.lt_succ_self _⟩
   ·replace h:=g
    refine .inl ?_
    refine ⟨[3,32],_,fl (β:=Nat×(List Int)) (fun (n2,x52)=>(fr11_Mod_l2 x41 n2 x52=some x51,[(3,(.sl 8 [] ly3 0 (List.length x52))),(32,(.sl 8 [] ly3 0 (List.length x52)))],[(8,(.rowI .i64 x52))],n2)),[],[],⟨(FUEL,x50),h⟩,mt,?_⟩
    rintro ⟨⟨_|n2,x52⟩,h⟩
    ·exact no_none h
    replace h:=(fr11_Mod_l2.eq_2 x41 x52 n2).symm.trans h
    obtain ⟨x53,c,h⟩:=bnd h
    refine cl [true] [] (fr11_less_c c) ?_ (hv:=⟨ve_full _ _,trivial⟩)
    refine cnd h (fun hb h => ?_) (fun hb h => ?_)
    ·refine .inl ?_
     obtain ⟨x54,g,h⟩:=bnd h
     refine .inr ⟨[3,32,33],_,fj (fun x54=>([(3,(.sl 8 [] ly3 0 (List.length x54))),(32,(.sl 8 [] ly3 0 (List.length x54))),(33,(.sl 8 [] ly3 0 (List.length x54)))],[(8,(.rowI .i64 x54))])) x54,0,?_,?_⟩
     ·rintro ⟨x54,rfl⟩
      exact ⟨⟨(n2,_),h⟩,[],mt,Nat.lt_succ_self _⟩
     ·replace h:=g
      refine .inl ?_
      refine ⟨[3,32,33],_,fl (β:=Nat×Int×Int×(List Int)) (fun (n3,x55,x56,x57)=>(fr11_Mod_l3 x41 n3 x55 x56 x57=some x54,[(3,(.sl 8 [] ly3 0 (List.length x57))),(6,(.int .i64 x55)),(7,(.int .i64 x56)),(32,(.sl 8 [] ly3 0 (List.length x57))),(33,(.sl 8 [] ly3 0 (List.length x57)))],[(8,(.rowI .i64 x57))],n3)),[],[],⟨(FUEL,0,32,x52),h⟩,mt,?_⟩
      rintro ⟨⟨_|n3,x55,x56,x57⟩,h⟩
      ·exact no_none h
      replace h:=(fr11_Mod_l3.eq_2 x41 x55 x56 x57 n3).symm.trans h
      refine cnd h (fun hb h => ?_) (fun hb h => ?_)
      ·refine .inl ?_
       refine gdn h fun hg h => ?_
       refine gdn h fun hg h => ?_
       refine nml h ?_
       intro x58 h
       obtain ⟨⟨x59,x60⟩,g,h⟩:=bnd h
       refine .inr ⟨[],_,fj (fun (x59,x60)=>([(6,(.int .i64 x59)),(8,(.int .i64 x60))],[])) (x59,x60),0,?_,?_⟩
       ·rintro ⟨_,rfl⟩
        refine gdn h fun hg h => ?_
        exact ⟨⟨(n3,x59,(IntKind.wrap .i64 (x56-1)),(List.set x57 (Int.toNat x56) x60)),h⟩,[],⟨rfl,⟨(show ((.sl 8 [] ly3 0 (List.length x57)):AV)=((.sl 8 [] ly3 0 (List.length (List.set x57 (Int.toNat x56) x60))):AV) by simp only [List.length_set]),rfl,rfl,(show ((.sl 8 [] ly3 0 (List.length x57)):AV)=((.sl 8 [] ly3 0 (List.length (List.set x57 (Int.toNat x56) x60))):AV) by simp only [List.length_set]),(show ((.sl 8 [] ly3 0 (List.length x57)):AV)=((.sl 8 [] ly3 0 (List.length (List.set x57 (Int.toNat x56) x60))):AV) by simp only [List.length_set]),trivial⟩,⟨rfl,rfl,trivial,rfl,rfl,trivial,trivial,rfl,rfl,trivial⟩,rfl⟩,Nat.lt_succ_self _⟩
       ·replace h:=g
        refine cnd h (fun hb h => ?_) (fun hb h => ?_)
        ·exact ⟨[],[],⟨_,some_in h⟩,[],mt⟩
        ·exact ⟨[],[],⟨_,some_in h⟩,[],mt⟩
      ·exact ⟨[],[],⟨_,some_in h⟩,[],mt⟩
    ·exact ⟨[],[],⟨_,some_in h⟩,[],mt⟩
  ·exact ⟨[],[],(Sum.inr (⟨_,some_in h⟩)),[],mt⟩
theorem fr13_hash_c {x38 res} (h:fr13_hash x38=some res) :
  FB er 22 [(.dv (.roI .u8 x38))] [] [] (.dv (.ints .u8 32 res)) []:=by
 refine fb Tryz.func22 ?_
 unfold fr13_hash at h
 obtain ⟨x39,c,h⟩:=bnd h
 refine cl [] [] (fr03_Sum_c c) ?_
 refine .inl ?_
 refine And.intro (by omega) ?_
 refine ⟨0,64,⟨rfl,rfl⟩,?_⟩
 obtain ⟨x40,c,h⟩:=bnd h
 refine cl [true] [] (fr11_Mod_c c) ?_
 obtain rfl:=some_in h
 exact ⟨0,[],[],mt⟩
theorem fr13_challenge_c {x44 x45 x46 res} (h:fr13_challenge x44 x45 x46=some res) :
  FB er 25 [(.dv (.ints .u8 32 x44)),(.dv (.ints .u8 32 x45)),(.dv (.roI .u8 x46))] [] [] (.dv (.ints .u8 32 res)) []:=by
 refine fb Tryz.func25 ?_
 unfold fr13_challenge at h
 refine .inl ?_
 refine .inl ?_
 refine And.intro (by omega) ?_
 refine ⟨0,32,⟨rfl,rfl⟩,?_⟩
 obtain ⟨hg,h⟩:=gd h
 refine And.intro (le_of_ln2 (ln_0 _ _) hg) ?_
 refine ⟨(([]:List Int)++(List.take 32 x44)),app_cut (cut_full _) (cut_0 _ _),0,(List.length (([]:List Int)++(List.take 32 x44))),⟨rfl,app_ln (ln_0 _ _)⟩,?_⟩
 refine .inl ?_
 refine .inl ?_
 refine And.intro (by omega) ?_
 refine ⟨0,32,⟨rfl,rfl⟩,?_⟩
 obtain ⟨hg,h⟩:=gd h
 refine And.intro (le_of_ln2 (ln_0 _ _) hg) ?_
 refine ⟨((([]:List Int)++(List.take 32 x44))++(List.take 32 x45)),app_cut (cut_full _) (cut_0 _ _),0,(List.length ((([]:List Int)++(List.take 32 x44))++(List.take 32 x45))),⟨rfl,app_ln (ln_0 _ _)⟩,?_⟩
 refine .inl ?_
 refine nml h ?_
 intro x47 h
 obtain ⟨hg,h⟩:=gd h
 refine And.intro (hg) ?_
 refine ⟨(x47++x46),app_cut (cut_full _) (rfl),0,(List.length (x47++x46)),⟨rfl,app_ln (rfl)⟩,?_⟩
 refine .inl ?_
 obtain ⟨x48,c,h⟩:=bnd h
 refine cl [true] [] (fr13_hash_c c) ?_ (hv:=⟨ve_full _ _,trivial⟩)
 obtain rfl:=some_in h
 exact ⟨0,[],[],mt⟩
theorem fr11_Times_c {x50 x51 res} (h:fr11_Times x50 x51=some res) :
  FB er 24 [(.dv (.ints .u8 32 x50)),(.dv (.ints .u8 32 x51))] [] [] (.dv (.ints .u8 32 res)) []:=by
 refine fb Tryz.func24 ?_
 unfold fr11_Times at h
 refine dc ?_
 refine .inl ?_
 refine ⟨(List.replicate 65 (0:Int)),rfl,0,(List.length (List.replicate 65 (0:Int))),⟨rfl,List.length_replicate ..⟩,?_⟩
 refine .inl ?_
 obtain ⟨⟨x52,x53,x54⟩,g,h⟩:=bnd h
 refine .inr ⟨[2,3,5,12],_,fj (fun (x52,x53,x54)=>([(5,(.sl 3 [] ly3 0 x52)),(12,(.sl 3 [] ly3 0 x53))],[(3,(.rowI .i64 x54))])) (x52,x53,x54),0,?_,?_⟩
 ·rintro ⟨_,rfl⟩
  refine .inl ?_
  obtain ⟨r3_2_65,hl3_65,hr3_65⟩:=bnd h
  refine .inr ⟨[38,40],(({p:Unit // (Sum.inl p)=r3_2_65})⊕({p:(List Int) // (Sum.inr p)=r3_2_65})),⟨fun|(Sum.inl (⟨(),_⟩))=>[(8,(.sl 4 [] ly5 0 (List.length ([]:List Int)))),(38,(.sl 4 [] ly5 0 (List.length ([]:List Int))))]|(Sum.inr (⟨x65,_⟩))=>[(8,(.sl 4 [] ly5 0 (List.length x65)))],fun|(Sum.inl (⟨(),_⟩))=>[]|(Sum.inr (⟨x65,_⟩))=>[(4,(.rowI .u8 x65))],fun _=>0⟩,0,?_,?_⟩
  ·rintro (⟨⟨⟩,hp⟩|⟨x65,hp⟩)
   ·subst hp
    replace h:=hr3_65
    obtain ⟨x70,c,h⟩:=bnd h
    refine cl [true] [] (fr11_Mod_c c) ?_ (hv:=⟨ve_full _ _,trivial⟩)
    obtain rfl:=some_in h
    exact ⟨0,[],[],mt⟩
   ·subst hp
    replace h:=hr3_65
    obtain ⟨x71,c,h⟩:=bnd h
    refine cl [true] [] (fr11_Mod_c c) ?_ (hv:=⟨ve_full _ _,trivial⟩)
    obtain rfl:=some_in h
    exact ⟨0,[],[],mt⟩
  ·replace h:=hl3_65
   refine .inl ?_
   refine ⟨[38],_,fl (β:=Nat×Int×Int×(List Int)) (fun (n3,x66,x67,x68)=>(fr11_Times_l3 x52 x54 n3 x66 x67 x68=some r3_2_65,[(8,(.sl 4 [] ly5 0 (List.length x68))),(9,(.int .i64 x66)),(41,(.int .i64 x67))],[(4,(.rowI .u8 x68))],n3)),[],[],⟨(FUEL,0,0,([]:List Int)),h⟩,mt,?_⟩
   rintro ⟨⟨_|n3,x66,x67,x68⟩,h⟩
   ·exact no_none h
   replace h:=(fr11_Times_l3.eq_2 x52 x54 x66 x67 x68 n3).symm.trans h
   refine cnd h (fun hb h => ?_) (fun hb h => ?_)
   ·refine .inl ?_
    refine gdn h fun hg h => ?_
    refine nml h ?_
    intro x69 h
    refine dc ?_
    refine .inl ?_
    obtain ⟨hg,h⟩:=gd h
    refine And.intro (le_of_ln2 (ln_full [(IntKind.wrap .u8 (Int.tmod x69 256))]) hg) ?_
    refine ⟨(x68++[(IntKind.wrap .u8 (Int.tmod x69 256))]),app_cut (cut_full _) (cut_full [(IntKind.wrap .u8 (Int.tmod x69 256))]),0,(List.length (x68++[(IntKind.wrap .u8 (Int.tmod x69 256))])),⟨rfl,app_ln (ln_full [(IntKind.wrap .u8 (Int.tmod x69 256))])⟩,?_⟩
    refine .inl ?_
    refine dc ?_
    exact ⟨⟨(n3,_,_,_),h⟩,[(4,6)],mt,Nat.lt_succ_self _⟩
   ·exact ⟨[],[],(Sum.inr (⟨_,some_in h⟩)),[],mt⟩
 ·replace h:=g
  refine .inl ?_
  refine ⟨[],_,fl (β:=Nat×Int×(List Int)) (fun (n1,x57,x58)=>(fr11_Times_l1 x50 x51 n1 x57 x58=some (x52,x53,x54),[(6,(.int .i64 x57))],[(3,(.rowI .i64 x58))],n1)),[],[],⟨(FUEL,0,(List.replicate 65 (0:Int))),h⟩,mt,?_⟩
  rintro ⟨⟨_|n1,x57,x58⟩,h⟩
  ·exact no_none h
  replace h:=(fr11_Times_l1.eq_2 x50 x51 x57 x58 n1).symm.trans h
  refine cnd h (fun hb h => ?_) (fun hb h => ?_)
  ·refine .inl ?_
   obtain ⟨x59,g,h⟩:=bnd h
   refine .inr ⟨[],_,fj (fun x59=>([],[(3,(.rowI .i64 x59))])) x59,0,?_,?_⟩
   ·rintro ⟨x59,rfl⟩
    exact ⟨⟨(n1,_,_),h⟩,[],mt,Nat.lt_succ_self _⟩
   ·replace h:=g
    refine .inl ?_
    refine ⟨[],_,fl (β:=Nat×Int×(List Int)) (fun (n2,x60,x61)=>(fr11_Times_l2 x50 x51 x57 n2 x60 x61=some x59,[(7,(.int .i64 x60))],[(3,(.rowI .i64 x61))],n2)),[],[],⟨(FUEL,0,x58),h⟩,mt,?_⟩
    rintro ⟨⟨_|n2,x60,x61⟩,h⟩
    ·exact no_none h
    replace h:=(fr11_Times_l2.eq_2 x50 x51 x57 x60 x61 n2).symm.trans h
    refine cnd h (fun hb h => ?_) (fun hb h => ?_)
    ·refine .inl ?_
     refine gdn h fun hg h => ?_
     refine nml h ?_
     intro x62 h
     refine gdn h fun hg h => ?_
     refine gdn h fun hg h => ?_
     refine nml h ?_
     intro x63 h
     refine gdn h fun hg h => ?_
     refine nml h ?_
     intro x64 h
     exact ⟨⟨(n2,_,_),h⟩,[],mt,Nat.lt_succ_self _⟩
    ·exact ⟨[],[],⟨_,some_in h⟩,[],mt⟩
  ·exact ⟨[],[],⟨_,some_in h⟩,[],mt⟩
theorem fr11_Add_c {x73 x74 res} (h:fr11_Add x73 x74=some res) :
  FB er 23 [(.dv (.ints .u8 32 x73)),(.dv (.ints .u8 32 x74))] [] [] (.dv (.ints .u8 32 res)) []:=by
 refine fb Tryz.func23 ?_
 unfold fr11_Add at h
 refine .inl ?_
 obtain ⟨⟨x75,x76⟩,g,h⟩:=bnd h
 refine .inr ⟨[2,3,8],_,fj (fun (x75,x76)=>([(5,(.sl 3 [] ly5 0 (List.length x76))),(6,(.int .i64 x75))],[(3,(.rowI .u8 x76))])) (x75,x76),0,?_,?_⟩
 ·rintro ⟨_,rfl⟩
  refine .inl ?_
  obtain ⟨hg,h⟩:=gd h
  refine And.intro (le_of_ln2 (ln_full [(IntKind.wrap .u8 x75)]) hg) ?_
  refine ⟨(x76++[(IntKind.wrap .u8 x75)]),app_cut (cut_full _) (cut_full [(IntKind.wrap .u8 x75)]),0,(List.length (x76++[(IntKind.wrap .u8 x75)])),⟨rfl,app_ln (ln_full [(IntKind.wrap .u8 x75)])⟩,?_⟩
  refine .inl ?_
  obtain ⟨x83,c,h⟩:=bnd h
  refine cl [true] [] (fr11_Mod_c c) ?_ (hv:=⟨ve_full _ _,trivial⟩)
  obtain rfl:=some_in h
  exact ⟨0,[],[],mt⟩
 ·replace h:=g
  refine .inl ?_
  refine ⟨[8],_,fl (β:=Nat×Int×Int×(List Int)) (fun (n1,x77,x78,x79)=>(fr11_Add_l1 x73 x74 n1 x77 x78 x79=some (x75,x76),[(5,(.sl 3 [] ly5 0 (List.length x79))),(6,(.int .i64 x77)),(7,(.int .i64 x78))],[(3,(.rowI .u8 x79))],n1)),[],[],⟨(FUEL,0,0,([]:List Int)),h⟩,mt,?_⟩
  rintro ⟨⟨_|n1,x77,x78,x79⟩,h⟩
  ·exact no_none h
  replace h:=(fr11_Add_l1.eq_2 x73 x74 x77 x78 x79 n1).symm.trans h
  refine cnd h (fun hb h => ?_) (fun hb h => ?_)
  ·refine .inl ?_
   refine gdn h fun hg h => ?_
   refine gdn h fun hg h => ?_
   refine nml h ?_
   intro x80 h
   refine dc ?_
   refine nml h ?_
   intro x81 h
   refine .inl ?_
   obtain ⟨hg,h⟩:=gd h
   refine And.intro (le_of_ln2 (ln_full [x81]) hg) ?_
   refine ⟨(x79++[x81]),app_cut (cut_full _) (cut_full [x81]),0,(List.length (x79++[x81])),⟨rfl,app_ln (ln_full [x81])⟩,?_⟩
   refine .inl ?_
   refine dc ?_
   refine nml h ?_
   intro x82 h
   exact ⟨⟨(n1,_,_,_),h⟩,[(3,5)],mt,Nat.lt_succ_self _⟩
  ·exact ⟨[],[],⟨_,some_in h⟩,[],mt⟩
theorem fr13_Sign_c {x34 x35 res} (h:fr13_Sign x34 x35=some res) :
  FB er 9 [(.dv (.ints .u8 32 x34)),(.dv (.roI .u8 x35))] [] [] (.dv (.ints .u8 64 res)) []:=by
 refine fb Tryz.func9 ?_
 unfold fr13_Sign at h
 obtain ⟨⟨x36,x37⟩,c,h⟩:=bnd h
 refine cl [] [] (fr13_secret_c c) ?_
 refine .inl ?_
 refine .inl ?_
 refine And.intro (by omega) ?_
 refine ⟨0,32,⟨rfl,rfl⟩,?_⟩
 obtain ⟨hg,h⟩:=gd h
 refine And.intro (le_of_ln2 (ln_0 _ _) hg) ?_
 refine ⟨(([]:List Int)++(List.take 32 x37)),app_cut (cut_full _) (cut_0 _ _),0,(List.length (([]:List Int)++(List.take 32 x37))),⟨rfl,app_ln (ln_0 _ _)⟩,?_⟩
 refine .inl ?_
 obtain ⟨hg,h⟩:=gd h
 refine And.intro (hg) ?_
 refine ⟨((([]:List Int)++(List.take 32 x37))++x35),app_cut (cut_full _) (rfl),0,(List.length ((([]:List Int)++(List.take 32 x37))++x35)),⟨rfl,app_ln (rfl)⟩,?_⟩
 refine .inl ?_
 obtain ⟨x38,c,h⟩:=bnd h
 refine cl [true] [] (fr13_hash_c c) ?_ (hv:=⟨ve_full _ _,trivial⟩)
 obtain ⟨x39,c,h⟩:=bnd h
 refine cl [] [] (fr13_base_c c) ?_
 obtain ⟨x40,c,h⟩:=bnd h
 refine cl [] [] (fr13_base_c c) ?_
 obtain ⟨x41,c,h⟩:=bnd h
 refine cl [] [] (fr13_challenge_c c) ?_
 obtain ⟨x42,c,h⟩:=bnd h
 refine cl [] [] (fr11_Times_c c) ?_
 obtain ⟨x43,c,h⟩:=bnd h
 refine cl [] [] (fr11_Add_c c) ?_
 obtain ⟨x44,g,h⟩:=bnd h
 refine .inr ⟨[],_,fj (fun x44=>([],[(10,(.var (.dv (.ints .u8 64 x44))))])) x44,0,?_,?_⟩
 ·rintro ⟨x44,rfl⟩
  obtain rfl:=some_in h
  exact ⟨0,[],[],mt⟩
 ·replace h:=g
  refine .inl ?_
  refine ⟨[],_,fl (β:=Nat×Int×(List Int)) (fun (n1,x45,x46)=>(fr13_Sign_l1 x39 x43 n1 x45 x46=some x44,[(11,(.int .i64 x45))],[(10,(.var (.dv (.ints .u8 64 x46))))],n1)),[],[],⟨(FUEL,0,(List.replicate 64 (0:Int))),h⟩,mt,?_⟩
  rintro ⟨⟨_|n1,x45,x46⟩,h⟩
  ·exact no_none h
  replace h:=(fr13_Sign_l1.eq_2 x39 x43 x45 x46 n1).symm.trans h
  refine cnd h (fun hb h => ?_) (fun hb h => ?_)
  ·refine .inl ?_
   refine gdn h fun hg h => ?_
   refine gdn h fun hg h => ?_
   refine gdn h fun hg h => ?_
   refine nml h ?_
   intro x47 h
   refine gdn h fun hg h => ?_
   refine nml h ?_
   intro x48 h
   exact ⟨⟨(n1,_,_),h⟩,[],mt,Nat.lt_succ_self _⟩
  ·exact ⟨[],[],⟨_,some_in h⟩,[],mt⟩
theorem slices_Concat_byte_byte_7_c {x57 x58 res} (h:slices_Concat_byte_byte_7 x57 x58=some res) :
  FB er 16 [(.vs 0 0 1)] [(.var (.cons (.sl 1 [] ly5 0 x57) (.dv .nil))),(.rowI .u8 x58)] [3] (.sl 3 [] ly5 0 (List.length res)) [(.var (.cons (.sl 1 [] ly5 0 x57) (.dv .nil))),(.rowI .u8 x58),(.rowI .u8 res)]:=by
 refine fb Tryz.func16 ?_
 unfold slices_Concat_byte_byte_7 at h
 obtain ⟨⟨⟩,g,h⟩:=bnd h
 refine .inr ⟨[10],_,fj (fun ()=>([(3,(.int .i64 (IntKind.wrap .i64 (0+(x57:Int)))))],[])) (),0,?_,?_⟩
 ·rintro ⟨_,rfl⟩
  obtain ⟨⟨x59,x60⟩,c,h⟩:=bnd h
  refine cl [] [2] (slices_Grow_byte_byte_2_c c) ?_
  refine .inl ?_
  obtain ⟨⟨⟩,g,h⟩:=bnd h
  refine .inr ⟨[24,26],_,fj (fun ()=>([(6,(.sl 3 [] ly5 0 (List.length ((List.take x59 x60)++(List.take x57 x58)))))],[(2,.dead),(3,(.rowI .u8 ((List.take x59 x60)++(List.take x57 x58))))])) (),1,?_,?_⟩
  ·rintro ⟨_,rfl⟩
   obtain rfl:=some_in h
   exact ⟨0,[],[],mt⟩
  ·replace h:=g
   refine .inr ⟨30,?_⟩
   refine And.intro (fun _ => ?_) (fun h0=>Bool.noConfusion h0)
   refine .inl ?_
   refine dc ?_
   obtain ⟨hg,h⟩:=gd h
   refine And.intro (le_of_ln2 (ln_0 _ _) hg) ?_
   obtain ⟨hg2,h⟩:=gd h
   refine ⟨((List.take x59 x60)++(List.take x57 x58)),app_cut (cut_0 _ _) (cut_0 _ _),0,(List.length ((List.take x59 x60)++(List.take x57 x58))),⟨rfl,cut_ln hg2 (ln_0 _ _)⟩,?_⟩
   refine .inl ?_
   refine And.intro (fun h0=>Bool.noConfusion h0) (fun _ => ?_)
   exact ⟨[],[],⟨_,some_in h⟩,[],mt⟩
 ·replace h:=g
  refine .inr ⟨30,?_⟩
  refine And.intro (fun _ => ?_) (fun h0=>Bool.noConfusion h0)
  refine .inl ?_
  refine dc ?_
  refine .inl ?_
  refine cnd h (fun hb h => ?_) (fun hb h => ?_)
  ·exact no_none h
  ·refine And.intro (fun h0=>Bool.noConfusion h0) (fun _ => ?_)
   exact ⟨[],[],⟨_,some_in h⟩,[],mt⟩
theorem sign_Verify_2_c {x51 x52 x53 x54 res} (h:sign_Verify_2 x51 x52 x53 x54=some res) :
  FB er 10 [(.dv (.ints .u8 32 x51)),(.dv (.ints .u8 64 x52)),(.vs 0 0 1)] [(.var (.cons (.sl 1 [] ly5 0 x53) (.dv .nil))),(.rowI .u8 x54)] [] (.bl res) [(.var (.cons (.sl 1 [] ly5 0 x53) (.dv .nil))),(.rowI .u8 x54)]:=by
 refine fb Tryz.func10 ?_
 unfold sign_Verify_2 at h
 refine .inr ?_
 refine dc ?_
 refine ⟨x52,rfl,32,32,⟨rfl,rfl⟩,?_⟩
 obtain ⟨hg,h⟩:=gd h
 refine And.intro (by first|exact hg|simpa using hg) ?_
 refine ⟨(List.take 32 (List.take 32 (List.drop 32 x52))),by first|rfl|simp,?_⟩
 obtain ⟨r63,c,h⟩:=bnd h
 rcases r63 with x55|x63
 ·refine cl [] [] (points_Read_c c) ?_
  refine And.intro (fun h0=>Bool.noConfusion h0) (fun _ => ?_)
  obtain ⟨x56,c,h⟩:=bnd h
  refine cl [] [] (scalar_Right_c c) ?_
  refine cnd h (fun hb h => ?_) (fun hb h => ?_)
  ·obtain rfl:=some_in h
   exact ⟨0,[],[],mt⟩
  ·refine .inl ?_
   refine dc ?_
   refine dc ?_
   refine ⟨0,32,⟨rfl,rfl⟩,?_⟩
   refine .inl ?_
   refine And.intro (by omega) ?_
   refine ⟨0,32,⟨rfl,rfl⟩,?_⟩
   obtain ⟨x57,c,h⟩:=bnd h
   refine cl [] [0,1,6] (slices_Concat_byte_byte_7_c c) ?_
   refine .inl ?_
   refine .inr ?_
   obtain ⟨x58,c,h⟩:=bnd h
   refine cl [] [7,3,2,6] (sign_hash_3_c c) ?_
   obtain ⟨x59,c,h⟩:=bnd h
   refine cl [] [] (points_Point_Negate_c c) ?_
   obtain ⟨x60,c,h⟩:=bnd h
   refine cl [] [] (points_Point_With_c c) ?_
   obtain ⟨x61,c,h⟩:=bnd h
   refine cl [] [] (points_Point_Bytes_c c) ?_
   refine .inl ?_
   refine And.intro (by omega) ?_
   refine ⟨0,32,⟨rfl,rfl⟩,?_⟩
   refine .inl ?_
   refine dc ?_
   refine dc ?_
   refine ⟨0,32,⟨rfl,rfl⟩,?_⟩
   obtain ⟨x62,c,h⟩:=bnd h
   refine cl [true,true] [] (words_Equal_c c) ?_
   obtain rfl:=some_in h
   exact ⟨0,[],[],mt⟩
 ·refine cl [] [] (points_Read_c c) ?_
  refine And.intro (fun _ => ?_) (fun h0=>Bool.noConfusion h0)
  obtain rfl:=some_in h
  exact ⟨0,[],[],mt⟩
theorem fl13_SignSigns_c {x1 x2 x3 res} (h:fl13_SignSigns x1 x2 x3=some res) :
  FB er 3 [(.dv (.ints .u8 32 x1)),(.dv (.roI .u8 x2)),(.dv (.roI .u8 x3))] [] [] (.bl res) []:=by
 refine fb Tryz.func3 ?_
 unfold fl13_SignSigns at h
 obtain ⟨x4,c,h⟩:=bnd h
 refine cl [] [] (fl13_alive_c c) ?_
 refine cnd h (fun hb h => ?_) (fun hb h => ?_)
 ·obtain rfl:=some_in h
  exact ⟨0,[],[],mt⟩
 ·refine cnd h (fun hb h => ?_) (fun hb h => ?_)
  ·obtain rfl:=some_in h
   exact ⟨0,[],[],mt⟩
  ·refine cnd h (fun hb h => ?_) (fun hb h => ?_)
   ·obtain rfl:=some_in h
    exact ⟨0,[],[],mt⟩
   ·refine .inl ?_
    obtain ⟨hg,h⟩:=gd h
    refine And.intro (hg) ?_
    refine ⟨(([]:List Int)++x2),app_cut (cut_full _) (rfl),0,(List.length (([]:List Int)++x2)),⟨rfl,app_ln (rfl)⟩,?_⟩
    refine .inl ?_
    obtain ⟨hg,h⟩:=gd h
    refine And.intro (hg) ?_
    refine ⟨((([]:List Int)++x2)++x3),app_cut (cut_full _) (rfl),0,(List.length ((([]:List Int)++x2)++x3)),⟨rfl,app_ln (rfl)⟩,?_⟩
    refine .inl ?_
    refine .inl ?_
    refine ⟨(List.length [x2,x3]),(rw_ (fun q => .roI .u8 q) [] [x2,x3]),⟨rfl,fun j hj=>match j,hj with|0,_=>rfl|1,_=>rfl|_+2,hj=>absurd hj (by omega)⟩,?_⟩
    refine .inl ?_
    obtain ⟨x5,c,h⟩:=bnd h
    refine cl [false,true] [] (sign_Sign_2_c c) ?_
    obtain ⟨x6,c,h⟩:=bnd h
    refine cl [] [] (sign_Public_c c) ?_
    obtain ⟨x7,c,h⟩:=bnd h
    refine cl [] [] (fr13_Public_c c) ?_
    refine cnd h (fun hb h => ?_) (fun hb h => ?_)
    ·obtain ⟨x8,c,h⟩:=bnd h
     refine cl [false,true] [] (fr13_Sign_c c) ?_ (hv:=⟨.inl rfl,ve_full _ _,trivial⟩)
     refine cnd h (fun hb h => ?_) (fun hb h => ?_)
     ·obtain ⟨x9,c,h⟩:=bnd h
      refine cl [] [] (sign_Public_c c) ?_
      refine .inr ?_
      obtain ⟨x10,c,h⟩:=bnd h
      refine cl [] [6,3] (sign_Verify_2_c c) ?_
      obtain rfl:=some_in h
      exact ⟨0,[],[],mt⟩
     ·obtain rfl:=some_in h
      exact ⟨0,[],[],mt⟩
    ·obtain rfl:=some_in h
     exact ⟨0,[],[],mt⟩
end
end Go.Eng
