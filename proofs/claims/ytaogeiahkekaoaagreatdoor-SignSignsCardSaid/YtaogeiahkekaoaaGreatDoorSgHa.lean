/-
  Part of a proof: SgHa.
-/
import Derived.Test.YtaogeiahkekaoaaGreatDoorSgSa
import Derived.KernelRfl
set_option linter.unusedVariables false
set_option linter.unusedSimpArgs false
set_option linter.unusedVariables false
set_option linter.unusedSimpArgs false
namespace Go.Eng
set_option maxRecDepth 100000
set_option maxHeartbeats 1000000
theorem R64_14 (x:Int):∃ r,words_Right64 x 14=some r:=by
 obtain ⟨r,h,_⟩:=some_of_map (o:=words_Right64 x 14) (f:=fun _=>()) (b:=()) (by kernel_rfl)
 exact ⟨r,h⟩
theorem R64_18 (x:Int):∃ r,words_Right64 x 18=some r:=by
 obtain ⟨r,h,_⟩:=some_of_map (o:=words_Right64 x 18) (f:=fun _=>()) (b:=()) (by kernel_rfl)
 exact ⟨r,h⟩
theorem R64_41 (x:Int):∃ r,words_Right64 x 41=some r:=by
 obtain ⟨r,h,_⟩:=some_of_map (o:=words_Right64 x 41) (f:=fun _=>()) (b:=()) (by kernel_rfl)
 exact ⟨r,h⟩
theorem R64_28 (x:Int):∃ r,words_Right64 x 28=some r:=by
 obtain ⟨r,h,_⟩:=some_of_map (o:=words_Right64 x 28) (f:=fun _=>()) (b:=()) (by kernel_rfl)
 exact ⟨r,h⟩
theorem R64_34 (x:Int):∃ r,words_Right64 x 34=some r:=by
 obtain ⟨r,h,_⟩:=some_of_map (o:=words_Right64 x 34) (f:=fun _=>()) (b:=()) (by kernel_rfl)
 exact ⟨r,h⟩
theorem R64_39 (x:Int):∃ r,words_Right64 x 39=some r:=by
 obtain ⟨r,h,_⟩:=some_of_map (o:=words_Right64 x 39) (f:=fun _=>()) (b:=()) (by kernel_rfl)
 exact ⟨r,h⟩
theorem R64_1 (x:Int):∃ r,words_Right64 x 1=some r:=by
 obtain ⟨r,h,_⟩:=some_of_map (o:=words_Right64 x 1) (f:=fun _=>()) (b:=()) (by kernel_rfl)
 exact ⟨r,h⟩
theorem R64_8 (x:Int):∃ r,words_Right64 x 8=some r:=by
 obtain ⟨r,h,_⟩:=some_of_map (o:=words_Right64 x 8) (f:=fun _=>()) (b:=()) (by kernel_rfl)
 exact ⟨r,h⟩
theorem R64_19 (x:Int):∃ r,words_Right64 x 19=some r:=by
 obtain ⟨r,h,_⟩:=some_of_map (o:=words_Right64 x 19) (f:=fun _=>()) (b:=()) (by kernel_rfl)
 exact ⟨r,h⟩
theorem R64_61 (x:Int):∃ r,words_Right64 x 61=some r:=by
 obtain ⟨r,h,_⟩:=some_of_map (o:=words_Right64 x 61) (f:=fun _=>()) (b:=()) (by kernel_rfl)
 exact ⟨r,h⟩
theorem word_tot {x:List Int} (h:8≤x.length):∃ r,shawide_word x=some r:=by
 obtain ⟨c0,c1,c2,c3,c4,c5,c6,c7,rest,rfl⟩:∃ c0 c1 c2 c3 c4 c5 c6 c7 rest,x=c0::c1::c2::c3::c4::c5::c6::c7::rest:=by
  match x,h with
  |c0::c1::c2::c3::c4::c5::c6::c7::rest,_=>exact ⟨c0,c1,c2,c3,c4,c5,c6,c7,rest,rfl⟩
 obtain ⟨r,h1,_⟩:=some_of_map (o:=shawide_word_l1 (c0::c1::c2::c3::c4::c5::c6::c7::rest) FUEL 0 0) (f:=fun _=>()) (b:=()) (by kernel_rfl)
 unfold shawide_word
 rw [if_pos (by omega),h1]
 exact ⟨r,rfl⟩
theorem sched_l1_tot (b:List Int) (hb:b.length=128):∀ (r n i:Nat) (w:List Int),i+r=80->r<n->w.length=80->∃ w',shawide_schedule_l1 b n (i:Int) w=some w'/\w'.length=80
 |_,0,_,_,_,h,_=>absurd h (Nat.not_lt_zero _)
 |0,n+1,i,w,h,_,hw=>by
  rw [shawide_schedule_l1.eq_2,cond_ff (by simp<;>omega)];exact ⟨w,rfl,hw⟩
 |r+1,n+1,i,w,h,h',hw=>by
  rw [shawide_schedule_l1.eq_2,cond_tt (by simp<;>omega),wrap_i64 (n:=(i:Int)+1) (by omega) (by omega),show (i:Int)+1=((i+1:Nat):Int) from rfl]
  by_cases hi:i<16
  ·have e:IntKind.wrap .i64 (8*(i:Int))=((8*i:Nat):Int):=by rw [wrap_i64 (by omega) (by omega)];rfl
   obtain ⟨c,hc⟩:=word_tot (x:=List.take (Int.toNat ((List.length b:Int)-((8*i:Nat):Int))) (List.drop (Int.toNat ((8*i:Nat):Int)) b)) (by rw [List.length_take,List.length_drop];omega)
   rw [cond_tt (by simp<;>omega),e,if_pos ⟨by omega,by omega⟩,nm_eq,hc,Option.bind_some,if_pos ⟨by omega,by omega⟩,Option.bind_some]
   exact sched_l1_tot b hb r n (i+1) _ (by omega) (by omega) (by rw [List.length_set];exact hw)
  ·obtain ⟨c1,h1⟩:=R64_1 (List.getD w (Int.toNat (IntKind.wrap .i64 ((i:Int)-15))) 0)
   obtain ⟨c2,h2⟩:=R64_8 (List.getD w (Int.toNat (IntKind.wrap .i64 ((i:Int)-15))) 0)
   obtain ⟨c3,h3⟩:=R64_19 (List.getD w (Int.toNat (IntKind.wrap .i64 ((i:Int)-2))) 0)
   obtain ⟨c4,h4⟩:=R64_61 (List.getD w (Int.toNat (IntKind.wrap .i64 ((i:Int)-2))) 0)
   have w15:IntKind.wrap .i64 ((i:Int)-15)=(i:Int)-15:=wrap_i64 (by omega) (by omega)
   have w2:IntKind.wrap .i64 ((i:Int)-2)=(i:Int)-2:=wrap_i64 (by omega) (by omega)
   have w16:IntKind.wrap .i64 ((i:Int)-16)=(i:Int)-16:=wrap_i64 (by omega) (by omega)
   have w7:IntKind.wrap .i64 ((i:Int)-7)=(i:Int)-7:=wrap_i64 (by omega) (by omega)
   rw [cond_ff (by simp<;>omega),h1,Option.bind_some,h2,Option.bind_some,nm_eq,h3,Option.bind_some,h4,Option.bind_some,nm_eq,w15,w2,w16,w7,if_pos ⟨by omega,by omega⟩,if_pos ⟨by omega,by omega⟩,if_pos ⟨by omega,by omega⟩,nm_eq,if_pos ⟨by omega,by omega⟩,nm_eq,nm_eq,if_pos ⟨by omega,by omega⟩,Option.bind_some]
   exact sched_l1_tot b hb r n (i+1) _ (by omega) (by omega) (by rw [List.length_set];exact hw)
theorem sched_some {b:List Int} (h:b.length=128):∃ r,shawide_schedule b=some r/\r.length=80:=by
 obtain ⟨r,h1,h2⟩:=sched_l1_tot b h 80 FUEL 0 (List.replicate 80 0) (by omega) (big _ (by omega)) (by simp)
 rw [show ((0:Nat):Int)=0 from rfl] at h1
 refine ⟨r,?_,h2⟩
 unfold shawide_schedule
 rw [h1];rfl
theorem over1_len {s:List Int} (h:s.length=8):(over s 1 (List.take 7 (List.take 7 s))).length=8:=by
 unfold over
 simp only [List.length_append,List.length_take,List.length_drop];omega
theorem rounds_l1_tot (w:List Int):∀ (r n i:Nat) (s:List Int),i+r=80->r<n->s.length=8->∃ s',shawide_state_take_2_l1 w n (i:Int) s=some s'/\s'.length=8
 |_,0,_,_,_,h,_=>absurd h (Nat.not_lt_zero _)
 |0,n+1,i,s,h,_,hs=>by
  rw [shawide_state_take_2_l1.eq_2,cond_ff (by simp<;>omega)];exact ⟨s,rfl,hs⟩
 |r+1,n+1,i,s,h,h',hs=>by
  obtain ⟨c1,h1⟩:=R64_14 (List.getD s 4 0)
  obtain ⟨c2,h2⟩:=R64_18 (List.getD s 4 0)
  obtain ⟨c3,h3⟩:=R64_41 (List.getD s 4 0)
  obtain ⟨c4,h4⟩:=R64_28 (List.getD s 0 0)
  obtain ⟨c5,h5⟩:=R64_34 (List.getD s 0 0)
  obtain ⟨c6,h6⟩:=R64_39 (List.getD s 0 0)
  rw [shawide_state_take_2_l1.eq_2,cond_tt (by simp<;>omega),if_pos ⟨by omega,by omega⟩,h1,Option.bind_some,h2,Option.bind_some,h3,Option.bind_some,nm_eq,nm_eq,nm_eq,nm_eq,if_pos ⟨by omega,by omega⟩,nm_eq,h4,Option.bind_some,h5,Option.bind_some,h6,Option.bind_some,nm_eq,nm_eq,nm_eq,nm_eq,nm_eq,wrap_i64 (n:=(i:Int)+1) (by omega) (by omega),show (i:Int)+1=((i+1:Nat):Int) from rfl]
  exact rounds_l1_tot w r n (i+1) _ (by omega) (by omega) (by rw [List.length_set,List.length_set];exact over1_len hs)
theorem rounds_some {w s:List Int} (h:w.length=80) (hs:s.length=8):∃ r,shawide_state_take_2_l1 w FUEL 0 s=some r/\r.length=8:=by
 obtain ⟨r,h1,h2⟩:=rounds_l1_tot w 80 FUEL 0 s (by omega) (big _ (by omega)) hs
 rw [show ((0:Nat):Int)=0 from rfl] at h1
 exact ⟨r,h1,h2⟩
theorem last_some {w s:List Int} (h:w.length=8) (hs:s.length=8):∃ r,shawide_state_take_2_l2 w FUEL 0 s=some r/\r.length=8:=by
 match w,s,h,hs with
 |[a0,a1,a2,a3,a4,a5,a6,a7],[s0,s1,s2,s3,s4,s5,s6,s7],_,_=>exact some_of_map (by kernel_rfl)
theorem take_some {off:Nat} {s m:List Int} (hs:s.length=8) (hm:off+128≤m.length):∃ r,shawide_state_take_2 off 128 s m=some r/\r.length=8:=by
 obtain ⟨w,h1,h2⟩:=sched_some (b:=List.take 128 (List.drop off m)) (by rw [List.length_take,List.length_drop];omega)
 obtain ⟨v,h3,h4⟩:=rounds_some h2 hs
 obtain ⟨r,h5,h6⟩:=last_some h4 hs
 refine ⟨r,?_,h6⟩
 unfold shawide_state_take_2
 rw [h1,Option.bind_some,h3,Option.bind_some,h5];rfl
def wB (w:Int):List Int:=[IntKind.wrap .u8 (Int.fdiv w (2^56)),IntKind.wrap .u8 (Int.fdiv w (2^48)),IntKind.wrap .u8 (Int.fdiv w (2^40)),IntKind.wrap .u8 (Int.fdiv w (2^32)),IntKind.wrap .u8 (Int.fdiv w (2^24)),IntKind.wrap .u8 (Int.fdiv w (2^16)),IntKind.wrap .u8 (Int.fdiv w (2^8)),IntKind.wrap .u8 (Int.fdiv w (2^0))]
theorem out_raw (w0 w1 w2 w3 w4 w5 w6 w7:Int):shawide_Sum_l3 [w0,w1,w2,w3,w4,w5,w6,w7] FUEL 0 (List.replicate 64 0)=some (wB w0++(wB w1++(wB w2++(wB w3++(wB w4++(wB w5++(wB w6++wB w7))))))):=by kernel_rfl
theorem wB_byt (w:Int):byt (wB w):=fun y hy=>by
 have hw:∀ z:Int,0≤IntKind.wrap .u8 z/\IntKind.wrap .u8 z<256:=fun z=>by rw [wrap_u8];omega
 simp only [wB,List.mem_cons,List.not_mem_nil,or_false] at hy
 rcases hy with rfl|rfl|rfl|rfl|rfl|rfl|rfl|rfl<;>exact hw _
theorem byt_app {a b:List Int} (ha:byt a) (hb:byt b):byt (a++b):=fun y hy=>by
 rcases List.mem_append.1 hy with hy|hy
 ·exact ha y hy
 ·exact hb y hy
theorem out_some {s:List Int} (hs:s.length=8):∃ r,shawide_Sum_l3 s FUEL 0 (List.replicate 64 0)=some r/\r.length=64/\byt r:=by
 match s,hs with
 |[w0,w1,w2,w3,w4,w5,w6,w7],_=>exact ⟨_,out_raw ..,rfl,byt_app (wB_byt _) (byt_app (wB_byt _) (byt_app (wB_byt _) (byt_app (wB_byt _) (byt_app (wB_byt _) (byt_app (wB_byt _) (byt_app (wB_byt _) (wB_byt _)))))))⟩
theorem l1_tot (x:List Int) (y:Int) (hx:8≤x.length) (hx2:x.length≤1000000):∀ (r n i:Nat) (a:List Int),i+r=8->r<n->a.length=x.length->∃ a',shawide_Sum_l1 x y n (i:Int) a=some a'/\a'.length=x.length
 |_,0,_,_,_,h,_=>absurd h (Nat.not_lt_zero _)
 |0,n+1,i,a,h,_,ha=>by
  rw [shawide_Sum_l1.eq_2,cond_ff (by simp<;>omega)];exact ⟨a,rfl,ha⟩
 |r+1,n+1,i,a,h,h',ha=>by
  obtain ⟨a',h1,h2⟩:=l1_tot x y hx hx2 r n (i+1) (List.set a (Int.toNat (IntKind.wrap .i64 ((IntKind.wrap .i64 ((x.length:Int)-1))-(i:Int)))) (IntKind.wrap .u8 (Int.fdiv y (2^(min (Int.toNat (IntKind.wrap .i64 (8*(i:Int)))) (IntKind.bits .u64)))))) (by omega) (by omega) (by rw [List.length_set];exact ha)
  refine ⟨a',?_,h2⟩
  rw [shawide_Sum_l1.eq_2,cond_tt (by simp<;>omega),nm_eq,if_pos (by rw [wrap_i64 (by omega) (by omega)];omega),nm_eq,if_pos (by rw [wrap_i64 (n:=(x.length:Int)-1) (by omega) (by omega),wrap_i64 (by omega) (by omega)];omega),wrap_i64 (n:=(i:Int)+1) (by omega) (by omega),show (i:Int)+1=((i+1:Nat):Int) from rfl,h1]
theorem l2_tot (x m:List Int) (hx2:x.length≤1000000) (hm:m.length=x.length):∀ (k n i:Nat) (s:List Int),i+128*k=x.length->k<n->s.length=8->∃ r,shawide_Sum_l2 x m n (i:Int) s=some r/\r.length=8
 |_,0,_,_,_,h,_=>absurd h (Nat.not_lt_zero _)
 |0,n+1,i,s,h,_,hs=>by
  rw [shawide_Sum_l2.eq_2,cond_ff (by simp<;>omega)];exact ⟨s,rfl,hs⟩
 |k+1,n+1,i,s,h,h',hs=>by
  obtain ⟨s1,h1,h2⟩:=take_some (off:=i) hs (m:=m) (by omega)
  obtain ⟨r,h3,h4⟩:=l2_tot x m hx2 hm k n (i+128) s1 (by omega) (by omega) h2
  refine ⟨r,?_,h4⟩
  have hmin:(if ((((x.length:Nat):Int)-(i:Int)).toNat:Int)<128 then ((((x.length:Nat):Int)-(i:Int)).toNat:Int) else 128)=128:=by split<;>omega
  rw [shawide_Sum_l2.eq_2,cond_tt (by simp<;>omega),if_pos ⟨by omega,by omega⟩,nm_eq,hmin,wrap_i64 (n:=(i:Int)+128) (by omega) (by omega),if_pos ⟨by omega,by omega,by omega⟩,if_pos (by omega),Int.toNat_natCast,show ((i:Int)+128-(i:Int)).toNat=128 by omega,h1,Option.bind_some,show (i:Int)+128=((i+128:Nat):Int) from rfl,h3]
def beginL:List Int:=[7640891576956012808,13503953896175478587,4354685564936845355,11912009170470909681,5840696475078001361,11170449401992604703,2270897969802886507,6620516959819538809]
def shaC (m:List Int):Option (List Int) :=
 ((if (((List.length m):Int)+(List.length [128]))*1≤140737488355328 then
     (shawide_blocks ((List.length m):Int)).bind fun x13 =>
      nm ((IntKind.wrap .i64 ((IntKind.wrap .i64 (x13*128))-((List.length m):Int))):Int) fun x14 =>
      if (0:Int)≤(IntKind.wrap .i64 (x14-1))/\(((List.length (m++[128])):Int)+(IntKind.wrap .i64 (x14-1)))*1≤140737488355328 then
       nm (((m++[128])++(List.replicate (Int.toNat (IntKind.wrap .i64 (x14-1))) (0:Int))):List Int) fun x15 =>
       nm ((IntKind.wrap .u64 (8*(IntKind.wrap .u64 ((List.length m):Int)))):Int) fun x16 =>
       ((shawide_Sum_l1 x15 x16 FUEL 0 x15:Option ((List Int)))).bind fun x17 =>
        (slices_Chunk_byte_byte_2 (List.length x15) 128 x17).bind fun _ =>
         ((((shawide_Sum_l2 x15 x17 FUEL 0 beginL:Option ((List Int)))).bind fun x23 =>
          some x23:Option ((List Int)))).bind fun x22 =>
          some x22
      else none
    else none:Option ((List Int)))).bind fun x11 =>
    ((shawide_Sum_l3 x11 FUEL 0 (List.replicate 64 (0:Int)):Option ((List Int)))).bind fun x28 =>
     some x28
theorem chunk_is (n:Nat) (a:List Int):slices_Chunk_byte_byte_2 n 128 a=some ():=by rfl
theorem shaC_tot {m:List Int} (hm:m.length≤100000):∃ r,shaC m=some r/\r.length=64/\byt r:=by
 obtain ⟨q,hq⟩:∃ q,q=(m.length+144)/128:=⟨_,rfl⟩
 have hb:shawide_blocks (m.length:Int)=some (q:Int):=by
  unfold shawide_blocks
  rw [nm_eq,wrap_i64 (n:=(m.length:Int)+16) (by omega) (by omega),wrap_i64 (n:=(m.length:Int)+16+128) (by omega) (by omega),show (m.length:Int)+16+128=((m.length+144:Nat):Int) by omega,show Int.tdiv ((m.length+144:Nat):Int) 128=(((m.length+144)/128:Nat):Int) from rfl,i64n (by omega),hq]
 have e14:IntKind.wrap .i64 ((IntKind.wrap .i64 ((q:Int)*128))-(m.length:Int))=((q*128-m.length:Nat):Int):=by
  rw [wrap_i64 (n:=(q:Int)*128) (by omega) (by omega),wrap_i64 (by omega) (by omega)];omega
 have e15:IntKind.wrap .i64 (((q*128-m.length:Nat):Int)-1)=((q*128-m.length-1:Nat):Int):=by
  rw [wrap_i64 (by omega) (by omega)];omega
 have hl:((m++[128])++List.replicate (q*128-m.length-1) (0:Int)).length=q*128:=by
  simp only [List.length_append,List.length_replicate,List.length_cons,List.length_nil];omega
 obtain ⟨a,a1,a2⟩:=l1_tot _ (IntKind.wrap .u64 (8*(IntKind.wrap .u64 ((List.length m):Int)))) (by rw [hl];omega) (by rw [hl];omega) 8 FUEL 0 _ (by omega) (big _ (by omega)) (rfl:((m++[128])++List.replicate (q*128-m.length-1) (0:Int)).length=_)
 obtain ⟨s,s1,s2⟩:=l2_tot _ a (by rw [hl];omega) a2 q FUEL 0 beginL (by rw [hl];omega) (big _ (by omega)) rfl
 obtain ⟨r,r1,r2,r3⟩:=out_some s2
 refine ⟨r,?_,r2,r3⟩
 rw [show ((0:Nat):Int)=0 from rfl] at a1 s1
 unfold shaC
 rw [if_pos (by simp only [List.length_cons,List.length_nil];omega),hb,Option.bind_some,nm_eq,e14,e15,if_pos ⟨by omega,by rw [List.length_append];simp only [List.length_cons,List.length_nil];omega⟩,nm_eq,nm_eq,Int.toNat_natCast,a1,Option.bind_some,chunk_is,Option.bind_some,s1,Option.bind_some,Option.bind_some,Option.bind_some,r1,Option.bind_some]
end Go.Eng
set_option linter.unusedVariables false
set_option linter.unusedSimpArgs false
namespace Go.Eng
set_option maxRecDepth 100000
set_option maxHeartbeats 1000000
theorem S2_l1 (x:List Int) (y:Int):∀ n:Nat,shawide_Sum_2_l1 x y n=shawide_Sum_l1 x y n
 |0=>rfl
 |n+1=>by
  have ih:=S2_l1 x y n
  funext i a
  rw [shawide_Sum_2_l1.eq_2,shawide_Sum_l1.eq_2,ih]
theorem S2_l2 (x m:List Int):∀ n:Nat,shawide_Sum_2_l2 x m n=shawide_Sum_l2 x m n
 |0=>rfl
 |n+1=>by
  have ih:=S2_l2 x m n
  funext i a
  rw [shawide_Sum_2_l2.eq_2,shawide_Sum_l2.eq_2,ih]
theorem S2_l4 (x:List Int) (y:Int):∀ n:Nat,shawide_Sum_2_l4 x y n=shawide_Sum_l4 x y n
 |0=>rfl
 |n+1=>by
  have ih:=S2_l4 x y n
  funext i a
  rw [shawide_Sum_2_l4.eq_2,shawide_Sum_l4.eq_2,ih]
theorem S2_l3 (x:List Int):∀ n:Nat,shawide_Sum_2_l3 x n=shawide_Sum_l3 x n
 |0=>rfl
 |n+1=>by
  have ih:=S2_l3 x n
  funext i a
  rw [shawide_Sum_2_l3.eq_2,shawide_Sum_l3.eq_2,ih,S2_l4]
theorem S3_l1 (x:List Int) (y:Int):∀ n:Nat,shawide_Sum_3_l1 x y n=shawide_Sum_l1 x y n
 |0=>rfl
 |n+1=>by
  have ih:=S3_l1 x y n
  funext i a
  rw [shawide_Sum_3_l1.eq_2,shawide_Sum_l1.eq_2,ih]
theorem S3_l2 (x m:List Int):∀ n:Nat,shawide_Sum_3_l2 x m n=shawide_Sum_l2 x m n
 |0=>rfl
 |n+1=>by
  have ih:=S3_l2 x m n
  funext i a
  rw [shawide_Sum_3_l2.eq_2,shawide_Sum_l2.eq_2,ih]
theorem S3_l4 (x:List Int) (y:Int):∀ n:Nat,shawide_Sum_3_l4 x y n=shawide_Sum_l4 x y n
 |0=>rfl
 |n+1=>by
  have ih:=S3_l4 x y n
  funext i a
  rw [shawide_Sum_3_l4.eq_2,shawide_Sum_l4.eq_2,ih]
theorem S3_l3 (x:List Int):∀ n:Nat,shawide_Sum_3_l3 x n=shawide_Sum_l3 x n
 |0=>rfl
 |n+1=>by
  have ih:=S3_l3 x n
  funext i a
  rw [shawide_Sum_3_l3.eq_2,shawide_Sum_l3.eq_2,ih,S3_l4]
theorem S4_l1 (x:List Int) (y:Int):∀ n:Nat,shawide_Sum_4_l1 x y n=shawide_Sum_l1 x y n
 |0=>rfl
 |n+1=>by
  have ih:=S4_l1 x y n
  funext i a
  rw [shawide_Sum_4_l1.eq_2,shawide_Sum_l1.eq_2,ih]
theorem S4_l2 (x m:List Int):∀ n:Nat,shawide_Sum_4_l2 x m n=shawide_Sum_l2 x m n
 |0=>rfl
 |n+1=>by
  have ih:=S4_l2 x m n
  funext i a
  rw [shawide_Sum_4_l2.eq_2,shawide_Sum_l2.eq_2,ih]
theorem S4_l4 (x:List Int) (y:Int):∀ n:Nat,shawide_Sum_4_l4 x y n=shawide_Sum_l4 x y n
 |0=>rfl
 |n+1=>by
  have ih:=S4_l4 x y n
  funext i a
  rw [shawide_Sum_4_l4.eq_2,shawide_Sum_l4.eq_2,ih]
theorem S4_l3 (x:List Int):∀ n:Nat,shawide_Sum_4_l3 x n=shawide_Sum_l3 x n
 |0=>rfl
 |n+1=>by
  have ih:=S4_l3 x n
  funext i a
  rw [shawide_Sum_4_l3.eq_2,shawide_Sum_l3.eq_2,ih,S4_l4]
theorem Grow_is {x:Int} (h:0≤x) (h':x≤1000000):∃ g,slices_Grow_byte_byte_2 x=some (0,g):=by
 unfold slices_Grow_byte_byte_2
 rw [cond_ff (by simp<;>omega),wrap_i64 (by omega) (by omega)]
 by_cases hx:x-0>0
 ·refine ⟨List.replicate (Int.toNat (x-0)) 0,?_⟩
  rw [cond_tt (by simp<;>omega),if_pos ⟨by omega,by omega⟩,nm_eq,if_pos (by omega)]
  rfl
 ·refine ⟨[],?_⟩
  rw [cond_ff (by simp<;>omega)]
  rfl
theorem Concat_is {n:Nat} {l:List Int} (h:n≤300000):slices_Concat_byte_byte n l=some (l.take n):=by
 obtain ⟨g,hg⟩:=Grow_is (x:=(n:Int)) (by omega) (by omega)
 have hl:(l.take n).length≤n:=by rw [List.length_take];omega
 have w:IntKind.wrap .i64 (0+(n:Int))=(n:Int):=by rw [wrap_i64 (by omega) (by omega)];omega
 unfold slices_Concat_byte_byte
 rw [w,cond_ff (by simp<;>omega),Option.bind_some,hg,Option.bind_some]
 dsimp only
 rw [if_pos (by omega),if_pos (by omega),Option.bind_some]
 simp
theorem Concat2_is {n:Nat} {l:List Int} (h:n≤300000):slices_Concat_byte_byte_2 n l=some (l.take n):=by
 obtain ⟨g,hg⟩:=Grow_is (x:=(n:Int)) (by omega) (by omega)
 have hl:(l.take n).length≤n:=by rw [List.length_take];omega
 have w:IntKind.wrap .i64 (0+(n:Int))=(n:Int):=by rw [wrap_i64 (by omega) (by omega)];omega
 unfold slices_Concat_byte_byte_2
 rw [w,cond_ff (by simp<;>omega),Option.bind_some,hg,Option.bind_some]
 dsimp only
 rw [if_pos (by omega),if_pos (by omega),Option.bind_some]
 simp
theorem Concat3_is {a n m:Nat} {l k:List Int} (h:n≤300000) (h':m≤300000):slices_Concat_byte_byte_3 a n m l k=some ((l.drop a).take n++k.take m):=by
 obtain ⟨g,hg⟩:=Grow_is (x:=(n:Int)+(m:Int)) (by omega) (by omega)
 have hl:((l.drop a).take n).length≤n:=by rw [List.length_take];omega
 have hk:(k.take m).length≤m:=by rw [List.length_take];omega
 have w:IntKind.wrap .i64 (0+(n:Int))=(n:Int):=by rw [wrap_i64 (by omega) (by omega)];omega
 have w2:IntKind.wrap .i64 ((n:Int)+(m:Int))=(n:Int)+(m:Int):=wrap_i64 (by omega) (by omega)
 unfold slices_Concat_byte_byte_3
 rw [w,w2,cond_ff (by simp<;>omega),nm_eq,cond_ff (by simp<;>omega),Option.bind_some,hg,Option.bind_some]
 dsimp only
 rw [if_pos (by omega),if_pos (by omega),List.take_zero,List.nil_append,if_pos (by omega),nm_eq]
 rfl
theorem Concat4_is {n m q:Nat} {l k j:List Int} (h:n≤300000) (h':m≤300000) (h'':q≤300000):slices_Concat_byte_byte_4 n m q l k j=some (l.take n++k.take m++j.take q):=by
 obtain ⟨g,hg⟩:=Grow_is (x:=(n:Int)+(m:Int)+(q:Int)) (by omega) (by omega)
 have hl:(l.take n).length≤n:=by rw [List.length_take];omega
 have hk:(k.take m).length≤m:=by rw [List.length_take];omega
 have hj:(j.take q).length≤q:=by rw [List.length_take];omega
 have w:IntKind.wrap .i64 (0+(n:Int))=(n:Int):=by rw [wrap_i64 (by omega) (by omega)];omega
 have w2:IntKind.wrap .i64 ((n:Int)+(m:Int))=(n:Int)+(m:Int):=wrap_i64 (by omega) (by omega)
 have w3:IntKind.wrap .i64 ((n:Int)+(m:Int)+(q:Int))=(n:Int)+(m:Int)+(q:Int):=wrap_i64 (by omega) (by omega)
 unfold slices_Concat_byte_byte_4
 rw [w,w2,cond_ff (by simp<;>omega),nm_eq,cond_ff (by simp<;>omega),w3,cond_ff (by simp<;>omega),Option.bind_some,hg,Option.bind_some]
 dsimp only
 rw [if_pos (by omega),if_pos (by omega),List.take_zero,List.nil_append,if_pos (by omega),nm_eq,if_pos (by rw [List.length_append];omega)]
 rfl
theorem Concat5_is {n m q:Nat} {l k j:List Int} (h:n≤300000) (h':m≤300000) (h'':q≤300000):slices_Concat_byte_byte_5 n m q l k j=some (l.take n++k.take m++j.take q):=by
 have e:slices_Concat_byte_byte_5 n m q l k j=slices_Concat_byte_byte_4 n m q l k j:=by rfl
 rw [e];exact Concat4_is h h' h''
theorem Sum1_is {n:Nat} {l:List Int} (h:n≤300000):shawide_Sum n l=shaC (l.take n):=by
 unfold shawide_Sum shaC
 rw [show shawide_begin=some beginL from rfl,Option.bind_some,show shawide_padded n l=some () from rfl,Option.bind_some,Concat_is h,Option.bind_some]
theorem Sum2_is {a n m:Nat} {l k:List Int} (h:n≤300000) (h':m≤300000):shawide_Sum_2 a n m l k=shaC ((l.drop a).take n++k.take m):=by
 unfold shawide_Sum_2 shaC
 rw [show shawide_begin=some beginL from rfl,Option.bind_some,show shawide_padded_2 a n m l k=some () from rfl,Option.bind_some,Concat3_is h h',Option.bind_some]
 simp only [S2_l1,S2_l2,S2_l3]
theorem Sum3_is {n m q:Nat} {l k j:List Int} (h:n≤300000) (h':m≤300000) (h'':q≤300000):shawide_Sum_3 n m q l k j=shaC (l.take n++k.take m++j.take q):=by
 unfold shawide_Sum_3 shaC
 rw [show shawide_begin=some beginL from rfl,Option.bind_some,show shawide_padded_3 n m q l k j=some () from rfl,Option.bind_some,Concat4_is h h' h'',Option.bind_some]
 simp only [S3_l1,S3_l2,S3_l3]
theorem Sum4_is {n m q:Nat} {l k j:List Int} (h:n≤300000) (h':m≤300000) (h'':q≤300000):shawide_Sum_4 n m q l k j=shaC (l.take n++k.take m++j.take q):=by
 unfold shawide_Sum_4 shaC
 rw [show shawide_begin=some beginL from rfl,Option.bind_some,show shawide_padded_4 n m q l k j=some () from rfl,Option.bind_some,Concat5_is h h' h'',Option.bind_some]
 simp only [S4_l1,S4_l2,S4_l3]
end Go.Eng
