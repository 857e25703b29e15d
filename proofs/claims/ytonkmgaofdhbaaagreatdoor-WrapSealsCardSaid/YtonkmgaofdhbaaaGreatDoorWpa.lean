/-
  Part of a proof: Wpa.
-/
import Derived.Test.YtonkmgaofdhbaaaGreatDoorSelPa
import Derived.Test.YtonkmgaofdhbaaaGreatDoorKemSa
set_option linter.unusedVariables false
set_option linter.unusedSimpArgs false
namespace Go.Eng
set_option maxRecDepth 100000
set_option maxHeartbeats 1000000
def Dr:List UInt8:=[72,80,75,69,45,118,49,72,80,75,69,0,32,0,1,0,3]
def Ia (salt:List Int) (label:List UInt8) (b:List Int):List Int:=Z4 salt (G3 (Dr++label)++b)
def g97 (n:UInt8) (s:List Int) (label:List UInt8) (info:List Int):List Int:=Z4 s (G3 ([0,n]++Dr++label)++info++[1])
theorem Mu (s:List Int) (l:List UInt8) (b:List Int):p9 256 (Ia s l b):=Rl _ _
theorem U3 (s:List Int) (l:List UInt8) (b:List Int):(Ia s l b).length=32:=Da _ _
theorem e76 (n:UInt8) (s:List Int) (l:List UInt8) (b:List Int):p9 256 (g97 n s l b):=Rl _ _
theorem b62 (n:UInt8) (s:List Int) (l:List UInt8) (b:List Int):(g97 n s l b).length=32:=Da _ _
theorem i42 {salt M:List Int} (hs:p9 256 salt) (ls:salt.length<100000) (hM:p9 256 M) (lM:M.length<1000000000):z7 salt M=some (Z4 salt M):=by
 unfold z7
 rw [Vp (key:=salt) hs (by omega) (fun x hx=>by rw [List.mem_singleton.1 hx];exact hM) (by simp) (by simp;omega)]
 simp
theorem b63 {salt b:List Int} {label:List UInt8} (hs:p9 256 salt) (ls:salt.length<100000) (hl:label.length<1000) (hb:p9 256 b) (lb:b.length<1000000):X7 salt label b=some (Ia salt label b):=by
 unfold X7
 rw [if_pos (by simp only [List.length_cons,List.length_nil];omega),m6]
 have h1:(G3 (Dr++label)).length<2000:=by rw [K1,List.length_append];simp only [Dr,List.length_cons,List.length_nil];omega
 show (if (((G3 (Dr++label)).length:Int)+b.length)*1≤140737488355328 then (z7 salt (G3 (Dr++label)++b)).bind fun x13=>some x13 else none)=_
 rw [if_pos (by omega),i42 hs ls (s5 (Y5 _) hb) (by rw [List.length_append];omega)];rfl
theorem g37 {s info:List Int} {label:List UInt8} {n:Nat} (hs:p9 256 s) (ls:s.length<100000) (hl:label.length<1000) (hi:p9 256 info) (li:info.length<1000) (h0:0<n) (hn:n≤32) :
  W2 s label info n=some (n,g97 (UInt8.ofNat n) s label info):=by
 have e:([IntKind.wrap .u8 (Int.fdiv ((n:Nat):Int) (2^8)),IntKind.wrap .u8 ((n:Nat):Int)]:List Int)++G3 (Dr++label)=G3 ([0,UInt8.ofNat n]++Dr++label):=by
  rw [List.append_assoc,b39 [0,UInt8.ofNat n]]
  refine congrArg (· ++ G3 (Dr++label)) ?_
  rw [Mm,u8n,u8n,Nat.mod_eq_of_lt (a:=n) (by omega),show n/2^8=0 from Nat.div_eq_of_lt (by omega)]
  show _=[(((0:UInt8).toNat:Nat):Int),(((UInt8.ofNat n).toNat:Nat):Int)]
  rw [UInt8.toNat_ofNat_of_lt' (by show n<256;omega)];rfl
 have h1:(G3 ([0,UInt8.ofNat n]++Dr++label)).length<2000:=by rw [K1,List.length_append];simp only [Dr,List.length_cons,List.length_nil,List.length_append];omega
 have h2:(G3 (Dr++label)).length<2000:=by rw [K1,List.length_append];simp only [Dr,List.length_cons,List.length_nil];omega
 unfold W2
 rw [m6,if_pos (by simp only [List.length_cons,List.length_nil];omega),m6]
 show (if (((2:Nat):Int)+(G3 (Dr++label)).length)*1≤140737488355328 then if (((([IntKind.wrap .u8 (Int.fdiv ((n:Nat):Int) (2^8)),IntKind.wrap .u8 ((n:Nat):Int)]:List Int)++G3 (Dr++label)).length:Int)+info.length)*1≤140737488355328 then nm ((([IntKind.wrap .u8 (Int.fdiv ((n:Nat):Int) (2^8)),IntKind.wrap .u8 ((n:Nat):Int)]:List Int)++G3 (Dr++label))++info) fun x=>(G5 s x n).bind _ else none else none)=_
 rw [if_pos (by omega),e,if_pos (by omega),m6,Yt hs (s5 (Y5 _) hi) (by omega) (by rw [List.length_append];omega) h0 hn,Option.bind_some];rfl
theorem b95 {n m q:Nat} {a b c:List Int} (ha:a.length≤n) (hn:n<1000000000) (hb:b.length≤m) (hm:m<1000000000) (hc:c.length≤q) (hq:q<1000000000):B0 n m q a b c=some (a++b++c):=by
 unfold B0
 rw [Int.zero_add,A8 (by omega),i0 (by simp),m6,show (n:Int)+(m:Int)=((n+m:Nat):Int) from rfl,A8 (by omega),i0 (by simp;omega),show ((n+m:Nat):Int)+(q:Int)=((n+m+q:Nat):Int) from rfl,A8 (by omega),i0 (by simp;omega),Option.bind_some,Mn (by omega),Option.bind_some]
 dsimp only
 have t:a.take n=a:=List.take_of_length_le ha
 have t':b.take m=b:=List.take_of_length_le hb
 have t'':c.take q=c:=List.take_of_length_le hc
 rw [t,t',t'',if_pos (by omega),if_pos (Nat.zero_le _),List.take_zero,List.nil_append,if_pos (by omega),m6,if_pos (by rw [List.length_append];omega),Option.bind_some]
def d36 (info:List Int):List Int:=[0]++Ia [] [112,115,107,95,105,100,95,104,97,115,104] []++Ia [] [105,110,102,111,95,104,97,115,104] info
def j16 (s:List Int):List Int:=Ia s [115,101,99,114,101,116] []
def Js (s info:List Int):List Int:=g97 32 (j16 s) [107,101,121] (d36 info)
def b64 (s info:List Int):List Int:=g97 12 (j16 s) [98,97,115,101,95,110,111,110,99,101] (d36 info)
theorem Vw (info:List Int):p9 256 (d36 info):=s5 (s5 (by simp [p9]) (Mu _ _ _)) (Mu _ _ _)
theorem Vx (info:List Int):(d36 info).length=65:=by unfold d36;rw [List.length_append,List.length_append,U3,U3];rfl
theorem Xu {s info:List Int} (hs:p9 256 s) (ls:s.length=32) (hi:p9 256 info) (li:info.length<100000):Y8 s info=some (Js s info,12,b64 s info):=by
 have hx:=g37 (n:=32) (label:=[107,101,121]) (Mu s [115,101,99,114,101,116] []) (by rw [U3];decide) (by decide) (Vw info) (by rw [Vx];decide) (by decide) (by decide)
 have hy:=g37 (n:=12) (label:=[98,97,115,101,95,110,111,110,99,101]) (Mu s [115,101,99,114,101,116] []) (by rw [U3];decide) (by decide) (Vw info) (by rw [Vx];decide) (by decide) (by decide)
 have hx:W2 (Ia s [115,101,99,114,101,116] []) [107,101,121] (d36 info) 32=some (32,Js s info):=hx
 have hy:W2 (Ia s [115,101,99,114,101,116] []) [98,97,115,101,95,110,111,110,99,101] (d36 info) 12=some (12,b64 s info):=hy
 have t:s.take 32=s:=List.take_of_length_le (by omega)
 have t2:(Ia s [115,101,99,114,101,116] []).take 32=Ia s [115,101,99,114,101,116] []:=List.take_of_length_le (by rw [U3];decide)
 have lk:(Js s info).length=32:=b62 _ _ _ _
 have t3:(Js s info).take 32=Js s info:=List.take_of_length_le (by omega)
 have hc:=b95 (n:=List.length [(0:Int)]) (m:=32) (q:=32) (a:=[0]) (b:=Ia [] [112,115,107,95,105,100,95,104,97,115,104] []) (c:=Ia [] [105,110,102,111,95,104,97,115,104] info) (Nat.le_refl _) (by decide) (by rw [U3];decide) (by decide) (by rw [U3];decide) (by decide)
 have hc:B0 (List.length [0]) 32 32 [0] (Ia [] [112,115,107,95,105,100,95,104,97,115,104] []) (Ia [] [105,110,102,111,95,104,97,115,104] info)=some (d36 info):=hc
 unfold Y8
 rw [b63 (salt:=[]) trivial (by decide) (by decide) (b:=[]) trivial (by decide),Option.bind_some,b63 (salt:=[]) trivial (by decide) (by decide) hi (by omega),Option.bind_some,hc,Option.bind_some,t,b63 hs (by omega) (by decide) (b:=[]) trivial (by decide),Option.bind_some,t2,hx,Option.bind_some]
 dsimp only
 rw [t3,if_pos (by omega),hy,Option.bind_some,t3]
theorem Eh (s info:List Int):(Js s info).length=32:=b62 _ _ _ _
theorem i43 (s info:List Int):(b64 s info).length=32:=b62 _ _ _ _
theorem c80 {label:List UInt8} {M:List Int} (hl:label.length<1000) (hM:p9 256 M) (lM:M.length<1000000):J8 [72,80,75,69,0,32,0,1,0,3] label M=some (Ia [] label M):=by
 unfold J8
 rw [if_pos (by simp only [List.length_cons,List.length_nil];omega),if_pos (by simp only [List.length_append,List.length_cons,List.length_nil];omega),m6]
 have h1:(G3 (Dr++label)).length<2000:=by rw [K1,List.length_append];simp only [Dr,List.length_cons,List.length_nil];omega
 show (if (((G3 (Dr++label)).length:Int)+M.length)*1≤140737488355328 then (Ca [] (G3 (Dr++label)++M)).bind fun x13=>some x13 else none)=_
 rw [if_pos (by omega),Og (key:=[]) trivial (s5 (Y5 _) hM) (by decide) (by rw [List.length_append];omega)];rfl
theorem e77 {s info:List Int} {label:List UInt8} {n:Nat} (hs:p9 256 s) (ls:s.length=32) (hl:label.length<1000) (hi:p9 256 info) (li:info.length<1000) (h0:0<n) (hn:n≤32):I9 [72,80,75,69,0,32,0,1,0,3] s label info n=some (g97 (UInt8.ofNat n) s label info):=by
 have e:([IntKind.wrap .u8 (IntKind.wrap .i64 (Int.tdiv ((n:Nat):Int) 256)),IntKind.wrap .u8 (Int.tmod ((n:Nat):Int) 256)]:List Int)++G3 (Dr++label)=G3 ([0,UInt8.ofNat n]++Dr++label):=by
  rw [List.append_assoc,b39 [0,UInt8.ofNat n]]
  refine congrArg (· ++ G3 (Dr++label)) ?_
  rw [show Int.tdiv ((n:Nat):Int) 256=((n/256:Nat):Int) from rfl,show Int.tmod ((n:Nat):Int) 256=((n%256:Nat):Int) from rfl,Nat.mod_eq_of_lt (a:=n) (by omega),show n/256=0 from Nat.div_eq_of_lt (by omega),A8 (by omega),u8n,u8n,Nat.mod_eq_of_lt (a:=n) (by omega)]
  show _=[(((0:UInt8).toNat:Nat):Int),(((UInt8.ofNat n).toNat:Nat):Int)]
  rw [UInt8.toNat_ofNat_of_lt' (by show n<256;omega)];rfl
 have h1:(G3 ([0,UInt8.ofNat n]++Dr++label)).length<2000:=by rw [K1,List.length_append];simp only [Dr,List.length_cons,List.length_nil,List.length_append];omega
 have h2:(G3 (Dr++label)).length<2000:=by rw [K1,List.length_append];simp only [Dr,List.length_cons,List.length_nil];omega
 have t:s.take 32=s:=List.take_of_length_le (by omega)
 unfold I9
 rw [m6,if_pos (by simp only [List.length_cons,List.length_nil];omega),if_pos (by simp only [List.length_append,List.length_cons,List.length_nil];omega)]
 show (if (((2:Nat):Int)+(G3 (Dr++label)).length)*1≤140737488355328 then nm (([IntKind.wrap .u8 (IntKind.wrap .i64 (Int.tdiv ((n:Nat):Int) 256)),IntKind.wrap .u8 (Int.tmod ((n:Nat):Int) 256)]:List Int)++G3 (Dr++label)) fun x30=>if ((x30.length:Int)+info.length)*1≤140737488355328 then (W7 (s.take 32) (x30++info) n).bind fun x31=>some x31 else none else none)=_
 rw [if_pos (by omega),m6,e,if_pos (by omega),t,Vq hs (s5 (Y5 _) hi) (by omega) (by rw [List.length_append];omega) h0 hn];rfl
theorem b65 {s info:List Int} (hs:p9 256 s) (ls:s.length=32) (hi:p9 256 info) (li:info.length<100000):Ft s info=some (Js s info,b64 s info):=by
 have t:s.take 32=s:=List.take_of_length_le (by omega)
 have t1:∀ l b,(Ia [] l b).take 32=Ia [] l b:=fun l b=>List.take_of_length_le (by rw [U3];decide)
 have hx:=e77 (n:=32) (label:=[107,101,121]) (Mu s [115,101,99,114,101,116] []) (U3 _ _ _) (by decide) (Vw info) (by rw [Vx];decide) (by decide) (by decide)
 have hy:=e77 (n:=12) (label:=[98,97,115,101,95,110,111,110,99,101]) (Mu s [115,101,99,114,101,116] []) (U3 _ _ _) (by decide) (Vw info) (by rw [Vx];decide) (by decide) (by decide)
 have hx:I9 [72,80,75,69,0,32,0,1,0,3] (Ia s [115,101,99,114,101,116] []) [107,101,121] (([0]++Ia [] [112,115,107,95,105,100,95,104,97,115,104] [])++Ia [] [105,110,102,111,95,104,97,115,104] info) 32=some (Js s info):=hx
 have hy:I9 [72,80,75,69,0,32,0,1,0,3] (Ia s [115,101,99,114,101,116] []) [98,97,115,101,95,110,111,110,99,101] (([0]++Ia [] [112,115,107,95,105,100,95,104,97,115,104] [])++Ia [] [105,110,102,111,95,104,97,115,104] info) 12=some (b64 s info):=hy
 have hm:Ca s [72,80,75,69,45,118,49,72,80,75,69,0,32,0,1,0,3,115,101,99,114,101,116]=some (Ia s [115,101,99,114,101,116] []):=by
  have:=Og (key:=s) (M:=G3 (Dr++[115,101,99,114,101,116])++[]) hs (s5 (Y5 _) trivial) (by omega) (by decide)
  exact this
 unfold Ft
 rw [c80 (by decide) (M:=[]) trivial (by decide),Option.bind_some,c80 (by decide) hi (by omega),Option.bind_some,t1,t1,if_pos (by rw [U3];decide),if_pos (by rw [List.length_append,U3,U3];decide),m6,t,hm,Option.bind_some,hx,Option.bind_some,b44 (Eh s info),Option.bind_some,hy,Option.bind_some]
end Go.Eng
namespace Go.Eng
set_option maxRecDepth 100000
set_option maxHeartbeats 1000000
theorem lb {l:List Int} (h:Ci l):p9 256 l:=Ny h
theorem bl {l:List Int} (h:p9 256 l):Ci l:=fun y hy=>h.get y hy
theorem b66 (a b c:List Int):p9 256 (Ch a b c)/\(Ch a b c).length=32:=⟨Gp _ _ _,Af _ _ _⟩
theorem Xv {to M c:List Int} (h:Ct to M = .inl c):p9 256 c/\c.length=32:=by
 by_cases e:v9 (F5 M).1 to=G0
 ·rw [b45 e] at h;cases h
 ·rw [Vs e] at h;cases h;exact b66 _ _ _
theorem g98 {s e c:List Int} (h:Qo s e = .inl c):p9 256 c/\c.length=32:=by
 by_cases q:v9 s e=G0
 ·rw [e56 q] at h;cases h
 ·rw [Vt q] at h;cases h;exact b66 _ _ _
def U4 (s info:List Int):List Int:=(b64 s info).take 12
theorem S3 (s info:List Int):(U4 s info).length=12:=by unfold U4;rw [List.length_take,i43];rfl
theorem i44 (s info:List Int):Ci (Js s info):=bl (e76 _ _ _ _)
theorem f54 (s info:List Int):Ci (U4 s info):=fun y hy=>bl (e76 _ _ _ _) y (List.mem_of_mem_take hy)
theorem b96 {k n w p:List Int} (hn:n.length=12) (h:16384<w.length\/16384<p.length):Fv k n w p=some (3,[]):=by
 unfold Fv
 rw [i0 (by simp [hn])]
 by_cases hw:16384<w.length
 ·rw [j7 (by simp<;>omega)]
 ·rw [i0 (by simp<;>omega),j7 (by simp<;>omega)]
def Gq (c info w p:List Int):List Int:=I3 (Js c info) (U4 c info) 1 p++Ln (Js c info) (U4 c info) w (I3 (Js c info) (U4 c info) 1 p)
theorem Rp {c info w p:List Int} (hw:w.length≤16384) (hp:p.length≤16384):(Gq c info w p).length=p.length+16:=by
 have hl:=Mt (Eh c info) (S3 c info) (c:=1) (b:=p) (by omega)
 obtain ⟨_,h2,_⟩:=Xt (Eh c info) (S3 c info) hw (t:=I3 (Js c info) (U4 c info) 1 p) (by omega)
 unfold Gq
 rw [List.length_append,hl,h2]
theorem g99 {c info w p:List Int} (hw:w.length≤16384) (hp:p.length≤16384):Ci (Gq c info w p):=by
 have hl:=Mt (Eh c info) (S3 c info) (c:=1) (b:=p) (by omega)
 obtain ⟨_,_,h3⟩:=Xt (Eh c info) (S3 c info) hw (t:=I3 (Js c info) (U4 c info) 1 p) (by omega)
 unfold Gq
 exact Ro (c78 _ _ _ _) h3
theorem c81 {e c info w p:List Int} (hc:p9 256 c) (lc:c.length=32) (he:e.length=32) (hi:p9 256 info) (li:info.length≤16384) :
  ((Y8 c info).bind fun r28=>match r28 with
    |(x24,x25,x26) =>
      (Be x24 (List.take x25 x26) w p).bind fun r28=>match r28 with
      |(Sum.inl x27) =>
        if ((32:Int)+(List.length x27))*1≤140737488355328 then
         if 32≤(List.length e) then
          some (Sum.inl ((List.take 32 e)++x27))
         else none
        else none
      |(Sum.inr x28) =>
        some (Sum.inr x28):Option (List Int⊕Nat))=some (if 16384<w.length\/16384<p.length then .inr 3 else .inl (e++Gq c info w p)):=by
 rw [Xu hc lc hi (by omega),Option.bind_some]
 dsimp only
 rw [show (b64 c info).take 12=U4 c info from rfl]
 by_cases h:16384<w.length\/16384<p.length
 ·rw [if_pos h,g92 (S3 c info) h];rfl
 ·have hw:w.length≤16384:=by omega
  have hp:p.length≤16384:=by omega
  have hl:=Rp (c:=c) (info:=info) hw hp
  rw [if_neg h,j09 (Eh c info) (S3 c info) hw hp,Option.bind_some]
  show (if ((32:Int)+((Gq c info w p).length:Nat))*1≤140737488355328 then if 32≤e.length then some (Sum.inl (e.take 32++Gq c info w p)) else none else none:Option (List Int⊕Nat))=_
  rw [if_pos (by omega),if_pos (by omega),List.take_of_length_le (by omega)]
theorem e78 {to info w p sd:List Int} (ht:p9 256 to) (lt:to.length=32) (hi:p9 256 info) (hs:p9 256 sd) (ls:sd.length≤300) :
  An to info w p [sd]=some (if 16384<info.length then .inr 3 else match Ct to sd with | .inr () => .inr 5 | .inl c=>if 16384<w.length\/16384<p.length then .inr 3 else .inl ((F5 sd).2++Gq c info w p)):=by
 unfold An
 by_cases h:16384<info.length
 ·rw [j7 (by simp<;>omega),if_pos h]
 ·have hf:([sd]:List (List Int)).flatten=sd:=by simp
  have h3:=e54 (L:=[sd]) ht lt (by rw [hf];exact hs) (by rw [hf];omega) (by simp)
  rw [hf] at h3
  have hk := @Xv to sd
  have p4:=(Mo sd).2.2.2
  rw [i0 (by simp<;>omega),if_neg h,h3,Option.bind_some]
  generalize Ct to sd=ec at hk ⊢
  generalize (F5 sd).2=y at p4 ⊢
  cases ec with
  |inr u=>rfl
  |inl c =>
   obtain ⟨c1,c2⟩:=hk rfl
   exact c81 c1 c2 p4 hi (by omega)
theorem e79 {to info w p sd:List Int} {n:Nat} (ht:p9 256 to) (lt:to.length=32) (hi:p9 256 info) (hs:p9 256 sd) (ls:sd.length≤n) (hn:n<1000000) :
  Io to info w p n sd=some (if 16384<info.length then .inr 3 else match Ct to sd with | .inr () => .inr 5 | .inl c=>if 16384<w.length\/16384<p.length then .inr 3 else .inl ((F5 sd).2++Gq c info w p)):=by
 unfold Io
 by_cases h:16384<info.length
 ·rw [j7 (by simp<;>omega),if_pos h]
 ·have h3:=f37 ht lt hs ls hn
  have hk := @Xv to sd
  have p4:=(Mo sd).2.2.2
  rw [i0 (by simp<;>omega),if_neg h,h3,Option.bind_some]
  generalize Ct to sd=ec at hk ⊢
  generalize (F5 sd).2=y at p4 ⊢
  cases ec with
  |inr u=>rfl
  |inl c =>
   obtain ⟨c1,c2⟩:=hk rfl
   exact c81 c1 c2 p4 hi (by omega)
theorem e80 {to info w p sd:List Int} (ht:p9 256 to) (lt:to.length=32) (hi:p9 256 info) (hs:p9 256 sd) (ls:sd.length≤300) (wb:Ci w) (pb:Ci p) :
  Dm to info w p sd=some (if 16384<info.length then ((3:Int),([]:List Int)) else match Ct to sd with | .inr ()=>((5:Int),([]:List Int)) | .inl c=>if 16384<w.length\/16384<p.length then ((3:Int),([]:List Int)) else ((0:Int),(F5 sd).2++Gq c info w p)):=by
 unfold Dm
 by_cases h:16384<info.length
 ·rw [j7 (by simp<;>omega),if_pos h]
 ·have h3:=e55 ht lt hs (by omega)
  have hk := @Xv to sd
  have p4:=(Mo sd).2.2.2
  rw [i0 (by simp<;>omega),if_neg h,h3,Option.bind_some]
  generalize Ct to sd=ec at hk ⊢
  generalize (F5 sd).2=y at p4 ⊢
  cases ec with
  |inr u=>rfl
  |inl c =>
   obtain ⟨c1,c2⟩:=hk rfl
   dsimp only
   rw [i0 (by rfl),b65 c1 c2 hi (by omega),Option.bind_some]
   dsimp only
   rw [show List.take (Int.toNat (12-0)) (b64 c info)=U4 c info from rfl]
   by_cases hh:16384<w.length\/16384<p.length
   ·rw [if_pos hh,b96 (S3 c info) hh];rfl
   ·have hw:w.length≤16384:=by omega
    have hp:p.length≤16384:=by omega
    have hl:=Rp (c:=c) (info:=info) hw hp
    rw [if_neg hh,i40 (Eh c info) (S3 c info) (i44 c info) (f54 c info) wb pb hw hp,Option.bind_some]
    show cond (!((0:Int)==0)) _ (if ((32:Int)+((Gq c info w p).length:Nat))*1≤140737488355328 then if 32≤y.length then some (0,(y.take 32++Gq c info w p)) else none else none)=_
    rw [i0 (by rfl),if_pos (by omega),if_pos (by omega),List.take_of_length_le (by omega)]
end Go.Eng
