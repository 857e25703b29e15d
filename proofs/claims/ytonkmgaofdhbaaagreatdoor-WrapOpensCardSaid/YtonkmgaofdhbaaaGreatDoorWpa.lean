/-
  Part of a proof: Wpa.
-/
import Derived.Test.YtonkmgaofdhbaaaGreatDoorSelPa
import Derived.Test.YtonkmgaofdhbaaaGreatDoorKemSa
set_option linter.unusedVariables false
set_option linter.unusedSimpArgs false
namespace Go.Eng
set_option maxRecDepth 100000
set_option maxHeartbeats 1000000
def Di:List UInt8:=[72,80,75,69,45,118,49,72,80,75,69,0,32,0,1,0,3]
def Hk (salt:List Int) (label:List UInt8) (b:List Int):List Int:=Z5 salt (J1 (Di++label)++b)
def g81 (n:UInt8) (s:List Int) (label:List UInt8) (info:List Int):List Int:=Z5 s (J1 ([0,n]++Di++label)++info++[1])
theorem Mf (s:List Int) (l:List UInt8) (b:List Int):q8 256 (Hk s l b):=Qx _ _
theorem U3 (s:List Int) (l:List UInt8) (b:List Int):(Hk s l b).length=32:=Cv _ _
theorem e61 (n:UInt8) (s:List Int) (l:List UInt8) (b:List Int):q8 256 (g81 n s l b):=Qx _ _
theorem b48 (n:UInt8) (s:List Int) (l:List UInt8) (b:List Int):(g81 n s l b).length=32:=Cv _ _
theorem i26 {salt M:List Int} (hs:q8 256 salt) (ls:salt.length<100000) (hM:q8 256 M) (lM:M.length<1000000000):B2 salt M=some (Z5 salt M):=by
 unfold B2
 rw [Uz (key:=salt) hs (by omega) (fun x hx=>by rw [List.mem_singleton.1 hx];exact hM) (by simp) (by simp;omega)]
 simp
theorem b49 {salt b:List Int} {label:List UInt8} (hs:q8 256 salt) (ls:salt.length<100000) (hl:label.length<1000) (hb:q8 256 b) (lb:b.length<1000000):X9 salt label b=some (Hk salt label b):=by
 unfold X9
 rw [if_pos (by simp only [List.length_cons,List.length_nil];omega),m6]
 have h1:(J1 (Di++label)).length<2000:=by rw [O7,List.length_append];simp only [Di,List.length_cons,List.length_nil];omega
 show (if (((J1 (Di++label)).length:Int)+b.length)*1≤140737488355328 then (B2 salt (J1 (Di++label)++b)).bind fun x13=>some x13 else none)=_
 rw [if_pos (by omega),i26 hs ls (s6 (Ag _) hb) (by rw [List.length_append];omega)];rfl
theorem g06 {s info:List Int} {label:List UInt8} {n:Nat} (hs:q8 256 s) (ls:s.length<100000) (hl:label.length<1000) (hi:q8 256 info) (li:info.length<1000) (h0:0<n) (hn:n≤32) :
  W2 s label info n=some (n,g81 (UInt8.ofNat n) s label info):=by
 have e:([IntKind.wrap .u8 (Int.fdiv ((n:Nat):Int) (2^8)),IntKind.wrap .u8 ((n:Nat):Int)]:List Int)++J1 (Di++label)=J1 ([0,UInt8.ofNat n]++Di++label):=by
  rw [List.append_assoc,b00 [0,UInt8.ofNat n]]
  refine congrArg (· ++ J1 (Di++label)) ?_
  rw [Ma,u8n,u8n,Nat.mod_eq_of_lt (a:=n) (by omega),show n/2^8=0 from Nat.div_eq_of_lt (by omega)]
  show _=[(((0:UInt8).toNat:Nat):Int),(((UInt8.ofNat n).toNat:Nat):Int)]
  rw [UInt8.toNat_ofNat_of_lt' (by show n<256;omega)];rfl
 have h1:(J1 ([0,UInt8.ofNat n]++Di++label)).length<2000:=by rw [O7,List.length_append];simp only [Di,List.length_cons,List.length_nil,List.length_append];omega
 have h2:(J1 (Di++label)).length<2000:=by rw [O7,List.length_append];simp only [Di,List.length_cons,List.length_nil];omega
 unfold W2
 rw [m6,if_pos (by simp only [List.length_cons,List.length_nil];omega),m6]
 show (if (((2:Nat):Int)+(J1 (Di++label)).length)*1≤140737488355328 then if (((([IntKind.wrap .u8 (Int.fdiv ((n:Nat):Int) (2^8)),IntKind.wrap .u8 ((n:Nat):Int)]:List Int)++J1 (Di++label)).length:Int)+info.length)*1≤140737488355328 then nm ((([IntKind.wrap .u8 (Int.fdiv ((n:Nat):Int) (2^8)),IntKind.wrap .u8 ((n:Nat):Int)]:List Int)++J1 (Di++label))++info) fun x=>(G2 s x n).bind _ else none else none)=_
 rw [if_pos (by omega),e,if_pos (by omega),m6,Ya hs (s6 (Ag _) hi) (by omega) (by rw [List.length_append];omega) h0 hn,Option.bind_some];rfl
theorem b80 {n m q:Nat} {a b c:List Int} (ha:a.length≤n) (hn:n<1000000000) (hb:b.length≤m) (hm:m<1000000000) (hc:c.length≤q) (hq:q<1000000000):A8 n m q a b c=some (a++b++c):=by
 unfold A8
 rw [Int.zero_add,A7 (by omega),i0 (by simp),m6,show (n:Int)+(m:Int)=((n+m:Nat):Int) from rfl,A7 (by omega),i0 (by simp;omega),show ((n+m:Nat):Int)+(q:Int)=((n+m+q:Nat):Int) from rfl,A7 (by omega),i0 (by simp;omega),Option.bind_some,Mb (by omega),Option.bind_some]
 dsimp only
 have t:a.take n=a:=List.take_of_length_le ha
 have t':b.take m=b:=List.take_of_length_le hb
 have t'':c.take q=c:=List.take_of_length_le hc
 rw [t,t',t'',if_pos (by omega),if_pos (Nat.zero_le _),List.take_zero,List.nil_append,if_pos (by omega),m6,if_pos (by rw [List.length_append];omega),Option.bind_some]
def d21 (info:List Int):List Int:=[0]++Hk [] [112,115,107,95,105,100,95,104,97,115,104] []++Hk [] [105,110,102,111,95,104,97,115,104] info
def j02 (s:List Int):List Int:=Hk s [115,101,99,114,101,116] []
def Jg (s info:List Int):List Int:=g81 32 (j02 s) [107,101,121] (d21 info)
def Zb (s info:List Int):List Int:=g81 12 (j02 s) [98,97,115,101,95,110,111,110,99,101] (d21 info)
theorem Ve (info:List Int):q8 256 (d21 info):=s6 (s6 (by simp [q8]) (Mf _ _ _)) (Mf _ _ _)
theorem Vf (info:List Int):(d21 info).length=65:=by unfold d21;rw [List.length_append,List.length_append,U3,U3];rfl
theorem Xb {s info:List Int} (hs:q8 256 s) (ls:s.length=32) (hi:q8 256 info) (li:info.length<100000):Fd s info=some (Jg s info,12,Zb s info):=by
 have hx:=g06 (n:=32) (label:=[107,101,121]) (Mf s [115,101,99,114,101,116] []) (by rw [U3];decide) (by decide) (Ve info) (by rw [Vf];decide) (by decide) (by decide)
 have hy:=g06 (n:=12) (label:=[98,97,115,101,95,110,111,110,99,101]) (Mf s [115,101,99,114,101,116] []) (by rw [U3];decide) (by decide) (Ve info) (by rw [Vf];decide) (by decide) (by decide)
 have hx:W2 (Hk s [115,101,99,114,101,116] []) [107,101,121] (d21 info) 32=some (32,Jg s info):=hx
 have hy:W2 (Hk s [115,101,99,114,101,116] []) [98,97,115,101,95,110,111,110,99,101] (d21 info) 12=some (12,Zb s info):=hy
 have t:s.take 32=s:=List.take_of_length_le (by omega)
 have t2:(Hk s [115,101,99,114,101,116] []).take 32=Hk s [115,101,99,114,101,116] []:=List.take_of_length_le (by rw [U3];decide)
 have lk:(Jg s info).length=32:=b48 _ _ _ _
 have t3:(Jg s info).take 32=Jg s info:=List.take_of_length_le (by omega)
 have hc:=b80 (n:=List.length [(0:Int)]) (m:=32) (q:=32) (a:=[0]) (b:=Hk [] [112,115,107,95,105,100,95,104,97,115,104] []) (c:=Hk [] [105,110,102,111,95,104,97,115,104] info) (Nat.le_refl _) (by decide) (by rw [U3];decide) (by decide) (by rw [U3];decide) (by decide)
 have hc:A8 (List.length [0]) 32 32 [0] (Hk [] [112,115,107,95,105,100,95,104,97,115,104] []) (Hk [] [105,110,102,111,95,104,97,115,104] info)=some (d21 info):=hc
 unfold Fd
 rw [b49 (salt:=[]) trivial (by decide) (by decide) (b:=[]) trivial (by decide),Option.bind_some,b49 (salt:=[]) trivial (by decide) (by decide) hi (by omega),Option.bind_some,hc,Option.bind_some,t,b49 hs (by omega) (by decide) (b:=[]) trivial (by decide),Option.bind_some,t2,hx,Option.bind_some]
 dsimp only
 rw [t3,if_pos (by omega),hy,Option.bind_some,t3]
theorem Dw (s info:List Int):(Jg s info).length=32:=b48 _ _ _ _
theorem i27 (s info:List Int):(Zb s info).length=32:=b48 _ _ _ _
theorem c63 {label:List UInt8} {M:List Int} (hl:label.length<1000) (hM:q8 256 M) (lM:M.length<1000000):M6 [72,80,75,69,0,32,0,1,0,3] label M=some (Hk [] label M):=by
 unfold M6
 rw [if_pos (by simp only [List.length_cons,List.length_nil];omega),if_pos (by simp only [List.length_append,List.length_cons,List.length_nil];omega),m6]
 have h1:(J1 (Di++label)).length<2000:=by rw [O7,List.length_append];simp only [Di,List.length_cons,List.length_nil];omega
 show (if (((J1 (Di++label)).length:Int)+M.length)*1≤140737488355328 then (Bw [] (J1 (Di++label)++M)).bind fun x13=>some x13 else none)=_
 rw [if_pos (by omega),Nt (key:=[]) trivial (s6 (Ag _) hM) (by decide) (by rw [List.length_append];omega)];rfl
theorem e62 {s info:List Int} {label:List UInt8} {n:Nat} (hs:q8 256 s) (ls:s.length=32) (hl:label.length<1000) (hi:q8 256 info) (li:info.length<1000) (h0:0<n) (hn:n≤32):K2 [72,80,75,69,0,32,0,1,0,3] s label info n=some (g81 (UInt8.ofNat n) s label info):=by
 have e:([IntKind.wrap .u8 (IntKind.wrap .i64 (Int.tdiv ((n:Nat):Int) 256)),IntKind.wrap .u8 (Int.tmod ((n:Nat):Int) 256)]:List Int)++J1 (Di++label)=J1 ([0,UInt8.ofNat n]++Di++label):=by
  rw [List.append_assoc,b00 [0,UInt8.ofNat n]]
  refine congrArg (· ++ J1 (Di++label)) ?_
  rw [show Int.tdiv ((n:Nat):Int) 256=((n/256:Nat):Int) from rfl,show Int.tmod ((n:Nat):Int) 256=((n%256:Nat):Int) from rfl,Nat.mod_eq_of_lt (a:=n) (by omega),show n/256=0 from Nat.div_eq_of_lt (by omega),A7 (by omega),u8n,u8n,Nat.mod_eq_of_lt (a:=n) (by omega)]
  show _=[(((0:UInt8).toNat:Nat):Int),(((UInt8.ofNat n).toNat:Nat):Int)]
  rw [UInt8.toNat_ofNat_of_lt' (by show n<256;omega)];rfl
 have h1:(J1 ([0,UInt8.ofNat n]++Di++label)).length<2000:=by rw [O7,List.length_append];simp only [Di,List.length_cons,List.length_nil,List.length_append];omega
 have h2:(J1 (Di++label)).length<2000:=by rw [O7,List.length_append];simp only [Di,List.length_cons,List.length_nil];omega
 have t:s.take 32=s:=List.take_of_length_le (by omega)
 unfold K2
 rw [m6,if_pos (by simp only [List.length_cons,List.length_nil];omega),if_pos (by simp only [List.length_append,List.length_cons,List.length_nil];omega)]
 show (if (((2:Nat):Int)+(J1 (Di++label)).length)*1≤140737488355328 then nm (([IntKind.wrap .u8 (IntKind.wrap .i64 (Int.tdiv ((n:Nat):Int) 256)),IntKind.wrap .u8 (Int.tmod ((n:Nat):Int) 256)]:List Int)++J1 (Di++label)) fun x30=>if ((x30.length:Int)+info.length)*1≤140737488355328 then (W7 (s.take 32) (x30++info) n).bind fun x31=>some x31 else none else none)=_
 rw [if_pos (by omega),m6,e,if_pos (by omega),t,Va hs (s6 (Ag _) hi) (by omega) (by rw [List.length_append];omega) h0 hn];rfl
theorem f34 {s info:List Int} (hs:q8 256 s) (ls:s.length=32) (hi:q8 256 info) (li:info.length<100000):Mo s info=some (Jg s info,Zb s info):=by
 have t:s.take 32=s:=List.take_of_length_le (by omega)
 have t1:∀ l b,(Hk [] l b).take 32=Hk [] l b:=fun l b=>List.take_of_length_le (by rw [U3];decide)
 have hx:=e62 (n:=32) (label:=[107,101,121]) (Mf s [115,101,99,114,101,116] []) (U3 _ _ _) (by decide) (Ve info) (by rw [Vf];decide) (by decide) (by decide)
 have hy:=e62 (n:=12) (label:=[98,97,115,101,95,110,111,110,99,101]) (Mf s [115,101,99,114,101,116] []) (U3 _ _ _) (by decide) (Ve info) (by rw [Vf];decide) (by decide) (by decide)
 have hx:K2 [72,80,75,69,0,32,0,1,0,3] (Hk s [115,101,99,114,101,116] []) [107,101,121] (([0]++Hk [] [112,115,107,95,105,100,95,104,97,115,104] [])++Hk [] [105,110,102,111,95,104,97,115,104] info) 32=some (Jg s info):=hx
 have hy:K2 [72,80,75,69,0,32,0,1,0,3] (Hk s [115,101,99,114,101,116] []) [98,97,115,101,95,110,111,110,99,101] (([0]++Hk [] [112,115,107,95,105,100,95,104,97,115,104] [])++Hk [] [105,110,102,111,95,104,97,115,104] info) 12=some (Zb s info):=hy
 have hm:Bw s [72,80,75,69,45,118,49,72,80,75,69,0,32,0,1,0,3,115,101,99,114,101,116]=some (Hk s [115,101,99,114,101,116] []):=by
  have:=Nt (key:=s) (M:=J1 (Di++[115,101,99,114,101,116])++[]) hs (s6 (Ag _) trivial) (by omega) (by decide)
  exact this
 unfold Mo
 rw [c63 (by decide) (M:=[]) trivial (by decide),Option.bind_some,c63 (by decide) hi (by omega),Option.bind_some,t1,t1,if_pos (by rw [U3];decide),if_pos (by rw [List.length_append,U3,U3];decide),m6,t,hm,Option.bind_some,hx,Option.bind_some,b04 (Dw s info),Option.bind_some,hy,Option.bind_some]
end Go.Eng
namespace Go.Eng
set_option maxRecDepth 100000
set_option maxHeartbeats 1000000
theorem lb {l:List Int} (h:Av l):q8 256 l:=Nl h
theorem bl {l:List Int} (h:q8 256 l):Av l:=fun y hy=>h.get y hy
theorem b50 (a b c:List Int):q8 256 (Cd a b c)/\(Cd a b c).length=32:=⟨Qa _ _ _,Kn _ _ _⟩
theorem g82 {to M c:List Int} (h:Qb to M = .inl c):q8 256 c/\c.length=32:=by
 by_cases e:v9 (R4 M).1 to=G4
 ·rw [e28 e] at h;cases h
 ·rw [b06 e] at h;cases h;exact b50 _ _ _
theorem c64 {s e c:List Int} (h:La s e = .inl c):q8 256 c/\c.length=32:=by
 by_cases q:v9 s e=G4
 ·rw [b07 q] at h;cases h
 ·rw [Qc q] at h;cases h;exact b50 _ _ _
def S3 (s info:List Int):List Int:=(Zb s info).take 12
theorem X7 (s info:List Int):(S3 s info).length=12:=by unfold S3;rw [List.length_take,i27];rfl
theorem i28 (s info:List Int):Av (Jg s info):=bl (e61 _ _ _ _)
theorem f35 (s info:List Int):Av (S3 s info):=fun y hy=>bl (e61 _ _ _ _) y (List.mem_of_mem_take hy)
def Mg (c info w p:List Int):List Int:=J3 (Jg c info) (S3 c info) 1 p++Jf (Jg c info) (S3 c info) w (J3 (Jg c info) (S3 c info) 1 p)
theorem Xc {c info w p:List Int} (hw:w.length≤16384) (hp:p.length≤16384):(Mg c info w p).length=p.length+16:=by
 have hl:=Ra (Dw c info) (X7 c info) (c:=1) (b:=p) (by omega)
 obtain ⟨_,h2,_⟩:=Xa (Dw c info) (X7 c info) hw (t:=J3 (Jg c info) (S3 c info) 1 p) (by omega)
 unfold Mg
 rw [List.length_append,hl,h2]
theorem g83 {c info w p:List Int} (hw:w.length≤16384) (hp:p.length≤16384):Av (Mg c info w p):=by
 have hl:=Ra (Dw c info) (X7 c info) (c:=1) (b:=p) (by omega)
 obtain ⟨_,_,h3⟩:=Xa (Dw c info) (X7 c info) hw (t:=J3 (Jg c info) (S3 c info) 1 p) (by omega)
 unfold Mg
 exact Rb (g77 _ _ _ _) h3
theorem g84 {e c info w p:List Int} (hc:q8 256 c) (lc:c.length=32) (he:e.length=32) (hi:q8 256 info) (li:info.length≤16384) :
  ((Fd c info).bind fun r28=>match r28 with
    |(x24,x25,x26) =>
      (Da x24 (List.take x25 x26) w p).bind fun r28=>match r28 with
      |(Sum.inl x27) =>
        if ((32:Int)+(List.length x27))*1≤140737488355328 then
         if 32≤(List.length e) then
          some (Sum.inl ((List.take 32 e)++x27))
         else none
        else none
      |(Sum.inr x28) =>
        some (Sum.inr x28):Option (List Int⊕Nat))=some (if 16384<w.length\/16384<p.length then .inr 3 else .inl (e++Mg c info w p)):=by
 rw [Xb hc lc hi (by omega),Option.bind_some]
 dsimp only
 rw [show (Zb c info).take 12=S3 c info from rfl]
 by_cases h:16384<w.length\/16384<p.length
 ·rw [if_pos h,g74 (X7 c info) h];rfl
 ·have hw:w.length≤16384:=by omega
  have hp:p.length≤16384:=by omega
  have hl:=Xc (c:=c) (info:=info) hw hp
  rw [if_neg h,i94 (Dw c info) (X7 c info) hw hp,Option.bind_some]
  show (if ((32:Int)+((Mg c info w p).length:Nat))*1≤140737488355328 then if 32≤e.length then some (Sum.inl (e.take 32++Mg c info w p)) else none else none:Option (List Int⊕Nat))=_
  rw [if_pos (by omega),if_pos (by omega),List.take_of_length_le (by omega)]
theorem e63 {to info w p sd:List Int} {n:Nat} (ht:q8 256 to) (lt:to.length=32) (hi:q8 256 info) (hs:q8 256 sd) (ls:sd.length≤n) (hn:n<1000000) :
  Hx to info w p n sd=some (if 16384<info.length then .inr 3 else match Qb to sd with | .inr () => .inr 5 | .inl c=>if 16384<w.length\/16384<p.length then .inr 3 else .inl ((R4 sd).2++Mg c info w p)):=by
 unfold Hx
 by_cases h:16384<info.length
 ·rw [j7 (by simp<;>omega),if_pos h]
 ·have h3:=f19 ht lt hs ls hn
  have hk := @g82 to sd
  have p4:=(b05 sd).2.2.2
  rw [i0 (by simp<;>omega),if_neg h,h3,Option.bind_some]
  generalize Qb to sd=ec at hk ⊢
  generalize (R4 sd).2=y at p4 ⊢
  cases ec with
  |inr u=>rfl
  |inl c =>
   obtain ⟨c1,c2⟩:=hk rfl
   exact g84 c1 c2 p4 hi (by omega)
theorem g85 {k n w s:List Int} (hk:k.length=32) (hn:n.length=12) (kb:Av k) (nb:Av n) (wb:Av w) (sb:Av s) (hs:s.length≤17000) :
  (∃ p,L0 k n w s=some (.inl p)/\Z2 k n w s=some (0,p))\/∃ e:Nat,(e=2\/e=3\/e=7)/\L0 k n w s=some (.inr e)/\Z2 k n w s=some ((e:Int),[]):=by
 have e16:IntKind.wrap .i64 ((s.length:Int)-16)=(s.length:Int)-16:=by rw [o8 (by omega) (by omega)]
 by_cases h16:s.length<16
 ·refine .inr ⟨2,.inl rfl,?_,?_⟩
  ·unfold L0;rw [e16,i0 (by simp [hn]),m6,j7 (by simp<;>omega)]
  ·unfold Z2;rw [i0 (by simp [hn]),j7 (by simp<;>omega)];rfl
 by_cases hw:16384<w.length
 ·refine .inr ⟨3,.inr (.inl rfl),?_,?_⟩
  ·unfold L0;rw [e16,i0 (by simp [hn]),m6,i0 (by simp<;>omega),j7 (by simp<;>omega)]
  ·unfold Z2;rw [i0 (by simp [hn]),i0 (by simp<;>omega),j7 (by simp<;>omega)];rfl
 by_cases hs2:16400<s.length
 ·refine .inr ⟨3,.inr (.inl rfl),?_,?_⟩
  ·exact g76 hn (by omega) (by omega) (by omega)
  ·unfold Z2;rw [i0 (by simp [hn]),i0 (by simp<;>omega),i0 (by simp<;>omega),j7 (by simp<;>omega)];rfl
 have ho:=d19 hk hn (w:=w) (by omega) (s:=s) (by omega) (by omega) sb
 have hr:=i24 hk hn kb nb wb sb (by omega) (by omega) (by omega)
 by_cases ht:s.drop (s.length-16)=Jf k n w (s.take (s.length-16))
 ·rw [if_pos ht] at ho hr
  exact .inl ⟨_,ho,hr⟩
 ·rw [if_neg ht] at ho hr
  exact .inr ⟨7,.inr (.inr rfl),ho,hr⟩
theorem l24 {b:List Int} (hb:b.length=32):Gg b=some b:=by
 have h:=b04 hb
 rw [List.take_of_length_le (by rw [hb];decide)] at h
 exact h
theorem f36 {k info w s:List Int} (hk:q8 256 k) (lk:k.length=32) (hi:q8 256 info) (wb:Av w) (sb:Av s) (hs:s.length≤17000) :
  (∃ p,Q5 k info w s=some (.inl p)/\Fg k info w s=some (0,p))\/∃ e:Nat,(e=2\/e=3\/e=5\/e=7)/\Q5 k info w s=some (.inr e)/\Fg k info w s=some ((e:Int),[]):=by
 unfold Q5 Fg
 by_cases h1:s.length<32
 ·exact .inr ⟨2,.inl rfl,by rw [j7 (by simp<;>omega)],by rw [j7 (by simp<;>omega)];rfl⟩
 by_cases h2:16384<info.length
 ·exact .inr ⟨3,.inr (.inl rfl),by rw [i0 (by simp<;>omega),j7 (by simp<;>omega)],by rw [i0 (by simp<;>omega),j7 (by simp<;>omega)];rfl⟩
 have l32:(s.take 32).length=32:=by rw [List.length_take];omega
 have t32:(s.take 32).take 32=s.take 32:=List.take_of_length_le (by omega)
 have b32:q8 256 (s.take 32):=lb fun y hy=>sb y (List.mem_of_mem_take hy)
 have d1:=b08 hk lk b32 l32
 have d2:=e36 hk lk b32 l32
 have hk2 := @c64 k (s.take 32)
 rw [i0 (by simp<;>omega),i0 (by simp<;>omega),i0 (by simp<;>omega),i0 (by simp<;>omega),if_pos (by omega),if_pos (by omega),if_pos (by omega),t32,d1,Option.bind_some,l24 l32,Option.bind_some,d2,Option.bind_some]
 generalize La k (s.take 32)=dc at hk2 ⊢
 cases dc with
 |inr u=>exact .inr ⟨5,.inr (.inr (.inl rfl)),rfl,rfl⟩
 |inl c =>
  obtain ⟨c1,c2⟩:=hk2 rfl
  dsimp only
  rw [i0 (by rfl),Xb c1 c2 hi (by omega),Option.bind_some,f34 c1 c2 hi (by omega),Option.bind_some]
  dsimp only
  rw [show (Zb c info).take 12=S3 c info from rfl,show List.take (Int.toNat (12-0)) (Zb c info)=S3 c info from rfl,if_pos (by omega),if_pos (by omega),m6,m6]
  have ht:List.take (Int.toNat ((s.length:Int)-32)) (List.drop 32 s)=List.drop 32 s:=List.take_of_length_le (by rw [List.length_drop];omega)
  rw [ht]
  rcases g85 (w:=w) (s:=List.drop 32 s) (Dw c info) (X7 c info) (i28 c info) (f35 c info) wb (fun y hy=>sb y (List.mem_of_mem_drop hy)) (by rw [List.length_drop];omega) with ⟨p,a1,a2⟩|⟨e,he,a1,a2⟩
  ·exact .inl ⟨p,by rw [a1];rfl,by rw [a2];rfl⟩
  ·exact .inr ⟨e,by omega,by rw [a1];rfl,by rw [a2];rfl⟩
end Go.Eng
