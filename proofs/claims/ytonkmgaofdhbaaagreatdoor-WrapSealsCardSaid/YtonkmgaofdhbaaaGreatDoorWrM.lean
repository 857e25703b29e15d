/-
  Part of a proof: WrM.
-/
import Derived.Test.YtonkmgaofdhbaaaGreatDoorEngC
import Derived.Test.YtonkmgaofdhbaaaGreatDoorTabN
set_option linter.unusedVariables false
set_option linter.unusedSimpArgs false
set_option linter.unusedVariables false
set_option linter.unusedSimpArgs false
namespace Go.Eng
open Go.Proofs
set_option maxRecDepth 100000
set_option maxHeartbeats 4000000
section
variable {er:Nat->Zp}
def y5:List Int:=[1116352408,1899447441,3049323471,3921009573,961987163,1508970993,2453635748,2870763221,3624381080,310598401,607225278,1426881987,1925078388,2162078206,2614888103,3248222580,3835390401,4022224774,264347078,604807628,770255983,1249150122,1555081692,1996064986,2554220882,2821834349,2952996808,3210313671,3336571891,3584528711,113926993,338241895,666307205,773529912,1294757372,1396182291,1695183700,1986661051,2177026350,2456956037,2730485921,2820302411,3259730800,3345764771,3516065817,3600352804,4094571909,275423344,430227734,506948616,659060556,883997877,958139571,1322822218,1537002063,1747873779,1955562222,2024104815,2227730452,2361852424,2428436474,2756734187,3204031479,3329325298]
def E8:List Int:=[134216512,134217726,134217726,134217726,134217726,134217726,134217726,134217726,134217726,134217726]
def l37:List Nat:=[3,2,1,4,5,6,7,8,9,10,11,12,13,14,15,16,17,18,19]
structure z6 where
 fInfo:List Int
 fWith:List Int
 fSeed:List Int
 deriving DecidableEq
def z6.dv (x:z6):DV:=(.cons (.roI .u8 x.fInfo) (.cons (.roI .u8 x.fWith) (.cons (.roI .u8 x.fSeed) .nil)))
def z6.z:z6:=⟨[],[],[]⟩
structure e9 where
 fn:List Int
 deriving DecidableEq
def e9.dv (x:e9):DV:=(.cons (.ints .u64 10 x.fn) .nil)
def e9.z:e9:=⟨(List.replicate 10 (0:Int))⟩
def e9.same (x y:e9):Bool:=((x.fn==y.fn)&&true)
structure r8 where
 fx2:e9
 fz2:e9
 fx3:e9
 fz3:e9
 deriving DecidableEq
def r8.dv (x:r8):DV:=(.cons (e9.dv x.fx2) (.cons (e9.dv x.fz2) (.cons (e9.dv x.fx3) (.cons (e9.dv x.fz3) .nil))))
def r8.z:r8:=⟨e9.z,e9.z,e9.z,e9.z⟩
def r8.same (x y:r8):Bool:=(e9.same x.fx2 y.fx2&&(e9.same x.fz2 y.fz2&&(e9.same x.fx3 y.fx3&&(e9.same x.fz3 y.fz3&&true))))
def q7 (x14:Int):Option (Nat×(List Int)) :=
 cond (decide (x14<0))
  (none)
  (((cond (decide ((IntKind.wrap .i64 (x14-0))>0))
   (if (0:Int)≤(IntKind.wrap .i64 (x14-0))/\(IntKind.wrap .i64 (x14-0))*1≤140737488355328 then
    nm ((List.replicate (Int.toNat (IntKind.wrap .i64 (x14-0))) (0:Int)):List Int) fun x17 =>
    if 0≤((List.length x17):Int) then
     some (0,x17)
    else none
   else none)
   (some ((List.length ([]:List Int)),([]:List Int))):Option (Nat×(List Int)))).bind fun r1_0_16=>match r1_0_16 with
  |(x15,x16) =>
    some (x15,x16))
def F7 (x10:Nat) (x11:List Int):Option ((List Int)) :=
 ((cond (decide ((IntKind.wrap .i64 (0+(x10:Int)))<0))
  (none)
  (some ()):Option Unit)).bind fun _ =>
  (q7 (IntKind.wrap .i64 (0+(x10:Int)))).bind fun r13=>match r13 with
  |(x12,x13) =>
    ((if ((x12:Int)+(List.length (List.take x10 x11)))*1≤140737488355328 then
     if x12≤(List.length x13) then
      some ()
     else none
    else none:Option Unit)).bind fun _ =>
     some ((List.take x12 x13)++(List.take x10 x11))
def Ya:Option ((List Int)) :=
 nm ([1779033703,3144134277,1013904242,2773480762,1359893119,2600822924,528734635,1541459225]:List Int) fun x19 =>
 some x19
def Le:Option ((List Int)) :=
 (Ya).bind fun x19 =>
  some x19
def v7 (x33:Int) (x34:Int):Option Int :=
 if (0:Int)≤(Int.tmod (IntKind.wrap .u64 x34) 32) then
  nm ((Int.fdiv x33 (2^(min (Int.toNat (Int.tmod (IntKind.wrap .u64 x34) 32)) (IntKind.bits .u32)))):Int) fun x35 =>
  nm ((IntKind.wrap .u64 (32-(Int.tmod (IntKind.wrap .u64 x34) 32))):Int) fun x36 =>
  if (0:Int)≤x36 then
   nm ((IntKind.wrap .u32 (x33*2^(min (Int.toNat x36) (IntKind.bits .u32)))):Int) fun x37 =>
   some (bits .u32 .or x35 x37)
  else none
 else none
def I4 (x31:List Int):Nat->Int->(List Int)->Option ((List Int))
 |0,_,_=>none
 |n1+1,x33,x34 =>
  cond (decide (x33<16))
   (if (0:Int)≤(IntKind.wrap .i64 (4*x33))/\(IntKind.wrap .i64 (4*x33))<(List.length x31:Int) then
    nm ((IntKind.wrap .u32 (List.getD x31 (Int.toNat (IntKind.wrap .i64 (4*x33))) 0)):Int) fun x35 =>
    if (0:Int)≤(IntKind.wrap .i64 ((IntKind.wrap .i64 (4*x33))+1))/\(IntKind.wrap .i64 ((IntKind.wrap .i64 (4*x33))+1))<(List.length x31:Int) then
     nm ((List.getD x31 (Int.toNat (IntKind.wrap .i64 ((IntKind.wrap .i64 (4*x33))+1))) 0):Int) fun x36 =>
     nm ((bits .u32 .or (IntKind.wrap .u32 (x35*2^24)) (IntKind.wrap .u32 ((IntKind.wrap .u32 x36)*2^16))):Int) fun x37 =>
     if (0:Int)≤(IntKind.wrap .i64 ((IntKind.wrap .i64 (4*x33))+2))/\(IntKind.wrap .i64 ((IntKind.wrap .i64 (4*x33))+2))<(List.length x31:Int) then
      nm ((List.getD x31 (Int.toNat (IntKind.wrap .i64 ((IntKind.wrap .i64 (4*x33))+2))) 0):Int) fun x38 =>
      nm ((bits .u32 .or x37 (IntKind.wrap .u32 ((IntKind.wrap .u32 x38)*2^8))):Int) fun x39 =>
      if (0:Int)≤(IntKind.wrap .i64 ((IntKind.wrap .i64 (4*x33))+3))/\(IntKind.wrap .i64 ((IntKind.wrap .i64 (4*x33))+3))<(List.length x31:Int) then
       nm ((List.getD x31 (Int.toNat (IntKind.wrap .i64 ((IntKind.wrap .i64 (4*x33))+3))) 0):Int) fun x40 =>
       if (0:Int)≤x33/\x33<64 then
        nm ((List.set x34 (Int.toNat x33) (bits .u32 .or x39 (IntKind.wrap .u32 x40))):List Int) fun x41 =>
        I4 x31 n1 (IntKind.wrap .i64 (x33+1)) x41
       else none
      else none
     else none
    else none
   else none)
   (some x34)
def I5:Nat->Int->(List Int)->Option ((List Int))
 |0,_,_=>none
 |n2+1,x43,x44 =>
  cond (decide (x43<64))
   (if (0:Int)≤(IntKind.wrap .i64 (x43-15))/\(IntKind.wrap .i64 (x43-15))<64 then
    if (0:Int)≤(IntKind.wrap .i64 (x43-2))/\(IntKind.wrap .i64 (x43-2))<64 then
     (v7 (List.getD x44 (Int.toNat (IntKind.wrap .i64 (x43-15))) 0) 7).bind fun x45 =>
      (v7 (List.getD x44 (Int.toNat (IntKind.wrap .i64 (x43-15))) 0) 18).bind fun x46 =>
       nm ((Int.fdiv (List.getD x44 (Int.toNat (IntKind.wrap .i64 (x43-15))) 0) (2^3)):Int) fun x47 =>
       (v7 (List.getD x44 (Int.toNat (IntKind.wrap .i64 (x43-2))) 0) 17).bind fun x48 =>
        (v7 (List.getD x44 (Int.toNat (IntKind.wrap .i64 (x43-2))) 0) 19).bind fun x49 =>
         nm ((Int.fdiv (List.getD x44 (Int.toNat (IntKind.wrap .i64 (x43-2))) 0) (2^10)):Int) fun x50 =>
         if (0:Int)≤(IntKind.wrap .i64 (x43-16))/\(IntKind.wrap .i64 (x43-16))<64 then
          nm ((IntKind.wrap .u32 ((List.getD x44 (Int.toNat (IntKind.wrap .i64 (x43-16))) 0)+(bits .u32 .xor (bits .u32 .xor x45 x46) x47))):Int) fun x51 =>
          if (0:Int)≤(IntKind.wrap .i64 (x43-7))/\(IntKind.wrap .i64 (x43-7))<64 then
           nm ((IntKind.wrap .u32 (x51+(List.getD x44 (Int.toNat (IntKind.wrap .i64 (x43-7))) 0))):Int) fun x52 =>
           nm ((IntKind.wrap .u32 (x52+(bits .u32 .xor (bits .u32 .xor x48 x49) x50))):Int) fun x53 =>
           if (0:Int)≤x43/\x43<64 then
            I5 n2 (IntKind.wrap .i64 (x43+1)) (List.set x44 (Int.toNat x43) x53)
           else none
          else none
         else none
    else none
   else none)
   (some x44)
def El (x31:List Int):Option ((List Int)) :=
 ((I4 x31 f9 0 (List.replicate 64 (0:Int)):Option ((List Int)))).bind fun x32 =>
  ((I5 f9 16 x32:Option ((List Int)))).bind fun x42 =>
   some x42
def B7 (x41:List Int):Nat->Int->(List Int)->Option ((List Int))
 |0,_,_=>none
 |n1+1,x43,x44 =>
  cond (decide (x43<64))
   (if (0:Int)≤x43/\x43<64 then
    (v7 (List.getD x44 4 0) 6).bind fun x45 =>
     (v7 (List.getD x44 4 0) 11).bind fun x46 =>
      (v7 (List.getD x44 4 0) 25).bind fun x47 =>
       nm ((IntKind.wrap .u32 ((List.getD x44 7 0)+(bits .u32 .xor (bits .u32 .xor x45 x46) x47))):Int) fun x48 =>
       nm ((bits .u32 .and (bits .u32 .xor (IntKind.max .u32) (List.getD x44 4 0)) (List.getD x44 6 0)):Int) fun x49 =>
       nm ((bits .u32 .xor (bits .u32 .and (List.getD x44 4 0) (List.getD x44 5 0)) x49):Int) fun x50 =>
       nm ((IntKind.wrap .u32 ((IntKind.wrap .u32 (x48+x50))+(List.getD y5 (Int.toNat x43) 0))):Int) fun x51 =>
       if (0:Int)≤x43/\x43<64 then
        nm ((IntKind.wrap .u32 (x51+(List.getD x41 (Int.toNat x43) 0))):Int) fun x52 =>
        (v7 (List.getD x44 0 0) 2).bind fun x53 =>
         (v7 (List.getD x44 0 0) 13).bind fun x54 =>
          (v7 (List.getD x44 0 0) 22).bind fun x55 =>
           nm ((bits .u32 .xor (bits .u32 .and (List.getD x44 0 0) (List.getD x44 1 0)) (bits .u32 .and (List.getD x44 0 0) (List.getD x44 2 0))):Int) fun x56 =>
           nm ((bits .u32 .xor x56 (bits .u32 .and (List.getD x44 1 0) (List.getD x44 2 0))):Int) fun x57 =>
           nm ((IntKind.wrap .u32 ((bits .u32 .xor (bits .u32 .xor x53 x54) x55)+x57)):Int) fun x58 =>
           nm ((IntKind.wrap .u32 ((List.getD (T9 x44 1 (List.take 7 (List.take 7 x44))) 4 0)+x52)):Int) fun x59 =>
           nm ((List.set (T9 x44 1 (List.take 7 (List.take 7 x44))) 4 x59):List Int) fun x60 =>
           B7 x41 n1 (IntKind.wrap .i64 (x43+1)) (List.set x60 0 (IntKind.wrap .u32 (x52+x58)))
       else none
   else none)
   (some x44)
def M2 (x42:List Int):Nat->Int->(List Int)->Option ((List Int))
 |0,_,_=>none
 |n2+1,x62,x63 =>
  cond (decide (x62<8))
   (if (0:Int)≤x62/\x62<8 then
    if (0:Int)≤x62/\x62<8 then
     nm ((IntKind.wrap .u32 ((List.getD x63 (Int.toNat x62) 0)+(List.getD x42 (Int.toNat x62) 0))):Int) fun x64 =>
     if (0:Int)≤x62/\x62<8 then
      M2 x42 n2 (IntKind.wrap .i64 (x62+1)) (List.set x63 (Int.toNat x62) x64)
     else none
    else none
   else none)
   (some x63)
def F8 (x34:Nat) (x35:Nat) (x36:List Int) (x37:Nat) (x38:Nat) (x39:Int) (x40:List Int):Option ((List Int)) :=
 (El (List.take x35 (List.drop x34 x40))).bind fun x41 =>
  ((B7 x41 f9 0 x36:Option ((List Int)))).bind fun x42 =>
   ((M2 x42 f9 0 x36:Option ((List Int)))).bind fun x61 =>
    some x61
def K9 (x25:List Int) (x28:Int):Nat->(List Int)->Nat->Nat->Option ((List Int)×Nat×Nat)
 |0,_,_,_=>none
 |n1+1,x34,x35,x36 =>
  cond (decide ((x36:Int)≥64))
   (if 64≤(x36:Int) then
    (F8 x35 64 x34 x35 x36 x28 x25).bind fun x37 =>
     if (0:Int)≤64/\64≤(x36:Int) then
      K9 x25 x28 n1 x37 (x35+64) (Int.toNat ((x36:Int)-64))
     else none
   else none)
   (some (x34,x35,x36))
def K2 (x25:List Int) (x26:List Int) (x27:Int):Option ((List Int)×Nat×Nat×Int) :=
 nm ((IntKind.wrap .u64 (x27+(IntKind.wrap .u64 (List.length x25:Int)))):Int) fun x28 =>
 if ((List.length x25):Int)*1≤140737488355328 then
  ((K9 x25 x28 f9 x26 0 (List.length x25):Option ((List Int)×Nat×Nat))).bind fun r1_0_31=>match r1_0_31 with
  |(x29,x30,x31) =>
    some (x29,x30,x31,x28)
 else none
def H5 (x25:List Int) (x28:List Int) (x29:Int):Nat->(List Int)->Nat->Nat->Option ((List Int)×Nat×Nat)
 |0,_,_,_=>none
 |n1+1,x35,x36,x37 =>
  cond (decide ((x37:Int)≥64))
   (if 64≤(x37:Int) then
    (F8 x36 64 x35 x36 x37 x29 (x28++x25)).bind fun x38 =>
     if (0:Int)≤64/\64≤(x37:Int) then
      H5 x25 x28 x29 n1 x38 (x36+64) (Int.toNat ((x37:Int)-64))
     else none
   else none)
   (some (x35,x36,x37))
def U7 (x25:List Int) (x26:List Int) (x27:Int) (x28:List Int):Option ((List Int)×Nat×Nat×Int) :=
 nm ((IntKind.wrap .u64 (x27+(IntKind.wrap .u64 (List.length x25:Int)))):Int) fun x29 =>
 if (((List.length x28):Int)+(List.length x25))*1≤140737488355328 then
  ((H5 x25 x28 x29 f9 x26 0 (List.length (x28++x25)):Option ((List Int)×Nat×Nat))).bind fun r1_0_32=>match r1_0_32 with
  |(x30,x31,x32) =>
    some (x30,x31,x32,x29)
 else none
def H6 (x30:List Int) (x32:Nat) (x33:Nat) (x35:List Int) (x36:Int):Nat->(List Int)->Nat->Nat->Option ((List Int)×Nat×Nat)
 |0,_,_,_=>none
 |n1+1,x42,x43,x44 =>
  cond (decide ((x44:Int)≥64))
   (if 64≤(x44:Int) then
    (F8 x43 64 x42 x43 x44 x36 ((List.take x33 (List.drop x32 x35))++x30)).bind fun x45 =>
     if (0:Int)≤64/\64≤(x44:Int) then
      H6 x30 x32 x33 x35 x36 n1 x45 (x43+64) (Int.toNat ((x44:Int)-64))
     else none
   else none)
   (some (x42,x43,x44))
def t7 (x30:List Int) (x31:List Int) (x32:Nat) (x33:Nat) (x34:Int) (x35:List Int):Option ((List Int)×Nat×Nat×Int) :=
 nm ((IntKind.wrap .u64 (x34+(IntKind.wrap .u64 (List.length x30:Int)))):Int) fun x36 =>
 if ((x33:Int)+(List.length x30))*1≤140737488355328 then
  if x32+x33≤(List.length x35) then
   ((H6 x30 x32 x33 x35 x36 f9 x31 0 (List.length ((List.take x33 (List.drop x32 x35))++x30)):Option ((List Int)×Nat×Nat))).bind fun r1_0_39=>match r1_0_39 with
   |(x37,x38,x39) =>
     some (x37,x38,x39,x36)
  else none
 else none
def u6 (x40:List Int):Option ((List Int)) :=
 if (((List.length ([]:List Int)):Int)+(List.length x40))*1≤140737488355328 then
  some (([]:List Int)++x40)
 else none
def Gb (x35:List Int) (x36:Nat) (x37:Nat) (x38:Int) (x39:List Int):Option ((List Int)) :=
 (u6 (List.take x37 (List.drop x36 x39))).bind fun x40 =>
  some x40
def X6 (x45:Int):Nat->Int->Int->(List Int)->Option ((((List Int))⊕Unit))
 |0,_,_,_=>none
 |n1+1,x47,x48,x49 =>
  cond (decide (x48<x45))
   (if (0:Int)≤x48/\x48<((List.length (List.replicate (Int.toNat x45) (0:Int))):Int) then
    X6 x45 n1 (Int.fdiv x47 (2^8)) (IntKind.wrap .i64 (x48+1)) (List.set x49 (Int.toNat x48) (IntKind.wrap .u8 x47))
   else none)
   (some (Sum.inl x49))
def I6 (x44:Int) (x45:Int):Option ((((List Int))⊕Unit)) :=
 cond (decide (x45<0))
  (some (Sum.inr ()))
  (cond (decide (x45>8))
   (some (Sum.inr ()))
   (if (0:Int)≤x45/\x45≤x45/\x45≤9223372036854775807/\x45*1≤140737488355328 then
    cond (decide (0<x45))
     (if (0:Int)≤0/\0<((List.length (List.replicate (Int.toNat x45) (0:Int))):Int) then
      nm ((List.set (List.replicate (Int.toNat x45) (0:Int)) (Int.toNat 0) (IntKind.wrap .u8 x44)):List Int) fun x46 =>
      X6 x45 f9 (Int.fdiv x44 (2^8)) 1 x46
     else none)
     (some (Sum.inl (List.replicate (Int.toNat x45) (0:Int))))
   else none))
def D7 (x52:Nat):Nat->Int->Int->(List Int)->Option ((List Int))
 |0,_,_,_=>none
 |n1+1,x55,x56,x57 =>
  cond (decide (x55<x56))
   (if (0:Int)≤x56/\x56<(x52:Int) then
    if (0:Int)≤x55/\x55<(x52:Int) then
     if (0:Int)≤x55/\x55<(x52:Int) then
      nm ((List.set x57 (Int.toNat x55) (List.getD x57 (Int.toNat x56) 0)):List Int) fun x58 =>
      if (0:Int)≤x56/\x56<(x52:Int) then
       nm ((List.set x58 (Int.toNat x56) (List.getD x57 (Int.toNat x55) 0)):List Int) fun x59 =>
       D7 x52 n1 (IntKind.wrap .i64 (x55+1)) (IntKind.wrap .i64 (x56-1)) x59
      else none
     else none
    else none
   else none)
   (some x57)
def P1 (x52:Nat) (x53:List Int):Option ((List Int)) :=
 ((D7 x52 f9 0 (IntKind.wrap .i64 ((x52:Int)-1)) x53:Option ((List Int)))).bind fun x54 =>
  some x54
def K3:Nat->Option Unit
 |0=>none
 |n1+1 =>
  some ()
def P2:Option Unit :=
 ((K3 f9  : Option Unit)).bind fun _ =>
  some ()
def Em (x42:Int) (x43:Int):Option ((((List Int))⊕Unit)) :=
 (I6 x42 x43).bind fun r45=>match r45 with
 |(Sum.inl x44) =>
   (P1 (List.length (List.replicate (Int.toNat x43) (0:Int))) x44).bind fun x45 =>
    some (Sum.inl x45)
 |(Sum.inr ()) =>
   (P2).bind fun _ =>
    some (Sum.inr ())
def L8:Nat->(List Int)->Nat->Nat->Int->(List Int)->Option ((List Int)×Nat×Nat×Int×(List Int))
 |0,_,_,_,_,_=>none
 |n1+1,x46,x47,x48,x49,x50 =>
  cond (!((x48:Int)==56))
   ((t7 [0] x46 x47 x48 x49 x50).bind fun r54=>match r54 with
   |(x51,x52,x53,x54) =>
     L8 n1 x51 x52 x53 x54 ((List.take x48 (List.drop x47 x50))++[0]))
   (some (x46,x47,x48,x49,x50))
def Y6 (x55:List Int):Nat->Int->(List Int)->Option ((List Int))
 |0,_,_=>none
 |n2+1,x61,x62 =>
  cond (decide (x61<8))
   (if (0:Int)≤x61/\x61<8 then
    nm ((IntKind.wrap .u8 (Int.fdiv (List.getD x55 (Int.toNat x61) 0) (2^24))):Int) fun x63 =>
    nm ((IntKind.wrap .u8 (Int.fdiv (List.getD x55 (Int.toNat x61) 0) (2^16))):Int) fun x64 =>
    nm ((IntKind.wrap .u8 (Int.fdiv (List.getD x55 (Int.toNat x61) 0) (2^8))):Int) fun x65 =>
    if (0:Int)≤(IntKind.wrap .i64 (4*x61))/\(IntKind.wrap .i64 (4*x61))<32 then
     if (0:Int)≤(IntKind.wrap .i64 ((IntKind.wrap .i64 (4*x61))+1))/\(IntKind.wrap .i64 ((IntKind.wrap .i64 (4*x61))+1))<32 then
      nm ((Int.toNat (IntKind.wrap .i64 ((IntKind.wrap .i64 (4*x61))+1))):Nat) fun x66 =>
      nm ((List.set (List.set x62 (Int.toNat (IntKind.wrap .i64 (4*x61))) x63) x66 x64):List Int) fun x67 =>
      if (0:Int)≤(IntKind.wrap .i64 ((IntKind.wrap .i64 (4*x61))+2))/\(IntKind.wrap .i64 ((IntKind.wrap .i64 (4*x61))+2))<32 then
       nm ((Int.toNat (IntKind.wrap .i64 ((IntKind.wrap .i64 (4*x61))+2))):Nat) fun x68 =>
       if (0:Int)≤(IntKind.wrap .i64 ((IntKind.wrap .i64 (4*x61))+3))/\(IntKind.wrap .i64 ((IntKind.wrap .i64 (4*x61))+3))<32 then
        nm ((Int.toNat (IntKind.wrap .i64 ((IntKind.wrap .i64 (4*x61))+3))):Nat) fun x69 =>
        nm ((List.set (List.set x67 x68 x65) x69 (IntKind.wrap .u8 (List.getD x55 (Int.toNat x61) 0))):List Int) fun x70 =>
        Y6 x55 n2 (IntKind.wrap .i64 (x61+1)) x70
       else none
      else none
     else none
    else none
   else none)
   (some x62)
def M6 (x30:List Int) (x31:Nat) (x32:Nat) (x33:Int) (x34:List Int):Option ((List Int)) :=
 (Gb x30 x31 x32 x33 x34).bind fun x35 =>
  (Em (IntKind.wrap .u64 (8*x33)) 8).bind fun r70=>match r70 with
  |(Sum.inl x36) =>
    (U7 [128] x30 x33 x35).bind fun r70=>match r70 with
    |(x37,x38,x39,x40) =>
      ((L8 f9 x37 x38 x39 x40 (x35++[128]):Option ((List Int)×Nat×Nat×Int×(List Int)))).bind fun r1_0_45=>match r1_0_45 with
      |(x41,x42,x43,x44,x45) =>
        (t7 (List.take (List.length (List.replicate (Int.toNat 8) (0:Int))) x36) x41 x42 x43 x44 x45).bind fun r70=>match r70 with
        |(x55,x56,x57,x58) =>
          nm (((List.take x43 (List.drop x42 x45))++(List.take (List.length (List.replicate (Int.toNat 8) (0:Int))) x36)):List Int) fun x59 =>
          ((Y6 x55 f9 0 (List.replicate 32 (0:Int)):Option ((List Int)))).bind fun x60 =>
           some x60
  |(Sum.inr ()) =>
    some (List.replicate 32 (0:Int))
def P3 (x23:List (List Int)):Nat->Int->(List Int)->Nat->Nat->Int->(List Int)->Option ((List Int)×Nat×Nat×Int×(List Int))
 |0,_,_,_,_,_,_=>none
 |n1+1,x35,x36,x37,x38,x39,x40 =>
  cond (decide (x35<(List.length x23:Int)))
   (if (0:Int)≤x35/\x35<(List.length x23:Int) then
    (t7 (List.getD x23 (Int.toNat x35) []) x36 x37 x38 x39 x40).bind fun r45=>match r45 with
    |(x41,x42,x43,x44) =>
      nm (((List.take x38 (List.drop x37 x40))++(List.getD x23 (Int.toNat x35) [])):List Int) fun x45 =>
      P3 x23 n1 (IntKind.wrap .i64 (x35+1)) x41 x42 x43 x44 x45
   else none)
   (some (x36,x37,x38,x39,x40))
def Wd (x23:List (List Int)):Option ((List Int)) :=
 (Le).bind fun x24 =>
  ((P3 x23 f9 0 x24 0 (List.length ([]:List Int)) 0 ([]:List Int):Option ((List Int)×Nat×Nat×Int×(List Int)))).bind fun r1_0_29=>match r1_0_29 with
  |(x25,x26,x27,x28,x29) =>
    (M6 x25 x26 x27 x28 x29).bind fun x46 =>
     some x46
def N5 (x22:Int):Nat->Int->(List Int)->Option ((List Int))
 |0,_,_=>none
 |n1+1,x28,x29 =>
  nm ((decide (x28<((List.length (List.replicate 64 (0:Int))):Int))):Bool) fun x30 =>
  cond x30
   (if (0:Int)≤x28/\x28<((List.length (List.replicate 64 (0:Int))):Int) then
    if (0:Int)≤x28/\x28<((List.length (List.replicate 64 (0:Int))):Int) then
     nm ((List.set x29 (Int.toNat x28) (bits .u8 .xor (List.getD x29 (Int.toNat x28) 0) x22)):List Int) fun x31 =>
     N5 x22 n1 (IntKind.wrap .i64 (x28+1)) x31
    else none
   else none)
   (some x29)
def N6 (x22:Int):Nat->Int->(List Int)->Option ((List Int))
 |0,_,_=>none
 |n2+1,x35,x36 =>
  nm ((decide (x35<((List.length (List.replicate 64 (0:Int))):Int))):Bool) fun x37 =>
  cond x37
   (if (0:Int)≤x35/\x35<((List.length (List.replicate 64 (0:Int))):Int) then
    if (0:Int)≤x35/\x35<((List.length (List.replicate 64 (0:Int))):Int) then
     nm ((List.set x36 (Int.toNat x35) (bits .u8 .xor (List.getD x36 (Int.toNat x35) 0) x22)):List Int) fun x38 =>
     N6 x22 n2 (IntKind.wrap .i64 (x35+1)) x38
    else none
   else none)
   (some x36)
def P4 (x21:List Int) (x22:Int):Option ((List Int)) :=
 ((cond (decide ((List.length x21:Int)>64))
  ((Wd [x21]).bind fun x24 =>
   some (Sum.inl x24))
  (some (Sum.inr ())):Option ((((List Int))⊕Unit)))).bind fun r1_0_23=>match r1_0_23 with
 |(Sum.inl x23) =>
   nm ((T9 (List.replicate 64 (0:Int)) 0 (List.take (List.length (List.replicate 64 (0:Int))) (List.take 32 x23))):List Int) fun x25 =>
   nm ((min (List.length (List.take 32 x23)) (List.length (List.replicate 64 (0:Int))):Nat):Int) fun x26 =>
   ((N5 x22 f9 0 x25:Option ((List Int)))).bind fun x27 =>
    some x27
 |(Sum.inr ()) =>
   nm ((T9 (List.replicate 64 (0:Int)) 0 (List.take (List.length (List.replicate 64 (0:Int))) x21)):List Int) fun x32 =>
   nm ((min (List.length x21) (List.length (List.replicate 64 (0:Int))):Nat):Int) fun x33 =>
   ((N6 x22 f9 0 x32:Option ((List Int)))).bind fun x34 =>
    some x34
def Bb (x51:Nat) (x52:Nat) (x53:List Int) (x54:List Int):Option ((List Int)) :=
 (Le).bind fun x55 =>
  (((K2 (List.take x51 x53) x55 0).bind fun r69=>match r69 with
  |(x61,x62,x63,x64) =>
    (t7 (List.take x52 x54) x61 x62 x63 x64 (List.take x51 x53)).bind fun r69=>match r69 with
    |(x65,x66,x67,x68) =>
      nm (((List.take x63 (List.drop x62 (List.take x51 x53)))++(List.take x52 x54)):List Int) fun x69 =>
      some (x65,x66,x67,x68,x69):Option ((List Int)×Nat×Nat×Int×(List Int)))).bind fun r1_0_60=>match r1_0_60 with
  |(x56,x57,x58,x59,x60) =>
    (M6 x56 x57 x58 x59 x60).bind fun x70 =>
     some x70
def Fo (x18:List (List Int)):Nat->Int->(List Int)->Nat->Nat->Int->(List Int)->Option ((List Int)×Nat×Nat×Int×(List Int))
 |0,_,_,_,_,_,_=>none
 |n1+1,x30,x31,x32,x33,x34,x35 =>
  cond (decide (x30<(List.length x18:Int)))
   (if (0:Int)≤x30/\x30<(List.length x18:Int) then
    (t7 (List.getD x18 (Int.toNat x30) []) x31 x32 x33 x34 x35).bind fun r40=>match r40 with
    |(x36,x37,x38,x39) =>
      nm (((List.take x33 (List.drop x32 x35))++(List.getD x18 (Int.toNat x30) [])):List Int) fun x40 =>
      Fo x18 n1 (IntKind.wrap .i64 (x30+1)) x36 x37 x38 x39 x40
   else none)
   (some (x31,x32,x33,x34,x35))
def We (x17:List Int) (x18:List (List Int)):Option ((List Int)) :=
 (Le).bind fun x19 =>
  (P4 x17 54).bind fun x20 =>
   (K2 (List.take (List.length (List.replicate 64 (0:Int))) x20) x19 0).bind fun r43=>match r43 with
   |(x21,x22,x23,x24) =>
     ((Fo x18 f9 0 x21 x22 x23 x24 (List.take (List.length (List.replicate 64 (0:Int))) x20):Option ((List Int)×Nat×Nat×Int×(List Int)))).bind fun r1_0_29=>match r1_0_29 with
     |(x25,x26,x27,x28,x29) =>
       (M6 x25 x26 x27 x28 x29).bind fun x41 =>
        (P4 x17 92).bind fun x42 =>
         (Bb (List.length (List.replicate 64 (0:Int))) 32 x42 x41).bind fun x43 =>
          some x43
def z7 (x15:List Int) (x16:List Int):Option ((List Int)) :=
 (We x15 [x16]).bind fun x17 =>
  some x17
def Gt (x6:List UInt8) (x7:Nat) (x8:List Int):Option ((List Int)) :=
 if ((List.length [72,80,75,69,45,118,49,75,69,77,0,32]:Int)+List.length x6≤9223372036854775807) then
  nm ((List.map (fun q:UInt8=>(q.toNat:Int)) ([72,80,75,69,45,118,49,75,69,77,0,32]++x6)):List Int) fun x9 =>
  (F7 x7 x8).bind fun x10 =>
   if (((List.length x9):Int)+(List.length x10))*1≤140737488355328 then
    (z7 ([]:List Int) (x9++x10)).bind fun x11 =>
     some x11
   else none
 else none
def s9 (x17:List (List Int)):Nat->Int->Int->Option Int
 |0,_,_=>none
 |n1+1,x19,x20 =>
  cond (decide (x20<(List.length x17:Int)))
   (if (0:Int)≤x20/\x20<(List.length x17:Int) then
    nm ((IntKind.wrap .i64 (x19+(List.length (List.getD x17 (Int.toNat x20) []):Int))):Int) fun x21 =>
    cond (decide (x21<0))
     (none)
     (s9 x17 n1 x21 (IntKind.wrap .i64 (x20+1)))
   else none)
   (some x19)
def t5 (x17:List (List Int)):Nat->Nat->Int->(List Int)->Option ((Unit⊕(Nat×(List Int))))
 |0,_,_,_=>none
 |n2+1,x26,x27,x28 =>
  cond (decide (x27<(List.length x17:Int)))
   (if (0:Int)≤x27/\x27<(List.length x17:Int) then
    if ((x26:Int)+(List.length (List.getD x17 (Int.toNat x27) [])))*1≤140737488355328 then
     if x26≤(List.length x28) then
      t5 x17 n2 (List.length ((List.take x26 x28)++(List.getD x17 (Int.toNat x27) []))) (IntKind.wrap .i64 (x27+1)) ((List.take x26 x28)++(List.getD x17 (Int.toNat x27) []))
     else none
    else none
   else none)
   (some (Sum.inr (x26,x28)))
def A9 (x17:List (List Int)):Option (Nat×(List Int)) :=
 ((s9 x17 f9 0 0:Option Int)).bind fun x18 =>
  (q7 x18).bind fun r28=>match r28 with
  |(x22,x23) =>
    ((t5 x17 f9 x22 0 x23:Option ((Unit⊕(Nat×(List Int)))))).bind fun r2_1_25=>match r2_1_25 with
    |(Sum.inl ()) =>
      some (x22,x23)
    |(Sum.inr (x24,x25)) =>
      some (x24,x25)
def Im (x35:List Int) (x36:List Int) (x37:Nat) (x38:List Int):Option ((List Int)) :=
 (Le).bind fun x39 =>
  (P4 x35 54).bind fun x40 =>
   (K2 (List.take (List.length (List.replicate 64 (0:Int))) x40) x39 0).bind fun r66=>match r66 with
   |(x41,x42,x43,x44) =>
     (((t7 ([]:List Int) x41 x42 x43 x44 (List.take (List.length (List.replicate 64 (0:Int))) x40)).bind fun r63=>match r63 with
     |(x50,x51,x52,x53) =>
       nm (((List.take x43 (List.drop x42 (List.take (List.length (List.replicate 64 (0:Int))) x40)))++([]:List Int)):List Int) fun x54 =>
       (t7 x36 x50 x51 x52 x53 x54).bind fun r63=>match r63 with
       |(x55,x56,x57,x58) =>
         (t7 (List.take x37 x38) x55 x56 x57 x58 ((List.take x52 (List.drop x51 x54))++x36)).bind fun r63=>match r63 with
         |(x59,x60,x61,x62) =>
           nm (((List.take x57 (List.drop x56 ((List.take x52 (List.drop x51 x54))++x36)))++(List.take x37 x38)):List Int) fun x63 =>
           some (x59,x60,x61,x62,x63):Option ((List Int)×Nat×Nat×Int×(List Int)))).bind fun r1_0_49=>match r1_0_49 with
     |(x45,x46,x47,x48,x49) =>
       (M6 x45 x46 x47 x48 x49).bind fun x64 =>
        (P4 x35 92).bind fun x65 =>
         (Bb (List.length (List.replicate 64 (0:Int))) 32 x65 x64).bind fun x66 =>
          some x66
def Yb (x68:List Int) (x69:Nat) (x70:List Int) (x71:Nat) (x72:List Int) (x73:List Int):Option ((List Int)) :=
 (Le).bind fun x74 =>
  (P4 x68 54).bind fun x75 =>
   (K2 (List.take (List.length (List.replicate 64 (0:Int))) x75) x74 0).bind fun r101=>match r101 with
   |(x76,x77,x78,x79) =>
     (((t7 (List.take x69 x72) x76 x77 x78 x79 (List.take (List.length (List.replicate 64 (0:Int))) x75)).bind fun r98=>match r98 with
     |(x85,x86,x87,x88) =>
       nm (((List.take x78 (List.drop x77 (List.take (List.length (List.replicate 64 (0:Int))) x75)))++(List.take x69 x72)):List Int) fun x89 =>
       (t7 x70 x85 x86 x87 x88 x89).bind fun r98=>match r98 with
       |(x90,x91,x92,x93) =>
         (t7 (List.take x71 x73) x90 x91 x92 x93 ((List.take x87 (List.drop x86 x89))++x70)).bind fun r98=>match r98 with
         |(x94,x95,x96,x97) =>
           nm (((List.take x92 (List.drop x91 ((List.take x87 (List.drop x86 x89))++x70)))++(List.take x71 x73)):List Int) fun x98 =>
           some (x94,x95,x96,x97,x98):Option ((List Int)×Nat×Nat×Int×(List Int)))).bind fun r1_0_84=>match r1_0_84 with
     |(x80,x81,x82,x83,x84) =>
       (M6 x80 x81 x82 x83 x84).bind fun x99 =>
        (P4 x68 92).bind fun x100 =>
         (Bb (List.length (List.replicate 64 (0:Int))) 32 x100 x99).bind fun x101 =>
          some x101
def U8 (x32:List Int) (x33:List Int) (x34:Int):Nat->Int->(List Int)->(List Int)->Option (((Nat×(List Int))⊕Nat))
 |0,_,_,_=>none
 |n1+1,x36,x37,x38 =>
  cond (decide (((List.length x38):Int)<x34))
   ((Yb x32 32 x33 (List.length [(IntKind.wrap .u8 (x36+1))]) x37 [(IntKind.wrap .u8 (x36+1))]).bind fun x39 =>
    if (((List.length x38):Int)+(List.length (List.take 32 x39)))*1≤140737488355328 then
     U8 x32 x33 x34 n1 (IntKind.wrap .u8 (x36+1)) x39 (x38++(List.take 32 x39))
    else none)
   (if x34≤((List.length x38):Int) then
    if (0:Int)≤x34 then
     some (Sum.inl ((Int.toNat (x34-0)),x38))
    else none
   else none)
def G5 (x32:List Int) (x33:List Int) (x34:Int):Option (((Nat×(List Int))⊕Nat)) :=
 cond (decide (x34<0))
  (some (Sum.inr 1))
  (cond (decide (x34>8160))
   (some (Sum.inr 1))
   (cond (decide ((List.length x33:Int)>65536))
    (some (Sum.inr 3))
    (cond (decide (0<x34))
     ((Im x32 x33 (List.length [1]) [1]).bind fun x35 =>
      if ((List.length (List.take 32 x35)):Int)*1≤140737488355328 then
       U8 x32 x33 x34 f9 1 x35 (List.take 32 x35)
      else none)
     (if x34≤0 then
      if (0:Int)≤x34 then
       some (Sum.inl ((List.length ([]:List Int)),([]:List Int)))
      else none
     else none))))
def Fp (x13:List Int) (x14:List UInt8) (x15:List (List Int)):Option ((List Int)) :=
 if ((List.length [0,32,72,80,75,69,45,118,49,75,69,77,0,32]:Int)+List.length x14≤9223372036854775807) then
  nm (([0,32,72,80,75,69,45,118,49,75,69,77,0,32]++x14):List UInt8) fun x16 =>
  (A9 x15).bind fun r23=>match r23 with
  |(x17,x18) =>
    if (((List.length (List.map (fun q:UInt8=>(q.toNat:Int)) x16)):Int)+(List.length (List.take x17 x18)))*1≤140737488355328 then
     nm (((List.map (fun q:UInt8=>(q.toNat:Int)) x16)++(List.take x17 x18)):List Int) fun x19 =>
     (G5 (List.take 32 x13) x19 32).bind fun r23=>match r23 with
     |(Sum.inl (x20,x21)) =>
       nm ((T9 (List.replicate 32 (0:Int)) 0 (List.take 32 (List.take x20 x21))):List Int) fun x22 =>
       some x22
     |(Sum.inr x23) =>
       some (List.replicate 32 (0:Int))
    else none
 else none
def En (x28:List Int):Option ((List Int)) :=
 nm ((List.getD (List.set x28 0 (bits .u8 .and (List.getD x28 0 0) 248)) 31 0):Int) fun x29 =>
 nm ((List.set (List.set x28 0 (bits .u8 .and (List.getD x28 0 0) 248)) 31 (bits .u8 .and x29 127)):List Int) fun x30 =>
 some (List.set x30 31 (bits .u8 .or (List.getD x30 31 0) 64))
def S5 (x32:List Int):Nat->Int->(List Int)->Option ((List Int))
 |0,_,_=>none
 |n1+1,x34,x35 =>
  cond (decide (x34<255))
   (if (0:Int)≤(IntKind.wrap .i64 (Int.tdiv x34 26))/\(IntKind.wrap .i64 (Int.tdiv x34 26))<10 then
    nm ((List.getD x35 (Int.toNat (IntKind.wrap .i64 (Int.tdiv x34 26))) 0):Int) fun x36 =>
    if (0:Int)≤(IntKind.wrap .i64 (Int.tdiv x34 8))/\(IntKind.wrap .i64 (Int.tdiv x34 8))<32 then
     nm ((List.getD x32 (Int.toNat (IntKind.wrap .i64 (Int.tdiv x34 8))) 0):Int) fun x37 =>
     if (0:Int)≤(Int.tmod x34 8) then
      nm ((Int.fdiv x37 (2^(min (Int.toNat (Int.tmod x34 8)) (IntKind.bits .u8)))):Int) fun x38 =>
      if (0:Int)≤(Int.tmod x34 26) then
       nm ((IntKind.wrap .u64 ((IntKind.wrap .u64 (bits .u8 .and x38 1))*2^(min (Int.toNat (Int.tmod x34 26)) (IntKind.bits .u64)))):Int) fun x39 =>
       if (0:Int)≤(IntKind.wrap .i64 (Int.tdiv x34 26))/\(IntKind.wrap .i64 (Int.tdiv x34 26))<10 then
        nm ((List.set x35 (Int.toNat (IntKind.wrap .i64 (Int.tdiv x34 26))) (bits .u64 .or x36 x39)):List Int) fun x40 =>
        S5 x32 n1 (IntKind.wrap .i64 (x34+1)) x40
       else none
      else none
     else none
    else none
   else none)
   (some x35)
def Oo (x32:List Int):Option e9 :=
 ((S5 x32 f9 0 (List.replicate 10 (0:Int)):Option ((List Int)))).bind fun x33 =>
  some ({ fn:=x33 }:e9)
def Q2:Nat->Int->Int->(List Int)->Option (Int×(List Int))
 |0,_,_,_=>none
 |n2+1,x55,x56,x57 =>
  cond (decide (x56<10))
   (if (0:Int)≤x56/\x56<10 then
    nm ((IntKind.wrap .u64 ((List.getD x57 (Int.toNat x56) 0)+x55)):Int) fun x58 =>
    if (0:Int)≤x56/\x56<10 then
     if (0:Int)≤x56/\x56<10 then
      nm ((List.getD (List.set x57 (Int.toNat x56) x58) (Int.toNat x56) 0):Int) fun x59 =>
      if (0:Int)≤x56/\x56<10 then
       nm ((List.getD (List.set x57 (Int.toNat x56) x58) (Int.toNat x56) 0):Int) fun x60 =>
       if (0:Int)≤x56/\x56<10 then
        nm ((List.set (List.set x57 (Int.toNat x56) x58) (Int.toNat x56) (bits .u64 .and x60 67108863)):List Int) fun x61 =>
        Q2 n2 (Int.fdiv x59 (2^26)) (IntKind.wrap .i64 (x56+1)) x61
       else none
      else none
     else none
    else none
   else none)
   (some (x55,x57))
def Q3:Nat->Int->(List Int)->Option ((List Int))
 |0,_,_=>none
 |n1+1,x51,x52 =>
  cond (decide (x51<3))
   (((Q2 f9 0 0 x52:Option (Int×(List Int)))).bind fun r2_0_54=>match r2_0_54 with
   |(x53,x54) =>
     nm ((IntKind.wrap .u64 ((List.getD x54 0 0)+(IntKind.wrap .u64 (608*x53)))):Int) fun x62 =>
     Q3 n1 (IntKind.wrap .i64 (x51+1)) (List.set x54 0 x62))
   (some x52)
def F3 (x49:e9):Option e9 :=
 ((Q3 f9 0 x49.fn:Option ((List Int)))).bind fun x50 =>
  some ({ fn:=x50 }:e9)
def L0 (x46:e9):Nat->Int->(List Int)->Option ((List Int))
 |0,_,_=>none
 |n1+1,x48,x49 =>
  cond (decide (x48<10))
   (if (0:Int)≤x48/\x48<10 then
    if (0:Int)≤x48/\x48<10 then
     if (0:Int)≤x48/\x48<10 then
      nm ((IntKind.wrap .u64 ((List.getD E8 (Int.toNat x48) 0)-(List.getD x46.fn (Int.toNat x48) 0))):Int) fun x50 =>
      nm ((IntKind.wrap .u64 ((List.getD x49 (Int.toNat x48) 0)+x50)):Int) fun x51 =>
      if (0:Int)≤x48/\x48<10 then
       L0 x46 n1 (IntKind.wrap .i64 (x48+1)) (List.set x49 (Int.toNat x48) x51)
      else none
     else none
    else none
   else none)
   (some x49)
def G8 (x45:e9) (x46:e9):Option e9 :=
 ((L0 x46 f9 0 x45.fn:Option ((List Int)))).bind fun x47 =>
  (F3 ({ fn:=x47 }:e9)).bind fun x52 =>
   some x52
def Eo (x43:Int):Nat->Int->(List Int)->Option ((List Int))
 |0,_,_=>none
 |n1+1,x45,x46 =>
  cond (decide (x45<3))
   (if (0:Int)≤(IntKind.wrap .i64 (26*x45)) then
    nm ((Int.fdiv x43 (2^(min (Int.toNat (IntKind.wrap .i64 (26*x45))) (IntKind.bits .u64)))):Int) fun x47 =>
    if (0:Int)≤x45/\x45<10 then
     Eo x43 n1 (IntKind.wrap .i64 (x45+1)) (List.set x46 (Int.toNat x45) (bits .u64 .and x47 67108863))
    else none
   else none)
   (some x46)
def Ak (x42:Int):Option e9 :=
 ((cond (decide (x42<0))
  (some (IntKind.wrap .u64 (0-(IntKind.wrap .u64 x42))))
  (some (IntKind.wrap .u64 x42)):Option Int)).bind fun x43 =>
  ((Eo x43 f9 0 (List.replicate 10 (0:Int)):Option ((List Int)))).bind fun x44 =>
   cond (decide (x42<0))
    ((G8 ({ fn:=(List.replicate 10 (0:Int)) }:e9) ({ fn:=x44 }:e9)).bind fun x48 =>
     some x48)
    (some ({ fn:=x44 }:e9))
def P5 (x57:Bool) (x58:Int) (x59:Int):Option Int :=
 ((cond x57
  (some 18446744073709551615)
  (some 0):Option Int)).bind fun x60 =>
  nm ((bits .u64 .or (bits .u64 .and x58 x60) (bits .u64 .andNot x59 x60)):Int) fun x61 =>
  some x61
def N7 (x54:Bool) (x56:e9):Nat->Int->(List Int)->Option ((List Int))
 |0,_,_=>none
 |n1+1,x58,x59 =>
  cond (decide (x58<10))
   (if (0:Int)≤x58/\x58<10 then
    if (0:Int)≤x58/\x58<10 then
     (P5 x54 (List.getD x59 (Int.toNat x58) 0) (List.getD x56.fn (Int.toNat x58) 0)).bind fun x60 =>
      if (0:Int)≤x58/\x58<10 then
       N7 x54 x56 n1 (IntKind.wrap .i64 (x58+1)) (List.set x59 (Int.toNat x58) x60)
      else none
    else none
   else none)
   (some x59)
def S6 (x54:Bool) (x55:e9) (x56:e9):Option e9 :=
 ((N7 x54 x56 f9 0 x55.fn:Option ((List Int)))).bind fun x57 =>
  some ({ fn:=x57 }:e9)
def B8 (x52:r8) (x53:Bool):Option r8 :=
 (S6 x53 x52.fx3 x52.fx2).bind fun x54 =>
  (S6 x53 x52.fz3 x52.fz2).bind fun x55 =>
   (S6 x53 x52.fx2 x52.fx3).bind fun x56 =>
    (S6 x53 x52.fz2 x52.fz3).bind fun x57 =>
     some ({ fx2:=x54,fz2:=x55,fx3:=x56,fz3:=x57 }:r8)
def L1 (x62:e9):Nat->Int->(List Int)->Option ((List Int))
 |0,_,_=>none
 |n1+1,x64,x65 =>
  cond (decide (x64<10))
   (if (0:Int)≤x64/\x64<10 then
    if (0:Int)≤x64/\x64<10 then
     nm ((IntKind.wrap .u64 ((List.getD x65 (Int.toNat x64) 0)+(List.getD x62.fn (Int.toNat x64) 0))):Int) fun x66 =>
     if (0:Int)≤x64/\x64<10 then
      L1 x62 n1 (IntKind.wrap .i64 (x64+1)) (List.set x65 (Int.toNat x64) x66)
     else none
    else none
   else none)
   (some x65)
def K4 (x61:e9) (x62:e9):Option e9 :=
 ((L1 x62 f9 0 x61.fn:Option ((List Int)))).bind fun x63 =>
  (F3 ({ fn:=x63 }:e9)).bind fun x67 =>
   some x67
def T6 (x71:e9) (x72:e9) (x74:Int):Nat->Int->(List Int)->Option ((List Int))
 |0,_,_=>none
 |n2+1,x77,x78 =>
  cond (decide (x77<10))
   (if (0:Int)≤x77/\x77<10 then
    if (0:Int)≤(IntKind.wrap .i64 (x74+x77))/\(IntKind.wrap .i64 (x74+x77))<20 then
     nm ((List.getD x78 (Int.toNat (IntKind.wrap .i64 (x74+x77))) 0):Int) fun x79 =>
     nm ((IntKind.wrap .u64 ((List.getD x71.fn (Int.toNat x74) 0)*(List.getD x72.fn (Int.toNat x77) 0))):Int) fun x80 =>
     if (0:Int)≤(IntKind.wrap .i64 (x74+x77))/\(IntKind.wrap .i64 (x74+x77))<20 then
      nm ((List.set x78 (Int.toNat (IntKind.wrap .i64 (x74+x77))) (IntKind.wrap .u64 (x79+x80))):List Int) fun x81 =>
      T6 x71 x72 x74 n2 (IntKind.wrap .i64 (x77+1)) x81
     else none
    else none
   else none)
   (some x78)
def H7 (x71:e9) (x72:e9):Nat->Int->(List Int)->Option ((List Int))
 |0,_,_=>none
 |n1+1,x74,x75 =>
  cond (decide (x74<10))
   (if (0:Int)≤x74/\x74<10 then
    ((T6 x71 x72 x74 f9 0 x75:Option ((List Int)))).bind fun x76 =>
     H7 x71 x72 n1 (IntKind.wrap .i64 (x74+1)) x76
   else none)
   (some x75)
def H8:Nat->Int->(List Int)->Option ((List Int))
 |0,_,_=>none
 |n3+1,x83,x84 =>
  cond (decide (x83<19))
   (if (0:Int)≤(IntKind.wrap .i64 (x83+1))/\(IntKind.wrap .i64 (x83+1))<20 then
    if (0:Int)≤x83/\x83<20 then
     nm ((IntKind.wrap .u64 ((List.getD x84 (Int.toNat (IntKind.wrap .i64 (x83+1))) 0)+(Int.fdiv (List.getD x84 (Int.toNat x83) 0) (2^26)))):Int) fun x85 =>
     if (0:Int)≤(IntKind.wrap .i64 (x83+1))/\(IntKind.wrap .i64 (x83+1))<20 then
      if (0:Int)≤x83/\x83<20 then
       nm ((List.getD (List.set x84 (Int.toNat (IntKind.wrap .i64 (x83+1))) x85) (Int.toNat x83) 0):Int) fun x86 =>
       if (0:Int)≤x83/\x83<20 then
        nm ((List.set (List.set x84 (Int.toNat (IntKind.wrap .i64 (x83+1))) x85) (Int.toNat x83) (bits .u64 .and x86 67108863)):List Int) fun x87 =>
        H8 n3 (IntKind.wrap .i64 (x83+1)) x87
       else none
      else none
     else none
    else none
   else none)
   (some x84)
def H9 (x82:List Int):Nat->Int->(List Int)->Option ((List Int))
 |0,_,_=>none
 |n4+1,x89,x90 =>
  cond (decide (x89<10))
   (if (0:Int)≤x89/\x89<20 then
    if (0:Int)≤(IntKind.wrap .i64 (10+x89))/\(IntKind.wrap .i64 (10+x89))<20 then
     nm ((IntKind.wrap .u64 (608*(List.getD x82 (Int.toNat (IntKind.wrap .i64 (10+x89))) 0))):Int) fun x91 =>
     nm ((IntKind.wrap .u64 ((List.getD x82 (Int.toNat x89) 0)+x91)):Int) fun x92 =>
     if (0:Int)≤x89/\x89<10 then
      H9 x82 n4 (IntKind.wrap .i64 (x89+1)) (List.set x90 (Int.toNat x89) x92)
     else none
    else none
   else none)
   (some x90)
def m9 (x71:e9) (x72:e9):Option e9 :=
 ((H7 x71 x72 f9 0 (List.replicate 20 (0:Int)):Option ((List Int)))).bind fun x73 =>
  ((H8 f9 0 x73:Option ((List Int)))).bind fun x82 =>
   ((H9 x82 f9 0 (List.replicate 10 (0:Int)):Option ((List Int)))).bind fun x88 =>
    (F3 ({ fn:=x88 }:e9)).bind fun x93 =>
     some x93
def t6 (x70:e9):Option e9 :=
 (m9 x70 x70).bind fun x71 =>
  some x71
def O3 (x59:r8) (x60:e9):Option r8 :=
 (K4 x59.fx2 x59.fz2).bind fun x61 =>
  (G8 x59.fx2 x59.fz2).bind fun x62 =>
   (t6 x61).bind fun x63 =>
    (t6 x62).bind fun x64 =>
     (G8 x63 x64).bind fun x65 =>
      (G8 x59.fx3 x59.fz3).bind fun x66 =>
       (m9 x66 x61).bind fun x67 =>
        (K4 x59.fx3 x59.fz3).bind fun x68 =>
         (m9 x68 x62).bind fun x69 =>
          (m9 x63 x64).bind fun x70 =>
           (Ak 121665).bind fun x71 =>
            (m9 x65 x71).bind fun x72 =>
             (K4 x63 x72).bind fun x73 =>
              (m9 x65 x73).bind fun x74 =>
               (K4 x67 x69).bind fun x75 =>
                (t6 x75).bind fun x76 =>
                 (G8 x67 x69).bind fun x77 =>
                  (t6 x77).bind fun x78 =>
                   (m9 x78 x60).bind fun x79 =>
                    some ({ fx2:=x70,fz2:=x74,fx3:=x76,fz3:=x79 }:r8)
def C1:Nat->Int->e9->Option e9
 |0,_,_=>none
 |n1+1,x95,x96 =>
  cond (decide (x95>0))
   ((t6 x96).bind fun x97 =>
    C1 n1 (IntKind.wrap .i64 (x95-1)) x97)
   (some x96)
def t8 (x92:e9) (x93:Int):Option e9 :=
 cond (decide (x93>0))
  ((t6 x92).bind fun x94 =>
   C1 f9 (IntKind.wrap .i64 (x93-1)) x94)
  (some x92)
def Bc (x90:e9):Option (e9×e9) :=
 (t6 x90).bind fun x91 =>
  (t8 x91 2).bind fun x92 =>
   (m9 x92 x90).bind fun x93 =>
    (m9 x93 x91).bind fun x94 =>
     (t6 x94).bind fun x95 =>
      (m9 x95 x93).bind fun x96 =>
       (t8 x96 5).bind fun x97 =>
        (m9 x97 x96).bind fun x98 =>
         (t8 x98 10).bind fun x99 =>
          (m9 x99 x98).bind fun x100 =>
           (t8 x100 20).bind fun x101 =>
            (m9 x101 x100).bind fun x102 =>
             (t8 x102 10).bind fun x103 =>
              (m9 x103 x98).bind fun x104 =>
               (t8 x104 50).bind fun x105 =>
                (m9 x105 x104).bind fun x106 =>
                 (t8 x106 100).bind fun x107 =>
                  (m9 x107 x106).bind fun x108 =>
                   (t8 x108 50).bind fun x109 =>
                    (m9 x109 x104).bind fun x110 =>
                     some (x110,x94)
def R7 (x89:e9):Option e9 :=
 (Bc x89).bind fun r93=>match r93 with
 |(x90,x91) =>
   (t8 x90 5).bind fun x92 =>
    (m9 x92 x91).bind fun x93 =>
     some x93
def K5:Nat->Int->(List Int)->Option ((List Int))
 |0,_,_=>none
 |n1+1,x105,x106 =>
  cond (decide (x105<9))
   (if (0:Int)≤(IntKind.wrap .i64 (x105+1))/\(IntKind.wrap .i64 (x105+1))<10 then
    nm ((List.getD x106 (Int.toNat (IntKind.wrap .i64 (x105+1))) 0):Int) fun x107 =>
    if (0:Int)≤x105/\x105<10 then
     nm ((IntKind.wrap .u64 (x107+(Int.fdiv (List.getD x106 (Int.toNat x105) 0) (2^26)))):Int) fun x108 =>
     if (0:Int)≤(IntKind.wrap .i64 (x105+1))/\(IntKind.wrap .i64 (x105+1))<10 then
      nm ((List.set x106 (Int.toNat (IntKind.wrap .i64 (x105+1))) x108):List Int) fun x109 =>
      if (0:Int)≤x105/\x105<10 then
       nm ((bits .u64 .and (List.getD x109 (Int.toNat x105) 0) 67108863):Int) fun x110 =>
       if (0:Int)≤x105/\x105<10 then
        K5 n1 (IntKind.wrap .i64 (x105+1)) (List.set x109 (Int.toNat x105) x110)
       else none
      else none
     else none
    else none
   else none)
   (some x106)
def L5 (x100:e9):Option e9 :=
 nm ((List.set x100.fn 9 (bits .u64 .and (List.getD x100.fn 9 0) 2097151)):List Int) fun x101 =>
 nm ((IntKind.wrap .u64 (19*(Int.fdiv (List.getD x100.fn 9 0) (2^21)))):Int) fun x102 =>
 nm ((List.set x101 0 (IntKind.wrap .u64 ((List.getD x101 0 0)+x102))):List Int) fun x103 =>
 ((K5 f9 0 x103:Option ((List Int)))).bind fun x104 =>
  some ({ fn:=x104 }:e9)
def M3:Nat->Int->(List Int)->Option ((List Int))
 |0,_,_=>none
 |n1+1,x103,x104 =>
  cond (decide (x103<9))
   (if (0:Int)≤(IntKind.wrap .i64 (x103+1))/\(IntKind.wrap .i64 (x103+1))<10 then
    nm ((List.getD x104 (Int.toNat (IntKind.wrap .i64 (x103+1))) 0):Int) fun x105 =>
    if (0:Int)≤x103/\x103<10 then
     nm ((IntKind.wrap .u64 (x105+(Int.fdiv (List.getD x104 (Int.toNat x103) 0) (2^26)))):Int) fun x106 =>
     if (0:Int)≤(IntKind.wrap .i64 (x103+1))/\(IntKind.wrap .i64 (x103+1))<10 then
      nm ((List.set x104 (Int.toNat (IntKind.wrap .i64 (x103+1))) x106):List Int) fun x107 =>
      if (0:Int)≤x103/\x103<10 then
       nm ((bits .u64 .and (List.getD x107 (Int.toNat x103) 0) 67108863):Int) fun x108 =>
       if (0:Int)≤x103/\x103<10 then
        M3 n1 (IntKind.wrap .i64 (x103+1)) (List.set x107 (Int.toNat x103) x108)
       else none
      else none
     else none
    else none
   else none)
   (some x104)
def U9 (x97:e9):Option e9 :=
 (F3 x97).bind fun x98 =>
  (L5 x98).bind fun x99 =>
   (L5 x99).bind fun x100 =>
    nm ((List.set x100.fn 0 (IntKind.wrap .u64 ((List.getD x100.fn 0 0)+19))):List Int) fun x101 =>
    ((M3 f9 0 x101:Option ((List Int)))).bind fun x102 =>
     nm ((List.set x102 9 (bits .u64 .and (List.getD x102 9 0) 2097151)):List Int) fun x109 =>
     (S6 (!((Int.fdiv (List.getD x102 9 0) (2^21))==0)) ({ fn:=x109 }:e9) x100).bind fun x110 =>
      some x110
def I0 (x97:e9):Nat->Int->(List Int)->Option ((List Int))
 |0,_,_=>none
 |n1+1,x99,x100 =>
  cond (decide (x99<255))
   (if (0:Int)≤(IntKind.wrap .i64 (Int.tdiv x99 8))/\(IntKind.wrap .i64 (Int.tdiv x99 8))<32 then
    nm ((List.getD x100 (Int.toNat (IntKind.wrap .i64 (Int.tdiv x99 8))) 0):Int) fun x101 =>
    if (0:Int)≤(IntKind.wrap .i64 (Int.tdiv x99 26))/\(IntKind.wrap .i64 (Int.tdiv x99 26))<10 then
     nm ((List.getD x97.fn (Int.toNat (IntKind.wrap .i64 (Int.tdiv x99 26))) 0):Int) fun x102 =>
     if (0:Int)≤(Int.tmod x99 26) then
      nm ((Int.fdiv x102 (2^(min (Int.toNat (Int.tmod x99 26)) (IntKind.bits .u64)))):Int) fun x103 =>
      if (0:Int)≤(Int.tmod x99 8) then
       nm ((IntKind.wrap .u8 ((IntKind.wrap .u8 (bits .u64 .and x103 1))*2^(min (Int.toNat (Int.tmod x99 8)) (IntKind.bits .u8)))):Int) fun x104 =>
       if (0:Int)≤(IntKind.wrap .i64 (Int.tdiv x99 8))/\(IntKind.wrap .i64 (Int.tdiv x99 8))<32 then
        nm ((List.set x100 (Int.toNat (IntKind.wrap .i64 (Int.tdiv x99 8))) (bits .u8 .or x101 x104)):List Int) fun x105 =>
        I0 x97 n1 (IntKind.wrap .i64 (x99+1)) x105
       else none
      else none
     else none
    else none
   else none)
   (some x100)
def V0 (x96:e9):Option ((List Int)) :=
 (U9 x96).bind fun x97 =>
  ((I0 x97 f9 0 (List.replicate 32 (0:Int)):Option ((List Int)))).bind fun x98 =>
   some x98
def P6 (x28:List Int) (x29:e9):Nat->Int->r8->Option ((List Int))
 |0,_,_=>none
 |n1+1,x36,x37 =>
  cond (decide (x36≥0))
   (if (0:Int)≤(IntKind.wrap .i64 (Int.tdiv x36 8))/\(IntKind.wrap .i64 (Int.tdiv x36 8))<32 then
    nm ((List.getD x28 (Int.toNat (IntKind.wrap .i64 (Int.tdiv x36 8))) 0):Int) fun x38 =>
    if (0:Int)≤(Int.tmod x36 8) then
     nm ((Int.fdiv x38 (2^(min (Int.toNat (Int.tmod x36 8)) (IntKind.bits .u8)))):Int) fun x39 =>
     (B8 x37 ((bits .u8 .and x39 1)==1)).bind fun x40 =>
      (O3 x40 x29).bind fun x41 =>
       (B8 x41 ((bits .u8 .and x39 1)==1)).bind fun x42 =>
        P6 x28 x29 n1 (IntKind.wrap .i64 (x36-1)) x42
    else none
   else none)
   ((R7 x37.fz2).bind fun x43 =>
    (m9 x37.fx2 x43).bind fun x44 =>
     (V0 x44).bind fun x45 =>
      some x45)
def Dd (x26:List Int) (x27:List Int):Option ((List Int)) :=
 (En x26).bind fun x28 =>
  (Oo x27).bind fun x29 =>
   (Ak 1).bind fun x30 =>
    (Ak 1).bind fun x31 =>
     nm (((bits .u8 .and (Int.fdiv (List.getD x28 31 0) (2^6)) 1)==1):Bool) fun x32 =>
     (B8 ({ fx2:=x30,fz2:=({ fn:=(List.replicate 10 (0:Int)) }:e9),fx3:=x29,fz3:=x31 }:r8) x32).bind fun x33 =>
      (O3 x33 x29).bind fun x34 =>
       (B8 x34 x32).bind fun x35 =>
        P6 x28 x29 f9 253 x35
def Al (x25:List Int):Option ((List Int)) :=
 (Dd x25 (List.set (List.replicate 32 (0:Int)) 0 9)).bind fun x26 =>
  some x26
def Jy (x4:Nat) (x5:List Int):Option ((List Int)×(List Int)) :=
 (Gt [100,107,112,95,112,114,107] x4 x5).bind fun x6 =>
  (Fp x6 [115,107] ([]:List (List Int))).bind fun x7 =>
   (Al x7).bind fun x8 =>
    some (x7,x8)
def N8 (x25:List Int):Nat->Int->Int->Option Int
 |0,_,_=>none
 |n1+1,x27,x28 =>
  cond (decide (x28<(List.length x25:Int)))
   (if (0:Int)≤x28/\x28<(List.length x25:Int) then
    N8 x25 n1 (bits .u8 .or x27 (List.getD x25 (Int.toNat x28) 0)) (IntKind.wrap .i64 (x28+1))
   else none)
   (some x27)
def Jz (x25:List Int):Option Bool :=
 ((N8 x25 f9 0 0:Option Int)).bind fun x26 =>
  some (x26==0)
def N9 (x22:List Int) (x23:List Int):Option ((((List Int))⊕Unit)) :=
 (Dd x22 x23).bind fun x24 =>
  (Jz (List.take 32 x24)).bind fun x25 =>
   cond x25
    (some (Sum.inr ()))
    (some (Sum.inl x24))
def D2 (x34:Nat) (x35:List Int):Option ((List Int)) :=
 ((cond (decide ((IntKind.wrap .i64 (0+(x34:Int)))<0))
  (none)
  (some ()):Option Unit)).bind fun _ =>
  (q7 (IntKind.wrap .i64 (0+(x34:Int)))).bind fun r37=>match r37 with
  |(x36,x37) =>
    ((if ((x36:Int)+(List.length (List.take x34 x35)))*1≤140737488355328 then
     if x36≤(List.length x37) then
      some ()
     else none
    else none:Option Unit)).bind fun _ =>
     some ((List.take x36 x37)++(List.take x34 x35))
def Bw (x30:List UInt8) (x31:Nat) (x32:List Int):Option ((List Int)) :=
 if ((List.length [72,80,75,69,45,118,49,75,69,77,0,32]:Int)+List.length x30≤9223372036854775807) then
  nm ((List.map (fun q:UInt8=>(q.toNat:Int)) ([72,80,75,69,45,118,49,75,69,77,0,32]++x30)):List Int) fun x33 =>
  (D2 x31 x32).bind fun x34 =>
   if (((List.length x33):Int)+(List.length x34))*1≤140737488355328 then
    (z7 ([]:List Int) (x33++x34)).bind fun x35 =>
     some x35
   else none
 else none
def D3 (x44:Nat) (x45:Nat) (x46:List Int) (x47:List Int):Option ((List Int)) :=
 ((cond (decide ((IntKind.wrap .i64 (0+(x44:Int)))<0))
  (none)
  (nm ((IntKind.wrap .i64 ((IntKind.wrap .i64 (0+(x44:Int)))+(x45:Int))):Int) fun x49 =>
  cond (decide (x49<0))
   (none)
   (some x49)):Option Int)).bind fun x48 =>
  (q7 x48).bind fun r53=>match r53 with
  |(x50,x51) =>
    ((if ((x50:Int)+(List.length (List.take x44 x46)))*1≤140737488355328 then
     if x50≤(List.length x51) then
      if (((List.length ((List.take x50 x51)++(List.take x44 x46))):Int)+(List.length (List.take x45 x47)))*1≤140737488355328 then
       nm ((((List.take x50 x51)++(List.take x44 x46))++(List.take x45 x47)):List Int) fun x53 =>
       some x53
      else none
     else none
    else none:Option ((List Int)))).bind fun x52 =>
     some x52
def Ep (x37:List Int) (x38:List UInt8) (x39:Nat) (x40:Nat) (x41:List Int) (x42:List Int):Option ((List Int)) :=
 if ((List.length [0,32,72,80,75,69,45,118,49,75,69,77,0,32]:Int)+List.length x38≤9223372036854775807) then
  nm (([0,32,72,80,75,69,45,118,49,75,69,77,0,32]++x38):List UInt8) fun x43 =>
  (D3 x39 x40 x41 x42).bind fun x44 =>
   if (((List.length (List.map (fun q:UInt8=>(q.toNat:Int)) x43)):Int)+(List.length x44))*1≤140737488355328 then
    (G5 (List.take 32 x37) ((List.map (fun q:UInt8=>(q.toNat:Int)) x43)++x44) 32).bind fun r48=>match r48 with
    |(Sum.inl (x45,x46)) =>
      nm ((T9 (List.replicate 32 (0:Int)) 0 (List.take 32 (List.take x45 x46))):List Int) fun x47 =>
      some x47
    |(Sum.inr x48) =>
      some (List.replicate 32 (0:Int))
   else none
 else none
def Am (x27:List Int) (x28:List Int) (x29:List Int):Option ((List Int)) :=
 (Bw [101,97,101,95,112,114,107] 32 x27).bind fun x30 =>
  (Ep x30 [115,104,97,114,101,100,95,115,101,99,114,101,116] 32 32 x28 x29).bind fun x31 =>
   some x31
def Mw (x17:List Int) (x18:Nat) (x19:List Int):Option ((((List Int)×(List Int))⊕Unit)) :=
 (Jy x18 x19).bind fun r23=>match r23 with
 |(x20,x21) =>
   (N9 x20 x17).bind fun r23=>match r23 with
   |(Sum.inl x22) =>
     (Am x22 x21 x17).bind fun x23 =>
      some (Sum.inl (x21,x23))
   |(Sum.inr ()) =>
     some (Sum.inr ())
def X7 (x28:List Int) (x29:List UInt8) (x30:List Int):Option ((List Int)) :=
 if ((List.length [72,80,75,69,45,118,49,72,80,75,69,0,32,0,1,0,3]:Int)+List.length x29≤9223372036854775807) then
  nm (([72,80,75,69,45,118,49,72,80,75,69,0,32,0,1,0,3]++x29):List UInt8) fun x31 =>
  if (((List.length (List.map (fun q:UInt8=>(q.toNat:Int)) x31)):Int)+(List.length x30))*1≤140737488355328 then
   (z7 x28 ((List.map (fun q:UInt8=>(q.toNat:Int)) x31)++x30)).bind fun x32 =>
    some x32
  else none
 else none
def B0 (x35:Nat) (x36:Nat) (x37:Nat) (x38:List Int) (x39:List Int) (x40:List Int):Option ((List Int)) :=
 ((cond (decide ((IntKind.wrap .i64 (0+(x35:Int)))<0))
  (none)
  (nm ((IntKind.wrap .i64 ((IntKind.wrap .i64 (0+(x35:Int)))+(x36:Int))):Int) fun x42 =>
  cond (decide (x42<0))
   (none)
   (cond (decide ((IntKind.wrap .i64 (x42+(x37:Int)))<0))
    (none)
    (some (IntKind.wrap .i64 (x42+(x37:Int)))))):Option Int)).bind fun x41 =>
  (q7 x41).bind fun r46=>match r46 with
  |(x43,x44) =>
    ((if ((x43:Int)+(List.length (List.take x35 x38)))*1≤140737488355328 then
     if x43≤(List.length x44) then
      if (((List.length ((List.take x43 x44)++(List.take x35 x38))):Int)+(List.length (List.take x36 x39)))*1≤140737488355328 then
       nm ((((List.take x43 x44)++(List.take x35 x38))++(List.take x36 x39)):List Int) fun x46 =>
       if (((List.length x46):Int)+(List.length (List.take x37 x40)))*1≤140737488355328 then
        some (x46++(List.take x37 x40))
       else none
      else none
     else none
    else none:Option ((List Int)))).bind fun x45 =>
     some x45
def W2 (x49:List Int) (x50:List UInt8) (x51:List Int) (x52:Int):Option (Nat×(List Int)) :=
 nm ([(IntKind.wrap .u8 (Int.fdiv x52 (2^8))),(IntKind.wrap .u8 x52)]:List Int) fun x53 =>
 if ((List.length [72,80,75,69,45,118,49,72,80,75,69,0,32,0,1,0,3]:Int)+List.length x50≤9223372036854775807) then
  nm (([72,80,75,69,45,118,49,72,80,75,69,0,32,0,1,0,3]++x50):List UInt8) fun x54 =>
  if (((List.length x53):Int)+(List.length (List.map (fun q:UInt8=>(q.toNat:Int)) x54)))*1≤140737488355328 then
   if (((List.length (x53++(List.map (fun q:UInt8=>(q.toNat:Int)) x54))):Int)+(List.length x51))*1≤140737488355328 then
    nm (((x53++(List.map (fun q:UInt8=>(q.toNat:Int)) x54))++x51):List Int) fun x55 =>
    (G5 x49 x55 x52).bind fun r58=>match r58 with
    |(Sum.inl (x56,x57)) =>
      some (x56,x57)
    |(Sum.inr x58) =>
      if (0:Int)≤x52/\x52≤x52/\x52≤9223372036854775807/\x52*1≤140737488355328 then
       some ((List.length (List.replicate (Int.toNat x52) (0:Int))),(List.replicate (Int.toNat x52) (0:Int)))
      else none
   else none
  else none
 else none
def Y8 (x26:List Int) (x27:List Int):Option ((List Int)×Nat×(List Int)) :=
 (X7 ([]:List Int) [112,115,107,95,105,100,95,104,97,115,104] ([]:List Int)).bind fun x28 =>
  (X7 ([]:List Int) [105,110,102,111,95,104,97,115,104] x27).bind fun x29 =>
   (B0 (List.length [0]) 32 32 [0] x28 x29).bind fun x30 =>
    (X7 (List.take 32 x26) [115,101,99,114,101,116] ([]:List Int)).bind fun x31 =>
     (W2 (List.take 32 x31) [107,101,121] x30 32).bind fun r35=>match r35 with
     |(x32,x33) =>
       if 32≤(List.length (List.take x32 x33)) then
        (W2 (List.take 32 x31) [98,97,115,101,95,110,111,110,99,101] x30 12).bind fun r35=>match r35 with
        |(x34,x35) =>
          some ((List.take 32 (List.take x32 x33)),x34,x35)
       else none
def M7 (x47:List Int) (x48:Int):Option Unit :=
 cond (decide (x48<1))
  (none)
  (some ())
def Lf (x58:List Int):Option Int :=
 if (0:Int)<(List.length x58:Int) then
  if (1:Int)<(List.length x58:Int) then
   nm ((IntKind.wrap .u32 ((IntKind.wrap .u32 (List.getD x58 1 0))*2^8)):Int) fun x59 =>
   if (2:Int)<(List.length x58:Int) then
    nm ((IntKind.wrap .u32 ((IntKind.wrap .u32 (List.getD x58 2 0))*2^16)):Int) fun x60 =>
    nm ((bits .u32 .or (bits .u32 .or (IntKind.wrap .u32 (List.getD x58 0 0)) x59) x60):Int) fun x61 =>
    if (3:Int)<(List.length x58:Int) then
     nm ((IntKind.wrap .u32 ((IntKind.wrap .u32 (List.getD x58 3 0))*2^24)):Int) fun x62 =>
     some (bits .u32 .or x61 x62)
    else none
   else none
  else none
 else none
def Cj (x54:List Int):Nat->Int->(List Int)->Option ((List Int))
 |0,_,_=>none
 |n1+1,x59,x60 =>
  cond (decide (x59<8))
   (if (0:Int)≤(IntKind.wrap .i64 (4*x59))/\(IntKind.wrap .i64 (4*x59))≤32 then
    (Lf (List.take (Int.toNat (32-(IntKind.wrap .i64 (4*x59)))) (List.drop (Int.toNat (IntKind.wrap .i64 (4*x59))) x54))).bind fun x61 =>
     if (0:Int)≤(IntKind.wrap .i64 (4+x59))/\(IntKind.wrap .i64 (4+x59))<16 then
      Cj x54 n1 (IntKind.wrap .i64 (x59+1)) (List.set x60 (Int.toNat (IntKind.wrap .i64 (4+x59))) x61)
     else none
   else none)
   (some x60)
def Ck (x56:List Int):Nat->Int->(List Int)->Option ((List Int))
 |0,_,_=>none
 |n2+1,x63,x64 =>
  cond (decide (x63<3))
   (if (0:Int)≤(IntKind.wrap .i64 (4*x63))/\(IntKind.wrap .i64 (4*x63))≤(List.length x56:Int) then
    nm ((List.take (Int.toNat ((List.length x56:Int)-(IntKind.wrap .i64 (4*x63)))) (List.drop (Int.toNat (IntKind.wrap .i64 (4*x63))) x56)):List Int) fun x65 =>
    (Lf x65).bind fun x66 =>
     if (0:Int)≤(IntKind.wrap .i64 (13+x63))/\(IntKind.wrap .i64 (13+x63))<16 then
      nm ((List.set x64 (Int.toNat (IntKind.wrap .i64 (13+x63))) x66):List Int) fun x67 =>
      Ck x56 n2 (IntKind.wrap .i64 (x63+1)) x67
     else none
   else none)
   (some x64)
def Er (x54:List Int) (x55:Int) (x56:List Int):Option ((List Int)) :=
 nm ((List.set (List.set (List.set (List.set (List.replicate 16 (0:Int)) 0 1634760805) 1 857760878) 2 2036477234) 3 1797285236):List Int) fun x57 =>
 ((Cj x54 f9 0 x57:Option ((List Int)))).bind fun x58 =>
  ((Ck x56 f9 0 (List.set x58 12 x55):Option ((List Int)))).bind fun x62 =>
   some x62
def Fq (x79:Int) (x80:Int):Option Int :=
 if (0:Int)≤(Int.tmod (IntKind.wrap .u64 x80) 32) then
  nm ((IntKind.wrap .u32 (x79*2^(min (Int.toNat (Int.tmod (IntKind.wrap .u64 x80) 32)) (IntKind.bits .u32)))):Int) fun x81 =>
  nm ((IntKind.wrap .u64 (32-(Int.tmod (IntKind.wrap .u64 x80) 32))):Int) fun x82 =>
  if (0:Int)≤x82 then
   nm ((Int.fdiv x79 (2^(min (Int.toNat x82) (IntKind.bits .u32)))):Int) fun x83 =>
   some (bits .u32 .or x81 x83)
  else none
 else none
def Ka (x75:Int) (x76:Int) (x77:Int) (x78:Int):Option (Int×Int×Int×Int) :=
 (Fq (bits .u32 .xor x78 (IntKind.wrap .u32 (x75+x76))) 16).bind fun x79 =>
  (Fq (bits .u32 .xor x76 (IntKind.wrap .u32 (x77+x79))) 12).bind fun x80 =>
   nm ((bits .u32 .xor x79 (IntKind.wrap .u32 ((IntKind.wrap .u32 (x75+x76))+x80))):Int) fun x81 =>
   (Fq x81 8).bind fun x82 =>
    nm ((bits .u32 .xor x80 (IntKind.wrap .u32 ((IntKind.wrap .u32 (x77+x79))+x82))):Int) fun x83 =>
    (Fq x83 7).bind fun x84 =>
     some ((IntKind.wrap .u32 ((IntKind.wrap .u32 (x75+x76))+x80)),x84,(IntKind.wrap .u32 ((IntKind.wrap .u32 (x77+x79))+x82)),x82)
def j0 (x71:Int) (x72:Int) (x73:Int) (x74:Int) (x75:List Int):Option ((List Int)) :=
 if (0:Int)≤x71/\x71<16 then
  if (0:Int)≤x72/\x72<16 then
   if (0:Int)≤x73/\x73<16 then
    if (0:Int)≤x74/\x74<16 then
     (Ka (List.getD x75 (Int.toNat x71) 0) (List.getD x75 (Int.toNat x72) 0) (List.getD x75 (Int.toNat x73) 0) (List.getD x75 (Int.toNat x74) 0)).bind fun r81=>match r81 with
     |(x76,x77,x78,x79) =>
       if (0:Int)≤x71/\x71<16 then
        if (0:Int)≤x72/\x72<16 then
         nm ((List.set (List.set x75 (Int.toNat x71) x76) (Int.toNat x72) x77):List Int) fun x80 =>
         if (0:Int)≤x73/\x73<16 then
          if (0:Int)≤x74/\x74<16 then
           nm ((List.set (List.set x80 (Int.toNat x73) x78) (Int.toNat x74) x79):List Int) fun x81 =>
           some x81
          else none
         else none
        else none
       else none
    else none
   else none
  else none
 else none
def E9:Nat->Int->(List Int)->Option ((List Int))
 |0,_,_=>none
 |n1+1,x72,x73 =>
  cond (decide (x72<4))
   ((j0 x72 (IntKind.wrap .i64 (4+x72)) (IntKind.wrap .i64 (8+x72)) (IntKind.wrap .i64 (12+x72)) x73).bind fun x74 =>
    E9 n1 (IntKind.wrap .i64 (x72+1)) x74)
   (some x73)
def F0:Nat->Int->(List Int)->Option ((List Int))
 |0,_,_=>none
 |n2+1,x76,x77 =>
  cond (decide (x76<4))
   (nm ((IntKind.wrap .i64 (4+(Int.tmod (IntKind.wrap .i64 (x76+1)) 4))):Int) fun x78 =>
   nm ((IntKind.wrap .i64 (8+(Int.tmod (IntKind.wrap .i64 (x76+2)) 4))):Int) fun x79 =>
   nm ((IntKind.wrap .i64 (12+(Int.tmod (IntKind.wrap .i64 (x76+3)) 4))):Int) fun x80 =>
   (j0 x76 x78 x79 x80 x77).bind fun x81 =>
    F0 n2 (IntKind.wrap .i64 (x76+1)) x81)
   (some x77)
def D8 (x70:List Int):Option ((List Int)) :=
 ((E9 f9 0 x70:Option ((List Int)))).bind fun x71 =>
  ((F0 f9 0 x71:Option ((List Int)))).bind fun x75 =>
   some x75
def Y7 (x54:List Int) (x57:List Int):Nat->Int->(List Int)->Option ((List Int))
 |0,_,_=>none
 |n2+1,x60,x61 =>
  cond (decide (x60<16))
   (if (0:Int)≤x60/\x60<16 then
    if (0:Int)≤x60/\x60<16 then
     nm ((IntKind.wrap .u32 ((List.getD x57 (Int.toNat x60) 0)+(List.getD x54 (Int.toNat x60) 0))):Int) fun x62 =>
     nm ([(IntKind.wrap .u8 x62),(IntKind.wrap .u8 (Int.fdiv x62 (2^8))),(IntKind.wrap .u8 (Int.fdiv x62 (2^16))),(IntKind.wrap .u8 (Int.fdiv x62 (2^24)))]:List Int) fun x63 =>
     if (((List.length x61):Int)+(List.length x63))*1≤140737488355328 then
      Y7 x54 x57 n2 (IntKind.wrap .i64 (x60+1)) (x61++x63)
     else none
    else none
   else none)
   (some x61)
def L9 (x54:List Int):Nat->Int->(List Int)->Option ((((List Int))⊕Unit))
 |0,_,_=>none
 |n1+1,x56,x57 =>
  cond (decide (x56<10))
   ((D8 x57).bind fun x58 =>
    L9 x54 n1 (IntKind.wrap .i64 (x56+1)) x58)
   (((Y7 x54 x57 f9 0 ([]:List Int):Option ((List Int)))).bind fun x59 =>
    some (Sum.inl x59))
def G9 (x51:List Int) (x52:Int) (x53:List Int):Option ((((List Int))⊕Unit)) :=
 cond (!((List.length x53:Int)==12))
  (some (Sum.inr ()))
  ((Er x51 x52 x53).bind fun x54 =>
   (D8 x54).bind fun x55 =>
    L9 x54 f9 1 x55)
def X8 (x66:List Int) (x67:List Int):Nat->Int->(List Int)->Option ((List Int))
 |0,_,_=>none
 |n1+1,x69,x70 =>
  cond (decide (x69<((List.length x67):Int)))
   (if (0:Int)≤x69/\x69<((List.length x70):Int) then
    if (0:Int)≤x69/\x69<(List.length x66:Int) then
     nm ((bits .u8 .xor (List.getD x70 (Int.toNat x69) 0) (List.getD x66 (Int.toNat x69) 0)):Int) fun x71 =>
     if (0:Int)≤x69/\x69<((List.length x70):Int) then
      X8 x66 x67 n1 (IntKind.wrap .i64 (x69+1)) (List.set x70 (Int.toNat x69) x71)
     else none
    else none
   else none)
   (some x70)
def Mx (x65:List Int) (x66:List Int):Option ((((List Int))⊕Unit)) :=
 cond (!((List.length x65:Int)==(List.length x66:Int)))
  (some (Sum.inr ()))
  ((u6 x65).bind fun x67 =>
   ((X8 x66 x67 f9 0 x67:Option ((List Int)))).bind fun x68 =>
    some (Sum.inl x68))
def V1 (x43:List Int) (x45:List Int) (x46:List Int):Nat->Int->Int->(List Int)->Option (((Int×(List Int))⊕(Unit⊕(Int×(List Int)))))
 |0,_,_,_=>none
 |n1+1,x55,x56,x57 =>
  cond (decide (x55<(List.length x46:Int)))
   (if (0:Int)≤x55/\x55≤(List.length x46:Int) then
    nm ((List.take (Int.toNat ((List.length x46:Int)-x55)) (List.drop (Int.toNat x55) x46)):List Int) fun x58 =>
    nm ((if (List.length x58:Int)<64 then (List.length x58:Int) else 64):Int) fun x59 =>
    if (0:Int)≤x55/\x55≤(IntKind.wrap .i64 (x55+x59))/\(IntKind.wrap .i64 (x55+x59))≤(IntKind.wrap .i64 (x55+x59)) then
     if (IntKind.wrap .i64 (x55+x59))≤(List.length x46:Int) then
      nm ((List.take (Int.toNat ((IntKind.wrap .i64 (x55+x59))-x55)) (List.drop (Int.toNat x55) x46)):List Int) fun x60 =>
      (G9 x43 x56 x45).bind fun r62=>match r62 with
      |(Sum.inl x61) =>
        if (List.length x60:Int)≤((List.length x61):Int) then
         if (0:Int)≤(List.length x60:Int) then
          (Mx x60 (List.take (Int.toNat ((List.length x60:Int)-0)) x61)).bind fun r62=>match r62 with
          |(Sum.inl x62) =>
            if (((List.length x57):Int)+(List.length x62))*1≤140737488355328 then
             V1 x43 x45 x46 n1 (IntKind.wrap .i64 (x55+64)) (IntKind.wrap .u32 (x56+1)) (x57++x62)
            else none
          |(Sum.inr ()) =>
            some (Sum.inr (Sum.inr (x56,x57)))
         else none
        else none
      |(Sum.inr ()) =>
        some (Sum.inr (Sum.inr (x56,x57)))
     else none
    else none
   else none)
   (some (Sum.inl (x56,x57)))
def De (x43:List Int) (x44:Int) (x45:List Int) (x46:List Int):Option ((((List Int))⊕Nat)) :=
 cond (!((List.length x45:Int)==12))
  (some (Sum.inr 4))
  (cond (decide ((List.length x46:Int)>65536))
   (some (Sum.inr 3))
   ((M7 x46 64).bind fun _ =>
    ((((V1 x43 x45 x46 f9 0 x44 ([]:List Int):Option (((Int×(List Int))⊕(Unit⊕(Int×(List Int))))))).bind fun r2_0_54=>match r2_0_54 with
    |(Sum.inl (x51,x52)) =>
      some (Sum.inl (x51,x52))
    |(Sum.inr (Sum.inl ())) =>
      some (Sum.inr (Sum.inl ()))
    |(Sum.inr (Sum.inr (x53,x54))) =>
      some (Sum.inr (Sum.inr (x53,x54))):Option (((Int×(List Int))⊕(Unit⊕(Int×(List Int))))))).bind fun r1_0_50=>match r1_0_50 with
    |(Sum.inl (x47,x48)) =>
      some (Sum.inl x48)
    |(Sum.inr (Sum.inl ())) =>
      some (Sum.inr 4)
    |(Sum.inr (Sum.inr (x49,x50))) =>
      some (Sum.inr 4)))
def I7 (x71:List Int):Option ((List Int)) :=
 nm ((IntKind.wrap .i64 (16-(Int.tmod (List.length x71:Int) 16))):Int) fun x72 =>
 if (0:Int)≤(Int.tmod x72 16)/\(Int.tmod x72 16)≤(Int.tmod x72 16)/\(Int.tmod x72 16)≤9223372036854775807/\(Int.tmod x72 16)*1≤140737488355328 then
  some (List.replicate (Int.toNat (Int.tmod x72 16)) (0:Int))
 else none
def M0 (x75:List Int):Option (Nat×(List Int)) :=
 (I6 (IntKind.wrap .u64 (List.length x75:Int)) 8).bind fun r76=>match r76 with
 |(Sum.inl x76) =>
   some ((List.length (List.replicate (Int.toNat 8) (0:Int))),x76)
 |(Sum.inr ()) =>
   some ((List.length ([]:List Int)),([]:List Int))
def My (x64:List Int) (x65:List Int) (x66:List Int) (x67:List Int):Option ((((List Int)×Nat×Nat×Nat×Nat×(List Int)×(List Int)×(List Int)×(List Int))⊕((List Int)×Nat×Nat×Nat×Nat×(List Int)×(List Int)×(List Int)×(List Int)))) :=
 (G9 x64 0 x65).bind fun r83=>match r83 with
 |(Sum.inl x68) =>
   nm ((T9 (List.replicate 32 (0:Int)) 0 (List.take 32 (List.take (List.length x68) x68))):List Int) fun x69 =>
   nm ((min (List.length (List.take (List.length x68) x68)) 32:Nat):Int) fun x70 =>
   (I7 x66).bind fun x71 =>
    (I7 x67).bind fun x72 =>
     (M0 x66).bind fun r76=>match r76 with
     |(x73,x74) =>
       (M0 x67).bind fun r76=>match r76 with
       |(x75,x76) =>
         some (Sum.inl (x69,(List.length x71),(List.length x72),x73,x75,x71,x72,x74,x76))
 |(Sum.inr ()) =>
   nm ((T9 (List.replicate 32 (0:Int)) 0 (List.take 32 ([]:List Int))):List Int) fun x77 =>
   (I7 x66).bind fun x78 =>
    (I7 x67).bind fun x79 =>
     (M0 x66).bind fun r83=>match r83 with
     |(x80,x81) =>
       (M0 x67).bind fun r83=>match r83 with
       |(x82,x83) =>
         some (Sum.inr (x77,(List.length x78),(List.length x79),x80,x82,x78,x79,x81,x83))
def Lg (x84:List Int) (x85:List Int) (x86:List Int) (x87:List Int):Option ((((List Int)×Nat×Nat×Nat×Nat×(List Int)×(List Int)×(List Int)×(List Int))⊕((List Int)×Nat×Nat×Nat×Nat×(List Int)×(List Int)×(List Int)×(List Int)))) :=
 (G9 x84 0 x85).bind fun r103=>match r103 with
 |(Sum.inl x88) =>
   nm ((T9 (List.replicate 32 (0:Int)) 0 (List.take 32 (List.take (List.length x88) x88))):List Int) fun x89 =>
   nm ((min (List.length (List.take (List.length x88) x88)) 32:Nat):Int) fun x90 =>
   (I7 x86).bind fun x91 =>
    (I7 x87).bind fun x92 =>
     (M0 x86).bind fun r96=>match r96 with
     |(x93,x94) =>
       (M0 x87).bind fun r96=>match r96 with
       |(x95,x96) =>
         some (Sum.inl (x89,(List.length x91),(List.length x92),x93,x95,x91,x92,x94,x96))
 |(Sum.inr ()) =>
   nm ((T9 (List.replicate 32 (0:Int)) 0 (List.take 32 ([]:List Int))):List Int) fun x97 =>
   (I7 x86).bind fun x98 =>
    (I7 x87).bind fun x99 =>
     (M0 x86).bind fun r103=>match r103 with
     |(x100,x101) =>
       (M0 x87).bind fun r103=>match r103 with
       |(x102,x103) =>
         some (Sum.inr (x97,(List.length x98),(List.length x99),x100,x102,x98,x99,x101,x103))
def Cl (x130:List Int) (x133:Int):Nat->Int->Int->Option Int
 |0,_,_=>none
 |n2+1,x136,x137 =>
  cond (decide (x137≥0))
   (nm ((IntKind.wrap .i64 (Int.tdiv (IntKind.wrap .i64 (26*x133)) 8)):Int) fun x138 =>
   if (0:Int)≤(IntKind.wrap .i64 (x138+x137))/\(IntKind.wrap .i64 (x138+x137))<((List.length (List.replicate 32 (0:Int))):Int) then
    nm ((List.getD x130 (Int.toNat (IntKind.wrap .i64 (x138+x137))) 0):Int) fun x139 =>
    nm ((bits .u64 .or (IntKind.wrap .u64 (x136*2^8)) (IntKind.wrap .u64 x139)):Int) fun x140 =>
    Cl x130 x133 n2 x140 (IntKind.wrap .i64 (x137-1))
   else none)
   (some x136)
def M1 (x130:List Int):Nat->Int->(List Int)->Option ((List Int))
 |0,_,_=>none
 |n1+1,x133,x134 =>
  cond (decide (x133<5))
   (((Cl x130 x133 f9 0 4:Option Int)).bind fun x135 =>
    if (0:Int)≤(Int.tmod (IntKind.wrap .i64 (26*x133)) 8) then
     nm ((Int.fdiv x135 (2^(min (Int.toNat (Int.tmod (IntKind.wrap .i64 (26*x133)) 8)) (IntKind.bits .u64)))):Int) fun x141 =>
     if (0:Int)≤x133/\x133<5 then
      nm ((List.set x134 (Int.toNat x133) (bits .u64 .and x141 67108863)):List Int) fun x142 =>
      M1 x130 n1 (IntKind.wrap .i64 (x133+1)) x142
     else none
    else none)
   (some x134)
def H3 (x129:List Int):Option ((List Int)) :=
 nm ((T9 (List.replicate 32 (0:Int)) 0 (List.take (List.length (List.replicate 32 (0:Int))) x129)):List Int) fun x130 =>
 nm ((min (List.length x129) (List.length (List.replicate 32 (0:Int))):Nat):Int) fun x131 =>
 ((M1 x130 f9 0 (List.replicate 5 (0:Int)):Option ((List Int)))).bind fun x132 =>
  some x132
def X9 (x126:List Int):Nat->Int->(List Int)->Option ((List Int))
 |0,_,_=>none
 |n1+1,x128,x129 =>
  cond (decide (x128<((List.length [3,7,11,15]):Int)))
   (if (0:Int)≤x128/\x128<((List.length [3,7,11,15]):Int) then
    if (0:Int)≤(List.getD [3,7,11,15] (Int.toNat x128) 0)/\(List.getD [3,7,11,15] (Int.toNat x128) 0)<((List.length x126):Int) then
     nm ((List.getD x129 (Int.toNat (List.getD [3,7,11,15] (Int.toNat x128) 0)) 0):Int) fun x130 =>
     if (0:Int)≤(List.getD [3,7,11,15] (Int.toNat x128) 0)/\(List.getD [3,7,11,15] (Int.toNat x128) 0)<((List.length x126):Int) then
      nm ((List.set x129 (Int.toNat (List.getD [3,7,11,15] (Int.toNat x128) 0)) (bits .u8 .and x130 15)):List Int) fun x131 =>
      X9 x126 n1 (IntKind.wrap .i64 (x128+1)) x131
     else none
    else none
   else none)
   (some x129)
def Y0 (x126:List Int):Nat->Int->(List Int)->Option ((List Int))
 |0,_,_=>none
 |n2+1,x133,x134 =>
  cond (decide (x133<((List.length [4,8,12]):Int)))
   (if (0:Int)≤x133/\x133<((List.length [4,8,12]):Int) then
    if (0:Int)≤(List.getD [4,8,12] (Int.toNat x133) 0)/\(List.getD [4,8,12] (Int.toNat x133) 0)<((List.length x126):Int) then
     nm ((List.getD x134 (Int.toNat (List.getD [4,8,12] (Int.toNat x133) 0)) 0):Int) fun x135 =>
     if (0:Int)≤(List.getD [4,8,12] (Int.toNat x133) 0)/\(List.getD [4,8,12] (Int.toNat x133) 0)<((List.length x126):Int) then
      nm ((List.set x134 (Int.toNat (List.getD [4,8,12] (Int.toNat x133) 0)) (bits .u8 .and x135 252)):List Int) fun x136 =>
      Y0 x126 n2 (IntKind.wrap .i64 (x133+1)) x136
     else none
    else none
   else none)
   (some x134)
def I8 (x125:List Int):Option ((List Int)) :=
 (u6 (List.take 16 x125)).bind fun x126 =>
  ((X9 x126 f9 0 x126:Option ((List Int)))).bind fun x127 =>
   ((Y0 x126 f9 0 x127:Option ((List Int)))).bind fun x132 =>
    (H3 (List.take (List.length x126) x132)).bind fun x137 =>
     some x137
def D4 (x139:List Int) (x140:Nat) (x141:Nat) (x142:Nat) (x143:Nat) (x144:Nat) (x145:List Int) (x146:List Int) (x147:List Int) (x148:List Int) (x149:List Int):Option ((List Int)) :=
 ((nm ((decide ((IntKind.wrap .i64 (0+(List.length x139:Int)))<0)):Bool) fun x151 =>
 cond x151
  (none)
  (nm ((IntKind.wrap .i64 ((IntKind.wrap .i64 (0+(List.length x139:Int)))+(x140:Int))):Int) fun x152 =>
  cond (decide (x152<0))
   (none)
   (cond (decide ((IntKind.wrap .i64 (x152+(x141:Int)))<0))
    (none)
    (nm ((IntKind.wrap .i64 ((IntKind.wrap .i64 (x152+(x141:Int)))+(x142:Int))):Int) fun x153 =>
    cond (decide (x153<0))
     (none)
     (cond (decide ((IntKind.wrap .i64 (x153+(x143:Int)))<0))
      (none)
      (nm ((IntKind.wrap .i64 ((IntKind.wrap .i64 (x153+(x143:Int)))+(x144:Int))):Int) fun x154 =>
      cond (decide (x154<0))
       (none)
       (some x154)))))):Option Int)).bind fun x150 =>
  (q7 x150).bind fun r159=>match r159 with
  |(x155,x156) =>
    ((if ((x155:Int)+(List.length x139))*1≤140737488355328 then
     if x155≤(List.length x156) then
      if (((List.length ((List.take x155 x156)++x139)):Int)+(List.length (List.take x140 x145)))*1≤140737488355328 then
       if (((List.length (((List.take x155 x156)++x139)++(List.take x140 x145))):Int)+(List.length (List.take x141 x146)))*1≤140737488355328 then
        nm (((((List.take x155 x156)++x139)++(List.take x140 x145))++(List.take x141 x146)):List Int) fun x158 =>
        if (((List.length x158):Int)+(List.length (List.take x142 x147)))*1≤140737488355328 then
         if (((List.length (x158++(List.take x142 x147))):Int)+(List.length (List.take x143 x148)))*1≤140737488355328 then
          if (((List.length ((x158++(List.take x142 x147))++(List.take x143 x148))):Int)+(List.length (List.take x144 x149)))*1≤140737488355328 then
           nm ((((x158++(List.take x142 x147))++(List.take x143 x148))++(List.take x144 x149)):List Int) fun x159 =>
           some x159
          else none
         else none
        else none
       else none
      else none
     else none
    else none:Option ((List Int)))).bind fun x157 =>
     some x157
def B5 (x161:Int) (x162:List Int):Option Unit :=
 cond (decide (x161<1))
  (none)
  (some ())
def J3:Nat->Int->Int->(List Int)->Option (Int×(List Int))
 |0,_,_,_=>none
 |n2+1,x177,x178,x179 =>
  cond (decide (x178<5))
   (if (0:Int)≤x178/\x178<5 then
    nm ((IntKind.wrap .u64 ((List.getD x179 (Int.toNat x178) 0)+x177)):Int) fun x180 =>
    if (0:Int)≤x178/\x178<5 then
     if (0:Int)≤x178/\x178<5 then
      nm ((List.getD (List.set x179 (Int.toNat x178) x180) (Int.toNat x178) 0):Int) fun x181 =>
      if (0:Int)≤x178/\x178<5 then
       nm ((List.getD (List.set x179 (Int.toNat x178) x180) (Int.toNat x178) 0):Int) fun x182 =>
       if (0:Int)≤x178/\x178<5 then
        nm ((List.set (List.set x179 (Int.toNat x178) x180) (Int.toNat x178) (bits .u64 .and x182 67108863)):List Int) fun x183 =>
        J3 n2 (Int.fdiv x181 (2^26)) (IntKind.wrap .i64 (x178+1)) x183
       else none
      else none
     else none
    else none
   else none)
   (some (x177,x179))
def J4:Nat->Int->(List Int)->Option ((List Int))
 |0,_,_=>none
 |n1+1,x173,x174 =>
  cond (decide (x173<2))
   (((J3 f9 0 0 x174:Option (Int×(List Int)))).bind fun r2_0_176=>match r2_0_176 with
   |(x175,x176) =>
     nm ((IntKind.wrap .u64 ((List.getD x176 0 0)+(IntKind.wrap .u64 (5*x175)))):Int) fun x184 =>
     J4 n1 (IntKind.wrap .i64 (x173+1)) (List.set x176 0 x184))
   (some x174)
def z8 (x171:List Int):Option ((List Int)) :=
 ((J4 f9 0 x171:Option ((List Int)))).bind fun x172 =>
  some x172
def Bd (x167:List Int) (x168:List Int) (x170:Int):Nat->Int->(List Int)->Option ((List Int))
 |0,_,_=>none
 |n2+1,x173,x174 =>
  cond (decide (x173<5))
   (if (0:Int)≤x173/\x173<5 then
    nm ((IntKind.wrap .u64 ((List.getD x167 (Int.toNat x170) 0)*(List.getD x168 (Int.toNat x173) 0))):Int) fun x175 =>
    ((cond (decide ((IntKind.wrap .i64 (x170+x173))≥5))
     (some (IntKind.wrap .u64 (x175*5)))
     (some x175):Option Int)).bind fun x176 =>
     if (0:Int)≤(Int.tmod (IntKind.wrap .i64 (x170+x173)) 5)/\(Int.tmod (IntKind.wrap .i64 (x170+x173)) 5)<5 then
      nm ((List.getD x174 (Int.toNat (Int.tmod (IntKind.wrap .i64 (x170+x173)) 5)) 0):Int) fun x177 =>
      if (0:Int)≤(Int.tmod (IntKind.wrap .i64 (x170+x173)) 5)/\(Int.tmod (IntKind.wrap .i64 (x170+x173)) 5)<5 then
       nm ((List.set x174 (Int.toNat (Int.tmod (IntKind.wrap .i64 (x170+x173)) 5)) (IntKind.wrap .u64 (x177+x176))):List Int) fun x178 =>
       Bd x167 x168 x170 n2 (IntKind.wrap .i64 (x173+1)) x178
      else none
     else none
   else none)
   (some x174)
def V2 (x167:List Int) (x168:List Int):Nat->Int->(List Int)->Option ((List Int))
 |0,_,_=>none
 |n1+1,x170,x171 =>
  cond (decide (x170<5))
   (if (0:Int)≤x170/\x170<5 then
    ((Bd x167 x168 x170 f9 0 x171:Option ((List Int)))).bind fun x172 =>
     V2 x167 x168 n1 (IntKind.wrap .i64 (x170+1)) x172
   else none)
   (some x171)
def S7 (x167:List Int) (x168:List Int):Option ((List Int)) :=
 ((V2 x167 x168 f9 0 (List.replicate 5 (0:Int)):Option ((List Int)))).bind fun x169 =>
  (z8 x169).bind fun x179 =>
   some x179
def C4:Nat->Int->(List Int)->Option ((List Int))
 |0,_,_=>none
 |n1+1,x169,x170 =>
  cond (decide (x169<4))
   (if (0:Int)≤(IntKind.wrap .i64 (x169+1))/\(IntKind.wrap .i64 (x169+1))<5 then
    nm ((List.getD x170 (Int.toNat (IntKind.wrap .i64 (x169+1))) 0):Int) fun x171 =>
    if (0:Int)≤x169/\x169<5 then
     nm ((IntKind.wrap .u64 (x171+(Int.fdiv (List.getD x170 (Int.toNat x169) 0) (2^26)))):Int) fun x172 =>
     if (0:Int)≤(IntKind.wrap .i64 (x169+1))/\(IntKind.wrap .i64 (x169+1))<5 then
      nm ((List.set x170 (Int.toNat (IntKind.wrap .i64 (x169+1))) x172):List Int) fun x173 =>
      if (0:Int)≤x169/\x169<5 then
       nm ((bits .u64 .and (List.getD x173 (Int.toNat x169) 0) 67108863):Int) fun x174 =>
       if (0:Int)≤x169/\x169<5 then
        C4 n1 (IntKind.wrap .i64 (x169+1)) (List.set x173 (Int.toNat x169) x174)
       else none
      else none
     else none
    else none
   else none)
   (some x170)
def A6 (x168:List Int) (x175:List Int):Nat->Int->(List Int)->Option ((List Int))
 |0,_,_=>none
 |n2+1,x177,x178 =>
  cond (decide (x177<5))
   (if (0:Int)≤x177/\x177<5 then
    if (0:Int)≤x177/\x177<5 then
     (P5 (!((Int.fdiv (List.getD x168 4 0) (2^26))==0)) (List.getD x175 (Int.toNat x177) 0) (List.getD x178 (Int.toNat x177) 0)).bind fun x179 =>
      if (0:Int)≤x177/\x177<5 then
       A6 x168 x175 n2 (IntKind.wrap .i64 (x177+1)) (List.set x178 (Int.toNat x177) x179)
      else none
    else none
   else none)
   (some x178)
def z9 (x164:List Int):Option ((List Int)) :=
 (z8 x164).bind fun x165 =>
  (z8 x165).bind fun x166 =>
   nm ((List.set x166 0 (IntKind.wrap .u64 ((List.getD x166 0 0)+5))):List Int) fun x167 =>
   ((C4 f9 0 x167:Option ((List Int)))).bind fun x168 =>
    nm ((List.set x168 4 (bits .u64 .and (List.getD x168 4 0) 67108863)):List Int) fun x175 =>
    ((A6 x168 x175 f9 0 x166:Option ((List Int)))).bind fun x176 =>
     some x176
def C2 (x181:List Int) (x183:Int):Nat->Int->Int->Option Int
 |0,_,_=>none
 |n2+1,x186,x187 =>
  cond (decide (x187<8))
   (nm ((IntKind.wrap .i64 (Int.tdiv (IntKind.wrap .i64 ((IntKind.wrap .i64 (8*x183))+x187)) 26)):Int) fun x188 =>
   if (0:Int)≤x188/\x188<5 then
    nm ((Int.tmod (IntKind.wrap .i64 ((IntKind.wrap .i64 (8*x183))+x187)) 26):Int) fun x189 =>
    if (0:Int)≤x189 then
     nm ((Int.fdiv (List.getD x181 (Int.toNat x188) 0) (2^(min (Int.toNat x189) (IntKind.bits .u64)))):Int) fun x190 =>
     if (0:Int)≤x187 then
      nm ((IntKind.wrap .u64 ((bits .u64 .and x190 1)*2^(min (Int.toNat x187) (IntKind.bits .u64)))):Int) fun x191 =>
      C2 x181 x183 n2 (bits .u64 .or x186 x191) (IntKind.wrap .i64 (x187+1))
     else none
    else none
   else none)
   (some x186)
def y8 (x181:List Int):Nat->Int->(List Int)->Option ((List Int))
 |0,_,_=>none
 |n1+1,x183,x184 =>
  cond (decide (x183<16))
   (((C2 x181 x183 f9 0 0:Option Int)).bind fun x185 =>
    if (0:Int)≤x183/\x183<16 then
     y8 x181 n1 (IntKind.wrap .i64 (x183+1)) (List.set x184 (Int.toNat x183) (IntKind.wrap .u8 x185))
    else none)
   (some x184)
def A2 (x181:List Int):Option ((List Int)) :=
 ((y8 x181 f9 0 (List.replicate 16 (0:Int)):Option ((List Int)))).bind fun x182 =>
  some x182
def H4 (x133:List Int):Nat->Int->(List Int)->Option ((List Int))
 |0,_,_=>none
 |n2+1,x135,x136 =>
  cond (decide (x135<5))
   (if (0:Int)≤x135/\x135<5 then
    if (0:Int)≤x135/\x135<5 then
     nm ((IntKind.wrap .u64 ((List.getD x136 (Int.toNat x135) 0)+(List.getD x133 (Int.toNat x135) 0))):Int) fun x137 =>
     if (0:Int)≤x135/\x135<5 then
      H4 x133 n2 (IntKind.wrap .i64 (x135+1)) (List.set x136 (Int.toNat x135) x137)
     else none
    else none
   else none)
   (some x136)
def C6 (x125:List Int) (x126:List Int):Nat->Int->(List Int)->Option ((List Int))
 |0,_,_=>none
 |n1+1,x129,x130 =>
  cond (decide (x129<((List.length x126):Int)))
   (if (0:Int)≤x129/\x129≤((List.length x126):Int) then
    nm ((if ((Int.toNat (((List.length x126):Int)-x129)):Int)<16 then ((Int.toNat (((List.length x126):Int)-x129)):Int) else 16):Int) fun x131 =>
    if (0:Int)≤x129/\x129≤(IntKind.wrap .i64 (x129+x131))/\(IntKind.wrap .i64 (x129+x131))≤(IntKind.wrap .i64 (x129+x131)) then
     if (IntKind.wrap .i64 (x129+x131))≤((List.length x126):Int) then
      (u6 (List.take (Int.toNat ((IntKind.wrap .i64 (x129+x131))-x129)) (List.drop (Int.toNat x129) x126))).bind fun x132 =>
       if (((List.length x132):Int)+(List.length [1]))*1≤140737488355328 then
        (H3 (x132++[1])).bind fun x133 =>
         ((H4 x133 f9 0 x130:Option ((List Int)))).bind fun x134 =>
          (S7 x134 x125).bind fun x138 =>
           C6 x125 x126 n1 (IntKind.wrap .i64 (x129+16)) x138
       else none
     else none
    else none
   else none)
   (some x130)
def B4 (x113:List Int):Nat->Int->Int->(List Int)->Option ((List Int))
 |0,_,_,_=>none
 |n3+1,x142,x143,x144 =>
  cond (decide (x143<16))
   (if (0:Int)≤x143/\x143<16 then
    if (0:Int)≤(IntKind.wrap .i64 (16+x143))/\(IntKind.wrap .i64 (16+x143))<32 then
     nm ((List.getD x113 (Int.toNat (IntKind.wrap .i64 (16+x143))) 0):Int) fun x145 =>
     nm ((IntKind.wrap .i64 ((IntKind.wrap .i64 (List.getD x144 (Int.toNat x143) 0))+(IntKind.wrap .i64 x145))):Int) fun x146 =>
     if (0:Int)≤x143/\x143<16 then
      nm ((List.set x144 (Int.toNat x143) (IntKind.wrap .u8 (IntKind.wrap .i64 (x142+x146)))):List Int) fun x147 =>
      B4 x113 n3 (Int.fdiv (IntKind.wrap .i64 (x142+x146)) (2^8)) (IntKind.wrap .i64 (x143+1)) x147
     else none
    else none
   else none)
   (some x144)
def Gu (x113:List Int) (x114:List Int) (x115:Nat) (x116:Nat) (x117:Nat) (x118:Nat) (x119:Nat) (x120:List Int) (x121:List Int) (x122:List Int) (x123:List Int) (x124:List Int):Option ((List Int)) :=
 (I8 x113).bind fun x125 =>
  (D4 x114 x115 x116 x117 x118 x119 x120 x121 x122 x123 x124).bind fun x126 =>
   (B5 16 x126).bind fun _ =>
    ((((C6 x125 x126 f9 0 (List.replicate 5 (0:Int)):Option ((List Int)))).bind fun x128 =>
     some x128:Option ((List Int)))).bind fun x127 =>
     (z9 x127).bind fun x139 =>
      (A2 x139).bind fun x140 =>
       ((B4 x113 f9 0 0 x140:Option ((List Int)))).bind fun x141 =>
        some x141
def Be (x39:List Int) (x40:List Int) (x41:List Int) (x42:List Int):Option ((((List Int))⊕Nat)) :=
 cond (!((List.length x40:Int)==12))
  (some (Sum.inr 4))
  (cond (decide ((List.length x41:Int)>16384))
   (some (Sum.inr 3))
   (cond (decide ((List.length x42:Int)>16384))
    (some (Sum.inr 3))
    ((De x39 1 x40 x42).bind fun r63=>match r63 with
    |(Sum.inl x43) =>
      (Lg x39 x40 x41 x43).bind fun r62=>match r62 with
      |(Sum.inl (x44,x45,x46,x47,x48,x49,x50,x51,x52)) =>
        (Gu x44 x41 x45 (List.length x43) x46 x47 x48 x49 x43 x50 x51 x52).bind fun x53 =>
         if (((List.length x43):Int)+(List.length (List.take 16 x53)))*1≤140737488355328 then
          some (Sum.inl (x43++(List.take 16 x53)))
         else none
      |(Sum.inr (x54,x55,x56,x57,x58,x59,x60,x61,x62)) =>
        some (Sum.inr 4)
    |(Sum.inr x63) =>
      some (Sum.inr x63))))
def Io (x17:List Int) (x18:List Int) (x19:List Int) (x20:List Int) (x21:Nat) (x22:List Int):Option ((((List Int))⊕Nat)) :=
 cond (decide ((List.length x18:Int)>16384))
  (some (Sum.inr 3))
  ((Mw x17 x21 x22).bind fun r29=>match r29 with
  |(Sum.inl (x23,x24)) =>
    (Y8 x24 x18).bind fun r29=>match r29 with
    |(x25,x26,x27) =>
      (Be x25 (List.take x26 x27) x19 x20).bind fun r29=>match r29 with
      |(Sum.inl x28) =>
        if ((32:Int)+(List.length x28))*1≤140737488355328 then
         if 32≤(List.length x23) then
          some (Sum.inl ((List.take 32 x23)++x28))
         else none
        else none
      |(Sum.inr x29) =>
        some (Sum.inr x29)
  |(Sum.inr ()) =>
    some (Sum.inr 5))
def Mz (x35:List Int) (x36:List Int):Option ((((List Int))⊕Unit)) :=
 (N9 x35 x36).bind fun r39=>match r39 with
 |(Sum.inl x37) =>
   (Al x35).bind fun x38 =>
    (Am x37 x36 x38).bind fun x39 =>
     some (Sum.inl x39)
 |(Sum.inr ()) =>
   some (Sum.inr ())
def D5 (x86:List Int) (x87:Nat) (x88:List Int) (x89:Nat) (x90:Nat) (x91:Nat) (x92:List Int) (x93:List Int) (x94:List Int) (x95:List Int):Option ((List Int)) :=
 ((nm ((decide ((IntKind.wrap .i64 (0+(List.length x86:Int)))<0)):Bool) fun x97 =>
 cond x97
  (none)
  (nm ((IntKind.wrap .i64 ((IntKind.wrap .i64 (0+(List.length x86:Int)))+(x87:Int))):Int) fun x98 =>
  cond (decide (x98<0))
   (none)
   (nm ((decide ((IntKind.wrap .i64 (x98+(List.length x88:Int)))<0)):Bool) fun x99 =>
   cond x99
    (none)
    (nm ((IntKind.wrap .i64 ((IntKind.wrap .i64 (x98+(List.length x88:Int)))+(x89:Int))):Int) fun x100 =>
    cond (decide (x100<0))
     (none)
     (cond (decide ((IntKind.wrap .i64 (x100+(x90:Int)))<0))
      (none)
      (nm ((IntKind.wrap .i64 ((IntKind.wrap .i64 (x100+(x90:Int)))+(x91:Int))):Int) fun x101 =>
      cond (decide (x101<0))
       (none)
       (some x101)))))):Option Int)).bind fun x96 =>
  (q7 x96).bind fun r106=>match r106 with
  |(x102,x103) =>
    ((if ((x102:Int)+(List.length x86))*1≤140737488355328 then
     if x102≤(List.length x103) then
      if (((List.length ((List.take x102 x103)++x86)):Int)+(List.length (List.take x87 x92)))*1≤140737488355328 then
       if (((List.length (((List.take x102 x103)++x86)++(List.take x87 x92))):Int)+(List.length x88))*1≤140737488355328 then
        nm (((((List.take x102 x103)++x86)++(List.take x87 x92))++x88):List Int) fun x105 =>
        if (((List.length x105):Int)+(List.length (List.take x89 x93)))*1≤140737488355328 then
         if (((List.length (x105++(List.take x89 x93))):Int)+(List.length (List.take x90 x94)))*1≤140737488355328 then
          if (((List.length ((x105++(List.take x89 x93))++(List.take x90 x94))):Int)+(List.length (List.take x91 x95)))*1≤140737488355328 then
           nm ((((x105++(List.take x89 x93))++(List.take x90 x94))++(List.take x91 x95)):List Int) fun x106 =>
           some x106
          else none
         else none
        else none
       else none
      else none
     else none
    else none:Option ((List Int)))).bind fun x104 =>
     some x104
def O4 (x93:List Int):Nat->Int->(List Int)->Option ((List Int))
 |0,_,_=>none
 |n2+1,x95,x96 =>
  cond (decide (x95<5))
   (if (0:Int)≤x95/\x95<5 then
    if (0:Int)≤x95/\x95<5 then
     nm ((IntKind.wrap .u64 ((List.getD x96 (Int.toNat x95) 0)+(List.getD x93 (Int.toNat x95) 0))):Int) fun x97 =>
     if (0:Int)≤x95/\x95<5 then
      O4 x93 n2 (IntKind.wrap .i64 (x95+1)) (List.set x96 (Int.toNat x95) x97)
     else none
    else none
   else none)
   (some x96)
def O5 (x85:List Int) (x86:List Int):Nat->Int->(List Int)->Option ((List Int))
 |0,_,_=>none
 |n1+1,x89,x90 =>
  cond (decide (x89<((List.length x86):Int)))
   (if (0:Int)≤x89/\x89≤((List.length x86):Int) then
    nm ((if ((Int.toNat (((List.length x86):Int)-x89)):Int)<16 then ((Int.toNat (((List.length x86):Int)-x89)):Int) else 16):Int) fun x91 =>
    if (0:Int)≤x89/\x89≤(IntKind.wrap .i64 (x89+x91))/\(IntKind.wrap .i64 (x89+x91))≤(IntKind.wrap .i64 (x89+x91)) then
     if (IntKind.wrap .i64 (x89+x91))≤((List.length x86):Int) then
      (u6 (List.take (Int.toNat ((IntKind.wrap .i64 (x89+x91))-x89)) (List.drop (Int.toNat x89) x86))).bind fun x92 =>
       if (((List.length x92):Int)+(List.length [1]))*1≤140737488355328 then
        (H3 (x92++[1])).bind fun x93 =>
         ((O4 x93 f9 0 x90:Option ((List Int)))).bind fun x94 =>
          (S7 x94 x85).bind fun x98 =>
           O5 x85 x86 n1 (IntKind.wrap .i64 (x89+16)) x98
       else none
     else none
    else none
   else none)
   (some x90)
def O6 (x74:List Int):Nat->Int->Int->(List Int)->Option ((List Int))
 |0,_,_,_=>none
 |n3+1,x102,x103,x104 =>
  cond (decide (x103<16))
   (if (0:Int)≤x103/\x103<16 then
    if (0:Int)≤(IntKind.wrap .i64 (16+x103))/\(IntKind.wrap .i64 (16+x103))<32 then
     nm ((List.getD x74 (Int.toNat (IntKind.wrap .i64 (16+x103))) 0):Int) fun x105 =>
     nm ((IntKind.wrap .i64 ((IntKind.wrap .i64 (List.getD x104 (Int.toNat x103) 0))+(IntKind.wrap .i64 x105))):Int) fun x106 =>
     if (0:Int)≤x103/\x103<16 then
      nm ((List.set x104 (Int.toNat x103) (IntKind.wrap .u8 (IntKind.wrap .i64 (x102+x106)))):List Int) fun x107 =>
      O6 x74 n3 (Int.fdiv (IntKind.wrap .i64 (x102+x106)) (2^8)) (IntKind.wrap .i64 (x103+1)) x107
     else none
    else none
   else none)
   (some x104)
def Bx (x74:List Int) (x75:List Int) (x76:Nat) (x77:List Int) (x78:Nat) (x79:Nat) (x80:Nat) (x81:List Int) (x82:List Int) (x83:List Int) (x84:List Int):Option ((List Int)) :=
 (I8 x74).bind fun x85 =>
  (D5 x75 x76 x77 x78 x79 x80 x81 x82 x83 x84).bind fun x86 =>
   (B5 16 x86).bind fun _ =>
    ((((O5 x85 x86 f9 0 (List.replicate 5 (0:Int)):Option ((List Int)))).bind fun x88 =>
     some x88:Option ((List Int)))).bind fun x87 =>
     (z9 x87).bind fun x99 =>
      (A2 x99).bind fun x100 =>
       ((O6 x74 f9 0 0 x100:Option ((List Int)))).bind fun x101 =>
        some x101
def V3 (x109:List Int) (x110:List Int):Nat->Int->Int->Option Int
 |0,_,_=>none
 |n1+1,x112,x113 =>
  cond (decide (x113<(List.length x109:Int)))
   (if (0:Int)≤x113/\x113<(List.length x109:Int) then
    if (0:Int)≤x113/\x113<(List.length x110:Int) then
     nm ((bits .u8 .xor (List.getD x109 (Int.toNat x113) 0) (List.getD x110 (Int.toNat x113) 0)):Int) fun x114 =>
     V3 x109 x110 n1 (bits .u8 .or x112 x114) (IntKind.wrap .i64 (x113+1))
    else none
   else none)
   (some x112)
def Gv (x109:List Int) (x110:List Int):Option Bool :=
 cond (!((List.length x109:Int)==(List.length x110:Int)))
  (some false)
  (((V3 x109 x110 f9 0 0:Option Int)).bind fun x111 =>
   some (x111==0))
def By (x62:List Int) (x63:List Int) (x64:List Int) (x65:Nat) (x66:List Int) (x67:Nat) (x68:Nat) (x69:Nat) (x70:List Int) (x71:List Int) (x72:List Int) (x73:List Int):Option Bool :=
 (Bx x62 x64 x65 x66 x67 x68 x69 x70 x71 x72 x73).bind fun x74 =>
  (Gv x63 (List.take 16 x74)).bind fun x75 =>
   some x75
def Df (x45:List Int) (x46:List Int) (x47:List Int) (x48:List Int):Option ((((List Int))⊕Nat)) :=
 cond (!((List.length x46:Int)==12))
  (some (Sum.inr 4))
  (nm ((decide ((IntKind.wrap .i64 ((List.length x48:Int)-16))<0)):Bool) fun x49 =>
  cond x49
   (some (Sum.inr 2))
   (cond (decide ((List.length x47:Int)>16384))
    (some (Sum.inr 3))
    (nm ((decide ((IntKind.wrap .i64 ((List.length x48:Int)-16))>16384)):Bool) fun x50 =>
    cond x50
     (some (Sum.inr 3))
     (if (IntKind.wrap .i64 ((List.length x48:Int)-16))≤(List.length x48:Int) then
      if (0:Int)≤(IntKind.wrap .i64 ((List.length x48:Int)-16)) then
       nm ((List.take (Int.toNat ((IntKind.wrap .i64 ((List.length x48:Int)-16))-0)) x48):List Int) fun x51 =>
       (My x45 x46 x47 x51).bind fun r74=>match r74 with
       |(Sum.inl (x52,x53,x54,x55,x56,x57,x58,x59,x60)) =>
         if (0:Int)≤(IntKind.wrap .i64 ((List.length x48:Int)-16))/\(IntKind.wrap .i64 ((List.length x48:Int)-16))≤(List.length x48:Int) then
          nm ((List.take (Int.toNat ((List.length x48:Int)-(IntKind.wrap .i64 ((List.length x48:Int)-16)))) (List.drop (Int.toNat (IntKind.wrap .i64 ((List.length x48:Int)-16))) x48)):List Int) fun x61 =>
          (By x52 x61 x47 x53 x51 x54 x55 x56 x57 x58 x59 x60).bind fun x62 =>
           cond (!x62)
            (some (Sum.inr 7))
            (if (IntKind.wrap .i64 ((List.length x48:Int)-16))≤(List.length x48:Int) then
             if (0:Int)≤(IntKind.wrap .i64 ((List.length x48:Int)-16)) then
              nm ((List.take (Int.toNat ((IntKind.wrap .i64 ((List.length x48:Int)-16))-0)) x48):List Int) fun x63 =>
              (De x45 1 x46 x63).bind fun r65=>match r65 with
              |(Sum.inl x64) =>
                some (Sum.inl x64)
              |(Sum.inr x65) =>
                some (Sum.inr x65)
             else none
            else none)
         else none
       |(Sum.inr (x66,x67,x68,x69,x70,x71,x72,x73,x74)) =>
         some (Sum.inr 4)
      else none
     else none))))
def Dg (x31:List Int) (x32:List Int) (x33:List Int) (x34:List Int):Option ((((List Int))⊕Nat)) :=
 cond (decide ((List.length x34:Int)<32))
  (some (Sum.inr 2))
  (cond (decide ((List.length x32:Int)>16384))
   (some (Sum.inr 3))
   (if 32≤(List.length x34:Int) then
    if 32≤(List.length (List.take 32 x34)) then
     (Mz x31 (List.take 32 (List.take 32 x34))).bind fun r41=>match r41 with
     |(Sum.inl x35) =>
       (Y8 x35 x32).bind fun r41=>match r41 with
       |(x36,x37,x38) =>
         if (0:Int)≤32/\32≤(List.length x34:Int) then
          nm ((List.take (Int.toNat ((List.length x34:Int)-32)) (List.drop 32 x34)):List Int) fun x39 =>
          (Df x36 (List.take x37 x38) x33 x39).bind fun r41=>match r41 with
          |(Sum.inl x40) =>
            some (Sum.inl x40)
          |(Sum.inr x41) =>
            some (Sum.inr x41)
         else none
     |(Sum.inr ()) =>
       some (Sum.inr 5)
    else none
   else none))
def Kb:Option Bool :=
 (Jy (List.length [120]) [120]).bind fun r13=>match r13 with
 |(x4,x5) =>
   (Io x5 ([]:List Int) ([]:List Int) ([]:List Int) (List.length [121]) [121]).bind fun r13=>match r13 with
   |(Sum.inl x6) =>
     cond (!(((List.length x6):Int)==48))
      (some false)
      ((Dg x4 ([]:List Int) ([]:List Int) x6).bind fun r12=>match r12 with
      |(Sum.inl x7) =>
        (Dg (List.replicate 32 (0:Int)) ([]:List Int) ([]:List Int) x6).bind fun r9=>match r9 with
        |(Sum.inl x8) =>
          some false
        |(Sum.inr x9) =>
          some true
      |(Sum.inr x10) =>
        (Dg (List.replicate 32 (0:Int)) ([]:List Int) ([]:List Int) x6).bind fun r12=>match r12 with
        |(Sum.inl x11) =>
          some false
        |(Sum.inr x12) =>
          some false)
   |(Sum.inr x13) =>
     some false
def V4 (x15:z6):Option Bool :=
 cond (decide ((List.length x15.fInfo:Int)>17000))
  (some true)
  (cond (decide ((List.length x15.fWith:Int)>17000))
   (some true)
   (some (decide ((List.length x15.fSeed:Int)>300))))
def Bz (x25:List UInt8) (x26:List (List Int)):Option ((List Int)) :=
 if ((List.length [72,80,75,69,45,118,49,75,69,77,0,32]:Int)+List.length x25≤9223372036854775807) then
  nm ((List.map (fun q:UInt8=>(q.toNat:Int)) ([72,80,75,69,45,118,49,75,69,77,0,32]++x25)):List Int) fun x27 =>
  (A9 x26).bind fun r30=>match r30 with
  |(x28,x29) =>
    if (((List.length x27):Int)+(List.length (List.take x28 x29)))*1≤140737488355328 then
     (z7 ([]:List Int) (x27++(List.take x28 x29))).bind fun x30 =>
      some x30
    else none
 else none
def Kd (x24:List (List Int)):Option ((List Int)×(List Int)) :=
 (Bz [100,107,112,95,112,114,107] x24).bind fun x25 =>
  (Fp x25 [115,107] ([]:List (List Int))).bind fun x26 =>
   (Al x26).bind fun x27 =>
    some (x26,x27)
def Gw (x22:List Int) (x23:List (List Int)):Option ((((List Int)×(List Int))⊕Unit)) :=
 (Kd x23).bind fun r27=>match r27 with
 |(x24,x25) =>
   (N9 x24 x22).bind fun r27=>match r27 with
   |(Sum.inl x26) =>
     (Am x26 x25 x22).bind fun x27 =>
      some (Sum.inl (x25,x27))
   |(Sum.inr ()) =>
     some (Sum.inr ())
def An (x17:List Int) (x18:List Int) (x19:List Int) (x20:List Int) (x21:List (List Int)):Option ((((List Int))⊕Nat)) :=
 cond (decide ((List.length x18:Int)>16384))
  (some (Sum.inr 3))
  ((Gw x17 x21).bind fun r28=>match r28 with
  |(Sum.inl (x22,x23)) =>
    (Y8 x23 x18).bind fun r28=>match r28 with
    |(x24,x25,x26) =>
      (Be x24 (List.take x25 x26) x19 x20).bind fun r28=>match r28 with
      |(Sum.inl x27) =>
        if ((32:Int)+(List.length x27))*1≤140737488355328 then
         if 32≤(List.length x22) then
          some (Sum.inl ((List.take 32 x22)++x27))
         else none
        else none
      |(Sum.inr x28) =>
        some (Sum.inr x28)
  |(Sum.inr ()) =>
    some (Sum.inr 5))
def Es:Option ((List Int)) :=
 nm ([1116352408,1899447441,3049323471,3921009573,961987163,1508970993,2453635748,2870763221,3624381080,310598401,607225278,1426881987,1925078388,2162078206,2614888103,3248222580,3835390401,4022224774,264347078,604807628,770255983,1249150122,1555081692,1996064986,2554220882,2821834349,2952996808,3210313671,3336571891,3584528711,113926993,338241895,666307205,773529912,1294757372,1396182291,1695183700,1986661051,2177026350,2456956037,2730485921,2820302411,3259730800,3345764771,3516065817,3600352804,4094571909,275423344,430227734,506948616,659060556,883997877,958139571,1322822218,1537002063,1747873779,1955562222,2024104815,2227730452,2361852424,2428436474,2756734187,3204031479,3329325298]:List Int) fun x45 =>
 some x45
def P7:Nat->(List Int)->Option ((Unit⊕(List Int)))
 |0,_=>none
 |n1+1,x50 =>
  cond (!((Int.tmod ((List.length x50):Int) 64)==56))
   (if (((List.length x50):Int)+(List.length [0]))*1≤140737488355328 then
    P7 n1 (x50++[0])
   else none)
   (some (Sum.inr x50))
def Et (x51:Int):Nat->Int->(List Int)->Option ((List Int))
 |0,_,_=>none
 |n2+1,x53,x54 =>
  cond (decide (x53≥0))
   (if (0:Int)≤(IntKind.wrap .u64 (IntKind.wrap .i64 (8*x53))) then
    nm ((Int.fdiv x51 (2^(min (Int.toNat (IntKind.wrap .u64 (IntKind.wrap .i64 (8*x53)))) (IntKind.bits .u64)))):Int) fun x55 =>
    if (((List.length x54):Int)+(List.length [(IntKind.wrap .u8 x55)]))*1≤140737488355328 then
     Et x51 n2 (IntKind.wrap .i64 (x53-1)) (x54++[(IntKind.wrap .u8 x55)])
    else none
   else none)
   (some x54)
def P8 (x56:Int):Nat->Int->(List Int)->Option ((List Int))
 |0,_,_=>none
 |n3+1,x58,x59 =>
  cond (decide (x58≥0))
   (if (0:Int)≤(IntKind.wrap .u64 (IntKind.wrap .i64 (8*x58))) then
    nm ((Int.fdiv x56 (2^(min (Int.toNat (IntKind.wrap .u64 (IntKind.wrap .i64 (8*x58)))) (IntKind.bits .u64)))):Int) fun x60 =>
    if (((List.length x59):Int)+(List.length [(IntKind.wrap .u8 x60)]))*1≤140737488355328 then
     P8 x56 n3 (IntKind.wrap .i64 (x58-1)) (x59++[(IntKind.wrap .u8 x60)])
    else none
   else none)
   (some x59)
def Gx (x48:List Int):Option ((List Int)) :=
 if (((List.length ([]:List Int)):Int)+(List.length x48))*1≤140737488355328 then
  if (((List.length (([]:List Int)++x48)):Int)+(List.length [128]))*1≤140737488355328 then
   ((P7 f9 ((([]:List Int)++x48)++[128]):Option ((Unit⊕(List Int))))).bind fun r1_0_49=>match r1_0_49 with
   |(Sum.inl ()) =>
     nm ((IntKind.wrap .u64 ((IntKind.wrap .u64 (List.length x48:Int))*8)):Int) fun x51 =>
     ((Et x51 f9 7 ((([]:List Int)++x48)++[128]):Option ((List Int)))).bind fun x52 =>
      some x52
   |(Sum.inr x49) =>
     nm ((IntKind.wrap .u64 ((IntKind.wrap .u64 (List.length x48:Int))*8)):Int) fun x56 =>
     ((P8 x56 f9 7 x49:Option ((List Int)))).bind fun x57 =>
      some x57
  else none
 else none
def B1 (x72:Int) (x73:Int):Option Int :=
 if (0:Int)≤x73 then
  nm ((Int.fdiv x72 (2^(min (Int.toNat x73) (IntKind.bits .u32)))):Int) fun x74 =>
  if (0:Int)≤(IntKind.wrap .u64 (32-x73)) then
   nm ((IntKind.wrap .u32 (x72*2^(min (Int.toNat (IntKind.wrap .u64 (32-x73))) (IntKind.bits .u32)))):Int) fun x75 =>
   some (bits .u32 .or x74 x75)
  else none
 else none
def O0 (x47:List Int) (x49:Int):Nat->Int->(List Int)->Option ((List Int))
 |0,_,_=>none
 |n2+1,x52,x53 =>
  cond (decide (x52<64))
   (((cond (decide (x52<16))
    (if (0:Int)≤(IntKind.wrap .i64 (x49+(IntKind.wrap .i64 (4*x52))))/\(IntKind.wrap .i64 (x49+(IntKind.wrap .i64 (4*x52))))<((List.length x47):Int) then
     nm ((Int.toNat (IntKind.wrap .i64 (x49+(IntKind.wrap .i64 (4*x52))))):Nat) fun x55 =>
     nm ((IntKind.wrap .u32 ((IntKind.wrap .u32 (List.getD x47 x55 0))*16777216)):Int) fun x56 =>
     nm ((IntKind.wrap .i64 ((IntKind.wrap .i64 (x49+(IntKind.wrap .i64 (4*x52))))+1)):Int) fun x57 =>
     if (0:Int)≤x57/\x57<((List.length x47):Int) then
      nm ((IntKind.wrap .u32 ((IntKind.wrap .u32 (List.getD x47 (Int.toNat x57) 0))*65536)):Int) fun x58 =>
      nm ((IntKind.wrap .i64 ((IntKind.wrap .i64 (x49+(IntKind.wrap .i64 (4*x52))))+2)):Int) fun x59 =>
      if (0:Int)≤x59/\x59<((List.length x47):Int) then
       nm ((IntKind.wrap .u32 ((IntKind.wrap .u32 (List.getD x47 (Int.toNat x59) 0))*256)):Int) fun x60 =>
       nm ((IntKind.wrap .i64 ((IntKind.wrap .i64 (x49+(IntKind.wrap .i64 (4*x52))))+3)):Int) fun x61 =>
       if (0:Int)≤x61/\x61<((List.length x47):Int) then
        nm ((IntKind.wrap .u32 ((IntKind.wrap .u32 ((IntKind.wrap .u32 (x56+x58))+x60))+(IntKind.wrap .u32 (List.getD x47 (Int.toNat x61) 0)))):Int) fun x62 =>
        if (0:Int)≤x52/\x52<((List.length x53):Int) then
         some (List.set x53 (Int.toNat x52) x62)
        else none
       else none
      else none
     else none
    else none)
    (if (0:Int)≤(IntKind.wrap .i64 (x52-15))/\(IntKind.wrap .i64 (x52-15))<((List.length x53):Int) then
     if (0:Int)≤(IntKind.wrap .i64 (x52-2))/\(IntKind.wrap .i64 (x52-2))<((List.length x53):Int) then
      (B1 (List.getD x53 (Int.toNat (IntKind.wrap .i64 (x52-2))) 0) 17).bind fun x63 =>
       (B1 (List.getD x53 (Int.toNat (IntKind.wrap .i64 (x52-2))) 0) 19).bind fun x64 =>
        nm ((Int.fdiv (List.getD x53 (Int.toNat (IntKind.wrap .i64 (x52-2))) 0) (2^10)):Int) fun x65 =>
        if (0:Int)≤(IntKind.wrap .i64 (x52-7))/\(IntKind.wrap .i64 (x52-7))<((List.length x53):Int) then
         nm ((IntKind.wrap .u32 ((bits .u32 .xor (bits .u32 .xor x63 x64) x65)+(List.getD x53 (Int.toNat (IntKind.wrap .i64 (x52-7))) 0))):Int) fun x66 =>
         (B1 (List.getD x53 (Int.toNat (IntKind.wrap .i64 (x52-15))) 0) 7).bind fun x67 =>
          (B1 (List.getD x53 (Int.toNat (IntKind.wrap .i64 (x52-15))) 0) 18).bind fun x68 =>
           nm ((Int.fdiv (List.getD x53 (Int.toNat (IntKind.wrap .i64 (x52-15))) 0) (2^3)):Int) fun x69 =>
           nm ((IntKind.wrap .u32 (x66+(bits .u32 .xor (bits .u32 .xor x67 x68) x69))):Int) fun x70 =>
           if (0:Int)≤(IntKind.wrap .i64 (x52-16))/\(IntKind.wrap .i64 (x52-16))<((List.length x53):Int) then
            nm ((IntKind.wrap .u32 (x70+(List.getD x53 (Int.toNat (IntKind.wrap .i64 (x52-16))) 0))):Int) fun x71 =>
            if (0:Int)≤x52/\x52<((List.length x53):Int) then
             some (List.set x53 (Int.toNat x52) x71)
            else none
           else none
        else none
     else none
    else none):Option ((List Int)))).bind fun x54 =>
    O0 x47 x49 n2 (IntKind.wrap .i64 (x52+1)) x54)
   (some x53)
def W3 (x45:List Int) (x51:List Int):Nat->Int->Int->Int->Int->Int->Int->Int->Int->Int->Option (Int×Int×Int×Int×Int×Int×Int×Int)
 |0,_,_,_,_,_,_,_,_,_=>none
 |n3+1,x80,x81,x82,x83,x84,x85,x86,x87,x88 =>
  cond (decide (x88<64))
   ((B1 x84 6).bind fun x89 =>
    (B1 x84 11).bind fun x90 =>
     (B1 x84 25).bind fun x91 =>
      nm ((IntKind.wrap .u32 (x87+(bits .u32 .xor (bits .u32 .xor x89 x90) x91))):Int) fun x92 =>
      nm ((bits .u32 .xor (bits .u32 .and x84 x85) (bits .u32 .and (bits .u32 .xor (IntKind.max .u32) x84) x86)):Int) fun x93 =>
      if (0:Int)≤x88/\x88<((List.length x45):Int) then
       nm ((IntKind.wrap .u32 ((IntKind.wrap .u32 (x92+x93))+(List.getD x45 (Int.toNat x88) 0))):Int) fun x94 =>
       if (0:Int)≤x88/\x88<((List.length x51):Int) then
        nm ((IntKind.wrap .u32 (x94+(List.getD x51 (Int.toNat x88) 0))):Int) fun x95 =>
        (B1 x80 2).bind fun x96 =>
         (B1 x80 13).bind fun x97 =>
          (B1 x80 22).bind fun x98 =>
           nm ((bits .u32 .xor (bits .u32 .and x80 x81) (bits .u32 .and x80 x82)):Int) fun x99 =>
           nm ((IntKind.wrap .u32 ((bits .u32 .xor (bits .u32 .xor x96 x97) x98)+(bits .u32 .xor x99 (bits .u32 .and x81 x82)))):Int) fun x100 =>
           W3 x45 x51 n3 (IntKind.wrap .u32 (x95+x100)) x80 x81 x82 (IntKind.wrap .u32 (x83+x95)) x84 x85 x86 (IntKind.wrap .i64 (x88+1))
       else none
      else none)
   (some (x80,x81,x82,x83,x84,x85,x86,x87))
def Gy (x46:List Int) (x72:Int) (x73:Int) (x74:Int) (x75:Int) (x76:Int) (x77:Int) (x78:Int) (x79:Int) (x101:Int):Nat->Int->(List Int)->Option ((List Int))
 |0,_,_=>none
 |n4+1,x103,x104 =>
  cond (decide (x103<x101))
   (if (0:Int)≤x103/\x103<((List.length [x72,x73,x74,x75,x76,x77,x78,x79]):Int) then
    nm ((List.getD [x72,x73,x74,x75,x76,x77,x78,x79] (Int.toNat x103) 0):Int) fun x105 =>
    if (0:Int)≤x103/\x103<((List.length x46):Int) then
     nm ((IntKind.wrap .u32 ((List.getD x104 (Int.toNat x103) 0)+x105)):Int) fun x106 =>
     if (0:Int)≤x103/\x103<((List.length x46):Int) then
      Gy x46 x72 x73 x74 x75 x76 x77 x78 x79 x101 n4 (IntKind.wrap .i64 (x103+1)) (List.set x104 (Int.toNat x103) x106)
     else none
    else none
   else none)
   (some x104)
def W4 (x45:List Int) (x46:List Int) (x47:List Int):Nat->Int->(List Int)->Option ((List Int))
 |0,_,_=>none
 |n1+1,x49,x50 =>
  cond (decide (x49<((List.length x47):Int)))
   (((O0 x47 x49 f9 0 (List.replicate 64 (0:Int)):Option ((List Int)))).bind fun x51 =>
    if (0:Int)<((List.length x46):Int) then
     if (1:Int)<((List.length x46):Int) then
      if (2:Int)<((List.length x46):Int) then
       if (3:Int)<((List.length x46):Int) then
        if (4:Int)<((List.length x46):Int) then
         if (5:Int)<((List.length x46):Int) then
          if (6:Int)<((List.length x46):Int) then
           if (7:Int)<((List.length x46):Int) then
            ((W3 x45 x51 f9 (List.getD x50 0 0) (List.getD x50 1 0) (List.getD x50 2 0) (List.getD x50 3 0) (List.getD x50 4 0) (List.getD x50 5 0) (List.getD x50 6 0) (List.getD x50 7 0) 0:Option (Int×Int×Int×Int×Int×Int×Int×Int))).bind fun r4_1_79=>match r4_1_79 with
            |(x72,x73,x74,x75,x76,x77,x78,x79) =>
              nm (((List.length [x72,x73,x74,x75,x76,x77,x78,x79]):Int):Int) fun x101 =>
              ((Gy x46 x72 x73 x74 x75 x76 x77 x78 x79 x101 f9 0 x50:Option ((List Int)))).bind fun x102 =>
               W4 x45 x46 x47 n1 (IntKind.wrap .i64 (x49+64)) x102
           else none
          else none
         else none
        else none
       else none
      else none
     else none
    else none)
   (some x50)
def Dh (x46:List Int) (x48:List Int):Nat->Int->(List Int)->Option ((List Int))
 |0,_,_=>none
 |n5+1,x108,x109 =>
  cond (decide (x108<((List.length x46):Int)))
   (if (0:Int)≤x108/\x108<((List.length x46):Int) then
    nm ((IntKind.wrap .u8 (Int.fdiv (List.getD x48 (Int.toNat x108) 0) (2^24))):Int) fun x110 =>
    nm ((IntKind.wrap .u8 (Int.fdiv (List.getD x48 (Int.toNat x108) 0) (2^16))):Int) fun x111 =>
    nm ((IntKind.wrap .u8 (Int.fdiv (List.getD x48 (Int.toNat x108) 0) (2^8))):Int) fun x112 =>
    if (0:Int)≤(IntKind.wrap .i64 (4*x108))/\(IntKind.wrap .i64 (4*x108))<32 then
     nm ((List.set x109 (Int.toNat (IntKind.wrap .i64 (4*x108))) x110):List Int) fun x113 =>
     if (0:Int)≤(IntKind.wrap .i64 ((IntKind.wrap .i64 (4*x108))+1))/\(IntKind.wrap .i64 ((IntKind.wrap .i64 (4*x108))+1))<32 then
      nm ((Int.toNat (IntKind.wrap .i64 ((IntKind.wrap .i64 (4*x108))+1))):Nat) fun x114 =>
      if (0:Int)≤(IntKind.wrap .i64 ((IntKind.wrap .i64 (4*x108))+2))/\(IntKind.wrap .i64 ((IntKind.wrap .i64 (4*x108))+2))<32 then
       nm ((Int.toNat (IntKind.wrap .i64 ((IntKind.wrap .i64 (4*x108))+2))):Nat) fun x115 =>
       if (0:Int)≤(IntKind.wrap .i64 ((IntKind.wrap .i64 (4*x108))+3))/\(IntKind.wrap .i64 ((IntKind.wrap .i64 (4*x108))+3))<32 then
        nm ((Int.toNat (IntKind.wrap .i64 ((IntKind.wrap .i64 (4*x108))+3))):Nat) fun x116 =>
        nm ((List.set (List.set (List.set x113 x114 x111) x115 x112) x116 (IntKind.wrap .u8 (List.getD x48 (Int.toNat x108) 0))):List Int) fun x117 =>
        Dh x46 x48 n5 (IntKind.wrap .i64 (x108+1)) x117
       else none
      else none
     else none
    else none
   else none)
   (some x109)
def Ao (x44:List Int):Option ((List Int)) :=
 (Es).bind fun x45 =>
  nm ([1779033703,3144134277,1013904242,2773480762,1359893119,2600822924,528734635,1541459225]:List Int) fun x46 =>
  (Gx x44).bind fun x47 =>
   ((W4 x45 x46 x47 f9 0 x46:Option ((List Int)))).bind fun x48 =>
    ((Dh x46 x48 f9 0 (List.replicate 32 (0:Int)):Option ((List Int)))).bind fun x107 =>
     some x107
def W5 (x44:List Int):Nat->Int->(List Int)->(List Int)->Option ((List Int)×(List Int))
 |0,_,_,_=>none
 |n1+1,x48,x49,x50 =>
  cond (decide (x48<64))
   (((cond (decide (x48<32))
    (if (0:Int)≤x48/\x48<(32:Int) then
     some (List.getD x44 (Int.toNat x48) 0)
    else none)
    (some 0):Option Int)).bind fun x51 =>
    if (0:Int)≤x48/\x48<((List.length (List.replicate 64 (0:Int))):Int) then
     if (0:Int)≤x48/\x48<((List.length (List.replicate 64 (0:Int))):Int) then
      W5 x44 n1 (IntKind.wrap .i64 (x48+1)) (List.set x49 (Int.toNat x48) (bits .u8 .xor x51 54)) (List.set x50 (Int.toNat x48) (bits .u8 .xor x51 92))
     else none
    else none)
   (some (x49,x50))
def W6 (x42:List Int):Nat->Int->(List Int)->(List Int)->Option ((List Int)×(List Int))
 |0,_,_,_=>none
 |n2+1,x58,x59,x60 =>
  cond (decide (x58<64))
   (((cond (decide (x58<(List.length x42:Int)))
    (if (0:Int)≤x58/\x58<(List.length x42:Int) then
     some (List.getD x42 (Int.toNat x58) 0)
    else none)
    (some 0):Option Int)).bind fun x61 =>
    if (0:Int)≤x58/\x58<((List.length (List.replicate 64 (0:Int))):Int) then
     if (0:Int)≤x58/\x58<((List.length (List.replicate 64 (0:Int))):Int) then
      W6 x42 n2 (IntKind.wrap .i64 (x58+1)) (List.set x59 (Int.toNat x58) (bits .u8 .xor x61 54)) (List.set x60 (Int.toNat x58) (bits .u8 .xor x61 92))
     else none
    else none)
   (some (x59,x60))
def Ca (x42:List Int) (x43:List Int):Option ((List Int)) :=
 ((cond (decide ((List.length x42:Int)>64))
  ((Ao x42).bind fun x45 =>
   some (Sum.inl x45))
  (some (Sum.inr ())):Option ((((List Int))⊕Unit)))).bind fun r1_0_44=>match r1_0_44 with
 |(Sum.inl x44) =>
   ((W5 x44 f9 0 (List.replicate 64 (0:Int)) (List.replicate 64 (0:Int)):Option ((List Int)×(List Int)))).bind fun r2_0_47=>match r2_0_47 with
   |(x46,x47) =>
     if (((List.length (List.replicate 64 (0:Int))):Int)+(List.length x43))*1≤140737488355328 then
      if (List.length (List.replicate 64 (0:Int)))≤(List.length x46) then
       nm (((List.take (List.length (List.replicate 64 (0:Int))) x46)++x43):List Int) fun x52 =>
       (Ao x52).bind fun x53 =>
        if (((List.length (List.replicate 64 (0:Int))):Int)+(List.length (List.take 32 x53)))*1≤140737488355328 then
         if (List.length (List.replicate 64 (0:Int)))≤(List.length x47) then
          nm (((List.take (List.length (List.replicate 64 (0:Int))) x47)++(List.take 32 x53)):List Int) fun x54 =>
          (Ao x54).bind fun x55 =>
           some x55
         else none
        else none
      else none
     else none
 |(Sum.inr ()) =>
   ((W6 x42 f9 0 (List.replicate 64 (0:Int)) (List.replicate 64 (0:Int)):Option ((List Int)×(List Int)))).bind fun r4_1_57=>match r4_1_57 with
   |(x56,x57) =>
     if (((List.length (List.replicate 64 (0:Int))):Int)+(List.length x43))*1≤140737488355328 then
      if (List.length (List.replicate 64 (0:Int)))≤(List.length x56) then
       nm (((List.take (List.length (List.replicate 64 (0:Int))) x56)++x43):List Int) fun x62 =>
       (Ao x62).bind fun x63 =>
        if (((List.length (List.replicate 64 (0:Int))):Int)+(List.length (List.take 32 x63)))*1≤140737488355328 then
         if (List.length (List.replicate 64 (0:Int)))≤(List.length x57) then
          nm (((List.take (List.length (List.replicate 64 (0:Int))) x57)++(List.take 32 x63)):List Int) fun x64 =>
          (Ao x64).bind fun x65 =>
           some x65
         else none
        else none
      else none
     else none
def J8 (x38:List UInt8) (x39:List UInt8) (x40:List Int):Option ((List Int)) :=
 if ((List.length [72,80,75,69,45,118,49]:Int)+List.length x38≤9223372036854775807) then
  if ((List.length ([72,80,75,69,45,118,49]++x38):Int)+List.length x39≤9223372036854775807) then
   nm ((List.map (fun q:UInt8=>(q.toNat:Int)) (([72,80,75,69,45,118,49]++x38)++x39)):List Int) fun x41 =>
   if (((List.length x41):Int)+(List.length x40))*1≤140737488355328 then
    (Ca ([]:List Int) (x41++x40)).bind fun x42 =>
     some x42
   else none
  else none
 else none
def V6 (x51:List Int) (x52:List Int) (x53:Int):Nat->Nat->Int->(List Int)->(List Int)->Option ((Unit⊕(Unit⊕((List Int)×(List Int)))))
 |0,_,_,_,_=>none
 |n1+1,x59,x60,x61,x62 =>
  cond (decide (((List.length x61):Int)<x53))
   (if (((List.length ([]:List Int)):Int)+(List.length (List.take x59 x62)))*1≤140737488355328 then
    if (((List.length (([]:List Int)++(List.take x59 x62))):Int)+(List.length x52))*1≤140737488355328 then
     if (((List.length ((([]:List Int)++(List.take x59 x62))++x52)):Int)+(List.length [(IntKind.wrap .u8 x60)]))*1≤140737488355328 then
      nm ((((([]:List Int)++(List.take x59 x62))++x52)++[(IntKind.wrap .u8 x60)]):List Int) fun x63 =>
      (Ca x51 x63).bind fun x64 =>
       if (((List.length x61):Int)+(List.length (List.take 32 x64)))*1≤140737488355328 then
        V6 x51 x52 x53 n1 32 (IntKind.wrap .i64 (x60+1)) (x61++(List.take 32 x64)) x64
       else none
     else none
    else none
   else none)
   (some (Sum.inr (Sum.inr (x61,x62))))
def W7 (x51:List Int) (x52:List Int) (x53:Int):Option ((List Int)) :=
 ((V6 x51 x52 x53 f9 (List.length ([]:List Int)) 1 ([]:List Int) ([]:List Int):Option ((Unit⊕(Unit⊕((List Int)×(List Int))))))).bind fun r1_0_55=>match r1_0_55 with
 |(Sum.inl ()) =>
   if x53≤((List.length ([]:List Int)):Int) then
    if (0:Int)≤x53 then
     some ([]:List Int)
    else none
   else none
 |(Sum.inr (Sum.inl ())) =>
   if x53≤((List.length ([]:List Int)):Int) then
    if (0:Int)≤x53 then
     some ([]:List Int)
    else none
   else none
 |(Sum.inr (Sum.inr (x54,x55))) =>
   if x53≤((List.length x54):Int) then
    if (0:Int)≤x53 then
     some x54
    else none
   else none
def I9 (x44:List UInt8) (x45:List Int) (x46:List UInt8) (x47:List Int) (x48:Int):Option ((List Int)) :=
 nm ([(IntKind.wrap .u8 (IntKind.wrap .i64 (Int.tdiv x48 256))),(IntKind.wrap .u8 (Int.tmod x48 256))]:List Int) fun x49 =>
 if ((List.length [72,80,75,69,45,118,49]:Int)+List.length x44≤9223372036854775807) then
  if ((List.length ([72,80,75,69,45,118,49]++x44):Int)+List.length x46≤9223372036854775807) then
   if (((List.length x49):Int)+(List.length (List.map (fun q:UInt8=>(q.toNat:Int)) (([72,80,75,69,45,118,49]++x44)++x46))))*1≤140737488355328 then
    nm ((x49++(List.map (fun q:UInt8=>(q.toNat:Int)) (([72,80,75,69,45,118,49]++x44)++x46))):List Int) fun x50 =>
    if (((List.length x50):Int)+(List.length x47))*1≤140737488355328 then
     (W7 (List.take 32 x45) (x50++x47) x48).bind fun x51 =>
      some x51
    else none
   else none
  else none
 else none
def W8 (x53:List Int):Nat->Int->(List Int)->Option ((List Int))
 |0,_,_=>none
 |n1+1,x55,x56 =>
  cond (decide (x55<(List.length x53:Int)))
   (if (0:Int)≤x55/\x55<(List.length x53:Int) then
    if (0:Int)≤x55/\x55<32 then
     nm ((List.set x56 (Int.toNat x55) (List.getD x53 (Int.toNat x55) 0)):List Int) fun x57 =>
     W8 x53 n1 (IntKind.wrap .i64 (x55+1)) x57
    else none
   else none)
   (some x56)
def Ke (x53:List Int):Option ((List Int)) :=
 ((W8 x53 f9 0 (List.replicate 32 (0:Int)):Option ((List Int)))).bind fun x54 =>
  some x54
def Kf (x62:List Int):Option ((List Int)) :=
 nm ((IntKind.wrap .u8 ((IntKind.wrap .u8 (Int.tdiv (List.getD x62 0 0) 8))*8)):Int) fun x63 =>
 nm ((IntKind.wrap .u8 ((Int.tmod (List.getD (List.set x62 0 x63) 31 0) 64)+64)):Int) fun x64 =>
 some (List.set (List.set x62 0 x63) 31 x64)
def Bf (x67:List Int):Nat->Int->(List Int)->Option ((List Int))
 |0,_,_=>none
 |n1+1,x69,x70 =>
  cond (decide (x69<32))
   (if (0:Int)≤(IntKind.wrap .i64 (Int.tdiv x69 4))/\(IntKind.wrap .i64 (Int.tdiv x69 4))<8 then
    nm ((List.getD x70 (Int.toNat (IntKind.wrap .i64 (Int.tdiv x69 4))) 0):Int) fun x71 =>
    if (0:Int)≤x69/\x69<32 then
     nm ((IntKind.wrap .u64 (IntKind.wrap .i64 (8*(Int.tmod x69 4)))):Int) fun x72 =>
     if (0:Int)≤x72 then
      nm ((IntKind.wrap .u32 ((IntKind.wrap .u32 (List.getD x67 (Int.toNat x69) 0))*2^(min (Int.toNat x72) (IntKind.bits .u32)))):Int) fun x73 =>
      if (0:Int)≤(IntKind.wrap .i64 (Int.tdiv x69 4))/\(IntKind.wrap .i64 (Int.tdiv x69 4))<8 then
       nm ((List.set x70 (Int.toNat (IntKind.wrap .i64 (Int.tdiv x69 4))) (IntKind.wrap .u32 (x71+x73))):List Int) fun x74 =>
       Bf x67 n1 (IntKind.wrap .i64 (x69+1)) x74
      else none
     else none
    else none
   else none)
   (some x70)
def Na (x67:List Int):Option ((List Int)) :=
 ((Bf x67 f9 0 (List.replicate 8 (0:Int)):Option ((List Int)))).bind fun x68 =>
  some x68
def Tw:Option ((List Int)) :=
 nm ([4294967277,4294967295,4294967295,4294967295,4294967295,4294967295,4294967295,2147483647]:List Int) fun x77 =>
 some x77
def Eu (x79:List Int) (x80:List Int):Nat->Int->Option ((Unit⊕Bool))
 |0,_=>none
 |n1+1,x82 =>
  cond (decide (x82≥0))
   (if (0:Int)≤x82/\x82<8 then
    if (0:Int)≤x82/\x82<8 then
     nm ((!((List.getD x79 (Int.toNat x82) 0)==(List.getD x80 (Int.toNat x82) 0))):Bool) fun x83 =>
     cond x83
      (if (0:Int)≤x82/\x82<8 then
       if (0:Int)≤x82/\x82<8 then
        nm ((decide ((List.getD x79 (Int.toNat x82) 0)<(List.getD x80 (Int.toNat x82) 0))):Bool) fun x84 =>
        some (Sum.inr x84)
       else none
      else none)
      (Eu x79 x80 n1 (IntKind.wrap .i64 (x82-1)))
    else none
   else none)
   (some (Sum.inl ()))
def Ip (x79:List Int) (x80:List Int):Option Bool :=
 ((Eu x79 x80 f9 7:Option ((Unit⊕Bool)))).bind fun r1_0_81=>match r1_0_81 with
 |(Sum.inl ()) =>
   some false
 |(Sum.inr x81) =>
   some x81
def Gc (x87:List Int) (x88:List Int):Nat->Int->Int->(List Int)->Option ((List Int))
 |0,_,_,_=>none
 |n1+1,x90,x91,x92 =>
  cond (decide (x91<8))
   (if (0:Int)≤x91/\x91<8 then
    nm ((IntKind.wrap .u64 ((IntKind.wrap .u64 (List.getD x87 (Int.toNat x91) 0))+4294967296)):Int) fun x93 =>
    if (0:Int)≤x91/\x91<8 then
     nm ((IntKind.wrap .u64 (x93-(IntKind.wrap .u64 (List.getD x88 (Int.toNat x91) 0)))):Int) fun x94 =>
     if (0:Int)≤x91/\x91<8 then
      nm ((List.set x92 (Int.toNat x91) (IntKind.wrap .u32 (IntKind.wrap .u64 (x94-x90)))):List Int) fun x95 =>
      nm ((IntKind.wrap .u64 (1-(Int.fdiv (IntKind.wrap .u64 (x94-x90)) (2^32)))):Int) fun x96 =>
      Gc x87 x88 n1 x96 (IntKind.wrap .i64 (x91+1)) x95
     else none
    else none
   else none)
   (some x92)
def Cv (x87:List Int) (x88:List Int):Option ((List Int)) :=
 ((Gc x87 x88 f9 0 0 (List.replicate 8 (0:Int)):Option ((List Int)))).bind fun x89 =>
  some x89
def Y9:Nat->(List Int)->Option ((List Int))
 |0,_=>none
 |n1+1,x78 =>
  (Tw).bind fun x79 =>
   (Ip x78 x79).bind fun x80 =>
    cond (!x80)
     ((Tw).bind fun x81 =>
      (Cv x78 x81).bind fun x82 =>
       Y9 n1 x82)
     (some x78)
def Cw (x76:List Int):Option ((List Int)) :=
 ((Y9 f9 x76:Option ((List Int)))).bind fun x77 =>
  some x77
def Gz (x66:List Int):Option ((List Int)) :=
 (Na (List.set x66 31 (Int.tmod (List.getD x66 31 0) 128))).bind fun x67 =>
  (Cw x67).bind fun x68 =>
   some x68
def Bg (x79:List Int):Nat->Int->Int->(List Int)->Option (Int×(List Int))
 |0,_,_,_=>none
 |n1+1,x82,x83,x84 =>
  cond (decide (x83<8))
   (if (0:Int)≤x83/\x83<16 then
    if (0:Int)≤(IntKind.wrap .i64 (8+x83))/\(IntKind.wrap .i64 (8+x83))<16 then
     nm ((IntKind.wrap .u64 (List.getD x79 (Int.toNat (IntKind.wrap .i64 (8+x83))) 0)):Int) fun x85 =>
     nm ((IntKind.wrap .u64 ((IntKind.wrap .u64 (List.getD x79 (Int.toNat x83) 0))+(IntKind.wrap .u64 (38*x85)))):Int) fun x86 =>
     if (0:Int)≤x83/\x83<8 then
      nm ((List.set x84 (Int.toNat x83) (IntKind.wrap .u32 (IntKind.wrap .u64 (x86+x82)))):List Int) fun x87 =>
      Bg x79 n1 (Int.fdiv (IntKind.wrap .u64 (x86+x82)) (2^32)) (IntKind.wrap .i64 (x83+1)) x87
     else none
    else none
   else none)
   (some (x82,x84))
def Bh:Nat->Int->Int->(List Int)->Option (Int×(List Int))
 |0,_,_,_=>none
 |n3+1,x94,x95,x96 =>
  cond (decide (x95<8))
   (if (0:Int)≤x95/\x95<8 then
    nm ((IntKind.wrap .u64 (x94+(IntKind.wrap .u64 (List.getD x96 (Int.toNat x95) 0)))):Int) fun x97 =>
    if (0:Int)≤x95/\x95<8 then
     Bh n3 (Int.fdiv x97 (2^32)) (IntKind.wrap .i64 (x95+1)) (List.set x96 (Int.toNat x95) (IntKind.wrap .u32 x97))
    else none
   else none)
   (some (x94,x96))
def Bi:Nat->Int->(List Int)->Option (Int×(List Int))
 |0,_,_=>none
 |n2+1,x90,x91 =>
  cond (decide (x90>0))
   (((Bh f9 (IntKind.wrap .u64 (x90*38)) 0 x91:Option (Int×(List Int)))).bind fun r3_1_93=>match r3_1_93 with
   |(x92,x93) =>
     Bi n2 x92 x93)
   (some (x90,x91))
def Iq (x79:List Int):Option ((List Int)) :=
 ((Bg x79 f9 0 0 (List.replicate 8 (0:Int)):Option (Int×(List Int)))).bind fun r1_0_81=>match r1_0_81 with
 |(x80,x81) =>
   ((Bi f9 x80 x81:Option (Int×(List Int)))).bind fun r2_1_89=>match r2_1_89 with
   |(x88,x89) =>
     (Cw x89).bind fun x98 =>
      some x98
def Di (x75:List Int) (x76:List Int):Nat->Int->Int->(List Int)->Option (Int×(List Int))
 |0,_,_,_=>none
 |n1+1,x79,x80,x81 =>
  cond (decide (x80<8))
   (if (0:Int)≤x80/\x80<8 then
    if (0:Int)≤x80/\x80<8 then
     nm ((IntKind.wrap .u64 ((IntKind.wrap .u64 (List.getD x75 (Int.toNat x80) 0))+(IntKind.wrap .u64 (List.getD x76 (Int.toNat x80) 0)))):Int) fun x82 =>
     if (0:Int)≤x80/\x80<16 then
      nm ((List.set x81 (Int.toNat x80) (IntKind.wrap .u32 (IntKind.wrap .u64 (x82+x79)))):List Int) fun x83 =>
      Di x75 x76 n1 (Int.fdiv (IntKind.wrap .u64 (x82+x79)) (2^32)) (IntKind.wrap .i64 (x80+1)) x83
     else none
    else none
   else none)
   (some (x79,x81))
def Cb (x75:List Int) (x76:List Int):Option ((List Int)) :=
 ((Di x75 x76 f9 0 0 (List.replicate 16 (0:Int)):Option (Int×(List Int)))).bind fun r1_0_78=>match r1_0_78 with
 |(x77,x78) =>
   (Iq (List.set x78 8 (IntKind.wrap .u32 x77))).bind fun x84 =>
    some x84
def Gd (x86:List Int) (x87:List Int) (x89:Int):Nat->Int->Int->(List Int)->Option (Int×(List Int))
 |0,_,_,_=>none
 |n2+1,x93,x94,x95 =>
  cond (decide (x94<8))
   (if (0:Int)≤x89/\x89<8 then
    if (0:Int)≤x94/\x94<8 then
     nm ((IntKind.wrap .u64 ((IntKind.wrap .u64 (List.getD x86 (Int.toNat x89) 0))*(IntKind.wrap .u64 (List.getD x87 (Int.toNat x94) 0)))):Int) fun x96 =>
     if (0:Int)≤(IntKind.wrap .i64 (x89+x94))/\(IntKind.wrap .i64 (x89+x94))<16 then
      nm ((List.getD x95 (Int.toNat (IntKind.wrap .i64 (x89+x94))) 0):Int) fun x97 =>
      nm ((IntKind.wrap .u64 ((IntKind.wrap .u64 (x96+(IntKind.wrap .u64 x97)))+x93)):Int) fun x98 =>
      if (0:Int)≤(IntKind.wrap .i64 (x89+x94))/\(IntKind.wrap .i64 (x89+x94))<16 then
       nm ((List.set x95 (Int.toNat (IntKind.wrap .i64 (x89+x94))) (IntKind.wrap .u32 x98)):List Int) fun x99 =>
       Gd x86 x87 x89 n2 (Int.fdiv x98 (2^32)) (IntKind.wrap .i64 (x94+1)) x99
      else none
     else none
    else none
   else none)
   (some (x93,x95))
def Z0 (x86:List Int) (x87:List Int):Nat->Int->(List Int)->Option ((List Int))
 |0,_,_=>none
 |n1+1,x89,x90 =>
  cond (decide (x89<8))
   (((Gd x86 x87 x89 f9 0 0 x90:Option (Int×(List Int)))).bind fun r2_0_92=>match r2_0_92 with
   |(x91,x92) =>
     if (0:Int)≤(IntKind.wrap .i64 (x89+8))/\(IntKind.wrap .i64 (x89+8))<16 then
      nm ((List.set x92 (Int.toNat (IntKind.wrap .i64 (x89+8))) (IntKind.wrap .u32 x91)):List Int) fun x100 =>
      Z0 x86 x87 n1 (IntKind.wrap .i64 (x89+1)) x100
     else none)
   (some x90)
def B3 (x86:List Int) (x87:List Int):Option ((List Int)) :=
 ((Z0 x86 x87 f9 0 (List.replicate 16 (0:Int)):Option ((List Int)))).bind fun x88 =>
  (Iq x88).bind fun x101 =>
   some x101
def Ev (x103:List Int) (x104:List Int):Option ((List Int)) :=
 (Tw).bind fun x105 =>
  (Cw x104).bind fun x106 =>
   (Cv x105 x106).bind fun x107 =>
    (Cb x103 x107).bind fun x108 =>
     some x108
def S9 (x80:List Int) (x81:List Int):Nat->Int->(List Int)->Option ((List Int))
 |0,_,_=>none
 |n1+1,x83,x84 =>
  cond (decide (x83≥0))
   ((B3 x84 x84).bind fun x85 =>
    if (0:Int)≤(IntKind.wrap .i64 (Int.tdiv x83 32))/\(IntKind.wrap .i64 (Int.tdiv x83 32))<8 then
     nm ((List.getD x81 (Int.toNat (IntKind.wrap .i64 (Int.tdiv x83 32))) 0):Int) fun x86 =>
     if (0:Int)≤(IntKind.wrap .u64 (Int.tmod x83 32)) then
      nm ((Int.fdiv x86 (2^(min (Int.toNat (IntKind.wrap .u64 (Int.tmod x83 32))) (IntKind.bits .u32)))):Int) fun x87 =>
      ((cond ((bits .u32 .and x87 1)==1)
       ((B3 x85 x80).bind fun x89 =>
        some x89)
       (some x85):Option ((List Int)))).bind fun x88 =>
       S9 x80 x81 n1 (IntKind.wrap .i64 (x83-1)) x88
     else none
    else none)
   (some x84)
def Oq (x80:List Int) (x81:List Int):Option ((List Int)) :=
 ((S9 x80 x81 f9 255 (List.set (List.replicate 8 (0:Int)) 0 1):Option ((List Int)))).bind fun x82 =>
  some x82
def Ha (x77:List Int):Option ((List Int)) :=
 (Tw).bind fun x78 =>
  (Cv x78 (List.set (List.replicate 8 (0:Int)) 0 2)).bind fun x79 =>
   (Oq x77 x79).bind fun x80 =>
    some x80
def Z1 (x83:List Int):Nat->Int->(List Int)->Option ((List Int))
 |0,_,_=>none
 |n1+1,x85,x86 =>
  cond (decide (x85<32))
   (if (0:Int)≤(IntKind.wrap .i64 (Int.tdiv x85 4))/\(IntKind.wrap .i64 (Int.tdiv x85 4))<8 then
    nm ((List.getD x83 (Int.toNat (IntKind.wrap .i64 (Int.tdiv x85 4))) 0):Int) fun x87 =>
    nm ((IntKind.wrap .u64 (IntKind.wrap .i64 (8*(Int.tmod x85 4)))):Int) fun x88 =>
    if (0:Int)≤x88 then
     nm ((Int.fdiv x87 (2^(min (Int.toNat x88) (IntKind.bits .u32)))):Int) fun x89 =>
     if (0:Int)≤x85/\x85<32 then
      Z1 x83 n1 (IntKind.wrap .i64 (x85+1)) (List.set x86 (Int.toNat x85) (IntKind.wrap .u8 x89))
     else none
    else none
   else none)
   (some x86)
def Kg (x83:List Int):Option ((List Int)) :=
 ((Z1 x83 f9 0 (List.replicate 32 (0:Int)):Option ((List Int)))).bind fun x84 =>
  some x84
def R8 (x62:List Int) (x63:List Int):Nat->Int->Int->(List Int)->(List Int)->(List Int)->(List Int)->Option (Int×(List Int)×(List Int)×(List Int)×(List Int))
 |0,_,_,_,_,_,_=>none
 |n1+1,x69,x70,x71,x72,x73,x74 =>
  cond (decide (x70≥0))
   (if (0:Int)≤(IntKind.wrap .i64 (Int.tdiv x70 8))/\(IntKind.wrap .i64 (Int.tdiv x70 8))<32 then
    nm ((List.getD x62 (Int.toNat (IntKind.wrap .i64 (Int.tdiv x70 8))) 0):Int) fun x75 =>
    if (0:Int)≤(IntKind.wrap .u64 (Int.tmod x70 8)) then
     nm ((Int.fdiv x75 (2^(min (Int.toNat (IntKind.wrap .u64 (Int.tmod x70 8))) (IntKind.bits .u8)))):Int) fun x76 =>
     ((cond (!(x69==(bits .u8 .and x76 1)))
      (some (x73,x74,x71,x72))
      (some (x71,x72,x73,x74)):Option ((List Int)×(List Int)×(List Int)×(List Int)))).bind fun r2_0_80=>match r2_0_80 with
     |(x77,x78,x79,x80) =>
       (Cb x77 x78).bind fun x81 =>
        (B3 x81 x81).bind fun x82 =>
         (Ev x77 x78).bind fun x83 =>
          (B3 x83 x83).bind fun x84 =>
           (Ev x82 x84).bind fun x85 =>
            (Cb x79 x80).bind fun x86 =>
             (Ev x79 x80).bind fun x87 =>
              (B3 x87 x81).bind fun x88 =>
               (B3 x86 x83).bind fun x89 =>
                (Cb x88 x89).bind fun x90 =>
                 (Ev x88 x89).bind fun x91 =>
                  (B3 x90 x90).bind fun x92 =>
                   (B3 x91 x91).bind fun x93 =>
                    (B3 x63 x93).bind fun x94 =>
                     (B3 x82 x84).bind fun x95 =>
                      (B3 (List.set (List.replicate 8 (0:Int)) 0 121665) x85).bind fun x96 =>
                       (Cb x82 x96).bind fun x97 =>
                        (B3 x85 x97).bind fun x98 =>
                         R8 x62 x63 n1 (bits .u8 .and x76 1) (IntKind.wrap .i64 (x70-1)) x95 x98 x92 x94
    else none
   else none)
   (some (x69,x71,x72,x73,x74))
def Fr (x60:List Int) (x61:List Int):Option ((List Int)) :=
 (Kf x60).bind fun x62 =>
  (Gz x61).bind fun x63 =>
   ((R8 x62 x63 f9 0 254 (List.set (List.replicate 8 (0:Int)) 0 1) (List.replicate 8 (0:Int)) x63 (List.set (List.replicate 8 (0:Int)) 0 1):Option (Int×(List Int)×(List Int)×(List Int)×(List Int)))).bind fun r1_0_68=>match r1_0_68 with
   |(x64,x65,x66,x67,x68) =>
     ((cond (x64==1)
      (some (x67,x68))
      (some (x65,x66)):Option ((List Int)×(List Int)))).bind fun r3_1_100=>match r3_1_100 with
     |(x99,x100) =>
       (Ha x100).bind fun x101 =>
        (B3 x99 x101).bind fun x102 =>
         (Kg x102).bind fun x103 =>
          some x103
def Nb (x59:List Int):Option ((List Int)) :=
 (Fr x59 (List.set (List.replicate 32 (0:Int)) 0 9)).bind fun x60 =>
  some x60
def Nc (x37:List Int):Option ((List Int)×(List Int)) :=
 (J8 [75,69,77,0,32] [100,107,112,95,112,114,107] x37).bind fun x38 =>
  (I9 [75,69,77,0,32] x38 [115,107] ([]:List Int) 32).bind fun x39 =>
   (Ke (List.take (Int.toNat (32-0)) x39)).bind fun x40 =>
    (Nb x40).bind fun x41 =>
     some (x40,x41)
def Dj (x45:List Int) (x46:List Int) (x47:List Int):Option ((List Int)) :=
 (J8 [75,69,77,0,32] [101,97,101,95,112,114,107] (List.take 32 x45)).bind fun x48 =>
  if (((List.length ([]:List Int)):Int)+(List.length (List.take 32 x46)))*1≤140737488355328 then
   if (((List.length (([]:List Int)++(List.take 32 x46))):Int)+(List.length (List.take 32 x47)))*1≤140737488355328 then
    nm (((([]:List Int)++(List.take 32 x46))++(List.take 32 x47)):List Int) fun x49 =>
    (I9 [75,69,77,0,32] x48 [115,104,97,114,101,100,95,115,101,99,114,101,116] x49 32).bind fun x50 =>
     (Ke (List.take (Int.toNat (32-0)) x50)).bind fun x51 =>
      some x51
   else none
  else none
def Kh (x35:List Int) (x36:List Int):Option ((List Int)×(List Int)×Bool) :=
 (Nc x36).bind fun r40=>match r40 with
 |(x37,x38) =>
   (Fr x37 x35).bind fun x39 =>
    cond (x39==(List.replicate 32 (0:Int)))
     (some (x39,x39,false))
     ((Dj x39 x38 x35).bind fun x40 =>
      some (x38,x40,true))
def Ft (x44:List Int) (x45:List Int):Option ((List Int)×(List Int)) :=
 (J8 [72,80,75,69,0,32,0,1,0,3] [112,115,107,95,105,100,95,104,97,115,104] ([]:List Int)).bind fun x46 =>
  (J8 [72,80,75,69,0,32,0,1,0,3] [105,110,102,111,95,104,97,115,104] x45).bind fun x47 =>
   if (((List.length [0]):Int)+(List.length (List.take 32 x46)))*1≤140737488355328 then
    if (((List.length ([0]++(List.take 32 x46))):Int)+(List.length (List.take 32 x47)))*1≤140737488355328 then
     nm ([72,80,75,69,45,118,49,72,80,75,69,0,32,0,1,0,3,115,101,99,114,101,116]:List Int) fun x48 =>
     (Ca (List.take 32 x44) x48).bind fun x49 =>
      (I9 [72,80,75,69,0,32,0,1,0,3] x49 [107,101,121] (([0]++(List.take 32 x46))++(List.take 32 x47)) 32).bind fun x50 =>
       (Ke (List.take (Int.toNat (32-0)) x50)).bind fun x51 =>
        (I9 [72,80,75,69,0,32,0,1,0,3] x49 [98,97,115,101,95,110,111,110,99,101] (([0]++(List.take 32 x46))++(List.take 32 x47)) 12).bind fun x52 =>
         some (x51,x52)
    else none
   else none
def Bj (x66:List Int) (x67:Int):Option Int :=
 if (0:Int)≤(IntKind.wrap .i64 (4*x67))/\(IntKind.wrap .i64 (4*x67))<(List.length x66:Int) then
  nm ((IntKind.wrap .u32 (List.getD x66 (Int.toNat (IntKind.wrap .i64 (4*x67))) 0)):Int) fun x68 =>
  if (0:Int)≤(IntKind.wrap .i64 ((IntKind.wrap .i64 (4*x67))+1))/\(IntKind.wrap .i64 ((IntKind.wrap .i64 (4*x67))+1))<(List.length x66:Int) then
   nm ((List.getD x66 (Int.toNat (IntKind.wrap .i64 ((IntKind.wrap .i64 (4*x67))+1))) 0):Int) fun x69 =>
   nm ((IntKind.wrap .u32 (x68+(IntKind.wrap .u32 (256*(IntKind.wrap .u32 x69))))):Int) fun x70 =>
   if (0:Int)≤(IntKind.wrap .i64 ((IntKind.wrap .i64 (4*x67))+2))/\(IntKind.wrap .i64 ((IntKind.wrap .i64 (4*x67))+2))<(List.length x66:Int) then
    nm ((List.getD x66 (Int.toNat (IntKind.wrap .i64 ((IntKind.wrap .i64 (4*x67))+2))) 0):Int) fun x71 =>
    nm ((IntKind.wrap .u32 (x70+(IntKind.wrap .u32 (65536*(IntKind.wrap .u32 x71))))):Int) fun x72 =>
    if (0:Int)≤(IntKind.wrap .i64 ((IntKind.wrap .i64 (4*x67))+3))/\(IntKind.wrap .i64 ((IntKind.wrap .i64 (4*x67))+3))<(List.length x66:Int) then
     nm ((List.getD x66 (Int.toNat (IntKind.wrap .i64 ((IntKind.wrap .i64 (4*x67))+3))) 0):Int) fun x73 =>
     nm ((IntKind.wrap .u32 (x72+(IntKind.wrap .u32 (16777216*(IntKind.wrap .u32 x73))))):Int) fun x74 =>
     some x74
    else none
   else none
  else none
 else none
def Ir (x83:Int) (x84:Int):Option Int :=
 if (0:Int)≤x84 then
  nm ((IntKind.wrap .u32 (x83*2^(min (Int.toNat x84) (IntKind.bits .u32)))):Int) fun x85 =>
  if (0:Int)≤(IntKind.wrap .u64 (32-x84)) then
   nm ((Int.fdiv x83 (2^(min (Int.toNat (IntKind.wrap .u64 (32-x84))) (IntKind.bits .u32)))):Int) fun x86 =>
   some (bits .u32 .or x85 x86)
  else none
 else none
def o7 (x101:Nat) (x102:Int) (x103:Int) (x104:Int) (x105:Int) (x106:List Int):Option ((List Int)) :=
 if (0:Int)≤x102/\x102<(x101:Int) then
  if (0:Int)≤x103/\x103<(x101:Int) then
   nm ((IntKind.wrap .u32 ((List.getD x106 (Int.toNat x102) 0)+(List.getD x106 (Int.toNat x103) 0))):Int) fun x107 =>
   if (0:Int)≤x102/\x102<(x101:Int) then
    if (0:Int)≤x105/\x105<(x101:Int) then
     nm ((List.getD (List.set x106 (Int.toNat x102) x107) (Int.toNat x105) 0):Int) fun x108 =>
     if (0:Int)≤x102/\x102<(x101:Int) then
      nm ((List.getD (List.set x106 (Int.toNat x102) x107) (Int.toNat x102) 0):Int) fun x109 =>
      (Ir (bits .u32 .xor x108 x109) 16).bind fun x110 =>
       if (0:Int)≤x105/\x105<(x101:Int) then
        nm ((List.set (List.set x106 (Int.toNat x102) x107) (Int.toNat x105) x110):List Int) fun x111 =>
        if (0:Int)≤x104/\x104<(x101:Int) then
         if (0:Int)≤x105/\x105<(x101:Int) then
          nm ((IntKind.wrap .u32 ((List.getD x111 (Int.toNat x104) 0)+(List.getD x111 (Int.toNat x105) 0))):Int) fun x112 =>
          if (0:Int)≤x104/\x104<(x101:Int) then
           if (0:Int)≤x103/\x103<(x101:Int) then
            nm ((List.getD (List.set x111 (Int.toNat x104) x112) (Int.toNat x103) 0):Int) fun x113 =>
            if (0:Int)≤x104/\x104<(x101:Int) then
             nm ((List.getD (List.set x111 (Int.toNat x104) x112) (Int.toNat x104) 0):Int) fun x114 =>
             (Ir (bits .u32 .xor x113 x114) 12).bind fun x115 =>
              if (0:Int)≤x103/\x103<(x101:Int) then
               nm ((List.set (List.set x111 (Int.toNat x104) x112) (Int.toNat x103) x115):List Int) fun x116 =>
               if (0:Int)≤x102/\x102<(x101:Int) then
                if (0:Int)≤x103/\x103<(x101:Int) then
                 nm ((IntKind.wrap .u32 ((List.getD x116 (Int.toNat x102) 0)+(List.getD x116 (Int.toNat x103) 0))):Int) fun x117 =>
                 if (0:Int)≤x102/\x102<(x101:Int) then
                  if (0:Int)≤x105/\x105<(x101:Int) then
                   nm ((List.getD (List.set x116 (Int.toNat x102) x117) (Int.toNat x105) 0):Int) fun x118 =>
                   if (0:Int)≤x102/\x102<(x101:Int) then
                    nm ((List.getD (List.set x116 (Int.toNat x102) x117) (Int.toNat x102) 0):Int) fun x119 =>
                    (Ir (bits .u32 .xor x118 x119) 8).bind fun x120 =>
                     if (0:Int)≤x105/\x105<(x101:Int) then
                      nm ((List.set (List.set x116 (Int.toNat x102) x117) (Int.toNat x105) x120):List Int) fun x121 =>
                      if (0:Int)≤x104/\x104<(x101:Int) then
                       if (0:Int)≤x105/\x105<(x101:Int) then
                        nm ((IntKind.wrap .u32 ((List.getD x121 (Int.toNat x104) 0)+(List.getD x121 (Int.toNat x105) 0))):Int) fun x122 =>
                        if (0:Int)≤x104/\x104<(x101:Int) then
                         if (0:Int)≤x103/\x103<(x101:Int) then
                          nm ((List.getD (List.set x121 (Int.toNat x104) x122) (Int.toNat x103) 0):Int) fun x123 =>
                          if (0:Int)≤x104/\x104<(x101:Int) then
                           nm ((List.getD (List.set x121 (Int.toNat x104) x122) (Int.toNat x104) 0):Int) fun x124 =>
                           (Ir (bits .u32 .xor x123 x124) 7).bind fun x125 =>
                            if (0:Int)≤x103/\x103<(x101:Int) then
                             nm ((List.set (List.set x121 (Int.toNat x104) x122) (Int.toNat x103) x125):List Int) fun x126 =>
                             some x126
                            else none
                          else none
                         else none
                        else none
                       else none
                      else none
                     else none
                   else none
                  else none
                 else none
                else none
               else none
              else none
            else none
           else none
          else none
         else none
        else none
       else none
     else none
    else none
   else none
  else none
 else none
def Cc (x63:List Int):Nat->Int->(List Int)->Option ((List Int))
 |0,_,_=>none
 |n1+1,x67,x68 =>
  cond (decide (x67<8))
   ((Bj (List.take 32 x63) x67).bind fun x69 =>
    if (((List.length x68):Int)+(List.length [x69]))*4≤140737488355328 then
     Cc x63 n1 (IntKind.wrap .i64 (x67+1)) (x68++[x69])
    else none)
   (some x68)
def T0 (x64:Int) (x66:List Int) (x70:Int) (x71:Int) (x72:Int):Nat->Int->(List Int)->Option ((List Int))
 |0,_,_=>none
 |n2+1,x74,x75 =>
  cond (decide (x74<10))
   ((o7 (List.length (([]:List Int)++(x66++[x64,x70,x71,x72]))) 0 4 8 12 x75).bind fun x76 =>
    (o7 (List.length (([]:List Int)++(x66++[x64,x70,x71,x72]))) 1 5 9 13 x76).bind fun x77 =>
     (o7 (List.length (([]:List Int)++(x66++[x64,x70,x71,x72]))) 2 6 10 14 x77).bind fun x78 =>
      (o7 (List.length (([]:List Int)++(x66++[x64,x70,x71,x72]))) 3 7 11 15 x78).bind fun x79 =>
       (o7 (List.length (([]:List Int)++(x66++[x64,x70,x71,x72]))) 0 5 10 15 x79).bind fun x80 =>
        (o7 (List.length (([]:List Int)++(x66++[x64,x70,x71,x72]))) 1 6 11 12 x80).bind fun x81 =>
         (o7 (List.length (([]:List Int)++(x66++[x64,x70,x71,x72]))) 2 7 8 13 x81).bind fun x82 =>
          (o7 (List.length (([]:List Int)++(x66++[x64,x70,x71,x72]))) 3 4 9 14 x82).bind fun x83 =>
           T0 x64 x66 x70 x71 x72 n2 (IntKind.wrap .i64 (x74+1)) x83)
   (some x75)
def Cd (x64:Int) (x66:List Int) (x70:Int) (x71:Int) (x72:Int) (x73:List Int):Nat->Int->(List Int)->Option ((List Int))
 |0,_,_=>none
 |n3+1,x85,x86 =>
  cond (decide (x85<16))
   (if (0:Int)≤x85/\x85<((List.length (([]:List Int)++(x66++[x64,x70,x71,x72]))):Int) then
    if (0:Int)≤x85/\x85<((List.length (x66++[x64,x70,x71,x72])):Int) then
     nm ((IntKind.wrap .u32 ((List.getD x73 (Int.toNat x85) 0)+(List.getD (x66++[x64,x70,x71,x72]) (Int.toNat x85) 0))):Int) fun x87 =>
     nm ([(IntKind.wrap .u8 x87),(IntKind.wrap .u8 (Int.fdiv x87 (2^8))),(IntKind.wrap .u8 (Int.fdiv x87 (2^16))),(IntKind.wrap .u8 (Int.fdiv x87 (2^24)))]:List Int) fun x88 =>
     if (((List.length x86):Int)+(List.length x88))*1≤140737488355328 then
      Cd x64 x66 x70 x71 x72 x73 n3 (IntKind.wrap .i64 (x85+1)) (x86++x88)
     else none
    else none
   else none)
   (some x86)
def Cx (x63:List Int) (x64:Int) (x65:List Int):Option ((List Int)) :=
 ((Cc x63 f9 0 [1634760805,857760878,2036477234,1797285236]:Option ((List Int)))).bind fun x66 =>
  (Bj x65 0).bind fun x70 =>
   (Bj x65 1).bind fun x71 =>
    (Bj x65 2).bind fun x72 =>
     if (((List.length x66):Int)+(List.length [x64,x70,x71,x72]))*4≤140737488355328 then
      if (((List.length ([]:List Int)):Int)+(List.length (x66++[x64,x70,x71,x72])))*4≤140737488355328 then
       ((T0 x64 x66 x70 x71 x72 f9 0 (([]:List Int)++(x66++[x64,x70,x71,x72])):Option ((List Int)))).bind fun x73 =>
        ((Cd x64 x66 x70 x71 x72 x73 f9 0 ([]:List Int):Option ((List Int)))).bind fun x84 =>
         some x84
      else none
     else none
def Y1 (x59:List Int) (x60:Int) (x61:List Int) (x62:List Int):Nat->Int->(List Int)->(List Int)->Option ((Unit⊕(Unit⊕((List Int)×(List Int)))))
 |0,_,_,_=>none
 |n1+1,x65,x66,x67 =>
  cond (decide (x65<(List.length x62:Int)))
   (((if (0:Int)≤x65/\x65<(List.length x62:Int) then
    ((cond ((Int.tmod x65 64)==0)
     (nm ((IntKind.wrap .u32 (x60+(IntKind.wrap .u32 (IntKind.wrap .i64 (Int.tdiv x65 64))))):Int) fun x72 =>
     (Cx x59 x72 x61).bind fun x73 =>
      some (Sum.inl x73))
     (some (Sum.inr ())):Option ((((List Int))⊕Unit)))).bind fun r3_0_71=>match r3_0_71 with
    |(Sum.inl x71) =>
      if (0:Int)≤(Int.tmod x65 64)/\(Int.tmod x65 64)<((List.length x71):Int) then
       nm ((bits .u8 .xor (List.getD x62 (Int.toNat x65) 0) (List.getD x71 (Int.toNat (Int.tmod x65 64)) 0)):Int) fun x74 =>
       if (((List.length x66):Int)+(List.length [x74]))*1≤140737488355328 then
        some (Sum.inl ((x66++[x74]),x71))
       else none
      else none
    |(Sum.inr ()) =>
      if (0:Int)≤(Int.tmod x65 64)/\(Int.tmod x65 64)<((List.length x67):Int) then
       nm ((bits .u8 .xor (List.getD x62 (Int.toNat x65) 0) (List.getD x67 (Int.toNat (Int.tmod x65 64)) 0)):Int) fun x75 =>
       if (((List.length x66):Int)+(List.length [x75]))*1≤140737488355328 then
        some (Sum.inr (x66++[x75]))
       else none
      else none
   else none:Option ((((List Int)×(List Int))⊕(List Int))))).bind fun r2_0_70=>match r2_0_70 with
   |(Sum.inl (x68,x69)) =>
     Y1 x59 x60 x61 x62 n1 (IntKind.wrap .i64 (x65+1)) x68 x69
   |(Sum.inr x70) =>
     Y1 x59 x60 x61 x62 n1 (IntKind.wrap .i64 (x65+1)) x70 x67)
   (some (Sum.inr (Sum.inr (x66,x67))))
def Nd (x59:List Int) (x60:Int) (x61:List Int) (x62:List Int):Option ((List Int)) :=
 ((Y1 x59 x60 x61 x62 f9 0 ([]:List Int) ([]:List Int):Option ((Unit⊕(Unit⊕((List Int)×(List Int))))))).bind fun r1_0_64=>match r1_0_64 with
 |(Sum.inl ()) =>
   some ([]:List Int)
 |(Sum.inr (Sum.inl ())) =>
   some ([]:List Int)
 |(Sum.inr (Sum.inr (x63,x64))) =>
   some x63
def Y2:Nat->(List Int)->Option ((Unit⊕(List Int)))
 |0,_=>none
 |n1+1,x85 =>
  cond (!((Int.tmod ((List.length x85):Int) 16)==0))
   (if (((List.length x85):Int)+(List.length [0]))*1≤140737488355328 then
    Y2 n1 (x85++[0])
   else none)
   (some (Sum.inr x85))
def Iu (x83:List Int):Option ((List Int)) :=
 if (((List.length ([]:List Int)):Int)+(List.length x83))*1≤140737488355328 then
  ((Y2 f9 (([]:List Int)++x83):Option ((Unit⊕(List Int))))).bind fun r1_0_84=>match r1_0_84 with
  |(Sum.inl ()) =>
    some (([]:List Int)++x83)
  |(Sum.inr x84) =>
    some x84
 else none
def Ew (x89:Int):Nat->Int->Int->(List Int)->Option ((Unit⊕(List Int)))
 |0,_,_,_=>none
 |n1+1,x91,x92,x93 =>
  cond (decide (x92<x89))
   (if (((List.length x93):Int)+(List.length [(IntKind.wrap .u8 (Int.tmod x91 256))]))*1≤140737488355328 then
    Ew x89 n1 (IntKind.wrap .u64 (Int.tdiv x91 256)) (IntKind.wrap .i64 (x92+1)) (x93++[(IntKind.wrap .u8 (Int.tmod x91 256))])
   else none)
   (some (Sum.inr x93))
def Dk (x88:Int) (x89:Int):Option ((List Int)) :=
 ((Ew x89 f9 x88 0 ([]:List Int):Option ((Unit⊕(List Int))))).bind fun r1_0_90=>match r1_0_90 with
 |(Sum.inl ()) =>
   some ([]:List Int)
 |(Sum.inr x90) =>
   some x90
def P9 (x107:List Int):Nat->Nat->Option Nat
 |0,_=>none
 |n1+1,x109 =>
  cond (decide ((x109:Int)>0))
   (if (0:Int)≤(IntKind.wrap .i64 ((x109:Int)-1))/\(IntKind.wrap .i64 ((x109:Int)-1))<(x109:Int) then
    nm ((List.getD x107 (Int.toNat (IntKind.wrap .i64 ((x109:Int)-1))) 0):Int) fun x110 =>
    cond (x110==0)
     (if (IntKind.wrap .i64 ((x109:Int)-1))≤(x109:Int) then
      if (0:Int)≤(IntKind.wrap .i64 ((x109:Int)-1)) then
       P9 x107 n1 (Int.toNat ((IntKind.wrap .i64 ((x109:Int)-1))-0))
      else none
     else none)
     (some x109)
   else none)
   (some x109)
def B9 (x107:List Int):Option Nat :=
 ((P9 x107 f9 (List.length x107):Option Nat)).bind fun x108 =>
  some x108
def Q0 (x100:List Int):Nat->Int->(List Int)->Option ((Unit⊕(List Int)))
 |0,_,_=>none
 |n1+1,x102,x103 =>
  cond (decide (x102<(List.length x100:Int)))
   (if (0:Int)≤x102/\x102<(List.length x100:Int) then
    if (((List.length x103):Int)+(List.length [(IntKind.wrap .i64 (List.getD x100 (Int.toNat x102) 0))]))*8≤140737488355328 then
     nm ((x103++[(IntKind.wrap .i64 (List.getD x100 (Int.toNat x102) 0))]):List Int) fun x104 =>
     Q0 x100 n1 (IntKind.wrap .i64 (x102+1)) x104
    else none
   else none)
   (some (Sum.inr x103))
def Ap (x100:List Int):Option (Nat×(List Int)) :=
 ((Q0 x100 f9 0 ([]:List Int):Option ((Unit⊕(List Int))))).bind fun r1_0_101=>match r1_0_101 with
 |(Sum.inl ()) =>
   (B9 ([]:List Int)).bind fun x105 =>
    some (x105,([]:List Int))
 |(Sum.inr x101) =>
   (B9 x101).bind fun x106 =>
    some (x106,x101)
def J9 (x118:List Int):Nat->Int->Int->(List Int)->Option ((Unit⊕(List Int)))
 |0,_,_,_=>none
 |n1+1,x120,x121,x122 =>
  cond (decide (x121<(List.length x118:Int)))
   (((cond (decide (x121<(List.length x118:Int)))
    (if (0:Int)≤x121/\x121<(List.length x118:Int) then
     nm ((IntKind.wrap .i64 (x120+(List.getD x118 (Int.toNat x121) 0))):Int) fun x124 =>
     some x124
    else none)
    (some x120):Option Int)).bind fun x123 =>
    if (((List.length x122):Int)+(List.length [(Int.tmod x123 256)]))*8≤140737488355328 then
     J9 x118 n1 (IntKind.wrap .i64 (Int.tdiv x123 256)) (IntKind.wrap .i64 (x121+1)) (x122++[(Int.tmod x123 256)])
    else none)
   (cond (decide (x120>0))
    (((cond (decide (x121<(List.length x118:Int)))
     (if (0:Int)≤x121/\x121<(List.length x118:Int) then
      nm ((IntKind.wrap .i64 (x120+(List.getD x118 (Int.toNat x121) 0))):Int) fun x126 =>
      some x126
     else none)
     (some x120):Option Int)).bind fun x125 =>
     if (((List.length x122):Int)+(List.length [(Int.tmod x125 256)]))*8≤140737488355328 then
      J9 x118 n1 (IntKind.wrap .i64 (Int.tdiv x125 256)) (IntKind.wrap .i64 (x121+1)) (x122++[(Int.tmod x125 256)])
     else none)
    (some (Sum.inr x122)))
def Iv (x118:List Int):Option (Nat×(List Int)) :=
 ((J9 x118 f9 0 0 ([]:List Int):Option ((Unit⊕(List Int))))).bind fun r1_0_119=>match r1_0_119 with
 |(Sum.inl ()) =>
   (B9 ([]:List Int)).bind fun x127 =>
    some (x127,([]:List Int))
 |(Sum.inr x119) =>
   (B9 x119).bind fun x128 =>
    some (x128,x119)
def Aq (x113:List Int) (x115:Int):Nat->Int->(List Int)->Option ((List Int))
 |0,_,_=>none
 |n1+1,x117,x118 =>
  cond (decide (x117<(List.length x113:Int)))
   (if (0:Int)≤x117/\x117<(List.length x113:Int) then
    if (0:Int)≤x117/\x117<((List.length (List.replicate (Int.toNat x115) (0:Int))):Int) then
     nm ((IntKind.wrap .i64 ((List.getD x118 (Int.toNat x117) 0)+(List.getD x113 (Int.toNat x117) 0))):Int) fun x119 =>
     if (0:Int)≤x117/\x117<((List.length (List.replicate (Int.toNat x115) (0:Int))):Int) then
      Aq x113 x115 n1 (IntKind.wrap .i64 (x117+1)) (List.set x118 (Int.toNat x117) x119)
     else none
    else none
   else none)
   (some x118)
def Ar (x114:List Int) (x115:Int):Nat->Int->(List Int)->Option ((List Int))
 |0,_,_=>none
 |n2+1,x121,x122 =>
  cond (decide (x121<(List.length x114:Int)))
   (if (0:Int)≤x121/\x121<(List.length x114:Int) then
    if (0:Int)≤x121/\x121<((List.length (List.replicate (Int.toNat x115) (0:Int))):Int) then
     nm ((IntKind.wrap .i64 ((List.getD x122 (Int.toNat x121) 0)+(List.getD x114 (Int.toNat x121) 0))):Int) fun x123 =>
     if (0:Int)≤x121/\x121<((List.length (List.replicate (Int.toNat x115) (0:Int))):Int) then
      Ar x114 x115 n2 (IntKind.wrap .i64 (x121+1)) (List.set x122 (Int.toNat x121) x123)
     else none
    else none
   else none)
   (some x122)
def Hc (x113:List Int) (x114:List Int):Option (Nat×(List Int)) :=
 nm ((IntKind.wrap .i64 ((List.length x113:Int)+(List.length x114:Int))):Int) fun x115 =>
 if (0:Int)≤x115/\x115≤x115/\x115≤9223372036854775807/\x115*8≤140737488355328 then
  ((Aq x113 x115 f9 0 (List.replicate (Int.toNat x115) (0:Int)):Option ((List Int)))).bind fun x116 =>
   ((Ar x114 x115 f9 0 x116:Option ((List Int)))).bind fun x120 =>
    (Iv (List.take (List.length (List.replicate (Int.toNat x115) (0:Int))) x120)).bind fun r125=>match r125 with
    |(x124,x125) =>
      some (x124,x125)
 else none
def T1 (x128:List Int) (x129:List Int) (x130:Int) (x132:Int):Nat->Int->(List Int)->Option ((List Int))
 |0,_,_=>none
 |n2+1,x135,x136 =>
  cond (decide (x135<(List.length x129:Int)))
   (if (0:Int)≤x135/\x135<(List.length x129:Int) then
    if (0:Int)≤(IntKind.wrap .i64 (x132+x135))/\(IntKind.wrap .i64 (x132+x135))<((List.length (List.replicate (Int.toNat x130) (0:Int))):Int) then
     nm ((List.getD x136 (Int.toNat (IntKind.wrap .i64 (x132+x135))) 0):Int) fun x137 =>
     nm ((IntKind.wrap .i64 ((List.getD x128 (Int.toNat x132) 0)*(List.getD x129 (Int.toNat x135) 0))):Int) fun x138 =>
     if (0:Int)≤(IntKind.wrap .i64 (x132+x135))/\(IntKind.wrap .i64 (x132+x135))<((List.length (List.replicate (Int.toNat x130) (0:Int))):Int) then
      nm ((List.set x136 (Int.toNat (IntKind.wrap .i64 (x132+x135))) (IntKind.wrap .i64 (x137+x138))):List Int) fun x139 =>
      T1 x128 x129 x130 x132 n2 (IntKind.wrap .i64 (x135+1)) x139
     else none
    else none
   else none)
   (some x136)
def T2 (x128:List Int) (x129:List Int) (x130:Int):Nat->Int->(List Int)->Option ((List Int))
 |0,_,_=>none
 |n1+1,x132,x133 =>
  cond (decide (x132<(List.length x128:Int)))
   (if (0:Int)≤x132/\x132<(List.length x128:Int) then
    ((T1 x128 x129 x130 x132 f9 0 x133:Option ((List Int)))).bind fun x134 =>
     T2 x128 x129 x130 n1 (IntKind.wrap .i64 (x132+1)) x134
   else none)
   (some x133)
def Fu (x128:List Int) (x129:List Int):Option (Nat×(List Int)) :=
 nm ((IntKind.wrap .i64 ((List.length x128:Int)+(List.length x129:Int))):Int) fun x130 =>
 if (0:Int)≤x130/\x130≤x130/\x130≤9223372036854775807/\x130*8≤140737488355328 then
  ((T2 x128 x129 x130 f9 0 (List.replicate (Int.toNat x130) (0:Int)):Option ((List Int)))).bind fun x131 =>
   (Iv (List.take (List.length (List.replicate (Int.toNat x130) (0:Int))) x131)).bind fun r141=>match r141 with
   |(x140,x141) =>
     some (x140,x141)
 else none
def K6 (x145:List Int):Nat->Int->(List Int)->Option ((Unit⊕(List Int)))
 |0,_,_=>none
 |n1+1,x148,x149 =>
  cond (decide (x148<(List.length x145:Int)))
   (nm ((decide ((IntKind.wrap .i64 (x148+1))<(List.length x145:Int))):Bool) fun x150 =>
   ((cond x150
    (if (0:Int)≤(IntKind.wrap .i64 (x148+1))/\(IntKind.wrap .i64 (x148+1))<(List.length x145:Int) then
     nm ((List.getD x145 (Int.toNat (IntKind.wrap .i64 (x148+1))) 0):Int) fun x152 =>
     some x152
    else none)
    (some 0):Option Int)).bind fun x151 =>
    if (0:Int)≤x148/\x148<(List.length x145:Int) then
     nm ((IntKind.wrap .i64 (Int.tdiv (List.getD x145 (Int.toNat x148) 0) 4)):Int) fun x153 =>
     nm ((IntKind.wrap .i64 (x153+(IntKind.wrap .i64 ((Int.tmod x151 4)*64)))):Int) fun x154 =>
     if (((List.length x149):Int)+(List.length [x154]))*8≤140737488355328 then
      K6 x145 n1 (IntKind.wrap .i64 (x148+1)) (x149++[x154])
     else none
    else none)
   (some (Sum.inr x149))
def Hd (x145:List Int):Option ((Unit⊕(Nat×Nat×(List Int)×(List Int)))) :=
 cond (decide ((List.length x145:Int)<17))
  (some (Sum.inl ()))
  (if 17≤(List.length x145:Int) then
   if (((List.length ([]:List Int)):Int)+(List.length (List.take 17 x145)))*8≤140737488355328 then
    if (16:Int)<((List.length (([]:List Int)++(List.take 17 x145))):Int) then
     nm ((Int.tmod (List.getD (([]:List Int)++(List.take 17 x145)) 16 0) 4):Int) fun x146 =>
     if (16:Int)<((List.length (([]:List Int)++(List.take 17 x145))):Int) then
      ((K6 x145 f9 16 ([]:List Int):Option ((Unit⊕(List Int))))).bind fun r1_0_147=>match r1_0_147 with
      |(Sum.inl ()) =>
        (B9 ([]:List Int)).bind fun x155 =>
         (B9 (List.set (([]:List Int)++(List.take 17 x145)) 16 x146)).bind fun x156 =>
          some (Sum.inr (x155,x156,([]:List Int),(List.set (([]:List Int)++(List.take 17 x145)) 16 x146)))
      |(Sum.inr x147) =>
        (B9 x147).bind fun x157 =>
         (B9 (List.set (([]:List Int)++(List.take 17 x145)) 16 x146)).bind fun x158 =>
          some (Sum.inr (x157,x158,x147,(List.set (([]:List Int)++(List.take 17 x145)) 16 x146)))
     else none
    else none
   else none
  else none)
def A7 (x149:Nat) (x150:List Int):Nat->Int->(List Int)->Option ((Unit⊕(List Int)))
 |0,_,_=>none
 |n1+1,x153,x154 =>
  cond (decide (x153<(x149:Int)))
   (((cond (decide ((IntKind.wrap .i64 (x153+1))<(x149:Int)))
    (if (0:Int)≤(IntKind.wrap .i64 (x153+1))/\(IntKind.wrap .i64 (x153+1))<(x149:Int) then
     nm ((List.getD x150 (Int.toNat (IntKind.wrap .i64 (x153+1))) 0):Int) fun x156 =>
     some x156
    else none)
    (some 0):Option Int)).bind fun x155 =>
    if (0:Int)≤x153/\x153<(x149:Int) then
     nm ((IntKind.wrap .i64 (Int.tdiv (List.getD x150 (Int.toNat x153) 0) 4)):Int) fun x157 =>
     nm ((IntKind.wrap .i64 (x157+(IntKind.wrap .i64 ((Int.tmod x155 4)*64)))):Int) fun x158 =>
     if (((List.length x154):Int)+(List.length [x158]))*8≤140737488355328 then
      A7 x149 x150 n1 (IntKind.wrap .i64 (x153+1)) (x154++[x158])
     else none
    else none)
   (some (Sum.inr x154))
def O1 (x149:Nat) (x150:List Int):Option ((Unit⊕(Nat×Nat×(List Int)×(List Int)))) :=
 cond (decide ((x149:Int)<17))
  (some (Sum.inl ()))
  (if 17≤(x149:Int) then
   if (((List.length ([]:List Int)):Int)+(List.length (List.take 17 x150)))*8≤140737488355328 then
    if (16:Int)<((List.length (([]:List Int)++(List.take 17 x150))):Int) then
     nm ((Int.tmod (List.getD (([]:List Int)++(List.take 17 x150)) 16 0) 4):Int) fun x151 =>
     if (16:Int)<((List.length (([]:List Int)++(List.take 17 x150))):Int) then
      ((A7 x149 x150 f9 16 ([]:List Int):Option ((Unit⊕(List Int))))).bind fun r1_0_152=>match r1_0_152 with
      |(Sum.inl ()) =>
        (B9 ([]:List Int)).bind fun x159 =>
         (B9 (List.set (([]:List Int)++(List.take 17 x150)) 16 x151)).bind fun x160 =>
          some (Sum.inr (x159,x160,([]:List Int),(List.set (([]:List Int)++(List.take 17 x150)) 16 x151)))
      |(Sum.inr x152) =>
        (B9 x152).bind fun x161 =>
         (B9 (List.set (([]:List Int)++(List.take 17 x150)) 16 x151)).bind fun x162 =>
          some (Sum.inr (x161,x162,x152,(List.set (([]:List Int)++(List.take 17 x150)) 16 x151)))
     else none
    else none
   else none
  else none)
def W9:Nat->(List Int)->Option ((List Int))
 |0,_=>none
 |n1+1,x147 =>
  (Hd x147).bind fun r155=>match r155 with
  |(Sum.inl ()) =>
    some x147
  |(Sum.inr (x148,x149,x150,x151)) =>
    cond ((x148:Int)==0)
     (some x147)
     ((Fu (List.take x148 x150) [5]).bind fun r155=>match r155 with
     |(x152,x153) =>
       (Hc (List.take x149 x151) (List.take x152 x153)).bind fun r155=>match r155 with
       |(x154,x155) =>
         W9 n1 (List.take x154 x155))
def Nf (x145:List Int):Option ((((List Int))⊕(Nat×(List Int)))) :=
 ((W9 f9 x145:Option ((List Int)))).bind fun x146 =>
  (Hc x146 [5]).bind fun r161=>match r161 with
  |(x156,x157) =>
    (O1 x156 x157).bind fun r161=>match r161 with
    |(Sum.inl ()) =>
      some (Sum.inl x146)
    |(Sum.inr (x158,x159,x160,x161)) =>
      cond (decide ((x158:Int)>0))
       (some (Sum.inr (x159,x161)))
       (some (Sum.inl x146))
def R9 (x102:List Int):Nat->Int->(List Int)->Option ((List Int))
 |0,_,_=>none
 |n1+1,x105,x106 =>
  cond (decide (x105<((List.length [3,7,11,15]):Int)))
   (if (0:Int)≤x105/\x105<((List.length [3,7,11,15]):Int) then
    if (0:Int)≤(List.getD [3,7,11,15] (Int.toNat x105) 0)/\(List.getD [3,7,11,15] (Int.toNat x105) 0)<((List.length (([]:List Int)++(List.take 16 x102))):Int) then
     nm ((List.getD x106 (Int.toNat (List.getD [3,7,11,15] (Int.toNat x105) 0)) 0):Int) fun x107 =>
     if (0:Int)≤(List.getD [3,7,11,15] (Int.toNat x105) 0)/\(List.getD [3,7,11,15] (Int.toNat x105) 0)<((List.length (([]:List Int)++(List.take 16 x102))):Int) then
      nm ((List.set x106 (Int.toNat (List.getD [3,7,11,15] (Int.toNat x105) 0)) (Int.tmod x107 16)):List Int) fun x108 =>
      R9 x102 n1 (IntKind.wrap .i64 (x105+1)) x108
     else none
    else none
   else none)
   (some x106)
def X0 (x102:List Int):Nat->Int->(List Int)->Option ((List Int))
 |0,_,_=>none
 |n2+1,x110,x111 =>
  cond (decide (x110<((List.length [4,8,12]):Int)))
   (if (0:Int)≤x110/\x110<((List.length [4,8,12]):Int) then
    if (0:Int)≤(List.getD [4,8,12] (Int.toNat x110) 0)/\(List.getD [4,8,12] (Int.toNat x110) 0)<((List.length (([]:List Int)++(List.take 16 x102))):Int) then
     nm ((List.getD x111 (Int.toNat (List.getD [4,8,12] (Int.toNat x110) 0)) 0):Int) fun x112 =>
     nm ((IntKind.wrap .u8 ((IntKind.wrap .u8 (Int.tdiv x112 4))*4)):Int) fun x113 =>
     if (0:Int)≤(List.getD [4,8,12] (Int.toNat x110) 0)/\(List.getD [4,8,12] (Int.toNat x110) 0)<((List.length (([]:List Int)++(List.take 16 x102))):Int) then
      nm ((List.set x111 (Int.toNat (List.getD [4,8,12] (Int.toNat x110) 0)) x113):List Int) fun x114 =>
      X0 x102 n2 (IntKind.wrap .i64 (x110+1)) x114
     else none
    else none
   else none)
   (some x111)
def Dl (x103:List Int) (x115:Nat) (x116:List Int):Nat->(List Int)->Int->Option ((List Int))
 |0,_,_=>none
 |n3+1,x118,x119 =>
  cond (decide (x119<(List.length x103:Int)))
   (((nm ((decide ((IntKind.wrap .i64 (x119+16))>(List.length x103:Int))):Bool) fun x121 =>
   ((cond x121
    (some (List.length x103:Int))
    (some (IntKind.wrap .i64 (x119+16))):Option Int)).bind fun x122 =>
    if x122≤(List.length x103:Int) then
     if (0:Int)≤x119/\x119≤x122 then
      nm ((List.take (Int.toNat (x122-x119)) (List.drop (Int.toNat x119) x103)):List Int) fun x123 =>
      if (((List.length ([]:List Int)):Int)+(List.length x123))*1≤140737488355328 then
       if (((List.length (([]:List Int)++x123)):Int)+(List.length [1]))*1≤140737488355328 then
        (Ap ((([]:List Int)++x123)++[1])).bind fun r132=>match r132 with
        |(x124,x125) =>
          (Hc x118 (List.take x124 x125)).bind fun r132=>match r132 with
          |(x126,x127) =>
            (Fu (List.take x126 x127) (List.take x115 x116)).bind fun r132=>match r132 with
            |(x128,x129) =>
              (Nf (List.take x128 x129)).bind fun r132=>match r132 with
              |(Sum.inl x130) =>
                some x130
              |(Sum.inr (x131,x132)) =>
                some (List.take x131 x132)
       else none
      else none
     else none
    else none:Option ((List Int)))).bind fun x120 =>
    Dl x103 x115 x116 n3 x120 (IntKind.wrap .i64 (x119+16)))
   (some x118)
def As (x135:Nat) (x136:List Int):Nat->Int->(List Int)->Option ((List Int))
 |0,_,_=>none
 |n4+1,x138,x139 =>
  cond (decide (x138<16))
   (cond (decide (x138<(x135:Int)))
    (if (0:Int)≤x138/\x138<(x135:Int) then
     if (0:Int)≤x138/\x138<16 then
      nm ((List.set x139 (Int.toNat x138) (IntKind.wrap .u8 (List.getD x136 (Int.toNat x138) 0))):List Int) fun x140 =>
      As x135 x136 n4 (IntKind.wrap .i64 (x138+1)) x140
     else none
    else none)
    (some x139))
   (some x139)
def Ng (x102:List Int) (x103:List Int):Option ((List Int)) :=
 if (((List.length ([]:List Int)):Int)+(List.length (List.take 16 x102)))*1≤140737488355328 then
  ((R9 x102 f9 0 (([]:List Int)++(List.take 16 x102)):Option ((List Int)))).bind fun x104 =>
   ((X0 x102 f9 0 x104:Option ((List Int)))).bind fun x109 =>
    (Ap (List.take (List.length (([]:List Int)++(List.take 16 x102))) x109)).bind fun r140=>match r140 with
    |(x115,x116) =>
      ((Dl x103 x115 x116 f9 ([]:List Int) 0:Option ((List Int)))).bind fun x117 =>
       (Ap (List.take 16 (List.drop 16 x102))).bind fun r140=>match r140 with
       |(x133,x134) =>
         (Hc x117 (List.take x133 x134)).bind fun r140=>match r140 with
         |(x135,x136) =>
           ((As x135 x136 f9 0 (List.replicate 16 (0:Int)):Option ((List Int)))).bind fun x137 =>
            some x137
 else none
def Bk (x81:List Int):Nat->Int->(List Int)->Option ((List Int))
 |0,_,_=>none
 |n1+1,x83,x84 =>
  cond (decide (x83<((List.length x81):Int)))
   (if (0:Int)≤x83/\x83<((List.length x81):Int) then
    ((cond (decide (x83<32))
     (if (0:Int)≤x83/\x83<32 then
      nm ((List.set x84 (Int.toNat x83) (List.getD x81 (Int.toNat x83) 0)):List Int) fun x86 =>
      some x86
     else none)
     (some x84):Option ((List Int)))).bind fun x85 =>
     Bk x81 n1 (IntKind.wrap .i64 (x83+1)) x85
   else none)
   (some x84)
def Nh (x77:List Int) (x78:List Int) (x79:List Int) (x80:List Int):Option ((List Int)) :=
 (Cx x77 0 x78).bind fun x81 =>
  ((Bk x81 f9 0 (List.replicate 32 (0:Int)):Option ((List Int)))).bind fun x82 =>
   (Iu x79).bind fun x87 =>
    (Iu x80).bind fun x88 =>
     if (((List.length x87):Int)+(List.length x88))*1≤140737488355328 then
      (Dk (IntKind.wrap .u64 (List.length x79:Int)) 8).bind fun x89 =>
       if (((List.length (x87++x88)):Int)+(List.length x89))*1≤140737488355328 then
        (Dk (IntKind.wrap .u64 (List.length x80:Int)) 8).bind fun x90 =>
         if (((List.length ((x87++x88)++x89)):Int)+(List.length x90))*1≤140737488355328 then
          (Ng x82 (((x87++x88)++x89)++x90)).bind fun x91 =>
           some x91
         else none
       else none
     else none
def Fv (x55:List Int) (x56:List Int) (x57:List Int) (x58:List Int):Option (Int×(List Int)) :=
 cond (!((List.length x56:Int)==12))
  (some (4,([]:List Int)))
  (cond (decide ((List.length x57:Int)>16384))
   (some (3,([]:List Int)))
   (cond (decide ((List.length x58:Int)>16384))
    (some (3,([]:List Int)))
    ((Nd x55 1 x56 x58).bind fun x59 =>
     (Nh x55 x56 x57 x59).bind fun x60 =>
      if (((List.length x59):Int)+(List.length (List.take 16 x60)))*1≤140737488355328 then
       some (0,(x59++(List.take 16 x60)))
      else none)))
def Dm (x35:List Int) (x36:List Int) (x37:List Int) (x38:List Int) (x39:List Int):Option (Int×(List Int)) :=
 cond (decide ((List.length x36:Int)>16384))
  (some (3,([]:List Int)))
  ((Kh x35 x39).bind fun r46=>match r46 with
  |(x40,x41,x42) =>
    cond (!x42)
     (some (5,([]:List Int)))
     ((Ft x41 x36).bind fun r46=>match r46 with
     |(x43,x44) =>
       (Fv x43 (List.take (Int.toNat (12-0)) x44) x37 x38).bind fun r46=>match r46 with
       |(x45,x46) =>
         cond (!(x45==0))
          (some (x45,([]:List Int)))
          (if ((32:Int)+(List.length x46))*1≤140737488355328 then
           if 32≤(List.length x40) then
            some (0,((List.take 32 x40)++x46))
           else none
          else none)))
def Wf:Option Unit :=
 some ()
def Ge (x66:Nat) (x67:List Nat):Nat->Int->Option ((Unit⊕Int))
 |0,_=>none
 |n1+1,x69 =>
  cond (decide (x69<((List.length x67):Int)))
   (if (0:Int)≤x69/\x69<((List.length x67):Int) then
    (isM l37 x66 (List.getD x67 (Int.toNat x69) 0)).bind fun x70 =>
     cond x70
      (some (Sum.inr (IntKind.wrap .i64 (x69+1))))
      (Ge x66 x67 n1 (IntKind.wrap .i64 (x69+1)))
   else none)
   (some (Sum.inl ()))
def Au (x66:Nat):Option Int :=
 nm ([1,2,3,4,5,6,7,8,9,10,11,12,13,14,15,16,17,18,19]:List Nat) fun x67 =>
 ((Ge x66 x67 f9 0:Option ((Unit⊕Int)))).bind fun r1_0_68=>match r1_0_68 with
 |(Sum.inl ()) =>
   some (-1)
 |(Sum.inr x68) =>
   some x68
def Av (x1:List Int) (x2:z6) (x3:List Int):Option Bool :=
 (Kb).bind fun x4 =>
  cond (!x4)
   (some false)
   ((V4 x2).bind fun x5 =>
    cond x5
     (some true)
     (cond (decide ((List.length x3:Int)>17000))
      (some true)
      ((An x1 x2.fInfo x2.fWith x3 [x2.fSeed]).bind fun r28=>match r28 with
      |(Sum.inl x6) =>
        (Dm x1 x2.fInfo x2.fWith x3 x2.fSeed).bind fun r16=>match r16 with
        |(x7,x8) =>
          (Y8 x1 x2.fWith).bind fun r16=>match r16 with
          |(x9,x10,x11) =>
            (Ft x1 x2.fWith).bind fun r16=>match r16 with
            |(x12,x13) =>
              nm (((List.map (fun q:Int=>UInt8.ofNat q.toNat) x6)==(List.map (fun q:Int=>UInt8.ofNat q.toNat) x8)):Bool) fun x14 =>
              cond x14
               ((Wf).bind fun _ =>
                cond (0==x7)
                 (cond (x9==x12)
                  (nm ((List.map (fun q:Int=>UInt8.ofNat q.toNat) (List.take x10 x11)):List UInt8) fun x15 =>
                  nm ((List.map (fun q:Int=>UInt8.ofNat q.toNat) (List.take (Int.toNat (12-0)) x13)):List UInt8) fun x16 =>
                  some (x15==x16))
                  (some false))
                 (some false))
               (some false)
      |(Sum.inr x17) =>
        (Dm x1 x2.fInfo x2.fWith x3 x2.fSeed).bind fun r28=>match r28 with
        |(x18,x19) =>
          (Y8 x1 x2.fWith).bind fun r28=>match r28 with
          |(x20,x21,x22) =>
            (Ft x1 x2.fWith).bind fun r28=>match r28 with
            |(x23,x24) =>
              nm (((List.map (fun q:Int=>UInt8.ofNat q.toNat) [])==(List.map (fun q:Int=>UInt8.ofNat q.toNat) x19)):Bool) fun x25 =>
              cond x25
               ((Au x17).bind fun x26 =>
                cond (x26==x18)
                 (cond (x20==x23)
                  (nm ((List.map (fun q:Int=>UInt8.ofNat q.toNat) (List.take x21 x22)):List UInt8) fun x27 =>
                  nm ((List.map (fun q:Int=>UInt8.ofNat q.toNat) (List.take (Int.toNat (12-0)) x24)):List UInt8) fun x28 =>
                  some (x27==x28))
                  (some false))
                 (some false))
               (some false))))
end
end Go.Eng
