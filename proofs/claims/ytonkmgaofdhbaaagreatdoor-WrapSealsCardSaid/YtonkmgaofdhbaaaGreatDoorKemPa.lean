/-
  Part of a proof: KemPa.
-/
import Derived.Test.YtonkmgaofdhbaaaGreatDoorWrM
import Derived.KernelRfl
set_option linter.unusedVariables false
set_option linter.unusedSimpArgs false
namespace Go.Eng
set_option maxRecDepth 100000
set_option maxHeartbeats 1000000
theorem N2 {α β:Type} {o:Option α} {f:α->β} {b:β} (h:o.map f=some b):∃ r,o=some r/\f r=b:=by
 cases o with
 |none=>cases h
 |some r=>exact ⟨r,rfl,Option.some.inj h⟩
theorem q6 {n:Int} (h1 : -9223372036854775808≤n) (h2:n≤9223372036854775807):IntKind.i64.wrap n=n:=by
 unfold IntKind.wrap;simp [IntKind.bits,IntKind.signed];omega
theorem m6 {α β:Type} (a:α) (f:α->β):nm a f=f a:=rfl
theorem j7 {α:Type} {b:Bool} {x y:α} (h:b=true):cond b x y=x:=by rw [h];rfl
theorem i0 {α:Type} {b:Bool} {x y:α} (h:b=false):cond b x y=y:=by rw [h];rfl
theorem Jj (n:Nat) (h:n<18446744073709551616):∃ m,f9=m+1/\n≤m:=⟨18446744073709551615,rfl,by omega⟩
theorem Kv {α:Type} {l:List α} (h:l.length=5):∃ a0 a1 a2 a3 a4,l=[a0,a1,a2,a3,a4]:=by
 match l,h with
 |[a0,a1,a2,a3,a4],_=>exact ⟨a0,a1,a2,a3,a4,rfl⟩
theorem f23 {α:Type} {l:List α} (h:l.length=12):∃ a0 a1 a2 a3 a4 a5 a6 a7 a8 a9 a10 a11,l=[a0,a1,a2,a3,a4,a5,a6,a7,a8,a9,a10,a11]:=by
 match l,h with
 |[a0,a1,a2,a3,a4,a5,a6,a7,a8,a9,a10,a11],_=>exact ⟨a0,a1,a2,a3,a4,a5,a6,a7,a8,a9,a10,a11,rfl⟩
theorem h69 {α:Type} {l:List α} (h:l.length=16):∃ a0 a1 a2 a3 a4 a5 a6 a7 a8 a9 a10 a11 a12 a13 a14 a15,l=[a0,a1,a2,a3,a4,a5,a6,a7,a8,a9,a10,a11,a12,a13,a14,a15]:=by
 match l,h with
 |[a0,a1,a2,a3,a4,a5,a6,a7,a8,a9,a10,a11,a12,a13,a14,a15],_=>exact ⟨a0,a1,a2,a3,a4,a5,a6,a7,a8,a9,a10,a11,a12,a13,a14,a15,rfl⟩
theorem Jk {α:Type} {l:List α} (h:l.length=32):∃ a0 a1 a2 a3 a4 a5 a6 a7 a8 a9 a10 a11 a12 a13 a14 a15 a16 a17 a18 a19 a20 a21 a22 a23 a24 a25 a26 a27 a28 a29 a30 a31,l=[a0,a1,a2,a3,a4,a5,a6,a7,a8,a9,a10,a11,a12,a13,a14,a15,a16,a17,a18,a19,a20,a21,a22,a23,a24,a25,a26,a27,a28,a29,a30,a31]:=by
 match l,h with
 |[a0,a1,a2,a3,a4,a5,a6,a7,a8,a9,a10,a11,a12,a13,a14,a15,a16,a17,a18,a19,a20,a21,a22,a23,a24,a25,a26,a27,a28,a29,a30,a31],_=>exact ⟨a0,a1,a2,a3,a4,a5,a6,a7,a8,a9,a10,a11,a12,a13,a14,a15,a16,a17,a18,a19,a20,a21,a22,a23,a24,a25,a26,a27,a28,a29,a30,a31,rfl⟩
end Go.Eng
namespace Go.Eng
set_option maxRecDepth 100000
set_option maxHeartbeats 1000000
theorem Dx {α:Type} {l:List α} (h:l.length=10):∃ a0 a1 a2 a3 a4 a5 a6 a7 a8 a9,l=[a0,a1,a2,a3,a4,a5,a6,a7,a8,a9]:=by
 match l,h with
 |[a0,a1,a2,a3,a4,a5,a6,a7,a8,a9],_=>exact ⟨a0,a1,a2,a3,a4,a5,a6,a7,a8,a9,rfl⟩
theorem h70 {α:Type} {l:List α} (h:l.length=20):∃ a0 a1 a2 a3 a4 a5 a6 a7 a8 a9 b0 b1 b2 b3 b4 b5 b6 b7 b8 b9,l=[a0,a1,a2,a3,a4,a5,a6,a7,a8,a9,b0,b1,b2,b3,b4,b5,b6,b7,b8,b9]:=by
 match l,h with
 |[a0,a1,a2,a3,a4,a5,a6,a7,a8,a9,b0,b1,b2,b3,b4,b5,b6,b7,b8,b9],_=>exact ⟨a0,a1,a2,a3,a4,a5,a6,a7,a8,a9,b0,b1,b2,b3,b4,b5,b6,b7,b8,b9,rfl⟩
def Bs:Int->List Int->Int×List Int
 |c,[]=>(c,[])
 |c,x::xs=>((Bs (Int.fdiv (IntKind.wrap .u64 (x+c)) (2^26)) xs).1,bits .u64 .and (IntKind.wrap .u64 (x+c)) 67108863::(Bs (Int.fdiv (IntKind.wrap .u64 (x+c)) (2^26)) xs).2)
def Qh (x:Int):List Int->List Int->List Int
 |[],ws=>ws
 |_::_,[]=>[]
 |y::ys,w::ws=>IntKind.wrap .u64 (w+IntKind.wrap .u64 (x*y))::Qh x ys ws
def Nw (ys:List Int):List Int->List Int->List Int
 |[],ws=>ws
 |_::_,[]=>[]
 |x::xs,w::ws=>match Qh x ys (w::ws) with
  |[]=>[]
  |r::rs=>r::Nw ys xs rs
theorem j45 (a0 a1 a2 a3 a4 a5 a6 a7 a8 a9 b0 b1 b2 b3 b4 b5 b6 b7 b8 b9:Int):H7 ⟨[a0,a1,a2,a3,a4,a5,a6,a7,a8,a9]⟩ ⟨[b0,b1,b2,b3,b4,b5,b6,b7,b8,b9]⟩ f9 0 (List.replicate 20 0)=some (Nw [b0,b1,b2,b3,b4,b5,b6,b7,b8,b9] [a0,a1,a2,a3,a4,a5,a6,a7,a8,a9] (List.replicate 20 0)):=by kernel_rfl
def Uy:Int->List Int->List Int
 |_,[]=>[]
 |c,[x]=>[IntKind.wrap .u64 (x+c)]
 |c,x::y::xs=>bits .u64 .and (IntKind.wrap .u64 (x+c)) 67108863::Uy (Int.fdiv (IntKind.wrap .u64 (x+c)) (2^26)) (y::xs)
def Cr:List Int->List Int
 |[]=>[]
 |[x]=>[x]
 |x::y::xs=>bits .u64 .and x 67108863::Uy (Int.fdiv x (2^26)) (y::xs)
theorem j46 (a0 a1 a2 a3 a4 a5 a6 a7 a8 a9 b0 b1 b2 b3 b4 b5 b6 b7 b8 b9:Int):H8 f9 0 ([a0,a1,a2,a3,a4,a5,a6,a7,a8,a9]++[b0,b1,b2,b3,b4,b5,b6,b7,b8,b9])=some (Cr ([a0,a1,a2,a3,a4,a5,a6,a7,a8,a9]++[b0,b1,b2,b3,b4,b5,b6,b7,b8,b9])):=by kernel_rfl
def Fx:List Int->List Int->List Int
 |x::xs,y::ys=>IntKind.wrap .u64 (x+IntKind.wrap .u64 (608*y))::Fx xs ys
 |_,_=>[]
theorem j47 (a0 a1 a2 a3 a4 a5 a6 a7 a8 a9 b0 b1 b2 b3 b4 b5 b6 b7 b8 b9:Int):H9 ([a0,a1,a2,a3,a4,a5,a6,a7,a8,a9]++[b0,b1,b2,b3,b4,b5,b6,b7,b8,b9]) f9 0 (List.replicate 10 0)=some (Fx [a0,a1,a2,a3,a4,a5,a6,a7,a8,a9] [b0,b1,b2,b3,b4,b5,b6,b7,b8,b9]):=by kernel_rfl
def Qi:List Int->List Int->List Int
 |x::xs,y::ys=>IntKind.wrap .u64 (x+y)::Qi xs ys
 |_,_=>[]
theorem j48 (a0 a1 a2 a3 a4 a5 a6 a7 a8 a9 b0 b1 b2 b3 b4 b5 b6 b7 b8 b9:Int):L1 ⟨[b0,b1,b2,b3,b4,b5,b6,b7,b8,b9]⟩ f9 0 [a0,a1,a2,a3,a4,a5,a6,a7,a8,a9]=some (Qi [a0,a1,a2,a3,a4,a5,a6,a7,a8,a9] [b0,b1,b2,b3,b4,b5,b6,b7,b8,b9]):=by kernel_rfl
def b88:List Int->List Int->List Int->List Int
 |x::xs,y::ys,m::ms=>IntKind.wrap .u64 (x+IntKind.wrap .u64 (m-y))::b88 xs ys ms
 |_,_,_=>[]
theorem j49 (a0 a1 a2 a3 a4 a5 a6 a7 a8 a9 b0 b1 b2 b3 b4 b5 b6 b7 b8 b9:Int):L0 ⟨[b0,b1,b2,b3,b4,b5,b6,b7,b8,b9]⟩ f9 0 [a0,a1,a2,a3,a4,a5,a6,a7,a8,a9]=some (b88 [a0,a1,a2,a3,a4,a5,a6,a7,a8,a9] [b0,b1,b2,b3,b4,b5,b6,b7,b8,b9] E8):=by kernel_rfl
theorem i70 (a0 a1 a2 a3 a4 a5 a6 a7 a8 a9:Int):K5 f9 0 [a0,a1,a2,a3,a4,a5,a6,a7,a8,a9]=some (Cr [a0,a1,a2,a3,a4,a5,a6,a7,a8,a9]):=by kernel_rfl
theorem h71 (a0 a1 a2 a3 a4 a5 a6 a7 a8 a9:Int):M3 f9 0 [a0,a1,a2,a3,a4,a5,a6,a7,a8,a9]=some (Cr [a0,a1,a2,a3,a4,a5,a6,a7,a8,a9]):=by kernel_rfl
theorem i71 (a0 a1 a2 a3 a4 a5 a6 a7 a8 a9 b0 b1 b2 b3 b4 b5 b6 b7 b8 b9:Int):N7 true ⟨[b0,b1,b2,b3,b4,b5,b6,b7,b8,b9]⟩ f9 0 [a0,a1,a2,a3,a4,a5,a6,a7,a8,a9]=some (([a0,a1,a2,a3,a4,a5,a6,a7,a8,a9]).zipWith (fun x y=>bits .u64 .or (bits .u64 .and x 18446744073709551615) (bits .u64 .andNot y 18446744073709551615)) [b0,b1,b2,b3,b4,b5,b6,b7,b8,b9]):=by kernel_rfl
theorem i72 (a0 a1 a2 a3 a4 a5 a6 a7 a8 a9 b0 b1 b2 b3 b4 b5 b6 b7 b8 b9:Int):N7 false ⟨[b0,b1,b2,b3,b4,b5,b6,b7,b8,b9]⟩ f9 0 [a0,a1,a2,a3,a4,a5,a6,a7,a8,a9]=some (([a0,a1,a2,a3,a4,a5,a6,a7,a8,a9]).zipWith (fun x y=>bits .u64 .or (bits .u64 .and x 0) (bits .u64 .andNot y 0)) [b0,b1,b2,b3,b4,b5,b6,b7,b8,b9]):=by kernel_rfl
end Go.Eng
namespace Go.Eng
set_option maxRecDepth 100000
set_option maxHeartbeats 1000000
theorem Ow {α:Type} {l:List α} (h:l.length=8):∃ a0 a1 a2 a3 a4 a5 a6 a7,l=[a0,a1,a2,a3,a4,a5,a6,a7]:=by
 match l,h with
 |[a0,a1,a2,a3,a4,a5,a6,a7],_=>exact ⟨a0,a1,a2,a3,a4,a5,a6,a7,rfl⟩
def c37:List Int->List Int->Bool
 |x::xs,y::ys=>cond (x==y) (c37 xs ys) (decide (x<y))
 |_,_=>false
theorem h72 (a0 a1 a2 a3 a4 a5 a6 a7 b0 b1 b2 b3 b4 b5 b6 b7:Int):Ip [a0,a1,a2,a3,a4,a5,a6,a7] [b0,b1,b2,b3,b4,b5,b6,b7]=some (c37 [a7,a6,a5,a4,a3,a2,a1,a0] [b7,b6,b5,b4,b3,b2,b1,b0]):=by
 unfold Ip
 have h:Eu [a0,a1,a2,a3,a4,a5,a6,a7] [b0,b1,b2,b3,b4,b5,b6,b7] f9 7=cond (!(a7==b7)) (some (.inr (decide (a7<b7)))) (cond (!(a6==b6)) (some (.inr (decide (a6<b6)))) (cond (!(a5==b5)) (some (.inr (decide (a5<b5)))) (cond (!(a4==b4)) (some (.inr (decide (a4<b4)))) (cond (!(a3==b3)) (some (.inr (decide (a3<b3)))) (cond (!(a2==b2)) (some (.inr (decide (a2<b2)))) (cond (!(a1==b1)) (some (.inr (decide (a1<b1)))) (cond (!(a0==b0)) (some (.inr (decide (a0<b0)))) (some (.inl ()))))))))):=by kernel_rfl
 rw [h]
 simp only [c37]
 cases a7==b7<;>cases a6==b6<;>cases a5==b5<;>cases a4==b4<;>cases a3==b3<;>cases a2==b2<;>cases a1==b1<;>cases a0==b0<;>rfl
def Yq:Int->List Int->List Int->List Int
 |o,x::xs,y::ys=>IntKind.wrap .u32 (IntKind.wrap .u64 (IntKind.wrap .u64 (IntKind.wrap .u64 (IntKind.wrap .u64 x+4294967296)-IntKind.wrap .u64 y)-o))::Yq (IntKind.wrap .u64 (1-Int.fdiv (IntKind.wrap .u64 (IntKind.wrap .u64 (IntKind.wrap .u64 (IntKind.wrap .u64 x+4294967296)-IntKind.wrap .u64 y)-o)) (2^32))) xs ys
 |_,_,_=>[]
theorem g65 (a0 a1 a2 a3 a4 a5 a6 a7 b0 b1 b2 b3 b4 b5 b6 b7:Int):Cv [a0,a1,a2,a3,a4,a5,a6,a7] [b0,b1,b2,b3,b4,b5,b6,b7]=some (Yq 0 [a0,a1,a2,a3,a4,a5,a6,a7] [b0,b1,b2,b3,b4,b5,b6,b7]):=by kernel_rfl
def Kw:Int->List Int->List Int->Int×List Int
 |c,x::xs,y::ys=>((Kw (Int.fdiv (IntKind.wrap .u64 (IntKind.wrap .u64 (IntKind.wrap .u64 x+IntKind.wrap .u64 (38*IntKind.wrap .u64 y))+c)) (2^32)) xs ys).1,IntKind.wrap .u32 (IntKind.wrap .u64 (IntKind.wrap .u64 (IntKind.wrap .u64 x+IntKind.wrap .u64 (38*IntKind.wrap .u64 y))+c))::(Kw (Int.fdiv (IntKind.wrap .u64 (IntKind.wrap .u64 (IntKind.wrap .u64 x+IntKind.wrap .u64 (38*IntKind.wrap .u64 y))+c)) (2^32)) xs ys).2)
 |c,_,_=>(c,[])
theorem d92 (a0 a1 a2 a3 a4 a5 a6 a7 b0 b1 b2 b3 b4 b5 b6 b7:Int):Bg ([a0,a1,a2,a3,a4,a5,a6,a7]++[b0,b1,b2,b3,b4,b5,b6,b7]) f9 0 0 (List.replicate 8 0)=some (Kw 0 [a0,a1,a2,a3,a4,a5,a6,a7] [b0,b1,b2,b3,b4,b5,b6,b7]):=by kernel_rfl
def Mj:Int->List Int->Int×List Int
 |c,x::xs=>((Mj (Int.fdiv (IntKind.wrap .u64 (c+IntKind.wrap .u64 x)) (2^32)) xs).1,IntKind.wrap .u32 (IntKind.wrap .u64 (c+IntKind.wrap .u64 x))::(Mj (Int.fdiv (IntKind.wrap .u64 (c+IntKind.wrap .u64 x)) (2^32)) xs).2)
 |c,[]=>(c,[])
theorem d93 (c:Int) (a0 a1 a2 a3 a4 a5 a6 a7:Int):Bh f9 c 0 [a0,a1,a2,a3,a4,a5,a6,a7]=some (Mj c [a0,a1,a2,a3,a4,a5,a6,a7]):=by kernel_rfl
def Hn:Int->List Int->List Int->Int×List Int
 |c,x::xs,y::ys=>((Hn (Int.fdiv (IntKind.wrap .u64 (IntKind.wrap .u64 (IntKind.wrap .u64 x+IntKind.wrap .u64 y)+c)) (2^32)) xs ys).1,IntKind.wrap .u32 (IntKind.wrap .u64 (IntKind.wrap .u64 (IntKind.wrap .u64 x+IntKind.wrap .u64 y)+c))::(Hn (Int.fdiv (IntKind.wrap .u64 (IntKind.wrap .u64 (IntKind.wrap .u64 x+IntKind.wrap .u64 y)+c)) (2^32)) xs ys).2)
 |c,_,_=>(c,[])
theorem f24 (a0 a1 a2 a3 a4 a5 a6 a7 b0 b1 b2 b3 b4 b5 b6 b7:Int):Di [a0,a1,a2,a3,a4,a5,a6,a7] [b0,b1,b2,b3,b4,b5,b6,b7] f9 0 0 (List.replicate 16 0)=some ((Hn 0 [a0,a1,a2,a3,a4,a5,a6,a7] [b0,b1,b2,b3,b4,b5,b6,b7]).1,(Hn 0 [a0,a1,a2,a3,a4,a5,a6,a7] [b0,b1,b2,b3,b4,b5,b6,b7]).2++List.replicate 8 0):=by kernel_rfl
def i73 (x:Int):Int->List Int->List Int->List Int
 |_,_,[]=>[]
 |c,[],_::ws=>IntKind.wrap .u32 c::ws
 |c,y::ys,w::ws=>IntKind.wrap .u32 (IntKind.wrap .u64 (IntKind.wrap .u64 (IntKind.wrap .u64 (IntKind.wrap .u64 x*IntKind.wrap .u64 y)+IntKind.wrap .u64 w)+c))::i73 x (Int.fdiv (IntKind.wrap .u64 (IntKind.wrap .u64 (IntKind.wrap .u64 (IntKind.wrap .u64 x*IntKind.wrap .u64 y)+IntKind.wrap .u64 w)+c)) (2^32)) ys ws
def Nx (ys:List Int):List Int->List Int->List Int
 |[],ws=>ws
 |x::xs,ws=>match i73 x 0 ys ws with
  |[]=>[]
  |r::rs=>r::Nx ys xs rs
theorem d11 (a0 a1 a2 a3 a4 a5 a6 a7 b0 b1 b2 b3 b4 b5 b6 b7:Int):Z0 [a0,a1,a2,a3,a4,a5,a6,a7] [b0,b1,b2,b3,b4,b5,b6,b7] f9 0 (List.replicate 16 0)=some (Nx [b0,b1,b2,b3,b4,b5,b6,b7] [a0,a1,a2,a3,a4,a5,a6,a7] (List.replicate 16 0)):=by kernel_rfl
end Go.Eng
namespace Go.Eng
set_option maxRecDepth 100000
set_option maxHeartbeats 1000000
theorem i74 (n:Int):IntKind.u64.wrap n=n%18446744073709551616:=by simp [IntKind.wrap,IntKind.bits,IntKind.signed]
theorem Te (n:Int):IntKind.u32.wrap n=n%4294967296:=by simp [IntKind.wrap,IntKind.bits,IntKind.signed]
theorem wu8 (n:Int):IntKind.u8.wrap n=n%256:=by simp [IntKind.wrap,IntKind.bits,IntKind.signed]
theorem A4 {n:Int} (h:0≤n) (h1:n<18446744073709551616):IntKind.u64.wrap n=n:=by rw [i74,Int.emod_eq_of_lt h h1]
theorem h73 {n:Int} (h:0≤n) (h1:n<4294967296):IntKind.u32.wrap n=n:=by rw [Te,Int.emod_eq_of_lt h h1]
theorem Jl {n m:Nat} (hn:n<18446744073709551616) (hm:m<18446744073709551616):bits .u64 .and (n:Int) (m:Int)=((n&&&m:Nat):Int):=by
 show IntKind.u64.wrap (((BitVec.ofInt 64 n&&&BitVec.ofInt 64 m:BitVec 64).toNat:Nat):Int)=_
 rw [BitVec.ofInt_natCast,BitVec.ofInt_natCast,BitVec.toNat_and,BitVec.toNat_ofNat,BitVec.toNat_ofNat,i74]
 simp only [Nat.reducePow]
 rw [Nat.mod_eq_of_lt hn,Nat.mod_eq_of_lt hm,Int.emod_eq_of_lt (by omega)]
 have:=Nat.and_le_left (n:=n) (m:=m)
 omega
theorem Mk {n m:Nat} (hn:n<18446744073709551616) (hm:m<18446744073709551616):bits .u64 .or (n:Int) (m:Int)=((n|||m:Nat):Int):=by
 show IntKind.u64.wrap (((BitVec.ofInt 64 n|||BitVec.ofInt 64 m:BitVec 64).toNat:Nat):Int)=_
 rw [BitVec.ofInt_natCast,BitVec.ofInt_natCast,BitVec.toNat_or,BitVec.toNat_ofNat,BitVec.toNat_ofNat,i74]
 simp only [Nat.reducePow]
 rw [Nat.mod_eq_of_lt hn,Nat.mod_eq_of_lt hm,Int.emod_eq_of_lt (by omega)]
 have:=Nat.or_lt_two_pow (n:=64) hn hm
 omega
theorem a91 {x:Int} (h:0≤x) (h1:x<18446744073709551616):bits .u64 .and x 67108863=x%67108864:=by
 obtain ⟨n,rfl⟩:=Int.eq_ofNat_of_zero_le h
 have:=Jl (n:=n) (m:=67108863) (by omega) (by omega)
 rw [show ((67108863:Nat):Int)=67108863 from rfl] at this
 rw [this,show (67108863:Nat)=2^26-1 from rfl,Nat.and_two_pow_sub_one_eq_mod]
 omega
theorem h74 {x:Int} (h:0≤x) (h1:x<18446744073709551616):bits .u64 .and x 2097151=x%2097152:=by
 obtain ⟨n,rfl⟩:=Int.eq_ofNat_of_zero_le h
 have:=Jl (n:=n) (m:=2097151) (by omega) (by omega)
 rw [show ((2097151:Nat):Int)=2097151 from rfl] at this
 rw [this,show (2097151:Nat)=2^21-1 from rfl,Nat.and_two_pow_sub_one_eq_mod]
 omega
theorem d12 (x:Int):Int.fdiv x (2^26)=x/67108864:=by
 rw [Int.fdiv_eq_ediv_of_nonneg x (by decide)];rfl
theorem h75 (x:Int):Int.fdiv x (2^21)=x/2097152:=by
 rw [Int.fdiv_eq_ediv_of_nonneg x (by decide)];rfl
theorem a92 (x:Int):Int.fdiv x (2^32)=x/4294967296:=by
 rw [Int.fdiv_eq_ediv_of_nonneg x (by decide)];rfl
def m4:List Int->Int
 |[]=>0
 |x::xs=>x+67108864*m4 xs
def p9 (n:Int):List Int->Prop
 |[]=>True
 |x::xs=>(0≤x/\x<n)/\p9 n xs
theorem p9.mono {n m:Int} (h:n≤m):∀ {l:List Int},p9 n l->p9 m l
 |[],_=>trivial
 |_::_,⟨⟨a,b⟩,c⟩=>⟨⟨a,by omega⟩,c.mono h⟩
theorem p9.get {n:Int}:∀ {l:List Int},p9 n l->∀ x∈l,0≤x/\x<n
 |_::_,⟨a,c⟩,x,h=>by
  rcases List.mem_cons.1 h with rfl|h
  ·exact a
  ·exact c.get x h
theorem Ny {n:Int}:∀ {l:List Int},(∀ x∈l,0≤x/\x<n)->p9 n l
 |[],_=>trivial
 |x::_,h=>⟨h x (List.mem_cons_self ..),Ny fun y hy=>h y (List.mem_cons_of_mem _ hy)⟩
theorem J7 {n:Int}:∀ {l:List Int},p9 n l->0≤m4 l
 |[],_=>Int.le_refl 0
 |_::_,⟨a,c⟩=>by have:=J7 c;simp only [m4];omega
theorem Il:∀ (l:List Int) (c:Int),p9 9223372036854775808 l->0≤c->c<274877906944 ->
  m4 l+c=m4 (Bs c l).2+67108864^l.length*(Bs c l).1/\p9 67108864 (Bs c l).2/\(Bs c l).2.length=l.length/\0≤(Bs c l).1/\(Bs c l).1<274877906944
 |[],c,_,h,h'=>by simp [Bs,m4,p9,h];assumption
 |x::xs,c,⟨⟨h1,h2⟩,h3⟩,h4,h5=>by
  have e:IntKind.u64.wrap (x+c)=x+c:=A4 (by omega) (by omega)
  have e2:bits .u64 .and (x+c) 67108863=(x+c)%67108864:=a91 (by omega) (by omega)
  have ih:=Il xs ((x+c)/67108864) h3 (by omega) (by omega)
  have hp:(67108864:Int)^(xs.length+1)=67108864^xs.length*67108864:=Int.pow_succ ..
  simp only [Bs,e,e2,d12,m4,List.length_cons,hp,p9] at ih ⊢
  obtain ⟨i1,i2,i3,i4,i5⟩:=ih
  refine ⟨?_,⟨⟨by omega,by omega⟩,i2⟩,by rw [i3],i4,i5⟩
  generalize Bs ((x+c)/67108864) xs=r at *
  rw [show (67108864:Int)^xs.length*67108864*r.1=67108864*(67108864^xs.length*r.1) by rw [Int.mul_comm (67108864^xs.length) 67108864,Int.mul_assoc]]
  generalize (67108864:Int)^xs.length*r.1=z at *
  omega
theorem Dy:∀ {l:List Int},p9 67108864 l->m4 l<67108864^l.length
 |[],_=>by decide
 |x::xs,⟨a,c⟩=>by
  have:=Dy c
  have hp:(67108864:Int)^(xs.length+1)=67108864^xs.length*67108864:=Int.pow_succ ..
  simp only [m4,List.length_cons,hp];omega
abbrev PP:Int:=57896044618658097711785492504343953926634992332820282019728792003956564819949
theorem Hi:(67108864:Int)^10=1852673427797059126777135760139006525652319754650249024631321344126610074238976:=by decide
def a93 (r:Int×List Int):List Int:=List.set r.2 0 (IntKind.wrap .u64 (List.getD r.2 0 0+IntKind.wrap .u64 (608*r.1)))
theorem d94 {o:Int} {l:List Int} (h:p9 67108864 l) (hn:l.length=10) (h0:0≤o) (h1:o<274877906944) :
  m4 (a93 (o,l))=m4 l+608*o/\p9 9223372036854775808 (a93 (o,l))/\(a93 (o,l)).length=10:=by
 match l,h,hn with
 |x::xs,⟨⟨a,b⟩,c⟩,hn =>
  have e1:IntKind.u64.wrap (608*o)=608*o:=A4 (by omega) (by omega)
  have e2:IntKind.u64.wrap (x+608*o)=x+608*o:=A4 (by omega) (by omega)
  simp only [a93,List.getD_cons_zero,e1,e2,List.set_cons_zero,m4,p9,List.length_cons] at hn ⊢
  exact ⟨by omega,⟨⟨by omega,by omega⟩,c.mono (by omega)⟩,by omega⟩
def Dz (l:List Int):List Int:=a93 (Bs 0 (a93 (Bs 0 (a93 (Bs 0 l)))))
theorem Uz {l:List Int} (hn:l.length=10):F3 ⟨l⟩=some ⟨Dz l⟩:=by
 obtain ⟨a0,a1,a2,a3,a4,a5,a6,a7,a8,a9,rfl⟩:=Dx hn
 kernel_rfl
theorem Kx {l:List Int} (h:p9 9223372036854775808 l) (hn:l.length=10) :
  m4 (Dz l)%PP=m4 l%PP/\p9 67108864 (Dz l)/\(Dz l).length=10:=by
 obtain ⟨a1,a2,a3,a4,a5⟩:=Il l 0 h (by decide) (by decide)
 rw [hn] at a1 a3
 have a6:=J7 a2
 have a7:=Dy a2
 rw [a3,Hi] at a7
 rw [Hi] at a1
 obtain ⟨b1,b2,b3⟩:=d94 a2 a3 a4 a5
 unfold Dz
 generalize hl1:Bs 0 l=r1 at *
 obtain ⟨o1,l1⟩:=r1
 generalize hb1:a93 (o1,l1)=m1 at *
 obtain ⟨c1,c2,c3,c4,c5⟩:=Il m1 0 b2 (by decide) (by decide)
 rw [b3] at c1 c3
 have c6:=J7 c2
 have c7:=Dy c2
 rw [c3,Hi] at c7
 rw [Hi] at c1
 obtain ⟨d1,d2,d3⟩:=d94 c2 c3 c4 c5
 generalize hl2:Bs 0 m1=r2 at *
 obtain ⟨o2,l2⟩:=r2
 generalize hb2:a93 (o2,l2)=m2 at *
 obtain ⟨e1,e2,e3,e4,e5⟩:=Il m2 0 d2 (by decide) (by decide)
 rw [d3] at e1 e3
 have e6:=J7 e2
 have e7:=Dy e2
 rw [e3,Hi] at e7
 rw [Hi] at e1
 generalize hl3:Bs 0 m2=r3 at *
 obtain ⟨o3,l3⟩:=r3
 simp only at *
 have z:o3=0:=by omega
 subst z
 have f:a93 (0,l3)=l3:=by
  match l3,e2,e3 with
  |x::xs,⟨⟨a,b⟩,c⟩,hn =>
   simp only [a93,List.getD_cons_zero,List.set_cons_zero,Int.mul_zero]
   rw [show IntKind.u64.wrap 0=0 from rfl,Int.add_zero,A4 a (by omega)]
 rw [f]
 exact ⟨by unfold PP;omega,e2,e3⟩
end Go.Eng
namespace Go.Eng
set_option maxRecDepth 100000
set_option maxHeartbeats 1000000
theorem d95:∀ (a b:List Int),a.length=b.length->p9 67108864 a->p9 67108864 b ->
  m4 (Qi a b)=m4 a+m4 b/\p9 9223372036854775808 (Qi a b)/\(Qi a b).length=a.length
 |[],[],_,_,_=>by simp [Qi,m4,p9]
 |x::xs,y::ys,h,⟨⟨p1,p2⟩,p3⟩,⟨⟨q1,q2⟩,q3⟩=>by
  obtain ⟨i1,i2,i3⟩:=d95 xs ys (by simpa using h) p3 q3
  simp only [Qi,m4,p9,List.length_cons,i1,i3,A4 (n:=x+y) (by omega) (by omega)]
  exact ⟨by omega,⟨⟨by omega,by omega⟩,i2⟩,trivial⟩
def Big:List Int->Prop
 |[]=>True
 |x::xs=>(67108864≤x/\x<134217728)/\Big xs
theorem d96:∀ (a b m:List Int),a.length=b.length->a.length=m.length->p9 67108864 a->p9 67108864 b->Big m ->
  m4 (b88 a b m)=m4 a+m4 m-m4 b/\p9 9223372036854775808 (b88 a b m)/\(b88 a b m).length=a.length
 |[],[],[],_,_,_,_,_=>by simp [b88,m4,p9]
 |x::xs,y::ys,m::ms,h,h',⟨⟨p1,p2⟩,p3⟩,⟨⟨q1,q2⟩,q3⟩,⟨⟨r1,r2⟩,r3⟩=>by
  obtain ⟨i1,i2,i3⟩:=d96 xs ys ms (by simpa using h) (by simpa using h') p3 q3 r3
  simp only [b88,m4,p9,List.length_cons,i1,i3,A4 (n:=m-y) (by omega) (by omega),A4 (n:=x+(m-y)) (by omega) (by omega)]
  exact ⟨by omega,⟨⟨by omega,by omega⟩,i2⟩,trivial⟩
theorem a94 (x:Int) (hx:0≤x) (hx':x<67108864) (N:Int) (hN:N+4503599627370496≤18446744073709551616):∀ (ys ws:List Int),ys.length≤ws.length->p9 67108864 ys->p9 N ws ->
  m4 (Qh x ys ws)=m4 ws+x*m4 ys/\p9 (N+4503599627370496) (Qh x ys ws)/\(Qh x ys ws).length=ws.length
 |[],ws,_,_,h=>by simp only [Qh,m4,Int.mul_zero,Int.add_zero,true_and];exact ⟨h.mono (by omega),trivial⟩
 |y::ys,w::ws,h,⟨⟨p1,p2⟩,p3⟩,⟨⟨q1,q2⟩,q3⟩=>by
  obtain ⟨i1,i2,i3⟩:=a94 x hx hx' N hN ys ws (by simpa using h) p3 q3
  have m0:0≤x*y:=Int.mul_nonneg hx p1
  have m1:x*y≤67108863*67108863:=Int.mul_le_mul (by omega) (by omega) p1 (by decide)
  simp only [Qh,m4,p9,List.length_cons,i1,i3,A4 (n:=x*y) (by omega) (by omega),A4 (n:=w+x*y) (by omega) (by omega)]
  refine ⟨?_,⟨⟨by omega,by omega⟩,i2⟩,trivial⟩
  rw [Int.mul_add,Int.mul_add,Int.mul_left_comm x];omega
theorem a95 (ys:List Int) (hy:p9 67108864 ys) (hy0:0<ys.length):∀ (xs ws:List Int) (N:Int),N+xs.length*4503599627370496≤18446744073709551616->ys.length+xs.length≤ws.length+1->p9 67108864 xs->p9 N ws->0≤N ->
  m4 (Nw ys xs ws)=m4 ws+m4 xs*m4 ys/\p9 (N+xs.length*4503599627370496) (Nw ys xs ws)/\(Nw ys xs ws).length=ws.length
 |[],ws,N,_,_,_,h,_=>by simp only [Nw,m4,Int.zero_mul,Int.add_zero,true_and];exact ⟨h.mono (by simp),trivial⟩
 |x::xs,[],N,_,h,_,_,_=>by
  simp only [List.length_cons,List.length_nil] at h
  omega
 |x::xs,w::ws,N,hN,h,⟨⟨p1,p2⟩,p3⟩,hw,h0=>by
  simp only [List.length_cons] at h hN
  obtain ⟨i1,i2,i3⟩:=a94 x p1 p2 N (by omega) ys (w::ws) (by simp only [List.length_cons];omega) hy hw
  simp only [Nw]
  generalize Qh x ys (w::ws)=r at *
  match r,i1,i2,i3 with
  |r::rs,i1,⟨⟨j1,j2⟩,j3⟩,i3 =>
   simp only [List.length_cons] at i3
   obtain ⟨k1,k2,k3⟩:=a95 ys hy hy0 xs rs (N+4503599627370496) (by omega) (by omega) p3 j3 (by omega)
   simp only [m4,p9,List.length_cons,k1,k3] at i1 ⊢
   refine ⟨?_,⟨⟨by omega,by omega⟩,k2.mono (by omega)⟩,by omega⟩
   rw [Int.add_mul,Int.mul_add,Int.mul_assoc];omega
def a96:List Int->Prop
 |[]=>True
 |[x]=>0≤x
 |x::y::xs=>(0≤x/\x<67108864)/\a96 (y::xs)
theorem a96.lim:∀ {l:List Int},a96 l->m4 l<67108864^l.length->p9 67108864 l
 |[],_,_=>trivial
 |[x],h,h'=>by simp [m4,p9,a96] at *;omega
 |x::y::xs,⟨h1,h2⟩,h'=>by
  have hp:(67108864:Int)^((y::xs).length+1)=67108864^(y::xs).length*67108864:=Int.pow_succ ..
  rw [List.length_cons,hp] at h'
  refine ⟨h1,a96.lim h2 ?_⟩
  simp only [m4] at h' ⊢
  generalize (67108864:Int)^(y::xs).length=q at *
  omega
theorem g66 (l:List Int):∀ (c:Int),l≠[]->p9 9223372036854775808 l->0≤c->c<274877906944 ->
  m4 (Uy c l)=m4 l+c/\a96 (Uy c l)/\(Uy c l).length=l.length:=by
 induction l with
 |nil=>intro c h;exact absurd rfl h
 |cons x xs ih =>
  intro c _ h h4 h5
  obtain ⟨⟨h1,h2⟩,h3⟩:=h
  have e:IntKind.u64.wrap (x+c)=x+c:=A4 (by omega) (by omega)
  cases xs with
  |nil=>rw [Uy,e];refine ⟨?_,?_,rfl⟩;{ simp only [m4];omega };{ show 0≤x+c;omega }
  |cons y xs =>
   have e2:bits .u64 .and (x+c) 67108863=(x+c)%67108864:=a91 (by omega) (by omega)
   obtain ⟨i1,i2,i3⟩:=ih ((x+c)/67108864) (by simp) h3 (by omega) (by omega)
   rw [Uy,e,e2,d12]
   generalize Uy ((x+c)/67108864) (y::xs)=r at *
   match r,i1,i2,i3 with
   |r::rs,i1,i2,i3 =>
    simp only [m4,a96,List.length_cons] at i1 i2 i3 ⊢
    exact ⟨by omega,⟨⟨by omega,by omega⟩,i2⟩,by omega⟩
theorem Nz (l:List Int) (h0:l≠[]) (h:p9 9223372036854775808 l) :
  m4 (Cr l)=m4 l/\a96 (Cr l)/\(Cr l).length=l.length:=by
 match l,h0,h with
 |[x],_,⟨⟨h1,h2⟩,_⟩=>simp only [Cr,m4,a96,true_and,and_true];exact h1
 |x::y::xs,_,⟨⟨h1,h2⟩,h3⟩ =>
  have e2:bits .u64 .and x 67108863=x%67108864:=a91 (by omega) (by omega)
  obtain ⟨i1,i2,i3⟩:=g66 (y::xs) (x/67108864) (by simp) h3 (by omega) (by omega)
  rw [Cr,e2,d12]
  generalize Uy (x/67108864) (y::xs)=r at *
  match r,i1,i2,i3 with
  |r::rs,i1,i2,i3 =>
   simp only [m4,a96,List.length_cons] at i1 i2 i3 ⊢
   exact ⟨by omega,⟨⟨by omega,by omega⟩,i2⟩,by omega⟩
theorem Yr:∀ (a b:List Int),a.length=b.length->p9 67108864 a->p9 67108864 b ->
  m4 (Fx a b)=m4 a+608*m4 b/\p9 9223372036854775808 (Fx a b)/\(Fx a b).length=a.length
 |[],[],_,_,_=>by simp [Fx,m4,p9]
 |x::xs,y::ys,h,⟨⟨p1,p2⟩,p3⟩,⟨⟨q1,q2⟩,q3⟩=>by
  obtain ⟨i1,i2,i3⟩:=Yr xs ys (by simpa using h) p3 q3
  simp only [Fx,m4,p9,List.length_cons,i1,i3,A4 (n:=608*y) (by omega) (by omega),A4 (n:=x+608*y) (by omega) (by omega)]
  exact ⟨by omega,⟨⟨by omega,by omega⟩,i2⟩,trivial⟩
theorem Va:∀ (a b:List Int),m4 (a++b)=m4 a+67108864^a.length*m4 b
 |[],b=>by simp [m4]
 |x::xs,b=>by
  have hp:(67108864:Int)^(xs.length+1)=67108864^xs.length*67108864:=Int.pow_succ ..
  simp only [List.cons_append,m4,Va xs b,List.length_cons,hp]
  rw [Int.mul_add,Int.mul_comm (67108864^xs.length) 67108864,Int.mul_assoc];omega
theorem p9.append {n:Int}:∀ {a b:List Int},p9 n (a++b)->p9 n a/\p9 n b
 |[],_,h=>⟨trivial,h⟩
 |_::_,_,⟨h1,h2⟩=>⟨⟨h1,h2.append.1⟩,h2.append.2⟩
structure Tx (e:e9):Prop where
 lim:p9 67108864 e.fn
 len:e.fn.length=10
def i9 (e:e9):Int:=m4 e.fn%PP
def Vb (x y:Int):Int:=(x+y)%PP
def Vc (x y:Int):Int:=(x-y)%PP
def Ea (x y:Int):Int:=(x*y)%PP
theorem Vd {a b:e9} (ha:Tx a) (hb:Tx b):∃ r,K4 a b=some r/\Tx r/\i9 r=Vb (i9 a) (i9 b):=by
 obtain ⟨a⟩:=a;obtain ⟨b⟩:=b;obtain ⟨ha,la⟩:=ha;obtain ⟨hb,lb⟩:=hb
 obtain ⟨i1,i2,i3⟩:=d95 a b (la.trans lb.symm) ha hb
 obtain ⟨j1,j2,j3⟩:=Kx i2 (i3.trans la)
 refine ⟨⟨Dz (Qi a b)⟩,?_,⟨j2,j3⟩,?_⟩
 ·have e:L1 ⟨b⟩ f9 0 a=some (Qi a b):=by
   obtain ⟨a0,a1,a2,a3,a4,a5,a6,a7,a8,a9,rfl⟩:=Dx la
   obtain ⟨b0,b1,b2,b3,b4,b5,b6,b7,b8,b9,rfl⟩:=Dx lb
   exact j48 ..
  simp only [K4,e,Option.bind_some,Uz (i3.trans la)]
 ·show m4 (Dz (Qi a b))%PP=_
  rw [j1,i1];exact Int.add_emod ..
theorem Ve:m4 E8=64*PP:=by decide
theorem Vf {a b:e9} (ha:Tx a) (hb:Tx b):∃ r,G8 a b=some r/\Tx r/\i9 r=Vc (i9 a) (i9 b):=by
 obtain ⟨a⟩:=a;obtain ⟨b⟩:=b;obtain ⟨ha,la⟩:=ha;obtain ⟨hb,lb⟩:=hb
 obtain ⟨i1,i2,i3⟩:=d96 a b E8 (la.trans lb.symm) la ha hb (by simp [Big,E8])
 obtain ⟨j1,j2,j3⟩:=Kx i2 (i3.trans la)
 refine ⟨⟨Dz (b88 a b E8)⟩,?_,⟨j2,j3⟩,?_⟩
 ·have e:L0 ⟨b⟩ f9 0 a=some (b88 a b E8):=by
   obtain ⟨a0,a1,a2,a3,a4,a5,a6,a7,a8,a9,rfl⟩:=Dx la
   obtain ⟨b0,b1,b2,b3,b4,b5,b6,b7,b8,b9,rfl⟩:=Dx lb
   exact j49 ..
  simp only [G8,e,Option.bind_some,Uz (i3.trans la)]
 ·show m4 (Dz (b88 a b E8))%PP=_
  rw [j1,i1,Ve]
  show _=(m4 a%PP-m4 b%PP)%PP
  rw [←Int.sub_emod];unfold PP;omega
theorem X4 {a b:e9} (ha:Tx a) (hb:Tx b):∃ r,m9 a b=some r/\Tx r/\i9 r=Ea (i9 a) (i9 b):=by
 obtain ⟨a⟩:=a;obtain ⟨b⟩:=b;obtain ⟨ha,la⟩:=ha;obtain ⟨hb,lb⟩:=hb
 simp only at ha la hb lb
 obtain ⟨i1,i2,i3⟩:=a95 b hb (by omega) a (List.replicate 20 0) 1 (by rw [la];decide) (by rw [la,lb];decide) ha (Ny (by simp)) (by decide)
 have e1:H7 ⟨a⟩ ⟨b⟩ f9 0 (List.replicate 20 0)=some (Nw b a (List.replicate 20 0)):=by
  obtain ⟨a0,a1,a2,a3,a4,a5,a6,a7,a8,a9,rfl⟩:=Dx la
  obtain ⟨b0,b1,b2,b3,b4,b5,b6,b7,b8,b9,rfl⟩:=Dx lb
  exact j45 ..
 rw [la] at i2
 generalize Nw b a (List.replicate 20 0)=w at *
 obtain ⟨j1,j2,j3⟩:=Nz w (by intro h;simp [h] at i3) (i2.mono (by decide))
 have va:=J7 ha
 have vb:=J7 hb
 have va':=Dy ha
 have vb':=Dy hb
 rw [la,Hi] at va'
 rw [lb,Hi] at vb'
 have z:m4 (List.replicate 20 (0:Int))=0:=by decide
 rw [z,Int.zero_add] at i1
 have hv:m4 a*m4 b≤1852673427797059126777135760139006525652319754650249024631321344126610074238975*1852673427797059126777135760139006525652319754650249024631321344126610074238975:=Int.mul_le_mul (by omega) (by omega) vb (by decide)
 have p520:(67108864:Int)^20=1852673427797059126777135760139006525652319754650249024631321344126610074238976*1852673427797059126777135760139006525652319754650249024631321344126610074238976:=by decide
 have l20:w.length=20:=by rw [i3];rfl
 have j4:=j2.lim (by rw [j3,l20,p520,j1,i1];omega)
 have e3:H8 f9 0 w=some (Cr w):=by
  obtain ⟨a0,a1,a2,a3,a4,a5,a6,a7,a8,a9,b0,b1,b2,b3,b4,b5,b6,b7,b8,b9,rfl⟩:=h70 l20
  exact j46 ..
 have e4:∃ lo hi:List Int,Cr w=lo++hi/\lo.length=10/\hi.length=10/\H9 (Cr w) f9 0 (List.replicate 10 0)=some (Fx lo hi):=by
  obtain ⟨a0,a1,a2,a3,a4,a5,a6,a7,a8,a9,b0,b1,b2,b3,b4,b5,b6,b7,b8,b9,h⟩:=h70 (j3.trans l20)
  rw [h]
  exact ⟨[a0,a1,a2,a3,a4,a5,a6,a7,a8,a9],[b0,b1,b2,b3,b4,b5,b6,b7,b8,b9],rfl,rfl,rfl,j47 ..⟩
 obtain ⟨lo,hi,h1,h2,h3,e4⟩:=e4
 rw [h1] at j4
 obtain ⟨k1,k2,k3⟩:=Yr lo hi (h2.trans h3.symm) j4.append.1 j4.append.2
 obtain ⟨n1,n2,n3⟩:=Kx k2 (k3.trans h2)
 refine ⟨⟨Dz (Fx lo hi)⟩,?_,⟨n2,n3⟩,?_⟩
 ·simp only [m9,e1,e3,e4,Option.bind_some,Uz (k3.trans h2)]
 ·show m4 (Dz (Fx lo hi))%PP=((m4 a%PP)*(m4 b%PP))%PP
  rw [n1,k1,←Int.mul_emod,←i1,←j1,h1,Va,h2,Hi]
  unfold PP;omega
end Go.Eng
namespace Go.Eng
set_option maxRecDepth 100000
set_option maxHeartbeats 1000000
theorem f86 {x:Int} (h:0≤x) (h1:x<18446744073709551616):bits .u64 .and x 18446744073709551615=x:=by
 obtain ⟨n,rfl⟩:=Int.eq_ofNat_of_zero_le h
 have:=Jl (n:=n) (m:=18446744073709551615) (by omega) (by omega)
 rw [show ((18446744073709551615:Nat):Int)=18446744073709551615 from rfl] at this
 rw [this,show (18446744073709551615:Nat)=2^64-1 from rfl,Nat.and_two_pow_sub_one_eq_mod,Nat.mod_eq_of_lt (by omega)]
theorem a97 {x:Int} (h:0≤x) (h1:x<18446744073709551616):bits .u64 .and x 0=0:=by
 obtain ⟨n,rfl⟩:=Int.eq_ofNat_of_zero_le h
 have:=Jl (n:=n) (m:=0) (by omega) (by omega)
 rw [show ((0:Nat):Int)=0 from rfl,Nat.and_zero] at this
 exact this
theorem c38 {x:Int} (h:0≤x) (h1:x<18446744073709551616):bits .u64 .or x 0=x:=by
 obtain ⟨n,rfl⟩:=Int.eq_ofNat_of_zero_le h
 have:=Mk (n:=n) (m:=0) (by omega) (by omega)
 rw [show ((0:Nat):Int)=0 from rfl,Nat.or_zero] at this
 exact this
theorem c39 {x:Int} (h:0≤x) (h1:x<18446744073709551616):bits .u64 .or 0 x=x:=by
 obtain ⟨n,rfl⟩:=Int.eq_ofNat_of_zero_le h
 have:=Mk (n:=0) (m:=n) (by omega) (by omega)
 rw [show ((0:Nat):Int)=0 from rfl,Nat.zero_or] at this
 exact this
theorem Ry {x:Int} (h:0≤x) (h1:x<18446744073709551616):bits .u64 .andNot x 0=x:=by
 obtain ⟨n,rfl⟩:=Int.eq_ofNat_of_zero_le h
 show IntKind.u64.wrap (((BitVec.ofInt 64 n &&& ~~~ BitVec.ofInt 64 0:BitVec 64).toNat:Nat):Int)=_
 rw [show ~~~ BitVec.ofInt 64 0=BitVec.allOnes 64 from by decide,BitVec.and_allOnes,BitVec.ofInt_natCast,BitVec.toNat_ofNat]
 simp only [Nat.reducePow]
 rw [Nat.mod_eq_of_lt (by omega),A4 (by omega) (by omega)]
theorem a98 {x:Int}:bits .u64 .andNot x 18446744073709551615=0:=by
 show IntKind.u64.wrap (((BitVec.ofInt 64 x &&& ~~~ BitVec.ofInt 64 18446744073709551615:BitVec 64).toNat:Nat):Int)=_
 rw [show ~~~ BitVec.ofInt 64 18446744073709551615=0#64 from by decide,BitVec.and_zero];rfl
theorem h76:∀ (a b:List Int),a.length=b.length->p9 67108864 a->a.zipWith (fun x y=>bits .u64 .or (bits .u64 .and x 18446744073709551615) (bits .u64 .andNot y 18446744073709551615)) b=a
 |[],[],_,_=>rfl
 |x::xs,y::ys,h,⟨⟨p1,p2⟩,p3⟩=>by
  rw [List.zipWith_cons_cons,h76 xs ys (by simpa using h) p3,f86 p1 (by omega),a98,c38 p1 (by omega)]
theorem h77:∀ (a b:List Int),a.length=b.length->p9 67108864 a->p9 67108864 b->a.zipWith (fun x y=>bits .u64 .or (bits .u64 .and x 0) (bits .u64 .andNot y 0)) b=b
 |[],[],_,_,_=>rfl
 |x::xs,y::ys,h,⟨⟨p1,p2⟩,p3⟩,⟨⟨q1,q2⟩,q3⟩=>by
  rw [List.zipWith_cons_cons,h77 xs ys (by simpa using h) p3 q3,a97 p1 (by omega),Ry q1 (by omega),c39 q1 (by omega)]
theorem Ml {a b:e9} (yes:Bool) (ha:Tx a) (hb:Tx b):S6 yes a b=some (cond yes a b):=by
 obtain ⟨a⟩:=a;obtain ⟨b⟩:=b;obtain ⟨ha,la⟩:=ha;obtain ⟨hb,lb⟩:=hb
 simp only at ha la hb lb
 cases yes with
 |true =>
  have e:N7 true ⟨b⟩ f9 0 a=some a:=by
   have z:=h76 a b (la.trans lb.symm) ha
   obtain ⟨a0,a1,a2,a3,a4,a5,a6,a7,a8,a9,rfl⟩:=Dx la
   obtain ⟨b0,b1,b2,b3,b4,b5,b6,b7,b8,b9,rfl⟩:=Dx lb
   rw [i71,z]
  simp only [S6,e,Option.bind_some,cond]
 |false =>
  have e:N7 false ⟨b⟩ f9 0 a=some b:=by
   have z:=h77 a b (la.trans lb.symm) ha hb
   obtain ⟨a0,a1,a2,a3,a4,a5,a6,a7,a8,a9,rfl⟩:=Dx la
   obtain ⟨b0,b1,b2,b3,b4,b5,b6,b7,b8,b9,rfl⟩:=Dx lb
   rw [i72,z]
  simp only [S6,e,Option.bind_some,cond]
end Go.Eng
namespace Go.Eng
set_option maxRecDepth 100000
set_option maxHeartbeats 1000000
def j8 (w:Nat):Nat->Nat->List Nat
 |0,_=>[]
 |n+1,x=>x%2^w::j8 w n (x/2^w)
theorem Ae (w:Nat):∀ n x,(j8 w n x).length=n
 |0,_=>rfl
 |n+1,x=>by simp [j8,Ae w n]
theorem Oa (w:Nat):∀ n x j,j<n->(j8 w n x).getD j 0=x/2^(w*j)%2^w
 |n+1,x,0,_=>by simp [j8]
 |n+1,x,j+1,h=>by
  rw [j8,List.getD_cons_succ,Oa w n _ j (by omega),Nat.div_div_eq_div_mul,←Nat.pow_add,Nat.mul_succ,Nat.add_comm w]
theorem Tf (w:Nat) (hw:0<w):∀ n X i,i<w*n ->
  (j8 w n (X%2^i)).getD (i/w) 0<2^(i%w) /\
  (j8 w n (X%2^i)).set (i/w) ((j8 w n (X%2^i)).getD (i/w) 0+2^(i%w)*(X/2^i%2))=j8 w n (X%2^(i+1))
 |0,_,_,h=>by simp at h
 |n+1,X,i,h=>by
  by_cases hi:i<w
  ·have h1:X%2^i<2^i:=Nat.mod_lt _ (Nat.two_pow_pos i)
   have h2:(2:Nat)^i<2^w:=Nat.pow_lt_pow_right (by decide) hi
   have h3:X%2^(i+1)<2^(i+1):=Nat.mod_lt _ (Nat.two_pow_pos _)
   have h4:(2:Nat)^(i+1)≤2^w:=Nat.pow_le_pow_right (by decide) hi
   have h5:X%2^(i+1)=X%2^i+2^i*(X/2^i%2):=by rw [Nat.pow_succ,Nat.mod_mul]
   rw [Nat.div_eq_of_lt hi,Nat.mod_eq_of_lt hi]
   simp only [j8,List.getD_cons_zero,List.set_cons_zero]
   rw [Nat.mod_eq_of_lt (Nat.lt_trans h1 h2),Nat.div_eq_of_lt (Nat.lt_trans h1 h2),Nat.mod_eq_of_lt (Nat.lt_of_lt_of_le h3 h4),Nat.div_eq_of_lt (Nat.lt_of_lt_of_le h3 h4),←h5]
   exact ⟨h1,rfl⟩
  ·obtain ⟨k,rfl⟩:∃ k,i=w+k:=⟨i-w,by omega⟩
   have e1:(w+k)/w=k/w+1:=by rw [Nat.add_comm,Nat.add_div_right _ hw]
   have e2:(w+k)%w=k%w:=by rw [Nat.add_comm,Nat.add_mod_right]
   have e3:∀ m,(X%2^(w+m))%2^w=X%2^w:=fun m=>Nat.mod_mod_of_dvd _ ⟨2^m,Nat.pow_add ..⟩
   have e4:∀ m,(X%2^(w+m))/2^w=X/2^w%2^m:=fun m=>by rw [Nat.pow_add,Nat.mod_mul_right_div_self]
   have e5:X/2^(w+k)=X/2^w/2^k:=by rw [Nat.pow_add,Nat.div_div_eq_div_mul]
   have hk:k<w*n:=by rw [Nat.mul_succ] at h;omega
   obtain ⟨i1,i2⟩:=Tf w hw n (X/2^w) k hk
   rw [e1,e2,e5,Nat.add_assoc]
   simp only [j8,List.getD_cons_succ,List.set_cons_succ,e3,e4]
   exact ⟨i1,by rw [i2]⟩
theorem Xh {a r b:Nat} (h:a<2^r):a|||(b*2^r)=a+2^r*b:=by
 rw [Nat.mul_comm b,Nat.or_comm,←Nat.two_pow_add_eq_or_of_lt h,Nat.add_comm]
theorem Jm (w:Nat) (hw:0<w) (n X i:Nat) (h:i<w*n):(j8 w n X).getD (i/w) 0/2^(i%w)%2=X/2^i%2:=by
 have h1:i/w<n:=(Nat.div_lt_iff_lt_mul hw).2 (by rw [Nat.mul_comm];exact h)
 rw [Oa w n X _ h1,←Nat.toNat_testBit,←Nat.toNat_testBit,Nat.testBit_mod_two_pow,Nat.testBit_div_two_pow]
 have h2:i%w<w:=Nat.mod_lt _ hw
 rw [Nat.add_comm (i%w),Nat.div_add_mod]
 simp [h2]
def Z2 (w:Nat):List Nat->Nat
 |[]=>0
 |x::xs=>x+2^w*Z2 w xs
theorem Fi (w:Nat):∀ n X,Z2 w (j8 w n X)=X%2^(w*n)
 |0,X=>by simp [j8,Z2,Nat.mod_one]
 |n+1,X=>by
  rw [j8,Z2,Fi w n,Nat.mul_succ,Nat.add_comm,Nat.add_comm (w*n),Nat.pow_add,Nat.mod_mul,Nat.add_comm]
theorem Fj (w:Nat):∀ (l:List Nat),(∀ x∈l,x<2^w)->j8 w l.length (Z2 w l)=l
 |[],_=>rfl
 |x::xs,h=>by
  have hx:=h x (List.mem_cons_self ..)
  rw [List.length_cons,j8,Z2,Nat.add_mul_mod_self_left,Nat.mod_eq_of_lt hx,Nat.add_mul_div_left _ _ (Nat.two_pow_pos w),Nat.div_eq_of_lt hx,Nat.zero_add,Fj w xs fun y hy=>h y (List.mem_cons_of_mem _ hy)]
theorem d13 (w:Nat):∀ (l:List Nat),(∀ x∈l,x<2^w)->Z2 w l<2^(w*l.length)
 |[],_=>by simp [Z2]
 |x::xs,h=>by
  have hx:=h x (List.mem_cons_self ..)
  have ih:=d13 w xs fun y hy=>h y (List.mem_cons_of_mem _ hy)
  rw [Z2,List.length_cons,Nat.mul_succ,Nat.add_comm (w*xs.length),Nat.pow_add]
  have:2^w*Z2 w xs+2^w≤2^w*2^(w*xs.length):=by rw [←Nat.mul_succ];exact Nat.mul_le_mul_left _ ih
  omega
end Go.Eng
namespace Go.Eng
set_option maxRecDepth 100000
set_option maxHeartbeats 1000000
def zl (l:List Nat):List Int:=l.map (fun (n:Nat)=>(n:Int))
theorem F9 (l:List Nat) (j:Nat):(zl l).getD j 0=((l.getD j 0:Nat):Int):=by
 unfold zl;simp only [List.getD,List.getElem?_map];cases l[j]?<;>rfl
theorem Jn (l:List Nat) (j x:Nat):(zl l).set j (x:Int)=zl (l.set j x):=by unfold zl;rw [List.map_set]
theorem A1 (l:List Nat):(zl l).length=l.length:=List.length_map ..
theorem Vg (x:Nat) (l:List Nat):zl (x::l)=(x:Int)::zl l:=rfl
theorem Fk (a b:List Nat):zl (a++b)=zl a++zl b:=List.map_append
theorem Ob (n x:Nat):zl (List.replicate n x)=List.replicate n (x:Int):=by simp [zl]
theorem a08 (l:List Nat) (n:Nat):zl (l.take n)=(zl l).take n:=by simp [zl]
theorem d14 (l:List Nat) (n:Nat):zl (l.drop n)=(zl l).drop n:=by simp [zl]
theorem Xi {n:Nat}:∀ {l:List Int},p9 n l->∃ m:List Nat,l=zl m/\m.length=l.length/\∀ x∈m,x<n
 |[],_=>⟨[],rfl,rfl,fun _ h=>by simp at h⟩
 |x::xs,⟨⟨a,b⟩,c⟩=>by
  obtain ⟨m,rfl,h1,h2⟩:=Xi c
  obtain ⟨k,rfl⟩:=Int.eq_ofNat_of_zero_le a
  refine ⟨k::m,rfl,by simp [h1],fun y hy => ?_⟩
  rcases List.mem_cons.1 hy with rfl|hy
  ·exact Int.ofNat_lt.1 b
  ·exact h2 y hy
theorem a99 {n:Nat}:∀ {m:List Nat},(∀ x∈m,x<n)->p9 n (zl m)
 |[],_=>trivial
 |x::_,h=>⟨⟨Int.natCast_nonneg x,Int.ofNat_lt.2 (h x (List.mem_cons_self ..))⟩,a99 fun y hy=>h y (List.mem_cons_of_mem _ hy)⟩
theorem A8 {n:Nat} (h:n<9223372036854775808):IntKind.wrap .i64 (n:Int)=n:=q6 (by omega) (by omega)
theorem Oc (n:Nat):IntKind.wrap .u64 (n:Int)=((n%18446744073709551616:Nat):Int):=by rw [i74];rfl
theorem b00 (n:Nat):IntKind.wrap .u32 (n:Int)=((n%4294967296:Nat):Int):=by rw [Te];rfl
theorem u8n (n:Nat):IntKind.wrap .u8 (n:Int)=((n%256:Nat):Int):=by rw [wu8];rfl
theorem Mm (a m:Nat):Int.fdiv (a:Int) (2^m)=((a/2^m:Nat):Int):=by
 have h:((2:Int)^m)=((2^m:Nat):Int):=by rw [Int.natCast_pow];rfl
 rw [h,Int.fdiv_eq_ediv_of_nonneg _ (Int.natCast_nonneg _)];rfl
theorem d97 (a m:Nat):(a:Int)*2^m=((a*2^m:Nat):Int):=by rw [Int.natCast_mul,Int.natCast_pow];rfl
theorem Xj {n m:Nat} (hn:n<256) (hm:m<256):bits .u8 .and (n:Int) (m:Int)=((n&&&m:Nat):Int):=by
 show IntKind.u8.wrap (((BitVec.ofInt 8 n&&&BitVec.ofInt 8 m:BitVec 8).toNat:Nat):Int)=_
 rw [BitVec.ofInt_natCast,BitVec.ofInt_natCast,BitVec.toNat_and,BitVec.toNat_ofNat,BitVec.toNat_ofNat,wu8]
 simp only [Nat.reducePow]
 rw [Nat.mod_eq_of_lt hn,Nat.mod_eq_of_lt hm,Int.emod_eq_of_lt (by omega)]
 have:=Nat.and_le_left (n:=n) (m:=m)
 omega
theorem d98 {n m:Nat} (hn:n<256) (hm:m<256):bits .u8 .or (n:Int) (m:Int)=((n|||m:Nat):Int):=by
 show IntKind.u8.wrap (((BitVec.ofInt 8 n|||BitVec.ofInt 8 m:BitVec 8).toNat:Nat):Int)=_
 rw [BitVec.ofInt_natCast,BitVec.ofInt_natCast,BitVec.toNat_or,BitVec.toNat_ofNat,BitVec.toNat_ofNat,wu8]
 simp only [Nat.reducePow]
 rw [Nat.mod_eq_of_lt hn,Nat.mod_eq_of_lt hm,Int.emod_eq_of_lt (by omega)]
 have:=Nat.or_lt_two_pow (n:=8) hn hm
 omega
theorem h78 {n:Nat} (hn:n<256):bits .u8 .and (n:Int) 1=((n%2:Nat):Int):=by
 have:=Xj (n:=n) (m:=1) hn (by decide)
 rw [show ((1:Nat):Int)=1 from rfl] at this
 rw [this,Nat.and_one_is_mod]
theorem f88 {n:Nat} (hn:n<18446744073709551616):bits .u64 .and (n:Int) 1=((n%2:Nat):Int):=by
 have:=Jl (n:=n) (m:=1) hn (by decide)
 rw [show ((1:Nat):Int)=1 from rfl] at this
 rw [this,Nat.and_one_is_mod]
theorem U2 (w:Nat) (n x:Nat):∀ y∈j8 w n x,y<2^w:=by
 induction n generalizing x with
 |zero=>intro y h;simp [j8] at h
 |succ n ih =>
  intro y h
  rcases List.mem_cons.1 h with rfl|h
  ·exact Nat.mod_lt _ (Nat.two_pow_pos w)
  ·exact ih _ y h
theorem M5 {l:List Nat} {b:Nat} (h:∀ x∈l,x<b) (hb:0<b) (j:Nat):l.getD j 0<b:=by
 simp only [List.getD]
 cases e:l[j]? with
 |none=>exact hb
 |some x=>exact h x (List.mem_of_getElem? e)
theorem f89 (N:Nat):∀ (n i:Nat),i≤255->255<n+i->S5 (zl (j8 8 32 N)) n (i:Int) (zl (j8 26 10 (N%2^i)))=some (zl (j8 26 10 (N%2^255)))
 |0,i,h,h'=>by omega
 |n+1,i,h,h'=>by
  rw [S5.eq_2]
  by_cases hi:i<255
  ·rw [j7 (by simp;omega)]
   have e1:Int.tdiv (i:Int) 26=((i/26:Nat):Int):=rfl
   have e2:Int.tdiv (i:Int) 8=((i/8:Nat):Int):=rfl
   have e3:Int.tmod (i:Int) 8=((i%8:Nat):Int):=rfl
   have e4:Int.tmod (i:Int) 26=((i%26:Nat):Int):=rfl
   have m1:min (i%8) (IntKind.bits .u8)=i%8:=by show min _ 8=_;omega
   have m2:min (i%26) (IntKind.bits .u64)=i%26:=by show min _ 64=_;omega
   have hb:(j8 8 32 N).getD (i/8) 0<256:=M5 (U2 8 32 N) (by decide) _
   have hb':(j8 8 32 N).getD (i/8) 0/2^(i%8)<256:=Nat.lt_of_le_of_lt (Nat.div_le_self _ _) hb
   have hbit:=Jm 8 (by decide) 32 N i (by omega)
   obtain ⟨s1,s2⟩:=Tf 26 (by decide) 10 N i (by omega)
   have p1:(2:Nat)^(i%26)≤2^25:=Nat.pow_le_pow_right (by decide) (by omega)
   have hlt:(N/2^i%2)*2^(i%26)<67108864:=by
    have:(N/2^i%2)*2^(i%26)≤1*2^25:=Nat.mul_le_mul (by omega) p1
    omega
   simp only [m6,e1,e2,e3,e4,A8 (n:=i/26) (by omega),A8 (n:=i/8) (by omega),Int.toNat_natCast,m1,m2,F9,Mm,h78 hb',hbit]
   rw [if_pos (by omega),if_pos (by omega),if_pos (by omega),if_pos (by omega),if_pos (by omega)]
   rw [Oc,Nat.mod_eq_of_lt (a:=N/2^i%2) (by omega),d97,Oc,Nat.mod_eq_of_lt (a:=N/2^i%2*2^(i%26)) (by omega)]
   rw [Mk (by have:=Nat.lt_of_lt_of_le s1 p1;omega) (by omega),Xh s1,Jn,s2]
   rw [show (i:Int)+1=((i+1:Nat):Int) from rfl,A8 (by omega)]
   exact f89 N n (i+1) (by omega) (by omega)
  ·have:i=255:=by omega
   subst this
   rw [i0 (by decide)]
theorem Fl (w n:Nat):j8 w n 0=List.replicate n 0:=by
 induction n with
 |zero=>rfl
 |succ n ih=>rw [j8,Nat.zero_div,ih,Nat.zero_mod];rfl
theorem i75 (N:Nat):Oo (zl (j8 8 32 N))=some ⟨zl (j8 26 10 (N%2^255))⟩:=by
 have h:=f89 N f9 0 (by omega) (by show 255<18446744073709551616+0;omega)
 rw [Nat.pow_zero,Nat.mod_one,Fl,Ob] at h
 show (S5 _ f9 0 (List.replicate 10 0)).bind _=_
 rw [show (0:Int)=((0:Nat):Int) from rfl,h];rfl
end Go.Eng
namespace Go.Eng
set_option maxRecDepth 100000
set_option maxHeartbeats 4000000
theorem Vh (m:List Nat):m4 (zl m)=(Z2 26 m:Int):=by
 induction m with
 |nil=>rfl
 |cons x xs ih=>rw [Vg,m4,ih,Z2];rfl
abbrev Tg:Int:=57896044618658097711785492504343953926634992332820282019728792003956564819968
theorem c40 {l:List Int} (h:p9 67108864 l) (hn:l.length=10):∃ r,L5 ⟨l⟩=some ⟨r⟩/\p9 67108864 r/\r.length=10/\m4 r=m4 l%Tg+19*(m4 l/Tg):=by
 obtain ⟨a0,a1,a2,a3,a4,a5,a6,a7,a8,a9,rfl⟩:=Dx hn
 have h':=h
 simp only [p9] at h'
 obtain ⟨h0,h1,h2,h3,h4,h5,h6,h7,h8,h9,_⟩:=h'
 have e1:bits .u64 .and a9 2097151=a9%2097152:=h74 (by omega) (by omega)
 have e2:IntKind.u64.wrap (19*(a9/2097152))=19*(a9/2097152):=A4 (by omega) (by omega)
 have e3:IntKind.u64.wrap (a0+19*(a9/2097152))=a0+19*(a9/2097152):=A4 (by omega) (by omega)
 have hv:m4 [a0,a1,a2,a3,a4,a5,a6,a7,a8,a9]%Tg+19*(m4 [a0,a1,a2,a3,a4,a5,a6,a7,a8,a9]/Tg)=m4 [a0+19*(a9/2097152),a1,a2,a3,a4,a5,a6,a7,a8,a9%2097152]:=by
  simp only [m4,Tg];omega
 have hl:p9 9223372036854775808 [a0+19*(a9/2097152),a1,a2,a3,a4,a5,a6,a7,a8,a9%2097152]:=by
  simp only [p9];refine ⟨by omega,by omega,by omega,by omega,by omega,by omega,by omega,by omega,by omega,by omega,trivial⟩
 obtain ⟨w1,w2,w3⟩:=Nz _ (by simp) hl
 refine ⟨Cr [a0+19*(a9/2097152),a1,a2,a3,a4,a5,a6,a7,a8,a9%2097152],?_,w2.lim ?_,w3,by rw [hv,w1]⟩
 ·unfold L5
  simp only [m6,List.getD_cons_zero,List.getD_cons_succ,List.set_cons_zero,List.set_cons_succ,e1,h75,e2,e3,i70,Option.bind_some]
 ·rw [w3,w1]
  simp only [m4]
  show _<(67108864:Int)^10
  rw [Hi]
  omega
theorem f90 {l:List Int} (h:p9 67108864 l) (hn:l.length=10):l=zl (j8 26 10 (m4 l).toNat):=by
 obtain ⟨m,rfl,h1,h2⟩:=Xi (n:=67108864) h
 rw [Vh,Int.toNat_natCast,←hn,←h1,Fj 26 m (by simpa using h2)]
theorem f25 {a:e9} (ha:Tx a):U9 a=some ⟨zl (j8 26 10 (i9 a).toNat)⟩:=by
 obtain ⟨a⟩:=a;obtain ⟨ha,la⟩:=ha
 simp only at ha la
 obtain ⟨c1,c2,c3⟩:=Kx (ha.mono (by decide)) la
 obtain ⟨r1,f1,p1,q1,v1⟩:=c40 c2 c3
 obtain ⟨r2,f2,p2,q2,v2⟩:=c40 p1 q1
 have n0:=J7 c2
 have n0':=Dy c2
 rw [c3,Hi] at n0'
 have n1:m4 r2<Tg:=by rw [v2,v1];simp only [Tg];omega
 have n1':0≤m4 r2:=J7 p2
 have n2:m4 r2%PP=m4 a%PP:=by rw [←c1,v2,v1];simp only [Tg];unfold PP;omega
 have hres:i9 ⟨a⟩=m4 r2%PP:=n2.symm
 unfold U9
 rw [Uz la,Option.bind_some,f1,Option.bind_some,f2,Option.bind_some]
 obtain ⟨b0,b1,b2,b3,b4,b5,b6,b7,b8,b9,rfl⟩:=Dx q2
 have p2':=p2
 simp only [p9] at p2'
 obtain ⟨h0,h1,h2,h3,h4,h5,h6,h7,h8,h9,_⟩:=p2'
 have e3:IntKind.u64.wrap (b0+19)=b0+19:=A4 (by omega) (by omega)
 simp only [m6,List.getD_cons_zero,List.set_cons_zero,e3,h71,Option.bind_some]
 have hl:p9 9223372036854775808 [b0+19,b1,b2,b3,b4,b5,b6,b7,b8,b9]:=by
  simp only [p9];refine ⟨by omega,by omega,by omega,by omega,by omega,by omega,by omega,by omega,by omega,by omega,trivial⟩
 obtain ⟨w1,w2,w3⟩:=Nz _ (by simp) hl
 have hw:m4 [b0+19,b1,b2,b3,b4,b5,b6,b7,b8,b9]=m4 [b0,b1,b2,b3,b4,b5,b6,b7,b8,b9]+19:=by simp only [m4];omega
 generalize hz:[b0,b1,b2,b3,b4,b5,b6,b7,b8,b9]=z at *
 generalize Cr [b0+19,b1,b2,b3,b4,b5,b6,b7,b8,b9]=y at *
 have y1:m4 y=m4 z+19:=by rw [w1,hw]
 have y2:p9 67108864 y:=w2.lim (by rw [w3];show _<(67108864:Int)^10;rw [Hi,y1];simp only [Tg] at n1;omega)
 obtain ⟨d0,d1,d2,d3,d4,d5,d6,d7,d8,d9,rfl⟩:=Dx w3
 have y2':=y2
 simp only [p9] at y2'
 obtain ⟨k0,k1,k2,k3,k4,k5,k6,k7,k8,k9,_⟩:=y2'
 have e1:bits .u64 .and d9 2097151=d9%2097152:=h74 (by omega) (by omega)
 simp only [List.getD_cons_zero,List.getD_cons_succ,List.set_cons_zero,List.set_cons_succ,e1,h75]
 have o1:Tx ⟨[d0,d1,d2,d3,d4,d5,d6,d7,d8,d9%2097152]⟩:=⟨by simp only [p9];refine ⟨k0,k1,k2,k3,k4,k5,k6,k7,k8,⟨by omega,by omega⟩,trivial⟩,rfl⟩
 have o2:Tx ⟨z⟩:=⟨p2,q2⟩
 rw [Ml _ o1 o2,Option.bind_some]
 congr 1
 have hd:m4 [d0,d1,d2,d3,d4,d5,d6,d7,d8,d9%2097152]=(m4 z+19)%Tg/\d9/2097152=(m4 z+19)/Tg:=by
  rw [←y1];simp only [m4,Tg];omega
 by_cases hg:m4 z<PP
 ·have:d9/2097152=0:=by rw [hd.2];simp only [Tg];unfold PP at hg;omega
  rw [this]
  show (⟨z⟩:e9)=_
  rw [hres,Int.emod_eq_of_lt n1' hg]
  congr 1
  exact f90 p2 q2
 ·have:d9/2097152=1:=by rw [hd.2];simp only [Tg] at n1 ⊢;unfold PP at hg;omega
  rw [this]
  show (⟨[d0,d1,d2,d3,d4,d5,d6,d7,d8,d9%2097152]⟩:e9)=_
  rw [hres]
  congr 1
  refine (f90 (l:=[d0,d1,d2,d3,d4,d5,d6,d7,d8,d9%2097152]) o1.lim o1.len).trans ?_
  rw [hd.1]
  congr 3
  simp only [Tg] at n1 ⊢;unfold PP at hg ⊢;omega
theorem d99 (X:Nat) (hX:X<2^255):∀ (n i:Nat),i≤255->255<n+i->I0 ⟨zl (j8 26 10 X)⟩ n (i:Int) (zl (j8 8 32 (X%2^i)))=some (zl (j8 8 32 X))
 |0,i,h,h'=>by omega
 |n+1,i,h,h'=>by
  rw [I0.eq_2]
  by_cases hi:i<255
  ·rw [j7 (by simp;omega)]
   have e1:Int.tdiv (i:Int) 26=((i/26:Nat):Int):=rfl
   have e2:Int.tdiv (i:Int) 8=((i/8:Nat):Int):=rfl
   have e3:Int.tmod (i:Int) 8=((i%8:Nat):Int):=rfl
   have e4:Int.tmod (i:Int) 26=((i%26:Nat):Int):=rfl
   have m1:min (i%8) (IntKind.bits .u8)=i%8:=by show min _ 8=_;omega
   have m2:min (i%26) (IntKind.bits .u64)=i%26:=by show min _ 64=_;omega
   have hb:(j8 26 10 X).getD (i/26) 0<67108864:=M5 (U2 26 10 X) (by decide) _
   have hb':(j8 26 10 X).getD (i/26) 0/2^(i%26)<18446744073709551616:=Nat.lt_trans (Nat.lt_of_le_of_lt (Nat.div_le_self _ _) hb) (by decide)
   have hbit:=Jm 26 (by decide) 10 X i (by omega)
   obtain ⟨s1,s2⟩:=Tf 8 (by decide) 32 X i (by omega)
   have p1:(2:Nat)^(i%8)≤2^7:=Nat.pow_le_pow_right (by decide) (by omega)
   have hlt:(X/2^i%2)*2^(i%8)<256:=by
    have:(X/2^i%2)*2^(i%8)≤1*2^7:=Nat.mul_le_mul (by omega) p1
    omega
   simp only [m6,e1,e2,e3,e4,A8 (n:=i/26) (by omega),A8 (n:=i/8) (by omega),Int.toNat_natCast,m1,m2,F9,Mm,f88 hb',hbit]
   rw [if_pos (by omega),if_pos (by omega),if_pos (by omega),if_pos (by omega),if_pos (by omega)]
   rw [u8n,Nat.mod_eq_of_lt (a:=X/2^i%2) (by omega),d97,u8n,Nat.mod_eq_of_lt (a:=X/2^i%2*2^(i%8)) (by omega)]
   rw [d98 (by have:=Nat.lt_of_lt_of_le s1 p1;omega) (by omega),Xh s1,Jn,s2]
   rw [show (i:Int)+1=((i+1:Nat):Int) from rfl,A8 (by omega)]
   exact d99 X hX n (i+1) (by omega) (by omega)
  ·have:i=255:=by omega
   subst this
   rw [i0 (by decide),Nat.mod_eq_of_lt hX]
theorem c41 (a:e9):0≤i9 a/\i9 a<PP:=⟨Int.emod_nonneg _ (by decide),Int.emod_lt_of_pos _ (by decide)⟩
def Xk (x:Int):List Int:=zl (j8 8 32 x.toNat)
theorem f26 {a:e9} (ha:Tx a):V0 a=some (Xk (i9 a)):=by
 obtain ⟨r0,r1⟩:=c41 a
 have hX:(i9 a).toNat<2^255:=by
  have:(2:Nat)^255=57896044618658097711785492504343953926634992332820282019728792003956564819968:=by decide
  rw [this];unfold PP at r1;omega
 have h:=d99 (i9 a).toNat hX f9 0 (by omega) (by show 255<18446744073709551616+0;omega)
 rw [Nat.pow_zero,Nat.mod_one,Fl,Ob] at h
 unfold V0
 rw [f25 ha,Option.bind_some]
 rw [show (0:Int)=((0:Nat):Int) from rfl,h];rfl
end Go.Eng
