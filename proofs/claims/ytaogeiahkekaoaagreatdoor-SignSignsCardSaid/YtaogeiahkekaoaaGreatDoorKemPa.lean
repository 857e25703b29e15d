/-
  Part of a proof: KemPa.
-/
import Derived.Test.YtaogeiahkekaoaaGreatDoorSbdM
import Derived.KernelRfl
set_option linter.unusedVariables false
set_option linter.unusedSimpArgs false
namespace Go.Eng
set_option maxRecDepth 100000
set_option maxHeartbeats 1000000
theorem some_of_map {α β:Type} {o:Option α} {f:α->β} {b:β} (h:o.map f=some b):∃ r,o=some r/\f r=b:=by
 cases o with
 |none=>cases h
 |some r=>exact ⟨r,rfl,Option.some.inj h⟩
theorem wrap_i64 {n:Int} (h1 : -9223372036854775808≤n) (h2:n≤9223372036854775807):IntKind.i64.wrap n=n:=by
 unfold IntKind.wrap;simp [IntKind.bits,IntKind.signed];omega
theorem nm_eq {α β:Type} (a:α) (f:α->β):nm a f=f a:=rfl
theorem cond_tt {α:Type} {b:Bool} {x y:α} (h:b=true):cond b x y=x:=by rw [h];rfl
theorem cond_ff {α:Type} {b:Bool} {x y:α} (h:b=false):cond b x y=y:=by rw [h];rfl
theorem FUEL_pos (n:Nat) (h:n<18446744073709551616):∃ m,FUEL=m+1/\n≤m:=⟨18446744073709551615,rfl,by omega⟩
theorem list32 {α:Type} {l:List α} (h:l.length=32):∃ a0 a1 a2 a3 a4 a5 a6 a7 a8 a9 a10 a11 a12 a13 a14 a15 a16 a17 a18 a19 a20 a21 a22 a23 a24 a25 a26 a27 a28 a29 a30 a31,l=[a0,a1,a2,a3,a4,a5,a6,a7,a8,a9,a10,a11,a12,a13,a14,a15,a16,a17,a18,a19,a20,a21,a22,a23,a24,a25,a26,a27,a28,a29,a30,a31]:=by
 match l,h with
 |[a0,a1,a2,a3,a4,a5,a6,a7,a8,a9,a10,a11,a12,a13,a14,a15,a16,a17,a18,a19,a20,a21,a22,a23,a24,a25,a26,a27,a28,a29,a30,a31],_=>exact ⟨a0,a1,a2,a3,a4,a5,a6,a7,a8,a9,a10,a11,a12,a13,a14,a15,a16,a17,a18,a19,a20,a21,a22,a23,a24,a25,a26,a27,a28,a29,a30,a31,rfl⟩
end Go.Eng
namespace Go.Eng
set_option maxRecDepth 100000
set_option maxHeartbeats 1000000
theorem list10 {α:Type} {l:List α} (h:l.length=10):∃ a0 a1 a2 a3 a4 a5 a6 a7 a8 a9,l=[a0,a1,a2,a3,a4,a5,a6,a7,a8,a9]:=by
 match l,h with
 |[a0,a1,a2,a3,a4,a5,a6,a7,a8,a9],_=>exact ⟨a0,a1,a2,a3,a4,a5,a6,a7,a8,a9,rfl⟩
theorem list20 {α:Type} {l:List α} (h:l.length=20):∃ a0 a1 a2 a3 a4 a5 a6 a7 a8 a9 b0 b1 b2 b3 b4 b5 b6 b7 b8 b9,l=[a0,a1,a2,a3,a4,a5,a6,a7,a8,a9,b0,b1,b2,b3,b4,b5,b6,b7,b8,b9]:=by
 match l,h with
 |[a0,a1,a2,a3,a4,a5,a6,a7,a8,a9,b0,b1,b2,b3,b4,b5,b6,b7,b8,b9],_=>exact ⟨a0,a1,a2,a3,a4,a5,a6,a7,a8,a9,b0,b1,b2,b3,b4,b5,b6,b7,b8,b9,rfl⟩
def cpass:Int->List Int->Int×List Int
 |c,[]=>(c,[])
 |c,x::xs=>((cpass (Int.fdiv (IntKind.wrap .u64 (x+c)) (2^26)) xs).1,bits .u64 .and (IntKind.wrap .u64 (x+c)) 67108863::(cpass (Int.fdiv (IntKind.wrap .u64 (x+c)) (2^26)) xs).2)
def addRow (x:Int):List Int->List Int->List Int
 |[],ws=>ws
 |_::_,[]=>[]
 |y::ys,w::ws=>IntKind.wrap .u64 (w+IntKind.wrap .u64 (x*y))::addRow x ys ws
def mulAll (ys:List Int):List Int->List Int->List Int
 |[],ws=>ws
 |_::_,[]=>[]
 |x::xs,w::ws=>match addRow x ys (w::ws) with
  |[]=>[]
  |r::rs=>r::mulAll ys xs rs
theorem mul_l1 (a0 a1 a2 a3 a4 a5 a6 a7 a8 a9 b0 b1 b2 b3 b4 b5 b6 b7 b8 b9:Int):field_Elem_Times_l1 ⟨[a0,a1,a2,a3,a4,a5,a6,a7,a8,a9]⟩ ⟨[b0,b1,b2,b3,b4,b5,b6,b7,b8,b9]⟩ FUEL 0 (List.replicate 20 0)=some (mulAll [b0,b1,b2,b3,b4,b5,b6,b7,b8,b9] [a0,a1,a2,a3,a4,a5,a6,a7,a8,a9] (List.replicate 20 0)):=by kernel_rfl
def wpass:Int->List Int->List Int
 |_,[]=>[]
 |c,[x]=>[IntKind.wrap .u64 (x+c)]
 |c,x::y::xs=>bits .u64 .and (IntKind.wrap .u64 (x+c)) 67108863::wpass (Int.fdiv (IntKind.wrap .u64 (x+c)) (2^26)) (y::xs)
def wpass0:List Int->List Int
 |[]=>[]
 |[x]=>[x]
 |x::y::xs=>bits .u64 .and x 67108863::wpass (Int.fdiv x (2^26)) (y::xs)
theorem mul_l3 (a0 a1 a2 a3 a4 a5 a6 a7 a8 a9 b0 b1 b2 b3 b4 b5 b6 b7 b8 b9:Int):field_Elem_Times_l3 FUEL 0 ([a0,a1,a2,a3,a4,a5,a6,a7,a8,a9]++[b0,b1,b2,b3,b4,b5,b6,b7,b8,b9])=some (wpass0 ([a0,a1,a2,a3,a4,a5,a6,a7,a8,a9]++[b0,b1,b2,b3,b4,b5,b6,b7,b8,b9])):=by kernel_rfl
def down608:List Int->List Int->List Int
 |x::xs,y::ys=>IntKind.wrap .u64 (x+IntKind.wrap .u64 (608*y))::down608 xs ys
 |_,_=>[]
theorem mul_l4 (a0 a1 a2 a3 a4 a5 a6 a7 a8 a9 b0 b1 b2 b3 b4 b5 b6 b7 b8 b9:Int):field_Elem_Times_l4 ([a0,a1,a2,a3,a4,a5,a6,a7,a8,a9]++[b0,b1,b2,b3,b4,b5,b6,b7,b8,b9]) FUEL 0 (List.replicate 10 0)=some (down608 [a0,a1,a2,a3,a4,a5,a6,a7,a8,a9] [b0,b1,b2,b3,b4,b5,b6,b7,b8,b9]):=by kernel_rfl
def addL:List Int->List Int->List Int
 |x::xs,y::ys=>IntKind.wrap .u64 (x+y)::addL xs ys
 |_,_=>[]
theorem add_l1 (a0 a1 a2 a3 a4 a5 a6 a7 a8 a9 b0 b1 b2 b3 b4 b5 b6 b7 b8 b9:Int):field_Elem_Add_l1 ⟨[b0,b1,b2,b3,b4,b5,b6,b7,b8,b9]⟩ FUEL 0 [a0,a1,a2,a3,a4,a5,a6,a7,a8,a9]=some (addL [a0,a1,a2,a3,a4,a5,a6,a7,a8,a9] [b0,b1,b2,b3,b4,b5,b6,b7,b8,b9]):=by kernel_rfl
def subL:List Int->List Int->List Int->List Int
 |x::xs,y::ys,m::ms=>IntKind.wrap .u64 (x+IntKind.wrap .u64 (m-y))::subL xs ys ms
 |_,_,_=>[]
theorem sub_l1 (a0 a1 a2 a3 a4 a5 a6 a7 a8 a9 b0 b1 b2 b3 b4 b5 b6 b7 b8 b9:Int):field_Elem_Sub_l1 ⟨[b0,b1,b2,b3,b4,b5,b6,b7,b8,b9]⟩ FUEL 0 [a0,a1,a2,a3,a4,a5,a6,a7,a8,a9]=some (subL [a0,a1,a2,a3,a4,a5,a6,a7,a8,a9] [b0,b1,b2,b3,b4,b5,b6,b7,b8,b9] tb_field_many):=by kernel_rfl
theorem fold_l1 (a0 a1 a2 a3 a4 a5 a6 a7 a8 a9:Int):field_Elem_fold_2_l1 FUEL 0 [a0,a1,a2,a3,a4,a5,a6,a7,a8,a9]=some (wpass0 [a0,a1,a2,a3,a4,a5,a6,a7,a8,a9]):=by kernel_rfl
theorem least_l1 (a0 a1 a2 a3 a4 a5 a6 a7 a8 a9:Int):field_Elem_least_l1 FUEL 0 [a0,a1,a2,a3,a4,a5,a6,a7,a8,a9]=some (wpass0 [a0,a1,a2,a3,a4,a5,a6,a7,a8,a9]):=by kernel_rfl
theorem pick_tt (a0 a1 a2 a3 a4 a5 a6 a7 a8 a9 b0 b1 b2 b3 b4 b5 b6 b7 b8 b9:Int):field_Pick_l1 true ⟨[b0,b1,b2,b3,b4,b5,b6,b7,b8,b9]⟩ FUEL 0 [a0,a1,a2,a3,a4,a5,a6,a7,a8,a9]=some (([a0,a1,a2,a3,a4,a5,a6,a7,a8,a9]).zipWith (fun x y=>bits .u64 .or (bits .u64 .and x 18446744073709551615) (bits .u64 .andNot y 18446744073709551615)) [b0,b1,b2,b3,b4,b5,b6,b7,b8,b9]):=by kernel_rfl
theorem pick_ff (a0 a1 a2 a3 a4 a5 a6 a7 a8 a9 b0 b1 b2 b3 b4 b5 b6 b7 b8 b9:Int):field_Pick_l1 false ⟨[b0,b1,b2,b3,b4,b5,b6,b7,b8,b9]⟩ FUEL 0 [a0,a1,a2,a3,a4,a5,a6,a7,a8,a9]=some (([a0,a1,a2,a3,a4,a5,a6,a7,a8,a9]).zipWith (fun x y=>bits .u64 .or (bits .u64 .and x 0) (bits .u64 .andNot y 0)) [b0,b1,b2,b3,b4,b5,b6,b7,b8,b9]):=by kernel_rfl
end Go.Eng
namespace Go.Eng
set_option maxRecDepth 100000
set_option maxHeartbeats 1000000
theorem list8 {α:Type} {l:List α} (h:l.length=8):∃ a0 a1 a2 a3 a4 a5 a6 a7,l=[a0,a1,a2,a3,a4,a5,a6,a7]:=by
 match l,h with
 |[a0,a1,a2,a3,a4,a5,a6,a7],_=>exact ⟨a0,a1,a2,a3,a4,a5,a6,a7,rfl⟩
def lessR:List Int->List Int->Bool
 |x::xs,y::ys=>cond (x==y) (lessR xs ys) (decide (x<y))
 |_,_=>false
theorem ref_less (a0 a1 a2 a3 a4 a5 a6 a7 b0 b1 b2 b3 b4 b5 b6 b7:Int):fr09_less [a0,a1,a2,a3,a4,a5,a6,a7] [b0,b1,b2,b3,b4,b5,b6,b7]=some (lessR [a7,a6,a5,a4,a3,a2,a1,a0] [b7,b6,b5,b4,b3,b2,b1,b0]):=by
 unfold fr09_less
 have h:fr09_less_l1 [a0,a1,a2,a3,a4,a5,a6,a7] [b0,b1,b2,b3,b4,b5,b6,b7] FUEL 7=cond (!(a7==b7)) (some (.inr (decide (a7<b7)))) (cond (!(a6==b6)) (some (.inr (decide (a6<b6)))) (cond (!(a5==b5)) (some (.inr (decide (a5<b5)))) (cond (!(a4==b4)) (some (.inr (decide (a4<b4)))) (cond (!(a3==b3)) (some (.inr (decide (a3<b3)))) (cond (!(a2==b2)) (some (.inr (decide (a2<b2)))) (cond (!(a1==b1)) (some (.inr (decide (a1<b1)))) (cond (!(a0==b0)) (some (.inr (decide (a0<b0)))) (some (.inl ()))))))))):=by kernel_rfl
 rw [h]
 simp only [lessR]
 cases a7==b7<;>cases a6==b6<;>cases a5==b5<;>cases a4==b4<;>cases a3==b3<;>cases a2==b2<;>cases a1==b1<;>cases a0==b0<;>rfl
def mpass:Int->List Int->List Int->List Int
 |o,x::xs,y::ys=>IntKind.wrap .u32 (IntKind.wrap .u64 (IntKind.wrap .u64 (IntKind.wrap .u64 (IntKind.wrap .u64 x+4294967296)-IntKind.wrap .u64 y)-o))::mpass (IntKind.wrap .u64 (1-Int.fdiv (IntKind.wrap .u64 (IntKind.wrap .u64 (IntKind.wrap .u64 (IntKind.wrap .u64 x+4294967296)-IntKind.wrap .u64 y)-o)) (2^32))) xs ys
 |_,_,_=>[]
theorem ref_minus (a0 a1 a2 a3 a4 a5 a6 a7 b0 b1 b2 b3 b4 b5 b6 b7:Int):fr09_minus [a0,a1,a2,a3,a4,a5,a6,a7] [b0,b1,b2,b3,b4,b5,b6,b7]=some (mpass 0 [a0,a1,a2,a3,a4,a5,a6,a7] [b0,b1,b2,b3,b4,b5,b6,b7]):=by kernel_rfl
def fpass:Int->List Int->List Int->Int×List Int
 |c,x::xs,y::ys=>((fpass (Int.fdiv (IntKind.wrap .u64 (IntKind.wrap .u64 (IntKind.wrap .u64 x+IntKind.wrap .u64 (38*IntKind.wrap .u64 y))+c)) (2^32)) xs ys).1,IntKind.wrap .u32 (IntKind.wrap .u64 (IntKind.wrap .u64 (IntKind.wrap .u64 x+IntKind.wrap .u64 (38*IntKind.wrap .u64 y))+c))::(fpass (Int.fdiv (IntKind.wrap .u64 (IntKind.wrap .u64 (IntKind.wrap .u64 x+IntKind.wrap .u64 (38*IntKind.wrap .u64 y))+c)) (2^32)) xs ys).2)
 |c,_,_=>(c,[])
theorem ref_fold_l1 (a0 a1 a2 a3 a4 a5 a6 a7 b0 b1 b2 b3 b4 b5 b6 b7:Int):fr09_fold_l1 ([a0,a1,a2,a3,a4,a5,a6,a7]++[b0,b1,b2,b3,b4,b5,b6,b7]) FUEL 0 0 (List.replicate 8 0)=some (fpass 0 [a0,a1,a2,a3,a4,a5,a6,a7] [b0,b1,b2,b3,b4,b5,b6,b7]):=by kernel_rfl
def gpass:Int->List Int->Int×List Int
 |c,x::xs=>((gpass (Int.fdiv (IntKind.wrap .u64 (c+IntKind.wrap .u64 x)) (2^32)) xs).1,IntKind.wrap .u32 (IntKind.wrap .u64 (c+IntKind.wrap .u64 x))::(gpass (Int.fdiv (IntKind.wrap .u64 (c+IntKind.wrap .u64 x)) (2^32)) xs).2)
 |c,[]=>(c,[])
theorem ref_fold_l3 (c:Int) (a0 a1 a2 a3 a4 a5 a6 a7:Int):fr09_fold_l3 FUEL c 0 [a0,a1,a2,a3,a4,a5,a6,a7]=some (gpass c [a0,a1,a2,a3,a4,a5,a6,a7]):=by kernel_rfl
def apass:Int->List Int->List Int->Int×List Int
 |c,x::xs,y::ys=>((apass (Int.fdiv (IntKind.wrap .u64 (IntKind.wrap .u64 (IntKind.wrap .u64 x+IntKind.wrap .u64 y)+c)) (2^32)) xs ys).1,IntKind.wrap .u32 (IntKind.wrap .u64 (IntKind.wrap .u64 (IntKind.wrap .u64 x+IntKind.wrap .u64 y)+c))::(apass (Int.fdiv (IntKind.wrap .u64 (IntKind.wrap .u64 (IntKind.wrap .u64 x+IntKind.wrap .u64 y)+c)) (2^32)) xs ys).2)
 |c,_,_=>(c,[])
theorem ref_add_l1 (a0 a1 a2 a3 a4 a5 a6 a7 b0 b1 b2 b3 b4 b5 b6 b7:Int):fr09_Add_l1 [a0,a1,a2,a3,a4,a5,a6,a7] [b0,b1,b2,b3,b4,b5,b6,b7] FUEL 0 0 (List.replicate 16 0)=some ((apass 0 [a0,a1,a2,a3,a4,a5,a6,a7] [b0,b1,b2,b3,b4,b5,b6,b7]).1,(apass 0 [a0,a1,a2,a3,a4,a5,a6,a7] [b0,b1,b2,b3,b4,b5,b6,b7]).2++List.replicate 8 0):=by kernel_rfl
def rowp (x:Int):Int->List Int->List Int->List Int
 |_,_,[]=>[]
 |c,[],_::ws=>IntKind.wrap .u32 c::ws
 |c,y::ys,w::ws=>IntKind.wrap .u32 (IntKind.wrap .u64 (IntKind.wrap .u64 (IntKind.wrap .u64 (IntKind.wrap .u64 x*IntKind.wrap .u64 y)+IntKind.wrap .u64 w)+c))::rowp x (Int.fdiv (IntKind.wrap .u64 (IntKind.wrap .u64 (IntKind.wrap .u64 (IntKind.wrap .u64 x*IntKind.wrap .u64 y)+IntKind.wrap .u64 w)+c)) (2^32)) ys ws
def rows32 (ys:List Int):List Int->List Int->List Int
 |[],ws=>ws
 |x::xs,ws=>match rowp x 0 ys ws with
  |[]=>[]
  |r::rs=>r::rows32 ys xs rs
theorem ref_times_l1 (a0 a1 a2 a3 a4 a5 a6 a7 b0 b1 b2 b3 b4 b5 b6 b7:Int):fr09_Times_l1 [a0,a1,a2,a3,a4,a5,a6,a7] [b0,b1,b2,b3,b4,b5,b6,b7] FUEL 0 (List.replicate 16 0)=some (rows32 [b0,b1,b2,b3,b4,b5,b6,b7] [a0,a1,a2,a3,a4,a5,a6,a7] (List.replicate 16 0)):=by kernel_rfl
end Go.Eng
namespace Go.Eng
set_option maxRecDepth 100000
set_option maxHeartbeats 1000000
theorem wu64 (n:Int):IntKind.u64.wrap n=n%18446744073709551616:=by simp [IntKind.wrap,IntKind.bits,IntKind.signed]
theorem wu32 (n:Int):IntKind.u32.wrap n=n%4294967296:=by simp [IntKind.wrap,IntKind.bits,IntKind.signed]
theorem wu8 (n:Int):IntKind.u8.wrap n=n%256:=by simp [IntKind.wrap,IntKind.bits,IntKind.signed]
theorem u64_id {n:Int} (h:0≤n) (h1:n<18446744073709551616):IntKind.u64.wrap n=n:=by rw [wu64,Int.emod_eq_of_lt h h1]
theorem u32_id {n:Int} (h:0≤n) (h1:n<4294967296):IntKind.u32.wrap n=n:=by rw [wu32,Int.emod_eq_of_lt h h1]
theorem bits_and64 {n m:Nat} (hn:n<18446744073709551616) (hm:m<18446744073709551616):bits .u64 .and (n:Int) (m:Int)=((n&&&m:Nat):Int):=by
 show IntKind.u64.wrap (((BitVec.ofInt 64 n&&&BitVec.ofInt 64 m:BitVec 64).toNat:Nat):Int)=_
 rw [BitVec.ofInt_natCast,BitVec.ofInt_natCast,BitVec.toNat_and,BitVec.toNat_ofNat,BitVec.toNat_ofNat,wu64]
 simp only [Nat.reducePow]
 rw [Nat.mod_eq_of_lt hn,Nat.mod_eq_of_lt hm,Int.emod_eq_of_lt (by omega)]
 have:=Nat.and_le_left (n:=n) (m:=m)
 omega
theorem bits_or64 {n m:Nat} (hn:n<18446744073709551616) (hm:m<18446744073709551616):bits .u64 .or (n:Int) (m:Int)=((n|||m:Nat):Int):=by
 show IntKind.u64.wrap (((BitVec.ofInt 64 n|||BitVec.ofInt 64 m:BitVec 64).toNat:Nat):Int)=_
 rw [BitVec.ofInt_natCast,BitVec.ofInt_natCast,BitVec.toNat_or,BitVec.toNat_ofNat,BitVec.toNat_ofNat,wu64]
 simp only [Nat.reducePow]
 rw [Nat.mod_eq_of_lt hn,Nat.mod_eq_of_lt hm,Int.emod_eq_of_lt (by omega)]
 have:=Nat.or_lt_two_pow (n:=64) hn hm
 omega
theorem mask26 {x:Int} (h:0≤x) (h1:x<18446744073709551616):bits .u64 .and x 67108863=x%67108864:=by
 obtain ⟨n,rfl⟩:=Int.eq_ofNat_of_zero_le h
 have:=bits_and64 (n:=n) (m:=67108863) (by omega) (by omega)
 rw [show ((67108863:Nat):Int)=67108863 from rfl] at this
 rw [this,show (67108863:Nat)=2^26-1 from rfl,Nat.and_two_pow_sub_one_eq_mod]
 omega
theorem mask21 {x:Int} (h:0≤x) (h1:x<18446744073709551616):bits .u64 .and x 2097151=x%2097152:=by
 obtain ⟨n,rfl⟩:=Int.eq_ofNat_of_zero_le h
 have:=bits_and64 (n:=n) (m:=2097151) (by omega) (by omega)
 rw [show ((2097151:Nat):Int)=2097151 from rfl] at this
 rw [this,show (2097151:Nat)=2^21-1 from rfl,Nat.and_two_pow_sub_one_eq_mod]
 omega
theorem fdiv26 (x:Int):Int.fdiv x (2^26)=x/67108864:=by
 rw [Int.fdiv_eq_ediv_of_nonneg x (by decide)];rfl
theorem fdiv21 (x:Int):Int.fdiv x (2^21)=x/2097152:=by
 rw [Int.fdiv_eq_ediv_of_nonneg x (by decide)];rfl
theorem fdiv32 (x:Int):Int.fdiv x (2^32)=x/4294967296:=by
 rw [Int.fdiv_eq_ediv_of_nonneg x (by decide)];rfl
def val26:List Int->Int
 |[]=>0
 |x::xs=>x+67108864*val26 xs
def Lim (n:Int):List Int->Prop
 |[]=>True
 |x::xs=>(0≤x/\x<n)/\Lim n xs
theorem Lim.mono {n m:Int} (h:n≤m):∀ {l:List Int},Lim n l->Lim m l
 |[],_=>trivial
 |_::_,⟨⟨a,b⟩,c⟩=>⟨⟨a,by omega⟩,c.mono h⟩
theorem Lim.get {n:Int}:∀ {l:List Int},Lim n l->∀ x∈l,0≤x/\x<n
 |_::_,⟨a,c⟩,x,h=>by
  rcases List.mem_cons.1 h with rfl|h
  ·exact a
  ·exact c.get x h
theorem lim_of {n:Int}:∀ {l:List Int},(∀ x∈l,0≤x/\x<n)->Lim n l
 |[],_=>trivial
 |x::_,h=>⟨h x (List.mem_cons_self ..),lim_of fun y hy=>h y (List.mem_cons_of_mem _ hy)⟩
theorem val26_nonneg {n:Int}:∀ {l:List Int},Lim n l->0≤val26 l
 |[],_=>Int.le_refl 0
 |_::_,⟨a,c⟩=>by have:=val26_nonneg c;simp only [val26];omega
theorem cpass_val:∀ (l:List Int) (c:Int),Lim 9223372036854775808 l->0≤c->c<274877906944 ->
  val26 l+c=val26 (cpass c l).2+67108864^l.length*(cpass c l).1/\Lim 67108864 (cpass c l).2/\(cpass c l).2.length=l.length/\0≤(cpass c l).1/\(cpass c l).1<274877906944
 |[],c,_,h,h'=>by simp [cpass,val26,Lim,h];assumption
 |x::xs,c,⟨⟨h1,h2⟩,h3⟩,h4,h5=>by
  have e:IntKind.u64.wrap (x+c)=x+c:=u64_id (by omega) (by omega)
  have e2:bits .u64 .and (x+c) 67108863=(x+c)%67108864:=mask26 (by omega) (by omega)
  have ih:=cpass_val xs ((x+c)/67108864) h3 (by omega) (by omega)
  have hp:(67108864:Int)^(xs.length+1)=67108864^xs.length*67108864:=Int.pow_succ ..
  simp only [cpass,e,e2,fdiv26,val26,List.length_cons,hp,Lim] at ih ⊢
  obtain ⟨i1,i2,i3,i4,i5⟩:=ih
  refine ⟨?_,⟨⟨by omega,by omega⟩,i2⟩,by rw [i3],i4,i5⟩
  generalize cpass ((x+c)/67108864) xs=r at *
  rw [show (67108864:Int)^xs.length*67108864*r.1=67108864*(67108864^xs.length*r.1) by rw [Int.mul_comm (67108864^xs.length) 67108864,Int.mul_assoc]]
  generalize (67108864:Int)^xs.length*r.1=z at *
  omega
theorem val26_lt:∀ {l:List Int},Lim 67108864 l->val26 l<67108864^l.length
 |[],_=>by decide
 |x::xs,⟨a,c⟩=>by
  have:=val26_lt c
  have hp:(67108864:Int)^(xs.length+1)=67108864^xs.length*67108864:=Int.pow_succ ..
  simp only [val26,List.length_cons,hp];omega
abbrev PP:Int:=57896044618658097711785492504343953926634992332820282019728792003956564819949
theorem pow260:(67108864:Int)^10=1852673427797059126777135760139006525652319754650249024631321344126610074238976:=by decide
def bump (r:Int×List Int):List Int:=List.set r.2 0 (IntKind.wrap .u64 (List.getD r.2 0 0+IntKind.wrap .u64 (608*r.1)))
theorem bump_val {o:Int} {l:List Int} (h:Lim 67108864 l) (hn:l.length=10) (h0:0≤o) (h1:o<274877906944) :
  val26 (bump (o,l))=val26 l+608*o/\Lim 9223372036854775808 (bump (o,l))/\(bump (o,l)).length=10:=by
 match l,h,hn with
 |x::xs,⟨⟨a,b⟩,c⟩,hn =>
  have e1:IntKind.u64.wrap (608*o)=608*o:=u64_id (by omega) (by omega)
  have e2:IntKind.u64.wrap (x+608*o)=x+608*o:=u64_id (by omega) (by omega)
  simp only [bump,List.getD_cons_zero,e1,e2,List.set_cons_zero,val26,Lim,List.length_cons] at hn ⊢
  exact ⟨by omega,⟨⟨by omega,by omega⟩,c.mono (by omega)⟩,by omega⟩
def carried (l:List Int):List Int:=bump (cpass 0 (bump (cpass 0 (bump (cpass 0 l)))))
theorem carry_eq {l:List Int} (hn:l.length=10):field_Elem_carry_2 ⟨l⟩=some ⟨carried l⟩:=by
 obtain ⟨a0,a1,a2,a3,a4,a5,a6,a7,a8,a9,rfl⟩:=list10 hn
 kernel_rfl
theorem carried_val {l:List Int} (h:Lim 9223372036854775808 l) (hn:l.length=10) :
  val26 (carried l)%PP=val26 l%PP/\Lim 67108864 (carried l)/\(carried l).length=10:=by
 obtain ⟨a1,a2,a3,a4,a5⟩:=cpass_val l 0 h (by decide) (by decide)
 rw [hn] at a1 a3
 have a6:=val26_nonneg a2
 have a7:=val26_lt a2
 rw [a3,pow260] at a7
 rw [pow260] at a1
 obtain ⟨b1,b2,b3⟩:=bump_val a2 a3 a4 a5
 unfold carried
 generalize hl1:cpass 0 l=r1 at *
 obtain ⟨o1,l1⟩:=r1
 generalize hb1:bump (o1,l1)=m1 at *
 obtain ⟨c1,c2,c3,c4,c5⟩:=cpass_val m1 0 b2 (by decide) (by decide)
 rw [b3] at c1 c3
 have c6:=val26_nonneg c2
 have c7:=val26_lt c2
 rw [c3,pow260] at c7
 rw [pow260] at c1
 obtain ⟨d1,d2,d3⟩:=bump_val c2 c3 c4 c5
 generalize hl2:cpass 0 m1=r2 at *
 obtain ⟨o2,l2⟩:=r2
 generalize hb2:bump (o2,l2)=m2 at *
 obtain ⟨e1,e2,e3,e4,e5⟩:=cpass_val m2 0 d2 (by decide) (by decide)
 rw [d3] at e1 e3
 have e6:=val26_nonneg e2
 have e7:=val26_lt e2
 rw [e3,pow260] at e7
 rw [pow260] at e1
 generalize hl3:cpass 0 m2=r3 at *
 obtain ⟨o3,l3⟩:=r3
 simp only at *
 have z:o3=0:=by omega
 subst z
 have f:bump (0,l3)=l3:=by
  match l3,e2,e3 with
  |x::xs,⟨⟨a,b⟩,c⟩,hn =>
   simp only [bump,List.getD_cons_zero,List.set_cons_zero,Int.mul_zero]
   rw [show IntKind.u64.wrap 0=0 from rfl,Int.add_zero,u64_id a (by omega)]
 rw [f]
 exact ⟨by unfold PP;omega,e2,e3⟩
end Go.Eng
namespace Go.Eng
set_option maxRecDepth 100000
set_option maxHeartbeats 1000000
theorem addL_val:∀ (a b:List Int),a.length=b.length->Lim 67108864 a->Lim 67108864 b ->
  val26 (addL a b)=val26 a+val26 b/\Lim 9223372036854775808 (addL a b)/\(addL a b).length=a.length
 |[],[],_,_,_=>by simp [addL,val26,Lim]
 |x::xs,y::ys,h,⟨⟨p1,p2⟩,p3⟩,⟨⟨q1,q2⟩,q3⟩=>by
  obtain ⟨i1,i2,i3⟩:=addL_val xs ys (by simpa using h) p3 q3
  simp only [addL,val26,Lim,List.length_cons,i1,i3,u64_id (n:=x+y) (by omega) (by omega)]
  exact ⟨by omega,⟨⟨by omega,by omega⟩,i2⟩,trivial⟩
def Big:List Int->Prop
 |[]=>True
 |x::xs=>(67108864≤x/\x<134217728)/\Big xs
theorem subL_val:∀ (a b m:List Int),a.length=b.length->a.length=m.length->Lim 67108864 a->Lim 67108864 b->Big m ->
  val26 (subL a b m)=val26 a+val26 m-val26 b/\Lim 9223372036854775808 (subL a b m)/\(subL a b m).length=a.length
 |[],[],[],_,_,_,_,_=>by simp [subL,val26,Lim]
 |x::xs,y::ys,m::ms,h,h',⟨⟨p1,p2⟩,p3⟩,⟨⟨q1,q2⟩,q3⟩,⟨⟨r1,r2⟩,r3⟩=>by
  obtain ⟨i1,i2,i3⟩:=subL_val xs ys ms (by simpa using h) (by simpa using h') p3 q3 r3
  simp only [subL,val26,Lim,List.length_cons,i1,i3,u64_id (n:=m-y) (by omega) (by omega),u64_id (n:=x+(m-y)) (by omega) (by omega)]
  exact ⟨by omega,⟨⟨by omega,by omega⟩,i2⟩,trivial⟩
theorem addRow_val (x:Int) (hx:0≤x) (hx':x<67108864) (N:Int) (hN:N+4503599627370496≤18446744073709551616):∀ (ys ws:List Int),ys.length≤ws.length->Lim 67108864 ys->Lim N ws ->
  val26 (addRow x ys ws)=val26 ws+x*val26 ys/\Lim (N+4503599627370496) (addRow x ys ws)/\(addRow x ys ws).length=ws.length
 |[],ws,_,_,h=>by simp only [addRow,val26,Int.mul_zero,Int.add_zero,true_and];exact ⟨h.mono (by omega),trivial⟩
 |y::ys,w::ws,h,⟨⟨p1,p2⟩,p3⟩,⟨⟨q1,q2⟩,q3⟩=>by
  obtain ⟨i1,i2,i3⟩:=addRow_val x hx hx' N hN ys ws (by simpa using h) p3 q3
  have m0:0≤x*y:=Int.mul_nonneg hx p1
  have m1:x*y≤67108863*67108863:=Int.mul_le_mul (by omega) (by omega) p1 (by decide)
  simp only [addRow,val26,Lim,List.length_cons,i1,i3,u64_id (n:=x*y) (by omega) (by omega),u64_id (n:=w+x*y) (by omega) (by omega)]
  refine ⟨?_,⟨⟨by omega,by omega⟩,i2⟩,trivial⟩
  rw [Int.mul_add,Int.mul_add,Int.mul_left_comm x];omega
theorem mulAll_val (ys:List Int) (hy:Lim 67108864 ys) (hy0:0<ys.length):∀ (xs ws:List Int) (N:Int),N+xs.length*4503599627370496≤18446744073709551616->ys.length+xs.length≤ws.length+1->Lim 67108864 xs->Lim N ws->0≤N ->
  val26 (mulAll ys xs ws)=val26 ws+val26 xs*val26 ys/\Lim (N+xs.length*4503599627370496) (mulAll ys xs ws)/\(mulAll ys xs ws).length=ws.length
 |[],ws,N,_,_,_,h,_=>by simp only [mulAll,val26,Int.zero_mul,Int.add_zero,true_and];exact ⟨h.mono (by simp),trivial⟩
 |x::xs,[],N,_,h,_,_,_=>by
  simp only [List.length_cons,List.length_nil] at h
  omega
 |x::xs,w::ws,N,hN,h,⟨⟨p1,p2⟩,p3⟩,hw,h0=>by
  simp only [List.length_cons] at h hN
  obtain ⟨i1,i2,i3⟩:=addRow_val x p1 p2 N (by omega) ys (w::ws) (by simp only [List.length_cons];omega) hy hw
  simp only [mulAll]
  generalize addRow x ys (w::ws)=r at *
  match r,i1,i2,i3 with
  |r::rs,i1,⟨⟨j1,j2⟩,j3⟩,i3 =>
   simp only [List.length_cons] at i3
   obtain ⟨k1,k2,k3⟩:=mulAll_val ys hy hy0 xs rs (N+4503599627370496) (by omega) (by omega) p3 j3 (by omega)
   simp only [val26,Lim,List.length_cons,k1,k3] at i1 ⊢
   refine ⟨?_,⟨⟨by omega,by omega⟩,k2.mono (by omega)⟩,by omega⟩
   rw [Int.add_mul,Int.mul_add,Int.mul_assoc];omega
def LimT:List Int->Prop
 |[]=>True
 |[x]=>0≤x
 |x::y::xs=>(0≤x/\x<67108864)/\LimT (y::xs)
theorem LimT.lim:∀ {l:List Int},LimT l->val26 l<67108864^l.length->Lim 67108864 l
 |[],_,_=>trivial
 |[x],h,h'=>by simp [val26,Lim,LimT] at *;omega
 |x::y::xs,⟨h1,h2⟩,h'=>by
  have hp:(67108864:Int)^((y::xs).length+1)=67108864^(y::xs).length*67108864:=Int.pow_succ ..
  rw [List.length_cons,hp] at h'
  refine ⟨h1,LimT.lim h2 ?_⟩
  simp only [val26] at h' ⊢
  generalize (67108864:Int)^(y::xs).length=q at *
  omega
theorem wpass_val (l:List Int):∀ (c:Int),l≠[]->Lim 9223372036854775808 l->0≤c->c<274877906944 ->
  val26 (wpass c l)=val26 l+c/\LimT (wpass c l)/\(wpass c l).length=l.length:=by
 induction l with
 |nil=>intro c h;exact absurd rfl h
 |cons x xs ih =>
  intro c _ h h4 h5
  obtain ⟨⟨h1,h2⟩,h3⟩:=h
  have e:IntKind.u64.wrap (x+c)=x+c:=u64_id (by omega) (by omega)
  cases xs with
  |nil=>rw [wpass,e];refine ⟨?_,?_,rfl⟩;{ simp only [val26];omega };{ show 0≤x+c;omega }
  |cons y xs =>
   have e2:bits .u64 .and (x+c) 67108863=(x+c)%67108864:=mask26 (by omega) (by omega)
   obtain ⟨i1,i2,i3⟩:=ih ((x+c)/67108864) (by simp) h3 (by omega) (by omega)
   rw [wpass,e,e2,fdiv26]
   generalize wpass ((x+c)/67108864) (y::xs)=r at *
   match r,i1,i2,i3 with
   |r::rs,i1,i2,i3 =>
    simp only [val26,LimT,List.length_cons] at i1 i2 i3 ⊢
    exact ⟨by omega,⟨⟨by omega,by omega⟩,i2⟩,by omega⟩
theorem wpass0_val (l:List Int) (h0:l≠[]) (h:Lim 9223372036854775808 l) :
  val26 (wpass0 l)=val26 l/\LimT (wpass0 l)/\(wpass0 l).length=l.length:=by
 match l,h0,h with
 |[x],_,⟨⟨h1,h2⟩,_⟩=>simp only [wpass0,val26,LimT,true_and,and_true];exact h1
 |x::y::xs,_,⟨⟨h1,h2⟩,h3⟩ =>
  have e2:bits .u64 .and x 67108863=x%67108864:=mask26 (by omega) (by omega)
  obtain ⟨i1,i2,i3⟩:=wpass_val (y::xs) (x/67108864) (by simp) h3 (by omega) (by omega)
  rw [wpass0,e2,fdiv26]
  generalize wpass (x/67108864) (y::xs)=r at *
  match r,i1,i2,i3 with
  |r::rs,i1,i2,i3 =>
   simp only [val26,LimT,List.length_cons] at i1 i2 i3 ⊢
   exact ⟨by omega,⟨⟨by omega,by omega⟩,i2⟩,by omega⟩
theorem down608_val:∀ (a b:List Int),a.length=b.length->Lim 67108864 a->Lim 67108864 b ->
  val26 (down608 a b)=val26 a+608*val26 b/\Lim 9223372036854775808 (down608 a b)/\(down608 a b).length=a.length
 |[],[],_,_,_=>by simp [down608,val26,Lim]
 |x::xs,y::ys,h,⟨⟨p1,p2⟩,p3⟩,⟨⟨q1,q2⟩,q3⟩=>by
  obtain ⟨i1,i2,i3⟩:=down608_val xs ys (by simpa using h) p3 q3
  simp only [down608,val26,Lim,List.length_cons,i1,i3,u64_id (n:=608*y) (by omega) (by omega),u64_id (n:=x+608*y) (by omega) (by omega)]
  exact ⟨by omega,⟨⟨by omega,by omega⟩,i2⟩,trivial⟩
theorem val26_append:∀ (a b:List Int),val26 (a++b)=val26 a+67108864^a.length*val26 b
 |[],b=>by simp [val26]
 |x::xs,b=>by
  have hp:(67108864:Int)^(xs.length+1)=67108864^xs.length*67108864:=Int.pow_succ ..
  simp only [List.cons_append,val26,val26_append xs b,List.length_cons,hp]
  rw [Int.mul_add,Int.mul_comm (67108864^xs.length) 67108864,Int.mul_assoc];omega
theorem Lim.append {n:Int}:∀ {a b:List Int},Lim n (a++b)->Lim n a/\Lim n b
 |[],_,h=>⟨trivial,h⟩
 |_::_,_,⟨h1,h2⟩=>⟨⟨h1,h2.append.1⟩,h2.append.2⟩
structure EOk (e:T_field_Elem):Prop where
 lim:Lim 67108864 e.fn
 len:e.fn.length=10
def res (e:T_field_Elem):Int:=val26 e.fn%PP
def addP (x y:Int):Int:=(x+y)%PP
def subP (x y:Int):Int:=(x-y)%PP
def mulP (x y:Int):Int:=(x*y)%PP
theorem Add_some {a b:T_field_Elem} (ha:EOk a) (hb:EOk b):∃ r,field_Elem_Add a b=some r/\EOk r/\res r=addP (res a) (res b):=by
 obtain ⟨a⟩:=a;obtain ⟨b⟩:=b;obtain ⟨ha,la⟩:=ha;obtain ⟨hb,lb⟩:=hb
 obtain ⟨i1,i2,i3⟩:=addL_val a b (la.trans lb.symm) ha hb
 obtain ⟨j1,j2,j3⟩:=carried_val i2 (i3.trans la)
 refine ⟨⟨carried (addL a b)⟩,?_,⟨j2,j3⟩,?_⟩
 ·have e:field_Elem_Add_l1 ⟨b⟩ FUEL 0 a=some (addL a b):=by
   obtain ⟨a0,a1,a2,a3,a4,a5,a6,a7,a8,a9,rfl⟩:=list10 la
   obtain ⟨b0,b1,b2,b3,b4,b5,b6,b7,b8,b9,rfl⟩:=list10 lb
   exact add_l1 ..
  simp only [field_Elem_Add,e,Option.bind_some,carry_eq (i3.trans la)]
 ·show val26 (carried (addL a b))%PP=_
  rw [j1,i1];exact Int.add_emod ..
theorem tb_field_many_val:val26 tb_field_many=64*PP:=by decide
theorem Sub_some {a b:T_field_Elem} (ha:EOk a) (hb:EOk b):∃ r,field_Elem_Sub a b=some r/\EOk r/\res r=subP (res a) (res b):=by
 obtain ⟨a⟩:=a;obtain ⟨b⟩:=b;obtain ⟨ha,la⟩:=ha;obtain ⟨hb,lb⟩:=hb
 obtain ⟨i1,i2,i3⟩:=subL_val a b tb_field_many (la.trans lb.symm) la ha hb (by simp [Big,tb_field_many])
 obtain ⟨j1,j2,j3⟩:=carried_val i2 (i3.trans la)
 refine ⟨⟨carried (subL a b tb_field_many)⟩,?_,⟨j2,j3⟩,?_⟩
 ·have e:field_Elem_Sub_l1 ⟨b⟩ FUEL 0 a=some (subL a b tb_field_many):=by
   obtain ⟨a0,a1,a2,a3,a4,a5,a6,a7,a8,a9,rfl⟩:=list10 la
   obtain ⟨b0,b1,b2,b3,b4,b5,b6,b7,b8,b9,rfl⟩:=list10 lb
   exact sub_l1 ..
  simp only [field_Elem_Sub,e,Option.bind_some,carry_eq (i3.trans la)]
 ·show val26 (carried (subL a b tb_field_many))%PP=_
  rw [j1,i1,tb_field_many_val]
  show _=(val26 a%PP-val26 b%PP)%PP
  rw [←Int.sub_emod];unfold PP;omega
theorem Times_some {a b:T_field_Elem} (ha:EOk a) (hb:EOk b):∃ r,field_Elem_Times a b=some r/\EOk r/\res r=mulP (res a) (res b):=by
 obtain ⟨a⟩:=a;obtain ⟨b⟩:=b;obtain ⟨ha,la⟩:=ha;obtain ⟨hb,lb⟩:=hb
 simp only at ha la hb lb
 obtain ⟨i1,i2,i3⟩:=mulAll_val b hb (by omega) a (List.replicate 20 0) 1 (by rw [la];decide) (by rw [la,lb];decide) ha (lim_of (by simp)) (by decide)
 have e1:field_Elem_Times_l1 ⟨a⟩ ⟨b⟩ FUEL 0 (List.replicate 20 0)=some (mulAll b a (List.replicate 20 0)):=by
  obtain ⟨a0,a1,a2,a3,a4,a5,a6,a7,a8,a9,rfl⟩:=list10 la
  obtain ⟨b0,b1,b2,b3,b4,b5,b6,b7,b8,b9,rfl⟩:=list10 lb
  exact mul_l1 ..
 rw [la] at i2
 generalize mulAll b a (List.replicate 20 0)=w at *
 obtain ⟨j1,j2,j3⟩:=wpass0_val w (by intro h;simp [h] at i3) (i2.mono (by decide))
 have va:=val26_nonneg ha
 have vb:=val26_nonneg hb
 have va':=val26_lt ha
 have vb':=val26_lt hb
 rw [la,pow260] at va'
 rw [lb,pow260] at vb'
 have z:val26 (List.replicate 20 (0:Int))=0:=by decide
 rw [z,Int.zero_add] at i1
 have hv:val26 a*val26 b≤1852673427797059126777135760139006525652319754650249024631321344126610074238975*1852673427797059126777135760139006525652319754650249024631321344126610074238975:=Int.mul_le_mul (by omega) (by omega) vb (by decide)
 have p520:(67108864:Int)^20=1852673427797059126777135760139006525652319754650249024631321344126610074238976*1852673427797059126777135760139006525652319754650249024631321344126610074238976:=by decide
 have l20:w.length=20:=by rw [i3];rfl
 have j4:=j2.lim (by rw [j3,l20,p520,j1,i1];omega)
 have e3:field_Elem_Times_l3 FUEL 0 w=some (wpass0 w):=by
  obtain ⟨a0,a1,a2,a3,a4,a5,a6,a7,a8,a9,b0,b1,b2,b3,b4,b5,b6,b7,b8,b9,rfl⟩:=list20 l20
  exact mul_l3 ..
 have e4:∃ lo hi:List Int,wpass0 w=lo++hi/\lo.length=10/\hi.length=10/\field_Elem_Times_l4 (wpass0 w) FUEL 0 (List.replicate 10 0)=some (down608 lo hi):=by
  obtain ⟨a0,a1,a2,a3,a4,a5,a6,a7,a8,a9,b0,b1,b2,b3,b4,b5,b6,b7,b8,b9,h⟩:=list20 (j3.trans l20)
  rw [h]
  exact ⟨[a0,a1,a2,a3,a4,a5,a6,a7,a8,a9],[b0,b1,b2,b3,b4,b5,b6,b7,b8,b9],rfl,rfl,rfl,mul_l4 ..⟩
 obtain ⟨lo,hi,h1,h2,h3,e4⟩:=e4
 rw [h1] at j4
 obtain ⟨k1,k2,k3⟩:=down608_val lo hi (h2.trans h3.symm) j4.append.1 j4.append.2
 obtain ⟨n1,n2,n3⟩:=carried_val k2 (k3.trans h2)
 refine ⟨⟨carried (down608 lo hi)⟩,?_,⟨n2,n3⟩,?_⟩
 ·simp only [field_Elem_Times,e1,e3,e4,Option.bind_some,carry_eq (k3.trans h2)]
 ·show val26 (carried (down608 lo hi))%PP=((val26 a%PP)*(val26 b%PP))%PP
  rw [n1,k1,←Int.mul_emod,←i1,←j1,h1,val26_append,h2,pow260]
  unfold PP;omega
end Go.Eng
namespace Go.Eng
set_option maxRecDepth 100000
set_option maxHeartbeats 1000000
theorem and_max {x:Int} (h:0≤x) (h1:x<18446744073709551616):bits .u64 .and x 18446744073709551615=x:=by
 obtain ⟨n,rfl⟩:=Int.eq_ofNat_of_zero_le h
 have:=bits_and64 (n:=n) (m:=18446744073709551615) (by omega) (by omega)
 rw [show ((18446744073709551615:Nat):Int)=18446744073709551615 from rfl] at this
 rw [this,show (18446744073709551615:Nat)=2^64-1 from rfl,Nat.and_two_pow_sub_one_eq_mod,Nat.mod_eq_of_lt (by omega)]
theorem and_zero64 {x:Int} (h:0≤x) (h1:x<18446744073709551616):bits .u64 .and x 0=0:=by
 obtain ⟨n,rfl⟩:=Int.eq_ofNat_of_zero_le h
 have:=bits_and64 (n:=n) (m:=0) (by omega) (by omega)
 rw [show ((0:Nat):Int)=0 from rfl,Nat.and_zero] at this
 exact this
theorem or_zero64 {x:Int} (h:0≤x) (h1:x<18446744073709551616):bits .u64 .or x 0=x:=by
 obtain ⟨n,rfl⟩:=Int.eq_ofNat_of_zero_le h
 have:=bits_or64 (n:=n) (m:=0) (by omega) (by omega)
 rw [show ((0:Nat):Int)=0 from rfl,Nat.or_zero] at this
 exact this
theorem zero_or64 {x:Int} (h:0≤x) (h1:x<18446744073709551616):bits .u64 .or 0 x=x:=by
 obtain ⟨n,rfl⟩:=Int.eq_ofNat_of_zero_le h
 have:=bits_or64 (n:=0) (m:=n) (by omega) (by omega)
 rw [show ((0:Nat):Int)=0 from rfl,Nat.zero_or] at this
 exact this
theorem andNot_zero64 {x:Int} (h:0≤x) (h1:x<18446744073709551616):bits .u64 .andNot x 0=x:=by
 obtain ⟨n,rfl⟩:=Int.eq_ofNat_of_zero_le h
 show IntKind.u64.wrap (((BitVec.ofInt 64 n &&& ~~~ BitVec.ofInt 64 0:BitVec 64).toNat:Nat):Int)=_
 rw [show ~~~ BitVec.ofInt 64 0=BitVec.allOnes 64 from by decide,BitVec.and_allOnes,BitVec.ofInt_natCast,BitVec.toNat_ofNat]
 simp only [Nat.reducePow]
 rw [Nat.mod_eq_of_lt (by omega),u64_id (by omega) (by omega)]
theorem andNot_max {x:Int}:bits .u64 .andNot x 18446744073709551615=0:=by
 show IntKind.u64.wrap (((BitVec.ofInt 64 x &&& ~~~ BitVec.ofInt 64 18446744073709551615:BitVec 64).toNat:Nat):Int)=_
 rw [show ~~~ BitVec.ofInt 64 18446744073709551615=0#64 from by decide,BitVec.and_zero];rfl
theorem zip_tt:∀ (a b:List Int),a.length=b.length->Lim 67108864 a->a.zipWith (fun x y=>bits .u64 .or (bits .u64 .and x 18446744073709551615) (bits .u64 .andNot y 18446744073709551615)) b=a
 |[],[],_,_=>rfl
 |x::xs,y::ys,h,⟨⟨p1,p2⟩,p3⟩=>by
  rw [List.zipWith_cons_cons,zip_tt xs ys (by simpa using h) p3,and_max p1 (by omega),andNot_max,or_zero64 p1 (by omega)]
theorem zip_ff:∀ (a b:List Int),a.length=b.length->Lim 67108864 a->Lim 67108864 b->a.zipWith (fun x y=>bits .u64 .or (bits .u64 .and x 0) (bits .u64 .andNot y 0)) b=b
 |[],[],_,_,_=>rfl
 |x::xs,y::ys,h,⟨⟨p1,p2⟩,p3⟩,⟨⟨q1,q2⟩,q3⟩=>by
  rw [List.zipWith_cons_cons,zip_ff xs ys (by simpa using h) p3 q3,and_zero64 p1 (by omega),andNot_zero64 q1 (by omega),zero_or64 q1 (by omega)]
theorem Pick_some {a b:T_field_Elem} (yes:Bool) (ha:EOk a) (hb:EOk b):field_Pick yes a b=some (cond yes a b):=by
 obtain ⟨a⟩:=a;obtain ⟨b⟩:=b;obtain ⟨ha,la⟩:=ha;obtain ⟨hb,lb⟩:=hb
 simp only at ha la hb lb
 cases yes with
 |true =>
  have e:field_Pick_l1 true ⟨b⟩ FUEL 0 a=some a:=by
   have z:=zip_tt a b (la.trans lb.symm) ha
   obtain ⟨a0,a1,a2,a3,a4,a5,a6,a7,a8,a9,rfl⟩:=list10 la
   obtain ⟨b0,b1,b2,b3,b4,b5,b6,b7,b8,b9,rfl⟩:=list10 lb
   rw [pick_tt,z]
  simp only [field_Pick,e,Option.bind_some,cond]
 |false =>
  have e:field_Pick_l1 false ⟨b⟩ FUEL 0 a=some b:=by
   have z:=zip_ff a b (la.trans lb.symm) ha hb
   obtain ⟨a0,a1,a2,a3,a4,a5,a6,a7,a8,a9,rfl⟩:=list10 la
   obtain ⟨b0,b1,b2,b3,b4,b5,b6,b7,b8,b9,rfl⟩:=list10 lb
   rw [pick_ff,z]
  simp only [field_Pick,e,Option.bind_some,cond]
end Go.Eng
namespace Go.Eng
set_option maxRecDepth 100000
set_option maxHeartbeats 1000000
def limbsN (w:Nat):Nat->Nat->List Nat
 |0,_=>[]
 |n+1,x=>x%2^w::limbsN w n (x/2^w)
theorem limbsN_len (w:Nat):∀ n x,(limbsN w n x).length=n
 |0,_=>rfl
 |n+1,x=>by simp [limbsN,limbsN_len w n]
theorem limbsN_get (w:Nat):∀ n x j,j<n->(limbsN w n x).getD j 0=x/2^(w*j)%2^w
 |n+1,x,0,_=>by simp [limbsN]
 |n+1,x,j+1,h=>by
  rw [limbsN,List.getD_cons_succ,limbsN_get w n _ j (by omega),Nat.div_div_eq_div_mul,←Nat.pow_add,Nat.mul_succ,Nat.add_comm w]
theorem limbsN_set (w:Nat) (hw:0<w):∀ n X i,i<w*n ->
  (limbsN w n (X%2^i)).getD (i/w) 0<2^(i%w) /\
  (limbsN w n (X%2^i)).set (i/w) ((limbsN w n (X%2^i)).getD (i/w) 0+2^(i%w)*(X/2^i%2))=limbsN w n (X%2^(i+1))
 |0,_,_,h=>by simp at h
 |n+1,X,i,h=>by
  by_cases hi:i<w
  ·have h1:X%2^i<2^i:=Nat.mod_lt _ (Nat.two_pow_pos i)
   have h2:(2:Nat)^i<2^w:=Nat.pow_lt_pow_right (by decide) hi
   have h3:X%2^(i+1)<2^(i+1):=Nat.mod_lt _ (Nat.two_pow_pos _)
   have h4:(2:Nat)^(i+1)≤2^w:=Nat.pow_le_pow_right (by decide) hi
   have h5:X%2^(i+1)=X%2^i+2^i*(X/2^i%2):=by rw [Nat.pow_succ,Nat.mod_mul]
   rw [Nat.div_eq_of_lt hi,Nat.mod_eq_of_lt hi]
   simp only [limbsN,List.getD_cons_zero,List.set_cons_zero]
   rw [Nat.mod_eq_of_lt (Nat.lt_trans h1 h2),Nat.div_eq_of_lt (Nat.lt_trans h1 h2),Nat.mod_eq_of_lt (Nat.lt_of_lt_of_le h3 h4),Nat.div_eq_of_lt (Nat.lt_of_lt_of_le h3 h4),←h5]
   exact ⟨h1,rfl⟩
  ·obtain ⟨k,rfl⟩:∃ k,i=w+k:=⟨i-w,by omega⟩
   have e1:(w+k)/w=k/w+1:=by rw [Nat.add_comm,Nat.add_div_right _ hw]
   have e2:(w+k)%w=k%w:=by rw [Nat.add_comm,Nat.add_mod_right]
   have e3:∀ m,(X%2^(w+m))%2^w=X%2^w:=fun m=>Nat.mod_mod_of_dvd _ ⟨2^m,Nat.pow_add ..⟩
   have e4:∀ m,(X%2^(w+m))/2^w=X/2^w%2^m:=fun m=>by rw [Nat.pow_add,Nat.mod_mul_right_div_self]
   have e5:X/2^(w+k)=X/2^w/2^k:=by rw [Nat.pow_add,Nat.div_div_eq_div_mul]
   have hk:k<w*n:=by rw [Nat.mul_succ] at h;omega
   obtain ⟨i1,i2⟩:=limbsN_set w hw n (X/2^w) k hk
   rw [e1,e2,e5,Nat.add_assoc]
   simp only [limbsN,List.getD_cons_succ,List.set_cons_succ,e3,e4]
   exact ⟨i1,by rw [i2]⟩
theorem or_add {a r b:Nat} (h:a<2^r):a|||(b*2^r)=a+2^r*b:=by
 rw [Nat.mul_comm b,Nat.or_comm,←Nat.two_pow_add_eq_or_of_lt h,Nat.add_comm]
theorem limbsN_bit (w:Nat) (hw:0<w) (n X i:Nat) (h:i<w*n):(limbsN w n X).getD (i/w) 0/2^(i%w)%2=X/2^i%2:=by
 have h1:i/w<n:=(Nat.div_lt_iff_lt_mul hw).2 (by rw [Nat.mul_comm];exact h)
 rw [limbsN_get w n X _ h1,←Nat.toNat_testBit,←Nat.toNat_testBit,Nat.testBit_mod_two_pow,Nat.testBit_div_two_pow]
 have h2:i%w<w:=Nat.mod_lt _ hw
 rw [Nat.add_comm (i%w),Nat.div_add_mod]
 simp [h2]
def valN (w:Nat):List Nat->Nat
 |[]=>0
 |x::xs=>x+2^w*valN w xs
theorem valN_limbs (w:Nat):∀ n X,valN w (limbsN w n X)=X%2^(w*n)
 |0,X=>by simp [limbsN,valN,Nat.mod_one]
 |n+1,X=>by
  rw [limbsN,valN,valN_limbs w n,Nat.mul_succ,Nat.add_comm,Nat.add_comm (w*n),Nat.pow_add,Nat.mod_mul,Nat.add_comm]
theorem limbsN_val (w:Nat):∀ (l:List Nat),(∀ x∈l,x<2^w)->limbsN w l.length (valN w l)=l
 |[],_=>rfl
 |x::xs,h=>by
  have hx:=h x (List.mem_cons_self ..)
  rw [List.length_cons,limbsN,valN,Nat.add_mul_mod_self_left,Nat.mod_eq_of_lt hx,Nat.add_mul_div_left _ _ (Nat.two_pow_pos w),Nat.div_eq_of_lt hx,Nat.zero_add,limbsN_val w xs fun y hy=>h y (List.mem_cons_of_mem _ hy)]
theorem valN_lt (w:Nat):∀ (l:List Nat),(∀ x∈l,x<2^w)->valN w l<2^(w*l.length)
 |[],_=>by simp [valN]
 |x::xs,h=>by
  have hx:=h x (List.mem_cons_self ..)
  have ih:=valN_lt w xs fun y hy=>h y (List.mem_cons_of_mem _ hy)
  rw [valN,List.length_cons,Nat.mul_succ,Nat.add_comm (w*xs.length),Nat.pow_add]
  have:2^w*valN w xs+2^w≤2^w*2^(w*xs.length):=by rw [←Nat.mul_succ];exact Nat.mul_le_mul_left _ ih
  omega
end Go.Eng
namespace Go.Eng
set_option maxRecDepth 100000
set_option maxHeartbeats 1000000
def zl (l:List Nat):List Int:=l.map (fun (n:Nat)=>(n:Int))
theorem zl_getD (l:List Nat) (j:Nat):(zl l).getD j 0=((l.getD j 0:Nat):Int):=by
 unfold zl;simp only [List.getD,List.getElem?_map];cases l[j]?<;>rfl
theorem zl_set (l:List Nat) (j x:Nat):(zl l).set j (x:Int)=zl (l.set j x):=by unfold zl;rw [List.map_set]
theorem zl_len (l:List Nat):(zl l).length=l.length:=List.length_map ..
theorem zl_cons (x:Nat) (l:List Nat):zl (x::l)=(x:Int)::zl l:=rfl
theorem zl_append (a b:List Nat):zl (a++b)=zl a++zl b:=List.map_append
theorem zl_rep (n x:Nat):zl (List.replicate n x)=List.replicate n (x:Int):=by simp [zl]
theorem zl_take (l:List Nat) (n:Nat):zl (l.take n)=(zl l).take n:=by simp [zl]
theorem lim_zl {n:Nat}:∀ {l:List Int},Lim n l->∃ m:List Nat,l=zl m/\m.length=l.length/\∀ x∈m,x<n
 |[],_=>⟨[],rfl,rfl,fun _ h=>by simp at h⟩
 |x::xs,⟨⟨a,b⟩,c⟩=>by
  obtain ⟨m,rfl,h1,h2⟩:=lim_zl c
  obtain ⟨k,rfl⟩:=Int.eq_ofNat_of_zero_le a
  refine ⟨k::m,rfl,by simp [h1],fun y hy => ?_⟩
  rcases List.mem_cons.1 hy with rfl|hy
  ·exact Int.ofNat_lt.1 b
  ·exact h2 y hy
theorem zl_lim {n:Nat}:∀ {m:List Nat},(∀ x∈m,x<n)->Lim n (zl m)
 |[],_=>trivial
 |x::_,h=>⟨⟨Int.natCast_nonneg x,Int.ofNat_lt.2 (h x (List.mem_cons_self ..))⟩,zl_lim fun y hy=>h y (List.mem_cons_of_mem _ hy)⟩
theorem i64n {n:Nat} (h:n<9223372036854775808):IntKind.wrap .i64 (n:Int)=n:=wrap_i64 (by omega) (by omega)
theorem u64n (n:Nat):IntKind.wrap .u64 (n:Int)=((n%18446744073709551616:Nat):Int):=by rw [wu64];rfl
theorem u8n (n:Nat):IntKind.wrap .u8 (n:Int)=((n%256:Nat):Int):=by rw [wu8];rfl
theorem fdivn (a m:Nat):Int.fdiv (a:Int) (2^m)=((a/2^m:Nat):Int):=by
 have h:((2:Int)^m)=((2^m:Nat):Int):=by rw [Int.natCast_pow];rfl
 rw [h,Int.fdiv_eq_ediv_of_nonneg _ (Int.natCast_nonneg _)];rfl
theorem muln (a m:Nat):(a:Int)*2^m=((a*2^m:Nat):Int):=by rw [Int.natCast_mul,Int.natCast_pow];rfl
theorem bits_and8 {n m:Nat} (hn:n<256) (hm:m<256):bits .u8 .and (n:Int) (m:Int)=((n&&&m:Nat):Int):=by
 show IntKind.u8.wrap (((BitVec.ofInt 8 n&&&BitVec.ofInt 8 m:BitVec 8).toNat:Nat):Int)=_
 rw [BitVec.ofInt_natCast,BitVec.ofInt_natCast,BitVec.toNat_and,BitVec.toNat_ofNat,BitVec.toNat_ofNat,wu8]
 simp only [Nat.reducePow]
 rw [Nat.mod_eq_of_lt hn,Nat.mod_eq_of_lt hm,Int.emod_eq_of_lt (by omega)]
 have:=Nat.and_le_left (n:=n) (m:=m)
 omega
theorem bits_or8 {n m:Nat} (hn:n<256) (hm:m<256):bits .u8 .or (n:Int) (m:Int)=((n|||m:Nat):Int):=by
 show IntKind.u8.wrap (((BitVec.ofInt 8 n|||BitVec.ofInt 8 m:BitVec 8).toNat:Nat):Int)=_
 rw [BitVec.ofInt_natCast,BitVec.ofInt_natCast,BitVec.toNat_or,BitVec.toNat_ofNat,BitVec.toNat_ofNat,wu8]
 simp only [Nat.reducePow]
 rw [Nat.mod_eq_of_lt hn,Nat.mod_eq_of_lt hm,Int.emod_eq_of_lt (by omega)]
 have:=Nat.or_lt_two_pow (n:=8) hn hm
 omega
theorem and1_8 {n:Nat} (hn:n<256):bits .u8 .and (n:Int) 1=((n%2:Nat):Int):=by
 have:=bits_and8 (n:=n) (m:=1) hn (by decide)
 rw [show ((1:Nat):Int)=1 from rfl] at this
 rw [this,Nat.and_one_is_mod]
theorem and1_64 {n:Nat} (hn:n<18446744073709551616):bits .u64 .and (n:Int) 1=((n%2:Nat):Int):=by
 have:=bits_and64 (n:=n) (m:=1) hn (by decide)
 rw [show ((1:Nat):Int)=1 from rfl] at this
 rw [this,Nat.and_one_is_mod]
theorem limbsN_lt (w:Nat) (n x:Nat):∀ y∈limbsN w n x,y<2^w:=by
 induction n generalizing x with
 |zero=>intro y h;simp [limbsN] at h
 |succ n ih =>
  intro y h
  rcases List.mem_cons.1 h with rfl|h
  ·exact Nat.mod_lt _ (Nat.two_pow_pos w)
  ·exact ih _ y h
theorem getD_lt {l:List Nat} {b:Nat} (h:∀ x∈l,x<b) (hb:0<b) (j:Nat):l.getD j 0<b:=by
 simp only [List.getD]
 cases e:l[j]? with
 |none=>exact hb
 |some x=>exact h x (List.mem_of_getElem? e)
theorem Read_l1 (N:Nat):∀ (n i:Nat),i≤255->255<n+i->field_Read_l1 (zl (limbsN 8 32 N)) n (i:Int) (zl (limbsN 26 10 (N%2^i)))=some (zl (limbsN 26 10 (N%2^255)))
 |0,i,h,h'=>by omega
 |n+1,i,h,h'=>by
  rw [field_Read_l1.eq_2]
  by_cases hi:i<255
  ·rw [cond_tt (by simp;omega)]
   have e1:Int.tdiv (i:Int) 26=((i/26:Nat):Int):=rfl
   have e2:Int.tdiv (i:Int) 8=((i/8:Nat):Int):=rfl
   have e3:Int.tmod (i:Int) 8=((i%8:Nat):Int):=rfl
   have e4:Int.tmod (i:Int) 26=((i%26:Nat):Int):=rfl
   have m1:min (i%8) (IntKind.bits .u8)=i%8:=by show min _ 8=_;omega
   have m2:min (i%26) (IntKind.bits .u64)=i%26:=by show min _ 64=_;omega
   have hb:(limbsN 8 32 N).getD (i/8) 0<256:=getD_lt (limbsN_lt 8 32 N) (by decide) _
   have hb':(limbsN 8 32 N).getD (i/8) 0/2^(i%8)<256:=Nat.lt_of_le_of_lt (Nat.div_le_self _ _) hb
   have hbit:=limbsN_bit 8 (by decide) 32 N i (by omega)
   obtain ⟨s1,s2⟩:=limbsN_set 26 (by decide) 10 N i (by omega)
   have p1:(2:Nat)^(i%26)≤2^25:=Nat.pow_le_pow_right (by decide) (by omega)
   have hlt:(N/2^i%2)*2^(i%26)<67108864:=by
    have:(N/2^i%2)*2^(i%26)≤1*2^25:=Nat.mul_le_mul (by omega) p1
    omega
   simp only [nm_eq,e1,e2,e3,e4,i64n (n:=i/26) (by omega),i64n (n:=i/8) (by omega),Int.toNat_natCast,m1,m2,zl_getD,fdivn,and1_8 hb',hbit]
   rw [if_pos (by omega),if_pos (by omega),if_pos (by omega),if_pos (by omega),if_pos (by omega)]
   rw [u64n,Nat.mod_eq_of_lt (a:=N/2^i%2) (by omega),muln,u64n,Nat.mod_eq_of_lt (a:=N/2^i%2*2^(i%26)) (by omega)]
   rw [bits_or64 (by have:=Nat.lt_of_lt_of_le s1 p1;omega) (by omega),or_add s1,zl_set,s2]
   rw [show (i:Int)+1=((i+1:Nat):Int) from rfl,i64n (by omega)]
   exact Read_l1 N n (i+1) (by omega) (by omega)
  ·have:i=255:=by omega
   subst this
   rw [cond_ff (by decide)]
theorem limbs_zero (w n:Nat):limbsN w n 0=List.replicate n 0:=by
 induction n with
 |zero=>rfl
 |succ n ih=>rw [limbsN,Nat.zero_div,ih,Nat.zero_mod];rfl
theorem Read_eq (N:Nat):field_Read (zl (limbsN 8 32 N))=some ⟨zl (limbsN 26 10 (N%2^255))⟩:=by
 have h:=Read_l1 N FUEL 0 (by omega) (by show 255<18446744073709551616+0;omega)
 rw [Nat.pow_zero,Nat.mod_one,limbs_zero,zl_rep] at h
 show (field_Read_l1 _ FUEL 0 (List.replicate 10 0)).bind _=_
 rw [show (0:Int)=((0:Nat):Int) from rfl,h];rfl
end Go.Eng
namespace Go.Eng
set_option maxRecDepth 100000
set_option maxHeartbeats 4000000
theorem val26_zl (m:List Nat):val26 (zl m)=(valN 26 m:Int):=by
 induction m with
 |nil=>rfl
 |cons x xs ih=>rw [zl_cons,val26,ih,valN];rfl
abbrev P255:Int:=57896044618658097711785492504343953926634992332820282019728792003956564819968
theorem fold_some {l:List Int} (h:Lim 67108864 l) (hn:l.length=10):∃ r,field_Elem_fold_2 ⟨l⟩=some ⟨r⟩/\Lim 67108864 r/\r.length=10/\val26 r=val26 l%P255+19*(val26 l/P255):=by
 obtain ⟨a0,a1,a2,a3,a4,a5,a6,a7,a8,a9,rfl⟩:=list10 hn
 have h':=h
 simp only [Lim] at h'
 obtain ⟨h0,h1,h2,h3,h4,h5,h6,h7,h8,h9,_⟩:=h'
 have e1:bits .u64 .and a9 2097151=a9%2097152:=mask21 (by omega) (by omega)
 have e2:IntKind.u64.wrap (19*(a9/2097152))=19*(a9/2097152):=u64_id (by omega) (by omega)
 have e3:IntKind.u64.wrap (a0+19*(a9/2097152))=a0+19*(a9/2097152):=u64_id (by omega) (by omega)
 have hv:val26 [a0,a1,a2,a3,a4,a5,a6,a7,a8,a9]%P255+19*(val26 [a0,a1,a2,a3,a4,a5,a6,a7,a8,a9]/P255)=val26 [a0+19*(a9/2097152),a1,a2,a3,a4,a5,a6,a7,a8,a9%2097152]:=by
  simp only [val26,P255];omega
 have hl:Lim 9223372036854775808 [a0+19*(a9/2097152),a1,a2,a3,a4,a5,a6,a7,a8,a9%2097152]:=by
  simp only [Lim];refine ⟨by omega,by omega,by omega,by omega,by omega,by omega,by omega,by omega,by omega,by omega,trivial⟩
 obtain ⟨w1,w2,w3⟩:=wpass0_val _ (by simp) hl
 refine ⟨wpass0 [a0+19*(a9/2097152),a1,a2,a3,a4,a5,a6,a7,a8,a9%2097152],?_,w2.lim ?_,w3,by rw [hv,w1]⟩
 ·unfold field_Elem_fold_2
  simp only [nm_eq,List.getD_cons_zero,List.getD_cons_succ,List.set_cons_zero,List.set_cons_succ,e1,fdiv21,e2,e3,fold_l1,Option.bind_some]
 ·rw [w3,w1]
  simp only [val26]
  show _<(67108864:Int)^10
  rw [pow260]
  omega
theorem limbs26 {l:List Int} (h:Lim 67108864 l) (hn:l.length=10):l=zl (limbsN 26 10 (val26 l).toNat):=by
 obtain ⟨m,rfl,h1,h2⟩:=lim_zl (n:=67108864) h
 rw [val26_zl,Int.toNat_natCast,←hn,←h1,limbsN_val 26 m (by simpa using h2)]
theorem least_some {a:T_field_Elem} (ha:EOk a):field_Elem_least a=some ⟨zl (limbsN 26 10 (res a).toNat)⟩:=by
 obtain ⟨a⟩:=a;obtain ⟨ha,la⟩:=ha
 simp only at ha la
 obtain ⟨c1,c2,c3⟩:=carried_val (ha.mono (by decide)) la
 obtain ⟨r1,f1,p1,q1,v1⟩:=fold_some c2 c3
 obtain ⟨r2,f2,p2,q2,v2⟩:=fold_some p1 q1
 have n0:=val26_nonneg c2
 have n0':=val26_lt c2
 rw [c3,pow260] at n0'
 have n1:val26 r2<P255:=by rw [v2,v1];simp only [P255];omega
 have n1':0≤val26 r2:=val26_nonneg p2
 have n2:val26 r2%PP=val26 a%PP:=by rw [←c1,v2,v1];simp only [P255];unfold PP;omega
 have hres:res ⟨a⟩=val26 r2%PP:=n2.symm
 unfold field_Elem_least
 rw [carry_eq la,Option.bind_some,f1,Option.bind_some,f2,Option.bind_some]
 obtain ⟨b0,b1,b2,b3,b4,b5,b6,b7,b8,b9,rfl⟩:=list10 q2
 have p2':=p2
 simp only [Lim] at p2'
 obtain ⟨h0,h1,h2,h3,h4,h5,h6,h7,h8,h9,_⟩:=p2'
 have e3:IntKind.u64.wrap (b0+19)=b0+19:=u64_id (by omega) (by omega)
 simp only [nm_eq,List.getD_cons_zero,List.set_cons_zero,e3,least_l1,Option.bind_some]
 have hl:Lim 9223372036854775808 [b0+19,b1,b2,b3,b4,b5,b6,b7,b8,b9]:=by
  simp only [Lim];refine ⟨by omega,by omega,by omega,by omega,by omega,by omega,by omega,by omega,by omega,by omega,trivial⟩
 obtain ⟨w1,w2,w3⟩:=wpass0_val _ (by simp) hl
 have hw:val26 [b0+19,b1,b2,b3,b4,b5,b6,b7,b8,b9]=val26 [b0,b1,b2,b3,b4,b5,b6,b7,b8,b9]+19:=by simp only [val26];omega
 generalize hz:[b0,b1,b2,b3,b4,b5,b6,b7,b8,b9]=z at *
 generalize wpass0 [b0+19,b1,b2,b3,b4,b5,b6,b7,b8,b9]=y at *
 have y1:val26 y=val26 z+19:=by rw [w1,hw]
 have y2:Lim 67108864 y:=w2.lim (by rw [w3];show _<(67108864:Int)^10;rw [pow260,y1];simp only [P255] at n1;omega)
 obtain ⟨d0,d1,d2,d3,d4,d5,d6,d7,d8,d9,rfl⟩:=list10 w3
 have y2':=y2
 simp only [Lim] at y2'
 obtain ⟨k0,k1,k2,k3,k4,k5,k6,k7,k8,k9,_⟩:=y2'
 have e1:bits .u64 .and d9 2097151=d9%2097152:=mask21 (by omega) (by omega)
 simp only [List.getD_cons_zero,List.getD_cons_succ,List.set_cons_zero,List.set_cons_succ,e1,fdiv21]
 have o1:EOk ⟨[d0,d1,d2,d3,d4,d5,d6,d7,d8,d9%2097152]⟩:=⟨by simp only [Lim];refine ⟨k0,k1,k2,k3,k4,k5,k6,k7,k8,⟨by omega,by omega⟩,trivial⟩,rfl⟩
 have o2:EOk ⟨z⟩:=⟨p2,q2⟩
 rw [Pick_some _ o1 o2,Option.bind_some]
 congr 1
 have hd:val26 [d0,d1,d2,d3,d4,d5,d6,d7,d8,d9%2097152]=(val26 z+19)%P255/\d9/2097152=(val26 z+19)/P255:=by
  rw [←y1];simp only [val26,P255];omega
 by_cases hg:val26 z<PP
 ·have:d9/2097152=0:=by rw [hd.2];simp only [P255];unfold PP at hg;omega
  rw [this]
  show (⟨z⟩:T_field_Elem)=_
  rw [hres,Int.emod_eq_of_lt n1' hg]
  congr 1
  exact limbs26 p2 q2
 ·have:d9/2097152=1:=by rw [hd.2];simp only [P255] at n1 ⊢;unfold PP at hg;omega
  rw [this]
  show (⟨[d0,d1,d2,d3,d4,d5,d6,d7,d8,d9%2097152]⟩:T_field_Elem)=_
  rw [hres]
  congr 1
  refine (limbs26 (l:=[d0,d1,d2,d3,d4,d5,d6,d7,d8,d9%2097152]) o1.lim o1.len).trans ?_
  rw [hd.1]
  congr 3
  simp only [P255] at n1 ⊢;unfold PP at hg ⊢;omega
theorem Bytes_l1 (X:Nat) (hX:X<2^255):∀ (n i:Nat),i≤255->255<n+i->field_Elem_Bytes_l1 ⟨zl (limbsN 26 10 X)⟩ n (i:Int) (zl (limbsN 8 32 (X%2^i)))=some (zl (limbsN 8 32 X))
 |0,i,h,h'=>by omega
 |n+1,i,h,h'=>by
  rw [field_Elem_Bytes_l1.eq_2]
  by_cases hi:i<255
  ·rw [cond_tt (by simp;omega)]
   have e1:Int.tdiv (i:Int) 26=((i/26:Nat):Int):=rfl
   have e2:Int.tdiv (i:Int) 8=((i/8:Nat):Int):=rfl
   have e3:Int.tmod (i:Int) 8=((i%8:Nat):Int):=rfl
   have e4:Int.tmod (i:Int) 26=((i%26:Nat):Int):=rfl
   have m1:min (i%8) (IntKind.bits .u8)=i%8:=by show min _ 8=_;omega
   have m2:min (i%26) (IntKind.bits .u64)=i%26:=by show min _ 64=_;omega
   have hb:(limbsN 26 10 X).getD (i/26) 0<67108864:=getD_lt (limbsN_lt 26 10 X) (by decide) _
   have hb':(limbsN 26 10 X).getD (i/26) 0/2^(i%26)<18446744073709551616:=Nat.lt_trans (Nat.lt_of_le_of_lt (Nat.div_le_self _ _) hb) (by decide)
   have hbit:=limbsN_bit 26 (by decide) 10 X i (by omega)
   obtain ⟨s1,s2⟩:=limbsN_set 8 (by decide) 32 X i (by omega)
   have p1:(2:Nat)^(i%8)≤2^7:=Nat.pow_le_pow_right (by decide) (by omega)
   have hlt:(X/2^i%2)*2^(i%8)<256:=by
    have:(X/2^i%2)*2^(i%8)≤1*2^7:=Nat.mul_le_mul (by omega) p1
    omega
   simp only [nm_eq,e1,e2,e3,e4,i64n (n:=i/26) (by omega),i64n (n:=i/8) (by omega),Int.toNat_natCast,m1,m2,zl_getD,fdivn,and1_64 hb',hbit]
   rw [if_pos (by omega),if_pos (by omega),if_pos (by omega),if_pos (by omega),if_pos (by omega)]
   rw [u8n,Nat.mod_eq_of_lt (a:=X/2^i%2) (by omega),muln,u8n,Nat.mod_eq_of_lt (a:=X/2^i%2*2^(i%8)) (by omega)]
   rw [bits_or8 (by have:=Nat.lt_of_lt_of_le s1 p1;omega) (by omega),or_add s1,zl_set,s2]
   rw [show (i:Int)+1=((i+1:Nat):Int) from rfl,i64n (by omega)]
   exact Bytes_l1 X hX n (i+1) (by omega) (by omega)
  ·have:i=255:=by omega
   subst this
   rw [cond_ff (by decide),Nat.mod_eq_of_lt hX]
theorem res_range (a:T_field_Elem):0≤res a/\res a<PP:=⟨Int.emod_nonneg _ (by decide),Int.emod_lt_of_pos _ (by decide)⟩
def bytesP (x:Int):List Int:=zl (limbsN 8 32 x.toNat)
theorem Bytes_some {a:T_field_Elem} (ha:EOk a):field_Elem_Bytes a=some (bytesP (res a)):=by
 obtain ⟨r0,r1⟩:=res_range a
 have hX:(res a).toNat<2^255:=by
  have:(2:Nat)^255=57896044618658097711785492504343953926634992332820282019728792003956564819968:=by decide
  rw [this];unfold PP at r1;omega
 have h:=Bytes_l1 (res a).toNat hX FUEL 0 (by omega) (by show 255<18446744073709551616+0;omega)
 rw [Nat.pow_zero,Nat.mod_one,limbs_zero,zl_rep] at h
 unfold field_Elem_Bytes
 rw [least_some ha,Option.bind_some]
 rw [show (0:Int)=((0:Nat):Int) from rfl,h];rfl
end Go.Eng
