/-
  Part of a proof: SbdM.
-/
import Derived.Test.YtaogeiahkekaoaaGreatDoorEngC
import Derived.Test.YtaogeiahkekaoaaGreatDoorTabN
set_option linter.unusedVariables false
set_option linter.unusedSimpArgs false
set_option linter.unusedVariables false
set_option linter.unusedSimpArgs false
namespace Go.Eng
open Go.Proofs
set_option maxRecDepth 100000
set_option maxHeartbeats 4000000
section
variable (er:Nat->ErrV)
def tb_shawide_constants:List Int:=[4794697086780616226,8158064640168781261,13096744586834688815,16840607885511220156,4131703408338449720,6480981068601479193,10538285296894168987,12329834152419229976,15566598209576043074,1334009975649890238,2608012711638119052,6128411473006802146,8268148722764581231,9286055187155687089,11230858885718282805,13951009754708518548,16472876342353939154,17275323862435702243,1135362057144423861,2597628984639134821,3308224258029322869,5365058923640841347,6679025012923562964,8573033837759648693,10970295158949994411,12119686244451234320,12683024718118986047,13788192230050041572,14330467153632333762,15395433587784984357,489312712824947311,1452737877330783856,2861767655752347644,3322285676063803686,5560940570517711597,5996557281743188959,7280758554555802590,8532644243296465576,9350256976987008742,10552545826968843579,11727347734174303076,12113106623233404929,14000437183269869457,14369950271660146224,15101387698204529176,15463397548674623760,17586052441742319658,1182934255886127544,1847814050463011016,2177327727835720531,2830643537854262169,3796741975233480872,4115178125766777443,5681478168544905931,6601373596472566643,7507060721942968483,8399075790359081724,8693463985226723168,9568029438360202098,10144078919501101548,10430055236837252648,11840083180663258601,13761210420658862357,14299343276471374635,14566680578165727644,15097957966210449927,16922976911328602910,17689382322260857208,500013540394364858,748580250866718886,1242879168328830382,1977374033974150939,2944078676154940804,3659926193048069267,4368137639120453308,4836135668995329356,5532061633213252278,6448918945643986474,6902733635092675308,7801388544844847127]
def tb_field_minus:List Int:=[34513072,59165138,38243406,1750207,53429016,58652137,13633939,58469549,8409025,712905]
def tb_field_many:List Int:=[134216512,134217726,134217726,134217726,134217726,134217726,134217726,134217726,134217726,134217726]
def errI:List Nat:=[4]
structure T_field_Elem where
 fn:List Int
 deriving DecidableEq
def T_field_Elem.dv (x:T_field_Elem):DV:=(.cons (.ints .u64 10 x.fn) .nil)
def T_field_Elem.z:T_field_Elem:=⟨(List.replicate 10 (0:Int))⟩
def T_field_Elem.same (x y:T_field_Elem):Bool:=((x.fn==y.fn)&&true)
structure T_points_Point where
 fx:T_field_Elem
 fy:T_field_Elem
 fz:T_field_Elem
 ft:T_field_Elem
 deriving DecidableEq
def T_points_Point.dv (x:T_points_Point):DV:=(.cons (T_field_Elem.dv x.fx) (.cons (T_field_Elem.dv x.fy) (.cons (T_field_Elem.dv x.fz) (.cons (T_field_Elem.dv x.ft) .nil))))
def T_points_Point.z:T_points_Point:=⟨T_field_Elem.z,T_field_Elem.z,T_field_Elem.z,T_field_Elem.z⟩
def T_points_Point.same (x y:T_points_Point):Bool:=(T_field_Elem.same x.fx y.fx&&(T_field_Elem.same x.fy y.fy&&(T_field_Elem.same x.fz y.fz&&(T_field_Elem.same x.ft y.ft&&true))))
structure T_fr12_Point where
 fX:List Int
 fY:List Int
 fZ:List Int
 deriving DecidableEq
def T_fr12_Point.dv (x:T_fr12_Point):DV:=(.cons (.ints .u32 8 x.fX) (.cons (.ints .u32 8 x.fY) (.cons (.ints .u32 8 x.fZ) .nil)))
def T_fr12_Point.z:T_fr12_Point:=⟨(List.replicate 8 (0:Int)),(List.replicate 8 (0:Int)),(List.replicate 8 (0:Int))⟩
def T_fr12_Point.same (x y:T_fr12_Point):Bool:=((x.fX==y.fX)&&((x.fY==y.fY)&&((x.fZ==y.fZ)&&true)))
def shawide_begin:Option ((List Int)) :=
 nm ([7640891576956012808,13503953896175478587,4354685564936845355,11912009170470909681,5840696475078001361,11170449401992604703,2270897969802886507,6620516959819538809]:List Int) fun x10 =>
 some x10
def shawide_padded (x12:Nat) (x13:List Int):Option Unit :=
 some ()
def slices_Grow_byte_byte_2 (x18:Int):Option (Nat×(List Int)) :=
 cond (decide (x18<0))
  (none)
  (((cond (decide ((IntKind.wrap .i64 (x18-0))>0))
   (if (0:Int)≤(IntKind.wrap .i64 (x18-0))/\(IntKind.wrap .i64 (x18-0))*1≤140737488355328 then
    nm ((List.replicate (Int.toNat (IntKind.wrap .i64 (x18-0))) (0:Int)):List Int) fun x21 =>
    if 0≤((List.length x21):Int) then
     some (0,x21)
    else none
   else none)
   (some ((List.length ([]:List Int)),([]:List Int))):Option (Nat×(List Int)))).bind fun r1_0_20=>match r1_0_20 with
  |(x19,x20) =>
    some (x19,x20))
def slices_Concat_byte_byte (x14:Nat) (x15:List Int):Option ((List Int)) :=
 ((cond (decide ((IntKind.wrap .i64 (0+(x14:Int)))<0))
  (none)
  (some ()):Option Unit)).bind fun _ =>
  (slices_Grow_byte_byte_2 (IntKind.wrap .i64 (0+(x14:Int)))).bind fun r17=>match r17 with
  |(x16,x17) =>
    ((if ((x16:Int)+(List.length (List.take x14 x15)))*1≤140737488355328 then
     if x16≤(List.length x17) then
      some ()
     else none
    else none:Option Unit)).bind fun _ =>
     some ((List.take x16 x17)++(List.take x14 x15))
def shawide_blocks (x19:Int):Option Int :=
 nm ((IntKind.wrap .i64 (Int.tdiv (IntKind.wrap .i64 ((IntKind.wrap .i64 (x19+16))+128)) 128)):Int) fun x20 =>
 some x20
def slices_Chunk_byte_byte_2 (x28:Nat) (x29:Int) (x30:List Int):Option Unit :=
 cond (decide (x29<1))
  (none)
  (some ())
def shawide_word_l1 (x35:List Int):Nat->Int->Int->Option Int
 |0,_,_=>none
 |n1+1,x37,x38 =>
  cond (decide (x38<(List.length (List.take 8 x35):Int)))
   (if (0:Int)≤x38/\x38<(List.length (List.take 8 x35):Int) then
    nm ((IntKind.wrap .u64 (List.getD (List.take 8 x35) (Int.toNat x38) 0)):Int) fun x39 =>
    shawide_word_l1 x35 n1 (bits .u64 .or (IntKind.wrap .u64 (x37*2^8)) x39) (IntKind.wrap .i64 (x38+1))
   else none)
   (some x37)
def shawide_word (x35:List Int):Option Int :=
 if 8≤(List.length x35:Int) then
  ((shawide_word_l1 x35 FUEL 0 0:Option Int)).bind fun x36 =>
   some x36
 else none
def words_Right64 (x39:Int) (x40:Int):Option Int :=
 if (0:Int)≤(Int.tmod (IntKind.wrap .u64 x40) 64) then
  nm ((Int.fdiv x39 (2^(min (Int.toNat (Int.tmod (IntKind.wrap .u64 x40) 64)) (IntKind.bits .u64)))):Int) fun x41 =>
  nm ((IntKind.wrap .u64 (64-(Int.tmod (IntKind.wrap .u64 x40) 64))):Int) fun x42 =>
  if (0:Int)≤x42 then
   nm ((IntKind.wrap .u64 (x39*2^(min (Int.toNat x42) (IntKind.bits .u64)))):Int) fun x43 =>
   some (bits .u64 .or x41 x43)
  else none
 else none
def shawide_schedule_l1 (x34:List Int):Nat->Int->(List Int)->Option ((List Int))
 |0,_,_=>none
 |n1+1,x36,x37 =>
  cond (decide (x36<80))
   (((cond (decide (x36<16))
    (if (0:Int)≤(IntKind.wrap .i64 (8*x36))/\(IntKind.wrap .i64 (8*x36))≤(List.length x34:Int) then
     nm ((List.take (Int.toNat ((List.length x34:Int)-(IntKind.wrap .i64 (8*x36)))) (List.drop (Int.toNat (IntKind.wrap .i64 (8*x36))) x34)):List Int) fun x39 =>
     (shawide_word x39).bind fun x40 =>
      if (0:Int)≤x36/\x36<80 then
       some (List.set x37 (Int.toNat x36) x40)
      else none
    else none)
    (if (0:Int)≤(IntKind.wrap .i64 (x36-15))/\(IntKind.wrap .i64 (x36-15))<80 then
     if (0:Int)≤(IntKind.wrap .i64 (x36-2))/\(IntKind.wrap .i64 (x36-2))<80 then
      (words_Right64 (List.getD x37 (Int.toNat (IntKind.wrap .i64 (x36-15))) 0) 1).bind fun x41 =>
       (words_Right64 (List.getD x37 (Int.toNat (IntKind.wrap .i64 (x36-15))) 0) 8).bind fun x42 =>
        nm ((Int.fdiv (List.getD x37 (Int.toNat (IntKind.wrap .i64 (x36-15))) 0) (2^7)):Int) fun x43 =>
        (words_Right64 (List.getD x37 (Int.toNat (IntKind.wrap .i64 (x36-2))) 0) 19).bind fun x44 =>
         (words_Right64 (List.getD x37 (Int.toNat (IntKind.wrap .i64 (x36-2))) 0) 61).bind fun x45 =>
          nm ((Int.fdiv (List.getD x37 (Int.toNat (IntKind.wrap .i64 (x36-2))) 0) (2^6)):Int) fun x46 =>
          if (0:Int)≤(IntKind.wrap .i64 (x36-16))/\(IntKind.wrap .i64 (x36-16))<80 then
           nm ((IntKind.wrap .u64 ((List.getD x37 (Int.toNat (IntKind.wrap .i64 (x36-16))) 0)+(bits .u64 .xor (bits .u64 .xor x41 x42) x43))):Int) fun x47 =>
           if (0:Int)≤(IntKind.wrap .i64 (x36-7))/\(IntKind.wrap .i64 (x36-7))<80 then
            nm ((IntKind.wrap .u64 (x47+(List.getD x37 (Int.toNat (IntKind.wrap .i64 (x36-7))) 0))):Int) fun x48 =>
            nm ((IntKind.wrap .u64 (x48+(bits .u64 .xor (bits .u64 .xor x44 x45) x46))):Int) fun x49 =>
            if (0:Int)≤x36/\x36<80 then
             some (List.set x37 (Int.toNat x36) x49)
            else none
           else none
          else none
     else none
    else none):Option ((List Int)))).bind fun x38 =>
    shawide_schedule_l1 x34 n1 (IntKind.wrap .i64 (x36+1)) x38)
   (some x37)
def shawide_schedule (x34:List Int):Option ((List Int)) :=
 ((shawide_schedule_l1 x34 FUEL 0 (List.replicate 80 (0:Int)):Option ((List Int)))).bind fun x35 =>
  some x35
def shawide_state_take_2_l1 (x38:List Int):Nat->Int->(List Int)->Option ((List Int))
 |0,_,_=>none
 |n1+1,x40,x41 =>
  cond (decide (x40<80))
   (if (0:Int)≤x40/\x40<80 then
    (words_Right64 (List.getD x41 4 0) 14).bind fun x42 =>
     (words_Right64 (List.getD x41 4 0) 18).bind fun x43 =>
      (words_Right64 (List.getD x41 4 0) 41).bind fun x44 =>
       nm ((IntKind.wrap .u64 ((List.getD x41 7 0)+(bits .u64 .xor (bits .u64 .xor x42 x43) x44))):Int) fun x45 =>
       nm ((bits .u64 .and (bits .u64 .xor (IntKind.max .u64) (List.getD x41 4 0)) (List.getD x41 6 0)):Int) fun x46 =>
       nm ((bits .u64 .xor (bits .u64 .and (List.getD x41 4 0) (List.getD x41 5 0)) x46):Int) fun x47 =>
       nm ((IntKind.wrap .u64 ((IntKind.wrap .u64 (x45+x47))+(List.getD tb_shawide_constants (Int.toNat x40) 0))):Int) fun x48 =>
       if (0:Int)≤x40/\x40<80 then
        nm ((IntKind.wrap .u64 (x48+(List.getD x38 (Int.toNat x40) 0))):Int) fun x49 =>
        (words_Right64 (List.getD x41 0 0) 28).bind fun x50 =>
         (words_Right64 (List.getD x41 0 0) 34).bind fun x51 =>
          (words_Right64 (List.getD x41 0 0) 39).bind fun x52 =>
           nm ((bits .u64 .xor (bits .u64 .and (List.getD x41 0 0) (List.getD x41 1 0)) (bits .u64 .and (List.getD x41 0 0) (List.getD x41 2 0))):Int) fun x53 =>
           nm ((bits .u64 .xor x53 (bits .u64 .and (List.getD x41 1 0) (List.getD x41 2 0))):Int) fun x54 =>
           nm ((IntKind.wrap .u64 ((bits .u64 .xor (bits .u64 .xor x50 x51) x52)+x54)):Int) fun x55 =>
           nm ((IntKind.wrap .u64 ((List.getD (over x41 1 (List.take 7 (List.take 7 x41))) 4 0)+x49)):Int) fun x56 =>
           nm ((List.set (over x41 1 (List.take 7 (List.take 7 x41))) 4 x56):List Int) fun x57 =>
           shawide_state_take_2_l1 x38 n1 (IntKind.wrap .i64 (x40+1)) (List.set x57 0 (IntKind.wrap .u64 (x49+x55)))
       else none
   else none)
   (some x41)
def shawide_state_take_2_l2 (x39:List Int):Nat->Int->(List Int)->Option ((List Int))
 |0,_,_=>none
 |n2+1,x59,x60 =>
  cond (decide (x59<8))
   (if (0:Int)≤x59/\x59<8 then
    if (0:Int)≤x59/\x59<8 then
     nm ((IntKind.wrap .u64 ((List.getD x60 (Int.toNat x59) 0)+(List.getD x39 (Int.toNat x59) 0))):Int) fun x61 =>
     if (0:Int)≤x59/\x59<8 then
      shawide_state_take_2_l2 x39 n2 (IntKind.wrap .i64 (x59+1)) (List.set x60 (Int.toNat x59) x61)
     else none
    else none
   else none)
   (some x60)
def shawide_state_take_2 (x34:Nat) (x35:Nat) (x36:List Int) (x37:List Int):Option ((List Int)) :=
 (shawide_schedule (List.take x35 (List.drop x34 x37))).bind fun x38 =>
  ((shawide_state_take_2_l1 x38 FUEL 0 x36:Option ((List Int)))).bind fun x39 =>
   ((shawide_state_take_2_l2 x39 FUEL 0 x36:Option ((List Int)))).bind fun x58 =>
    some x58
def shawide_Sum_l1 (x15:List Int) (x16:Int):Nat->Int->(List Int)->Option ((List Int))
 |0,_,_=>none
 |n1+1,x18,x19 =>
  cond (decide (x18<8))
   (nm ((IntKind.wrap .i64 ((IntKind.wrap .i64 (((List.length x15):Int)-1))-x18)):Int) fun x20 =>
   if (0:Int)≤(IntKind.wrap .i64 (8*x18)) then
    nm ((Int.fdiv x16 (2^(min (Int.toNat (IntKind.wrap .i64 (8*x18))) (IntKind.bits .u64)))):Int) fun x21 =>
    if (0:Int)≤x20/\x20<((List.length x15):Int) then
     shawide_Sum_l1 x15 x16 n1 (IntKind.wrap .i64 (x18+1)) (List.set x19 (Int.toNat x20) (IntKind.wrap .u8 x21))
    else none
   else none)
   (some x19)
def shawide_Sum_l2 (x15:List Int) (x17:List Int):Nat->Int->(List Int)->Option ((List Int))
 |0,_,_=>none
 |n2+1,x24,x25 =>
  cond (decide (x24<((List.length x15):Int)))
   (if (0:Int)≤x24/\x24≤((List.length x15):Int) then
    nm ((if ((Int.toNat (((List.length x15):Int)-x24)):Int)<128 then ((Int.toNat (((List.length x15):Int)-x24)):Int) else 128):Int) fun x26 =>
    if (0:Int)≤x24/\x24≤(IntKind.wrap .i64 (x24+x26))/\(IntKind.wrap .i64 (x24+x26))≤(IntKind.wrap .i64 (x24+x26)) then
     if (IntKind.wrap .i64 (x24+x26))≤((List.length x15):Int) then
      (shawide_state_take_2 (Int.toNat x24) (Int.toNat ((IntKind.wrap .i64 (x24+x26))-x24)) x25 x17).bind fun x27 =>
       shawide_Sum_l2 x15 x17 n2 (IntKind.wrap .i64 (x24+128)) x27
     else none
    else none
   else none)
   (some x25)
def shawide_Sum_l4 (x11:List Int) (x29:Int):Nat->Int->(List Int)->Option ((List Int))
 |0,_,_=>none
 |n4+1,x32,x33 =>
  cond (decide (x32<8))
   (if (0:Int)≤(IntKind.wrap .i64 (56-(IntKind.wrap .i64 (8*x32)))) then
    nm ((Int.fdiv (List.getD x11 (Int.toNat x29) 0) (2^(min (Int.toNat (IntKind.wrap .i64 (56-(IntKind.wrap .i64 (8*x32))))) (IntKind.bits .u64)))):Int) fun x34 =>
    if (0:Int)≤(IntKind.wrap .i64 ((IntKind.wrap .i64 (8*x29))+x32))/\(IntKind.wrap .i64 ((IntKind.wrap .i64 (8*x29))+x32))<64 then
     nm ((Int.toNat (IntKind.wrap .i64 ((IntKind.wrap .i64 (8*x29))+x32))):Nat) fun x35 =>
     shawide_Sum_l4 x11 x29 n4 (IntKind.wrap .i64 (x32+1)) (List.set x33 x35 (IntKind.wrap .u8 x34))
    else none
   else none)
   (some x33)
def shawide_Sum_l3 (x11:List Int):Nat->Int->(List Int)->Option ((List Int))
 |0,_,_=>none
 |n3+1,x29,x30 =>
  cond (decide (x29<8))
   (if (0:Int)≤x29/\x29<8 then
    ((shawide_Sum_l4 x11 x29 FUEL 0 x30:Option ((List Int)))).bind fun x31 =>
     shawide_Sum_l3 x11 n3 (IntKind.wrap .i64 (x29+1)) x31
   else none)
   (some x30)
def shawide_Sum (x8:Nat) (x9:List Int):Option ((List Int)) :=
 (shawide_begin).bind fun x10 =>
  (shawide_padded x8 x9).bind fun _ =>
   (((slices_Concat_byte_byte x8 x9).bind fun x12 =>
    if (((List.length x12):Int)+(List.length [128]))*1≤140737488355328 then
     (shawide_blocks ((List.length x12):Int)).bind fun x13 =>
      nm ((IntKind.wrap .i64 ((IntKind.wrap .i64 (x13*128))-((List.length x12):Int))):Int) fun x14 =>
      if (0:Int)≤(IntKind.wrap .i64 (x14-1))/\(((List.length (x12++[128])):Int)+(IntKind.wrap .i64 (x14-1)))*1≤140737488355328 then
       nm (((x12++[128])++(List.replicate (Int.toNat (IntKind.wrap .i64 (x14-1))) (0:Int))):List Int) fun x15 =>
       nm ((IntKind.wrap .u64 (8*(IntKind.wrap .u64 ((List.length x12):Int)))):Int) fun x16 =>
       ((shawide_Sum_l1 x15 x16 FUEL 0 x15:Option ((List Int)))).bind fun x17 =>
        (slices_Chunk_byte_byte_2 (List.length x15) 128 x17).bind fun _ =>
         ((((shawide_Sum_l2 x15 x17 FUEL 0 x10:Option ((List Int)))).bind fun x23 =>
          some x23:Option ((List Int)))).bind fun x22 =>
          some x22
      else none
    else none:Option ((List Int)))).bind fun x11 =>
    ((shawide_Sum_l3 x11 FUEL 0 (List.replicate 64 (0:Int)):Option ((List Int)))).bind fun x28 =>
     some x28
def ladder_Clamp (x10:List Int):Option ((List Int)) :=
 nm ((List.getD (List.set x10 0 (bits .u8 .and (List.getD x10 0 0) 248)) 31 0):Int) fun x11 =>
 nm ((List.set (List.set x10 0 (bits .u8 .and (List.getD x10 0 0) 248)) 31 (bits .u8 .and x11 127)):List Int) fun x12 =>
 some (List.set x12 31 (bits .u8 .or (List.getD x12 31 0) 64))
def sign_secret (x8:List Int):Option ((List Int)×(List Int)) :=
 (shawide_Sum 32 x8).bind fun x9 =>
  if 32≤(List.length (List.take 32 x9)) then
   (ladder_Clamp (List.take 32 (List.take 32 x9))).bind fun x10 =>
    some (x10,x9)
  else none
def field_BaseX:Option T_field_Elem :=
 nm ([52811034,25909283,41626773,25318550,6892743,58046231,38675231,22018818,47435118,547405]:List Int) fun x13 =>
 some ({ fn:=x13 }:T_field_Elem)
def field_BaseY:Option T_field_Elem :=
 nm ([40265304,26843545,40265318,26843545,40265318,26843545,40265318,26843545,40265318,1677721]:List Int) fun x15 =>
 some ({ fn:=x15 }:T_field_Elem)
def field_Elem_carry_2_l2:Nat->Int->Int->(List Int)->Option (Int×(List Int))
 |0,_,_,_=>none
 |n2+1,x32,x33,x34 =>
  cond (decide (x33<10))
   (if (0:Int)≤x33/\x33<10 then
    nm ((IntKind.wrap .u64 ((List.getD x34 (Int.toNat x33) 0)+x32)):Int) fun x35 =>
    if (0:Int)≤x33/\x33<10 then
     if (0:Int)≤x33/\x33<10 then
      nm ((List.getD (List.set x34 (Int.toNat x33) x35) (Int.toNat x33) 0):Int) fun x36 =>
      if (0:Int)≤x33/\x33<10 then
       nm ((List.getD (List.set x34 (Int.toNat x33) x35) (Int.toNat x33) 0):Int) fun x37 =>
       if (0:Int)≤x33/\x33<10 then
        nm ((List.set (List.set x34 (Int.toNat x33) x35) (Int.toNat x33) (bits .u64 .and x37 67108863)):List Int) fun x38 =>
        field_Elem_carry_2_l2 n2 (Int.fdiv x36 (2^26)) (IntKind.wrap .i64 (x33+1)) x38
       else none
      else none
     else none
    else none
   else none)
   (some (x32,x34))
def field_Elem_carry_2_l1:Nat->Int->(List Int)->Option ((List Int))
 |0,_,_=>none
 |n1+1,x28,x29 =>
  cond (decide (x28<3))
   (((field_Elem_carry_2_l2 FUEL 0 0 x29:Option (Int×(List Int)))).bind fun r2_0_31=>match r2_0_31 with
   |(x30,x31) =>
     nm ((IntKind.wrap .u64 ((List.getD x31 0 0)+(IntKind.wrap .u64 (608*x30)))):Int) fun x39 =>
     field_Elem_carry_2_l1 n1 (IntKind.wrap .i64 (x28+1)) (List.set x31 0 x39))
   (some x29)
def field_Elem_carry_2 (x26:T_field_Elem):Option T_field_Elem :=
 ((field_Elem_carry_2_l1 FUEL 0 x26.fn:Option ((List Int)))).bind fun x27 =>
  some ({ fn:=x27 }:T_field_Elem)
def field_Elem_Sub_l1 (x23:T_field_Elem):Nat->Int->(List Int)->Option ((List Int))
 |0,_,_=>none
 |n1+1,x25,x26 =>
  cond (decide (x25<10))
   (if (0:Int)≤x25/\x25<10 then
    if (0:Int)≤x25/\x25<10 then
     if (0:Int)≤x25/\x25<10 then
      nm ((IntKind.wrap .u64 ((List.getD tb_field_many (Int.toNat x25) 0)-(List.getD x23.fn (Int.toNat x25) 0))):Int) fun x27 =>
      nm ((IntKind.wrap .u64 ((List.getD x26 (Int.toNat x25) 0)+x27)):Int) fun x28 =>
      if (0:Int)≤x25/\x25<10 then
       field_Elem_Sub_l1 x23 n1 (IntKind.wrap .i64 (x25+1)) (List.set x26 (Int.toNat x25) x28)
      else none
     else none
    else none
   else none)
   (some x26)
def field_Elem_Sub (x22:T_field_Elem) (x23:T_field_Elem):Option T_field_Elem :=
 ((field_Elem_Sub_l1 x23 FUEL 0 x22.fn:Option ((List Int)))).bind fun x24 =>
  (field_Elem_carry_2 ({ fn:=x24 }:T_field_Elem)).bind fun x29 =>
   some x29
def field_Small_l1 (x20:Int):Nat->Int->(List Int)->Option ((List Int))
 |0,_,_=>none
 |n1+1,x22,x23 =>
  cond (decide (x22<3))
   (if (0:Int)≤(IntKind.wrap .i64 (26*x22)) then
    nm ((Int.fdiv x20 (2^(min (Int.toNat (IntKind.wrap .i64 (26*x22))) (IntKind.bits .u64)))):Int) fun x24 =>
    if (0:Int)≤x22/\x22<10 then
     field_Small_l1 x20 n1 (IntKind.wrap .i64 (x22+1)) (List.set x23 (Int.toNat x22) (bits .u64 .and x24 67108863))
    else none
   else none)
   (some x23)
def field_Small (x19:Int):Option T_field_Elem :=
 ((cond (decide (x19<0))
  (some (IntKind.wrap .u64 (0-(IntKind.wrap .u64 x19))))
  (some (IntKind.wrap .u64 x19)):Option Int)).bind fun x20 =>
  ((field_Small_l1 x20 FUEL 0 (List.replicate 10 (0:Int)):Option ((List Int)))).bind fun x21 =>
   cond (decide (x19<0))
    ((field_Elem_Sub ({ fn:=(List.replicate 10 (0:Int)) }:T_field_Elem) ({ fn:=x21 }:T_field_Elem)).bind fun x25 =>
     some x25)
    (some ({ fn:=x21 }:T_field_Elem))
def field_Elem_Times_l2 (x27:T_field_Elem) (x28:T_field_Elem) (x30:Int):Nat->Int->(List Int)->Option ((List Int))
 |0,_,_=>none
 |n2+1,x33,x34 =>
  cond (decide (x33<10))
   (if (0:Int)≤x33/\x33<10 then
    if (0:Int)≤(IntKind.wrap .i64 (x30+x33))/\(IntKind.wrap .i64 (x30+x33))<20 then
     nm ((List.getD x34 (Int.toNat (IntKind.wrap .i64 (x30+x33))) 0):Int) fun x35 =>
     nm ((IntKind.wrap .u64 ((List.getD x27.fn (Int.toNat x30) 0)*(List.getD x28.fn (Int.toNat x33) 0))):Int) fun x36 =>
     if (0:Int)≤(IntKind.wrap .i64 (x30+x33))/\(IntKind.wrap .i64 (x30+x33))<20 then
      nm ((List.set x34 (Int.toNat (IntKind.wrap .i64 (x30+x33))) (IntKind.wrap .u64 (x35+x36))):List Int) fun x37 =>
      field_Elem_Times_l2 x27 x28 x30 n2 (IntKind.wrap .i64 (x33+1)) x37
     else none
    else none
   else none)
   (some x34)
def field_Elem_Times_l1 (x27:T_field_Elem) (x28:T_field_Elem):Nat->Int->(List Int)->Option ((List Int))
 |0,_,_=>none
 |n1+1,x30,x31 =>
  cond (decide (x30<10))
   (if (0:Int)≤x30/\x30<10 then
    ((field_Elem_Times_l2 x27 x28 x30 FUEL 0 x31:Option ((List Int)))).bind fun x32 =>
     field_Elem_Times_l1 x27 x28 n1 (IntKind.wrap .i64 (x30+1)) x32
   else none)
   (some x31)
def field_Elem_Times_l3:Nat->Int->(List Int)->Option ((List Int))
 |0,_,_=>none
 |n3+1,x39,x40 =>
  cond (decide (x39<19))
   (if (0:Int)≤(IntKind.wrap .i64 (x39+1))/\(IntKind.wrap .i64 (x39+1))<20 then
    if (0:Int)≤x39/\x39<20 then
     nm ((IntKind.wrap .u64 ((List.getD x40 (Int.toNat (IntKind.wrap .i64 (x39+1))) 0)+(Int.fdiv (List.getD x40 (Int.toNat x39) 0) (2^26)))):Int) fun x41 =>
     if (0:Int)≤(IntKind.wrap .i64 (x39+1))/\(IntKind.wrap .i64 (x39+1))<20 then
      if (0:Int)≤x39/\x39<20 then
       nm ((List.getD (List.set x40 (Int.toNat (IntKind.wrap .i64 (x39+1))) x41) (Int.toNat x39) 0):Int) fun x42 =>
       if (0:Int)≤x39/\x39<20 then
        nm ((List.set (List.set x40 (Int.toNat (IntKind.wrap .i64 (x39+1))) x41) (Int.toNat x39) (bits .u64 .and x42 67108863)):List Int) fun x43 =>
        field_Elem_Times_l3 n3 (IntKind.wrap .i64 (x39+1)) x43
       else none
      else none
     else none
    else none
   else none)
   (some x40)
def field_Elem_Times_l4 (x38:List Int):Nat->Int->(List Int)->Option ((List Int))
 |0,_,_=>none
 |n4+1,x45,x46 =>
  cond (decide (x45<10))
   (if (0:Int)≤x45/\x45<20 then
    if (0:Int)≤(IntKind.wrap .i64 (10+x45))/\(IntKind.wrap .i64 (10+x45))<20 then
     nm ((IntKind.wrap .u64 (608*(List.getD x38 (Int.toNat (IntKind.wrap .i64 (10+x45))) 0))):Int) fun x47 =>
     nm ((IntKind.wrap .u64 ((List.getD x38 (Int.toNat x45) 0)+x47)):Int) fun x48 =>
     if (0:Int)≤x45/\x45<10 then
      field_Elem_Times_l4 x38 n4 (IntKind.wrap .i64 (x45+1)) (List.set x46 (Int.toNat x45) x48)
     else none
    else none
   else none)
   (some x46)
def field_Elem_Times (x27:T_field_Elem) (x28:T_field_Elem):Option T_field_Elem :=
 ((field_Elem_Times_l1 x27 x28 FUEL 0 (List.replicate 20 (0:Int)):Option ((List Int)))).bind fun x29 =>
  ((field_Elem_Times_l3 FUEL 0 x29:Option ((List Int)))).bind fun x38 =>
   ((field_Elem_Times_l4 x38 FUEL 0 (List.replicate 10 (0:Int)):Option ((List Int)))).bind fun x44 =>
    (field_Elem_carry_2 ({ fn:=x44 }:T_field_Elem)).bind fun x49 =>
     some x49
def points_at (x17:T_field_Elem) (x18:T_field_Elem):Option T_points_Point :=
 (field_Small 1).bind fun x19 =>
  (field_Elem_Times x17 x18).bind fun x20 =>
   some ({ fx:=x17,fy:=x18,fz:=x19,ft:=x20 }:T_points_Point)
def points_Base:Option T_points_Point :=
 (field_BaseX).bind fun x13 =>
  (field_BaseY).bind fun x14 =>
   (points_at x13 x14).bind fun x15 =>
    some x15
def field_Curve:Option T_field_Elem :=
 nm ([56195235,47411844,25868126,20251911,28682,31357478,7604119,66702899,15608687,1343707]:List Int) fun x19 =>
 some ({ fn:=x19 }:T_field_Elem)
def field_Elem_Add_l1 (x22:T_field_Elem):Nat->Int->(List Int)->Option ((List Int))
 |0,_,_=>none
 |n1+1,x24,x25 =>
  cond (decide (x24<10))
   (if (0:Int)≤x24/\x24<10 then
    if (0:Int)≤x24/\x24<10 then
     nm ((IntKind.wrap .u64 ((List.getD x25 (Int.toNat x24) 0)+(List.getD x22.fn (Int.toNat x24) 0))):Int) fun x26 =>
     if (0:Int)≤x24/\x24<10 then
      field_Elem_Add_l1 x22 n1 (IntKind.wrap .i64 (x24+1)) (List.set x25 (Int.toNat x24) x26)
     else none
    else none
   else none)
   (some x25)
def field_Elem_Add (x21:T_field_Elem) (x22:T_field_Elem):Option T_field_Elem :=
 ((field_Elem_Add_l1 x22 FUEL 0 x21.fn:Option ((List Int)))).bind fun x23 =>
  (field_Elem_carry_2 ({ fn:=x23 }:T_field_Elem)).bind fun x27 =>
   some x27
def points_twice:Option T_field_Elem :=
 (field_Curve).bind fun x19 =>
  (field_Elem_Add x19 x19).bind fun x20 =>
   some x20
def points_Zero:Option T_points_Point :=
 (field_Small 0).bind fun x22 =>
  (field_Small 1).bind fun x23 =>
   (points_at x22 x23).bind fun x24 =>
    some x24
def field_Elem_Square (x27:T_field_Elem):Option T_field_Elem :=
 (field_Elem_Times x27 x27).bind fun x28 =>
  some x28
def points_Point_double (x26:T_points_Point):Option T_points_Point :=
 (field_Elem_Square x26.fx).bind fun x27 =>
  (field_Elem_Square x26.fy).bind fun x28 =>
   (field_Elem_Square x26.fz).bind fun x29 =>
    (field_Elem_Add x29 x29).bind fun x30 =>
     (field_Elem_Add x27 x28).bind fun x31 =>
      (field_Elem_Add x26.fx x26.fy).bind fun x32 =>
       (field_Elem_Square x32).bind fun x33 =>
        (field_Elem_Sub x31 x33).bind fun x34 =>
         (field_Elem_Sub x27 x28).bind fun x35 =>
          (field_Elem_Add x30 x35).bind fun x36 =>
           (field_Elem_Times x34 x36).bind fun x37 =>
            (field_Elem_Times x35 x31).bind fun x38 =>
             (field_Elem_Times x36 x35).bind fun x39 =>
              (field_Elem_Times x34 x31).bind fun x40 =>
               some ({ fx:=x37,fy:=x38,fz:=x39,ft:=x40 }:T_points_Point)
def scalar_Bit (x42:List Int) (x43:Int):Option Bool :=
 cond (decide (x43≥0))
  (cond (decide (x43<256))
   (if (0:Int)≤(IntKind.wrap .i64 (Int.tdiv x43 8))/\(IntKind.wrap .i64 (Int.tdiv x43 8))<32 then
    nm ((List.getD x42 (Int.toNat (IntKind.wrap .i64 (Int.tdiv x43 8))) 0):Int) fun x44 =>
    if (0:Int)≤(Int.tmod x43 8) then
     nm ((Int.fdiv x44 (2^(min (Int.toNat (Int.tmod x43 8)) (IntKind.bits .u8)))):Int) fun x45 =>
     some ((bits .u8 .and x45 1)==1)
    else none
   else none)
   (some false))
  (some false)
def points_Point_plus (x47:T_points_Point) (x48:T_points_Point) (x49:T_field_Elem):Option T_points_Point :=
 (field_Elem_Sub x47.fy x47.fx).bind fun x50 =>
  (field_Elem_Sub x48.fy x48.fx).bind fun x51 =>
   (field_Elem_Times x50 x51).bind fun x52 =>
    (field_Elem_Add x47.fy x47.fx).bind fun x53 =>
     (field_Elem_Add x48.fy x48.fx).bind fun x54 =>
      (field_Elem_Times x53 x54).bind fun x55 =>
       (field_Elem_Times x47.ft x48.ft).bind fun x56 =>
        (field_Elem_Times x56 x49).bind fun x57 =>
         (field_Elem_Times x47.fz x48.fz).bind fun x58 =>
          (field_Elem_Add x58 x58).bind fun x59 =>
           (field_Elem_Sub x55 x52).bind fun x60 =>
            (field_Elem_Sub x59 x57).bind fun x61 =>
             (field_Elem_Add x59 x57).bind fun x62 =>
              (field_Elem_Add x55 x52).bind fun x63 =>
               (field_Elem_Times x60 x61).bind fun x64 =>
                (field_Elem_Times x62 x63).bind fun x65 =>
                 (field_Elem_Times x61 x62).bind fun x66 =>
                  (field_Elem_Times x60 x63).bind fun x67 =>
                   some ({ fx:=x64,fy:=x65,fz:=x66,ft:=x67 }:T_points_Point)
def points_Point_Times_l1 (x17:T_points_Point) (x18:List Int) (x19:T_field_Elem):Nat->Int->T_points_Point->Option T_points_Point
 |0,_,_=>none
 |n1+1,x25,x26 =>
  cond (decide (x25≥0))
   ((points_Point_double x26).bind fun x27 =>
    (scalar_Bit x18 x25).bind fun x28 =>
     ((cond x28
      ((points_Point_plus x27 x17 x19).bind fun x30 =>
       some x30)
      (some x27):Option T_points_Point)).bind fun x29 =>
      points_Point_Times_l1 x17 x18 x19 n1 (IntKind.wrap .i64 (x25-1)) x29)
   (some x26)
def points_Point_Times (x17:T_points_Point) (x18:List Int):Option T_points_Point :=
 (points_twice).bind fun x19 =>
  (points_Zero).bind fun x20 =>
   (points_Point_double x20).bind fun x21 =>
    (scalar_Bit x18 255).bind fun x22 =>
     ((cond x22
      ((points_Point_plus x21 x17 x19).bind fun x24 =>
       some x24)
      (some x21):Option T_points_Point)).bind fun x23 =>
      points_Point_Times_l1 x17 x18 x19 FUEL 254 x23
def field_Elem_squares_l1:Nat->Int->T_field_Elem->Option T_field_Elem
 |0,_,_=>none
 |n1+1,x39,x40 =>
  cond (decide (x39>0))
   ((field_Elem_Square x40).bind fun x41 =>
    field_Elem_squares_l1 n1 (IntKind.wrap .i64 (x39-1)) x41)
   (some x40)
def field_Elem_squares (x36:T_field_Elem) (x37:Int):Option T_field_Elem :=
 cond (decide (x37>0))
  ((field_Elem_Square x36).bind fun x38 =>
   field_Elem_squares_l1 FUEL (IntKind.wrap .i64 (x37-1)) x38)
  (some x36)
def field_Elem_power (x34:T_field_Elem):Option (T_field_Elem×T_field_Elem) :=
 (field_Elem_Square x34).bind fun x35 =>
  (field_Elem_squares x35 2).bind fun x36 =>
   (field_Elem_Times x36 x34).bind fun x37 =>
    (field_Elem_Times x37 x35).bind fun x38 =>
     (field_Elem_Square x38).bind fun x39 =>
      (field_Elem_Times x39 x37).bind fun x40 =>
       (field_Elem_squares x40 5).bind fun x41 =>
        (field_Elem_Times x41 x40).bind fun x42 =>
         (field_Elem_squares x42 10).bind fun x43 =>
          (field_Elem_Times x43 x42).bind fun x44 =>
           (field_Elem_squares x44 20).bind fun x45 =>
            (field_Elem_Times x45 x44).bind fun x46 =>
             (field_Elem_squares x46 10).bind fun x47 =>
              (field_Elem_Times x47 x42).bind fun x48 =>
               (field_Elem_squares x48 50).bind fun x49 =>
                (field_Elem_Times x49 x48).bind fun x50 =>
                 (field_Elem_squares x50 100).bind fun x51 =>
                  (field_Elem_Times x51 x50).bind fun x52 =>
                   (field_Elem_squares x52 50).bind fun x53 =>
                    (field_Elem_Times x53 x48).bind fun x54 =>
                     some (x54,x38)
def field_Elem_Invert (x33:T_field_Elem):Option T_field_Elem :=
 (field_Elem_power x33).bind fun r37=>match r37 with
 |(x34,x35) =>
   (field_Elem_squares x34 5).bind fun x36 =>
    (field_Elem_Times x36 x35).bind fun x37 =>
     some x37
def field_Elem_fold_2_l1:Nat->Int->(List Int)->Option ((List Int))
 |0,_,_=>none
 |n1+1,x50,x51 =>
  cond (decide (x50<9))
   (if (0:Int)≤(IntKind.wrap .i64 (x50+1))/\(IntKind.wrap .i64 (x50+1))<10 then
    if (0:Int)≤x50/\x50<10 then
     nm ((IntKind.wrap .u64 ((List.getD x51 (Int.toNat (IntKind.wrap .i64 (x50+1))) 0)+(Int.fdiv (List.getD x51 (Int.toNat x50) 0) (2^26)))):Int) fun x52 =>
     if (0:Int)≤(IntKind.wrap .i64 (x50+1))/\(IntKind.wrap .i64 (x50+1))<10 then
      if (0:Int)≤x50/\x50<10 then
       nm ((List.getD (List.set x51 (Int.toNat (IntKind.wrap .i64 (x50+1))) x52) (Int.toNat x50) 0):Int) fun x53 =>
       if (0:Int)≤x50/\x50<10 then
        nm ((List.set (List.set x51 (Int.toNat (IntKind.wrap .i64 (x50+1))) x52) (Int.toNat x50) (bits .u64 .and x53 67108863)):List Int) fun x54 =>
        field_Elem_fold_2_l1 n1 (IntKind.wrap .i64 (x50+1)) x54
       else none
      else none
     else none
    else none
   else none)
   (some x51)
def field_Elem_fold_2 (x45:T_field_Elem):Option T_field_Elem :=
 nm ((List.set x45.fn 9 (bits .u64 .and (List.getD x45.fn 9 0) 2097151)):List Int) fun x46 =>
 nm ((IntKind.wrap .u64 (19*(Int.fdiv (List.getD x45.fn 9 0) (2^21)))):Int) fun x47 =>
 nm ((List.set x46 0 (IntKind.wrap .u64 ((List.getD x46 0 0)+x47))):List Int) fun x48 =>
 ((field_Elem_fold_2_l1 FUEL 0 x48:Option ((List Int)))).bind fun x49 =>
  some ({ fn:=x49 }:T_field_Elem)
def words_Pick (x63:Bool) (x64:Int) (x65:Int):Option Int :=
 ((cond x63
  (some 18446744073709551615)
  (some 0):Option Int)).bind fun x66 =>
  nm ((bits .u64 .or (bits .u64 .and x64 x66) (bits .u64 .andNot x65 x66)):Int) fun x67 =>
  some x67
def field_Pick_l1 (x60:Bool) (x62:T_field_Elem):Nat->Int->(List Int)->Option ((List Int))
 |0,_,_=>none
 |n1+1,x64,x65 =>
  cond (decide (x64<10))
   (if (0:Int)≤x64/\x64<10 then
    if (0:Int)≤x64/\x64<10 then
     (words_Pick x60 (List.getD x65 (Int.toNat x64) 0) (List.getD x62.fn (Int.toNat x64) 0)).bind fun x66 =>
      if (0:Int)≤x64/\x64<10 then
       field_Pick_l1 x60 x62 n1 (IntKind.wrap .i64 (x64+1)) (List.set x65 (Int.toNat x64) x66)
      else none
    else none
   else none)
   (some x65)
def field_Pick (x60:Bool) (x61:T_field_Elem) (x62:T_field_Elem):Option T_field_Elem :=
 ((field_Pick_l1 x60 x62 FUEL 0 x61.fn:Option ((List Int)))).bind fun x63 =>
  some ({ fn:=x63 }:T_field_Elem)
def field_Elem_least_l1:Nat->Int->(List Int)->Option ((List Int))
 |0,_,_=>none
 |n1+1,x48,x49 =>
  cond (decide (x48<9))
   (if (0:Int)≤(IntKind.wrap .i64 (x48+1))/\(IntKind.wrap .i64 (x48+1))<10 then
    if (0:Int)≤x48/\x48<10 then
     nm ((IntKind.wrap .u64 ((List.getD x49 (Int.toNat (IntKind.wrap .i64 (x48+1))) 0)+(Int.fdiv (List.getD x49 (Int.toNat x48) 0) (2^26)))):Int) fun x50 =>
     if (0:Int)≤(IntKind.wrap .i64 (x48+1))/\(IntKind.wrap .i64 (x48+1))<10 then
      if (0:Int)≤x48/\x48<10 then
       nm ((List.getD (List.set x49 (Int.toNat (IntKind.wrap .i64 (x48+1))) x50) (Int.toNat x48) 0):Int) fun x51 =>
       if (0:Int)≤x48/\x48<10 then
        nm ((List.set (List.set x49 (Int.toNat (IntKind.wrap .i64 (x48+1))) x50) (Int.toNat x48) (bits .u64 .and x51 67108863)):List Int) fun x52 =>
        field_Elem_least_l1 n1 (IntKind.wrap .i64 (x48+1)) x52
       else none
      else none
     else none
    else none
   else none)
   (some x49)
def field_Elem_least (x42:T_field_Elem):Option T_field_Elem :=
 (field_Elem_carry_2 x42).bind fun x43 =>
  (field_Elem_fold_2 x43).bind fun x44 =>
   (field_Elem_fold_2 x44).bind fun x45 =>
    nm ((List.set x45.fn 0 (IntKind.wrap .u64 ((List.getD x45.fn 0 0)+19))):List Int) fun x46 =>
    ((field_Elem_least_l1 FUEL 0 x46:Option ((List Int)))).bind fun x47 =>
     nm ((List.set x47 9 (bits .u64 .and (List.getD x47 9 0) 2097151)):List Int) fun x53 =>
     (field_Pick (!((Int.fdiv (List.getD x47 9 0) (2^21))==0)) ({ fn:=x53 }:T_field_Elem) x45).bind fun x54 =>
      some x54
def field_Elem_Bytes_l1 (x42:T_field_Elem):Nat->Int->(List Int)->Option ((List Int))
 |0,_,_=>none
 |n1+1,x44,x45 =>
  cond (decide (x44<255))
   (if (0:Int)≤(IntKind.wrap .i64 (Int.tdiv x44 8))/\(IntKind.wrap .i64 (Int.tdiv x44 8))<32 then
    nm ((List.getD x45 (Int.toNat (IntKind.wrap .i64 (Int.tdiv x44 8))) 0):Int) fun x46 =>
    if (0:Int)≤(IntKind.wrap .i64 (Int.tdiv x44 26))/\(IntKind.wrap .i64 (Int.tdiv x44 26))<10 then
     nm ((List.getD x42.fn (Int.toNat (IntKind.wrap .i64 (Int.tdiv x44 26))) 0):Int) fun x47 =>
     if (0:Int)≤(Int.tmod x44 26) then
      nm ((Int.fdiv x47 (2^(min (Int.toNat (Int.tmod x44 26)) (IntKind.bits .u64)))):Int) fun x48 =>
      if (0:Int)≤(Int.tmod x44 8) then
       nm ((IntKind.wrap .u8 ((IntKind.wrap .u8 (bits .u64 .and x48 1))*2^(min (Int.toNat (Int.tmod x44 8)) (IntKind.bits .u8)))):Int) fun x49 =>
       if (0:Int)≤(IntKind.wrap .i64 (Int.tdiv x44 8))/\(IntKind.wrap .i64 (Int.tdiv x44 8))<32 then
        nm ((List.set x45 (Int.toNat (IntKind.wrap .i64 (Int.tdiv x44 8))) (bits .u8 .or x46 x49)):List Int) fun x50 =>
        field_Elem_Bytes_l1 x42 n1 (IntKind.wrap .i64 (x44+1)) x50
       else none
      else none
     else none
    else none
   else none)
   (some x45)
def field_Elem_Bytes (x41:T_field_Elem):Option ((List Int)) :=
 (field_Elem_least x41).bind fun x42 =>
  ((field_Elem_Bytes_l1 x42 FUEL 0 (List.replicate 32 (0:Int)):Option ((List Int)))).bind fun x43 =>
   some x43
def field_Elem_Odd (x52:T_field_Elem):Option Bool :=
 (field_Elem_least x52).bind fun x53 =>
  some ((bits .u64 .and (List.getD x53.fn 0 0) 1)==1)
def points_Point_Bytes (x32:T_points_Point):Option ((List Int)) :=
 (field_Elem_Invert x32.fz).bind fun x33 =>
  (field_Elem_Times x32.fx x33).bind fun x34 =>
   (field_Elem_Times x32.fy x33).bind fun x35 =>
    (field_Elem_Bytes x35).bind fun x36 =>
     (field_Elem_Odd x34).bind fun x37 =>
      ((cond x37
       (some (List.set x36 31 (bits .u8 .or (List.getD x36 31 0) 128)))
       (some x36):Option ((List Int)))).bind fun x38 =>
       some x38
def slices_Concat_byte_byte_2 (x40:Nat) (x41:List Int):Option ((List Int)) :=
 ((cond (decide ((IntKind.wrap .i64 (0+(x40:Int)))<0))
  (none)
  (some ()):Option Unit)).bind fun _ =>
  (slices_Grow_byte_byte_2 (IntKind.wrap .i64 (0+(x40:Int)))).bind fun r43=>match r43 with
  |(x42,x43) =>
    ((if ((x42:Int)+(List.length (List.take x40 x41)))*1≤140737488355328 then
     if x42≤(List.length x43) then
      some ()
     else none
    else none:Option Unit)).bind fun _ =>
     some ((List.take x42 x43)++(List.take x40 x41))
def shawide_padded_2 (x56:Nat) (x57:Nat) (x58:Nat) (x59:List Int) (x60:List Int):Option Unit :=
 some ()
def slices_Concat_byte_byte_3 (x61:Nat) (x62:Nat) (x63:Nat) (x64:List Int) (x65:List Int):Option ((List Int)) :=
 ((cond (decide ((IntKind.wrap .i64 (0+(x62:Int)))<0))
  (none)
  (nm ((IntKind.wrap .i64 ((IntKind.wrap .i64 (0+(x62:Int)))+(x63:Int))):Int) fun x67 =>
  cond (decide (x67<0))
   (none)
   (some x67)):Option Int)).bind fun x66 =>
  (slices_Grow_byte_byte_2 x66).bind fun r71=>match r71 with
  |(x68,x69) =>
    ((if ((x68:Int)+(List.length (List.take x62 (List.drop x61 x64))))*1≤140737488355328 then
     if x68≤(List.length x69) then
      if (((List.length ((List.take x68 x69)++(List.take x62 (List.drop x61 x64)))):Int)+(List.length (List.take x63 x65)))*1≤140737488355328 then
       nm ((((List.take x68 x69)++(List.take x62 (List.drop x61 x64)))++(List.take x63 x65)):List Int) fun x71 =>
       some x71
      else none
     else none
    else none:Option ((List Int)))).bind fun x70 =>
     some x70
def shawide_Sum_2_l1 (x60:List Int) (x61:Int):Nat->Int->(List Int)->Option ((List Int))
 |0,_,_=>none
 |n1+1,x63,x64 =>
  cond (decide (x63<8))
   (nm ((IntKind.wrap .i64 ((IntKind.wrap .i64 (((List.length x60):Int)-1))-x63)):Int) fun x65 =>
   if (0:Int)≤(IntKind.wrap .i64 (8*x63)) then
    nm ((Int.fdiv x61 (2^(min (Int.toNat (IntKind.wrap .i64 (8*x63))) (IntKind.bits .u64)))):Int) fun x66 =>
    if (0:Int)≤x65/\x65<((List.length x60):Int) then
     shawide_Sum_2_l1 x60 x61 n1 (IntKind.wrap .i64 (x63+1)) (List.set x64 (Int.toNat x65) (IntKind.wrap .u8 x66))
    else none
   else none)
   (some x64)
def shawide_Sum_2_l2 (x60:List Int) (x62:List Int):Nat->Int->(List Int)->Option ((List Int))
 |0,_,_=>none
 |n2+1,x69,x70 =>
  cond (decide (x69<((List.length x60):Int)))
   (if (0:Int)≤x69/\x69≤((List.length x60):Int) then
    nm ((if ((Int.toNat (((List.length x60):Int)-x69)):Int)<128 then ((Int.toNat (((List.length x60):Int)-x69)):Int) else 128):Int) fun x71 =>
    if (0:Int)≤x69/\x69≤(IntKind.wrap .i64 (x69+x71))/\(IntKind.wrap .i64 (x69+x71))≤(IntKind.wrap .i64 (x69+x71)) then
     if (IntKind.wrap .i64 (x69+x71))≤((List.length x60):Int) then
      (shawide_state_take_2 (Int.toNat x69) (Int.toNat ((IntKind.wrap .i64 (x69+x71))-x69)) x70 x62).bind fun x72 =>
       shawide_Sum_2_l2 x60 x62 n2 (IntKind.wrap .i64 (x69+128)) x72
     else none
    else none
   else none)
   (some x70)
def shawide_Sum_2_l4 (x56:List Int) (x74:Int):Nat->Int->(List Int)->Option ((List Int))
 |0,_,_=>none
 |n4+1,x77,x78 =>
  cond (decide (x77<8))
   (if (0:Int)≤(IntKind.wrap .i64 (56-(IntKind.wrap .i64 (8*x77)))) then
    nm ((Int.fdiv (List.getD x56 (Int.toNat x74) 0) (2^(min (Int.toNat (IntKind.wrap .i64 (56-(IntKind.wrap .i64 (8*x77))))) (IntKind.bits .u64)))):Int) fun x79 =>
    if (0:Int)≤(IntKind.wrap .i64 ((IntKind.wrap .i64 (8*x74))+x77))/\(IntKind.wrap .i64 ((IntKind.wrap .i64 (8*x74))+x77))<64 then
     nm ((Int.toNat (IntKind.wrap .i64 ((IntKind.wrap .i64 (8*x74))+x77))):Nat) fun x80 =>
     shawide_Sum_2_l4 x56 x74 n4 (IntKind.wrap .i64 (x77+1)) (List.set x78 x80 (IntKind.wrap .u8 x79))
    else none
   else none)
   (some x78)
def shawide_Sum_2_l3 (x56:List Int):Nat->Int->(List Int)->Option ((List Int))
 |0,_,_=>none
 |n3+1,x74,x75 =>
  cond (decide (x74<8))
   (if (0:Int)≤x74/\x74<8 then
    ((shawide_Sum_2_l4 x56 x74 FUEL 0 x75:Option ((List Int)))).bind fun x76 =>
     shawide_Sum_2_l3 x56 n3 (IntKind.wrap .i64 (x74+1)) x76
   else none)
   (some x75)
def shawide_Sum_2 (x50:Nat) (x51:Nat) (x52:Nat) (x53:List Int) (x54:List Int):Option ((List Int)) :=
 (shawide_begin).bind fun x55 =>
  (shawide_padded_2 x50 x51 x52 x53 x54).bind fun _ =>
   (((slices_Concat_byte_byte_3 x50 x51 x52 x53 x54).bind fun x57 =>
    if (((List.length x57):Int)+(List.length [128]))*1≤140737488355328 then
     (shawide_blocks ((List.length x57):Int)).bind fun x58 =>
      nm ((IntKind.wrap .i64 ((IntKind.wrap .i64 (x58*128))-((List.length x57):Int))):Int) fun x59 =>
      if (0:Int)≤(IntKind.wrap .i64 (x59-1))/\(((List.length (x57++[128])):Int)+(IntKind.wrap .i64 (x59-1)))*1≤140737488355328 then
       nm (((x57++[128])++(List.replicate (Int.toNat (IntKind.wrap .i64 (x59-1))) (0:Int))):List Int) fun x60 =>
       nm ((IntKind.wrap .u64 (8*(IntKind.wrap .u64 ((List.length x57):Int)))):Int) fun x61 =>
       ((shawide_Sum_2_l1 x60 x61 FUEL 0 x60:Option ((List Int)))).bind fun x62 =>
        (slices_Chunk_byte_byte_2 (List.length x60) 128 x62).bind fun _ =>
         ((((shawide_Sum_2_l2 x60 x62 FUEL 0 x55:Option ((List Int)))).bind fun x68 =>
          some x68:Option ((List Int)))).bind fun x67 =>
          some x67
      else none
    else none:Option ((List Int)))).bind fun x56 =>
    ((shawide_Sum_2_l3 x56 FUEL 0 (List.replicate 64 (0:Int)):Option ((List Int)))).bind fun x73 =>
     some x73
def scalar_modulus:Option ((List Int)) :=
 nm ([1559614445,1477600026,2734136534,350157278,0,0,0,268435456]:List Int) fun x92 =>
 some x92
def scalar_number_less_l1 (x91:List Int) (x92:List Int):Nat->Int->Int->(List Int)->Option (Int×(List Int))
 |0,_,_,_=>none
 |n1+1,x95,x96,x97 =>
  cond (decide (x96<8))
   (if (0:Int)≤x96/\x96<8 then
    nm ((IntKind.wrap .u64 ((List.getD x91 (Int.toNat x96) 0)+4294967296)):Int) fun x98 =>
    if (0:Int)≤x96/\x96<8 then
     nm ((IntKind.wrap .u64 (x98-(List.getD x92 (Int.toNat x96) 0))):Int) fun x99 =>
     if (0:Int)≤x96/\x96<8 then
      nm ((List.set x97 (Int.toNat x96) (bits .u64 .and (IntKind.wrap .u64 (x99-x95)) 4294967295)):List Int) fun x100 =>
      nm ((IntKind.wrap .u64 (1-(Int.fdiv (IntKind.wrap .u64 (x99-x95)) (2^32)))):Int) fun x101 =>
      scalar_number_less_l1 x91 x92 n1 x101 (IntKind.wrap .i64 (x96+1)) x100
     else none
    else none
   else none)
   (some (x95,x97))
def scalar_number_less (x91:List Int):Option ((List Int)×Bool) :=
 (scalar_modulus).bind fun x92 =>
  ((scalar_number_less_l1 x91 x92 FUEL 0 0 (List.replicate 8 (0:Int)):Option (Int×(List Int)))).bind fun r1_0_94=>match r1_0_94 with
  |(x93,x94) =>
    some (x94,(x93==1))
def scalar_number_least_l1 (x91:List Int) (x92:Bool):Nat->Int->(List Int)->Option ((List Int))
 |0,_,_=>none
 |n1+1,x94,x95 =>
  cond (decide (x94<8))
   (if (0:Int)≤x94/\x94<8 then
    if (0:Int)≤x94/\x94<8 then
     (words_Pick x92 (List.getD x95 (Int.toNat x94) 0) (List.getD x91 (Int.toNat x94) 0)).bind fun x96 =>
      if (0:Int)≤x94/\x94<8 then
       scalar_number_least_l1 x91 x92 n1 (IntKind.wrap .i64 (x94+1)) (List.set x95 (Int.toNat x94) x96)
      else none
    else none
   else none)
   (some x95)
def scalar_number_least (x90:List Int):Option ((List Int)) :=
 (scalar_number_less x90).bind fun r96=>match r96 with
 |(x91,x92) =>
   ((scalar_number_least_l1 x91 x92 FUEL 0 x90:Option ((List Int)))).bind fun x93 =>
    some x93
def scalar_number_grown_l1:Nat->Int->Int->(List Int)->Option ((List Int))
 |0,_,_,_=>none
 |n1+1,x90,x91,x92 =>
  cond (decide (x91<8))
   (if (0:Int)≤x91/\x91<8 then
    nm ((IntKind.wrap .u64 ((List.getD x92 (Int.toNat x91) 0)*2^1)):Int) fun x93 =>
    if (0:Int)≤x91/\x91<8 then
     nm ((List.set x92 (Int.toNat x91) (bits .u64 .and (bits .u64 .or x93 x90) 4294967295)):List Int) fun x94 =>
     scalar_number_grown_l1 n1 (Int.fdiv (bits .u64 .or x93 x90) (2^32)) (IntKind.wrap .i64 (x91+1)) x94
    else none
   else none)
   (some x92)
def scalar_number_grown (x87:List Int) (x88:Int):Option ((List Int)) :=
 ((scalar_number_grown_l1 FUEL x88 0 x87:Option ((List Int)))).bind fun x89 =>
  (scalar_number_least x89).bind fun x95 =>
   some x95
def scalar_mod_l1 (x83:List Int):Nat->Int->(List Int)->Option ((List Int))
 |0,_,_=>none
 |n1+1,x88,x89 =>
  cond (decide (x88≥0))
   (if (0:Int)≤(IntKind.wrap .i64 (Int.tdiv x88 8))/\(IntKind.wrap .i64 (Int.tdiv x88 8))<(List.length x83:Int) then
    nm ((List.getD x83 (Int.toNat (IntKind.wrap .i64 (Int.tdiv x88 8))) 0):Int) fun x90 =>
    if (0:Int)≤(Int.tmod x88 8) then
     nm ((Int.fdiv x90 (2^(min (Int.toNat (Int.tmod x88 8)) (IntKind.bits .u8)))):Int) fun x91 =>
     (scalar_number_grown x89 (IntKind.wrap .u64 (bits .u8 .and x91 1))).bind fun x92 =>
      scalar_mod_l1 x83 n1 (IntKind.wrap .i64 (x88-1)) x92
    else none
   else none)
   (some x89)
def scalar_mod (x83:List Int):Option ((List Int)) :=
 nm ((IntKind.wrap .i64 ((IntKind.wrap .i64 (8*(List.length x83:Int)))-1)):Int) fun x84 =>
 cond (decide (x84≥0))
  (if (0:Int)≤(IntKind.wrap .i64 (Int.tdiv x84 8))/\(IntKind.wrap .i64 (Int.tdiv x84 8))<(List.length x83:Int) then
   nm ((List.getD x83 (Int.toNat (IntKind.wrap .i64 (Int.tdiv x84 8))) 0):Int) fun x85 =>
   if (0:Int)≤(Int.tmod x84 8) then
    nm ((Int.fdiv x85 (2^(min (Int.toNat (Int.tmod x84 8)) (IntKind.bits .u8)))):Int) fun x86 =>
    (scalar_number_grown (List.replicate 8 (0:Int)) (IntKind.wrap .u64 (bits .u8 .and x86 1))).bind fun x87 =>
     scalar_mod_l1 x83 FUEL (IntKind.wrap .i64 (x84-1)) x87
   else none
  else none)
  (some (List.replicate 8 (0:Int)))
def scalar_number_bytes_l1 (x94:List Int):Nat->Int->(List Int)->Option ((List Int))
 |0,_,_=>none
 |n1+1,x96,x97 =>
  cond (decide (x96<32))
   (if (0:Int)≤(IntKind.wrap .i64 (Int.tdiv x96 4))/\(IntKind.wrap .i64 (Int.tdiv x96 4))<8 then
    nm ((List.getD x94 (Int.toNat (IntKind.wrap .i64 (Int.tdiv x96 4))) 0):Int) fun x98 =>
    if (0:Int)≤(IntKind.wrap .i64 (8*(Int.tmod x96 4))) then
     nm ((Int.fdiv x98 (2^(min (Int.toNat (IntKind.wrap .i64 (8*(Int.tmod x96 4)))) (IntKind.bits .u64)))):Int) fun x99 =>
     if (0:Int)≤x96/\x96<32 then
      scalar_number_bytes_l1 x94 n1 (IntKind.wrap .i64 (x96+1)) (List.set x97 (Int.toNat x96) (IntKind.wrap .u8 x99))
     else none
    else none
   else none)
   (some x97)
def scalar_number_bytes (x94:List Int):Option ((List Int)) :=
 ((scalar_number_bytes_l1 x94 FUEL 0 (List.replicate 32 (0:Int)):Option ((List Int)))).bind fun x95 =>
  some x95
def scalar_Reduce (x82:List Int):Option ((List Int)) :=
 (scalar_mod (List.take 64 x82)).bind fun x83 =>
  (scalar_number_bytes x83).bind fun x84 =>
   some x84
def sign_hash (x45:Nat) (x46:Nat) (x47:Nat) (x48:List Int) (x49:List Int):Option ((List Int)) :=
 (shawide_Sum_2 x45 x46 x47 x48 x49).bind fun x50 =>
  (scalar_Reduce x50).bind fun x51 =>
   some x51
def shawide_padded_3 (x69:Nat) (x70:Nat) (x71:Nat) (x72:List Int) (x73:List Int) (x74:List Int):Option Unit :=
 some ()
def slices_Concat_byte_byte_4 (x75:Nat) (x76:Nat) (x77:Nat) (x78:List Int) (x79:List Int) (x80:List Int):Option ((List Int)) :=
 ((cond (decide ((IntKind.wrap .i64 (0+(x75:Int)))<0))
  (none)
  (nm ((IntKind.wrap .i64 ((IntKind.wrap .i64 (0+(x75:Int)))+(x76:Int))):Int) fun x82 =>
  cond (decide (x82<0))
   (none)
   (cond (decide ((IntKind.wrap .i64 (x82+(x77:Int)))<0))
    (none)
    (some (IntKind.wrap .i64 (x82+(x77:Int)))))):Option Int)).bind fun x81 =>
  (slices_Grow_byte_byte_2 x81).bind fun r86=>match r86 with
  |(x83,x84) =>
    ((if ((x83:Int)+(List.length (List.take x75 x78)))*1≤140737488355328 then
     if x83≤(List.length x84) then
      if (((List.length ((List.take x83 x84)++(List.take x75 x78))):Int)+(List.length (List.take x76 x79)))*1≤140737488355328 then
       nm ((((List.take x83 x84)++(List.take x75 x78))++(List.take x76 x79)):List Int) fun x86 =>
       if (((List.length x86):Int)+(List.length (List.take x77 x80)))*1≤140737488355328 then
        some (x86++(List.take x77 x80))
       else none
      else none
     else none
    else none:Option ((List Int)))).bind fun x85 =>
     some x85
def shawide_Sum_3_l1 (x73:List Int) (x74:Int):Nat->Int->(List Int)->Option ((List Int))
 |0,_,_=>none
 |n1+1,x76,x77 =>
  cond (decide (x76<8))
   (nm ((IntKind.wrap .i64 ((IntKind.wrap .i64 (((List.length x73):Int)-1))-x76)):Int) fun x78 =>
   if (0:Int)≤(IntKind.wrap .i64 (8*x76)) then
    nm ((Int.fdiv x74 (2^(min (Int.toNat (IntKind.wrap .i64 (8*x76))) (IntKind.bits .u64)))):Int) fun x79 =>
    if (0:Int)≤x78/\x78<((List.length x73):Int) then
     shawide_Sum_3_l1 x73 x74 n1 (IntKind.wrap .i64 (x76+1)) (List.set x77 (Int.toNat x78) (IntKind.wrap .u8 x79))
    else none
   else none)
   (some x77)
def shawide_Sum_3_l2 (x73:List Int) (x75:List Int):Nat->Int->(List Int)->Option ((List Int))
 |0,_,_=>none
 |n2+1,x82,x83 =>
  cond (decide (x82<((List.length x73):Int)))
   (if (0:Int)≤x82/\x82≤((List.length x73):Int) then
    nm ((if ((Int.toNat (((List.length x73):Int)-x82)):Int)<128 then ((Int.toNat (((List.length x73):Int)-x82)):Int) else 128):Int) fun x84 =>
    if (0:Int)≤x82/\x82≤(IntKind.wrap .i64 (x82+x84))/\(IntKind.wrap .i64 (x82+x84))≤(IntKind.wrap .i64 (x82+x84)) then
     if (IntKind.wrap .i64 (x82+x84))≤((List.length x73):Int) then
      (shawide_state_take_2 (Int.toNat x82) (Int.toNat ((IntKind.wrap .i64 (x82+x84))-x82)) x83 x75).bind fun x85 =>
       shawide_Sum_3_l2 x73 x75 n2 (IntKind.wrap .i64 (x82+128)) x85
     else none
    else none
   else none)
   (some x83)
def shawide_Sum_3_l4 (x69:List Int) (x87:Int):Nat->Int->(List Int)->Option ((List Int))
 |0,_,_=>none
 |n4+1,x90,x91 =>
  cond (decide (x90<8))
   (if (0:Int)≤(IntKind.wrap .i64 (56-(IntKind.wrap .i64 (8*x90)))) then
    nm ((Int.fdiv (List.getD x69 (Int.toNat x87) 0) (2^(min (Int.toNat (IntKind.wrap .i64 (56-(IntKind.wrap .i64 (8*x90))))) (IntKind.bits .u64)))):Int) fun x92 =>
    if (0:Int)≤(IntKind.wrap .i64 ((IntKind.wrap .i64 (8*x87))+x90))/\(IntKind.wrap .i64 ((IntKind.wrap .i64 (8*x87))+x90))<64 then
     nm ((Int.toNat (IntKind.wrap .i64 ((IntKind.wrap .i64 (8*x87))+x90))):Nat) fun x93 =>
     shawide_Sum_3_l4 x69 x87 n4 (IntKind.wrap .i64 (x90+1)) (List.set x91 x93 (IntKind.wrap .u8 x92))
    else none
   else none)
   (some x91)
def shawide_Sum_3_l3 (x69:List Int):Nat->Int->(List Int)->Option ((List Int))
 |0,_,_=>none
 |n3+1,x87,x88 =>
  cond (decide (x87<8))
   (if (0:Int)≤x87/\x87<8 then
    ((shawide_Sum_3_l4 x69 x87 FUEL 0 x88:Option ((List Int)))).bind fun x89 =>
     shawide_Sum_3_l3 x69 n3 (IntKind.wrap .i64 (x87+1)) x89
   else none)
   (some x88)
def shawide_Sum_3 (x62:Nat) (x63:Nat) (x64:Nat) (x65:List Int) (x66:List Int) (x67:List Int):Option ((List Int)) :=
 (shawide_begin).bind fun x68 =>
  (shawide_padded_3 x62 x63 x64 x65 x66 x67).bind fun _ =>
   (((slices_Concat_byte_byte_4 x62 x63 x64 x65 x66 x67).bind fun x70 =>
    if (((List.length x70):Int)+(List.length [128]))*1≤140737488355328 then
     (shawide_blocks ((List.length x70):Int)).bind fun x71 =>
      nm ((IntKind.wrap .i64 ((IntKind.wrap .i64 (x71*128))-((List.length x70):Int))):Int) fun x72 =>
      if (0:Int)≤(IntKind.wrap .i64 (x72-1))/\(((List.length (x70++[128])):Int)+(IntKind.wrap .i64 (x72-1)))*1≤140737488355328 then
       nm (((x70++[128])++(List.replicate (Int.toNat (IntKind.wrap .i64 (x72-1))) (0:Int))):List Int) fun x73 =>
       nm ((IntKind.wrap .u64 (8*(IntKind.wrap .u64 ((List.length x70):Int)))):Int) fun x74 =>
       ((shawide_Sum_3_l1 x73 x74 FUEL 0 x73:Option ((List Int)))).bind fun x75 =>
        (slices_Chunk_byte_byte_2 (List.length x73) 128 x75).bind fun _ =>
         ((((shawide_Sum_3_l2 x73 x75 FUEL 0 x68:Option ((List Int)))).bind fun x81 =>
          some x81:Option ((List Int)))).bind fun x80 =>
          some x80
      else none
    else none:Option ((List Int)))).bind fun x69 =>
    ((shawide_Sum_3_l3 x69 FUEL 0 (List.replicate 64 (0:Int)):Option ((List Int)))).bind fun x86 =>
     some x86
def sign_hash_2 (x56:Nat) (x57:Nat) (x58:Nat) (x59:List Int) (x60:List Int) (x61:List Int):Option ((List Int)) :=
 (shawide_Sum_3 x56 x57 x58 x59 x60 x61).bind fun x62 =>
  (scalar_Reduce x62).bind fun x63 =>
   some x63
def scalar_Times_l2 (x65:List Int) (x66:List Int) (x68:Int):Nat->Int->Int->(List Int)->Option (Int×(List Int))
 |0,_,_,_=>none
 |n2+1,x72,x73,x74 =>
  cond (decide (x73<32))
   (if (0:Int)≤x73/\x73<32 then
    if (0:Int)≤(IntKind.wrap .i64 (x68+x73))/\(IntKind.wrap .i64 (x68+x73))<64 then
     nm ((List.getD x74 (Int.toNat (IntKind.wrap .i64 (x68+x73))) 0):Int) fun x75 =>
     nm ((IntKind.wrap .u64 ((IntKind.wrap .u64 (List.getD x65 (Int.toNat x68) 0))*(IntKind.wrap .u64 (List.getD x66 (Int.toNat x73) 0)))):Int) fun x76 =>
     nm ((IntKind.wrap .u64 (x72+(IntKind.wrap .u64 ((IntKind.wrap .u64 x75)+x76)))):Int) fun x77 =>
     if (0:Int)≤(IntKind.wrap .i64 (x68+x73))/\(IntKind.wrap .i64 (x68+x73))<64 then
      nm ((List.set x74 (Int.toNat (IntKind.wrap .i64 (x68+x73))) (IntKind.wrap .u8 x77)):List Int) fun x78 =>
      scalar_Times_l2 x65 x66 x68 n2 (Int.fdiv x77 (2^8)) (IntKind.wrap .i64 (x73+1)) x78
     else none
    else none
   else none)
   (some (x72,x74))
def scalar_Times_l1 (x65:List Int) (x66:List Int):Nat->Int->(List Int)->Option ((List Int))
 |0,_,_=>none
 |n1+1,x68,x69 =>
  cond (decide (x68<32))
   (if (0:Int)≤x68/\x68<32 then
    ((scalar_Times_l2 x65 x66 x68 FUEL 0 0 x69:Option (Int×(List Int)))).bind fun r2_0_71=>match r2_0_71 with
    |(x70,x71) =>
      if (0:Int)≤(IntKind.wrap .i64 (x68+32))/\(IntKind.wrap .i64 (x68+32))<64 then
       nm ((List.set x71 (Int.toNat (IntKind.wrap .i64 (x68+32))) (IntKind.wrap .u8 x70)):List Int) fun x79 =>
       scalar_Times_l1 x65 x66 n1 (IntKind.wrap .i64 (x68+1)) x79
      else none
   else none)
   (some x69)
def scalar_Times (x65:List Int) (x66:List Int):Option ((List Int)) :=
 ((scalar_Times_l1 x65 x66 FUEL 0 (List.replicate 64 (0:Int)):Option ((List Int)))).bind fun x67 =>
  (scalar_Reduce x67).bind fun x80 =>
   some x80
def scalar_Add_l1 (x85:List Int):Nat->Int->Int->(List Int)->Option ((List Int))
 |0,_,_,_=>none
 |n1+1,x87,x88,x89 =>
  cond (decide (x88<8))
   (if (0:Int)≤x88/\x88<8 then
    if (0:Int)≤x88/\x88<8 then
     nm ((IntKind.wrap .u64 ((List.getD x89 (Int.toNat x88) 0)+(List.getD x85 (Int.toNat x88) 0))):Int) fun x90 =>
     if (0:Int)≤x88/\x88<8 then
      nm ((List.set x89 (Int.toNat x88) (bits .u64 .and (IntKind.wrap .u64 (x87+x90)) 4294967295)):List Int) fun x91 =>
      scalar_Add_l1 x85 n1 (Int.fdiv (IntKind.wrap .u64 (x87+x90)) (2^32)) (IntKind.wrap .i64 (x88+1)) x91
     else none
    else none
   else none)
   (some x89)
def scalar_Add (x82:List Int) (x83:List Int):Option ((List Int)) :=
 (scalar_mod (List.take 32 x82)).bind fun x84 =>
  (scalar_mod (List.take 32 x83)).bind fun x85 =>
   ((scalar_Add_l1 x85 FUEL 0 0 x84:Option ((List Int)))).bind fun x86 =>
    (scalar_number_least x86).bind fun x92 =>
     (scalar_number_bytes x92).bind fun x93 =>
      some x93
def sign_Sign (x4:List Int) (x5:Nat) (x6:List Int):Option ((List Int)) :=
 (sign_secret x4).bind fun r20=>match r20 with
 |(x7,x8) =>
   (points_Base).bind fun x9 =>
    (points_Point_Times x9 x7).bind fun x10 =>
     (points_Point_Bytes x10).bind fun x11 =>
      (slices_Concat_byte_byte_2 x5 x6).bind fun x12 =>
       (sign_hash 32 32 (List.length x12) x8 x12).bind fun x13 =>
        (points_Base).bind fun x14 =>
         (points_Point_Times x14 x13).bind fun x15 =>
          (points_Point_Bytes x15).bind fun x16 =>
           (sign_hash_2 32 32 (List.length x12) x16 x11 x12).bind fun x17 =>
            (scalar_Times x17 x7).bind fun x18 =>
             (scalar_Add x13 x18).bind fun x19 =>
              nm ((over (List.replicate 64 (0:Int)) 0 (List.take 64 (List.take 32 x16))):List Int) fun x20 =>
              some (over x20 32 (List.take 32 (List.take 32 x19)))
def sign_Public (x22:List Int):Option ((List Int)) :=
 (sign_secret x22).bind fun r27=>match r27 with
 |(x23,x24) =>
   (points_Base).bind fun x25 =>
    (points_Point_Times x25 x23).bind fun x26 =>
     (points_Point_Bytes x26).bind fun x27 =>
      some x27
def field_Read_l1 (x40:List Int):Nat->Int->(List Int)->Option ((List Int))
 |0,_,_=>none
 |n1+1,x42,x43 =>
  cond (decide (x42<255))
   (if (0:Int)≤(IntKind.wrap .i64 (Int.tdiv x42 26))/\(IntKind.wrap .i64 (Int.tdiv x42 26))<10 then
    nm ((List.getD x43 (Int.toNat (IntKind.wrap .i64 (Int.tdiv x42 26))) 0):Int) fun x44 =>
    if (0:Int)≤(IntKind.wrap .i64 (Int.tdiv x42 8))/\(IntKind.wrap .i64 (Int.tdiv x42 8))<32 then
     nm ((List.getD x40 (Int.toNat (IntKind.wrap .i64 (Int.tdiv x42 8))) 0):Int) fun x45 =>
     if (0:Int)≤(Int.tmod x42 8) then
      nm ((Int.fdiv x45 (2^(min (Int.toNat (Int.tmod x42 8)) (IntKind.bits .u8)))):Int) fun x46 =>
      if (0:Int)≤(Int.tmod x42 26) then
       nm ((IntKind.wrap .u64 ((IntKind.wrap .u64 (bits .u8 .and x46 1))*2^(min (Int.toNat (Int.tmod x42 26)) (IntKind.bits .u64)))):Int) fun x47 =>
       if (0:Int)≤(IntKind.wrap .i64 (Int.tdiv x42 26))/\(IntKind.wrap .i64 (Int.tdiv x42 26))<10 then
        nm ((List.set x43 (Int.toNat (IntKind.wrap .i64 (Int.tdiv x42 26))) (bits .u64 .or x44 x47)):List Int) fun x48 =>
        field_Read_l1 x40 n1 (IntKind.wrap .i64 (x42+1)) x48
       else none
      else none
     else none
    else none
   else none)
   (some x43)
def field_Read (x40:List Int):Option T_field_Elem :=
 ((field_Read_l1 x40 FUEL 0 (List.replicate 10 (0:Int)):Option ((List Int)))).bind fun x41 =>
  some ({ fn:=x41 }:T_field_Elem)
def field_Strict (x39:List Int):Option ((T_field_Elem⊕Unit)) :=
 (field_Read x39).bind fun x40 =>
  (field_Elem_Bytes x40).bind fun x41 =>
   cond (!(x41==x39))
    (some (Sum.inr ()))
    (some (Sum.inl x40))
def words_Equal_l1 (x62:List Int) (x63:List Int):Nat->Int->Int->Option Int
 |0,_,_=>none
 |n1+1,x65,x66 =>
  cond (decide (x66<(List.length x62:Int)))
   (if (0:Int)≤x66/\x66<(List.length x62:Int) then
    if (0:Int)≤x66/\x66<(List.length x63:Int) then
     nm ((bits .u8 .xor (List.getD x62 (Int.toNat x66) 0) (List.getD x63 (Int.toNat x66) 0)):Int) fun x67 =>
     words_Equal_l1 x62 x63 n1 (bits .u8 .or x65 x67) (IntKind.wrap .i64 (x66+1))
    else none
   else none)
   (some x65)
def words_Equal (x62:List Int) (x63:List Int):Option Bool :=
 cond (!((List.length x62:Int)==(List.length x63:Int)))
  (some false)
  (((words_Equal_l1 x62 x63 FUEL 0 0:Option Int)).bind fun x64 =>
   some (x64==0))
def field_Elem_Same (x58:T_field_Elem) (x59:T_field_Elem):Option Bool :=
 (field_Elem_Bytes x58).bind fun x60 =>
  (field_Elem_Bytes x59).bind fun x61 =>
   (words_Equal (List.take 32 x60) (List.take 32 x61)).bind fun x62 =>
    some x62
def field_Elem_Root (x51:T_field_Elem):Option (T_field_Elem×Bool) :=
 (field_Elem_power x51).bind fun r65=>match r65 with
 |(x52,x53) =>
   (field_Elem_Square x52).bind fun x54 =>
    (field_Elem_Times x54 x51).bind fun x55 =>
     (field_Elem_Square x55).bind fun x56 =>
      (field_Elem_Square x56).bind fun x57 =>
       (field_Elem_Same x57 x51).bind fun x58 =>
        ((cond (!x58)
         ((field_Elem_Times x56 ({ fn:=tb_field_minus }:T_field_Elem)).bind fun x60 =>
          some x60)
         (some x56):Option T_field_Elem)).bind fun x59 =>
         (field_Elem_Square x59).bind fun x61 =>
          (field_Elem_Same x61 x51).bind fun x62 =>
           cond (!x62)
            (some (({ fn:=(List.replicate 10 (0:Int)) }:T_field_Elem),false))
            ((field_Elem_Odd x59).bind fun x63 =>
             ((cond x63
              ((field_Elem_Sub ({ fn:=(List.replicate 10 (0:Int)) }:T_field_Elem) x59).bind fun x65 =>
               some x65)
              (some x59):Option T_field_Elem)).bind fun x64 =>
              some (x64,true))
def words_Zero_l1 (x70:List Int):Nat->Int->Int->Option Int
 |0,_,_=>none
 |n1+1,x72,x73 =>
  cond (decide (x73<(List.length x70:Int)))
   (if (0:Int)≤x73/\x73<(List.length x70:Int) then
    words_Zero_l1 x70 n1 (bits .u8 .or x72 (List.getD x70 (Int.toNat x73) 0)) (IntKind.wrap .i64 (x73+1))
   else none)
   (some x72)
def words_Zero (x70:List Int):Option Bool :=
 ((words_Zero_l1 x70 FUEL 0 0:Option Int)).bind fun x71 =>
  some (x71==0)
def field_Elem_Zero (x68:T_field_Elem):Option Bool :=
 (field_Elem_Bytes x68).bind fun x69 =>
  (words_Zero (List.take 32 x69)).bind fun x70 =>
   some x70
def points_Read (x37:List Int):Option ((T_points_Point⊕T_points_Point)) :=
 nm ((List.set x37 31 (bits .u8 .andNot (List.getD x37 31 0) 128)):List Int) fun x38 =>
 (field_Strict x38).bind fun r58=>match r58 with
 |(Sum.inl x39) =>
   (field_Elem_Square x39).bind fun x40 =>
    (field_Small 1).bind fun x41 =>
     (field_Elem_Sub x40 x41).bind fun x42 =>
      (field_Curve).bind fun x43 =>
       (field_Elem_Times x43 x40).bind fun x44 =>
        (field_Elem_Add x44 x41).bind fun x45 =>
         (field_Elem_Invert x45).bind fun x46 =>
          (field_Elem_Times x42 x46).bind fun x47 =>
           (field_Elem_Root x47).bind fun r58=>match r58 with
           |(x48,x49) =>
             cond (!x49)
              (some (Sum.inr ({ fx:=({ fn:=(List.replicate 10 (0:Int)) }:T_field_Elem),fy:=({ fn:=(List.replicate 10 (0:Int)) }:T_field_Elem),fz:=({ fn:=(List.replicate 10 (0:Int)) }:T_field_Elem),ft:=({ fn:=(List.replicate 10 (0:Int)) }:T_field_Elem) }:T_points_Point)))
              (cond (!((bits .u8 .and (List.getD x37 31 0) 128)==0))
               ((field_Elem_Zero x48).bind fun x50 =>
                cond x50
                 (some (Sum.inr ({ fx:=({ fn:=(List.replicate 10 (0:Int)) }:T_field_Elem),fy:=({ fn:=(List.replicate 10 (0:Int)) }:T_field_Elem),fz:=({ fn:=(List.replicate 10 (0:Int)) }:T_field_Elem),ft:=({ fn:=(List.replicate 10 (0:Int)) }:T_field_Elem) }:T_points_Point)))
                 (((cond (!((bits .u8 .and (List.getD x37 31 0) 128)==0))
                  ((field_Small 0).bind fun x52 =>
                   (field_Elem_Sub x52 x48).bind fun x53 =>
                    some x53)
                  (some x48):Option T_field_Elem)).bind fun x51 =>
                  (points_at x51 x39).bind fun x54 =>
                   some (Sum.inl x54)))
               (((cond (!((bits .u8 .and (List.getD x37 31 0) 128)==0))
                ((field_Small 0).bind fun x56 =>
                 (field_Elem_Sub x56 x48).bind fun x57 =>
                  some x57)
                (some x48):Option T_field_Elem)).bind fun x55 =>
                (points_at x55 x39).bind fun x58 =>
                 some (Sum.inl x58)))
 |(Sum.inr ()) =>
   some (Sum.inr ({ fx:=({ fn:=(List.replicate 10 (0:Int)) }:T_field_Elem),fy:=({ fn:=(List.replicate 10 (0:Int)) }:T_field_Elem),fz:=({ fn:=(List.replicate 10 (0:Int)) }:T_field_Elem),ft:=({ fn:=(List.replicate 10 (0:Int)) }:T_field_Elem) }:T_points_Point))
def scalar_Right (x60:List Int):Option Bool :=
 (scalar_mod (List.take 32 x60)).bind fun x61 =>
  (scalar_number_bytes x61).bind fun x62 =>
   (words_Equal (List.take 32 x62) (List.take 32 x60)).bind fun x63 =>
    some x63
def shawide_padded_4 (x79:Nat) (x80:Nat) (x81:Nat) (x82:List Int) (x83:List Int) (x84:List Int):Option Unit :=
 some ()
def slices_Concat_byte_byte_5 (x85:Nat) (x86:Nat) (x87:Nat) (x88:List Int) (x89:List Int) (x90:List Int):Option ((List Int)) :=
 ((cond (decide ((IntKind.wrap .i64 (0+(x85:Int)))<0))
  (none)
  (nm ((IntKind.wrap .i64 ((IntKind.wrap .i64 (0+(x85:Int)))+(x86:Int))):Int) fun x92 =>
  cond (decide (x92<0))
   (none)
   (cond (decide ((IntKind.wrap .i64 (x92+(x87:Int)))<0))
    (none)
    (some (IntKind.wrap .i64 (x92+(x87:Int)))))):Option Int)).bind fun x91 =>
  (slices_Grow_byte_byte_2 x91).bind fun r96=>match r96 with
  |(x93,x94) =>
    ((if ((x93:Int)+(List.length (List.take x85 x88)))*1≤140737488355328 then
     if x93≤(List.length x94) then
      if (((List.length ((List.take x93 x94)++(List.take x85 x88))):Int)+(List.length (List.take x86 x89)))*1≤140737488355328 then
       nm ((((List.take x93 x94)++(List.take x85 x88))++(List.take x86 x89)):List Int) fun x96 =>
       if (((List.length x96):Int)+(List.length (List.take x87 x90)))*1≤140737488355328 then
        some (x96++(List.take x87 x90))
       else none
      else none
     else none
    else none:Option ((List Int)))).bind fun x95 =>
     some x95
def shawide_Sum_4_l1 (x83:List Int) (x84:Int):Nat->Int->(List Int)->Option ((List Int))
 |0,_,_=>none
 |n1+1,x86,x87 =>
  cond (decide (x86<8))
   (nm ((IntKind.wrap .i64 ((IntKind.wrap .i64 (((List.length x83):Int)-1))-x86)):Int) fun x88 =>
   if (0:Int)≤(IntKind.wrap .i64 (8*x86)) then
    nm ((Int.fdiv x84 (2^(min (Int.toNat (IntKind.wrap .i64 (8*x86))) (IntKind.bits .u64)))):Int) fun x89 =>
    if (0:Int)≤x88/\x88<((List.length x83):Int) then
     shawide_Sum_4_l1 x83 x84 n1 (IntKind.wrap .i64 (x86+1)) (List.set x87 (Int.toNat x88) (IntKind.wrap .u8 x89))
    else none
   else none)
   (some x87)
def shawide_Sum_4_l2 (x83:List Int) (x85:List Int):Nat->Int->(List Int)->Option ((List Int))
 |0,_,_=>none
 |n2+1,x92,x93 =>
  cond (decide (x92<((List.length x83):Int)))
   (if (0:Int)≤x92/\x92≤((List.length x83):Int) then
    nm ((if ((Int.toNat (((List.length x83):Int)-x92)):Int)<128 then ((Int.toNat (((List.length x83):Int)-x92)):Int) else 128):Int) fun x94 =>
    if (0:Int)≤x92/\x92≤(IntKind.wrap .i64 (x92+x94))/\(IntKind.wrap .i64 (x92+x94))≤(IntKind.wrap .i64 (x92+x94)) then
     if (IntKind.wrap .i64 (x92+x94))≤((List.length x83):Int) then
      (shawide_state_take_2 (Int.toNat x92) (Int.toNat ((IntKind.wrap .i64 (x92+x94))-x92)) x93 x85).bind fun x95 =>
       shawide_Sum_4_l2 x83 x85 n2 (IntKind.wrap .i64 (x92+128)) x95
     else none
    else none
   else none)
   (some x93)
def shawide_Sum_4_l4 (x79:List Int) (x97:Int):Nat->Int->(List Int)->Option ((List Int))
 |0,_,_=>none
 |n4+1,x100,x101 =>
  cond (decide (x100<8))
   (if (0:Int)≤(IntKind.wrap .i64 (56-(IntKind.wrap .i64 (8*x100)))) then
    nm ((Int.fdiv (List.getD x79 (Int.toNat x97) 0) (2^(min (Int.toNat (IntKind.wrap .i64 (56-(IntKind.wrap .i64 (8*x100))))) (IntKind.bits .u64)))):Int) fun x102 =>
    if (0:Int)≤(IntKind.wrap .i64 ((IntKind.wrap .i64 (8*x97))+x100))/\(IntKind.wrap .i64 ((IntKind.wrap .i64 (8*x97))+x100))<64 then
     nm ((Int.toNat (IntKind.wrap .i64 ((IntKind.wrap .i64 (8*x97))+x100))):Nat) fun x103 =>
     shawide_Sum_4_l4 x79 x97 n4 (IntKind.wrap .i64 (x100+1)) (List.set x101 x103 (IntKind.wrap .u8 x102))
    else none
   else none)
   (some x101)
def shawide_Sum_4_l3 (x79:List Int):Nat->Int->(List Int)->Option ((List Int))
 |0,_,_=>none
 |n3+1,x97,x98 =>
  cond (decide (x97<8))
   (if (0:Int)≤x97/\x97<8 then
    ((shawide_Sum_4_l4 x79 x97 FUEL 0 x98:Option ((List Int)))).bind fun x99 =>
     shawide_Sum_4_l3 x79 n3 (IntKind.wrap .i64 (x97+1)) x99
   else none)
   (some x98)
def shawide_Sum_4 (x72:Nat) (x73:Nat) (x74:Nat) (x75:List Int) (x76:List Int) (x77:List Int):Option ((List Int)) :=
 (shawide_begin).bind fun x78 =>
  (shawide_padded_4 x72 x73 x74 x75 x76 x77).bind fun _ =>
   (((slices_Concat_byte_byte_5 x72 x73 x74 x75 x76 x77).bind fun x80 =>
    if (((List.length x80):Int)+(List.length [128]))*1≤140737488355328 then
     (shawide_blocks ((List.length x80):Int)).bind fun x81 =>
      nm ((IntKind.wrap .i64 ((IntKind.wrap .i64 (x81*128))-((List.length x80):Int))):Int) fun x82 =>
      if (0:Int)≤(IntKind.wrap .i64 (x82-1))/\(((List.length (x80++[128])):Int)+(IntKind.wrap .i64 (x82-1)))*1≤140737488355328 then
       nm (((x80++[128])++(List.replicate (Int.toNat (IntKind.wrap .i64 (x82-1))) (0:Int))):List Int) fun x83 =>
       nm ((IntKind.wrap .u64 (8*(IntKind.wrap .u64 ((List.length x80):Int)))):Int) fun x84 =>
       ((shawide_Sum_4_l1 x83 x84 FUEL 0 x83:Option ((List Int)))).bind fun x85 =>
        (slices_Chunk_byte_byte_2 (List.length x83) 128 x85).bind fun _ =>
         ((((shawide_Sum_4_l2 x83 x85 FUEL 0 x78:Option ((List Int)))).bind fun x91 =>
          some x91:Option ((List Int)))).bind fun x90 =>
          some x90
      else none
    else none:Option ((List Int)))).bind fun x79 =>
    ((shawide_Sum_4_l3 x79 FUEL 0 (List.replicate 64 (0:Int)):Option ((List Int)))).bind fun x96 =>
     some x96
def sign_hash_3 (x66:Nat) (x67:Nat) (x68:Nat) (x69:List Int) (x70:List Int) (x71:List Int):Option ((List Int)) :=
 (shawide_Sum_4 x66 x67 x68 x69 x70 x71).bind fun x72 =>
  (scalar_Reduce x72).bind fun x73 =>
   some x73
def points_Point_Negate (x75:T_points_Point):Option T_points_Point :=
 (field_Small 0).bind fun x76 =>
  (field_Elem_Sub x76 x75.fx).bind fun x77 =>
   (field_Elem_Sub x76 x75.ft).bind fun x78 =>
    some ({ fx:=x77,fy:=x75.fy,fz:=x75.fz,ft:=x78 }:T_points_Point)
def points_Point_With_l1 (x80:T_points_Point) (x81:List Int) (x82:List Int) (x83:T_field_Elem) (x84:T_points_Point) (x85:T_points_Point):Nat->Int->T_points_Point->Option T_points_Point
 |0,_,_=>none
 |n1+1,x101,x102 =>
  cond (decide (x101≥0))
   ((points_Point_double x102).bind fun x103 =>
    (scalar_Bit x81 x101).bind fun x104 =>
     (scalar_Bit x82 x101).bind fun x105 =>
      ((cond x104
       (((cond x105
        ((points_Point_plus x103 x85 x83).bind fun x108 =>
         some x108)
        (((cond x104
         ((points_Point_plus x103 x80 x83).bind fun x110 =>
          some x110)
         (((cond x105
          ((points_Point_plus x103 x84 x83).bind fun x112 =>
           some x112)
          (some x103):Option T_points_Point)).bind fun x111 =>
          some x111):Option T_points_Point)).bind fun x109 =>
         some x109):Option T_points_Point)).bind fun x107 =>
        some x107)
       (((cond x104
        ((points_Point_plus x103 x80 x83).bind fun x114 =>
         some x114)
        (((cond x105
         ((points_Point_plus x103 x84 x83).bind fun x116 =>
          some x116)
         (some x103):Option T_points_Point)).bind fun x115 =>
         some x115):Option T_points_Point)).bind fun x113 =>
        some x113):Option T_points_Point)).bind fun x106 =>
       points_Point_With_l1 x80 x81 x82 x83 x84 x85 n1 (IntKind.wrap .i64 (x101-1)) x106)
   (some x102)
def points_Point_With (x80:T_points_Point) (x81:List Int) (x82:List Int):Option T_points_Point :=
 (points_twice).bind fun x83 =>
  (points_Base).bind fun x84 =>
   (points_Point_plus x80 x84 x83).bind fun x85 =>
    (points_Zero).bind fun x86 =>
     (points_Point_double x86).bind fun x87 =>
      (scalar_Bit x81 255).bind fun x88 =>
       (scalar_Bit x82 255).bind fun x89 =>
        ((cond x88
         (((cond x89
          ((points_Point_plus x87 x85 x83).bind fun x92 =>
           some x92)
          (((cond x88
           ((points_Point_plus x87 x80 x83).bind fun x94 =>
            some x94)
           (((cond x89
            ((points_Point_plus x87 x84 x83).bind fun x96 =>
             some x96)
            (some x87):Option T_points_Point)).bind fun x95 =>
            some x95):Option T_points_Point)).bind fun x93 =>
           some x93):Option T_points_Point)).bind fun x91 =>
          some x91)
         (((cond x88
          ((points_Point_plus x87 x80 x83).bind fun x98 =>
           some x98)
          (((cond x89
           ((points_Point_plus x87 x84 x83).bind fun x100 =>
            some x100)
           (some x87):Option T_points_Point)).bind fun x99 =>
           some x99):Option T_points_Point)).bind fun x97 =>
          some x97):Option T_points_Point)).bind fun x90 =>
         points_Point_With_l1 x80 x81 x82 x83 x84 x85 FUEL 254 x90
def sign_Verify (x33:List Int) (x34:List Int) (x35:Nat) (x36:List Int):Option Bool :=
 if 32≤(List.length (List.take 32 (List.drop 32 x34))) then
  (points_Read x33).bind fun r45=>match r45 with
  |(Sum.inl x37) =>
    (scalar_Right (List.take 32 (List.take 32 (List.drop 32 x34)))).bind fun x38 =>
     cond (!x38)
      (some false)
      ((slices_Concat_byte_byte_2 x35 x36).bind fun x39 =>
       (sign_hash_3 32 32 (List.length x39) x34 x33 x39).bind fun x40 =>
        (points_Point_Negate x37).bind fun x41 =>
         (points_Point_With x41 x40 (List.take 32 (List.take 32 (List.drop 32 x34)))).bind fun x42 =>
          (points_Point_Bytes x42).bind fun x43 =>
           (words_Equal (List.take 32 x43) (List.take 32 x34)).bind fun x44 =>
            some x44)
  |(Sum.inr x45) =>
    some false
 else none
def fl13_alive:Option Bool :=
 (sign_Sign (List.set (List.replicate 32 (0:Int)) 0 1) (List.length [97]) [97]).bind fun x4 =>
  (sign_Public (List.set (List.replicate 32 (0:Int)) 0 1)).bind fun x5 =>
   (sign_Verify x5 x4 (List.length [97]) [97]).bind fun x6 =>
    cond x6
     ((sign_Public (List.set (List.replicate 32 (0:Int)) 0 2)).bind fun x7 =>
      (sign_Verify x7 x4 (List.length [97]) [97]).bind fun x8 =>
       some (!x8))
     (some false)
def slices_Concat_byte_byte_6_l1 (x17:List (List Int)):Nat->Int->Int->Option Int
 |0,_,_=>none
 |n1+1,x19,x20 =>
  cond (decide (x20<(List.length x17:Int)))
   (if (0:Int)≤x20/\x20<(List.length x17:Int) then
    nm ((IntKind.wrap .i64 (x19+(List.length (List.getD x17 (Int.toNat x20) []):Int))):Int) fun x21 =>
    cond (decide (x21<0))
     (none)
     (slices_Concat_byte_byte_6_l1 x17 n1 x21 (IntKind.wrap .i64 (x20+1)))
   else none)
   (some x19)
def slices_Concat_byte_byte_6_l2 (x17:List (List Int)):Nat->Nat->Int->(List Int)->Option ((Unit⊕(Nat×(List Int))))
 |0,_,_,_=>none
 |n2+1,x26,x27,x28 =>
  cond (decide (x27<(List.length x17:Int)))
   (if (0:Int)≤x27/\x27<(List.length x17:Int) then
    if ((x26:Int)+(List.length (List.getD x17 (Int.toNat x27) [])))*1≤140737488355328 then
     if x26≤(List.length x28) then
      slices_Concat_byte_byte_6_l2 x17 n2 (List.length ((List.take x26 x28)++(List.getD x17 (Int.toNat x27) []))) (IntKind.wrap .i64 (x27+1)) ((List.take x26 x28)++(List.getD x17 (Int.toNat x27) []))
     else none
    else none
   else none)
   (some (Sum.inr (x26,x28)))
def slices_Concat_byte_byte_6 (x17:List (List Int)):Option (Nat×(List Int)) :=
 ((slices_Concat_byte_byte_6_l1 x17 FUEL 0 0:Option Int)).bind fun x18 =>
  (slices_Grow_byte_byte_2 x18).bind fun r28=>match r28 with
  |(x22,x23) =>
    ((slices_Concat_byte_byte_6_l2 x17 FUEL x22 0 x23:Option ((Unit⊕(Nat×(List Int)))))).bind fun r2_1_25=>match r2_1_25 with
    |(Sum.inl ()) =>
      some (x22,x23)
    |(Sum.inr (x24,x25)) =>
      some (x24,x25)
def sign_Sign_2 (x10:List Int) (x11:List (List Int)):Option ((List Int)) :=
 (sign_secret x10).bind fun r26=>match r26 with
 |(x12,x13) =>
   (points_Base).bind fun x14 =>
    (points_Point_Times x14 x12).bind fun x15 =>
     (points_Point_Bytes x15).bind fun x16 =>
      (slices_Concat_byte_byte_6 x11).bind fun r26=>match r26 with
      |(x17,x18) =>
        (sign_hash 32 32 x17 x13 x18).bind fun x19 =>
         (points_Base).bind fun x20 =>
          (points_Point_Times x20 x19).bind fun x21 =>
           (points_Point_Bytes x21).bind fun x22 =>
            (sign_hash_2 32 32 x17 x22 x16 x18).bind fun x23 =>
             (scalar_Times x23 x12).bind fun x24 =>
              (scalar_Add x19 x24).bind fun x25 =>
               nm ((over (List.replicate 64 (0:Int)) 0 (List.take 64 (List.take 32 x22))):List Int) fun x26 =>
               some (over x26 32 (List.take 32 (List.take 32 x25)))
def fr03_constants:Option ((List Int)) :=
 nm ([4794697086780616226,8158064640168781261,13096744586834688815,16840607885511220156,4131703408338449720,6480981068601479193,10538285296894168987,12329834152419229976,15566598209576043074,1334009975649890238,2608012711638119052,6128411473006802146,8268148722764581231,9286055187155687089,11230858885718282805,13951009754708518548,16472876342353939154,17275323862435702243,1135362057144423861,2597628984639134821,3308224258029322869,5365058923640841347,6679025012923562964,8573033837759648693,10970295158949994411,12119686244451234320,12683024718118986047,13788192230050041572,14330467153632333762,15395433587784984357,489312712824947311,1452737877330783856,2861767655752347644,3322285676063803686,5560940570517711597,5996557281743188959,7280758554555802590,8532644243296465576,9350256976987008742,10552545826968843579,11727347734174303076,12113106623233404929,14000437183269869457,14369950271660146224,15101387698204529176,15463397548674623760,17586052441742319658,1182934255886127544,1847814050463011016,2177327727835720531,2830643537854262169,3796741975233480872,4115178125766777443,5681478168544905931,6601373596472566643,7507060721942968483,8399075790359081724,8693463985226723168,9568029438360202098,10144078919501101548,10430055236837252648,11840083180663258601,13761210420658862357,14299343276471374635,14566680578165727644,15097957966210449927,16922976911328602910,17689382322260857208,500013540394364858,748580250866718886,1242879168328830382,1977374033974150939,2944078676154940804,3659926193048069267,4368137639120453308,4836135668995329356,5532061633213252278,6448918945643986474,6902733635092675308,7801388544844847127]:List Int) fun x32 =>
 some x32
def fr03_Padded_l1:Nat->(List Int)->Option ((Unit⊕(List Int)))
 |0,_=>none
 |n1+1,x37 =>
  cond (!((Int.tmod ((List.length x37):Int) 128)==112))
   (if (((List.length x37):Int)+(List.length [0]))*1≤140737488355328 then
    fr03_Padded_l1 n1 (x37++[0])
   else none)
   (some (Sum.inr x37))
def fr03_Padded_l2 (x39:Int):Nat->Int->(List Int)->Option ((List Int))
 |0,_,_=>none
 |n2+1,x41,x42 =>
  cond (decide (x41≥0))
   (if (0:Int)≤(IntKind.wrap .u64 (IntKind.wrap .i64 (8*x41))) then
    nm ((Int.fdiv x39 (2^(min (Int.toNat (IntKind.wrap .u64 (IntKind.wrap .i64 (8*x41)))) (IntKind.bits .u64)))):Int) fun x43 =>
    if (((List.length x42):Int)+(List.length [(IntKind.wrap .u8 x43)]))*1≤140737488355328 then
     fr03_Padded_l2 x39 n2 (IntKind.wrap .i64 (x41-1)) (x42++[(IntKind.wrap .u8 x43)])
    else none
   else none)
   (some x42)
def fr03_Padded_l3 (x44:Int):Nat->Int->(List Int)->Option ((List Int))
 |0,_,_=>none
 |n3+1,x46,x47 =>
  cond (decide (x46≥0))
   (if (0:Int)≤(IntKind.wrap .u64 (IntKind.wrap .i64 (8*x46))) then
    nm ((Int.fdiv x44 (2^(min (Int.toNat (IntKind.wrap .u64 (IntKind.wrap .i64 (8*x46)))) (IntKind.bits .u64)))):Int) fun x48 =>
    if (((List.length x47):Int)+(List.length [(IntKind.wrap .u8 x48)]))*1≤140737488355328 then
     fr03_Padded_l3 x44 n3 (IntKind.wrap .i64 (x46-1)) (x47++[(IntKind.wrap .u8 x48)])
    else none
   else none)
   (some x47)
def fr03_Padded (x35:List Int):Option ((List Int)) :=
 if (((List.length ([]:List Int)):Int)+(List.length x35))*1≤140737488355328 then
  if (((List.length (([]:List Int)++x35)):Int)+(List.length [128]))*1≤140737488355328 then
   ((fr03_Padded_l1 FUEL ((([]:List Int)++x35)++[128]):Option ((Unit⊕(List Int))))).bind fun r1_0_36=>match r1_0_36 with
   |(Sum.inl ()) =>
     if (((List.length ((([]:List Int)++x35)++[128])):Int)+(List.length [0,0,0,0,0,0,0,0]))*1≤140737488355328 then
      nm ((((([]:List Int)++x35)++[128])++[0,0,0,0,0,0,0,0]):List Int) fun x38 =>
      nm ((IntKind.wrap .u64 ((IntKind.wrap .u64 (List.length x35:Int))*8)):Int) fun x39 =>
      ((fr03_Padded_l2 x39 FUEL 7 x38:Option ((List Int)))).bind fun x40 =>
       some x40
     else none
   |(Sum.inr x36) =>
     if (((List.length x36):Int)+(List.length [0,0,0,0,0,0,0,0]))*1≤140737488355328 then
      nm ((IntKind.wrap .u64 ((IntKind.wrap .u64 (List.length x35:Int))*8)):Int) fun x44 =>
      ((fr03_Padded_l3 x44 FUEL 7 (x36++[0,0,0,0,0,0,0,0]):Option ((List Int)))).bind fun x45 =>
       some x45
     else none
  else none
 else none
def fr03_turn (x53:Int) (x54:Int):Option Int :=
 if (0:Int)≤x54 then
  nm ((Int.fdiv x53 (2^(min (Int.toNat x54) (IntKind.bits .u64)))):Int) fun x55 =>
  if (0:Int)≤(IntKind.wrap .u64 (64-x54)) then
   nm ((IntKind.wrap .u64 (x53*2^(min (Int.toNat (IntKind.wrap .u64 (64-x54))) (IntKind.bits .u64)))):Int) fun x56 =>
   some (bits .u64 .or x55 x56)
  else none
 else none
def fr03_Sum_l3 (x34:List Int) (x36:Int) (x39:Int):Nat->Int->(List Int)->Option ((List Int))
 |0,_,_=>none
 |n3+1,x43,x44 =>
  cond (decide (x43<8))
   (if (0:Int)≤x39/\x39<((List.length x44):Int) then
    nm ((IntKind.wrap .u64 ((List.getD x44 (Int.toNat x39) 0)*256)):Int) fun x45 =>
    nm ((IntKind.wrap .i64 ((IntKind.wrap .i64 (x36+(IntKind.wrap .i64 (8*x39))))+x43)):Int) fun x46 =>
    if (0:Int)≤x46/\x46<((List.length x34):Int) then
     nm ((IntKind.wrap .u64 (x45+(IntKind.wrap .u64 (List.getD x34 (Int.toNat x46) 0)))):Int) fun x47 =>
     if (0:Int)≤x39/\x39<((List.length x44):Int) then
      fr03_Sum_l3 x34 x36 x39 n3 (IntKind.wrap .i64 (x43+1)) (List.set x44 (Int.toNat x39) x47)
     else none
    else none
   else none)
   (some x44)
def fr03_Sum_l2 (x34:List Int) (x36:Int):Nat->Int->(List Int)->Option ((List Int))
 |0,_,_=>none
 |n2+1,x39,x40 =>
  cond (decide (x39<80))
   (((cond (decide (x39<16))
    (((fr03_Sum_l3 x34 x36 x39 FUEL 0 x40:Option ((List Int)))).bind fun x42 =>
     some x42)
    (if (0:Int)≤(IntKind.wrap .i64 (x39-15))/\(IntKind.wrap .i64 (x39-15))<((List.length x40):Int) then
     if (0:Int)≤(IntKind.wrap .i64 (x39-2))/\(IntKind.wrap .i64 (x39-2))<((List.length x40):Int) then
      (fr03_turn (List.getD x40 (Int.toNat (IntKind.wrap .i64 (x39-2))) 0) 19).bind fun x48 =>
       (fr03_turn (List.getD x40 (Int.toNat (IntKind.wrap .i64 (x39-2))) 0) 61).bind fun x49 =>
        nm ((Int.fdiv (List.getD x40 (Int.toNat (IntKind.wrap .i64 (x39-2))) 0) (2^6)):Int) fun x50 =>
        if (0:Int)≤(IntKind.wrap .i64 (x39-7))/\(IntKind.wrap .i64 (x39-7))<((List.length x40):Int) then
         nm ((IntKind.wrap .u64 ((bits .u64 .xor (bits .u64 .xor x48 x49) x50)+(List.getD x40 (Int.toNat (IntKind.wrap .i64 (x39-7))) 0))):Int) fun x51 =>
         (fr03_turn (List.getD x40 (Int.toNat (IntKind.wrap .i64 (x39-15))) 0) 1).bind fun x52 =>
          (fr03_turn (List.getD x40 (Int.toNat (IntKind.wrap .i64 (x39-15))) 0) 8).bind fun x53 =>
           nm ((Int.fdiv (List.getD x40 (Int.toNat (IntKind.wrap .i64 (x39-15))) 0) (2^7)):Int) fun x54 =>
           nm ((IntKind.wrap .u64 (x51+(bits .u64 .xor (bits .u64 .xor x52 x53) x54))):Int) fun x55 =>
           if (0:Int)≤(IntKind.wrap .i64 (x39-16))/\(IntKind.wrap .i64 (x39-16))<((List.length x40):Int) then
            nm ((IntKind.wrap .u64 (x55+(List.getD x40 (Int.toNat (IntKind.wrap .i64 (x39-16))) 0))):Int) fun x56 =>
            if (0:Int)≤x39/\x39<((List.length x40):Int) then
             some (List.set x40 (Int.toNat x39) x56)
            else none
           else none
        else none
     else none
    else none):Option ((List Int)))).bind fun x41 =>
    fr03_Sum_l2 x34 x36 n2 (IntKind.wrap .i64 (x39+1)) x41)
   (some x40)
def fr03_Sum_l4 (x32:List Int) (x38:List Int):Nat->Int->Int->Int->Int->Int->Int->Int->Int->Int->Option (Int×Int×Int×Int×Int×Int×Int×Int)
 |0,_,_,_,_,_,_,_,_,_=>none
 |n4+1,x65,x66,x67,x68,x69,x70,x71,x72,x73 =>
  cond (decide (x73<80))
   ((fr03_turn x69 14).bind fun x74 =>
    (fr03_turn x69 18).bind fun x75 =>
     (fr03_turn x69 41).bind fun x76 =>
      nm ((IntKind.wrap .u64 (x72+(bits .u64 .xor (bits .u64 .xor x74 x75) x76))):Int) fun x77 =>
      nm ((bits .u64 .xor (bits .u64 .and x69 x70) (bits .u64 .and (bits .u64 .xor (IntKind.max .u64) x69) x71)):Int) fun x78 =>
      if (0:Int)≤x73/\x73<((List.length x32):Int) then
       nm ((IntKind.wrap .u64 ((IntKind.wrap .u64 (x77+x78))+(List.getD x32 (Int.toNat x73) 0))):Int) fun x79 =>
       if (0:Int)≤x73/\x73<((List.length x38):Int) then
        nm ((IntKind.wrap .u64 (x79+(List.getD x38 (Int.toNat x73) 0))):Int) fun x80 =>
        (fr03_turn x65 28).bind fun x81 =>
         (fr03_turn x65 34).bind fun x82 =>
          (fr03_turn x65 39).bind fun x83 =>
           nm ((bits .u64 .xor (bits .u64 .and x65 x66) (bits .u64 .and x65 x67)):Int) fun x84 =>
           nm ((IntKind.wrap .u64 ((bits .u64 .xor (bits .u64 .xor x81 x82) x83)+(bits .u64 .xor x84 (bits .u64 .and x66 x67)))):Int) fun x85 =>
           fr03_Sum_l4 x32 x38 n4 (IntKind.wrap .u64 (x80+x85)) x65 x66 x67 (IntKind.wrap .u64 (x68+x80)) x69 x70 x71 (IntKind.wrap .i64 (x73+1))
       else none
      else none)
   (some (x65,x66,x67,x68,x69,x70,x71,x72))
def fr03_Sum_l5 (x33:List Int) (x57:Int) (x58:Int) (x59:Int) (x60:Int) (x61:Int) (x62:Int) (x63:Int) (x64:Int) (x86:Int):Nat->Int->(List Int)->Option ((List Int))
 |0,_,_=>none
 |n5+1,x88,x89 =>
  cond (decide (x88<x86))
   (if (0:Int)≤x88/\x88<((List.length [x57,x58,x59,x60,x61,x62,x63,x64]):Int) then
    nm ((List.getD [x57,x58,x59,x60,x61,x62,x63,x64] (Int.toNat x88) 0):Int) fun x90 =>
    if (0:Int)≤x88/\x88<((List.length x33):Int) then
     nm ((IntKind.wrap .u64 ((List.getD x89 (Int.toNat x88) 0)+x90)):Int) fun x91 =>
     if (0:Int)≤x88/\x88<((List.length x33):Int) then
      fr03_Sum_l5 x33 x57 x58 x59 x60 x61 x62 x63 x64 x86 n5 (IntKind.wrap .i64 (x88+1)) (List.set x89 (Int.toNat x88) x91)
     else none
    else none
   else none)
   (some x89)
def fr03_Sum_l1 (x32:List Int) (x33:List Int) (x34:List Int):Nat->Int->(List Int)->Option ((List Int))
 |0,_,_=>none
 |n1+1,x36,x37 =>
  cond (decide (x36<((List.length x34):Int)))
   (((fr03_Sum_l2 x34 x36 FUEL 0 (List.replicate 80 (0:Int)):Option ((List Int)))).bind fun x38 =>
    if (0:Int)<((List.length x33):Int) then
     if (1:Int)<((List.length x33):Int) then
      if (2:Int)<((List.length x33):Int) then
       if (3:Int)<((List.length x33):Int) then
        if (4:Int)<((List.length x33):Int) then
         if (5:Int)<((List.length x33):Int) then
          if (6:Int)<((List.length x33):Int) then
           if (7:Int)<((List.length x33):Int) then
            ((fr03_Sum_l4 x32 x38 FUEL (List.getD x37 0 0) (List.getD x37 1 0) (List.getD x37 2 0) (List.getD x37 3 0) (List.getD x37 4 0) (List.getD x37 5 0) (List.getD x37 6 0) (List.getD x37 7 0) 0:Option (Int×Int×Int×Int×Int×Int×Int×Int))).bind fun r5_2_64=>match r5_2_64 with
            |(x57,x58,x59,x60,x61,x62,x63,x64) =>
              nm (((List.length [x57,x58,x59,x60,x61,x62,x63,x64]):Int):Int) fun x86 =>
              ((fr03_Sum_l5 x33 x57 x58 x59 x60 x61 x62 x63 x64 x86 FUEL 0 x37:Option ((List Int)))).bind fun x87 =>
               fr03_Sum_l1 x32 x33 x34 n1 (IntKind.wrap .i64 (x36+128)) x87
           else none
          else none
         else none
        else none
       else none
      else none
     else none
    else none)
   (some x37)
def fr03_Sum_l7 (x35:List Int) (x93:Int):Nat->Int->(List Int)->Option ((List Int))
 |0,_,_=>none
 |n7+1,x96,x97 =>
  cond (decide (x96<8))
   (nm ((IntKind.wrap .u64 (IntKind.wrap .i64 (56-(IntKind.wrap .i64 (8*x96))))):Int) fun x98 =>
   if (0:Int)≤x98 then
    nm ((Int.fdiv (List.getD x35 (Int.toNat x93) 0) (2^(min (Int.toNat x98) (IntKind.bits .u64)))):Int) fun x99 =>
    if (0:Int)≤(IntKind.wrap .i64 ((IntKind.wrap .i64 (8*x93))+x96))/\(IntKind.wrap .i64 ((IntKind.wrap .i64 (8*x93))+x96))<64 then
     nm ((Int.toNat (IntKind.wrap .i64 ((IntKind.wrap .i64 (8*x93))+x96))):Nat) fun x100 =>
     fr03_Sum_l7 x35 x93 n7 (IntKind.wrap .i64 (x96+1)) (List.set x97 x100 (IntKind.wrap .u8 x99))
    else none
   else none)
   (some x97)
def fr03_Sum_l6 (x33:List Int) (x35:List Int):Nat->Int->(List Int)->Option ((List Int))
 |0,_,_=>none
 |n6+1,x93,x94 =>
  cond (decide (x93<((List.length x33):Int)))
   (if (0:Int)≤x93/\x93<((List.length x33):Int) then
    ((fr03_Sum_l7 x35 x93 FUEL 0 x94:Option ((List Int)))).bind fun x95 =>
     fr03_Sum_l6 x33 x35 n6 (IntKind.wrap .i64 (x93+1)) x95
   else none)
   (some x94)
def fr03_Sum (x31:List Int):Option ((List Int)) :=
 (fr03_constants).bind fun x32 =>
  nm ([7640891576956012808,13503953896175478587,4354685564936845355,11912009170470909681,5840696475078001361,11170449401992604703,2270897969802886507,6620516959819538809]:List Int) fun x33 =>
  (fr03_Padded x31).bind fun x34 =>
   ((fr03_Sum_l1 x32 x33 x34 FUEL 0 x33:Option ((List Int)))).bind fun x35 =>
    ((fr03_Sum_l6 x33 x35 FUEL 0 (List.replicate 64 (0:Int)):Option ((List Int)))).bind fun x92 =>
     some x92
def fr13_halves_l1 (x102:List Int):Nat->Int->(List Int)->(List Int)->Option ((List Int)×(List Int))
 |0,_,_,_=>none
 |n1+1,x105,x106,x107 =>
  cond (decide (x105<32))
   (if (0:Int)≤x105/\x105<64 then
    if (0:Int)≤(IntKind.wrap .i64 (32+x105))/\(IntKind.wrap .i64 (32+x105))<64 then
     nm ((List.getD x102 (Int.toNat (IntKind.wrap .i64 (32+x105))) 0):Int) fun x108 =>
     if (0:Int)≤x105/\x105<32 then
      nm ((List.set x106 (Int.toNat x105) (List.getD x102 (Int.toNat x105) 0)):List Int) fun x109 =>
      if (0:Int)≤x105/\x105<32 then
       fr13_halves_l1 x102 n1 (IntKind.wrap .i64 (x105+1)) x109 (List.set x107 (Int.toNat x105) x108)
      else none
     else none
    else none
   else none)
   (some (x106,x107))
def fr13_halves (x102:List Int):Option ((List Int)×(List Int)) :=
 ((fr13_halves_l1 x102 FUEL 0 (List.replicate 32 (0:Int)) (List.replicate 32 (0:Int)):Option ((List Int)×(List Int)))).bind fun r1_0_104=>match r1_0_104 with
 |(x103,x104) =>
   some (x103,x104)
def fr10_Clamp (x112:List Int):Option ((List Int)) :=
 nm ((IntKind.wrap .u8 ((IntKind.wrap .u8 (Int.tdiv (List.getD x112 0 0) 8))*8)):Int) fun x113 =>
 nm ((IntKind.wrap .u8 ((Int.tmod (List.getD (List.set x112 0 x113) 31 0) 64)+64)):Int) fun x114 =>
 some (List.set (List.set x112 0 x113) 31 x114)
def fr13_secret (x30:List Int):Option ((List Int)×(List Int)) :=
 (fr03_Sum (List.take 32 x30)).bind fun x31 =>
  (fr13_halves x31).bind fun r34=>match r34 with
  |(x32,x33) =>
    (fr10_Clamp x32).bind fun x34 =>
     some (x34,x33)
def fr09_BaseX:Option ((List Int)) :=
 nm ([2401621274,3377868128,2502272946,1764542304,4258716764,3232031281,3446559742,560543443]:List Int) fun x38 =>
 some x38
def fr09_BaseY:Option ((List Int)) :=
 nm ([1717986904,1717986918,1717986918,1717986918,1717986918,1717986918,1717986918,1717986918]:List Int) fun x40 =>
 some x40
def fr12_one:Option Unit :=
 some ()
def fr12_Base:Option T_fr12_Point :=
 (fr09_BaseX).bind fun x38 =>
  (fr09_BaseY).bind fun x39 =>
   (fr12_one).bind fun _ =>
    some ({ fX:=x38,fY:=x39,fZ:=(List.set (List.replicate 8 (0:Int)) 0 1) }:T_fr12_Point)
def fr09_Curve:Option ((List Int)) :=
 nm ([324630691,1978355146,1094834347,7342669,2004478104,2361868409,728759923,1375956206]:List Int) fun x43 =>
 some x43
def fr12_Zero:Option T_fr12_Point :=
 (fr12_one).bind fun _ =>
  (fr12_one).bind fun _ =>
   some ({ fX:=(List.replicate 8 (0:Int)),fY:=(List.set (List.replicate 8 (0:Int)) 0 1),fZ:=(List.set (List.replicate 8 (0:Int)) 0 1) }:T_fr12_Point)
def fr09_P:Option ((List Int)) :=
 nm ([4294967277,4294967295,4294967295,4294967295,4294967295,4294967295,4294967295,2147483647]:List Int) fun x58 =>
 some x58
def fr09_less_l1 (x60:List Int) (x61:List Int):Nat->Int->Option ((Unit⊕Bool))
 |0,_=>none
 |n1+1,x63 =>
  cond (decide (x63≥0))
   (if (0:Int)≤x63/\x63<8 then
    if (0:Int)≤x63/\x63<8 then
     nm ((!((List.getD x60 (Int.toNat x63) 0)==(List.getD x61 (Int.toNat x63) 0))):Bool) fun x64 =>
     cond x64
      (if (0:Int)≤x63/\x63<8 then
       if (0:Int)≤x63/\x63<8 then
        nm ((decide ((List.getD x60 (Int.toNat x63) 0)<(List.getD x61 (Int.toNat x63) 0))):Bool) fun x65 =>
        some (Sum.inr x65)
       else none
      else none)
      (fr09_less_l1 x60 x61 n1 (IntKind.wrap .i64 (x63-1)))
    else none
   else none)
   (some (Sum.inl ()))
def fr09_less (x60:List Int) (x61:List Int):Option Bool :=
 ((fr09_less_l1 x60 x61 FUEL 7:Option ((Unit⊕Bool)))).bind fun r1_0_62=>match r1_0_62 with
 |(Sum.inl ()) =>
   some false
 |(Sum.inr x62) =>
   some x62
def fr09_minus_l1 (x68:List Int) (x69:List Int):Nat->Int->Int->(List Int)->Option ((List Int))
 |0,_,_,_=>none
 |n1+1,x71,x72,x73 =>
  cond (decide (x72<8))
   (if (0:Int)≤x72/\x72<8 then
    nm ((IntKind.wrap .u64 ((IntKind.wrap .u64 (List.getD x68 (Int.toNat x72) 0))+4294967296)):Int) fun x74 =>
    if (0:Int)≤x72/\x72<8 then
     nm ((IntKind.wrap .u64 (x74-(IntKind.wrap .u64 (List.getD x69 (Int.toNat x72) 0)))):Int) fun x75 =>
     if (0:Int)≤x72/\x72<8 then
      nm ((List.set x73 (Int.toNat x72) (IntKind.wrap .u32 (IntKind.wrap .u64 (x75-x71)))):List Int) fun x76 =>
      nm ((IntKind.wrap .u64 (1-(Int.fdiv (IntKind.wrap .u64 (x75-x71)) (2^32)))):Int) fun x77 =>
      fr09_minus_l1 x68 x69 n1 x77 (IntKind.wrap .i64 (x72+1)) x76
     else none
    else none
   else none)
   (some x73)
def fr09_minus (x68:List Int) (x69:List Int):Option ((List Int)) :=
 ((fr09_minus_l1 x68 x69 FUEL 0 0 (List.replicate 8 (0:Int)):Option ((List Int)))).bind fun x70 =>
  some x70
def fr09_Least_l1:Nat->(List Int)->Option ((List Int))
 |0,_=>none
 |n1+1,x59 =>
  (fr09_P).bind fun x60 =>
   (fr09_less x59 x60).bind fun x61 =>
    cond (!x61)
     ((fr09_P).bind fun x62 =>
      (fr09_minus x59 x62).bind fun x63 =>
       fr09_Least_l1 n1 x63)
     (some x59)
def fr09_Least (x57:List Int):Option ((List Int)) :=
 ((fr09_Least_l1 FUEL x57:Option ((List Int)))).bind fun x58 =>
  some x58
def fr09_fold_l1 (x52:List Int):Nat->Int->Int->(List Int)->Option (Int×(List Int))
 |0,_,_,_=>none
 |n1+1,x55,x56,x57 =>
  cond (decide (x56<8))
   (if (0:Int)≤x56/\x56<16 then
    if (0:Int)≤(IntKind.wrap .i64 (8+x56))/\(IntKind.wrap .i64 (8+x56))<16 then
     nm ((IntKind.wrap .u64 (List.getD x52 (Int.toNat (IntKind.wrap .i64 (8+x56))) 0)):Int) fun x58 =>
     nm ((IntKind.wrap .u64 ((IntKind.wrap .u64 (List.getD x52 (Int.toNat x56) 0))+(IntKind.wrap .u64 (38*x58)))):Int) fun x59 =>
     if (0:Int)≤x56/\x56<8 then
      nm ((List.set x57 (Int.toNat x56) (IntKind.wrap .u32 (IntKind.wrap .u64 (x59+x55)))):List Int) fun x60 =>
      fr09_fold_l1 x52 n1 (Int.fdiv (IntKind.wrap .u64 (x59+x55)) (2^32)) (IntKind.wrap .i64 (x56+1)) x60
     else none
    else none
   else none)
   (some (x55,x57))
def fr09_fold_l3:Nat->Int->Int->(List Int)->Option (Int×(List Int))
 |0,_,_,_=>none
 |n3+1,x67,x68,x69 =>
  cond (decide (x68<8))
   (if (0:Int)≤x68/\x68<8 then
    nm ((IntKind.wrap .u64 (x67+(IntKind.wrap .u64 (List.getD x69 (Int.toNat x68) 0)))):Int) fun x70 =>
    if (0:Int)≤x68/\x68<8 then
     fr09_fold_l3 n3 (Int.fdiv x70 (2^32)) (IntKind.wrap .i64 (x68+1)) (List.set x69 (Int.toNat x68) (IntKind.wrap .u32 x70))
    else none
   else none)
   (some (x67,x69))
def fr09_fold_l2:Nat->Int->(List Int)->Option (Int×(List Int))
 |0,_,_=>none
 |n2+1,x63,x64 =>
  cond (decide (x63>0))
   (((fr09_fold_l3 FUEL (IntKind.wrap .u64 (x63*38)) 0 x64:Option (Int×(List Int)))).bind fun r3_1_66=>match r3_1_66 with
   |(x65,x66) =>
     fr09_fold_l2 n2 x65 x66)
   (some (x63,x64))
def fr09_fold (x52:List Int):Option ((List Int)) :=
 ((fr09_fold_l1 x52 FUEL 0 0 (List.replicate 8 (0:Int)):Option (Int×(List Int)))).bind fun r1_0_54=>match r1_0_54 with
 |(x53,x54) =>
   ((fr09_fold_l2 FUEL x53 x54:Option (Int×(List Int)))).bind fun r2_1_62=>match r2_1_62 with
   |(x61,x62) =>
     (fr09_Least x62).bind fun x71 =>
      some x71
def fr09_Times_l2 (x49:List Int) (x50:List Int) (x52:Int):Nat->Int->Int->(List Int)->Option (Int×(List Int))
 |0,_,_,_=>none
 |n2+1,x56,x57,x58 =>
  cond (decide (x57<8))
   (if (0:Int)≤x52/\x52<8 then
    if (0:Int)≤x57/\x57<8 then
     nm ((IntKind.wrap .u64 ((IntKind.wrap .u64 (List.getD x49 (Int.toNat x52) 0))*(IntKind.wrap .u64 (List.getD x50 (Int.toNat x57) 0)))):Int) fun x59 =>
     if (0:Int)≤(IntKind.wrap .i64 (x52+x57))/\(IntKind.wrap .i64 (x52+x57))<16 then
      nm ((List.getD x58 (Int.toNat (IntKind.wrap .i64 (x52+x57))) 0):Int) fun x60 =>
      nm ((IntKind.wrap .u64 ((IntKind.wrap .u64 (x59+(IntKind.wrap .u64 x60)))+x56)):Int) fun x61 =>
      if (0:Int)≤(IntKind.wrap .i64 (x52+x57))/\(IntKind.wrap .i64 (x52+x57))<16 then
       nm ((List.set x58 (Int.toNat (IntKind.wrap .i64 (x52+x57))) (IntKind.wrap .u32 x61)):List Int) fun x62 =>
       fr09_Times_l2 x49 x50 x52 n2 (Int.fdiv x61 (2^32)) (IntKind.wrap .i64 (x57+1)) x62
      else none
     else none
    else none
   else none)
   (some (x56,x58))
def fr09_Times_l1 (x49:List Int) (x50:List Int):Nat->Int->(List Int)->Option ((List Int))
 |0,_,_=>none
 |n1+1,x52,x53 =>
  cond (decide (x52<8))
   (((fr09_Times_l2 x49 x50 x52 FUEL 0 0 x53:Option (Int×(List Int)))).bind fun r2_0_55=>match r2_0_55 with
   |(x54,x55) =>
     if (0:Int)≤(IntKind.wrap .i64 (x52+8))/\(IntKind.wrap .i64 (x52+8))<16 then
      nm ((List.set x55 (Int.toNat (IntKind.wrap .i64 (x52+8))) (IntKind.wrap .u32 x54)):List Int) fun x63 =>
      fr09_Times_l1 x49 x50 n1 (IntKind.wrap .i64 (x52+1)) x63
     else none)
   (some x53)
def fr09_Times (x49:List Int) (x50:List Int):Option ((List Int)) :=
 ((fr09_Times_l1 x49 x50 FUEL 0 (List.replicate 16 (0:Int)):Option ((List Int)))).bind fun x51 =>
  (fr09_fold x51).bind fun x64 =>
   some x64
def fr09_Add_l1 (x71:List Int) (x72:List Int):Nat->Int->Int->(List Int)->Option (Int×(List Int))
 |0,_,_,_=>none
 |n1+1,x75,x76,x77 =>
  cond (decide (x76<8))
   (if (0:Int)≤x76/\x76<8 then
    if (0:Int)≤x76/\x76<8 then
     nm ((IntKind.wrap .u64 ((IntKind.wrap .u64 (List.getD x71 (Int.toNat x76) 0))+(IntKind.wrap .u64 (List.getD x72 (Int.toNat x76) 0)))):Int) fun x78 =>
     if (0:Int)≤x76/\x76<16 then
      nm ((List.set x77 (Int.toNat x76) (IntKind.wrap .u32 (IntKind.wrap .u64 (x78+x75)))):List Int) fun x79 =>
      fr09_Add_l1 x71 x72 n1 (Int.fdiv (IntKind.wrap .u64 (x78+x75)) (2^32)) (IntKind.wrap .i64 (x76+1)) x79
     else none
    else none
   else none)
   (some (x75,x77))
def fr09_Add (x71:List Int) (x72:List Int):Option ((List Int)) :=
 ((fr09_Add_l1 x71 x72 FUEL 0 0 (List.replicate 16 (0:Int)):Option (Int×(List Int)))).bind fun r1_0_74=>match r1_0_74 with
 |(x73,x74) =>
   (fr09_fold (List.set x74 8 (IntKind.wrap .u32 x73))).bind fun x80 =>
    some x80
def fr09_Sub (x82:List Int) (x83:List Int):Option ((List Int)) :=
 (fr09_P).bind fun x84 =>
  (fr09_Least x83).bind fun x85 =>
   (fr09_minus x84 x85).bind fun x86 =>
    (fr09_Add x82 x86).bind fun x87 =>
     some x87
def fr12_Sum (x46:T_fr12_Point) (x47:T_fr12_Point) (x48:List Int):Option T_fr12_Point :=
 (fr09_Times x46.fZ x47.fZ).bind fun x49 =>
  (fr09_Times x49 x49).bind fun x50 =>
   (fr09_Times x46.fX x47.fX).bind fun x51 =>
    (fr09_Times x46.fY x47.fY).bind fun x52 =>
     (fr09_Times x51 x52).bind fun x53 =>
      (fr09_Times x48 x53).bind fun x54 =>
       (fr09_Add x50 x54).bind fun x55 =>
        (fr09_Sub x50 x54).bind fun x56 =>
         (fr09_Times x46.fX x47.fY).bind fun x57 =>
          (fr09_Times x47.fX x46.fY).bind fun x58 =>
           (fr09_Add x57 x58).bind fun x59 =>
            (fr09_Times x49 x59).bind fun x60 =>
             (fr09_Times x60 x56).bind fun x61 =>
              (fr09_Add x52 x51).bind fun x62 =>
               (fr09_Times x49 x62).bind fun x63 =>
                (fr09_Times x63 x55).bind fun x64 =>
                 (fr09_Times x55 x56).bind fun x65 =>
                  some ({ fX:=x61,fY:=x64,fZ:=x65 }:T_fr12_Point)
def fr12_Times_l1 (x41:T_fr12_Point) (x42:List Int) (x43:List Int):Nat->Int->T_fr12_Point->Option T_fr12_Point
 |0,_,_=>none
 |n1+1,x46,x47 =>
  cond (decide (x46≥0))
   ((fr12_Sum x47 x47 x43).bind fun x48 =>
    if (0:Int)≤(IntKind.wrap .i64 (Int.tdiv x46 8))/\(IntKind.wrap .i64 (Int.tdiv x46 8))<32 then
     nm ((List.getD x42 (Int.toNat (IntKind.wrap .i64 (Int.tdiv x46 8))) 0):Int) fun x49 =>
     if (0:Int)≤(IntKind.wrap .u64 (Int.tmod x46 8)) then
      nm ((Int.fdiv x49 (2^(min (Int.toNat (IntKind.wrap .u64 (Int.tmod x46 8))) (IntKind.bits .u8)))):Int) fun x50 =>
      ((cond ((bits .u8 .and x50 1)==1)
       ((fr12_Sum x48 x41 x43).bind fun x52 =>
        some x52)
       (some x48):Option T_fr12_Point)).bind fun x51 =>
       fr12_Times_l1 x41 x42 x43 n1 (IntKind.wrap .i64 (x46-1)) x51
     else none
    else none)
   (some x47)
def fr12_Times (x41:T_fr12_Point) (x42:List Int):Option T_fr12_Point :=
 (fr09_Curve).bind fun x43 =>
  (fr12_Zero).bind fun x44 =>
   ((fr12_Times_l1 x41 x42 x43 FUEL 255 x44:Option T_fr12_Point)).bind fun x45 =>
    some x45
def fr09_Power_l1 (x58:List Int) (x59:List Int):Nat->Int->(List Int)->Option ((List Int))
 |0,_,_=>none
 |n1+1,x61,x62 =>
  cond (decide (x61≥0))
   ((fr09_Times x62 x62).bind fun x63 =>
    if (0:Int)≤(IntKind.wrap .i64 (Int.tdiv x61 32))/\(IntKind.wrap .i64 (Int.tdiv x61 32))<8 then
     nm ((List.getD x59 (Int.toNat (IntKind.wrap .i64 (Int.tdiv x61 32))) 0):Int) fun x64 =>
     if (0:Int)≤(IntKind.wrap .u64 (Int.tmod x61 32)) then
      nm ((Int.fdiv x64 (2^(min (Int.toNat (IntKind.wrap .u64 (Int.tmod x61 32))) (IntKind.bits .u32)))):Int) fun x65 =>
      ((cond ((bits .u32 .and x65 1)==1)
       ((fr09_Times x63 x58).bind fun x67 =>
        some x67)
       (some x63):Option ((List Int)))).bind fun x66 =>
       fr09_Power_l1 x58 x59 n1 (IntKind.wrap .i64 (x61-1)) x66
     else none
    else none)
   (some x62)
def fr09_Power (x58:List Int) (x59:List Int):Option ((List Int)) :=
 ((fr09_Power_l1 x58 x59 FUEL 255 (List.set (List.replicate 8 (0:Int)) 0 1):Option ((List Int)))).bind fun x60 =>
  some x60
def fr09_Invert (x55:List Int):Option ((List Int)) :=
 (fr09_P).bind fun x56 =>
  (fr09_minus x56 (List.set (List.replicate 8 (0:Int)) 0 2)).bind fun x57 =>
   (fr09_Power x55 x57).bind fun x58 =>
    some x58
def fr09_Bytes_l1 (x62:List Int):Nat->Int->(List Int)->Option ((List Int))
 |0,_,_=>none
 |n1+1,x64,x65 =>
  cond (decide (x64<32))
   (if (0:Int)≤(IntKind.wrap .i64 (Int.tdiv x64 4))/\(IntKind.wrap .i64 (Int.tdiv x64 4))<8 then
    nm ((List.getD x62 (Int.toNat (IntKind.wrap .i64 (Int.tdiv x64 4))) 0):Int) fun x66 =>
    nm ((IntKind.wrap .u64 (IntKind.wrap .i64 (8*(Int.tmod x64 4)))):Int) fun x67 =>
    if (0:Int)≤x67 then
     nm ((Int.fdiv x66 (2^(min (Int.toNat x67) (IntKind.bits .u32)))):Int) fun x68 =>
     if (0:Int)≤x64/\x64<32 then
      fr09_Bytes_l1 x62 n1 (IntKind.wrap .i64 (x64+1)) (List.set x65 (Int.toNat x64) (IntKind.wrap .u8 x68))
     else none
    else none
   else none)
   (some x65)
def fr09_Bytes (x62:List Int):Option ((List Int)) :=
 ((fr09_Bytes_l1 x62 FUEL 0 (List.replicate 32 (0:Int)):Option ((List Int)))).bind fun x63 =>
  some x63
def fr12_Bytes (x54:T_fr12_Point):Option ((List Int)) :=
 (fr09_Invert x54.fZ).bind fun x55 =>
  (fr09_Times x54.fX x55).bind fun x56 =>
   (fr09_Times x54.fY x55).bind fun x57 =>
    (fr09_Bytes x57).bind fun x58 =>
     ((cond ((Int.tmod (List.getD x56 0 0) 2)==1)
      (nm ((List.set x58 31 (IntKind.wrap .u8 ((List.getD x58 31 0)+128))):List Int) fun x60 =>
      some x60)
      (some x58):Option ((List Int)))).bind fun x59 =>
      some x59
def fr13_base (x37:List Int):Option ((List Int)) :=
 (fr12_Base).bind fun x38 =>
  (fr12_Times x38 x37).bind fun x39 =>
   (fr12_Bytes x39).bind fun x40 =>
    some x40
def fr13_Public (x29:List Int):Option ((List Int)) :=
 (fr13_secret x29).bind fun r32=>match r32 with
 |(x30,x31) =>
   (fr13_base x30).bind fun x32 =>
    some x32
def fr11_modulus:Option ((List Int)) :=
 nm ([16,0,0,0,0,0,0,0,0,0,0,0,0,0,0,0,20,222,249,222,162,247,156,214,88,18,99,26,92,245,211,237]:List Int) fun x41 =>
 some x41
def fr11_less_l1 (x47:List Int) (x48:List Int):Nat->Int->Option ((Unit⊕Bool))
 |0,_=>none
 |n1+1,x50 =>
  cond (decide (x50<(List.length x47:Int)))
   (if (0:Int)≤x50/\x50<(List.length x47:Int) then
    if (0:Int)≤x50/\x50<((List.length ([0]++x48)):Int) then
     nm ((!((List.getD x47 (Int.toNat x50) 0)==(List.getD ([0]++x48) (Int.toNat x50) 0))):Bool) fun x51 =>
     cond x51
      (if (0:Int)≤x50/\x50<(List.length x47:Int) then
       if (0:Int)≤x50/\x50<((List.length ([0]++x48)):Int) then
        nm ((decide ((List.getD x47 (Int.toNat x50) 0)<(List.getD ([0]++x48) (Int.toNat x50) 0))):Bool) fun x52 =>
        some (Sum.inr x52)
       else none
      else none)
      (fr11_less_l1 x47 x48 n1 (IntKind.wrap .i64 (x50+1)))
    else none
   else none)
   (some (Sum.inl ()))
def fr11_less (x47:List Int):Option Bool :=
 (fr11_modulus).bind fun x48 =>
  if (((List.length [0]):Int)+(List.length x48))*8≤140737488355328 then
   ((fr11_less_l1 x47 x48 FUEL 0:Option ((Unit⊕Bool)))).bind fun r1_0_49=>match r1_0_49 with
   |(Sum.inl ()) =>
     some false
   |(Sum.inr x49) =>
     some x49
  else none
def fr11_Mod_l3 (x41:List Int):Nat->Int->Int->(List Int)->Option ((List Int))
 |0,_,_,_=>none
 |n3+1,x55,x56,x57 =>
  cond (decide (x56≥0))
   (if (0:Int)≤x56/\x56<((List.length x57):Int) then
    if (0:Int)≤x56/\x56<((List.length ([0]++x41)):Int) then
     nm ((IntKind.wrap .i64 ((List.getD x57 (Int.toNat x56) 0)-(List.getD ([0]++x41) (Int.toNat x56) 0))):Int) fun x58 =>
     ((cond (decide ((IntKind.wrap .i64 (x58-x55))<0))
      (some (1,(IntKind.wrap .i64 ((IntKind.wrap .i64 (x58-x55))+256))))
      (some (0,(IntKind.wrap .i64 (x58-x55)))):Option (Int×Int))).bind fun r4_0_60=>match r4_0_60 with
     |(x59,x60) =>
       if (0:Int)≤x56/\x56<((List.length x57):Int) then
        fr11_Mod_l3 x41 n3 x59 (IntKind.wrap .i64 (x56-1)) (List.set x57 (Int.toNat x56) x60)
       else none
    else none
   else none)
   (some x57)
def fr11_Mod_l2 (x41:List Int):Nat->(List Int)->Option ((List Int))
 |0,_=>none
 |n2+1,x52 =>
  (fr11_less x52).bind fun x53 =>
   cond (!x53)
    (((fr11_Mod_l3 x41 FUEL 0 32 x52:Option ((List Int)))).bind fun x54 =>
     fr11_Mod_l2 x41 n2 x54)
    (some x52)
def fr11_Mod_l1 (x40:List Int) (x41:List Int):Nat->Nat->Int->(List Int)->Option ((Unit⊕(Nat×(List Int))))
 |0,_,_,_=>none
 |n1+1,x46,x47,x48 =>
  cond (decide (x47≥0))
   (if (0:Int)≤1/\1≤(x46:Int) then
    if (((List.length ([]:List Int)):Int)+(List.length (List.take (Int.toNat ((x46:Int)-1)) (List.drop 1 x48))))*8≤140737488355328 then
     nm ((([]:List Int)++(List.take (Int.toNat ((x46:Int)-1)) (List.drop 1 x48))):List Int) fun x49 =>
     if (0:Int)≤x47/\x47<(List.length x40:Int) then
      if (((List.length x49):Int)+(List.length [(IntKind.wrap .i64 (List.getD x40 (Int.toNat x47) 0))]))*8≤140737488355328 then
       nm ((x49++[(IntKind.wrap .i64 (List.getD x40 (Int.toNat x47) 0))]):List Int) fun x50 =>
       ((fr11_Mod_l2 x41 FUEL x50:Option ((List Int)))).bind fun x51 =>
        fr11_Mod_l1 x40 x41 n1 (List.length x51) (IntKind.wrap .i64 (x47-1)) x51
      else none
     else none
    else none
   else none)
   (some (Sum.inr (x46,x48)))
def fr11_Mod_l4:Nat->Int->(List Int)->Option ((List Int))
 |0,_,_=>none
 |n4+1,x62,x63 =>
  cond (decide (x62<32))
   (if (0:Int)≤(IntKind.wrap .i64 (32-x62))/\(IntKind.wrap .i64 (32-x62))<((List.length (List.replicate 33 (0:Int))):Int) then
    nm ((List.getD (List.replicate 33 (0:Int)) (Int.toNat (IntKind.wrap .i64 (32-x62))) 0):Int) fun x64 =>
    if (0:Int)≤x62/\x62<32 then
     fr11_Mod_l4 n4 (IntKind.wrap .i64 (x62+1)) (List.set x63 (Int.toNat x62) (IntKind.wrap .u8 x64))
    else none
   else none)
   (some x63)
def fr11_Mod_l5 (x42:Nat) (x43:List Int):Nat->Int->(List Int)->Option ((List Int))
 |0,_,_=>none
 |n5+1,x66,x67 =>
  cond (decide (x66<32))
   (if (0:Int)≤(IntKind.wrap .i64 (32-x66))/\(IntKind.wrap .i64 (32-x66))<(x42:Int) then
    nm ((IntKind.wrap .u8 (List.getD x43 (Int.toNat (IntKind.wrap .i64 (32-x66))) 0)):Int) fun x68 =>
    if (0:Int)≤x66/\x66<32 then
     fr11_Mod_l5 x42 x43 n5 (IntKind.wrap .i64 (x66+1)) (List.set x67 (Int.toNat x66) x68)
    else none
   else none)
   (some x67)
def fr11_Mod (x40:List Int):Option ((List Int)) :=
 (fr11_modulus).bind fun x41 =>
  if (((List.length [0]):Int)+(List.length x41))*8≤140737488355328 then
   ((fr11_Mod_l1 x40 x41 FUEL (List.length (List.replicate 33 (0:Int))) (IntKind.wrap .i64 ((List.length x40:Int)-1)) (List.replicate 33 (0:Int)):Option ((Unit⊕(Nat×(List Int)))))).bind fun r1_0_43=>match r1_0_43 with
   |(Sum.inl ()) =>
     ((fr11_Mod_l4 FUEL 0 (List.replicate 32 (0:Int)):Option ((List Int)))).bind fun x61 =>
      some x61
   |(Sum.inr (x42,x43)) =>
     ((fr11_Mod_l5 x42 x43 FUEL 0 (List.replicate 32 (0:Int)):Option ((List Int)))).bind fun x65 =>
      some x65
  else none
def fr13_hash (x38:List Int):Option ((List Int)) :=
 (fr03_Sum x38).bind fun x39 =>
  (fr11_Mod (List.take 64 x39)).bind fun x40 =>
   some x40
def fr13_challenge (x44:List Int) (x45:List Int) (x46:List Int):Option ((List Int)) :=
 if (((List.length ([]:List Int)):Int)+(List.length (List.take 32 x44)))*1≤140737488355328 then
  if (((List.length (([]:List Int)++(List.take 32 x44))):Int)+(List.length (List.take 32 x45)))*1≤140737488355328 then
   nm (((([]:List Int)++(List.take 32 x44))++(List.take 32 x45)):List Int) fun x47 =>
   if (((List.length x47):Int)+(List.length x46))*1≤140737488355328 then
    (fr13_hash (x47++x46)).bind fun x48 =>
     some x48
   else none
  else none
 else none
def fr11_Times_l2 (x50:List Int) (x51:List Int) (x57:Int):Nat->Int->(List Int)->Option ((List Int))
 |0,_,_=>none
 |n2+1,x60,x61 =>
  cond (decide (x60<32))
   (if (0:Int)≤(IntKind.wrap .i64 (x57+x60))/\(IntKind.wrap .i64 (x57+x60))<((List.length (List.replicate 65 (0:Int))):Int) then
    nm ((List.getD x61 (Int.toNat (IntKind.wrap .i64 (x57+x60))) 0):Int) fun x62 =>
    if (0:Int)≤x57/\x57<32 then
     if (0:Int)≤x60/\x60<32 then
      nm ((IntKind.wrap .i64 ((IntKind.wrap .i64 (List.getD x50 (Int.toNat x57) 0))*(IntKind.wrap .i64 (List.getD x51 (Int.toNat x60) 0)))):Int) fun x63 =>
      if (0:Int)≤(IntKind.wrap .i64 (x57+x60))/\(IntKind.wrap .i64 (x57+x60))<((List.length (List.replicate 65 (0:Int))):Int) then
       nm ((List.set x61 (Int.toNat (IntKind.wrap .i64 (x57+x60))) (IntKind.wrap .i64 (x62+x63))):List Int) fun x64 =>
       fr11_Times_l2 x50 x51 x57 n2 (IntKind.wrap .i64 (x60+1)) x64
      else none
     else none
    else none
   else none)
   (some x61)
def fr11_Times_l1 (x50:List Int) (x51:List Int):Nat->Int->(List Int)->Option (Nat×Nat×(List Int))
 |0,_,_=>none
 |n1+1,x57,x58 =>
  cond (decide (x57<32))
   (((fr11_Times_l2 x50 x51 x57 FUEL 0 x58:Option ((List Int)))).bind fun x59 =>
    fr11_Times_l1 x50 x51 n1 (IntKind.wrap .i64 (x57+1)) x59)
   (some ((List.length (List.replicate 65 (0:Int))),(List.length (List.replicate 65 (0:Int))),x58))
def fr11_Times_l3 (x52:Nat) (x54:List Int):Nat->Int->Int->(List Int)->Option ((Unit⊕(List Int)))
 |0,_,_,_=>none
 |n3+1,x66,x67,x68 =>
  cond (decide (x67<(x52:Int)))
   (if (0:Int)≤x67/\x67<(x52:Int) then
    nm ((IntKind.wrap .i64 (x66+(List.getD x54 (Int.toNat x67) 0))):Int) fun x69 =>
    if (((List.length x68):Int)+(List.length [(IntKind.wrap .u8 (Int.tmod x69 256))]))*1≤140737488355328 then
     fr11_Times_l3 x52 x54 n3 (IntKind.wrap .i64 (Int.tdiv x69 256)) (IntKind.wrap .i64 (x67+1)) (x68++[(IntKind.wrap .u8 (Int.tmod x69 256))])
    else none
   else none)
   (some (Sum.inr x68))
def fr11_Times (x50:List Int) (x51:List Int):Option ((List Int)) :=
 ((fr11_Times_l1 x50 x51 FUEL 0 (List.replicate 65 (0:Int)):Option (Nat×Nat×(List Int)))).bind fun r1_0_54=>match r1_0_54 with
 |(x52,x53,x54) =>
   ((fr11_Times_l3 x52 x54 FUEL 0 0 ([]:List Int):Option ((Unit⊕(List Int))))).bind fun r3_2_65=>match r3_2_65 with
   |(Sum.inl ()) =>
     (fr11_Mod ([]:List Int)).bind fun x70 =>
      some x70
   |(Sum.inr x65) =>
     (fr11_Mod x65).bind fun x71 =>
      some x71
def fr11_Add_l1 (x73:List Int) (x74:List Int):Nat->Int->Int->(List Int)->Option (Int×(List Int))
 |0,_,_,_=>none
 |n1+1,x77,x78,x79 =>
  cond (decide (x78<32))
   (if (0:Int)≤x78/\x78<32 then
    if (0:Int)≤x78/\x78<32 then
     nm ((IntKind.wrap .i64 ((IntKind.wrap .i64 (List.getD x73 (Int.toNat x78) 0))+(IntKind.wrap .i64 (List.getD x74 (Int.toNat x78) 0)))):Int) fun x80 =>
     nm ((IntKind.wrap .u8 (Int.tmod (IntKind.wrap .i64 (x77+x80)) 256)):Int) fun x81 =>
     if (((List.length x79):Int)+(List.length [x81]))*1≤140737488355328 then
      nm ((IntKind.wrap .i64 (Int.tdiv (IntKind.wrap .i64 (x77+x80)) 256)):Int) fun x82 =>
      fr11_Add_l1 x73 x74 n1 x82 (IntKind.wrap .i64 (x78+1)) (x79++[x81])
     else none
    else none
   else none)
   (some (x77,x79))
def fr11_Add (x73:List Int) (x74:List Int):Option ((List Int)) :=
 ((fr11_Add_l1 x73 x74 FUEL 0 0 ([]:List Int):Option (Int×(List Int)))).bind fun r1_0_76=>match r1_0_76 with
 |(x75,x76) =>
   if (((List.length x76):Int)+(List.length [(IntKind.wrap .u8 x75)]))*1≤140737488355328 then
    (fr11_Mod (x76++[(IntKind.wrap .u8 x75)])).bind fun x83 =>
     some x83
   else none
def fr13_Sign_l1 (x39:List Int) (x43:List Int):Nat->Int->(List Int)->Option ((List Int))
 |0,_,_=>none
 |n1+1,x45,x46 =>
  cond (decide (x45<32))
   (if (0:Int)≤x45/\x45<32 then
    if (0:Int)≤x45/\x45<32 then
     if (0:Int)≤x45/\x45<64 then
      nm ((List.set x46 (Int.toNat x45) (List.getD x39 (Int.toNat x45) 0)):List Int) fun x47 =>
      if (0:Int)≤(IntKind.wrap .i64 (32+x45))/\(IntKind.wrap .i64 (32+x45))<64 then
       nm ((List.set x47 (Int.toNat (IntKind.wrap .i64 (32+x45))) (List.getD x43 (Int.toNat x45) 0)):List Int) fun x48 =>
       fr13_Sign_l1 x39 x43 n1 (IntKind.wrap .i64 (x45+1)) x48
      else none
     else none
    else none
   else none)
   (some x46)
def fr13_Sign (x34:List Int) (x35:List Int):Option ((List Int)) :=
 (fr13_secret x34).bind fun r48=>match r48 with
 |(x36,x37) =>
   if (((List.length ([]:List Int)):Int)+(List.length (List.take 32 x37)))*1≤140737488355328 then
    if (((List.length (([]:List Int)++(List.take 32 x37))):Int)+(List.length x35))*1≤140737488355328 then
     (fr13_hash ((([]:List Int)++(List.take 32 x37))++x35)).bind fun x38 =>
      (fr13_base x38).bind fun x39 =>
       (fr13_base x36).bind fun x40 =>
        (fr13_challenge x39 x40 x35).bind fun x41 =>
         (fr11_Times x41 x36).bind fun x42 =>
          (fr11_Add x38 x42).bind fun x43 =>
           ((fr13_Sign_l1 x39 x43 FUEL 0 (List.replicate 64 (0:Int)):Option ((List Int)))).bind fun x44 =>
            some x44
    else none
   else none
def slices_Concat_byte_byte_7 (x57:Nat) (x58:List Int):Option ((List Int)) :=
 ((cond (decide ((IntKind.wrap .i64 (0+(x57:Int)))<0))
  (none)
  (some ()):Option Unit)).bind fun _ =>
  (slices_Grow_byte_byte_2 (IntKind.wrap .i64 (0+(x57:Int)))).bind fun r60=>match r60 with
  |(x59,x60) =>
    ((if ((x59:Int)+(List.length (List.take x57 x58)))*1≤140737488355328 then
     if x59≤(List.length x60) then
      some ()
     else none
    else none:Option Unit)).bind fun _ =>
     some ((List.take x59 x60)++(List.take x57 x58))
def sign_Verify_2 (x51:List Int) (x52:List Int) (x53:Nat) (x54:List Int):Option Bool :=
 if 32≤(List.length (List.take 32 (List.drop 32 x52))) then
  (points_Read x51).bind fun r63=>match r63 with
  |(Sum.inl x55) =>
    (scalar_Right (List.take 32 (List.take 32 (List.drop 32 x52)))).bind fun x56 =>
     cond (!x56)
      (some false)
      ((slices_Concat_byte_byte_7 x53 x54).bind fun x57 =>
       (sign_hash_3 32 32 (List.length x57) x52 x51 x57).bind fun x58 =>
        (points_Point_Negate x55).bind fun x59 =>
         (points_Point_With x59 x58 (List.take 32 (List.take 32 (List.drop 32 x52)))).bind fun x60 =>
          (points_Point_Bytes x60).bind fun x61 =>
           (words_Equal (List.take 32 x61) (List.take 32 x52)).bind fun x62 =>
            some x62)
  |(Sum.inr x63) =>
    some false
 else none
def fl13_SignSigns (x1:List Int) (x2:List Int) (x3:List Int):Option Bool :=
 (fl13_alive).bind fun x4 =>
  cond (!x4)
   (some false)
   (cond (decide ((List.length x2:Int)>300))
    (some true)
    (cond (decide ((List.length x3:Int)>300))
     (some true)
     (if (((List.length ([]:List Int)):Int)+(List.length x2))*1≤140737488355328 then
      if (((List.length (([]:List Int)++x2)):Int)+(List.length x3))*1≤140737488355328 then
       (sign_Sign_2 x1 [x2,x3]).bind fun x5 =>
        (sign_Public x1).bind fun x6 =>
         (fr13_Public x1).bind fun x7 =>
          cond (x6==x7)
           ((fr13_Sign x1 ((([]:List Int)++x2)++x3)).bind fun x8 =>
            cond (x5==x8)
             ((sign_Public x1).bind fun x9 =>
              (sign_Verify_2 x9 x5 (List.length ((([]:List Int)++x2)++x3)) ((([]:List Int)++x2)++x3)).bind fun x10 =>
               some x10)
             (some false))
           (some false)
      else none
     else none)))
def fr09_half_l1 (x56:List Int):Nat->Int->(List Int)->Option ((List Int))
 |0,_,_=>none
 |n1+1,x58,x59 =>
  cond (decide (x58<8))
   (if (0:Int)≤x58/\x58<8 then
    if (0:Int)≤x58/\x58<8 then
     nm ((List.set x59 (Int.toNat x58) (Int.fdiv (List.getD x56 (Int.toNat x58) 0) (2^1))):List Int) fun x60 =>
     ((cond (decide (x58<7))
      (if (0:Int)≤x58/\x58<8 then
       if (0:Int)≤(IntKind.wrap .i64 (x58+1))/\(IntKind.wrap .i64 (x58+1))<8 then
        nm ((Int.tmod (List.getD x56 (Int.toNat (IntKind.wrap .i64 (x58+1))) 0) 2):Int) fun x62 =>
        nm ((IntKind.wrap .u32 ((List.getD x60 (Int.toNat x58) 0)+(IntKind.wrap .u32 (x62*2147483648)))):Int) fun x63 =>
        if (0:Int)≤x58/\x58<8 then
         some (List.set x60 (Int.toNat x58) x63)
        else none
       else none
      else none)
      (some x60):Option ((List Int)))).bind fun x61 =>
      fr09_half_l1 x56 n1 (IntKind.wrap .i64 (x58+1)) x61
    else none
   else none)
   (some x59)
def fr09_half (x56:List Int):Option ((List Int)) :=
 ((fr09_half_l1 x56 FUEL 0 (List.replicate 8 (0:Int)):Option ((List Int)))).bind fun x57 =>
  some x57
end
end Go.Eng
