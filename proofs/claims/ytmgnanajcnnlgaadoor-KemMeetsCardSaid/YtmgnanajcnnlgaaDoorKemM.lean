/-
  Part of a proof: KemM.
-/
import Derived.Test.YtmgnanajcnnlgaaDoorIss
set_option linter.unusedVariables false
set_option linter.unusedSimpArgs false
set_option linter.unusedVariables false
set_option linter.unusedSimpArgs false
namespace Go.Eng
open Go.Proofs
set_option maxRecDepth 100000
set_option maxHeartbeats 4000000
section
variable (er : Nat -> ErrV)
def tb_sha_constants : List Int := [1116352408, 1899447441, 3049323471, 3921009573, 961987163, 1508970993, 2453635748, 2870763221, 3624381080, 310598401, 607225278, 1426881987, 1925078388, 2162078206, 2614888103, 3248222580, 3835390401, 4022224774, 264347078, 604807628, 770255983, 1249150122, 1555081692, 1996064986, 2554220882, 2821834349, 2952996808, 3210313671, 3336571891, 3584528711, 113926993, 338241895, 666307205, 773529912, 1294757372, 1396182291, 1695183700, 1986661051, 2177026350, 2456956037, 2730485921, 2820302411, 3259730800, 3345764771, 3516065817, 3600352804, 4094571909, 275423344, 430227734, 506948616, 659060556, 883997877, 958139571, 1322822218, 1537002063, 1747873779, 1955562222, 2024104815, 2227730452, 2361852424, 2428436474, 2756734187, 3204031479, 3329325298]
def tb_field_many : List Int := [134216512, 134217726, 134217726, 134217726, 134217726, 134217726, 134217726, 134217726, 134217726, 134217726]
def errI : List Nat := [1, 2, 3, 4, 5, 6, 7, 8, 9, 10, 11, 12, 13, 14, 15, 16, 17, 18, 19]
structure T_field_Elem where
 fn : List Int
 deriving DecidableEq
def T_field_Elem.dv (x : T_field_Elem) : DV := (.cons (.ints .u64 10 x.fn) .nil)
def T_field_Elem.z : T_field_Elem := ⟨(List.replicate 10 (0 : Int))⟩
def T_field_Elem.same (x y : T_field_Elem) : Bool := ((x.fn == y.fn) && true)
structure T_ladder_step where
 fx2 : T_field_Elem
 fz2 : T_field_Elem
 fx3 : T_field_Elem
 fz3 : T_field_Elem
 deriving DecidableEq
def T_ladder_step.dv (x : T_ladder_step) : DV := (.cons (T_field_Elem.dv x.fx2) (.cons (T_field_Elem.dv x.fz2) (.cons (T_field_Elem.dv x.fx3) (.cons (T_field_Elem.dv x.fz3) .nil))))
def T_ladder_step.z : T_ladder_step := ⟨T_field_Elem.z, T_field_Elem.z, T_field_Elem.z, T_field_Elem.z⟩
def T_ladder_step.same (x y : T_ladder_step) : Bool := (T_field_Elem.same x.fx2 y.fx2 && (T_field_Elem.same x.fz2 y.fz2 && (T_field_Elem.same x.fx3 y.fx3 && (T_field_Elem.same x.fz3 y.fz3 && true))))
def slices_Grow_byte_byte_2 (x16 : Int) : Option (Nat × (List Int)) :=
 cond (decide (x16 < 0))
  (none)
  (((cond (decide ((IntKind.wrap .i64 (x16 - 0)) > 0))
   (if (0 : Int) ≤ (IntKind.wrap .i64 (x16 - 0)) /\ (IntKind.wrap .i64 (x16 - 0)) * 1 ≤ 140737488355328 then
    nm ((List.replicate (Int.toNat (IntKind.wrap .i64 (x16 - 0))) (0 : Int)) : List Int) fun x19 =>
    if 0 ≤ ((List.length x19) : Int) then
     some (0, x19)
    else none
   else none)
   (some ((List.length ([] : List Int)), ([] : List Int))) : Option (Nat × (List Int)))).bind fun r1_0_18 => match r1_0_18 with
  | (x17, x18) =>
    some (x17, x18))
def slices_Concat_byte_byte (x12 : Nat) (x13 : List Int) : Option ((List Int)) :=
 ((cond (decide ((IntKind.wrap .i64 (0 + (x12 : Int))) < 0))
  (none)
  (some ()) : Option Unit)).bind fun _ =>
  (slices_Grow_byte_byte_2 (IntKind.wrap .i64 (0 + (x12 : Int)))).bind fun r15 => match r15 with
  | (x14, x15) =>
    ((if ((x14 : Int) + (List.length (List.take x12 x13))) * 1 ≤ 140737488355328 then
     if x14 ≤ (List.length x15) then
      some ()
     else none
    else none : Option Unit)).bind fun _ =>
     some ((List.take x14 x15) ++ (List.take x12 x13))
def sha_begin : Option ((List Int)) :=
 nm ([1779033703, 3144134277, 1013904242, 2773480762, 1359893119, 2600822924, 528734635, 1541459225] : List Int) fun x21 =>
 some x21
def sha_New : Option ((List Int)) :=
 (sha_begin).bind fun x21 =>
  some x21
def words_Right (x35 : Int) (x36 : Int) : Option Int :=
 if (0 : Int) ≤ (Int.tmod (IntKind.wrap .u64 x36) 32) then
  nm ((Int.fdiv x35 (2 ^ (min (Int.toNat (Int.tmod (IntKind.wrap .u64 x36) 32)) (IntKind.bits .u32)))) : Int) fun x37 =>
  nm ((IntKind.wrap .u64 (32 - (Int.tmod (IntKind.wrap .u64 x36) 32))) : Int) fun x38 =>
  if (0 : Int) ≤ x38 then
   nm ((IntKind.wrap .u32 (x35 * 2 ^ (min (Int.toNat x38) (IntKind.bits .u32)))) : Int) fun x39 =>
   some (bits .u32 .or x37 x39)
  else none
 else none
def sha_schedule_l1 (x33 : List Int) : Nat -> Int -> (List Int) -> Option ((List Int))
 | 0, _, _ => none
 | n1 + 1, x35, x36 =>
  cond (decide (x35 < 16))
   (if (0 : Int) ≤ (IntKind.wrap .i64 (4 * x35)) /\ (IntKind.wrap .i64 (4 * x35)) < (List.length x33 : Int) then
    nm ((IntKind.wrap .u32 (List.getD x33 (Int.toNat (IntKind.wrap .i64 (4 * x35))) 0)) : Int) fun x37 =>
    if (0 : Int) ≤ (IntKind.wrap .i64 ((IntKind.wrap .i64 (4 * x35)) + 1)) /\ (IntKind.wrap .i64 ((IntKind.wrap .i64 (4 * x35)) + 1)) < (List.length x33 : Int) then
     nm ((List.getD x33 (Int.toNat (IntKind.wrap .i64 ((IntKind.wrap .i64 (4 * x35)) + 1))) 0) : Int) fun x38 =>
     nm ((bits .u32 .or (IntKind.wrap .u32 (x37 * 2 ^ 24)) (IntKind.wrap .u32 ((IntKind.wrap .u32 x38) * 2 ^ 16))) : Int) fun x39 =>
     if (0 : Int) ≤ (IntKind.wrap .i64 ((IntKind.wrap .i64 (4 * x35)) + 2)) /\ (IntKind.wrap .i64 ((IntKind.wrap .i64 (4 * x35)) + 2)) < (List.length x33 : Int) then
      nm ((List.getD x33 (Int.toNat (IntKind.wrap .i64 ((IntKind.wrap .i64 (4 * x35)) + 2))) 0) : Int) fun x40 =>
      nm ((bits .u32 .or x39 (IntKind.wrap .u32 ((IntKind.wrap .u32 x40) * 2 ^ 8))) : Int) fun x41 =>
      if (0 : Int) ≤ (IntKind.wrap .i64 ((IntKind.wrap .i64 (4 * x35)) + 3)) /\ (IntKind.wrap .i64 ((IntKind.wrap .i64 (4 * x35)) + 3)) < (List.length x33 : Int) then
       nm ((List.getD x33 (Int.toNat (IntKind.wrap .i64 ((IntKind.wrap .i64 (4 * x35)) + 3))) 0) : Int) fun x42 =>
       if (0 : Int) ≤ x35 /\ x35 < 64 then
        nm ((List.set x36 (Int.toNat x35) (bits .u32 .or x41 (IntKind.wrap .u32 x42))) : List Int) fun x43 =>
        sha_schedule_l1 x33 n1 (IntKind.wrap .i64 (x35 + 1)) x43
       else none
      else none
     else none
    else none
   else none)
   (some x36)
def sha_schedule_l2 : Nat -> Int -> (List Int) -> Option ((List Int))
 | 0, _, _ => none
 | n2 + 1, x45, x46 =>
  cond (decide (x45 < 64))
   (if (0 : Int) ≤ (IntKind.wrap .i64 (x45 - 15)) /\ (IntKind.wrap .i64 (x45 - 15)) < 64 then
    if (0 : Int) ≤ (IntKind.wrap .i64 (x45 - 2)) /\ (IntKind.wrap .i64 (x45 - 2)) < 64 then
     (words_Right (List.getD x46 (Int.toNat (IntKind.wrap .i64 (x45 - 15))) 0) 7).bind fun x47 =>
      (words_Right (List.getD x46 (Int.toNat (IntKind.wrap .i64 (x45 - 15))) 0) 18).bind fun x48 =>
       nm ((Int.fdiv (List.getD x46 (Int.toNat (IntKind.wrap .i64 (x45 - 15))) 0) (2 ^ 3)) : Int) fun x49 =>
       (words_Right (List.getD x46 (Int.toNat (IntKind.wrap .i64 (x45 - 2))) 0) 17).bind fun x50 =>
        (words_Right (List.getD x46 (Int.toNat (IntKind.wrap .i64 (x45 - 2))) 0) 19).bind fun x51 =>
         nm ((Int.fdiv (List.getD x46 (Int.toNat (IntKind.wrap .i64 (x45 - 2))) 0) (2 ^ 10)) : Int) fun x52 =>
         if (0 : Int) ≤ (IntKind.wrap .i64 (x45 - 16)) /\ (IntKind.wrap .i64 (x45 - 16)) < 64 then
          nm ((IntKind.wrap .u32 ((List.getD x46 (Int.toNat (IntKind.wrap .i64 (x45 - 16))) 0) + (bits .u32 .xor (bits .u32 .xor x47 x48) x49))) : Int) fun x53 =>
          if (0 : Int) ≤ (IntKind.wrap .i64 (x45 - 7)) /\ (IntKind.wrap .i64 (x45 - 7)) < 64 then
           nm ((IntKind.wrap .u32 (x53 + (List.getD x46 (Int.toNat (IntKind.wrap .i64 (x45 - 7))) 0))) : Int) fun x54 =>
           nm ((IntKind.wrap .u32 (x54 + (bits .u32 .xor (bits .u32 .xor x50 x51) x52))) : Int) fun x55 =>
           if (0 : Int) ≤ x45 /\ x45 < 64 then
            sha_schedule_l2 n2 (IntKind.wrap .i64 (x45 + 1)) (List.set x46 (Int.toNat x45) x55)
           else none
          else none
         else none
    else none
   else none)
   (some x46)
def sha_schedule (x33 : List Int) : Option ((List Int)) :=
 ((sha_schedule_l1 x33 FUEL 0 (List.replicate 64 (0 : Int)) : Option ((List Int)))).bind fun x34 =>
  ((sha_schedule_l2 FUEL 16 x34 : Option ((List Int)))).bind fun x44 =>
   some x44
def sha_state_take_4_l1 (x43 : List Int) : Nat -> Int -> (List Int) -> Option ((List Int))
 | 0, _, _ => none
 | n1 + 1, x45, x46 =>
  cond (decide (x45 < 64))
   (if (0 : Int) ≤ x45 /\ x45 < 64 then
    (words_Right (List.getD x46 4 0) 6).bind fun x47 =>
     (words_Right (List.getD x46 4 0) 11).bind fun x48 =>
      (words_Right (List.getD x46 4 0) 25).bind fun x49 =>
       nm ((IntKind.wrap .u32 ((List.getD x46 7 0) + (bits .u32 .xor (bits .u32 .xor x47 x48) x49))) : Int) fun x50 =>
       nm ((bits .u32 .and (bits .u32 .xor (IntKind.max .u32) (List.getD x46 4 0)) (List.getD x46 6 0)) : Int) fun x51 =>
       nm ((bits .u32 .xor (bits .u32 .and (List.getD x46 4 0) (List.getD x46 5 0)) x51) : Int) fun x52 =>
       nm ((IntKind.wrap .u32 ((IntKind.wrap .u32 (x50 + x52)) + (List.getD tb_sha_constants (Int.toNat x45) 0))) : Int) fun x53 =>
       if (0 : Int) ≤ x45 /\ x45 < 64 then
        nm ((IntKind.wrap .u32 (x53 + (List.getD x43 (Int.toNat x45) 0))) : Int) fun x54 =>
        (words_Right (List.getD x46 0 0) 2).bind fun x55 =>
         (words_Right (List.getD x46 0 0) 13).bind fun x56 =>
          (words_Right (List.getD x46 0 0) 22).bind fun x57 =>
           nm ((bits .u32 .xor (bits .u32 .and (List.getD x46 0 0) (List.getD x46 1 0)) (bits .u32 .and (List.getD x46 0 0) (List.getD x46 2 0))) : Int) fun x58 =>
           nm ((bits .u32 .xor x58 (bits .u32 .and (List.getD x46 1 0) (List.getD x46 2 0))) : Int) fun x59 =>
           nm ((IntKind.wrap .u32 ((bits .u32 .xor (bits .u32 .xor x55 x56) x57) + x59)) : Int) fun x60 =>
           nm ((IntKind.wrap .u32 ((List.getD (over x46 1 (List.take 7 (List.take 7 x46))) 4 0) + x54)) : Int) fun x61 =>
           nm ((List.set (over x46 1 (List.take 7 (List.take 7 x46))) 4 x61) : List Int) fun x62 =>
           sha_state_take_4_l1 x43 n1 (IntKind.wrap .i64 (x45 + 1)) (List.set x62 0 (IntKind.wrap .u32 (x54 + x60)))
       else none
   else none)
   (some x46)
def sha_state_take_4_l2 (x44 : List Int) : Nat -> Int -> (List Int) -> Option ((List Int))
 | 0, _, _ => none
 | n2 + 1, x64, x65 =>
  cond (decide (x64 < 8))
   (if (0 : Int) ≤ x64 /\ x64 < 8 then
    if (0 : Int) ≤ x64 /\ x64 < 8 then
     nm ((IntKind.wrap .u32 ((List.getD x65 (Int.toNat x64) 0) + (List.getD x44 (Int.toNat x64) 0))) : Int) fun x66 =>
     if (0 : Int) ≤ x64 /\ x64 < 8 then
      sha_state_take_4_l2 x44 n2 (IntKind.wrap .i64 (x64 + 1)) (List.set x65 (Int.toNat x64) x66)
     else none
    else none
   else none)
   (some x65)
def sha_state_take_4 (x36 : Nat) (x37 : Nat) (x38 : List Int) (x39 : Nat) (x40 : Nat) (x41 : Int) (x42 : List Int) : Option ((List Int)) :=
 (sha_schedule (List.take x37 (List.drop x36 x42))).bind fun x43 =>
  ((sha_state_take_4_l1 x43 FUEL 0 x38 : Option ((List Int)))).bind fun x44 =>
   ((sha_state_take_4_l2 x44 FUEL 0 x38 : Option ((List Int)))).bind fun x63 =>
    some x63
def sha_Hash_Write_l1 (x27 : List Int) (x30 : Int) : Nat -> (List Int) -> Nat -> Nat -> Option ((List Int) × Nat × Nat)
 | 0, _, _, _ => none
 | n1 + 1, x36, x37, x38 =>
  cond (decide ((x38 : Int) ≥ 64))
   (if 64 ≤ (x38 : Int) then
    (sha_state_take_4 x37 64 x36 x37 x38 x30 x27).bind fun x39 =>
     if (0 : Int) ≤ 64 /\ 64 ≤ (x38 : Int) then
      sha_Hash_Write_l1 x27 x30 n1 x39 (x37 + 64) (Int.toNat ((x38 : Int) - 64))
     else none
   else none)
   (some (x36, x37, x38))
def sha_Hash_Write (x27 : List Int) (x28 : List Int) (x29 : Int) : Option ((List Int) × Nat × Nat × Int) :=
 nm ((IntKind.wrap .u64 (x29 + (IntKind.wrap .u64 (List.length x27 : Int)))) : Int) fun x30 =>
 if ((List.length x27) : Int) * 1 ≤ 140737488355328 then
  ((sha_Hash_Write_l1 x27 x30 FUEL x28 0 (List.length x27) : Option ((List Int) × Nat × Nat))).bind fun r1_0_33 => match r1_0_33 with
  | (x31, x32, x33) =>
    some (x31, x32, x33, x30)
 else none
def sha_Hash_Write_2_l1 (x27 : List Int) (x30 : List Int) (x31 : Int) : Nat -> (List Int) -> Nat -> Nat -> Option ((List Int) × Nat × Nat)
 | 0, _, _, _ => none
 | n1 + 1, x37, x38, x39 =>
  cond (decide ((x39 : Int) ≥ 64))
   (if 64 ≤ (x39 : Int) then
    (sha_state_take_4 x38 64 x37 x38 x39 x31 (x30 ++ x27)).bind fun x40 =>
     if (0 : Int) ≤ 64 /\ 64 ≤ (x39 : Int) then
      sha_Hash_Write_2_l1 x27 x30 x31 n1 x40 (x38 + 64) (Int.toNat ((x39 : Int) - 64))
     else none
   else none)
   (some (x37, x38, x39))
def sha_Hash_Write_2 (x27 : List Int) (x28 : List Int) (x29 : Int) (x30 : List Int) : Option ((List Int) × Nat × Nat × Int) :=
 nm ((IntKind.wrap .u64 (x29 + (IntKind.wrap .u64 (List.length x27 : Int)))) : Int) fun x31 =>
 if (((List.length x30) : Int) + (List.length x27)) * 1 ≤ 140737488355328 then
  ((sha_Hash_Write_2_l1 x27 x30 x31 FUEL x28 0 (List.length (x30 ++ x27)) : Option ((List Int) × Nat × Nat))).bind fun r1_0_34 => match r1_0_34 with
  | (x32, x33, x34) =>
    some (x32, x33, x34, x31)
 else none
def sha_Hash_Write_3_l1 (x32 : List Int) (x34 : Nat) (x35 : Nat) (x37 : List Int) (x38 : Int) : Nat -> (List Int) -> Nat -> Nat -> Option ((List Int) × Nat × Nat)
 | 0, _, _, _ => none
 | n1 + 1, x44, x45, x46 =>
  cond (decide ((x46 : Int) ≥ 64))
   (if 64 ≤ (x46 : Int) then
    (sha_state_take_4 x45 64 x44 x45 x46 x38 ((List.take x35 (List.drop x34 x37)) ++ x32)).bind fun x47 =>
     if (0 : Int) ≤ 64 /\ 64 ≤ (x46 : Int) then
      sha_Hash_Write_3_l1 x32 x34 x35 x37 x38 n1 x47 (x45 + 64) (Int.toNat ((x46 : Int) - 64))
     else none
   else none)
   (some (x44, x45, x46))
def sha_Hash_Write_3 (x32 : List Int) (x33 : List Int) (x34 : Nat) (x35 : Nat) (x36 : Int) (x37 : List Int) : Option ((List Int) × Nat × Nat × Int) :=
 nm ((IntKind.wrap .u64 (x36 + (IntKind.wrap .u64 (List.length x32 : Int)))) : Int) fun x38 =>
 if ((x35 : Int) + (List.length x32)) * 1 ≤ 140737488355328 then
  if x34 + x35 ≤ (List.length x37) then
   ((sha_Hash_Write_3_l1 x32 x34 x35 x37 x38 FUEL x33 0 (List.length ((List.take x35 (List.drop x34 x37)) ++ x32)) : Option ((List Int) × Nat × Nat))).bind fun r1_0_41 => match r1_0_41 with
   | (x39, x40, x41) =>
     some (x39, x40, x41, x38)
  else none
 else none
def slices_Clone_byte_byte (x42 : List Int) : Option ((List Int)) :=
 if (((List.length ([] : List Int)) : Int) + (List.length x42)) * 1 ≤ 140737488355328 then
  some (([] : List Int) ++ x42)
 else none
def sha_Hash_Copy (x37 : List Int) (x38 : Nat) (x39 : Nat) (x40 : Int) (x41 : List Int) : Option ((List Int)) :=
 (slices_Clone_byte_byte (List.take x39 (List.drop x38 x41))).bind fun x42 =>
  some x42
def words_PutLittle_l1 (x47 : Int) : Nat -> Int -> Int -> (List Int) -> Option ((((List Int)) ⊕ Unit))
 | 0, _, _, _ => none
 | n1 + 1, x49, x50, x51 =>
  cond (decide (x50 < x47))
   (if (0 : Int) ≤ x50 /\ x50 < ((List.length (List.replicate (Int.toNat x47) (0 : Int))) : Int) then
    words_PutLittle_l1 x47 n1 (Int.fdiv x49 (2 ^ 8)) (IntKind.wrap .i64 (x50 + 1)) (List.set x51 (Int.toNat x50) (IntKind.wrap .u8 x49))
   else none)
   (some (Sum.inl x51))
def words_PutLittle (x46 : Int) (x47 : Int) : Option ((((List Int)) ⊕ Unit)) :=
 cond (decide (x47 < 0))
  (some (Sum.inr ()))
  (cond (decide (x47 > 8))
   (some (Sum.inr ()))
   (if (0 : Int) ≤ x47 /\ x47 ≤ x47 /\ x47 ≤ 9223372036854775807 /\ x47 * 1 ≤ 140737488355328 then
    cond (decide (0 < x47))
     (if (0 : Int) ≤ 0 /\ 0 < ((List.length (List.replicate (Int.toNat x47) (0 : Int))) : Int) then
      nm ((List.set (List.replicate (Int.toNat x47) (0 : Int)) (Int.toNat 0) (IntKind.wrap .u8 x46)) : List Int) fun x48 =>
      words_PutLittle_l1 x47 FUEL (Int.fdiv x46 (2 ^ 8)) 1 x48
     else none)
     (some (Sum.inl (List.replicate (Int.toNat x47) (0 : Int))))
   else none))
def slices_Reverse_byte_byte_2_l1 (x54 : Nat) : Nat -> Int -> Int -> (List Int) -> Option ((List Int))
 | 0, _, _, _ => none
 | n1 + 1, x57, x58, x59 =>
  cond (decide (x57 < x58))
   (if (0 : Int) ≤ x58 /\ x58 < (x54 : Int) then
    if (0 : Int) ≤ x57 /\ x57 < (x54 : Int) then
     if (0 : Int) ≤ x57 /\ x57 < (x54 : Int) then
      nm ((List.set x59 (Int.toNat x57) (List.getD x59 (Int.toNat x58) 0)) : List Int) fun x60 =>
      if (0 : Int) ≤ x58 /\ x58 < (x54 : Int) then
       nm ((List.set x60 (Int.toNat x58) (List.getD x59 (Int.toNat x57) 0)) : List Int) fun x61 =>
       slices_Reverse_byte_byte_2_l1 x54 n1 (IntKind.wrap .i64 (x57 + 1)) (IntKind.wrap .i64 (x58 - 1)) x61
      else none
     else none
    else none
   else none)
   (some x59)
def slices_Reverse_byte_byte_2 (x54 : Nat) (x55 : List Int) : Option ((List Int)) :=
 ((slices_Reverse_byte_byte_2_l1 x54 FUEL 0 (IntKind.wrap .i64 ((x54 : Int) - 1)) x55 : Option ((List Int)))).bind fun x56 =>
  some x56
def slices_Reverse_byte_byte_3_l1 : Nat -> Option Unit
 | 0 => none
 | n1 + 1 =>
  some ()
def slices_Reverse_byte_byte_3 : Option Unit :=
 ((slices_Reverse_byte_byte_3_l1 FUEL  : Option Unit)).bind fun _ =>
  some ()
def words_PutBig (x44 : Int) (x45 : Int) : Option ((((List Int)) ⊕ Unit)) :=
 (words_PutLittle x44 x45).bind fun r47 => match r47 with
 | (Sum.inl x46) =>
   (slices_Reverse_byte_byte_2 (List.length (List.replicate (Int.toNat x45) (0 : Int))) x46).bind fun x47 =>
    some (Sum.inl x47)
 | (Sum.inr ()) =>
   (slices_Reverse_byte_byte_3).bind fun _ =>
    some (Sum.inr ())
def sha_Hash_Sum_l1 : Nat -> (List Int) -> Nat -> Nat -> Int -> (List Int) -> Option ((List Int) × Nat × Nat × Int × (List Int))
 | 0, _, _, _, _, _ => none
 | n1 + 1, x48, x49, x50, x51, x52 =>
  cond (!((x50 : Int) == 56))
   ((sha_Hash_Write_3 [0] x48 x49 x50 x51 x52).bind fun r56 => match r56 with
   | (x53, x54, x55, x56) =>
     sha_Hash_Sum_l1 n1 x53 x54 x55 x56 ((List.take x50 (List.drop x49 x52)) ++ [0]))
   (some (x48, x49, x50, x51, x52))
def sha_Hash_Sum_l2 (x57 : List Int) : Nat -> Int -> (List Int) -> Option ((List Int))
 | 0, _, _ => none
 | n2 + 1, x63, x64 =>
  cond (decide (x63 < 8))
   (if (0 : Int) ≤ x63 /\ x63 < 8 then
    nm ((IntKind.wrap .u8 (Int.fdiv (List.getD x57 (Int.toNat x63) 0) (2 ^ 24))) : Int) fun x65 =>
    nm ((IntKind.wrap .u8 (Int.fdiv (List.getD x57 (Int.toNat x63) 0) (2 ^ 16))) : Int) fun x66 =>
    nm ((IntKind.wrap .u8 (Int.fdiv (List.getD x57 (Int.toNat x63) 0) (2 ^ 8))) : Int) fun x67 =>
    if (0 : Int) ≤ (IntKind.wrap .i64 (4 * x63)) /\ (IntKind.wrap .i64 (4 * x63)) < 32 then
     if (0 : Int) ≤ (IntKind.wrap .i64 ((IntKind.wrap .i64 (4 * x63)) + 1)) /\ (IntKind.wrap .i64 ((IntKind.wrap .i64 (4 * x63)) + 1)) < 32 then
      nm ((Int.toNat (IntKind.wrap .i64 ((IntKind.wrap .i64 (4 * x63)) + 1))) : Nat) fun x68 =>
      nm ((List.set (List.set x64 (Int.toNat (IntKind.wrap .i64 (4 * x63))) x65) x68 x66) : List Int) fun x69 =>
      if (0 : Int) ≤ (IntKind.wrap .i64 ((IntKind.wrap .i64 (4 * x63)) + 2)) /\ (IntKind.wrap .i64 ((IntKind.wrap .i64 (4 * x63)) + 2)) < 32 then
       nm ((Int.toNat (IntKind.wrap .i64 ((IntKind.wrap .i64 (4 * x63)) + 2))) : Nat) fun x70 =>
       if (0 : Int) ≤ (IntKind.wrap .i64 ((IntKind.wrap .i64 (4 * x63)) + 3)) /\ (IntKind.wrap .i64 ((IntKind.wrap .i64 (4 * x63)) + 3)) < 32 then
        nm ((Int.toNat (IntKind.wrap .i64 ((IntKind.wrap .i64 (4 * x63)) + 3))) : Nat) fun x71 =>
        nm ((List.set (List.set x69 x70 x67) x71 (IntKind.wrap .u8 (List.getD x57 (Int.toNat x63) 0))) : List Int) fun x72 =>
        sha_Hash_Sum_l2 x57 n2 (IntKind.wrap .i64 (x63 + 1)) x72
       else none
      else none
     else none
    else none
   else none)
   (some x64)
def sha_Hash_Sum (x32 : List Int) (x33 : Nat) (x34 : Nat) (x35 : Int) (x36 : List Int) : Option ((List Int)) :=
 (sha_Hash_Copy x32 x33 x34 x35 x36).bind fun x37 =>
  (words_PutBig (IntKind.wrap .u64 (8 * x35)) 8).bind fun r72 => match r72 with
  | (Sum.inl x38) =>
    (sha_Hash_Write_2 [128] x32 x35 x37).bind fun r72 => match r72 with
    | (x39, x40, x41, x42) =>
      ((sha_Hash_Sum_l1 FUEL x39 x40 x41 x42 (x37 ++ [128]) : Option ((List Int) × Nat × Nat × Int × (List Int)))).bind fun r1_0_47 => match r1_0_47 with
      | (x43, x44, x45, x46, x47) =>
        (sha_Hash_Write_3 (List.take (List.length (List.replicate (Int.toNat 8) (0 : Int))) x38) x43 x44 x45 x46 x47).bind fun r72 => match r72 with
        | (x57, x58, x59, x60) =>
          nm (((List.take x45 (List.drop x44 x47)) ++ (List.take (List.length (List.replicate (Int.toNat 8) (0 : Int))) x38)) : List Int) fun x61 =>
          ((sha_Hash_Sum_l2 x57 FUEL 0 (List.replicate 32 (0 : Int)) : Option ((List Int)))).bind fun x62 =>
           some x62
  | (Sum.inr ()) =>
    some (List.replicate 32 (0 : Int))
def sha_Sum_l1 (x25 : List (List Int)) : Nat -> Int -> (List Int) -> Nat -> Nat -> Int -> (List Int) -> Option ((List Int) × Nat × Nat × Int × (List Int))
 | 0, _, _, _, _, _, _ => none
 | n1 + 1, x37, x38, x39, x40, x41, x42 =>
  cond (decide (x37 < (List.length x25 : Int)))
   (if (0 : Int) ≤ x37 /\ x37 < (List.length x25 : Int) then
    (sha_Hash_Write_3 (List.getD x25 (Int.toNat x37) []) x38 x39 x40 x41 x42).bind fun r47 => match r47 with
    | (x43, x44, x45, x46) =>
      nm (((List.take x40 (List.drop x39 x42)) ++ (List.getD x25 (Int.toNat x37) [])) : List Int) fun x47 =>
      sha_Sum_l1 x25 n1 (IntKind.wrap .i64 (x37 + 1)) x43 x44 x45 x46 x47
   else none)
   (some (x38, x39, x40, x41, x42))
def sha_Sum (x25 : List (List Int)) : Option ((List Int)) :=
 (sha_New).bind fun x26 =>
  ((sha_Sum_l1 x25 FUEL 0 x26 0 (List.length ([] : List Int)) 0 ([] : List Int) : Option ((List Int) × Nat × Nat × Int × (List Int)))).bind fun r1_0_31 => match r1_0_31 with
  | (x27, x28, x29, x30, x31) =>
    (sha_Hash_Sum x27 x28 x29 x30 x31).bind fun x48 =>
     some x48
def mac_padded_l1 (x24 : Int) : Nat -> Int -> (List Int) -> Option ((List Int))
 | 0, _, _ => none
 | n1 + 1, x30, x31 =>
  nm ((decide (x30 < ((List.length (List.replicate 64 (0 : Int))) : Int))) : Bool) fun x32 =>
  cond x32
   (if (0 : Int) ≤ x30 /\ x30 < ((List.length (List.replicate 64 (0 : Int))) : Int) then
    if (0 : Int) ≤ x30 /\ x30 < ((List.length (List.replicate 64 (0 : Int))) : Int) then
     nm ((List.set x31 (Int.toNat x30) (bits .u8 .xor (List.getD x31 (Int.toNat x30) 0) x24)) : List Int) fun x33 =>
     mac_padded_l1 x24 n1 (IntKind.wrap .i64 (x30 + 1)) x33
    else none
   else none)
   (some x31)
def mac_padded_l2 (x24 : Int) : Nat -> Int -> (List Int) -> Option ((List Int))
 | 0, _, _ => none
 | n2 + 1, x37, x38 =>
  nm ((decide (x37 < ((List.length (List.replicate 64 (0 : Int))) : Int))) : Bool) fun x39 =>
  cond x39
   (if (0 : Int) ≤ x37 /\ x37 < ((List.length (List.replicate 64 (0 : Int))) : Int) then
    if (0 : Int) ≤ x37 /\ x37 < ((List.length (List.replicate 64 (0 : Int))) : Int) then
     nm ((List.set x38 (Int.toNat x37) (bits .u8 .xor (List.getD x38 (Int.toNat x37) 0) x24)) : List Int) fun x40 =>
     mac_padded_l2 x24 n2 (IntKind.wrap .i64 (x37 + 1)) x40
    else none
   else none)
   (some x38)
def mac_padded (x23 : List Int) (x24 : Int) : Option ((List Int)) :=
 ((cond (decide ((List.length x23 : Int) > 64))
  ((sha_Sum [x23]).bind fun x26 =>
   some (Sum.inl x26))
  (some (Sum.inr ())) : Option ((((List Int)) ⊕ Unit)))).bind fun r1_0_25 => match r1_0_25 with
 | (Sum.inl x25) =>
   nm ((over (List.replicate 64 (0 : Int)) 0 (List.take (List.length (List.replicate 64 (0 : Int))) (List.take 32 x25))) : List Int) fun x27 =>
   nm ((min (List.length (List.take 32 x25)) (List.length (List.replicate 64 (0 : Int))) : Nat) : Int) fun x28 =>
   ((mac_padded_l1 x24 FUEL 0 x27 : Option ((List Int)))).bind fun x29 =>
    some x29
 | (Sum.inr ()) =>
   nm ((over (List.replicate 64 (0 : Int)) 0 (List.take (List.length (List.replicate 64 (0 : Int))) x23)) : List Int) fun x34 =>
   nm ((min (List.length x23) (List.length (List.replicate 64 (0 : Int))) : Nat) : Int) fun x35 =>
   ((mac_padded_l2 x24 FUEL 0 x34 : Option ((List Int)))).bind fun x36 =>
    some x36
def sha_Sum_2 (x53 : Nat) (x54 : Nat) (x55 : List Int) (x56 : List Int) : Option ((List Int)) :=
 (sha_New).bind fun x57 =>
  (((sha_Hash_Write (List.take x53 x55) x57 0).bind fun r71 => match r71 with
  | (x63, x64, x65, x66) =>
    (sha_Hash_Write_3 (List.take x54 x56) x63 x64 x65 x66 (List.take x53 x55)).bind fun r71 => match r71 with
    | (x67, x68, x69, x70) =>
      nm (((List.take x65 (List.drop x64 (List.take x53 x55))) ++ (List.take x54 x56)) : List Int) fun x71 =>
      some (x67, x68, x69, x70, x71) : Option ((List Int) × Nat × Nat × Int × (List Int)))).bind fun r1_0_62 => match r1_0_62 with
  | (x58, x59, x60, x61, x62) =>
    (sha_Hash_Sum x58 x59 x60 x61 x62).bind fun x72 =>
     some x72
def mac_Sum_l1 (x20 : List (List Int)) : Nat -> Int -> (List Int) -> Nat -> Nat -> Int -> (List Int) -> Option ((List Int) × Nat × Nat × Int × (List Int))
 | 0, _, _, _, _, _, _ => none
 | n1 + 1, x32, x33, x34, x35, x36, x37 =>
  cond (decide (x32 < (List.length x20 : Int)))
   (if (0 : Int) ≤ x32 /\ x32 < (List.length x20 : Int) then
    (sha_Hash_Write_3 (List.getD x20 (Int.toNat x32) []) x33 x34 x35 x36 x37).bind fun r42 => match r42 with
    | (x38, x39, x40, x41) =>
      nm (((List.take x35 (List.drop x34 x37)) ++ (List.getD x20 (Int.toNat x32) [])) : List Int) fun x42 =>
      mac_Sum_l1 x20 n1 (IntKind.wrap .i64 (x32 + 1)) x38 x39 x40 x41 x42
   else none)
   (some (x33, x34, x35, x36, x37))
def mac_Sum (x19 : List Int) (x20 : List (List Int)) : Option ((List Int)) :=
 (sha_New).bind fun x21 =>
  (mac_padded x19 54).bind fun x22 =>
   (sha_Hash_Write (List.take (List.length (List.replicate 64 (0 : Int))) x22) x21 0).bind fun r45 => match r45 with
   | (x23, x24, x25, x26) =>
     ((mac_Sum_l1 x20 FUEL 0 x23 x24 x25 x26 (List.take (List.length (List.replicate 64 (0 : Int))) x22) : Option ((List Int) × Nat × Nat × Int × (List Int)))).bind fun r1_0_31 => match r1_0_31 with
     | (x27, x28, x29, x30, x31) =>
       (sha_Hash_Sum x27 x28 x29 x30 x31).bind fun x43 =>
        (mac_padded x19 92).bind fun x44 =>
         (sha_Sum_2 (List.length (List.replicate 64 (0 : Int))) 32 x44 x43).bind fun x45 =>
          some x45
def derive_Extract (x17 : List Int) (x18 : List Int) : Option ((List Int)) :=
 (mac_Sum x17 [x18]).bind fun x19 =>
  some x19
def kem_extract (x8 : List UInt8) (x9 : Nat) (x10 : List Int) : Option ((List Int)) :=
 if ((List.length [72, 80, 75, 69, 45, 118, 49, 75, 69, 77, 0, 32] : Int) + List.length x8 ≤ 9223372036854775807) then
  nm ((List.map (fun q : UInt8 => (q.toNat : Int)) ([72, 80, 75, 69, 45, 118, 49, 75, 69, 77, 0, 32] ++ x8)) : List Int) fun x11 =>
  (slices_Concat_byte_byte x9 x10).bind fun x12 =>
   if (((List.length x11) : Int) + (List.length x12)) * 1 ≤ 140737488355328 then
    (derive_Extract ([] : List Int) (x11 ++ x12)).bind fun x13 =>
     some x13
   else none
 else none
def slices_Concat_byte_byte_2_l1 (x19 : List (List Int)) : Nat -> Int -> Int -> Option Int
 | 0, _, _ => none
 | n1 + 1, x21, x22 =>
  cond (decide (x22 < (List.length x19 : Int)))
   (if (0 : Int) ≤ x22 /\ x22 < (List.length x19 : Int) then
    nm ((IntKind.wrap .i64 (x21 + (List.length (List.getD x19 (Int.toNat x22) []) : Int))) : Int) fun x23 =>
    cond (decide (x23 < 0))
     (none)
     (slices_Concat_byte_byte_2_l1 x19 n1 x23 (IntKind.wrap .i64 (x22 + 1)))
   else none)
   (some x21)
def slices_Concat_byte_byte_2_l2 (x19 : List (List Int)) : Nat -> Nat -> Int -> (List Int) -> Option ((Unit ⊕ (Nat × (List Int))))
 | 0, _, _, _ => none
 | n2 + 1, x28, x29, x30 =>
  cond (decide (x29 < (List.length x19 : Int)))
   (if (0 : Int) ≤ x29 /\ x29 < (List.length x19 : Int) then
    if ((x28 : Int) + (List.length (List.getD x19 (Int.toNat x29) []))) * 1 ≤ 140737488355328 then
     if x28 ≤ (List.length x30) then
      slices_Concat_byte_byte_2_l2 x19 n2 (List.length ((List.take x28 x30) ++ (List.getD x19 (Int.toNat x29) []))) (IntKind.wrap .i64 (x29 + 1)) ((List.take x28 x30) ++ (List.getD x19 (Int.toNat x29) []))
     else none
    else none
   else none)
   (some (Sum.inr (x28, x30)))
def slices_Concat_byte_byte_2 (x19 : List (List Int)) : Option (Nat × (List Int)) :=
 ((slices_Concat_byte_byte_2_l1 x19 FUEL 0 0 : Option Int)).bind fun x20 =>
  (slices_Grow_byte_byte_2 x20).bind fun r30 => match r30 with
  | (x24, x25) =>
    ((slices_Concat_byte_byte_2_l2 x19 FUEL x24 0 x25 : Option ((Unit ⊕ (Nat × (List Int)))))).bind fun r2_1_27 => match r2_1_27 with
    | (Sum.inl ()) =>
      some (x24, x25)
    | (Sum.inr (x26, x27)) =>
      some (x26, x27)
def mac_Sum_2 (x37 : List Int) (x38 : List Int) (x39 : Nat) (x40 : List Int) : Option ((List Int)) :=
 (sha_New).bind fun x41 =>
  (mac_padded x37 54).bind fun x42 =>
   (sha_Hash_Write (List.take (List.length (List.replicate 64 (0 : Int))) x42) x41 0).bind fun r68 => match r68 with
   | (x43, x44, x45, x46) =>
     (((sha_Hash_Write_3 ([] : List Int) x43 x44 x45 x46 (List.take (List.length (List.replicate 64 (0 : Int))) x42)).bind fun r65 => match r65 with
     | (x52, x53, x54, x55) =>
       nm (((List.take x45 (List.drop x44 (List.take (List.length (List.replicate 64 (0 : Int))) x42))) ++ ([] : List Int)) : List Int) fun x56 =>
       (sha_Hash_Write_3 x38 x52 x53 x54 x55 x56).bind fun r65 => match r65 with
       | (x57, x58, x59, x60) =>
         (sha_Hash_Write_3 (List.take x39 x40) x57 x58 x59 x60 ((List.take x54 (List.drop x53 x56)) ++ x38)).bind fun r65 => match r65 with
         | (x61, x62, x63, x64) =>
           nm (((List.take x59 (List.drop x58 ((List.take x54 (List.drop x53 x56)) ++ x38))) ++ (List.take x39 x40)) : List Int) fun x65 =>
           some (x61, x62, x63, x64, x65) : Option ((List Int) × Nat × Nat × Int × (List Int)))).bind fun r1_0_51 => match r1_0_51 with
     | (x47, x48, x49, x50, x51) =>
       (sha_Hash_Sum x47 x48 x49 x50 x51).bind fun x66 =>
        (mac_padded x37 92).bind fun x67 =>
         (sha_Sum_2 (List.length (List.replicate 64 (0 : Int))) 32 x67 x66).bind fun x68 =>
          some x68
def mac_Sum_3 (x70 : List Int) (x71 : Nat) (x72 : List Int) (x73 : Nat) (x74 : List Int) (x75 : List Int) : Option ((List Int)) :=
 (sha_New).bind fun x76 =>
  (mac_padded x70 54).bind fun x77 =>
   (sha_Hash_Write (List.take (List.length (List.replicate 64 (0 : Int))) x77) x76 0).bind fun r103 => match r103 with
   | (x78, x79, x80, x81) =>
     (((sha_Hash_Write_3 (List.take x71 x74) x78 x79 x80 x81 (List.take (List.length (List.replicate 64 (0 : Int))) x77)).bind fun r100 => match r100 with
     | (x87, x88, x89, x90) =>
       nm (((List.take x80 (List.drop x79 (List.take (List.length (List.replicate 64 (0 : Int))) x77))) ++ (List.take x71 x74)) : List Int) fun x91 =>
       (sha_Hash_Write_3 x72 x87 x88 x89 x90 x91).bind fun r100 => match r100 with
       | (x92, x93, x94, x95) =>
         (sha_Hash_Write_3 (List.take x73 x75) x92 x93 x94 x95 ((List.take x89 (List.drop x88 x91)) ++ x72)).bind fun r100 => match r100 with
         | (x96, x97, x98, x99) =>
           nm (((List.take x94 (List.drop x93 ((List.take x89 (List.drop x88 x91)) ++ x72))) ++ (List.take x73 x75)) : List Int) fun x100 =>
           some (x96, x97, x98, x99, x100) : Option ((List Int) × Nat × Nat × Int × (List Int)))).bind fun r1_0_86 => match r1_0_86 with
     | (x82, x83, x84, x85, x86) =>
       (sha_Hash_Sum x82 x83 x84 x85 x86).bind fun x101 =>
        (mac_padded x70 92).bind fun x102 =>
         (sha_Sum_2 (List.length (List.replicate 64 (0 : Int))) 32 x102 x101).bind fun x103 =>
          some x103
def derive_Expand_l1 (x34 : List Int) (x35 : List Int) (x36 : Int) : Nat -> Int -> (List Int) -> (List Int) -> Option (((Nat × (List Int)) ⊕ Nat))
 | 0, _, _, _ => none
 | n1 + 1, x38, x39, x40 =>
  cond (decide (((List.length x40) : Int) < x36))
   ((mac_Sum_3 x34 32 x35 (List.length [(IntKind.wrap .u8 (x38 + 1))]) x39 [(IntKind.wrap .u8 (x38 + 1))]).bind fun x41 =>
    if (((List.length x40) : Int) + (List.length (List.take 32 x41))) * 1 ≤ 140737488355328 then
     derive_Expand_l1 x34 x35 x36 n1 (IntKind.wrap .u8 (x38 + 1)) x41 (x40 ++ (List.take 32 x41))
    else none)
   (if x36 ≤ ((List.length x40) : Int) then
    if (0 : Int) ≤ x36 then
     some (Sum.inl ((Int.toNat (x36 - 0)), x40))
    else none
   else none)
def derive_Expand (x34 : List Int) (x35 : List Int) (x36 : Int) : Option (((Nat × (List Int)) ⊕ Nat)) :=
 cond (decide (x36 < 0))
  (some (Sum.inr 1))
  (cond (decide (x36 > 8160))
   (some (Sum.inr 1))
   (cond (decide ((List.length x35 : Int) > 65536))
    (some (Sum.inr 3))
    (cond (decide (0 < x36))
     ((mac_Sum_2 x34 x35 (List.length [1]) [1]).bind fun x37 =>
      if ((List.length (List.take 32 x37)) : Int) * 1 ≤ 140737488355328 then
       derive_Expand_l1 x34 x35 x36 FUEL 1 x37 (List.take 32 x37)
      else none)
     (if x36 ≤ 0 then
      if (0 : Int) ≤ x36 then
       some (Sum.inl ((List.length ([] : List Int)), ([] : List Int)))
      else none
     else none))))
def kem_expand (x15 : List Int) (x16 : List UInt8) (x17 : List (List Int)) : Option ((List Int)) :=
 if ((List.length [0, 32, 72, 80, 75, 69, 45, 118, 49, 75, 69, 77, 0, 32] : Int) + List.length x16 ≤ 9223372036854775807) then
  nm (([0, 32, 72, 80, 75, 69, 45, 118, 49, 75, 69, 77, 0, 32] ++ x16) : List UInt8) fun x18 =>
  (slices_Concat_byte_byte_2 x17).bind fun r25 => match r25 with
  | (x19, x20) =>
    if (((List.length (List.map (fun q : UInt8 => (q.toNat : Int)) x18)) : Int) + (List.length (List.take x19 x20))) * 1 ≤ 140737488355328 then
     nm (((List.map (fun q : UInt8 => (q.toNat : Int)) x18) ++ (List.take x19 x20)) : List Int) fun x21 =>
     (derive_Expand (List.take 32 x15) x21 32).bind fun r25 => match r25 with
     | (Sum.inl (x22, x23)) =>
       nm ((over (List.replicate 32 (0 : Int)) 0 (List.take 32 (List.take x22 x23))) : List Int) fun x24 =>
       some x24
     | (Sum.inr x25) =>
       some (List.replicate 32 (0 : Int))
    else none
 else none
def ladder_Clamp (x30 : List Int) : Option ((List Int)) :=
 nm ((List.getD (List.set x30 0 (bits .u8 .and (List.getD x30 0 0) 248)) 31 0) : Int) fun x31 =>
 nm ((List.set (List.set x30 0 (bits .u8 .and (List.getD x30 0 0) 248)) 31 (bits .u8 .and x31 127)) : List Int) fun x32 =>
 some (List.set x32 31 (bits .u8 .or (List.getD x32 31 0) 64))
def field_Read_l1 (x34 : List Int) : Nat -> Int -> (List Int) -> Option ((List Int))
 | 0, _, _ => none
 | n1 + 1, x36, x37 =>
  cond (decide (x36 < 255))
   (if (0 : Int) ≤ (IntKind.wrap .i64 (Int.tdiv x36 26)) /\ (IntKind.wrap .i64 (Int.tdiv x36 26)) < 10 then
    nm ((List.getD x37 (Int.toNat (IntKind.wrap .i64 (Int.tdiv x36 26))) 0) : Int) fun x38 =>
    if (0 : Int) ≤ (IntKind.wrap .i64 (Int.tdiv x36 8)) /\ (IntKind.wrap .i64 (Int.tdiv x36 8)) < 32 then
     nm ((List.getD x34 (Int.toNat (IntKind.wrap .i64 (Int.tdiv x36 8))) 0) : Int) fun x39 =>
     if (0 : Int) ≤ (Int.tmod x36 8) then
      nm ((Int.fdiv x39 (2 ^ (min (Int.toNat (Int.tmod x36 8)) (IntKind.bits .u8)))) : Int) fun x40 =>
      if (0 : Int) ≤ (Int.tmod x36 26) then
       nm ((IntKind.wrap .u64 ((IntKind.wrap .u64 (bits .u8 .and x40 1)) * 2 ^ (min (Int.toNat (Int.tmod x36 26)) (IntKind.bits .u64)))) : Int) fun x41 =>
       if (0 : Int) ≤ (IntKind.wrap .i64 (Int.tdiv x36 26)) /\ (IntKind.wrap .i64 (Int.tdiv x36 26)) < 10 then
        nm ((List.set x37 (Int.toNat (IntKind.wrap .i64 (Int.tdiv x36 26))) (bits .u64 .or x38 x41)) : List Int) fun x42 =>
        field_Read_l1 x34 n1 (IntKind.wrap .i64 (x36 + 1)) x42
       else none
      else none
     else none
    else none
   else none)
   (some x37)
def field_Read (x34 : List Int) : Option T_field_Elem :=
 ((field_Read_l1 x34 FUEL 0 (List.replicate 10 (0 : Int)) : Option ((List Int)))).bind fun x35 =>
  some ({ fn := x35 } : T_field_Elem)
def field_Elem_carry_2_l2 : Nat -> Int -> Int -> (List Int) -> Option (Int × (List Int))
 | 0, _, _, _ => none
 | n2 + 1, x57, x58, x59 =>
  cond (decide (x58 < 10))
   (if (0 : Int) ≤ x58 /\ x58 < 10 then
    nm ((IntKind.wrap .u64 ((List.getD x59 (Int.toNat x58) 0) + x57)) : Int) fun x60 =>
    if (0 : Int) ≤ x58 /\ x58 < 10 then
     if (0 : Int) ≤ x58 /\ x58 < 10 then
      nm ((List.getD (List.set x59 (Int.toNat x58) x60) (Int.toNat x58) 0) : Int) fun x61 =>
      if (0 : Int) ≤ x58 /\ x58 < 10 then
       nm ((List.getD (List.set x59 (Int.toNat x58) x60) (Int.toNat x58) 0) : Int) fun x62 =>
       if (0 : Int) ≤ x58 /\ x58 < 10 then
        nm ((List.set (List.set x59 (Int.toNat x58) x60) (Int.toNat x58) (bits .u64 .and x62 67108863)) : List Int) fun x63 =>
        field_Elem_carry_2_l2 n2 (Int.fdiv x61 (2 ^ 26)) (IntKind.wrap .i64 (x58 + 1)) x63
       else none
      else none
     else none
    else none
   else none)
   (some (x57, x59))
def field_Elem_carry_2_l1 : Nat -> Int -> (List Int) -> Option ((List Int))
 | 0, _, _ => none
 | n1 + 1, x53, x54 =>
  cond (decide (x53 < 3))
   (((field_Elem_carry_2_l2 FUEL 0 0 x54 : Option (Int × (List Int)))).bind fun r2_0_56 => match r2_0_56 with
   | (x55, x56) =>
     nm ((IntKind.wrap .u64 ((List.getD x56 0 0) + (IntKind.wrap .u64 (608 * x55)))) : Int) fun x64 =>
     field_Elem_carry_2_l1 n1 (IntKind.wrap .i64 (x53 + 1)) (List.set x56 0 x64))
   (some x54)
def field_Elem_carry_2 (x51 : T_field_Elem) : Option T_field_Elem :=
 ((field_Elem_carry_2_l1 FUEL 0 x51.fn : Option ((List Int)))).bind fun x52 =>
  some ({ fn := x52 } : T_field_Elem)
def field_Elem_Sub_l1 (x48 : T_field_Elem) : Nat -> Int -> (List Int) -> Option ((List Int))
 | 0, _, _ => none
 | n1 + 1, x50, x51 =>
  cond (decide (x50 < 10))
   (if (0 : Int) ≤ x50 /\ x50 < 10 then
    if (0 : Int) ≤ x50 /\ x50 < 10 then
     if (0 : Int) ≤ x50 /\ x50 < 10 then
      nm ((IntKind.wrap .u64 ((List.getD tb_field_many (Int.toNat x50) 0) - (List.getD x48.fn (Int.toNat x50) 0))) : Int) fun x52 =>
      nm ((IntKind.wrap .u64 ((List.getD x51 (Int.toNat x50) 0) + x52)) : Int) fun x53 =>
      if (0 : Int) ≤ x50 /\ x50 < 10 then
       field_Elem_Sub_l1 x48 n1 (IntKind.wrap .i64 (x50 + 1)) (List.set x51 (Int.toNat x50) x53)
      else none
     else none
    else none
   else none)
   (some x51)
def field_Elem_Sub (x47 : T_field_Elem) (x48 : T_field_Elem) : Option T_field_Elem :=
 ((field_Elem_Sub_l1 x48 FUEL 0 x47.fn : Option ((List Int)))).bind fun x49 =>
  (field_Elem_carry_2 ({ fn := x49 } : T_field_Elem)).bind fun x54 =>
   some x54
def field_Small_l1 (x45 : Int) : Nat -> Int -> (List Int) -> Option ((List Int))
 | 0, _, _ => none
 | n1 + 1, x47, x48 =>
  cond (decide (x47 < 3))
   (if (0 : Int) ≤ (IntKind.wrap .i64 (26 * x47)) then
    nm ((Int.fdiv x45 (2 ^ (min (Int.toNat (IntKind.wrap .i64 (26 * x47))) (IntKind.bits .u64)))) : Int) fun x49 =>
    if (0 : Int) ≤ x47 /\ x47 < 10 then
     field_Small_l1 x45 n1 (IntKind.wrap .i64 (x47 + 1)) (List.set x48 (Int.toNat x47) (bits .u64 .and x49 67108863))
    else none
   else none)
   (some x48)
def field_Small (x44 : Int) : Option T_field_Elem :=
 ((cond (decide (x44 < 0))
  (some (IntKind.wrap .u64 (0 - (IntKind.wrap .u64 x44))))
  (some (IntKind.wrap .u64 x44)) : Option Int)).bind fun x45 =>
  ((field_Small_l1 x45 FUEL 0 (List.replicate 10 (0 : Int)) : Option ((List Int)))).bind fun x46 =>
   cond (decide (x44 < 0))
    ((field_Elem_Sub ({ fn := (List.replicate 10 (0 : Int)) } : T_field_Elem) ({ fn := x46 } : T_field_Elem)).bind fun x50 =>
     some x50)
    (some ({ fn := x46 } : T_field_Elem))
def words_Pick (x59 : Bool) (x60 : Int) (x61 : Int) : Option Int :=
 ((cond x59
  (some 18446744073709551615)
  (some 0) : Option Int)).bind fun x62 =>
  nm ((bits .u64 .or (bits .u64 .and x60 x62) (bits .u64 .andNot x61 x62)) : Int) fun x63 =>
  some x63
def field_Pick_l1 (x56 : Bool) (x58 : T_field_Elem) : Nat -> Int -> (List Int) -> Option ((List Int))
 | 0, _, _ => none
 | n1 + 1, x60, x61 =>
  cond (decide (x60 < 10))
   (if (0 : Int) ≤ x60 /\ x60 < 10 then
    if (0 : Int) ≤ x60 /\ x60 < 10 then
     (words_Pick x56 (List.getD x61 (Int.toNat x60) 0) (List.getD x58.fn (Int.toNat x60) 0)).bind fun x62 =>
      if (0 : Int) ≤ x60 /\ x60 < 10 then
       field_Pick_l1 x56 x58 n1 (IntKind.wrap .i64 (x60 + 1)) (List.set x61 (Int.toNat x60) x62)
      else none
    else none
   else none)
   (some x61)
def field_Pick (x56 : Bool) (x57 : T_field_Elem) (x58 : T_field_Elem) : Option T_field_Elem :=
 ((field_Pick_l1 x56 x58 FUEL 0 x57.fn : Option ((List Int)))).bind fun x59 =>
  some ({ fn := x59 } : T_field_Elem)
def ladder_step_swapped (x54 : T_ladder_step) (x55 : Bool) : Option T_ladder_step :=
 (field_Pick x55 x54.fx3 x54.fx2).bind fun x56 =>
  (field_Pick x55 x54.fz3 x54.fz2).bind fun x57 =>
   (field_Pick x55 x54.fx2 x54.fx3).bind fun x58 =>
    (field_Pick x55 x54.fz2 x54.fz3).bind fun x59 =>
     some ({ fx2 := x56, fz2 := x57, fx3 := x58, fz3 := x59 } : T_ladder_step)
def field_Elem_Add_l1 (x64 : T_field_Elem) : Nat -> Int -> (List Int) -> Option ((List Int))
 | 0, _, _ => none
 | n1 + 1, x66, x67 =>
  cond (decide (x66 < 10))
   (if (0 : Int) ≤ x66 /\ x66 < 10 then
    if (0 : Int) ≤ x66 /\ x66 < 10 then
     nm ((IntKind.wrap .u64 ((List.getD x67 (Int.toNat x66) 0) + (List.getD x64.fn (Int.toNat x66) 0))) : Int) fun x68 =>
     if (0 : Int) ≤ x66 /\ x66 < 10 then
      field_Elem_Add_l1 x64 n1 (IntKind.wrap .i64 (x66 + 1)) (List.set x67 (Int.toNat x66) x68)
     else none
    else none
   else none)
   (some x67)
def field_Elem_Add (x63 : T_field_Elem) (x64 : T_field_Elem) : Option T_field_Elem :=
 ((field_Elem_Add_l1 x64 FUEL 0 x63.fn : Option ((List Int)))).bind fun x65 =>
  (field_Elem_carry_2 ({ fn := x65 } : T_field_Elem)).bind fun x69 =>
   some x69
def field_Elem_Times_l2 (x73 : T_field_Elem) (x74 : T_field_Elem) (x76 : Int) : Nat -> Int -> (List Int) -> Option ((List Int))
 | 0, _, _ => none
 | n2 + 1, x79, x80 =>
  cond (decide (x79 < 10))
   (if (0 : Int) ≤ x79 /\ x79 < 10 then
    if (0 : Int) ≤ (IntKind.wrap .i64 (x76 + x79)) /\ (IntKind.wrap .i64 (x76 + x79)) < 20 then
     nm ((List.getD x80 (Int.toNat (IntKind.wrap .i64 (x76 + x79))) 0) : Int) fun x81 =>
     nm ((IntKind.wrap .u64 ((List.getD x73.fn (Int.toNat x76) 0) * (List.getD x74.fn (Int.toNat x79) 0))) : Int) fun x82 =>
     if (0 : Int) ≤ (IntKind.wrap .i64 (x76 + x79)) /\ (IntKind.wrap .i64 (x76 + x79)) < 20 then
      nm ((List.set x80 (Int.toNat (IntKind.wrap .i64 (x76 + x79))) (IntKind.wrap .u64 (x81 + x82))) : List Int) fun x83 =>
      field_Elem_Times_l2 x73 x74 x76 n2 (IntKind.wrap .i64 (x79 + 1)) x83
     else none
    else none
   else none)
   (some x80)
def field_Elem_Times_l1 (x73 : T_field_Elem) (x74 : T_field_Elem) : Nat -> Int -> (List Int) -> Option ((List Int))
 | 0, _, _ => none
 | n1 + 1, x76, x77 =>
  cond (decide (x76 < 10))
   (if (0 : Int) ≤ x76 /\ x76 < 10 then
    ((field_Elem_Times_l2 x73 x74 x76 FUEL 0 x77 : Option ((List Int)))).bind fun x78 =>
     field_Elem_Times_l1 x73 x74 n1 (IntKind.wrap .i64 (x76 + 1)) x78
   else none)
   (some x77)
def field_Elem_Times_l3 : Nat -> Int -> (List Int) -> Option ((List Int))
 | 0, _, _ => none
 | n3 + 1, x85, x86 =>
  cond (decide (x85 < 19))
   (if (0 : Int) ≤ (IntKind.wrap .i64 (x85 + 1)) /\ (IntKind.wrap .i64 (x85 + 1)) < 20 then
    if (0 : Int) ≤ x85 /\ x85 < 20 then
     nm ((IntKind.wrap .u64 ((List.getD x86 (Int.toNat (IntKind.wrap .i64 (x85 + 1))) 0) + (Int.fdiv (List.getD x86 (Int.toNat x85) 0) (2 ^ 26)))) : Int) fun x87 =>
     if (0 : Int) ≤ (IntKind.wrap .i64 (x85 + 1)) /\ (IntKind.wrap .i64 (x85 + 1)) < 20 then
      if (0 : Int) ≤ x85 /\ x85 < 20 then
       nm ((List.getD (List.set x86 (Int.toNat (IntKind.wrap .i64 (x85 + 1))) x87) (Int.toNat x85) 0) : Int) fun x88 =>
       if (0 : Int) ≤ x85 /\ x85 < 20 then
        nm ((List.set (List.set x86 (Int.toNat (IntKind.wrap .i64 (x85 + 1))) x87) (Int.toNat x85) (bits .u64 .and x88 67108863)) : List Int) fun x89 =>
        field_Elem_Times_l3 n3 (IntKind.wrap .i64 (x85 + 1)) x89
       else none
      else none
     else none
    else none
   else none)
   (some x86)
def field_Elem_Times_l4 (x84 : List Int) : Nat -> Int -> (List Int) -> Option ((List Int))
 | 0, _, _ => none
 | n4 + 1, x91, x92 =>
  cond (decide (x91 < 10))
   (if (0 : Int) ≤ x91 /\ x91 < 20 then
    if (0 : Int) ≤ (IntKind.wrap .i64 (10 + x91)) /\ (IntKind.wrap .i64 (10 + x91)) < 20 then
     nm ((IntKind.wrap .u64 (608 * (List.getD x84 (Int.toNat (IntKind.wrap .i64 (10 + x91))) 0))) : Int) fun x93 =>
     nm ((IntKind.wrap .u64 ((List.getD x84 (Int.toNat x91) 0) + x93)) : Int) fun x94 =>
     if (0 : Int) ≤ x91 /\ x91 < 10 then
      field_Elem_Times_l4 x84 n4 (IntKind.wrap .i64 (x91 + 1)) (List.set x92 (Int.toNat x91) x94)
     else none
    else none
   else none)
   (some x92)
def field_Elem_Times (x73 : T_field_Elem) (x74 : T_field_Elem) : Option T_field_Elem :=
 ((field_Elem_Times_l1 x73 x74 FUEL 0 (List.replicate 20 (0 : Int)) : Option ((List Int)))).bind fun x75 =>
  ((field_Elem_Times_l3 FUEL 0 x75 : Option ((List Int)))).bind fun x84 =>
   ((field_Elem_Times_l4 x84 FUEL 0 (List.replicate 10 (0 : Int)) : Option ((List Int)))).bind fun x90 =>
    (field_Elem_carry_2 ({ fn := x90 } : T_field_Elem)).bind fun x95 =>
     some x95
def field_Elem_Square (x72 : T_field_Elem) : Option T_field_Elem :=
 (field_Elem_Times x72 x72).bind fun x73 =>
  some x73
def ladder_step_next (x61 : T_ladder_step) (x62 : T_field_Elem) : Option T_ladder_step :=
 (field_Elem_Add x61.fx2 x61.fz2).bind fun x63 =>
  (field_Elem_Sub x61.fx2 x61.fz2).bind fun x64 =>
   (field_Elem_Square x63).bind fun x65 =>
    (field_Elem_Square x64).bind fun x66 =>
     (field_Elem_Sub x65 x66).bind fun x67 =>
      (field_Elem_Sub x61.fx3 x61.fz3).bind fun x68 =>
       (field_Elem_Times x68 x63).bind fun x69 =>
        (field_Elem_Add x61.fx3 x61.fz3).bind fun x70 =>
         (field_Elem_Times x70 x64).bind fun x71 =>
          (field_Elem_Times x65 x66).bind fun x72 =>
           (field_Small 121665).bind fun x73 =>
            (field_Elem_Times x67 x73).bind fun x74 =>
             (field_Elem_Add x65 x74).bind fun x75 =>
              (field_Elem_Times x67 x75).bind fun x76 =>
               (field_Elem_Add x69 x71).bind fun x77 =>
                (field_Elem_Square x77).bind fun x78 =>
                 (field_Elem_Sub x69 x71).bind fun x79 =>
                  (field_Elem_Square x79).bind fun x80 =>
                   (field_Elem_Times x80 x62).bind fun x81 =>
                    some ({ fx2 := x72, fz2 := x76, fx3 := x78, fz3 := x81 } : T_ladder_step)
def field_Elem_squares_l1 : Nat -> Int -> T_field_Elem -> Option T_field_Elem
 | 0, _, _ => none
 | n1 + 1, x97, x98 =>
  cond (decide (x97 > 0))
   ((field_Elem_Square x98).bind fun x99 =>
    field_Elem_squares_l1 n1 (IntKind.wrap .i64 (x97 - 1)) x99)
   (some x98)
def field_Elem_squares (x94 : T_field_Elem) (x95 : Int) : Option T_field_Elem :=
 cond (decide (x95 > 0))
  ((field_Elem_Square x94).bind fun x96 =>
   field_Elem_squares_l1 FUEL (IntKind.wrap .i64 (x95 - 1)) x96)
  (some x94)
def field_Elem_power (x92 : T_field_Elem) : Option (T_field_Elem × T_field_Elem) :=
 (field_Elem_Square x92).bind fun x93 =>
  (field_Elem_squares x93 2).bind fun x94 =>
   (field_Elem_Times x94 x92).bind fun x95 =>
    (field_Elem_Times x95 x93).bind fun x96 =>
     (field_Elem_Square x96).bind fun x97 =>
      (field_Elem_Times x97 x95).bind fun x98 =>
       (field_Elem_squares x98 5).bind fun x99 =>
        (field_Elem_Times x99 x98).bind fun x100 =>
         (field_Elem_squares x100 10).bind fun x101 =>
          (field_Elem_Times x101 x100).bind fun x102 =>
           (field_Elem_squares x102 20).bind fun x103 =>
            (field_Elem_Times x103 x102).bind fun x104 =>
             (field_Elem_squares x104 10).bind fun x105 =>
              (field_Elem_Times x105 x100).bind fun x106 =>
               (field_Elem_squares x106 50).bind fun x107 =>
                (field_Elem_Times x107 x106).bind fun x108 =>
                 (field_Elem_squares x108 100).bind fun x109 =>
                  (field_Elem_Times x109 x108).bind fun x110 =>
                   (field_Elem_squares x110 50).bind fun x111 =>
                    (field_Elem_Times x111 x106).bind fun x112 =>
                     some (x112, x96)
def field_Elem_Invert (x91 : T_field_Elem) : Option T_field_Elem :=
 (field_Elem_power x91).bind fun r95 => match r95 with
 | (x92, x93) =>
   (field_Elem_squares x92 5).bind fun x94 =>
    (field_Elem_Times x94 x93).bind fun x95 =>
     some x95
def field_Elem_fold_2_l1 : Nat -> Int -> (List Int) -> Option ((List Int))
 | 0, _, _ => none
 | n1 + 1, x107, x108 =>
  cond (decide (x107 < 9))
   (if (0 : Int) ≤ (IntKind.wrap .i64 (x107 + 1)) /\ (IntKind.wrap .i64 (x107 + 1)) < 10 then
    nm ((List.getD x108 (Int.toNat (IntKind.wrap .i64 (x107 + 1))) 0) : Int) fun x109 =>
    if (0 : Int) ≤ x107 /\ x107 < 10 then
     nm ((IntKind.wrap .u64 (x109 + (Int.fdiv (List.getD x108 (Int.toNat x107) 0) (2 ^ 26)))) : Int) fun x110 =>
     if (0 : Int) ≤ (IntKind.wrap .i64 (x107 + 1)) /\ (IntKind.wrap .i64 (x107 + 1)) < 10 then
      nm ((List.set x108 (Int.toNat (IntKind.wrap .i64 (x107 + 1))) x110) : List Int) fun x111 =>
      if (0 : Int) ≤ x107 /\ x107 < 10 then
       nm ((bits .u64 .and (List.getD x111 (Int.toNat x107) 0) 67108863) : Int) fun x112 =>
       if (0 : Int) ≤ x107 /\ x107 < 10 then
        field_Elem_fold_2_l1 n1 (IntKind.wrap .i64 (x107 + 1)) (List.set x111 (Int.toNat x107) x112)
       else none
      else none
     else none
    else none
   else none)
   (some x108)
def field_Elem_fold_2 (x102 : T_field_Elem) : Option T_field_Elem :=
 nm ((List.set x102.fn 9 (bits .u64 .and (List.getD x102.fn 9 0) 2097151)) : List Int) fun x103 =>
 nm ((IntKind.wrap .u64 (19 * (Int.fdiv (List.getD x102.fn 9 0) (2 ^ 21)))) : Int) fun x104 =>
 nm ((List.set x103 0 (IntKind.wrap .u64 ((List.getD x103 0 0) + x104))) : List Int) fun x105 =>
 ((field_Elem_fold_2_l1 FUEL 0 x105 : Option ((List Int)))).bind fun x106 =>
  some ({ fn := x106 } : T_field_Elem)
def field_Elem_least_l1 : Nat -> Int -> (List Int) -> Option ((List Int))
 | 0, _, _ => none
 | n1 + 1, x105, x106 =>
  cond (decide (x105 < 9))
   (if (0 : Int) ≤ (IntKind.wrap .i64 (x105 + 1)) /\ (IntKind.wrap .i64 (x105 + 1)) < 10 then
    nm ((List.getD x106 (Int.toNat (IntKind.wrap .i64 (x105 + 1))) 0) : Int) fun x107 =>
    if (0 : Int) ≤ x105 /\ x105 < 10 then
     nm ((IntKind.wrap .u64 (x107 + (Int.fdiv (List.getD x106 (Int.toNat x105) 0) (2 ^ 26)))) : Int) fun x108 =>
     if (0 : Int) ≤ (IntKind.wrap .i64 (x105 + 1)) /\ (IntKind.wrap .i64 (x105 + 1)) < 10 then
      nm ((List.set x106 (Int.toNat (IntKind.wrap .i64 (x105 + 1))) x108) : List Int) fun x109 =>
      if (0 : Int) ≤ x105 /\ x105 < 10 then
       nm ((bits .u64 .and (List.getD x109 (Int.toNat x105) 0) 67108863) : Int) fun x110 =>
       if (0 : Int) ≤ x105 /\ x105 < 10 then
        field_Elem_least_l1 n1 (IntKind.wrap .i64 (x105 + 1)) (List.set x109 (Int.toNat x105) x110)
       else none
      else none
     else none
    else none
   else none)
   (some x106)
def field_Elem_least (x99 : T_field_Elem) : Option T_field_Elem :=
 (field_Elem_carry_2 x99).bind fun x100 =>
  (field_Elem_fold_2 x100).bind fun x101 =>
   (field_Elem_fold_2 x101).bind fun x102 =>
    nm ((List.set x102.fn 0 (IntKind.wrap .u64 ((List.getD x102.fn 0 0) + 19))) : List Int) fun x103 =>
    ((field_Elem_least_l1 FUEL 0 x103 : Option ((List Int)))).bind fun x104 =>
     nm ((List.set x104 9 (bits .u64 .and (List.getD x104 9 0) 2097151)) : List Int) fun x111 =>
     (field_Pick (!((Int.fdiv (List.getD x104 9 0) (2 ^ 21)) == 0)) ({ fn := x111 } : T_field_Elem) x102).bind fun x112 =>
      some x112
def field_Elem_Bytes_l1 (x99 : T_field_Elem) : Nat -> Int -> (List Int) -> Option ((List Int))
 | 0, _, _ => none
 | n1 + 1, x101, x102 =>
  cond (decide (x101 < 255))
   (if (0 : Int) ≤ (IntKind.wrap .i64 (Int.tdiv x101 8)) /\ (IntKind.wrap .i64 (Int.tdiv x101 8)) < 32 then
    nm ((List.getD x102 (Int.toNat (IntKind.wrap .i64 (Int.tdiv x101 8))) 0) : Int) fun x103 =>
    if (0 : Int) ≤ (IntKind.wrap .i64 (Int.tdiv x101 26)) /\ (IntKind.wrap .i64 (Int.tdiv x101 26)) < 10 then
     nm ((List.getD x99.fn (Int.toNat (IntKind.wrap .i64 (Int.tdiv x101 26))) 0) : Int) fun x104 =>
     if (0 : Int) ≤ (Int.tmod x101 26) then
      nm ((Int.fdiv x104 (2 ^ (min (Int.toNat (Int.tmod x101 26)) (IntKind.bits .u64)))) : Int) fun x105 =>
      if (0 : Int) ≤ (Int.tmod x101 8) then
       nm ((IntKind.wrap .u8 ((IntKind.wrap .u8 (bits .u64 .and x105 1)) * 2 ^ (min (Int.toNat (Int.tmod x101 8)) (IntKind.bits .u8)))) : Int) fun x106 =>
       if (0 : Int) ≤ (IntKind.wrap .i64 (Int.tdiv x101 8)) /\ (IntKind.wrap .i64 (Int.tdiv x101 8)) < 32 then
        nm ((List.set x102 (Int.toNat (IntKind.wrap .i64 (Int.tdiv x101 8))) (bits .u8 .or x103 x106)) : List Int) fun x107 =>
        field_Elem_Bytes_l1 x99 n1 (IntKind.wrap .i64 (x101 + 1)) x107
       else none
      else none
     else none
    else none
   else none)
   (some x102)
def field_Elem_Bytes (x98 : T_field_Elem) : Option ((List Int)) :=
 (field_Elem_least x98).bind fun x99 =>
  ((field_Elem_Bytes_l1 x99 FUEL 0 (List.replicate 32 (0 : Int)) : Option ((List Int)))).bind fun x100 =>
   some x100
def ladder_Mult_l1 (x30 : List Int) (x31 : T_field_Elem) : Nat -> Int -> T_ladder_step -> Option ((List Int))
 | 0, _, _ => none
 | n1 + 1, x38, x39 =>
  cond (decide (x38 ≥ 0))
   (if (0 : Int) ≤ (IntKind.wrap .i64 (Int.tdiv x38 8)) /\ (IntKind.wrap .i64 (Int.tdiv x38 8)) < 32 then
    nm ((List.getD x30 (Int.toNat (IntKind.wrap .i64 (Int.tdiv x38 8))) 0) : Int) fun x40 =>
    if (0 : Int) ≤ (Int.tmod x38 8) then
     nm ((Int.fdiv x40 (2 ^ (min (Int.toNat (Int.tmod x38 8)) (IntKind.bits .u8)))) : Int) fun x41 =>
     (ladder_step_swapped x39 ((bits .u8 .and x41 1) == 1)).bind fun x42 =>
      (ladder_step_next x42 x31).bind fun x43 =>
       (ladder_step_swapped x43 ((bits .u8 .and x41 1) == 1)).bind fun x44 =>
        ladder_Mult_l1 x30 x31 n1 (IntKind.wrap .i64 (x38 - 1)) x44
    else none
   else none)
   ((field_Elem_Invert x39.fz2).bind fun x45 =>
    (field_Elem_Times x39.fx2 x45).bind fun x46 =>
     (field_Elem_Bytes x46).bind fun x47 =>
      some x47)
def ladder_Mult (x28 : List Int) (x29 : List Int) : Option ((List Int)) :=
 (ladder_Clamp x28).bind fun x30 =>
  (field_Read x29).bind fun x31 =>
   (field_Small 1).bind fun x32 =>
    (field_Small 1).bind fun x33 =>
     nm (((bits .u8 .and (Int.fdiv (List.getD x30 31 0) (2 ^ 6)) 1) == 1) : Bool) fun x34 =>
     (ladder_step_swapped ({ fx2 := x32, fz2 := ({ fn := (List.replicate 10 (0 : Int)) } : T_field_Elem), fx3 := x31, fz3 := x33 } : T_ladder_step) x34).bind fun x35 =>
      (ladder_step_next x35 x31).bind fun x36 =>
       (ladder_step_swapped x36 x34).bind fun x37 =>
        ladder_Mult_l1 x30 x31 FUEL 253 x37
def ladder_Base (x27 : List Int) : Option ((List Int)) :=
 (ladder_Mult x27 (List.set (List.replicate 32 (0 : Int)) 0 9)).bind fun x28 =>
  some x28
def kem_Pair (x6 : Nat) (x7 : List Int) : Option ((List Int) × (List Int)) :=
 (kem_extract [100, 107, 112, 95, 112, 114, 107] x6 x7).bind fun x8 =>
  (kem_expand x8 [115, 107] ([] : List (List Int))).bind fun x9 =>
   (ladder_Base x9).bind fun x10 =>
    some (x9, x10)
def words_Zero_l1 (x16 : List Int) : Nat -> Int -> Int -> Option Int
 | 0, _, _ => none
 | n1 + 1, x18, x19 =>
  cond (decide (x19 < (List.length x16 : Int)))
   (if (0 : Int) ≤ x19 /\ x19 < (List.length x16 : Int) then
    words_Zero_l1 x16 n1 (bits .u8 .or x18 (List.getD x16 (Int.toNat x19) 0)) (IntKind.wrap .i64 (x19 + 1))
   else none)
   (some x18)
def words_Zero (x16 : List Int) : Option Bool :=
 ((words_Zero_l1 x16 FUEL 0 0 : Option Int)).bind fun x17 =>
  some (x17 == 0)
def ladder_Shared (x13 : List Int) (x14 : List Int) : Option ((((List Int)) ⊕ Unit)) :=
 (ladder_Mult x13 x14).bind fun x15 =>
  (words_Zero (List.take 32 x15)).bind fun x16 =>
   cond x16
    (some (Sum.inr ()))
    (some (Sum.inl x15))
def slices_Concat_byte_byte_3 (x25 : Nat) (x26 : List Int) : Option ((List Int)) :=
 ((cond (decide ((IntKind.wrap .i64 (0 + (x25 : Int))) < 0))
  (none)
  (some ()) : Option Unit)).bind fun _ =>
  (slices_Grow_byte_byte_2 (IntKind.wrap .i64 (0 + (x25 : Int)))).bind fun r28 => match r28 with
  | (x27, x28) =>
    ((if ((x27 : Int) + (List.length (List.take x25 x26))) * 1 ≤ 140737488355328 then
     if x27 ≤ (List.length x28) then
      some ()
     else none
    else none : Option Unit)).bind fun _ =>
     some ((List.take x27 x28) ++ (List.take x25 x26))
def kem_extract_2 (x21 : List UInt8) (x22 : Nat) (x23 : List Int) : Option ((List Int)) :=
 if ((List.length [72, 80, 75, 69, 45, 118, 49, 75, 69, 77, 0, 32] : Int) + List.length x21 ≤ 9223372036854775807) then
  nm ((List.map (fun q : UInt8 => (q.toNat : Int)) ([72, 80, 75, 69, 45, 118, 49, 75, 69, 77, 0, 32] ++ x21)) : List Int) fun x24 =>
  (slices_Concat_byte_byte_3 x22 x23).bind fun x25 =>
   if (((List.length x24) : Int) + (List.length x25)) * 1 ≤ 140737488355328 then
    (derive_Extract ([] : List Int) (x24 ++ x25)).bind fun x26 =>
     some x26
   else none
 else none
def slices_Concat_byte_byte_4 (x35 : Nat) (x36 : Nat) (x37 : List Int) (x38 : List Int) : Option ((List Int)) :=
 ((cond (decide ((IntKind.wrap .i64 (0 + (x35 : Int))) < 0))
  (none)
  (nm ((IntKind.wrap .i64 ((IntKind.wrap .i64 (0 + (x35 : Int))) + (x36 : Int))) : Int) fun x40 =>
  cond (decide (x40 < 0))
   (none)
   (some x40)) : Option Int)).bind fun x39 =>
  (slices_Grow_byte_byte_2 x39).bind fun r44 => match r44 with
  | (x41, x42) =>
    ((if ((x41 : Int) + (List.length (List.take x35 x37))) * 1 ≤ 140737488355328 then
     if x41 ≤ (List.length x42) then
      if (((List.length ((List.take x41 x42) ++ (List.take x35 x37))) : Int) + (List.length (List.take x36 x38))) * 1 ≤ 140737488355328 then
       nm ((((List.take x41 x42) ++ (List.take x35 x37)) ++ (List.take x36 x38)) : List Int) fun x44 =>
       some x44
      else none
     else none
    else none : Option ((List Int)))).bind fun x43 =>
     some x43
def kem_expand_2 (x28 : List Int) (x29 : List UInt8) (x30 : Nat) (x31 : Nat) (x32 : List Int) (x33 : List Int) : Option ((List Int)) :=
 if ((List.length [0, 32, 72, 80, 75, 69, 45, 118, 49, 75, 69, 77, 0, 32] : Int) + List.length x29 ≤ 9223372036854775807) then
  nm (([0, 32, 72, 80, 75, 69, 45, 118, 49, 75, 69, 77, 0, 32] ++ x29) : List UInt8) fun x34 =>
  (slices_Concat_byte_byte_4 x30 x31 x32 x33).bind fun x35 =>
   if (((List.length (List.map (fun q : UInt8 => (q.toNat : Int)) x34)) : Int) + (List.length x35)) * 1 ≤ 140737488355328 then
    (derive_Expand (List.take 32 x28) ((List.map (fun q : UInt8 => (q.toNat : Int)) x34) ++ x35) 32).bind fun r39 => match r39 with
    | (Sum.inl (x36, x37)) =>
      nm ((over (List.replicate 32 (0 : Int)) 0 (List.take 32 (List.take x36 x37))) : List Int) fun x38 =>
      some x38
    | (Sum.inr x39) =>
      some (List.replicate 32 (0 : Int))
   else none
 else none
def kem_common (x18 : List Int) (x19 : List Int) (x20 : List Int) : Option ((List Int)) :=
 (kem_extract_2 [101, 97, 101, 95, 112, 114, 107] 32 x18).bind fun x21 =>
  (kem_expand_2 x21 [115, 104, 97, 114, 101, 100, 95, 115, 101, 99, 114, 101, 116] 32 32 x19 x20).bind fun x22 =>
   some x22
def kem_Encap (x3 : List Int) (x4 : Nat) (x5 : List Int) : Option ((((List Int) × (List Int)) ⊕ Unit)) :=
 (kem_Pair x4 x5).bind fun r9 => match r9 with
 | (x6, x7) =>
   (ladder_Shared x6 x3).bind fun r9 => match r9 with
   | (Sum.inl x8) =>
     (kem_common x8 x7 x3).bind fun x9 =>
      some (Sum.inl (x7, x9))
   | (Sum.inr ()) =>
     some (Sum.inr ())
def fnum_Num : Option Unit :=
 some ()
def fnum_Num_2_l1 (x16 : Nat) (x17 : List Nat) : Nat -> Int -> Option ((Unit ⊕ Int))
 | 0, _ => none
 | n1 + 1, x19 =>
  cond (decide (x19 < ((List.length x17) : Int)))
   (if (0 : Int) ≤ x19 /\ x19 < ((List.length x17) : Int) then
    (isM errI x16 (List.getD x17 (Int.toNat x19) 0)).bind fun x20 =>
     cond x20
      (some (Sum.inr (IntKind.wrap .i64 (x19 + 1))))
      (fnum_Num_2_l1 x16 x17 n1 (IntKind.wrap .i64 (x19 + 1)))
   else none)
   (some (Sum.inl ()))
def fnum_Num_2 (x16 : Nat) : Option Int :=
 nm ([1, 2, 3, 4, 5, 6, 7, 8, 9, 10, 11, 12, 13, 14, 15, 16, 17, 18, 19] : List Nat) fun x17 =>
 ((fnum_Num_2_l1 x16 x17 FUEL 0 : Option ((Unit ⊕ Int)))).bind fun r1_0_18 => match r1_0_18 with
 | (Sum.inl ()) =>
   some (-1)
 | (Sum.inr x18) =>
   some x18
def fl14_alive : Option Bool :=
 (kem_Encap (List.replicate 32 (0 : Int)) (List.length [120]) [120]).bind fun r9 => match r9 with
 | (Sum.inl (x3, x4)) =>
   (kem_Pair (List.length [120]) [120]).bind fun r6 => match r6 with
   | (x5, x6) =>
     (fnum_Num).bind fun _ =>
      some false
 | (Sum.inr ()) =>
   (kem_Pair (List.length [120]) [120]).bind fun r9 => match r9 with
   | (x7, x8) =>
     (fnum_Num_2 5).bind fun x9 =>
      cond (x9 == 5)
       (some (!(x8 == (List.replicate 32 (0 : Int)))))
       (some false)
def kem_extract_3 (x12 : List UInt8) (x13 : List (List Int)) : Option ((List Int)) :=
 if ((List.length [72, 80, 75, 69, 45, 118, 49, 75, 69, 77, 0, 32] : Int) + List.length x12 ≤ 9223372036854775807) then
  nm ((List.map (fun q : UInt8 => (q.toNat : Int)) ([72, 80, 75, 69, 45, 118, 49, 75, 69, 77, 0, 32] ++ x12)) : List Int) fun x14 =>
  (slices_Concat_byte_byte_2 x13).bind fun r17 => match r17 with
  | (x15, x16) =>
    if (((List.length x14) : Int) + (List.length (List.take x15 x16))) * 1 ≤ 140737488355328 then
     (derive_Extract ([] : List Int) (x14 ++ (List.take x15 x16))).bind fun x17 =>
      some x17
    else none
 else none
def kem_Pair_2 (x11 : List (List Int)) : Option ((List Int) × (List Int)) :=
 (kem_extract_3 [100, 107, 112, 95, 112, 114, 107] x11).bind fun x12 =>
  (kem_expand x12 [115, 107] ([] : List (List Int))).bind fun x13 =>
   (ladder_Base x13).bind fun x14 =>
    some (x13, x14)
def fr10_Clamp (x42 : List Int) : Option ((List Int)) :=
 nm ((IntKind.wrap .u8 ((IntKind.wrap .u8 (Int.tdiv (List.getD x42 0 0) 8)) * 8)) : Int) fun x43 =>
 nm ((IntKind.wrap .u8 ((Int.tmod (List.getD (List.set x42 0 x43) 31 0) 64) + 64)) : Int) fun x44 =>
 some (List.set (List.set x42 0 x43) 31 x44)
def kem_Encap_2 (x12 : List Int) (x13 : List (List Int)) : Option ((((List Int) × (List Int)) ⊕ Unit)) :=
 (kem_Pair_2 x13).bind fun r17 => match r17 with
 | (x14, x15) =>
   (ladder_Shared x14 x12).bind fun r17 => match r17 with
   | (Sum.inl x16) =>
     (kem_common x16 x15 x12).bind fun x17 =>
      some (Sum.inl (x15, x17))
   | (Sum.inr ()) =>
     some (Sum.inr ())
def kem_Decap (x29 : List Int) (x30 : List Int) : Option ((((List Int)) ⊕ Unit)) :=
 (ladder_Shared x29 x30).bind fun r33 => match r33 with
 | (Sum.inl x31) =>
   (ladder_Base x29).bind fun x32 =>
    (kem_common x31 x30 x32).bind fun x33 =>
     some (Sum.inl x33)
 | (Sum.inr ()) =>
   some (Sum.inr ())
def fl14_KemMeets (x51 : List Int) (x52 : List Int) : Option Bool :=
 (fl14_alive).bind fun x53 =>
  cond (!x53)
   (some false)
   (cond (decide ((List.length x51 : Int) > 300))
    (some true)
    (cond (decide ((List.length x52 : Int) > 300))
     (some true)
     ((kem_Pair_2 [x51]).bind fun r67 => match r67 with
     | (x54, x55) =>
       (kem_Encap_2 x55 [x52]).bind fun r67 => match r67 with
       | (Sum.inl (x56, x57)) =>
         (kem_Decap x54 x56).bind fun r62 => match r62 with
         | (Sum.inl x58) =>
           (kem_Pair_2 [x52]).bind fun r60 => match r60 with
           | (x59, x60) =>
             cond (x57 == x58)
              (some (x56 == x60))
              (some false)
         | (Sum.inr ()) =>
           (kem_Pair_2 [x52]).bind fun r62 => match r62 with
           | (x61, x62) =>
             some false
       | (Sum.inr ()) =>
         (kem_Decap x54 (List.replicate 32 (0 : Int))).bind fun r67 => match r67 with
         | (Sum.inl x63) =>
           (kem_Pair_2 [x52]).bind fun r65 => match r65 with
           | (x64, x65) =>
             some false
         | (Sum.inr ()) =>
           (kem_Pair_2 [x52]).bind fun r67 => match r67 with
           | (x66, x67) =>
             some false)))
end
end Go.Eng
