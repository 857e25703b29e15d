/-
  Part of a proof: SelM.
-/
import Derived.Test.YtedebbmgijcpfaaDoorIss
set_option linter.unusedVariables false
set_option linter.unusedSimpArgs false
set_option linter.unusedVariables false
set_option linter.unusedSimpArgs false
namespace Go.Eng
open Go.Proofs
set_option maxRecDepth 100000
set_option maxHeartbeats 4000000
section
variable (er : Nat -> ErrV)
def errI : List Nat := [4, 3, 1, 2, 5, 6, 7, 8, 9, 10, 11, 12, 13, 14, 15, 16, 17, 18, 19]
structure T_fl08_Case where
 fKey : List Int
 fNonce : List Int
 fWith : List Int
 deriving DecidableEq
def T_fl08_Case.dv (x : T_fl08_Case) : DV := (.cons (.ints .u8 32 x.fKey) (.cons (.roI .u8 x.fNonce) (.cons (.roI .u8 x.fWith) .nil)))
def T_fl08_Case.z : T_fl08_Case := ⟨(List.replicate 32 (0 : Int)), [], []⟩
def slices_Chunk_byte_byte (x11 : List Int) (x12 : Int) : Option Unit :=
 cond (decide (x12 < 1))
  (none)
  (some ())
def stream_word (x22 : List Int) : Option Int :=
 if (0 : Int) < (List.length x22 : Int) then
  if (1 : Int) < (List.length x22 : Int) then
   nm ((IntKind.wrap .u32 ((IntKind.wrap .u32 (List.getD x22 1 0)) * 2 ^ 8)) : Int) fun x23 =>
   if (2 : Int) < (List.length x22 : Int) then
    nm ((IntKind.wrap .u32 ((IntKind.wrap .u32 (List.getD x22 2 0)) * 2 ^ 16)) : Int) fun x24 =>
    nm ((bits .u32 .or (bits .u32 .or (IntKind.wrap .u32 (List.getD x22 0 0)) x23) x24) : Int) fun x25 =>
    if (3 : Int) < (List.length x22 : Int) then
     nm ((IntKind.wrap .u32 ((IntKind.wrap .u32 (List.getD x22 3 0)) * 2 ^ 24)) : Int) fun x26 =>
     some (bits .u32 .or x25 x26)
    else none
   else none
  else none
 else none
def stream_begin_l1 (x18 : List Int) : Nat -> Int -> (List Int) -> Option ((List Int))
 | 0, _, _ => none
 | n1 + 1, x23, x24 =>
  cond (decide (x23 < 8))
   (if (0 : Int) ≤ (IntKind.wrap .i64 (4 * x23)) /\ (IntKind.wrap .i64 (4 * x23)) ≤ 32 then
    (stream_word (List.take (Int.toNat (32 - (IntKind.wrap .i64 (4 * x23)))) (List.drop (Int.toNat (IntKind.wrap .i64 (4 * x23))) x18))).bind fun x25 =>
     if (0 : Int) ≤ (IntKind.wrap .i64 (4 + x23)) /\ (IntKind.wrap .i64 (4 + x23)) < 16 then
      stream_begin_l1 x18 n1 (IntKind.wrap .i64 (x23 + 1)) (List.set x24 (Int.toNat (IntKind.wrap .i64 (4 + x23))) x25)
     else none
   else none)
   (some x24)
def stream_begin_l2 (x20 : List Int) : Nat -> Int -> (List Int) -> Option ((List Int))
 | 0, _, _ => none
 | n2 + 1, x27, x28 =>
  cond (decide (x27 < 3))
   (if (0 : Int) ≤ (IntKind.wrap .i64 (4 * x27)) /\ (IntKind.wrap .i64 (4 * x27)) ≤ (List.length x20 : Int) then
    nm ((List.take (Int.toNat ((List.length x20 : Int) - (IntKind.wrap .i64 (4 * x27)))) (List.drop (Int.toNat (IntKind.wrap .i64 (4 * x27))) x20)) : List Int) fun x29 =>
    (stream_word x29).bind fun x30 =>
     if (0 : Int) ≤ (IntKind.wrap .i64 (13 + x27)) /\ (IntKind.wrap .i64 (13 + x27)) < 16 then
      nm ((List.set x28 (Int.toNat (IntKind.wrap .i64 (13 + x27))) x30) : List Int) fun x31 =>
      stream_begin_l2 x20 n2 (IntKind.wrap .i64 (x27 + 1)) x31
     else none
   else none)
   (some x28)
def stream_begin (x18 : List Int) (x19 : Int) (x20 : List Int) : Option ((List Int)) :=
 nm ((List.set (List.set (List.set (List.set (List.replicate 16 (0 : Int)) 0 1634760805) 1 857760878) 2 2036477234) 3 1797285236) : List Int) fun x21 =>
 ((stream_begin_l1 x18 FUEL 0 x21 : Option ((List Int)))).bind fun x22 =>
  ((stream_begin_l2 x20 FUEL 0 (List.set x22 12 x19) : Option ((List Int)))).bind fun x26 =>
   some x26
def words_Left (x43 : Int) (x44 : Int) : Option Int :=
 if (0 : Int) ≤ (Int.tmod (IntKind.wrap .u64 x44) 32) then
  nm ((IntKind.wrap .u32 (x43 * 2 ^ (min (Int.toNat (Int.tmod (IntKind.wrap .u64 x44) 32)) (IntKind.bits .u32)))) : Int) fun x45 =>
  nm ((IntKind.wrap .u64 (32 - (Int.tmod (IntKind.wrap .u64 x44) 32))) : Int) fun x46 =>
  if (0 : Int) ≤ x46 then
   nm ((Int.fdiv x43 (2 ^ (min (Int.toNat x46) (IntKind.bits .u32)))) : Int) fun x47 =>
   some (bits .u32 .or x45 x47)
  else none
 else none
def stream_Quarter (x39 : Int) (x40 : Int) (x41 : Int) (x42 : Int) : Option (Int × Int × Int × Int) :=
 (words_Left (bits .u32 .xor x42 (IntKind.wrap .u32 (x39 + x40))) 16).bind fun x43 =>
  (words_Left (bits .u32 .xor x40 (IntKind.wrap .u32 (x41 + x43))) 12).bind fun x44 =>
   nm ((bits .u32 .xor x43 (IntKind.wrap .u32 ((IntKind.wrap .u32 (x39 + x40)) + x44))) : Int) fun x45 =>
   (words_Left x45 8).bind fun x46 =>
    nm ((bits .u32 .xor x44 (IntKind.wrap .u32 ((IntKind.wrap .u32 (x41 + x43)) + x46))) : Int) fun x47 =>
    (words_Left x47 7).bind fun x48 =>
     some ((IntKind.wrap .u32 ((IntKind.wrap .u32 (x39 + x40)) + x44)), x48, (IntKind.wrap .u32 ((IntKind.wrap .u32 (x41 + x43)) + x46)), x46)
def stream_state_quarter_2 (x35 : Int) (x36 : Int) (x37 : Int) (x38 : Int) (x39 : List Int) : Option ((List Int)) :=
 if (0 : Int) ≤ x35 /\ x35 < 16 then
  if (0 : Int) ≤ x36 /\ x36 < 16 then
   if (0 : Int) ≤ x37 /\ x37 < 16 then
    if (0 : Int) ≤ x38 /\ x38 < 16 then
     (stream_Quarter (List.getD x39 (Int.toNat x35) 0) (List.getD x39 (Int.toNat x36) 0) (List.getD x39 (Int.toNat x37) 0) (List.getD x39 (Int.toNat x38) 0)).bind fun r45 => match r45 with
     | (x40, x41, x42, x43) =>
       if (0 : Int) ≤ x35 /\ x35 < 16 then
        if (0 : Int) ≤ x36 /\ x36 < 16 then
         nm ((List.set (List.set x39 (Int.toNat x35) x40) (Int.toNat x36) x41) : List Int) fun x44 =>
         if (0 : Int) ≤ x37 /\ x37 < 16 then
          if (0 : Int) ≤ x38 /\ x38 < 16 then
           nm ((List.set (List.set x44 (Int.toNat x37) x42) (Int.toNat x38) x43) : List Int) fun x45 =>
           some x45
          else none
         else none
        else none
       else none
    else none
   else none
  else none
 else none
def stream_state_double_2_l1 : Nat -> Int -> (List Int) -> Option ((List Int))
 | 0, _, _ => none
 | n1 + 1, x36, x37 =>
  cond (decide (x36 < 4))
   ((stream_state_quarter_2 x36 (IntKind.wrap .i64 (4 + x36)) (IntKind.wrap .i64 (8 + x36)) (IntKind.wrap .i64 (12 + x36)) x37).bind fun x38 =>
    stream_state_double_2_l1 n1 (IntKind.wrap .i64 (x36 + 1)) x38)
   (some x37)
def stream_state_double_2_l2 : Nat -> Int -> (List Int) -> Option ((List Int))
 | 0, _, _ => none
 | n2 + 1, x40, x41 =>
  cond (decide (x40 < 4))
   (nm ((IntKind.wrap .i64 (4 + (Int.tmod (IntKind.wrap .i64 (x40 + 1)) 4))) : Int) fun x42 =>
   nm ((IntKind.wrap .i64 (8 + (Int.tmod (IntKind.wrap .i64 (x40 + 2)) 4))) : Int) fun x43 =>
   nm ((IntKind.wrap .i64 (12 + (Int.tmod (IntKind.wrap .i64 (x40 + 3)) 4))) : Int) fun x44 =>
   (stream_state_quarter_2 x40 x42 x43 x44 x41).bind fun x45 =>
    stream_state_double_2_l2 n2 (IntKind.wrap .i64 (x40 + 1)) x45)
   (some x41)
def stream_state_double_2 (x34 : List Int) : Option ((List Int)) :=
 ((stream_state_double_2_l1 FUEL 0 x34 : Option ((List Int)))).bind fun x35 =>
  ((stream_state_double_2_l2 FUEL 0 x35 : Option ((List Int)))).bind fun x39 =>
   some x39
def stream_Block_l2 (x18 : List Int) (x21 : List Int) : Nat -> Int -> (List Int) -> Option (Int × (List Int))
 | 0, _, _ => none
 | n2 + 1, x25, x26 =>
  cond (decide (x25 < 16))
   (if (0 : Int) ≤ x25 /\ x25 < 16 then
    if (0 : Int) ≤ x25 /\ x25 < 16 then
     nm ((IntKind.wrap .u32 ((List.getD x21 (Int.toNat x25) 0) + (List.getD x18 (Int.toNat x25) 0))) : Int) fun x27 =>
     nm ([(IntKind.wrap .u8 x27), (IntKind.wrap .u8 (Int.fdiv x27 (2 ^ 8))), (IntKind.wrap .u8 (Int.fdiv x27 (2 ^ 16))), (IntKind.wrap .u8 (Int.fdiv x27 (2 ^ 24)))] : List Int) fun x28 =>
     if (((List.length x26) : Int) + (List.length x28)) * 1 ≤ 140737488355328 then
      stream_Block_l2 x18 x21 n2 (IntKind.wrap .i64 (x25 + 1)) (x26 ++ x28)
     else none
    else none
   else none)
   (some (x25, x26))
def stream_Block_l1 (x18 : List Int) : Nat -> Int -> (List Int) -> Option ((((List Int)) ⊕ Unit))
 | 0, _, _ => none
 | n1 + 1, x20, x21 =>
  cond (decide (x20 < 10))
   ((stream_state_double_2 x21).bind fun x22 =>
    stream_Block_l1 x18 n1 (IntKind.wrap .i64 (x20 + 1)) x22)
   (((stream_Block_l2 x18 x21 FUEL 0 ([] : List Int) : Option (Int × (List Int)))).bind fun r1_0_24 => match r1_0_24 with
   | (x23, x24) =>
     some (Sum.inl x24))
def stream_Block (x15 : List Int) (x16 : Int) (x17 : List Int) : Option ((((List Int)) ⊕ Unit)) :=
 cond (!((List.length x17 : Int) == 12))
  (some (Sum.inr ()))
  ((stream_begin x15 x16 x17).bind fun x18 =>
   (stream_state_double_2 x18).bind fun x19 =>
    stream_Block_l1 x18 FUEL 1 x19)
def slices_Clone_byte_byte (x32 : List Int) : Option ((List Int)) :=
 if (((List.length ([] : List Int)) : Int) + (List.length x32)) * 1 ≤ 140737488355328 then
  some (([] : List Int) ++ x32)
 else none
def words_Mix_l1 (x31 : List Int) (x32 : List Int) : Nat -> Int -> (List Int) -> Option ((List Int))
 | 0, _, _ => none
 | n1 + 1, x34, x35 =>
  cond (decide (x34 < ((List.length x32) : Int)))
   (if (0 : Int) ≤ x34 /\ x34 < ((List.length x35) : Int) then
    if (0 : Int) ≤ x34 /\ x34 < (List.length x31 : Int) then
     nm ((bits .u8 .xor (List.getD x35 (Int.toNat x34) 0) (List.getD x31 (Int.toNat x34) 0)) : Int) fun x36 =>
     if (0 : Int) ≤ x34 /\ x34 < ((List.length x35) : Int) then
      words_Mix_l1 x31 x32 n1 (IntKind.wrap .i64 (x34 + 1)) (List.set x35 (Int.toNat x34) x36)
     else none
    else none
   else none)
   (some x35)
def words_Mix (x30 : List Int) (x31 : List Int) : Option ((((List Int)) ⊕ Unit)) :=
 cond (!((List.length x30 : Int) == (List.length x31 : Int)))
  (some (Sum.inr ()))
  ((slices_Clone_byte_byte x30).bind fun x32 =>
   ((words_Mix_l1 x31 x32 FUEL 0 x32 : Option ((List Int)))).bind fun x33 =>
    some (Sum.inl x33))
def stream_Turn_l1 (x7 : List Int) (x9 : List Int) (x10 : List Int) : Nat -> Int -> Int -> (List Int) -> Option (((Int × (List Int)) ⊕ (Unit ⊕ (Int × (List Int)))))
 | 0, _, _, _ => none
 | n1 + 1, x19, x20, x21 =>
  cond (decide (x19 < (List.length x10 : Int)))
   (if (0 : Int) ≤ x19 /\ x19 ≤ (List.length x10 : Int) then
    nm ((List.take (Int.toNat ((List.length x10 : Int) - x19)) (List.drop (Int.toNat x19) x10)) : List Int) fun x22 =>
    nm ((if (List.length x22 : Int) < 64 then (List.length x22 : Int) else 64) : Int) fun x23 =>
    if (0 : Int) ≤ x19 /\ x19 ≤ (IntKind.wrap .i64 (x19 + x23)) /\ (IntKind.wrap .i64 (x19 + x23)) ≤ (IntKind.wrap .i64 (x19 + x23)) then
     if (IntKind.wrap .i64 (x19 + x23)) ≤ (List.length x10 : Int) then
      nm ((List.take (Int.toNat ((IntKind.wrap .i64 (x19 + x23)) - x19)) (List.drop (Int.toNat x19) x10)) : List Int) fun x24 =>
      (stream_Block x7 x20 x9).bind fun r26 => match r26 with
      | (Sum.inl x25) =>
        if (List.length x24 : Int) ≤ ((List.length x25) : Int) then
         if (0 : Int) ≤ (List.length x24 : Int) then
          (words_Mix x24 (List.take (Int.toNat ((List.length x24 : Int) - 0)) x25)).bind fun r26 => match r26 with
          | (Sum.inl x26) =>
            if (((List.length x21) : Int) + (List.length x26)) * 1 ≤ 140737488355328 then
             stream_Turn_l1 x7 x9 x10 n1 (IntKind.wrap .i64 (x19 + 64)) (IntKind.wrap .u32 (x20 + 1)) (x21 ++ x26)
            else none
          | (Sum.inr ()) =>
            some (Sum.inr (Sum.inr (x20, x21)))
         else none
        else none
      | (Sum.inr ()) =>
        some (Sum.inr (Sum.inr (x20, x21)))
     else none
    else none
   else none)
   (some (Sum.inl (x20, x21)))
def stream_Turn (x7 : List Int) (x8 : Int) (x9 : List Int) (x10 : List Int) : Option ((((List Int)) ⊕ Nat)) :=
 cond (!((List.length x9 : Int) == 12))
  (some (Sum.inr 4))
  (cond (decide ((List.length x10 : Int) > 65536))
   (some (Sum.inr 3))
   ((slices_Chunk_byte_byte x10 64).bind fun _ =>
    ((((stream_Turn_l1 x7 x9 x10 FUEL 0 x8 ([] : List Int) : Option (((Int × (List Int)) ⊕ (Unit ⊕ (Int × (List Int))))))).bind fun r2_0_18 => match r2_0_18 with
    | (Sum.inl (x15, x16)) =>
      some (Sum.inl (x15, x16))
    | (Sum.inr (Sum.inl ())) =>
      some (Sum.inr (Sum.inl ()))
    | (Sum.inr (Sum.inr (x17, x18))) =>
      some (Sum.inr (Sum.inr (x17, x18))) : Option (((Int × (List Int)) ⊕ (Unit ⊕ (Int × (List Int))))))).bind fun r1_0_14 => match r1_0_14 with
    | (Sum.inl (x11, x12)) =>
      some (Sum.inl x12)
    | (Sum.inr (Sum.inl ())) =>
      some (Sum.inr 4)
    | (Sum.inr (Sum.inr (x13, x14))) =>
      some (Sum.inr 4)))
def seal_filled (x35 : List Int) : Option ((List Int)) :=
 nm ((IntKind.wrap .i64 (16 - (Int.tmod (List.length x35 : Int) 16))) : Int) fun x36 =>
 if (0 : Int) ≤ (Int.tmod x36 16) /\ (Int.tmod x36 16) ≤ (Int.tmod x36 16) /\ (Int.tmod x36 16) ≤ 9223372036854775807 /\ (Int.tmod x36 16) * 1 ≤ 140737488355328 then
  some (List.replicate (Int.toNat (Int.tmod x36 16)) (0 : Int))
 else none
def words_PutLittle_l1 (x41 : Int) : Nat -> Int -> Int -> (List Int) -> Option ((((List Int)) ⊕ Unit))
 | 0, _, _, _ => none
 | n1 + 1, x43, x44, x45 =>
  cond (decide (x44 < x41))
   (if (0 : Int) ≤ x44 /\ x44 < ((List.length (List.replicate (Int.toNat x41) (0 : Int))) : Int) then
    words_PutLittle_l1 x41 n1 (Int.fdiv x43 (2 ^ 8)) (IntKind.wrap .i64 (x44 + 1)) (List.set x45 (Int.toNat x44) (IntKind.wrap .u8 x43))
   else none)
   (some (Sum.inl x45))
def words_PutLittle (x40 : Int) (x41 : Int) : Option ((((List Int)) ⊕ Unit)) :=
 cond (decide (x41 < 0))
  (some (Sum.inr ()))
  (cond (decide (x41 > 8))
   (some (Sum.inr ()))
   (if (0 : Int) ≤ x41 /\ x41 ≤ x41 /\ x41 ≤ 9223372036854775807 /\ x41 * 1 ≤ 140737488355328 then
    cond (decide (0 < x41))
     (if (0 : Int) ≤ 0 /\ 0 < ((List.length (List.replicate (Int.toNat x41) (0 : Int))) : Int) then
      nm ((List.set (List.replicate (Int.toNat x41) (0 : Int)) (Int.toNat 0) (IntKind.wrap .u8 x40)) : List Int) fun x42 =>
      words_PutLittle_l1 x41 FUEL (Int.fdiv x40 (2 ^ 8)) 1 x42
     else none)
     (some (Sum.inl (List.replicate (Int.toNat x41) (0 : Int))))
   else none))
def seal_count (x39 : List Int) : Option (Nat × (List Int)) :=
 (words_PutLittle (IntKind.wrap .u64 (List.length x39 : Int)) 8).bind fun r40 => match r40 with
 | (Sum.inl x40) =>
   some ((List.length (List.replicate (Int.toNat 8) (0 : Int))), x40)
 | (Sum.inr ()) =>
   some ((List.length ([] : List Int)), ([] : List Int))
def seal_code (x28 : List Int) (x29 : List Int) (x30 : List Int) (x31 : List Int) : Option ((((List Int) × Nat × Nat × Nat × Nat × (List Int) × (List Int) × (List Int) × (List Int)) ⊕ ((List Int) × Nat × Nat × Nat × Nat × (List Int) × (List Int) × (List Int) × (List Int)))) :=
 (stream_Block x28 0 x29).bind fun r47 => match r47 with
 | (Sum.inl x32) =>
   nm ((over (List.replicate 32 (0 : Int)) 0 (List.take 32 (List.take (List.length x32) x32))) : List Int) fun x33 =>
   nm ((min (List.length (List.take (List.length x32) x32)) 32 : Nat) : Int) fun x34 =>
   (seal_filled x30).bind fun x35 =>
    (seal_filled x31).bind fun x36 =>
     (seal_count x30).bind fun r40 => match r40 with
     | (x37, x38) =>
       (seal_count x31).bind fun r40 => match r40 with
       | (x39, x40) =>
         some (Sum.inl (x33, (List.length x35), (List.length x36), x37, x39, x35, x36, x38, x40))
 | (Sum.inr ()) =>
   nm ((over (List.replicate 32 (0 : Int)) 0 (List.take 32 ([] : List Int))) : List Int) fun x41 =>
   (seal_filled x30).bind fun x42 =>
    (seal_filled x31).bind fun x43 =>
     (seal_count x30).bind fun r47 => match r47 with
     | (x44, x45) =>
       (seal_count x31).bind fun r47 => match r47 with
       | (x46, x47) =>
         some (Sum.inr (x41, (List.length x42), (List.length x43), x44, x46, x42, x43, x45, x47))
def seal_code_2 (x48 : List Int) (x49 : List Int) (x50 : List Int) (x51 : List Int) : Option ((((List Int) × Nat × Nat × Nat × Nat × (List Int) × (List Int) × (List Int) × (List Int)) ⊕ ((List Int) × Nat × Nat × Nat × Nat × (List Int) × (List Int) × (List Int) × (List Int)))) :=
 (stream_Block x48 0 x49).bind fun r67 => match r67 with
 | (Sum.inl x52) =>
   nm ((over (List.replicate 32 (0 : Int)) 0 (List.take 32 (List.take (List.length x52) x52))) : List Int) fun x53 =>
   nm ((min (List.length (List.take (List.length x52) x52)) 32 : Nat) : Int) fun x54 =>
   (seal_filled x50).bind fun x55 =>
    (seal_filled x51).bind fun x56 =>
     (seal_count x50).bind fun r60 => match r60 with
     | (x57, x58) =>
       (seal_count x51).bind fun r60 => match r60 with
       | (x59, x60) =>
         some (Sum.inl (x53, (List.length x55), (List.length x56), x57, x59, x55, x56, x58, x60))
 | (Sum.inr ()) =>
   nm ((over (List.replicate 32 (0 : Int)) 0 (List.take 32 ([] : List Int))) : List Int) fun x61 =>
   (seal_filled x50).bind fun x62 =>
    (seal_filled x51).bind fun x63 =>
     (seal_count x50).bind fun r67 => match r67 with
     | (x64, x65) =>
       (seal_count x51).bind fun r67 => match r67 with
       | (x66, x67) =>
         some (Sum.inr (x61, (List.length x62), (List.length x63), x64, x66, x62, x63, x65, x67))
def onetime_read_l2 (x94 : List Int) (x97 : Int) : Nat -> Int -> Int -> Option Int
 | 0, _, _ => none
 | n2 + 1, x100, x101 =>
  cond (decide (x101 ≥ 0))
   (nm ((IntKind.wrap .i64 (Int.tdiv (IntKind.wrap .i64 (26 * x97)) 8)) : Int) fun x102 =>
   if (0 : Int) ≤ (IntKind.wrap .i64 (x102 + x101)) /\ (IntKind.wrap .i64 (x102 + x101)) < ((List.length (List.replicate 32 (0 : Int))) : Int) then
    nm ((List.getD x94 (Int.toNat (IntKind.wrap .i64 (x102 + x101))) 0) : Int) fun x103 =>
    nm ((bits .u64 .or (IntKind.wrap .u64 (x100 * 2 ^ 8)) (IntKind.wrap .u64 x103)) : Int) fun x104 =>
    onetime_read_l2 x94 x97 n2 x104 (IntKind.wrap .i64 (x101 - 1))
   else none)
   (some x100)
def onetime_read_l1 (x94 : List Int) : Nat -> Int -> (List Int) -> Option ((List Int))
 | 0, _, _ => none
 | n1 + 1, x97, x98 =>
  cond (decide (x97 < 5))
   (((onetime_read_l2 x94 x97 FUEL 0 4 : Option Int)).bind fun x99 =>
    if (0 : Int) ≤ (Int.tmod (IntKind.wrap .i64 (26 * x97)) 8) then
     nm ((Int.fdiv x99 (2 ^ (min (Int.toNat (Int.tmod (IntKind.wrap .i64 (26 * x97)) 8)) (IntKind.bits .u64)))) : Int) fun x105 =>
     if (0 : Int) ≤ x97 /\ x97 < 5 then
      nm ((List.set x98 (Int.toNat x97) (bits .u64 .and x105 67108863)) : List Int) fun x106 =>
      onetime_read_l1 x94 n1 (IntKind.wrap .i64 (x97 + 1)) x106
     else none
    else none)
   (some x98)
def onetime_read (x93 : List Int) : Option ((List Int)) :=
 nm ((over (List.replicate 32 (0 : Int)) 0 (List.take (List.length (List.replicate 32 (0 : Int))) x93)) : List Int) fun x94 =>
 nm ((min (List.length x93) (List.length (List.replicate 32 (0 : Int))) : Nat) : Int) fun x95 =>
 ((onetime_read_l1 x94 FUEL 0 (List.replicate 5 (0 : Int)) : Option ((List Int)))).bind fun x96 =>
  some x96
def onetime_clamped_l1 (x90 : List Int) : Nat -> Int -> (List Int) -> Option ((List Int))
 | 0, _, _ => none
 | n1 + 1, x92, x93 =>
  cond (decide (x92 < ((List.length [3, 7, 11, 15]) : Int)))
   (if (0 : Int) ≤ x92 /\ x92 < ((List.length [3, 7, 11, 15]) : Int) then
    if (0 : Int) ≤ (List.getD [3, 7, 11, 15] (Int.toNat x92) 0) /\ (List.getD [3, 7, 11, 15] (Int.toNat x92) 0) < ((List.length x90) : Int) then
     nm ((List.getD x93 (Int.toNat (List.getD [3, 7, 11, 15] (Int.toNat x92) 0)) 0) : Int) fun x94 =>
     if (0 : Int) ≤ (List.getD [3, 7, 11, 15] (Int.toNat x92) 0) /\ (List.getD [3, 7, 11, 15] (Int.toNat x92) 0) < ((List.length x90) : Int) then
      nm ((List.set x93 (Int.toNat (List.getD [3, 7, 11, 15] (Int.toNat x92) 0)) (bits .u8 .and x94 15)) : List Int) fun x95 =>
      onetime_clamped_l1 x90 n1 (IntKind.wrap .i64 (x92 + 1)) x95
     else none
    else none
   else none)
   (some x93)
def onetime_clamped_l2 (x90 : List Int) : Nat -> Int -> (List Int) -> Option ((List Int))
 | 0, _, _ => none
 | n2 + 1, x97, x98 =>
  cond (decide (x97 < ((List.length [4, 8, 12]) : Int)))
   (if (0 : Int) ≤ x97 /\ x97 < ((List.length [4, 8, 12]) : Int) then
    if (0 : Int) ≤ (List.getD [4, 8, 12] (Int.toNat x97) 0) /\ (List.getD [4, 8, 12] (Int.toNat x97) 0) < ((List.length x90) : Int) then
     nm ((List.getD x98 (Int.toNat (List.getD [4, 8, 12] (Int.toNat x97) 0)) 0) : Int) fun x99 =>
     if (0 : Int) ≤ (List.getD [4, 8, 12] (Int.toNat x97) 0) /\ (List.getD [4, 8, 12] (Int.toNat x97) 0) < ((List.length x90) : Int) then
      nm ((List.set x98 (Int.toNat (List.getD [4, 8, 12] (Int.toNat x97) 0)) (bits .u8 .and x99 252)) : List Int) fun x100 =>
      onetime_clamped_l2 x90 n2 (IntKind.wrap .i64 (x97 + 1)) x100
     else none
    else none
   else none)
   (some x98)
def onetime_clamped (x89 : List Int) : Option ((List Int)) :=
 (slices_Clone_byte_byte (List.take 16 x89)).bind fun x90 =>
  ((onetime_clamped_l1 x90 FUEL 0 x90 : Option ((List Int)))).bind fun x91 =>
   ((onetime_clamped_l2 x90 FUEL 0 x91 : Option ((List Int)))).bind fun x96 =>
    (onetime_read (List.take (List.length x90) x96)).bind fun x101 =>
     some x101
def slices_Grow_byte_byte_2 (x117 : Int) : Option (Nat × (List Int)) :=
 cond (decide (x117 < 0))
  (none)
  (((cond (decide ((IntKind.wrap .i64 (x117 - 0)) > 0))
   (if (0 : Int) ≤ (IntKind.wrap .i64 (x117 - 0)) /\ (IntKind.wrap .i64 (x117 - 0)) * 1 ≤ 140737488355328 then
    nm ((List.replicate (Int.toNat (IntKind.wrap .i64 (x117 - 0))) (0 : Int)) : List Int) fun x120 =>
    if 0 ≤ ((List.length x120) : Int) then
     some (0, x120)
    else none
   else none)
   (some ((List.length ([] : List Int)), ([] : List Int))) : Option (Nat × (List Int)))).bind fun r1_0_119 => match r1_0_119 with
  | (x118, x119) =>
    some (x118, x119))
def slices_Concat_byte_byte (x103 : List Int) (x104 : Nat) (x105 : Nat) (x106 : Nat) (x107 : Nat) (x108 : Nat) (x109 : List Int) (x110 : List Int) (x111 : List Int) (x112 : List Int) (x113 : List Int) : Option ((List Int)) :=
 ((nm ((decide ((IntKind.wrap .i64 (0 + (List.length x103 : Int))) < 0)) : Bool) fun x115 =>
 cond x115
  (none)
  (nm ((IntKind.wrap .i64 ((IntKind.wrap .i64 (0 + (List.length x103 : Int))) + (x104 : Int))) : Int) fun x116 =>
  cond (decide (x116 < 0))
   (none)
   (cond (decide ((IntKind.wrap .i64 (x116 + (x105 : Int))) < 0))
    (none)
    (nm ((IntKind.wrap .i64 ((IntKind.wrap .i64 (x116 + (x105 : Int))) + (x106 : Int))) : Int) fun x117 =>
    cond (decide (x117 < 0))
     (none)
     (cond (decide ((IntKind.wrap .i64 (x117 + (x107 : Int))) < 0))
      (none)
      (nm ((IntKind.wrap .i64 ((IntKind.wrap .i64 (x117 + (x107 : Int))) + (x108 : Int))) : Int) fun x118 =>
      cond (decide (x118 < 0))
       (none)
       (some x118)))))) : Option Int)).bind fun x114 =>
  (slices_Grow_byte_byte_2 x114).bind fun r123 => match r123 with
  | (x119, x120) =>
    ((if ((x119 : Int) + (List.length x103)) * 1 ≤ 140737488355328 then
     if x119 ≤ (List.length x120) then
      if (((List.length ((List.take x119 x120) ++ x103)) : Int) + (List.length (List.take x104 x109))) * 1 ≤ 140737488355328 then
       if (((List.length (((List.take x119 x120) ++ x103) ++ (List.take x104 x109))) : Int) + (List.length (List.take x105 x110))) * 1 ≤ 140737488355328 then
        nm (((((List.take x119 x120) ++ x103) ++ (List.take x104 x109)) ++ (List.take x105 x110)) : List Int) fun x122 =>
        if (((List.length x122) : Int) + (List.length (List.take x106 x111))) * 1 ≤ 140737488355328 then
         if (((List.length (x122 ++ (List.take x106 x111))) : Int) + (List.length (List.take x107 x112))) * 1 ≤ 140737488355328 then
          if (((List.length ((x122 ++ (List.take x106 x111)) ++ (List.take x107 x112))) : Int) + (List.length (List.take x108 x113))) * 1 ≤ 140737488355328 then
           nm ((((x122 ++ (List.take x106 x111)) ++ (List.take x107 x112)) ++ (List.take x108 x113)) : List Int) fun x123 =>
           some x123
          else none
         else none
        else none
       else none
      else none
     else none
    else none : Option ((List Int)))).bind fun x121 =>
     some x121
def slices_Chunk_byte_byte_2 (x125 : Int) (x126 : List Int) : Option Unit :=
 cond (decide (x125 < 1))
  (none)
  (some ())
def onetime_number_carry_2_l2 : Nat -> Int -> Int -> (List Int) -> Option (Int × (List Int))
 | 0, _, _, _ => none
 | n2 + 1, x141, x142, x143 =>
  cond (decide (x142 < 5))
   (if (0 : Int) ≤ x142 /\ x142 < 5 then
    nm ((IntKind.wrap .u64 ((List.getD x143 (Int.toNat x142) 0) + x141)) : Int) fun x144 =>
    if (0 : Int) ≤ x142 /\ x142 < 5 then
     if (0 : Int) ≤ x142 /\ x142 < 5 then
      nm ((List.getD (List.set x143 (Int.toNat x142) x144) (Int.toNat x142) 0) : Int) fun x145 =>
      if (0 : Int) ≤ x142 /\ x142 < 5 then
       nm ((List.getD (List.set x143 (Int.toNat x142) x144) (Int.toNat x142) 0) : Int) fun x146 =>
       if (0 : Int) ≤ x142 /\ x142 < 5 then
        nm ((List.set (List.set x143 (Int.toNat x142) x144) (Int.toNat x142) (bits .u64 .and x146 67108863)) : List Int) fun x147 =>
        onetime_number_carry_2_l2 n2 (Int.fdiv x145 (2 ^ 26)) (IntKind.wrap .i64 (x142 + 1)) x147
       else none
      else none
     else none
    else none
   else none)
   (some (x141, x143))
def onetime_number_carry_2_l1 : Nat -> Int -> (List Int) -> Option ((List Int))
 | 0, _, _ => none
 | n1 + 1, x137, x138 =>
  cond (decide (x137 < 2))
   (((onetime_number_carry_2_l2 FUEL 0 0 x138 : Option (Int × (List Int)))).bind fun r2_0_140 => match r2_0_140 with
   | (x139, x140) =>
     nm ((IntKind.wrap .u64 ((List.getD x140 0 0) + (IntKind.wrap .u64 (5 * x139)))) : Int) fun x148 =>
     onetime_number_carry_2_l1 n1 (IntKind.wrap .i64 (x137 + 1)) (List.set x140 0 x148))
   (some x138)
def onetime_number_carry_2 (x135 : List Int) : Option ((List Int)) :=
 ((onetime_number_carry_2_l1 FUEL 0 x135 : Option ((List Int)))).bind fun x136 =>
  some x136
def onetime_times_l2 (x131 : List Int) (x132 : List Int) (x134 : Int) : Nat -> Int -> (List Int) -> Option ((List Int))
 | 0, _, _ => none
 | n2 + 1, x137, x138 =>
  cond (decide (x137 < 5))
   (if (0 : Int) ≤ x137 /\ x137 < 5 then
    nm ((IntKind.wrap .u64 ((List.getD x131 (Int.toNat x134) 0) * (List.getD x132 (Int.toNat x137) 0))) : Int) fun x139 =>
    ((cond (decide ((IntKind.wrap .i64 (x134 + x137)) ≥ 5))
     (some (IntKind.wrap .u64 (x139 * 5)))
     (some x139) : Option Int)).bind fun x140 =>
     if (0 : Int) ≤ (Int.tmod (IntKind.wrap .i64 (x134 + x137)) 5) /\ (Int.tmod (IntKind.wrap .i64 (x134 + x137)) 5) < 5 then
      nm ((List.getD x138 (Int.toNat (Int.tmod (IntKind.wrap .i64 (x134 + x137)) 5)) 0) : Int) fun x141 =>
      if (0 : Int) ≤ (Int.tmod (IntKind.wrap .i64 (x134 + x137)) 5) /\ (Int.tmod (IntKind.wrap .i64 (x134 + x137)) 5) < 5 then
       nm ((List.set x138 (Int.toNat (Int.tmod (IntKind.wrap .i64 (x134 + x137)) 5)) (IntKind.wrap .u64 (x141 + x140))) : List Int) fun x142 =>
       onetime_times_l2 x131 x132 x134 n2 (IntKind.wrap .i64 (x137 + 1)) x142
      else none
     else none
   else none)
   (some x138)
def onetime_times_l1 (x131 : List Int) (x132 : List Int) : Nat -> Int -> (List Int) -> Option ((List Int))
 | 0, _, _ => none
 | n1 + 1, x134, x135 =>
  cond (decide (x134 < 5))
   (if (0 : Int) ≤ x134 /\ x134 < 5 then
    ((onetime_times_l2 x131 x132 x134 FUEL 0 x135 : Option ((List Int)))).bind fun x136 =>
     onetime_times_l1 x131 x132 n1 (IntKind.wrap .i64 (x134 + 1)) x136
   else none)
   (some x135)
def onetime_times (x131 : List Int) (x132 : List Int) : Option ((List Int)) :=
 ((onetime_times_l1 x131 x132 FUEL 0 (List.replicate 5 (0 : Int)) : Option ((List Int)))).bind fun x133 =>
  (onetime_number_carry_2 x133).bind fun x143 =>
   some x143
def words_Pick (x134 : Bool) (x135 : Int) (x136 : Int) : Option Int :=
 ((cond x134
  (some 18446744073709551615)
  (some 0) : Option Int)).bind fun x137 =>
  nm ((bits .u64 .or (bits .u64 .and x135 x137) (bits .u64 .andNot x136 x137)) : Int) fun x138 =>
  some x138
def onetime_number_least_l1 : Nat -> Int -> (List Int) -> Option ((List Int))
 | 0, _, _ => none
 | n1 + 1, x133, x134 =>
  cond (decide (x133 < 4))
   (if (0 : Int) ≤ (IntKind.wrap .i64 (x133 + 1)) /\ (IntKind.wrap .i64 (x133 + 1)) < 5 then
    nm ((List.getD x134 (Int.toNat (IntKind.wrap .i64 (x133 + 1))) 0) : Int) fun x135 =>
    if (0 : Int) ≤ x133 /\ x133 < 5 then
     nm ((IntKind.wrap .u64 (x135 + (Int.fdiv (List.getD x134 (Int.toNat x133) 0) (2 ^ 26)))) : Int) fun x136 =>
     if (0 : Int) ≤ (IntKind.wrap .i64 (x133 + 1)) /\ (IntKind.wrap .i64 (x133 + 1)) < 5 then
      nm ((List.set x134 (Int.toNat (IntKind.wrap .i64 (x133 + 1))) x136) : List Int) fun x137 =>
      if (0 : Int) ≤ x133 /\ x133 < 5 then
       nm ((bits .u64 .and (List.getD x137 (Int.toNat x133) 0) 67108863) : Int) fun x138 =>
       if (0 : Int) ≤ x133 /\ x133 < 5 then
        onetime_number_least_l1 n1 (IntKind.wrap .i64 (x133 + 1)) (List.set x137 (Int.toNat x133) x138)
       else none
      else none
     else none
    else none
   else none)
   (some x134)
def onetime_number_least_l2 (x132 : List Int) (x139 : List Int) : Nat -> Int -> (List Int) -> Option ((List Int))
 | 0, _, _ => none
 | n2 + 1, x141, x142 =>
  cond (decide (x141 < 5))
   (if (0 : Int) ≤ x141 /\ x141 < 5 then
    if (0 : Int) ≤ x141 /\ x141 < 5 then
     (words_Pick (!((Int.fdiv (List.getD x132 4 0) (2 ^ 26)) == 0)) (List.getD x139 (Int.toNat x141) 0) (List.getD x142 (Int.toNat x141) 0)).bind fun x143 =>
      if (0 : Int) ≤ x141 /\ x141 < 5 then
       onetime_number_least_l2 x132 x139 n2 (IntKind.wrap .i64 (x141 + 1)) (List.set x142 (Int.toNat x141) x143)
      else none
    else none
   else none)
   (some x142)
def onetime_number_least (x128 : List Int) : Option ((List Int)) :=
 (onetime_number_carry_2 x128).bind fun x129 =>
  (onetime_number_carry_2 x129).bind fun x130 =>
   nm ((List.set x130 0 (IntKind.wrap .u64 ((List.getD x130 0 0) + 5))) : List Int) fun x131 =>
   ((onetime_number_least_l1 FUEL 0 x131 : Option ((List Int)))).bind fun x132 =>
    nm ((List.set x132 4 (bits .u64 .and (List.getD x132 4 0) 67108863)) : List Int) fun x139 =>
    ((onetime_number_least_l2 x132 x139 FUEL 0 x130 : Option ((List Int)))).bind fun x140 =>
     some x140
def onetime_number_low_l2 (x145 : List Int) (x147 : Int) : Nat -> Int -> Int -> Option Int
 | 0, _, _ => none
 | n2 + 1, x150, x151 =>
  cond (decide (x151 < 8))
   (nm ((IntKind.wrap .i64 (Int.tdiv (IntKind.wrap .i64 ((IntKind.wrap .i64 (8 * x147)) + x151)) 26)) : Int) fun x152 =>
   if (0 : Int) ≤ x152 /\ x152 < 5 then
    nm ((Int.tmod (IntKind.wrap .i64 ((IntKind.wrap .i64 (8 * x147)) + x151)) 26) : Int) fun x153 =>
    if (0 : Int) ≤ x153 then
     nm ((Int.fdiv (List.getD x145 (Int.toNat x152) 0) (2 ^ (min (Int.toNat x153) (IntKind.bits .u64)))) : Int) fun x154 =>
     if (0 : Int) ≤ x151 then
      nm ((IntKind.wrap .u64 ((bits .u64 .and x154 1) * 2 ^ (min (Int.toNat x151) (IntKind.bits .u64)))) : Int) fun x155 =>
      onetime_number_low_l2 x145 x147 n2 (bits .u64 .or x150 x155) (IntKind.wrap .i64 (x151 + 1))
     else none
    else none
   else none)
   (some x150)
def onetime_number_low_l1 (x145 : List Int) : Nat -> Int -> (List Int) -> Option ((List Int))
 | 0, _, _ => none
 | n1 + 1, x147, x148 =>
  cond (decide (x147 < 16))
   (((onetime_number_low_l2 x145 x147 FUEL 0 0 : Option Int)).bind fun x149 =>
    if (0 : Int) ≤ x147 /\ x147 < 16 then
     onetime_number_low_l1 x145 n1 (IntKind.wrap .i64 (x147 + 1)) (List.set x148 (Int.toNat x147) (IntKind.wrap .u8 x149))
    else none)
   (some x148)
def onetime_number_low (x145 : List Int) : Option ((List Int)) :=
 ((onetime_number_low_l1 x145 FUEL 0 (List.replicate 16 (0 : Int)) : Option ((List Int)))).bind fun x146 =>
  some x146
def onetime_Sum_l2 (x97 : List Int) : Nat -> Int -> (List Int) -> Option ((List Int))
 | 0, _, _ => none
 | n2 + 1, x99, x100 =>
  cond (decide (x99 < 5))
   (if (0 : Int) ≤ x99 /\ x99 < 5 then
    if (0 : Int) ≤ x99 /\ x99 < 5 then
     nm ((IntKind.wrap .u64 ((List.getD x100 (Int.toNat x99) 0) + (List.getD x97 (Int.toNat x99) 0))) : Int) fun x101 =>
     if (0 : Int) ≤ x99 /\ x99 < 5 then
      onetime_Sum_l2 x97 n2 (IntKind.wrap .i64 (x99 + 1)) (List.set x100 (Int.toNat x99) x101)
     else none
    else none
   else none)
   (some x100)
def onetime_Sum_l1 (x89 : List Int) (x90 : List Int) : Nat -> Int -> (List Int) -> Option ((List Int))
 | 0, _, _ => none
 | n1 + 1, x93, x94 =>
  cond (decide (x93 < ((List.length x90) : Int)))
   (if (0 : Int) ≤ x93 /\ x93 ≤ ((List.length x90) : Int) then
    nm ((if ((Int.toNat (((List.length x90) : Int) - x93)) : Int) < 16 then ((Int.toNat (((List.length x90) : Int) - x93)) : Int) else 16) : Int) fun x95 =>
    if (0 : Int) ≤ x93 /\ x93 ≤ (IntKind.wrap .i64 (x93 + x95)) /\ (IntKind.wrap .i64 (x93 + x95)) ≤ (IntKind.wrap .i64 (x93 + x95)) then
     if (IntKind.wrap .i64 (x93 + x95)) ≤ ((List.length x90) : Int) then
      (slices_Clone_byte_byte (List.take (Int.toNat ((IntKind.wrap .i64 (x93 + x95)) - x93)) (List.drop (Int.toNat x93) x90))).bind fun x96 =>
       if (((List.length x96) : Int) + (List.length [1])) * 1 ≤ 140737488355328 then
        (onetime_read (x96 ++ [1])).bind fun x97 =>
         ((onetime_Sum_l2 x97 FUEL 0 x94 : Option ((List Int)))).bind fun x98 =>
          (onetime_times x98 x89).bind fun x102 =>
           onetime_Sum_l1 x89 x90 n1 (IntKind.wrap .i64 (x93 + 16)) x102
       else none
     else none
    else none
   else none)
   (some x94)
def onetime_Sum_l3 (x77 : List Int) : Nat -> Int -> Int -> (List Int) -> Option ((List Int))
 | 0, _, _, _ => none
 | n3 + 1, x106, x107, x108 =>
  cond (decide (x107 < 16))
   (if (0 : Int) ≤ x107 /\ x107 < 16 then
    if (0 : Int) ≤ (IntKind.wrap .i64 (16 + x107)) /\ (IntKind.wrap .i64 (16 + x107)) < 32 then
     nm ((List.getD x77 (Int.toNat (IntKind.wrap .i64 (16 + x107))) 0) : Int) fun x109 =>
     nm ((IntKind.wrap .i64 ((IntKind.wrap .i64 (List.getD x108 (Int.toNat x107) 0)) + (IntKind.wrap .i64 x109))) : Int) fun x110 =>
     if (0 : Int) ≤ x107 /\ x107 < 16 then
      nm ((List.set x108 (Int.toNat x107) (IntKind.wrap .u8 (IntKind.wrap .i64 (x106 + x110)))) : List Int) fun x111 =>
      onetime_Sum_l3 x77 n3 (Int.fdiv (IntKind.wrap .i64 (x106 + x110)) (2 ^ 8)) (IntKind.wrap .i64 (x107 + 1)) x111
     else none
    else none
   else none)
   (some x108)
def onetime_Sum (x77 : List Int) (x78 : List Int) (x79 : Nat) (x80 : Nat) (x81 : Nat) (x82 : Nat) (x83 : Nat) (x84 : List Int) (x85 : List Int) (x86 : List Int) (x87 : List Int) (x88 : List Int) : Option ((List Int)) :=
 (onetime_clamped x77).bind fun x89 =>
  (slices_Concat_byte_byte x78 x79 x80 x81 x82 x83 x84 x85 x86 x87 x88).bind fun x90 =>
   (slices_Chunk_byte_byte_2 16 x90).bind fun _ =>
    ((((onetime_Sum_l1 x89 x90 FUEL 0 (List.replicate 5 (0 : Int)) : Option ((List Int)))).bind fun x92 =>
     some x92 : Option ((List Int)))).bind fun x91 =>
     (onetime_number_least x91).bind fun x103 =>
      (onetime_number_low x103).bind fun x104 =>
       ((onetime_Sum_l3 x77 FUEL 0 0 x104 : Option ((List Int)))).bind fun x105 =>
        some x105
def seal_Seal (x3 : List Int) (x4 : List Int) (x5 : List Int) (x6 : List Int) : Option ((((List Int)) ⊕ Nat)) :=
 cond (!((List.length x4 : Int) == 12))
  (some (Sum.inr 4))
  (cond (decide ((List.length x5 : Int) > 16384))
   (some (Sum.inr 3))
   (cond (decide ((List.length x6 : Int) > 16384))
    (some (Sum.inr 3))
    ((stream_Turn x3 1 x4 x6).bind fun r27 => match r27 with
    | (Sum.inl x7) =>
      (seal_code_2 x3 x4 x5 x7).bind fun r26 => match r26 with
      | (Sum.inl (x8, x9, x10, x11, x12, x13, x14, x15, x16)) =>
        (onetime_Sum x8 x5 x9 (List.length x7) x10 x11 x12 x13 x7 x14 x15 x16).bind fun x17 =>
         if (((List.length x7) : Int) + (List.length (List.take 16 x17))) * 1 ≤ 140737488355328 then
          some (Sum.inl (x7 ++ (List.take 16 x17)))
         else none
      | (Sum.inr (x18, x19, x20, x21, x22, x23, x24, x25, x26)) =>
        some (Sum.inr 4)
    | (Sum.inr x27) =>
      some (Sum.inr x27))))
def slices_Concat_byte_byte_2 (x71 : List Int) (x72 : Nat) (x73 : List Int) (x74 : Nat) (x75 : Nat) (x76 : Nat) (x77 : List Int) (x78 : List Int) (x79 : List Int) (x80 : List Int) : Option ((List Int)) :=
 ((nm ((decide ((IntKind.wrap .i64 (0 + (List.length x71 : Int))) < 0)) : Bool) fun x82 =>
 cond x82
  (none)
  (nm ((IntKind.wrap .i64 ((IntKind.wrap .i64 (0 + (List.length x71 : Int))) + (x72 : Int))) : Int) fun x83 =>
  cond (decide (x83 < 0))
   (none)
   (nm ((decide ((IntKind.wrap .i64 (x83 + (List.length x73 : Int))) < 0)) : Bool) fun x84 =>
   cond x84
    (none)
    (nm ((IntKind.wrap .i64 ((IntKind.wrap .i64 (x83 + (List.length x73 : Int))) + (x74 : Int))) : Int) fun x85 =>
    cond (decide (x85 < 0))
     (none)
     (cond (decide ((IntKind.wrap .i64 (x85 + (x75 : Int))) < 0))
      (none)
      (nm ((IntKind.wrap .i64 ((IntKind.wrap .i64 (x85 + (x75 : Int))) + (x76 : Int))) : Int) fun x86 =>
      cond (decide (x86 < 0))
       (none)
       (some x86)))))) : Option Int)).bind fun x81 =>
  (slices_Grow_byte_byte_2 x81).bind fun r91 => match r91 with
  | (x87, x88) =>
    ((if ((x87 : Int) + (List.length x71)) * 1 ≤ 140737488355328 then
     if x87 ≤ (List.length x88) then
      if (((List.length ((List.take x87 x88) ++ x71)) : Int) + (List.length (List.take x72 x77))) * 1 ≤ 140737488355328 then
       if (((List.length (((List.take x87 x88) ++ x71) ++ (List.take x72 x77))) : Int) + (List.length x73)) * 1 ≤ 140737488355328 then
        nm (((((List.take x87 x88) ++ x71) ++ (List.take x72 x77)) ++ x73) : List Int) fun x90 =>
        if (((List.length x90) : Int) + (List.length (List.take x74 x78))) * 1 ≤ 140737488355328 then
         if (((List.length (x90 ++ (List.take x74 x78))) : Int) + (List.length (List.take x75 x79))) * 1 ≤ 140737488355328 then
          if (((List.length ((x90 ++ (List.take x74 x78)) ++ (List.take x75 x79))) : Int) + (List.length (List.take x76 x80))) * 1 ≤ 140737488355328 then
           nm ((((x90 ++ (List.take x74 x78)) ++ (List.take x75 x79)) ++ (List.take x76 x80)) : List Int) fun x91 =>
           some x91
          else none
         else none
        else none
       else none
      else none
     else none
    else none : Option ((List Int)))).bind fun x89 =>
     some x89
def onetime_Sum_2_l2 (x78 : List Int) : Nat -> Int -> (List Int) -> Option ((List Int))
 | 0, _, _ => none
 | n2 + 1, x80, x81 =>
  cond (decide (x80 < 5))
   (if (0 : Int) ≤ x80 /\ x80 < 5 then
    if (0 : Int) ≤ x80 /\ x80 < 5 then
     nm ((IntKind.wrap .u64 ((List.getD x81 (Int.toNat x80) 0) + (List.getD x78 (Int.toNat x80) 0))) : Int) fun x82 =>
     if (0 : Int) ≤ x80 /\ x80 < 5 then
      onetime_Sum_2_l2 x78 n2 (IntKind.wrap .i64 (x80 + 1)) (List.set x81 (Int.toNat x80) x82)
     else none
    else none
   else none)
   (some x81)
def onetime_Sum_2_l1 (x70 : List Int) (x71 : List Int) : Nat -> Int -> (List Int) -> Option ((List Int))
 | 0, _, _ => none
 | n1 + 1, x74, x75 =>
  cond (decide (x74 < ((List.length x71) : Int)))
   (if (0 : Int) ≤ x74 /\ x74 ≤ ((List.length x71) : Int) then
    nm ((if ((Int.toNat (((List.length x71) : Int) - x74)) : Int) < 16 then ((Int.toNat (((List.length x71) : Int) - x74)) : Int) else 16) : Int) fun x76 =>
    if (0 : Int) ≤ x74 /\ x74 ≤ (IntKind.wrap .i64 (x74 + x76)) /\ (IntKind.wrap .i64 (x74 + x76)) ≤ (IntKind.wrap .i64 (x74 + x76)) then
     if (IntKind.wrap .i64 (x74 + x76)) ≤ ((List.length x71) : Int) then
      (slices_Clone_byte_byte (List.take (Int.toNat ((IntKind.wrap .i64 (x74 + x76)) - x74)) (List.drop (Int.toNat x74) x71))).bind fun x77 =>
       if (((List.length x77) : Int) + (List.length [1])) * 1 ≤ 140737488355328 then
        (onetime_read (x77 ++ [1])).bind fun x78 =>
         ((onetime_Sum_2_l2 x78 FUEL 0 x75 : Option ((List Int)))).bind fun x79 =>
          (onetime_times x79 x70).bind fun x83 =>
           onetime_Sum_2_l1 x70 x71 n1 (IntKind.wrap .i64 (x74 + 16)) x83
       else none
     else none
    else none
   else none)
   (some x75)
def onetime_Sum_2_l3 (x59 : List Int) : Nat -> Int -> Int -> (List Int) -> Option ((List Int))
 | 0, _, _, _ => none
 | n3 + 1, x87, x88, x89 =>
  cond (decide (x88 < 16))
   (if (0 : Int) ≤ x88 /\ x88 < 16 then
    if (0 : Int) ≤ (IntKind.wrap .i64 (16 + x88)) /\ (IntKind.wrap .i64 (16 + x88)) < 32 then
     nm ((IntKind.wrap .i64 (List.getD x59 (Int.toNat (IntKind.wrap .i64 (16 + x88))) 0)) : Int) fun x90 =>
     nm ((IntKind.wrap .i64 ((IntKind.wrap .i64 (List.getD x89 (Int.toNat x88) 0)) + x90)) : Int) fun x91 =>
     if (0 : Int) ≤ x88 /\ x88 < 16 then
      nm ((List.set x89 (Int.toNat x88) (IntKind.wrap .u8 (IntKind.wrap .i64 (x87 + x91)))) : List Int) fun x92 =>
      onetime_Sum_2_l3 x59 n3 (Int.fdiv (IntKind.wrap .i64 (x87 + x91)) (2 ^ 8)) (IntKind.wrap .i64 (x88 + 1)) x92
     else none
    else none
   else none)
   (some x89)
def onetime_Sum_2 (x59 : List Int) (x60 : List Int) (x61 : Nat) (x62 : List Int) (x63 : Nat) (x64 : Nat) (x65 : Nat) (x66 : List Int) (x67 : List Int) (x68 : List Int) (x69 : List Int) : Option ((List Int)) :=
 (onetime_clamped x59).bind fun x70 =>
  (slices_Concat_byte_byte_2 x60 x61 x62 x63 x64 x65 x66 x67 x68 x69).bind fun x71 =>
   (slices_Chunk_byte_byte_2 16 x71).bind fun _ =>
    ((((onetime_Sum_2_l1 x70 x71 FUEL 0 (List.replicate 5 (0 : Int)) : Option ((List Int)))).bind fun x73 =>
     some x73 : Option ((List Int)))).bind fun x72 =>
     (onetime_number_least x72).bind fun x84 =>
      (onetime_number_low x84).bind fun x85 =>
       ((onetime_Sum_2_l3 x59 FUEL 0 0 x85 : Option ((List Int)))).bind fun x86 =>
        some x86
def words_Equal_l1 (x94 : List Int) (x95 : List Int) : Nat -> Int -> Int -> Option Int
 | 0, _, _ => none
 | n1 + 1, x97, x98 =>
  cond (decide (x98 < (List.length x94 : Int)))
   (if (0 : Int) ≤ x98 /\ x98 < (List.length x94 : Int) then
    if (0 : Int) ≤ x98 /\ x98 < (List.length x95 : Int) then
     nm ((bits .u8 .xor (List.getD x94 (Int.toNat x98) 0) (List.getD x95 (Int.toNat x98) 0)) : Int) fun x99 =>
     words_Equal_l1 x94 x95 n1 (bits .u8 .or x97 x99) (IntKind.wrap .i64 (x98 + 1))
    else none
   else none)
   (some x97)
def words_Equal (x94 : List Int) (x95 : List Int) : Option Bool :=
 cond (!((List.length x94 : Int) == (List.length x95 : Int)))
  (some false)
  (((words_Equal_l1 x94 x95 FUEL 0 0 : Option Int)).bind fun x96 =>
   some (x96 == 0))
def onetime_Right (x47 : List Int) (x48 : List Int) (x49 : List Int) (x50 : Nat) (x51 : List Int) (x52 : Nat) (x53 : Nat) (x54 : Nat) (x55 : List Int) (x56 : List Int) (x57 : List Int) (x58 : List Int) : Option Bool :=
 (onetime_Sum_2 x47 x49 x50 x51 x52 x53 x54 x55 x56 x57 x58).bind fun x59 =>
  (words_Equal x48 (List.take 16 x59)).bind fun x60 =>
   some x60
def seal_Open (x30 : List Int) (x31 : List Int) (x32 : List Int) (x33 : List Int) : Option ((((List Int)) ⊕ Nat)) :=
 cond (!((List.length x31 : Int) == 12))
  (some (Sum.inr 4))
  (nm ((decide ((IntKind.wrap .i64 ((List.length x33 : Int) - 16)) < 0)) : Bool) fun x34 =>
  cond x34
   (some (Sum.inr 2))
   (cond (decide ((List.length x32 : Int) > 16384))
    (some (Sum.inr 3))
    (nm ((decide ((IntKind.wrap .i64 ((List.length x33 : Int) - 16)) > 16384)) : Bool) fun x35 =>
    cond x35
     (some (Sum.inr 3))
     (if (IntKind.wrap .i64 ((List.length x33 : Int) - 16)) ≤ (List.length x33 : Int) then
      if (0 : Int) ≤ (IntKind.wrap .i64 ((List.length x33 : Int) - 16)) then
       nm ((List.take (Int.toNat ((IntKind.wrap .i64 ((List.length x33 : Int) - 16)) - 0)) x33) : List Int) fun x36 =>
       (seal_code x30 x31 x32 x36).bind fun r59 => match r59 with
       | (Sum.inl (x37, x38, x39, x40, x41, x42, x43, x44, x45)) =>
         if (0 : Int) ≤ (IntKind.wrap .i64 ((List.length x33 : Int) - 16)) /\ (IntKind.wrap .i64 ((List.length x33 : Int) - 16)) ≤ (List.length x33 : Int) then
          nm ((List.take (Int.toNat ((List.length x33 : Int) - (IntKind.wrap .i64 ((List.length x33 : Int) - 16)))) (List.drop (Int.toNat (IntKind.wrap .i64 ((List.length x33 : Int) - 16))) x33)) : List Int) fun x46 =>
          (onetime_Right x37 x46 x32 x38 x36 x39 x40 x41 x42 x43 x44 x45).bind fun x47 =>
           cond (!x47)
            (some (Sum.inr 7))
            (if (IntKind.wrap .i64 ((List.length x33 : Int) - 16)) ≤ (List.length x33 : Int) then
             if (0 : Int) ≤ (IntKind.wrap .i64 ((List.length x33 : Int) - 16)) then
              nm ((List.take (Int.toNat ((IntKind.wrap .i64 ((List.length x33 : Int) - 16)) - 0)) x33) : List Int) fun x48 =>
              (stream_Turn x30 1 x31 x48).bind fun r50 => match r50 with
              | (Sum.inl x49) =>
                some (Sum.inl x49)
              | (Sum.inr x50) =>
                some (Sum.inr x50)
             else none
            else none)
         else none
       | (Sum.inr (x51, x52, x53, x54, x55, x56, x57, x58, x59)) =>
         some (Sum.inr 4)
      else none
     else none))))
def fl08_alive : Option Bool :=
 (seal_Seal (List.set (List.replicate 32 (0 : Int)) 0 1) (List.replicate 12 (0 : Int)) ([] : List Int) ([] : List Int)).bind fun r11 => match r11 with
 | (Sum.inl x3) =>
   (seal_Seal (List.set (List.replicate 32 (0 : Int)) 0 1) (List.replicate 12 (0 : Int)) [119] [116, 101, 120, 116]).bind fun r8 => match r8 with
   | (Sum.inl x4) =>
     cond (!(((List.length x3) : Int) == 16))
      (some false)
      (cond (!(((List.length x4) : Int) == 20))
       (some false)
       ((seal_Open (List.set (List.replicate 32 (0 : Int)) 0 1) (List.replicate 12 (0 : Int)) [119] x4).bind fun r7 => match r7 with
       | (Sum.inl x5) =>
         nm (((List.map (fun q : Int => UInt8.ofNat q.toNat) x5) == [116, 101, 120, 116]) : Bool) fun x6 =>
         some x6
       | (Sum.inr x7) =>
         some false))
   | (Sum.inr x8) =>
     cond (!(((List.length x3) : Int) == 16))
      (some false)
      (some false)
 | (Sum.inr x9) =>
   (seal_Seal (List.set (List.replicate 32 (0 : Int)) 0 1) (List.replicate 12 (0 : Int)) [119] [116, 101, 120, 116]).bind fun r11 => match r11 with
   | (Sum.inl x10) =>
     some false
   | (Sum.inr x11) =>
     some false
def fnum_Bytes (x13 : List Int) : Option (Nat × (List Int)) :=
 if (0 : Int) ≤ 0 /\ 0 ≤ (IntKind.wrap .i64 ((List.length x13 : Int) + 6)) /\ (IntKind.wrap .i64 ((List.length x13 : Int) + 6)) ≤ 9223372036854775807 /\ (IntKind.wrap .i64 ((List.length x13 : Int) + 6)) * 1 ≤ 140737488355328 then
  if (0 : Int) < (IntKind.wrap .i64 ((List.length x13 : Int) + 6)) then
   nm ((Int.toNat (IntKind.wrap .i64 ((List.length x13 : Int) + 6))) : Nat) fun x14 =>
   if 0 < x14 /\ (0 + (List.length x13)) ≤ x14 /\ ((0 : Int) + (List.length x13)) * 1 ≤ 140737488355328 then
    if 0 < x14 /\ ((0 + (List.length x13)) + (List.length (List.take (List.length [201, 202, 203, 204, 205, 206]) [201, 202, 203, 204, 205, 206]))) ≤ x14 /\ (((0 + (List.length x13)) : Int) + (List.length (List.take (List.length [201, 202, 203, 204, 205, 206]) [201, 202, 203, 204, 205, 206]))) * 1 ≤ 140737488355328 then
     nm (((List.take (0 + (List.length x13)) ((List.take 0 (List.replicate 0 (0 : Int))) ++ x13)) ++ (List.take (List.length [201, 202, 203, 204, 205, 206]) [201, 202, 203, 204, 205, 206])) : List Int) fun x15 =>
     nm (((0 + (List.length x13)) + (List.length (List.take (List.length [201, 202, 203, 204, 205, 206]) [201, 202, 203, 204, 205, 206]))) : Nat) fun x16 =>
     if (List.length x13 : Int) ≤ (x14 : Int) then
      if (0 : Int) ≤ (List.length x13 : Int) then
       if (0 : Int) + (List.length x13 : Int) ≤ (List.length x15) /\ 0 < (x14 : Int) then
        some ((x14 - 0), x15)
       else none
      else none
     else none
    else none
   else none
  else none
 else none
def fr06_word (x31 : List Int) (x32 : Int) : Option Int :=
 if (0 : Int) ≤ (IntKind.wrap .i64 (4 * x32)) /\ (IntKind.wrap .i64 (4 * x32)) < (List.length x31 : Int) then
  nm ((IntKind.wrap .u32 (List.getD x31 (Int.toNat (IntKind.wrap .i64 (4 * x32))) 0)) : Int) fun x33 =>
  if (0 : Int) ≤ (IntKind.wrap .i64 ((IntKind.wrap .i64 (4 * x32)) + 1)) /\ (IntKind.wrap .i64 ((IntKind.wrap .i64 (4 * x32)) + 1)) < (List.length x31 : Int) then
   nm ((List.getD x31 (Int.toNat (IntKind.wrap .i64 ((IntKind.wrap .i64 (4 * x32)) + 1))) 0) : Int) fun x34 =>
   nm ((IntKind.wrap .u32 (x33 + (IntKind.wrap .u32 (256 * (IntKind.wrap .u32 x34))))) : Int) fun x35 =>
   if (0 : Int) ≤ (IntKind.wrap .i64 ((IntKind.wrap .i64 (4 * x32)) + 2)) /\ (IntKind.wrap .i64 ((IntKind.wrap .i64 (4 * x32)) + 2)) < (List.length x31 : Int) then
    nm ((List.getD x31 (Int.toNat (IntKind.wrap .i64 ((IntKind.wrap .i64 (4 * x32)) + 2))) 0) : Int) fun x36 =>
    nm ((IntKind.wrap .u32 (x35 + (IntKind.wrap .u32 (65536 * (IntKind.wrap .u32 x36))))) : Int) fun x37 =>
    if (0 : Int) ≤ (IntKind.wrap .i64 ((IntKind.wrap .i64 (4 * x32)) + 3)) /\ (IntKind.wrap .i64 ((IntKind.wrap .i64 (4 * x32)) + 3)) < (List.length x31 : Int) then
     nm ((List.getD x31 (Int.toNat (IntKind.wrap .i64 ((IntKind.wrap .i64 (4 * x32)) + 3))) 0) : Int) fun x38 =>
     nm ((IntKind.wrap .u32 (x37 + (IntKind.wrap .u32 (16777216 * (IntKind.wrap .u32 x38))))) : Int) fun x39 =>
     some x39
    else none
   else none
  else none
 else none
def fr06_turn (x48 : Int) (x49 : Int) : Option Int :=
 if (0 : Int) ≤ x49 then
  nm ((IntKind.wrap .u32 (x48 * 2 ^ (min (Int.toNat x49) (IntKind.bits .u32)))) : Int) fun x50 =>
  if (0 : Int) ≤ (IntKind.wrap .u64 (32 - x49)) then
   nm ((Int.fdiv x48 (2 ^ (min (Int.toNat (IntKind.wrap .u64 (32 - x49))) (IntKind.bits .u32)))) : Int) fun x51 =>
   some (bits .u32 .or x50 x51)
  else none
 else none
def fr06_Quarter_3 (x66 : Nat) (x67 : Int) (x68 : Int) (x69 : Int) (x70 : Int) (x71 : List Int) : Option ((List Int)) :=
 if (0 : Int) ≤ x67 /\ x67 < (x66 : Int) then
  if (0 : Int) ≤ x68 /\ x68 < (x66 : Int) then
   nm ((IntKind.wrap .u32 ((List.getD x71 (Int.toNat x67) 0) + (List.getD x71 (Int.toNat x68) 0))) : Int) fun x72 =>
   if (0 : Int) ≤ x67 /\ x67 < (x66 : Int) then
    if (0 : Int) ≤ x70 /\ x70 < (x66 : Int) then
     nm ((List.getD (List.set x71 (Int.toNat x67) x72) (Int.toNat x70) 0) : Int) fun x73 =>
     if (0 : Int) ≤ x67 /\ x67 < (x66 : Int) then
      nm ((List.getD (List.set x71 (Int.toNat x67) x72) (Int.toNat x67) 0) : Int) fun x74 =>
      (fr06_turn (bits .u32 .xor x73 x74) 16).bind fun x75 =>
       if (0 : Int) ≤ x70 /\ x70 < (x66 : Int) then
        nm ((List.set (List.set x71 (Int.toNat x67) x72) (Int.toNat x70) x75) : List Int) fun x76 =>
        if (0 : Int) ≤ x69 /\ x69 < (x66 : Int) then
         if (0 : Int) ≤ x70 /\ x70 < (x66 : Int) then
          nm ((IntKind.wrap .u32 ((List.getD x76 (Int.toNat x69) 0) + (List.getD x76 (Int.toNat x70) 0))) : Int) fun x77 =>
          if (0 : Int) ≤ x69 /\ x69 < (x66 : Int) then
           if (0 : Int) ≤ x68 /\ x68 < (x66 : Int) then
            nm ((List.getD (List.set x76 (Int.toNat x69) x77) (Int.toNat x68) 0) : Int) fun x78 =>
            if (0 : Int) ≤ x69 /\ x69 < (x66 : Int) then
             nm ((List.getD (List.set x76 (Int.toNat x69) x77) (Int.toNat x69) 0) : Int) fun x79 =>
             (fr06_turn (bits .u32 .xor x78 x79) 12).bind fun x80 =>
              if (0 : Int) ≤ x68 /\ x68 < (x66 : Int) then
               nm ((List.set (List.set x76 (Int.toNat x69) x77) (Int.toNat x68) x80) : List Int) fun x81 =>
               if (0 : Int) ≤ x67 /\ x67 < (x66 : Int) then
                if (0 : Int) ≤ x68 /\ x68 < (x66 : Int) then
                 nm ((IntKind.wrap .u32 ((List.getD x81 (Int.toNat x67) 0) + (List.getD x81 (Int.toNat x68) 0))) : Int) fun x82 =>
                 if (0 : Int) ≤ x67 /\ x67 < (x66 : Int) then
                  if (0 : Int) ≤ x70 /\ x70 < (x66 : Int) then
                   nm ((List.getD (List.set x81 (Int.toNat x67) x82) (Int.toNat x70) 0) : Int) fun x83 =>
                   if (0 : Int) ≤ x67 /\ x67 < (x66 : Int) then
                    nm ((List.getD (List.set x81 (Int.toNat x67) x82) (Int.toNat x67) 0) : Int) fun x84 =>
                    (fr06_turn (bits .u32 .xor x83 x84) 8).bind fun x85 =>
                     if (0 : Int) ≤ x70 /\ x70 < (x66 : Int) then
                      nm ((List.set (List.set x81 (Int.toNat x67) x82) (Int.toNat x70) x85) : List Int) fun x86 =>
                      if (0 : Int) ≤ x69 /\ x69 < (x66 : Int) then
                       if (0 : Int) ≤ x70 /\ x70 < (x66 : Int) then
                        nm ((IntKind.wrap .u32 ((List.getD x86 (Int.toNat x69) 0) + (List.getD x86 (Int.toNat x70) 0))) : Int) fun x87 =>
                        if (0 : Int) ≤ x69 /\ x69 < (x66 : Int) then
                         if (0 : Int) ≤ x68 /\ x68 < (x66 : Int) then
                          nm ((List.getD (List.set x86 (Int.toNat x69) x87) (Int.toNat x68) 0) : Int) fun x88 =>
                          if (0 : Int) ≤ x69 /\ x69 < (x66 : Int) then
                           nm ((List.getD (List.set x86 (Int.toNat x69) x87) (Int.toNat x69) 0) : Int) fun x89 =>
                           (fr06_turn (bits .u32 .xor x88 x89) 7).bind fun x90 =>
                            if (0 : Int) ≤ x68 /\ x68 < (x66 : Int) then
                             nm ((List.set (List.set x86 (Int.toNat x69) x87) (Int.toNat x68) x90) : List Int) fun x91 =>
                             some x91
                            else none
                          else none
                         else none
                        else none
                       else none
                      else none
                     else none
                   else none
                  else none
                 else none
                else none
               else none
              else none
            else none
           else none
          else none
         else none
        else none
       else none
     else none
    else none
   else none
  else none
 else none
def fr06_Block_l1 (x28 : List Int) : Nat -> Int -> (List Int) -> Option ((List Int))
 | 0, _, _ => none
 | n1 + 1, x32, x33 =>
  cond (decide (x32 < 8))
   ((fr06_word (List.take 32 x28) x32).bind fun x34 =>
    if (((List.length x33) : Int) + (List.length [x34])) * 4 ≤ 140737488355328 then
     fr06_Block_l1 x28 n1 (IntKind.wrap .i64 (x32 + 1)) (x33 ++ [x34])
    else none)
   (some x33)
def fr06_Block_l2 (x29 : Int) (x31 : List Int) (x35 : Int) (x36 : Int) (x37 : Int) : Nat -> Int -> (List Int) -> Option ((List Int))
 | 0, _, _ => none
 | n2 + 1, x39, x40 =>
  cond (decide (x39 < 10))
   ((fr06_Quarter_3 (List.length (([] : List Int) ++ (x31 ++ [x29, x35, x36, x37]))) 0 4 8 12 x40).bind fun x41 =>
    (fr06_Quarter_3 (List.length (([] : List Int) ++ (x31 ++ [x29, x35, x36, x37]))) 1 5 9 13 x41).bind fun x42 =>
     (fr06_Quarter_3 (List.length (([] : List Int) ++ (x31 ++ [x29, x35, x36, x37]))) 2 6 10 14 x42).bind fun x43 =>
      (fr06_Quarter_3 (List.length (([] : List Int) ++ (x31 ++ [x29, x35, x36, x37]))) 3 7 11 15 x43).bind fun x44 =>
       (fr06_Quarter_3 (List.length (([] : List Int) ++ (x31 ++ [x29, x35, x36, x37]))) 0 5 10 15 x44).bind fun x45 =>
        (fr06_Quarter_3 (List.length (([] : List Int) ++ (x31 ++ [x29, x35, x36, x37]))) 1 6 11 12 x45).bind fun x46 =>
         (fr06_Quarter_3 (List.length (([] : List Int) ++ (x31 ++ [x29, x35, x36, x37]))) 2 7 8 13 x46).bind fun x47 =>
          (fr06_Quarter_3 (List.length (([] : List Int) ++ (x31 ++ [x29, x35, x36, x37]))) 3 4 9 14 x47).bind fun x48 =>
           fr06_Block_l2 x29 x31 x35 x36 x37 n2 (IntKind.wrap .i64 (x39 + 1)) x48)
   (some x40)
def fr06_Block_l3 (x29 : Int) (x31 : List Int) (x35 : Int) (x36 : Int) (x37 : Int) (x38 : List Int) : Nat -> Int -> (List Int) -> Option ((List Int))
 | 0, _, _ => none
 | n3 + 1, x50, x51 =>
  cond (decide (x50 < 16))
   (if (0 : Int) ≤ x50 /\ x50 < ((List.length (([] : List Int) ++ (x31 ++ [x29, x35, x36, x37]))) : Int) then
    if (0 : Int) ≤ x50 /\ x50 < ((List.length (x31 ++ [x29, x35, x36, x37])) : Int) then
     nm ((IntKind.wrap .u32 ((List.getD x38 (Int.toNat x50) 0) + (List.getD (x31 ++ [x29, x35, x36, x37]) (Int.toNat x50) 0))) : Int) fun x52 =>
     nm ([(IntKind.wrap .u8 x52), (IntKind.wrap .u8 (Int.fdiv x52 (2 ^ 8))), (IntKind.wrap .u8 (Int.fdiv x52 (2 ^ 16))), (IntKind.wrap .u8 (Int.fdiv x52 (2 ^ 24)))] : List Int) fun x53 =>
     if (((List.length x51) : Int) + (List.length x53)) * 1 ≤ 140737488355328 then
      fr06_Block_l3 x29 x31 x35 x36 x37 x38 n3 (IntKind.wrap .i64 (x50 + 1)) (x51 ++ x53)
     else none
    else none
   else none)
   (some x51)
def fr06_Block (x28 : List Int) (x29 : Int) (x30 : List Int) : Option ((List Int)) :=
 ((fr06_Block_l1 x28 FUEL 0 [1634760805, 857760878, 2036477234, 1797285236] : Option ((List Int)))).bind fun x31 =>
  (fr06_word x30 0).bind fun x35 =>
   (fr06_word x30 1).bind fun x36 =>
    (fr06_word x30 2).bind fun x37 =>
     if (((List.length x31) : Int) + (List.length [x29, x35, x36, x37])) * 4 ≤ 140737488355328 then
      if (((List.length ([] : List Int)) : Int) + (List.length (x31 ++ [x29, x35, x36, x37]))) * 4 ≤ 140737488355328 then
       ((fr06_Block_l2 x29 x31 x35 x36 x37 FUEL 0 (([] : List Int) ++ (x31 ++ [x29, x35, x36, x37])) : Option ((List Int)))).bind fun x38 =>
        ((fr06_Block_l3 x29 x31 x35 x36 x37 x38 FUEL 0 ([] : List Int) : Option ((List Int)))).bind fun x49 =>
         some x49
      else none
     else none
def fr06_Turn_l1 (x24 : List Int) (x25 : Int) (x26 : List Int) (x27 : List Int) : Nat -> Int -> (List Int) -> (List Int) -> Option ((Unit ⊕ (Unit ⊕ ((List Int) × (List Int)))))
 | 0, _, _, _ => none
 | n1 + 1, x30, x31, x32 =>
  cond (decide (x30 < (List.length x27 : Int)))
   (((if (0 : Int) ≤ x30 /\ x30 < (List.length x27 : Int) then
    ((cond ((Int.tmod x30 64) == 0)
     (nm ((IntKind.wrap .u32 (x25 + (IntKind.wrap .u32 (IntKind.wrap .i64 (Int.tdiv x30 64))))) : Int) fun x37 =>
     (fr06_Block x24 x37 x26).bind fun x38 =>
      some (Sum.inl x38))
     (some (Sum.inr ())) : Option ((((List Int)) ⊕ Unit)))).bind fun r3_0_36 => match r3_0_36 with
    | (Sum.inl x36) =>
      if (0 : Int) ≤ (Int.tmod x30 64) /\ (Int.tmod x30 64) < ((List.length x36) : Int) then
       nm ((bits .u8 .xor (List.getD x27 (Int.toNat x30) 0) (List.getD x36 (Int.toNat (Int.tmod x30 64)) 0)) : Int) fun x39 =>
       if (((List.length x31) : Int) + (List.length [x39])) * 1 ≤ 140737488355328 then
        some (Sum.inl ((x31 ++ [x39]), x36))
       else none
      else none
    | (Sum.inr ()) =>
      if (0 : Int) ≤ (Int.tmod x30 64) /\ (Int.tmod x30 64) < ((List.length x32) : Int) then
       nm ((bits .u8 .xor (List.getD x27 (Int.toNat x30) 0) (List.getD x32 (Int.toNat (Int.tmod x30 64)) 0)) : Int) fun x40 =>
       if (((List.length x31) : Int) + (List.length [x40])) * 1 ≤ 140737488355328 then
        some (Sum.inr (x31 ++ [x40]))
       else none
      else none
   else none : Option ((((List Int) × (List Int)) ⊕ (List Int))))).bind fun r2_0_35 => match r2_0_35 with
   | (Sum.inl (x33, x34)) =>
     fr06_Turn_l1 x24 x25 x26 x27 n1 (IntKind.wrap .i64 (x30 + 1)) x33 x34
   | (Sum.inr x35) =>
     fr06_Turn_l1 x24 x25 x26 x27 n1 (IntKind.wrap .i64 (x30 + 1)) x35 x32)
   (some (Sum.inr (Sum.inr (x31, x32))))
def fr06_Turn (x24 : List Int) (x25 : Int) (x26 : List Int) (x27 : List Int) : Option ((List Int)) :=
 ((fr06_Turn_l1 x24 x25 x26 x27 FUEL 0 ([] : List Int) ([] : List Int) : Option ((Unit ⊕ (Unit ⊕ ((List Int) × (List Int))))))).bind fun r1_0_29 => match r1_0_29 with
 | (Sum.inl ()) =>
   some ([] : List Int)
 | (Sum.inr (Sum.inl ())) =>
   some ([] : List Int)
 | (Sum.inr (Sum.inr (x28, x29))) =>
   some x28
def fr08_fill_l1 : Nat -> (List Int) -> Option ((Unit ⊕ (List Int)))
 | 0, _ => none
 | n1 + 1, x50 =>
  cond (!((Int.tmod ((List.length x50) : Int) 16) == 0))
   (if (((List.length x50) : Int) + (List.length [0])) * 1 ≤ 140737488355328 then
    fr08_fill_l1 n1 (x50 ++ [0])
   else none)
   (some (Sum.inr x50))
def fr08_fill (x48 : List Int) : Option ((List Int)) :=
 if (((List.length ([] : List Int)) : Int) + (List.length x48)) * 1 ≤ 140737488355328 then
  ((fr08_fill_l1 FUEL (([] : List Int) ++ x48) : Option ((Unit ⊕ (List Int))))).bind fun r1_0_49 => match r1_0_49 with
  | (Sum.inl ()) =>
    some (([] : List Int) ++ x48)
  | (Sum.inr x49) =>
    some x49
 else none
def fr01_Little_l1 (x54 : Int) : Nat -> Int -> Int -> (List Int) -> Option ((Unit ⊕ (List Int)))
 | 0, _, _, _ => none
 | n1 + 1, x56, x57, x58 =>
  cond (decide (x57 < x54))
   (if (((List.length x58) : Int) + (List.length [(IntKind.wrap .u8 (Int.tmod x56 256))])) * 1 ≤ 140737488355328 then
    fr01_Little_l1 x54 n1 (IntKind.wrap .u64 (Int.tdiv x56 256)) (IntKind.wrap .i64 (x57 + 1)) (x58 ++ [(IntKind.wrap .u8 (Int.tmod x56 256))])
   else none)
   (some (Sum.inr x58))
def fr01_Little (x53 : Int) (x54 : Int) : Option ((List Int)) :=
 ((fr01_Little_l1 x54 FUEL x53 0 ([] : List Int) : Option ((Unit ⊕ (List Int))))).bind fun r1_0_55 => match r1_0_55 with
 | (Sum.inl ()) =>
   some ([] : List Int)
 | (Sum.inr x55) =>
   some x55
def fr07_trim_2_l1 (x72 : List Int) : Nat -> Nat -> Option Nat
 | 0, _ => none
 | n1 + 1, x74 =>
  cond (decide ((x74 : Int) > 0))
   (if (0 : Int) ≤ (IntKind.wrap .i64 ((x74 : Int) - 1)) /\ (IntKind.wrap .i64 ((x74 : Int) - 1)) < (x74 : Int) then
    nm ((List.getD x72 (Int.toNat (IntKind.wrap .i64 ((x74 : Int) - 1))) 0) : Int) fun x75 =>
    cond (x75 == 0)
     (if (IntKind.wrap .i64 ((x74 : Int) - 1)) ≤ (x74 : Int) then
      if (0 : Int) ≤ (IntKind.wrap .i64 ((x74 : Int) - 1)) then
       fr07_trim_2_l1 x72 n1 (Int.toNat ((IntKind.wrap .i64 ((x74 : Int) - 1)) - 0))
      else none
     else none)
     (some x74)
   else none)
   (some x74)
def fr07_trim_2 (x72 : List Int) : Option Nat :=
 ((fr07_trim_2_l1 x72 FUEL (List.length x72) : Option Nat)).bind fun x73 =>
  some x73
def fr07_number_l1 (x65 : List Int) : Nat -> Int -> (List Int) -> Option ((Unit ⊕ (List Int)))
 | 0, _, _ => none
 | n1 + 1, x67, x68 =>
  cond (decide (x67 < (List.length x65 : Int)))
   (if (0 : Int) ≤ x67 /\ x67 < (List.length x65 : Int) then
    if (((List.length x68) : Int) + (List.length [(IntKind.wrap .i64 (List.getD x65 (Int.toNat x67) 0))])) * 8 ≤ 140737488355328 then
     nm ((x68 ++ [(IntKind.wrap .i64 (List.getD x65 (Int.toNat x67) 0))]) : List Int) fun x69 =>
     fr07_number_l1 x65 n1 (IntKind.wrap .i64 (x67 + 1)) x69
    else none
   else none)
   (some (Sum.inr x68))
def fr07_number (x65 : List Int) : Option (Nat × (List Int)) :=
 ((fr07_number_l1 x65 FUEL 0 ([] : List Int) : Option ((Unit ⊕ (List Int))))).bind fun r1_0_66 => match r1_0_66 with
 | (Sum.inl ()) =>
   (fr07_trim_2 ([] : List Int)).bind fun x70 =>
    some (x70, ([] : List Int))
 | (Sum.inr x66) =>
   (fr07_trim_2 x66).bind fun x71 =>
    some (x71, x66)
def fr07_even_l1 (x83 : List Int) : Nat -> Int -> Int -> (List Int) -> Option ((Unit ⊕ (List Int)))
 | 0, _, _, _ => none
 | n1 + 1, x85, x86, x87 =>
  cond (decide (x86 < (List.length x83 : Int)))
   (((cond (decide (x86 < (List.length x83 : Int)))
    (if (0 : Int) ≤ x86 /\ x86 < (List.length x83 : Int) then
     nm ((IntKind.wrap .i64 (x85 + (List.getD x83 (Int.toNat x86) 0))) : Int) fun x89 =>
     some x89
    else none)
    (some x85) : Option Int)).bind fun x88 =>
    if (((List.length x87) : Int) + (List.length [(Int.tmod x88 256)])) * 8 ≤ 140737488355328 then
     fr07_even_l1 x83 n1 (IntKind.wrap .i64 (Int.tdiv x88 256)) (IntKind.wrap .i64 (x86 + 1)) (x87 ++ [(Int.tmod x88 256)])
    else none)
   (cond (decide (x85 > 0))
    (((cond (decide (x86 < (List.length x83 : Int)))
     (if (0 : Int) ≤ x86 /\ x86 < (List.length x83 : Int) then
      nm ((IntKind.wrap .i64 (x85 + (List.getD x83 (Int.toNat x86) 0))) : Int) fun x91 =>
      some x91
     else none)
     (some x85) : Option Int)).bind fun x90 =>
     if (((List.length x87) : Int) + (List.length [(Int.tmod x90 256)])) * 8 ≤ 140737488355328 then
      fr07_even_l1 x83 n1 (IntKind.wrap .i64 (Int.tdiv x90 256)) (IntKind.wrap .i64 (x86 + 1)) (x87 ++ [(Int.tmod x90 256)])
     else none)
    (some (Sum.inr x87)))
def fr07_even (x83 : List Int) : Option (Nat × (List Int)) :=
 ((fr07_even_l1 x83 FUEL 0 0 ([] : List Int) : Option ((Unit ⊕ (List Int))))).bind fun r1_0_84 => match r1_0_84 with
 | (Sum.inl ()) =>
   (fr07_trim_2 ([] : List Int)).bind fun x92 =>
    some (x92, ([] : List Int))
 | (Sum.inr x84) =>
   (fr07_trim_2 x84).bind fun x93 =>
    some (x93, x84)
def fr07_add_l1 (x78 : List Int) (x80 : Int) : Nat -> Int -> (List Int) -> Option ((List Int))
 | 0, _, _ => none
 | n1 + 1, x82, x83 =>
  cond (decide (x82 < (List.length x78 : Int)))
   (if (0 : Int) ≤ x82 /\ x82 < (List.length x78 : Int) then
    if (0 : Int) ≤ x82 /\ x82 < ((List.length (List.replicate (Int.toNat x80) (0 : Int))) : Int) then
     nm ((IntKind.wrap .i64 ((List.getD x83 (Int.toNat x82) 0) + (List.getD x78 (Int.toNat x82) 0))) : Int) fun x84 =>
     if (0 : Int) ≤ x82 /\ x82 < ((List.length (List.replicate (Int.toNat x80) (0 : Int))) : Int) then
      fr07_add_l1 x78 x80 n1 (IntKind.wrap .i64 (x82 + 1)) (List.set x83 (Int.toNat x82) x84)
     else none
    else none
   else none)
   (some x83)
def fr07_add_l2 (x79 : List Int) (x80 : Int) : Nat -> Int -> (List Int) -> Option ((List Int))
 | 0, _, _ => none
 | n2 + 1, x86, x87 =>
  cond (decide (x86 < (List.length x79 : Int)))
   (if (0 : Int) ≤ x86 /\ x86 < (List.length x79 : Int) then
    if (0 : Int) ≤ x86 /\ x86 < ((List.length (List.replicate (Int.toNat x80) (0 : Int))) : Int) then
     nm ((IntKind.wrap .i64 ((List.getD x87 (Int.toNat x86) 0) + (List.getD x79 (Int.toNat x86) 0))) : Int) fun x88 =>
     if (0 : Int) ≤ x86 /\ x86 < ((List.length (List.replicate (Int.toNat x80) (0 : Int))) : Int) then
      fr07_add_l2 x79 x80 n2 (IntKind.wrap .i64 (x86 + 1)) (List.set x87 (Int.toNat x86) x88)
     else none
    else none
   else none)
   (some x87)
def fr07_add (x78 : List Int) (x79 : List Int) : Option (Nat × (List Int)) :=
 nm ((IntKind.wrap .i64 ((List.length x78 : Int) + (List.length x79 : Int))) : Int) fun x80 =>
 if (0 : Int) ≤ x80 /\ x80 ≤ x80 /\ x80 ≤ 9223372036854775807 /\ x80 * 8 ≤ 140737488355328 then
  ((fr07_add_l1 x78 x80 FUEL 0 (List.replicate (Int.toNat x80) (0 : Int)) : Option ((List Int)))).bind fun x81 =>
   ((fr07_add_l2 x79 x80 FUEL 0 x81 : Option ((List Int)))).bind fun x85 =>
    (fr07_even (List.take (List.length (List.replicate (Int.toNat x80) (0 : Int))) x85)).bind fun r90 => match r90 with
    | (x89, x90) =>
      some (x89, x90)
 else none
def fr07_times_l2 (x93 : List Int) (x94 : List Int) (x95 : Int) (x97 : Int) : Nat -> Int -> (List Int) -> Option ((List Int))
 | 0, _, _ => none
 | n2 + 1, x100, x101 =>
  cond (decide (x100 < (List.length x94 : Int)))
   (if (0 : Int) ≤ x100 /\ x100 < (List.length x94 : Int) then
    if (0 : Int) ≤ (IntKind.wrap .i64 (x97 + x100)) /\ (IntKind.wrap .i64 (x97 + x100)) < ((List.length (List.replicate (Int.toNat x95) (0 : Int))) : Int) then
     nm ((List.getD x101 (Int.toNat (IntKind.wrap .i64 (x97 + x100))) 0) : Int) fun x102 =>
     nm ((IntKind.wrap .i64 ((List.getD x93 (Int.toNat x97) 0) * (List.getD x94 (Int.toNat x100) 0))) : Int) fun x103 =>
     if (0 : Int) ≤ (IntKind.wrap .i64 (x97 + x100)) /\ (IntKind.wrap .i64 (x97 + x100)) < ((List.length (List.replicate (Int.toNat x95) (0 : Int))) : Int) then
      nm ((List.set x101 (Int.toNat (IntKind.wrap .i64 (x97 + x100))) (IntKind.wrap .i64 (x102 + x103))) : List Int) fun x104 =>
      fr07_times_l2 x93 x94 x95 x97 n2 (IntKind.wrap .i64 (x100 + 1)) x104
     else none
    else none
   else none)
   (some x101)
def fr07_times_l1 (x93 : List Int) (x94 : List Int) (x95 : Int) : Nat -> Int -> (List Int) -> Option ((List Int))
 | 0, _, _ => none
 | n1 + 1, x97, x98 =>
  cond (decide (x97 < (List.length x93 : Int)))
   (if (0 : Int) ≤ x97 /\ x97 < (List.length x93 : Int) then
    ((fr07_times_l2 x93 x94 x95 x97 FUEL 0 x98 : Option ((List Int)))).bind fun x99 =>
     fr07_times_l1 x93 x94 x95 n1 (IntKind.wrap .i64 (x97 + 1)) x99
   else none)
   (some x98)
def fr07_times (x93 : List Int) (x94 : List Int) : Option (Nat × (List Int)) :=
 nm ((IntKind.wrap .i64 ((List.length x93 : Int) + (List.length x94 : Int))) : Int) fun x95 =>
 if (0 : Int) ≤ x95 /\ x95 ≤ x95 /\ x95 ≤ 9223372036854775807 /\ x95 * 8 ≤ 140737488355328 then
  ((fr07_times_l1 x93 x94 x95 FUEL 0 (List.replicate (Int.toNat x95) (0 : Int)) : Option ((List Int)))).bind fun x96 =>
   (fr07_even (List.take (List.length (List.replicate (Int.toNat x95) (0 : Int))) x96)).bind fun r106 => match r106 with
   | (x105, x106) =>
     some (x105, x106)
 else none
def fr07_halved_l1 (x110 : List Int) : Nat -> Int -> (List Int) -> Option ((Unit ⊕ (List Int)))
 | 0, _, _ => none
 | n1 + 1, x113, x114 =>
  cond (decide (x113 < (List.length x110 : Int)))
   (nm ((decide ((IntKind.wrap .i64 (x113 + 1)) < (List.length x110 : Int))) : Bool) fun x115 =>
   ((cond x115
    (if (0 : Int) ≤ (IntKind.wrap .i64 (x113 + 1)) /\ (IntKind.wrap .i64 (x113 + 1)) < (List.length x110 : Int) then
     nm ((List.getD x110 (Int.toNat (IntKind.wrap .i64 (x113 + 1))) 0) : Int) fun x117 =>
     some x117
    else none)
    (some 0) : Option Int)).bind fun x116 =>
    if (0 : Int) ≤ x113 /\ x113 < (List.length x110 : Int) then
     nm ((IntKind.wrap .i64 (Int.tdiv (List.getD x110 (Int.toNat x113) 0) 4)) : Int) fun x118 =>
     nm ((IntKind.wrap .i64 (x118 + (IntKind.wrap .i64 ((Int.tmod x116 4) * 64)))) : Int) fun x119 =>
     if (((List.length x114) : Int) + (List.length [x119])) * 8 ≤ 140737488355328 then
      fr07_halved_l1 x110 n1 (IntKind.wrap .i64 (x113 + 1)) (x114 ++ [x119])
     else none
    else none)
   (some (Sum.inr x114))
def fr07_halved (x110 : List Int) : Option ((Unit ⊕ (Nat × Nat × (List Int) × (List Int)))) :=
 cond (decide ((List.length x110 : Int) < 17))
  (some (Sum.inl ()))
  (if 17 ≤ (List.length x110 : Int) then
   if (((List.length ([] : List Int)) : Int) + (List.length (List.take 17 x110))) * 8 ≤ 140737488355328 then
    if (16 : Int) < ((List.length (([] : List Int) ++ (List.take 17 x110))) : Int) then
     nm ((Int.tmod (List.getD (([] : List Int) ++ (List.take 17 x110)) 16 0) 4) : Int) fun x111 =>
     if (16 : Int) < ((List.length (([] : List Int) ++ (List.take 17 x110))) : Int) then
      ((fr07_halved_l1 x110 FUEL 16 ([] : List Int) : Option ((Unit ⊕ (List Int))))).bind fun r1_0_112 => match r1_0_112 with
      | (Sum.inl ()) =>
        (fr07_trim_2 ([] : List Int)).bind fun x120 =>
         (fr07_trim_2 (List.set (([] : List Int) ++ (List.take 17 x110)) 16 x111)).bind fun x121 =>
          some (Sum.inr (x120, x121, ([] : List Int), (List.set (([] : List Int) ++ (List.take 17 x110)) 16 x111)))
      | (Sum.inr x112) =>
        (fr07_trim_2 x112).bind fun x122 =>
         (fr07_trim_2 (List.set (([] : List Int) ++ (List.take 17 x110)) 16 x111)).bind fun x123 =>
          some (Sum.inr (x122, x123, x112, (List.set (([] : List Int) ++ (List.take 17 x110)) 16 x111)))
     else none
    else none
   else none
  else none)
def fr07_halved_2_l1 (x114 : Nat) (x115 : List Int) : Nat -> Int -> (List Int) -> Option ((Unit ⊕ (List Int)))
 | 0, _, _ => none
 | n1 + 1, x118, x119 =>
  cond (decide (x118 < (x114 : Int)))
   (((cond (decide ((IntKind.wrap .i64 (x118 + 1)) < (x114 : Int)))
    (if (0 : Int) ≤ (IntKind.wrap .i64 (x118 + 1)) /\ (IntKind.wrap .i64 (x118 + 1)) < (x114 : Int) then
     nm ((List.getD x115 (Int.toNat (IntKind.wrap .i64 (x118 + 1))) 0) : Int) fun x121 =>
     some x121
    else none)
    (some 0) : Option Int)).bind fun x120 =>
    if (0 : Int) ≤ x118 /\ x118 < (x114 : Int) then
     nm ((IntKind.wrap .i64 (Int.tdiv (List.getD x115 (Int.toNat x118) 0) 4)) : Int) fun x122 =>
     nm ((IntKind.wrap .i64 (x122 + (IntKind.wrap .i64 ((Int.tmod x120 4) * 64)))) : Int) fun x123 =>
     if (((List.length x119) : Int) + (List.length [x123])) * 8 ≤ 140737488355328 then
      fr07_halved_2_l1 x114 x115 n1 (IntKind.wrap .i64 (x118 + 1)) (x119 ++ [x123])
     else none
    else none)
   (some (Sum.inr x119))
def fr07_halved_2 (x114 : Nat) (x115 : List Int) : Option ((Unit ⊕ (Nat × Nat × (List Int) × (List Int)))) :=
 cond (decide ((x114 : Int) < 17))
  (some (Sum.inl ()))
  (if 17 ≤ (x114 : Int) then
   if (((List.length ([] : List Int)) : Int) + (List.length (List.take 17 x115))) * 8 ≤ 140737488355328 then
    if (16 : Int) < ((List.length (([] : List Int) ++ (List.take 17 x115))) : Int) then
     nm ((Int.tmod (List.getD (([] : List Int) ++ (List.take 17 x115)) 16 0) 4) : Int) fun x116 =>
     if (16 : Int) < ((List.length (([] : List Int) ++ (List.take 17 x115))) : Int) then
      ((fr07_halved_2_l1 x114 x115 FUEL 16 ([] : List Int) : Option ((Unit ⊕ (List Int))))).bind fun r1_0_117 => match r1_0_117 with
      | (Sum.inl ()) =>
        (fr07_trim_2 ([] : List Int)).bind fun x124 =>
         (fr07_trim_2 (List.set (([] : List Int) ++ (List.take 17 x115)) 16 x116)).bind fun x125 =>
          some (Sum.inr (x124, x125, ([] : List Int), (List.set (([] : List Int) ++ (List.take 17 x115)) 16 x116)))
      | (Sum.inr x117) =>
        (fr07_trim_2 x117).bind fun x126 =>
         (fr07_trim_2 (List.set (([] : List Int) ++ (List.take 17 x115)) 16 x116)).bind fun x127 =>
          some (Sum.inr (x126, x127, x117, (List.set (([] : List Int) ++ (List.take 17 x115)) 16 x116)))
     else none
    else none
   else none
  else none)
def fr07_Mod_l1 : Nat -> (List Int) -> Option ((List Int))
 | 0, _ => none
 | n1 + 1, x112 =>
  (fr07_halved x112).bind fun r120 => match r120 with
  | (Sum.inl ()) =>
    some x112
  | (Sum.inr (x113, x114, x115, x116)) =>
    cond ((x113 : Int) == 0)
     (some x112)
     ((fr07_times (List.take x113 x115) [5]).bind fun r120 => match r120 with
     | (x117, x118) =>
       (fr07_add (List.take x114 x116) (List.take x117 x118)).bind fun r120 => match r120 with
       | (x119, x120) =>
         fr07_Mod_l1 n1 (List.take x119 x120))
def fr07_Mod (x110 : List Int) : Option ((((List Int)) ⊕ (Nat × (List Int)))) :=
 ((fr07_Mod_l1 FUEL x110 : Option ((List Int)))).bind fun x111 =>
  (fr07_add x111 [5]).bind fun r126 => match r126 with
  | (x121, x122) =>
    (fr07_halved_2 x121 x122).bind fun r126 => match r126 with
    | (Sum.inl ()) =>
      some (Sum.inl x111)
    | (Sum.inr (x123, x124, x125, x126)) =>
      cond (decide ((x123 : Int) > 0))
       (some (Sum.inr (x124, x126)))
       (some (Sum.inl x111))
def fr07_Sum_l1 (x67 : List Int) : Nat -> Int -> (List Int) -> Option ((List Int))
 | 0, _, _ => none
 | n1 + 1, x70, x71 =>
  cond (decide (x70 < ((List.length [3, 7, 11, 15]) : Int)))
   (if (0 : Int) ≤ x70 /\ x70 < ((List.length [3, 7, 11, 15]) : Int) then
    if (0 : Int) ≤ (List.getD [3, 7, 11, 15] (Int.toNat x70) 0) /\ (List.getD [3, 7, 11, 15] (Int.toNat x70) 0) < ((List.length (([] : List Int) ++ (List.take 16 x67))) : Int) then
     nm ((List.getD x71 (Int.toNat (List.getD [3, 7, 11, 15] (Int.toNat x70) 0)) 0) : Int) fun x72 =>
     if (0 : Int) ≤ (List.getD [3, 7, 11, 15] (Int.toNat x70) 0) /\ (List.getD [3, 7, 11, 15] (Int.toNat x70) 0) < ((List.length (([] : List Int) ++ (List.take 16 x67))) : Int) then
      nm ((List.set x71 (Int.toNat (List.getD [3, 7, 11, 15] (Int.toNat x70) 0)) (Int.tmod x72 16)) : List Int) fun x73 =>
      fr07_Sum_l1 x67 n1 (IntKind.wrap .i64 (x70 + 1)) x73
     else none
    else none
   else none)
   (some x71)
def fr07_Sum_l2 (x67 : List Int) : Nat -> Int -> (List Int) -> Option ((List Int))
 | 0, _, _ => none
 | n2 + 1, x75, x76 =>
  cond (decide (x75 < ((List.length [4, 8, 12]) : Int)))
   (if (0 : Int) ≤ x75 /\ x75 < ((List.length [4, 8, 12]) : Int) then
    if (0 : Int) ≤ (List.getD [4, 8, 12] (Int.toNat x75) 0) /\ (List.getD [4, 8, 12] (Int.toNat x75) 0) < ((List.length (([] : List Int) ++ (List.take 16 x67))) : Int) then
     nm ((List.getD x76 (Int.toNat (List.getD [4, 8, 12] (Int.toNat x75) 0)) 0) : Int) fun x77 =>
     if (0 : Int) ≤ (List.getD [4, 8, 12] (Int.toNat x75) 0) /\ (List.getD [4, 8, 12] (Int.toNat x75) 0) < ((List.length (([] : List Int) ++ (List.take 16 x67))) : Int) then
      nm ((List.set x76 (Int.toNat (List.getD [4, 8, 12] (Int.toNat x75) 0)) (IntKind.wrap .u8 ((IntKind.wrap .u8 (Int.tdiv x77 4)) * 4))) : List Int) fun x78 =>
      fr07_Sum_l2 x67 n2 (IntKind.wrap .i64 (x75 + 1)) x78
     else none
    else none
   else none)
   (some x76)
def fr07_Sum_l3 (x68 : List Int) (x79 : Nat) (x80 : List Int) : Nat -> (List Int) -> Int -> Option ((List Int))
 | 0, _, _ => none
 | n3 + 1, x82, x83 =>
  cond (decide (x83 < (List.length x68 : Int)))
   (((nm ((decide ((IntKind.wrap .i64 (x83 + 16)) > (List.length x68 : Int))) : Bool) fun x85 =>
   ((cond x85
    (some (List.length x68 : Int))
    (some (IntKind.wrap .i64 (x83 + 16))) : Option Int)).bind fun x86 =>
    if x86 ≤ (List.length x68 : Int) then
     if (0 : Int) ≤ x83 /\ x83 ≤ x86 then
      nm ((List.take (Int.toNat (x86 - x83)) (List.drop (Int.toNat x83) x68)) : List Int) fun x87 =>
      if (((List.length ([] : List Int)) : Int) + (List.length x87)) * 1 ≤ 140737488355328 then
       if (((List.length (([] : List Int) ++ x87)) : Int) + (List.length [1])) * 1 ≤ 140737488355328 then
        (fr07_number ((([] : List Int) ++ x87) ++ [1])).bind fun r96 => match r96 with
        | (x88, x89) =>
          (fr07_add x82 (List.take x88 x89)).bind fun r96 => match r96 with
          | (x90, x91) =>
            (fr07_times (List.take x90 x91) (List.take x79 x80)).bind fun r96 => match r96 with
            | (x92, x93) =>
              (fr07_Mod (List.take x92 x93)).bind fun r96 => match r96 with
              | (Sum.inl x94) =>
                some x94
              | (Sum.inr (x95, x96)) =>
                some (List.take x95 x96)
       else none
      else none
     else none
    else none : Option ((List Int)))).bind fun x84 =>
    fr07_Sum_l3 x68 x79 x80 n3 x84 (IntKind.wrap .i64 (x83 + 16)))
   (some x82)
def fr07_Sum_l4 (x99 : Nat) (x100 : List Int) : Nat -> Int -> (List Int) -> Option ((List Int))
 | 0, _, _ => none
 | n4 + 1, x102, x103 =>
  cond (decide (x102 < 16))
   (cond (decide (x102 < (x99 : Int)))
    (if (0 : Int) ≤ x102 /\ x102 < (x99 : Int) then
     if (0 : Int) ≤ x102 /\ x102 < 16 then
      nm ((List.set x103 (Int.toNat x102) (IntKind.wrap .u8 (List.getD x100 (Int.toNat x102) 0))) : List Int) fun x104 =>
      fr07_Sum_l4 x99 x100 n4 (IntKind.wrap .i64 (x102 + 1)) x104
     else none
    else none)
    (some x103))
   (some x103)
def fr07_Sum (x67 : List Int) (x68 : List Int) : Option ((List Int)) :=
 if (((List.length ([] : List Int)) : Int) + (List.length (List.take 16 x67))) * 1 ≤ 140737488355328 then
  ((fr07_Sum_l1 x67 FUEL 0 (([] : List Int) ++ (List.take 16 x67)) : Option ((List Int)))).bind fun x69 =>
   ((fr07_Sum_l2 x67 FUEL 0 x69 : Option ((List Int)))).bind fun x74 =>
    (fr07_number (List.take (List.length (([] : List Int) ++ (List.take 16 x67))) x74)).bind fun r104 => match r104 with
    | (x79, x80) =>
      ((fr07_Sum_l3 x68 x79 x80 FUEL ([] : List Int) 0 : Option ((List Int)))).bind fun x81 =>
       (fr07_number (List.take 16 (List.drop 16 x67))).bind fun r104 => match r104 with
       | (x97, x98) =>
         (fr07_add x81 (List.take x97 x98)).bind fun r104 => match r104 with
         | (x99, x100) =>
           ((fr07_Sum_l4 x99 x100 FUEL 0 (List.replicate 16 (0 : Int)) : Option ((List Int)))).bind fun x101 =>
            some x101
 else none
def fr08_code_l1 (x46 : List Int) : Nat -> Int -> (List Int) -> Option ((List Int))
 | 0, _, _ => none
 | n1 + 1, x48, x49 =>
  cond (decide (x48 < ((List.length x46) : Int)))
   (if (0 : Int) ≤ x48 /\ x48 < ((List.length x46) : Int) then
    ((cond (decide (x48 < 32))
     (if (0 : Int) ≤ x48 /\ x48 < 32 then
      nm ((List.set x49 (Int.toNat x48) (List.getD x46 (Int.toNat x48) 0)) : List Int) fun x51 =>
      some x51
     else none)
     (some x49) : Option ((List Int)))).bind fun x50 =>
     fr08_code_l1 x46 n1 (IntKind.wrap .i64 (x48 + 1)) x50
   else none)
   (some x49)
def fr08_code (x42 : List Int) (x43 : List Int) (x44 : List Int) (x45 : List Int) : Option ((List Int)) :=
 (fr06_Block x42 0 x43).bind fun x46 =>
  ((fr08_code_l1 x46 FUEL 0 (List.replicate 32 (0 : Int)) : Option ((List Int)))).bind fun x47 =>
   (fr08_fill x44).bind fun x52 =>
    (fr08_fill x45).bind fun x53 =>
     if (((List.length x52) : Int) + (List.length x53)) * 1 ≤ 140737488355328 then
      (fr01_Little (IntKind.wrap .u64 (List.length x44 : Int)) 8).bind fun x54 =>
       if (((List.length (x52 ++ x53)) : Int) + (List.length x54)) * 1 ≤ 140737488355328 then
        (fr01_Little (IntKind.wrap .u64 (List.length x45 : Int)) 8).bind fun x55 =>
         if (((List.length ((x52 ++ x53) ++ x54)) : Int) + (List.length x55)) * 1 ≤ 140737488355328 then
          (fr07_Sum x47 (((x52 ++ x53) ++ x54) ++ x55)).bind fun x56 =>
           some x56
         else none
       else none
     else none
def fnum_Num : Option Unit :=
 some ()
def fnum_Kept_2_l1 (x31 : Nat) (x33 : Nat) (x34 : List Int) (x35 : List Int) : Nat -> Int -> Option ((Unit ⊕ Unit))
 | 0, _ => none
 | n1 + 1, x39 =>
  cond (decide (x39 < 6))
   (if (0 : Int) ≤ (IntKind.wrap .i64 ((List.length x34 : Int) + x39)) /\ (IntKind.wrap .i64 ((List.length x34 : Int) + x39)) < ((Int.toNat ((x33 : Int) - 0)) : Int) then
    nm ((addO (x31 + 0) (Int.toNat (IntKind.wrap .i64 ((List.length x34 : Int) + x39)))) : Nat) fun x40 =>
    nm ((!((List.getD x35 x40 0) == (IntKind.wrap .u8 (IntKind.wrap .i64 (201 + x39))))) : Bool) fun x41 =>
    cond x41
     (some (Sum.inr ()))
     (fnum_Kept_2_l1 x31 x33 x34 x35 n1 (IntKind.wrap .i64 (x39 + 1)))
   else none)
   (some (Sum.inl ()))
def fnum_Kept_2 (x31 : Nat) (x32 : Nat) (x33 : Nat) (x34 : List Int) (x35 : List Int) : Option Bool :=
 if (x33 : Int) ≤ (x33 : Int) then
  if (0 : Int) ≤ (x33 : Int) then
   if (x31 : Int) + (x33 : Int) ≤ (List.length x35) /\ 0 < (x33 : Int) then
    nm ((decide (((Int.toNat ((x33 : Int) - 0)) : Int) < (IntKind.wrap .i64 ((List.length x34 : Int) + 6)))) : Bool) fun x36 =>
    cond x36
     (some false)
     (if (List.length x34 : Int) ≤ ((Int.toNat ((x33 : Int) - 0)) : Int) then
      if (0 : Int) ≤ (List.length x34 : Int) then
       nm ((List.map (fun q : Int => UInt8.ofNat q.toNat) (List.take (Int.toNat ((List.length x34 : Int) - 0)) (List.drop (x31 + 0) x35))) : List UInt8) fun x37 =>
       nm ((!(x37 == (List.map (fun q : Int => UInt8.ofNat q.toNat) x34))) : Bool) fun x38 =>
       cond x38
        (some false)
        (((fnum_Kept_2_l1 x31 x33 x34 x35 FUEL 0 : Option ((Unit ⊕ Unit)))).bind fun r1_0_38 => match r1_0_38 with
        | (Sum.inl ()) =>
          some true
        | (Sum.inr ()) =>
          some false)
      else none
     else none)
   else none
  else none
 else none
def fnum_Num_2_l1 (x50 : Nat) (x51 : List Nat) : Nat -> Int -> Option ((Unit ⊕ Int))
 | 0, _ => none
 | n1 + 1, x53 =>
  cond (decide (x53 < ((List.length x51) : Int)))
   (if (0 : Int) ≤ x53 /\ x53 < ((List.length x51) : Int) then
    (isM errI x50 (List.getD x51 (Int.toNat x53) 0)).bind fun x54 =>
     cond x54
      (some (Sum.inr (IntKind.wrap .i64 (x53 + 1))))
      (fnum_Num_2_l1 x50 x51 n1 (IntKind.wrap .i64 (x53 + 1)))
   else none)
   (some (Sum.inl ()))
def fnum_Num_2 (x50 : Nat) : Option Int :=
 nm ([1, 2, 3, 4, 5, 6, 7, 8, 9, 10, 11, 12, 13, 14, 15, 16, 17, 18, 19] : List Nat) fun x51 =>
 ((fnum_Num_2_l1 x50 x51 FUEL 0 : Option ((Unit ⊕ Int)))).bind fun r1_0_52 => match r1_0_52 with
 | (Sum.inl ()) =>
   some (-1)
 | (Sum.inr x52) =>
   some x52
def fr08_Open (x29 : List Int) (x30 : List Int) (x31 : List Int) (x32 : List Int) : Option (Int × (List Int)) :=
 cond (!((List.length x30 : Int) == 12))
  (some (4, ([] : List Int)))
  (cond (decide ((List.length x32 : Int) < 16))
   (some (2, ([] : List Int)))
   (cond (decide ((List.length x31 : Int) > 16384))
    (some (3, ([] : List Int)))
    (cond (decide ((List.length x32 : Int) > 16400))
     (some (3, ([] : List Int)))
     (if (IntKind.wrap .i64 ((List.length x32 : Int) - 16)) ≤ (List.length x32 : Int) then
      if (0 : Int) ≤ (IntKind.wrap .i64 ((List.length x32 : Int) - 16)) then
       nm ((List.take (Int.toNat ((IntKind.wrap .i64 ((List.length x32 : Int) - 16)) - 0)) x32) : List Int) fun x33 =>
       (fr08_code x29 x30 x31 x33).bind fun x34 =>
        nm ((List.map (fun q : Int => UInt8.ofNat q.toNat) (List.take 16 x34)) : List UInt8) fun x35 =>
        if (0 : Int) ≤ (IntKind.wrap .i64 ((List.length x32 : Int) - 16)) /\ (IntKind.wrap .i64 ((List.length x32 : Int) - 16)) ≤ (List.length x32 : Int) then
         nm ((List.take (Int.toNat ((List.length x32 : Int) - (IntKind.wrap .i64 ((List.length x32 : Int) - 16)))) (List.drop (Int.toNat (IntKind.wrap .i64 ((List.length x32 : Int) - 16))) x32)) : List Int) fun x36 =>
         nm ((!(x35 == (List.map (fun q : Int => UInt8.ofNat q.toNat) x36))) : Bool) fun x37 =>
         cond x37
          (some (7, ([] : List Int)))
          (if (IntKind.wrap .i64 ((List.length x32 : Int) - 16)) ≤ (List.length x32 : Int) then
           if (0 : Int) ≤ (IntKind.wrap .i64 ((List.length x32 : Int) - 16)) then
            nm ((List.take (Int.toNat ((IntKind.wrap .i64 ((List.length x32 : Int) - 16)) - 0)) x32) : List Int) fun x38 =>
            (fr06_Turn x29 1 x30 x38).bind fun x39 =>
             some (0, x39)
           else none
          else none)
        else none
      else none
     else none))))
def fl08_SealOpens (x23 : T_fl08_Case) (x24 : List Int) : Option Bool :=
 (fl08_alive).bind fun x25 =>
  cond (!x25)
   (some false)
   (cond (decide ((List.length x23.fNonce : Int) > 50))
    (some true)
    (cond (decide ((List.length x23.fWith : Int) > 17000))
     (some true)
     (cond (decide ((List.length x24 : Int) > 17000))
      (some true)
      ((fnum_Bytes x24).bind fun r38 => match r38 with
      | (x26, x27) =>
        (seal_Open x23.fKey x23.fNonce x23.fWith (List.take (Int.toNat ((List.length x24 : Int) - 0)) (List.drop (0 + 0) x27))).bind fun r38 => match r38 with
        | (Sum.inl x28) =>
          (fr08_Open x23.fKey x23.fNonce x23.fWith x24).bind fun r32 => match r32 with
          | (x29, x30) =>
            nm (((List.map (fun q : Int => UInt8.ofNat q.toNat) x28) == (List.map (fun q : Int => UInt8.ofNat q.toNat) x30)) : Bool) fun x31 =>
            cond x31
             ((fnum_Num).bind fun _ =>
              cond (0 == x29)
               ((fnum_Kept_2 (0 + 0) (Int.toNat ((List.length x24 : Int) - 0)) x26 x24 x27).bind fun x32 =>
                some x32)
               (some false))
             (some false)
        | (Sum.inr x33) =>
          (fr08_Open x23.fKey x23.fNonce x23.fWith x24).bind fun r38 => match r38 with
          | (x34, x35) =>
            nm (((List.map (fun q : Int => UInt8.ofNat q.toNat) []) == (List.map (fun q : Int => UInt8.ofNat q.toNat) x35)) : Bool) fun x36 =>
            cond x36
             ((fnum_Num_2 x33).bind fun x37 =>
              cond (x37 == x34)
               ((fnum_Kept_2 (0 + 0) (Int.toNat ((List.length x24 : Int) - 0)) x26 x24 x27).bind fun x38 =>
                some x38)
               (some false))
             (some false)))))
end
end Go.Eng
