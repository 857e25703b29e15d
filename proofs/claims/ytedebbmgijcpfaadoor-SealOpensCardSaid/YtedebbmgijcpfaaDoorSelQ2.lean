/-
  Part of a proof: SelQ2.
-/
import Derived.Test.YtedebbmgijcpfaaDoorSelQ1
set_option linter.unusedVariables false
set_option linter.unusedSimpArgs false
set_option linter.unusedVariables false
set_option linter.unusedSimpArgs false
namespace Go.Eng
set_option maxRecDepth 100000
set_option maxHeartbeats 1000000
def marks : List Int := [201, 202, 203, 204, 205, 206]
theorem Bytes_is {x : List Int} (h : x.length ≤ 100000) : fnum_Bytes x = some (x.length + 6, x ++ marks) := by
 have e : IntKind.wrap .i64 ((x.length : Int) + 6) = ((x.length + 6 : Nat) : Int) := by rw [wrap_i64 (by omega) (by omega)]; rfl
 have hm : List.take (List.length [(201 : Nat), 202, 203, 204, 205, 206]) [(201 : Int), 202, 203, 204, 205, 206] = marks := rfl
 have hml : (List.take (List.length [(201 : Nat), 202, 203, 204, 205, 206]) [(201 : Nat), 202, 203, 204, 205, 206]).length = 6 := rfl
 unfold fnum_Bytes
 rw [hm, hml, List.take_zero, List.nil_append, Nat.zero_add, List.take_length, e, if_pos ⟨by omega, by omega, by omega, by omega⟩, if_pos (by omega), nm_eq, Int.toNat_natCast, if_pos ⟨by omega, by omega, by omega⟩, if_pos ⟨by omega, by omega, by omega⟩]
 rw [nm_eq, nm_eq, if_pos (by omega), if_pos (by omega), if_pos ⟨by rw [List.length_append]; omega, by omega⟩]
 rfl
theorem marks_get (x : List Int) (i : Nat) (h : i < 6) : (x ++ marks).getD (x.length + i) 0 = 201 + (i : Int) := by
 simp only [List.getD]
 rw [List.getElem?_append_right (by omega), Nat.add_sub_cancel_left]
 match i, h with
 | 0, _ => rfl
 | 1, _ => rfl
 | 2, _ => rfl
 | 3, _ => rfl
 | 4, _ => rfl
 | 5, _ => rfl
theorem Kept_l1 {x : List Int} (hx : x.length ≤ 100000) : ∀ (r n i : Nat), i + r = 6 -> r < n -> fnum_Kept_2_l1 0 (x.length + 6) x (x ++ marks) n (i : Int) = some (.inl ())
 | _, 0, _, _, h => absurd h (Nat.not_lt_zero _)
 | 0, n + 1, i, h, _ => by rw [fnum_Kept_2_l1.eq_2, cond_ff (by simp <;> omega)]
 | r + 1, n + 1, i, h, h' => by
  have e1 : IntKind.wrap .i64 ((x.length : Int) + (i : Int)) = ((x.length + i : Nat) : Int) := by rw [wrap_i64 (by omega) (by omega)]; rfl
  have e2 : IntKind.wrap .u8 (IntKind.wrap .i64 (201 + (i : Int))) = 201 + (i : Int) := by rw [wrap_i64 (by omega) (by omega), wrap_u8]; omega
  have e3 : (Int.toNat (((x.length + 6 : Nat) : Int) - 0) : Int) = ((x.length + 6 : Nat) : Int) := by omega
  rw [fnum_Kept_2_l1.eq_2, cond_tt (by simp <;> omega), e1, e3, if_pos ⟨by omega, by omega⟩, nm_eq, nm_eq, Int.toNat_natCast, addO_eq, Nat.add_zero, Nat.zero_add, marks_get x i (by omega), e2, cond_ff (by simp), wrap_i64 (by omega) (by omega)]
  exact Kept_l1 hx r n (i + 1) (by omega) (by omega)
theorem Kept_is {x : List Int} (hx : x.length ≤ 100000) (c : Nat) : fnum_Kept_2 (0 + 0) c (x.length + 6) x (x ++ marks) = some true := by
 have e3 : (Int.toNat (((x.length + 6 : Nat) : Int) - 0) : Int) = ((x.length + 6 : Nat) : Int) := by omega
 have e : IntKind.wrap .i64 ((x.length : Int) + 6) = ((x.length + 6 : Nat) : Int) := by rw [wrap_i64 (by omega) (by omega)]; rfl
 have hl := Kept_l1 hx 6 FUEL 0 (by omega) (big _ (by omega))
 rw [show ((0 : Nat) : Int) = 0 from rfl] at hl
 have ht : List.take (Int.toNat ((x.length : Int) - 0)) (List.drop (0 + 0 + 0) (x ++ marks)) = x := by
  rw [show Int.toNat ((x.length : Int) - 0) = x.length by omega]
  exact List.take_left ..
 unfold fnum_Kept_2
 rw [if_pos (Int.le_refl _), if_pos (by omega), if_pos ⟨by rw [List.length_append]; show ((0 : Nat) : Int) + _ ≤ ((x.length + 6 : Nat) : Int); omega, by omega⟩, nm_eq, e3, e, cond_ff (by simp), if_pos (by omega), if_pos (by omega), nm_eq, nm_eq, ht, cond_ff (by simp), show (0 + 0 : Nat) = 0 from rfl, hl]
 rfl
theorem in_is {x : List Int} : List.take (Int.toNat ((x.length : Int) - 0)) (List.drop (0 + 0) (x ++ marks)) = x := by
 rw [show Int.toNat ((x.length : Int) - 0) = x.length by omega]
 exact List.take_left ..
theorem Opens_is {x : T_fl08_Case} {s : List Int} (hk : x.fKey.length = 32) (kb : byt x.fKey) (nb : byt x.fNonce) (wb : byt x.fWith) (sb : byt s) : fl08_SealOpens x s = some true := by
 unfold fl08_SealOpens
 rw [alive_is, Option.bind_some, cond_ff (by rfl)]
 by_cases h1 : 50 < x.fNonce.length
 ·rw [cond_tt (by simp <;> omega)]
 rw [cond_ff (by simp <;> omega)]
 by_cases h2 : 17000 < x.fWith.length
 ·rw [cond_tt (by simp <;> omega)]
 rw [cond_ff (by simp <;> omega)]
 by_cases h3 : 17000 < s.length
 ·rw [cond_tt (by simp <;> omega)]
 rw [cond_ff (by simp <;> omega), Bytes_is (by omega), Option.bind_some]
 dsimp only
 rw [in_is]
 have hkept := Kept_is (x := s) (by omega) (Int.toNat ((s.length : Int) - 0))
 have e16 : IntKind.wrap .i64 ((s.length : Int) - 16) = (s.length : Int) - 16 := by rw [wrap_i64 (by omega) (by omega)]
 have bad : ∀ (e : Nat) (e' : Int), seal_Open x.fKey x.fNonce x.fWith s = some (.inr e) -> fr08_Open x.fKey x.fNonce x.fWith s = some (e', []) -> fnum_Num_2 e = some e' ->
   ((seal_Open x.fKey x.fNonce x.fWith s).bind fun r38 => match r38 with
        | (Sum.inl x28) =>
          (fr08_Open x.fKey x.fNonce x.fWith s).bind fun r32 => match r32 with
          | (x29, x30) =>
            nm (((List.map (fun q : Int => UInt8.ofNat q.toNat) x28) == (List.map (fun q : Int => UInt8.ofNat q.toNat) x30)) : Bool) fun x31 =>
            cond x31
             ((fnum_Num).bind fun _ =>
              cond (0 == x29)
               ((fnum_Kept_2 (0 + 0) (Int.toNat ((List.length s : Int) - 0)) (s.length + 6) s (s ++ marks)).bind fun x32 =>
                some x32)
               (some false))
             (some false)
        | (Sum.inr x33) =>
          (fr08_Open x.fKey x.fNonce x.fWith s).bind fun r38 => match r38 with
          | (x34, x35) =>
            nm (((List.map (fun q : Int => UInt8.ofNat q.toNat) []) == (List.map (fun q : Int => UInt8.ofNat q.toNat) x35)) : Bool) fun x36 =>
            cond x36
             ((fnum_Num_2 x33).bind fun x37 =>
              cond (x37 == x34)
               ((fnum_Kept_2 (0 + 0) (Int.toNat ((List.length s : Int) - 0)) (s.length + 6) s (s ++ marks)).bind fun x38 =>
                some x38)
               (some false))
             (some false)) = some true := by
  intro e e' a b c
  rw [a, Option.bind_some]
  dsimp only
  rw [b, Option.bind_some]
  dsimp only
  rw [nm_eq, cond_tt (by rfl), c, Option.bind_some, cond_tt (by simp), hkept]; rfl
 by_cases hn : x.fNonce.length = 12
 ·by_cases h16 : s.length < 16
  ·refine bad 2 2 ?_ ?_ Num2
   ·unfold seal_Open; rw [e16, cond_ff (by simp [hn]), nm_eq, cond_tt (by simp <;> omega)]
   ·unfold fr08_Open; rw [cond_ff (by simp [hn]), cond_tt (by simp <;> omega)]
  ·by_cases hw : 16384 < x.fWith.length
   ·refine bad 3 3 ?_ ?_ Num3
    ·unfold seal_Open; rw [e16, cond_ff (by simp [hn]), nm_eq, cond_ff (by simp <;> omega), cond_tt (by simp <;> omega)]
    ·unfold fr08_Open; rw [cond_ff (by simp [hn]), cond_ff (by simp <;> omega), cond_tt (by simp <;> omega)]
   ·by_cases hs : 16400 < s.length
    ·refine bad 3 3 ?_ ?_ Num3
     ·exact Open_long hn (by omega) (by omega) (by omega)
     ·unfold fr08_Open; rw [cond_ff (by simp [hn]), cond_ff (by simp <;> omega), cond_ff (by simp <;> omega), cond_tt (by simp <;> omega)]
    ·have ho := Open_is hk hn (w := x.fWith) (by omega) (s := s) (by omega) (by omega) sb
     have hr := Open_ref hk hn kb nb wb sb (by omega) (by omega) (by omega)
     by_cases ht : s.drop (s.length - 16) = tagL x.fKey x.fNonce x.fWith (s.take (s.length - 16))
     ·rw [if_pos ht] at ho hr
      rw [ho, Option.bind_some]
      dsimp only
      rw [hr, Option.bind_some]
      dsimp only
      rw [nm_eq, cond_tt (by simp), show fnum_Num = some () from rfl, Option.bind_some, cond_tt (by rfl), hkept]; rfl
     ·rw [if_neg ht] at ho hr
      exact bad 7 7 ho hr Num7
 ·refine bad 4 4 ?_ ?_ Num4
  ·unfold seal_Open; rw [cond_tt (by simp; omega)]
  ·unfold fr08_Open; rw [cond_tt (by simp; omega)]
end Go.Eng
