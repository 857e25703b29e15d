/-
  Part of a proof: KemP5.
-/
import Derived.Test.YtmgnanajcnnlgaaDoorKemP4
set_option linter.unusedVariables false
set_option linter.unusedSimpArgs false
namespace Go.Eng
set_option maxRecDepth 100000
set_option maxHeartbeats 1000000
theorem and_max {x : Int} (h : 0 ≤ x) (h1 : x < 18446744073709551616) : bits .u64 .and x 18446744073709551615 = x := by
 obtain ⟨n, rfl⟩ := Int.eq_ofNat_of_zero_le h
 have := bits_and64 (n := n) (m := 18446744073709551615) (by omega) (by omega)
 rw [show ((18446744073709551615 : Nat) : Int) = 18446744073709551615 from rfl] at this
 rw [this, show (18446744073709551615 : Nat) = 2 ^ 64 - 1 from rfl, Nat.and_two_pow_sub_one_eq_mod, Nat.mod_eq_of_lt (by omega)]
theorem and_zero64 {x : Int} (h : 0 ≤ x) (h1 : x < 18446744073709551616) : bits .u64 .and x 0 = 0 := by
 obtain ⟨n, rfl⟩ := Int.eq_ofNat_of_zero_le h
 have := bits_and64 (n := n) (m := 0) (by omega) (by omega)
 rw [show ((0 : Nat) : Int) = 0 from rfl, Nat.and_zero] at this
 exact this
theorem or_zero64 {x : Int} (h : 0 ≤ x) (h1 : x < 18446744073709551616) : bits .u64 .or x 0 = x := by
 obtain ⟨n, rfl⟩ := Int.eq_ofNat_of_zero_le h
 have := bits_or64 (n := n) (m := 0) (by omega) (by omega)
 rw [show ((0 : Nat) : Int) = 0 from rfl, Nat.or_zero] at this
 exact this
theorem zero_or64 {x : Int} (h : 0 ≤ x) (h1 : x < 18446744073709551616) : bits .u64 .or 0 x = x := by
 obtain ⟨n, rfl⟩ := Int.eq_ofNat_of_zero_le h
 have := bits_or64 (n := 0) (m := n) (by omega) (by omega)
 rw [show ((0 : Nat) : Int) = 0 from rfl, Nat.zero_or] at this
 exact this
theorem andNot_zero64 {x : Int} (h : 0 ≤ x) (h1 : x < 18446744073709551616) : bits .u64 .andNot x 0 = x := by
 obtain ⟨n, rfl⟩ := Int.eq_ofNat_of_zero_le h
 show IntKind.u64.wrap (((BitVec.ofInt 64 n &&& ~~~ BitVec.ofInt 64 0 : BitVec 64).toNat : Nat) : Int) = _
 rw [show ~~~ BitVec.ofInt 64 0 = BitVec.allOnes 64 from by decide, BitVec.and_allOnes, BitVec.ofInt_natCast, BitVec.toNat_ofNat]
 simp only [Nat.reducePow]
 rw [Nat.mod_eq_of_lt (by omega), u64_id (by omega) (by omega)]
theorem andNot_max {x : Int} : bits .u64 .andNot x 18446744073709551615 = 0 := by
 show IntKind.u64.wrap (((BitVec.ofInt 64 x &&& ~~~ BitVec.ofInt 64 18446744073709551615 : BitVec 64).toNat : Nat) : Int) = _
 rw [show ~~~ BitVec.ofInt 64 18446744073709551615 = 0#64 from by decide, BitVec.and_zero]; rfl
theorem zip_tt : ∀ (a b : List Int), a.length = b.length -> Lim 67108864 a -> a.zipWith (fun x y => bits .u64 .or (bits .u64 .and x 18446744073709551615) (bits .u64 .andNot y 18446744073709551615)) b = a
 | [], [], _, _ => rfl
 | x :: xs, y :: ys, h, ⟨⟨p1, p2⟩, p3⟩ => by
  rw [List.zipWith_cons_cons, zip_tt xs ys (by simpa using h) p3, and_max p1 (by omega), andNot_max, or_zero64 p1 (by omega)]
theorem zip_ff : ∀ (a b : List Int), a.length = b.length -> Lim 67108864 a -> Lim 67108864 b -> a.zipWith (fun x y => bits .u64 .or (bits .u64 .and x 0) (bits .u64 .andNot y 0)) b = b
 | [], [], _, _, _ => rfl
 | x :: xs, y :: ys, h, ⟨⟨p1, p2⟩, p3⟩, ⟨⟨q1, q2⟩, q3⟩ => by
  rw [List.zipWith_cons_cons, zip_ff xs ys (by simpa using h) p3 q3, and_zero64 p1 (by omega), andNot_zero64 q1 (by omega), zero_or64 q1 (by omega)]
theorem Pick_some {a b : T_field_Elem} (yes : Bool) (ha : EOk a) (hb : EOk b) : field_Pick yes a b = some (cond yes a b) := by
 obtain ⟨a⟩ := a; obtain ⟨b⟩ := b; obtain ⟨ha, la⟩ := ha; obtain ⟨hb, lb⟩ := hb
 simp only at ha la hb lb
 cases yes with
 | true =>
  have e : field_Pick_l1 true ⟨b⟩ FUEL 0 a = some a := by
   have z := zip_tt a b (la.trans lb.symm) ha
   obtain ⟨a0, a1, a2, a3, a4, a5, a6, a7, a8, a9, rfl⟩ := list10 la
   obtain ⟨b0, b1, b2, b3, b4, b5, b6, b7, b8, b9, rfl⟩ := list10 lb
   rw [pick_tt, z]
  simp only [field_Pick, e, Option.bind_some, cond]
 | false =>
  have e : field_Pick_l1 false ⟨b⟩ FUEL 0 a = some b := by
   have z := zip_ff a b (la.trans lb.symm) ha hb
   obtain ⟨a0, a1, a2, a3, a4, a5, a6, a7, a8, a9, rfl⟩ := list10 la
   obtain ⟨b0, b1, b2, b3, b4, b5, b6, b7, b8, b9, rfl⟩ := list10 lb
   rw [pick_ff, z]
  simp only [field_Pick, e, Option.bind_some, cond]
end Go.Eng
