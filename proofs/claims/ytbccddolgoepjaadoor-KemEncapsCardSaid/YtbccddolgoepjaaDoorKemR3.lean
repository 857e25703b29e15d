/-
  Part of a proof: KemR3.
-/
import Derived.Test.YtbccddolgoepjaaDoorKemR2
set_option linter.unusedVariables false
set_option linter.unusedSimpArgs false
namespace Go.Eng
set_option maxRecDepth 100000
set_option maxHeartbeats 4000000
theorem limbsN_setc (w c : Nat) (hw : 0 < w) (hc0 : 0 < c) : ∀ n X i, i < w * n -> i % w + c ≤ w ->
  (limbsN w n (X % 2 ^ i)).getD (i / w) 0 < 2 ^ (i % w) /\
  (limbsN w n (X % 2 ^ i)).set (i / w) ((limbsN w n (X % 2 ^ i)).getD (i / w) 0 + 2 ^ (i % w) * (X / 2 ^ i % 2 ^ c)) = limbsN w n (X % 2 ^ (i + c))
 | 0, _, _, h, _ => by simp at h
 | n + 1, X, i, h, hc => by
  by_cases hi : i < w
  ·have h1 : X % 2 ^ i < 2 ^ i := Nat.mod_lt _ (Nat.two_pow_pos i)
   have h2 : (2 : Nat) ^ i < 2 ^ w := Nat.pow_lt_pow_right (by decide) hi
   have h3 : X % 2 ^ (i + c) < 2 ^ (i + c) := Nat.mod_lt _ (Nat.two_pow_pos _)
   rw [Nat.mod_eq_of_lt hi] at hc
   have h4 : (2 : Nat) ^ (i + c) ≤ 2 ^ w := Nat.pow_le_pow_right (by decide) hc
   have h5 : X % 2 ^ (i + c) = X % 2 ^ i + 2 ^ i * (X / 2 ^ i % 2 ^ c) := by rw [Nat.pow_add, Nat.mod_mul]
   rw [Nat.div_eq_of_lt hi, Nat.mod_eq_of_lt hi]
   simp only [limbsN, List.getD_cons_zero, List.set_cons_zero]
   rw [Nat.mod_eq_of_lt (Nat.lt_trans h1 h2), Nat.div_eq_of_lt (Nat.lt_trans h1 h2), Nat.mod_eq_of_lt (Nat.lt_of_lt_of_le h3 h4), Nat.div_eq_of_lt (Nat.lt_of_lt_of_le h3 h4), ← h5]
   exact ⟨h1, rfl⟩
  ·obtain ⟨k, rfl⟩ : ∃ k, i = w + k := ⟨i - w, by omega⟩
   have e1 : (w + k) / w = k / w + 1 := by rw [Nat.add_comm, Nat.add_div_right _ hw]
   have e2 : (w + k) % w = k % w := by rw [Nat.add_comm, Nat.add_mod_right]
   have e3 : ∀ m, (X % 2 ^ (w + m)) % 2 ^ w = X % 2 ^ w := fun m => Nat.mod_mod_of_dvd _ ⟨2 ^ m, Nat.pow_add ..⟩
   have e4 : ∀ m, (X % 2 ^ (w + m)) / 2 ^ w = X / 2 ^ w % 2 ^ m := fun m => by rw [Nat.pow_add, Nat.mod_mul_right_div_self]
   have e5 : X / 2 ^ (w + k) = X / 2 ^ w / 2 ^ k := by rw [Nat.pow_add, Nat.div_div_eq_div_mul]
   have hk : k < w * n := by rw [Nat.mul_succ] at h; omega
   obtain ⟨i1, i2⟩ := limbsN_setc w c hw hc0 n (X / 2 ^ w) k hk (by rw [← e2]; exact hc)
   rw [e1, e2, e5, Nat.add_assoc]
   simp only [limbsN, List.getD_cons_succ, List.set_cons_succ, e3, e4]
   exact ⟨i1, by rw [i2]⟩
theorem limbsN_bits (w c : Nat) (hw : 0 < w) (n X i : Nat) (h : i < w * n) (hc : i % w + c ≤ w) : (limbsN w n X).getD (i / w) 0 / 2 ^ (i % w) % 2 ^ c = X / 2 ^ i % 2 ^ c := by
 have h1 : i / w < n := (Nat.div_lt_iff_lt_mul hw).2 (by rw [Nat.mul_comm]; exact h)
 rw [limbsN_get w n X _ h1]
 apply Nat.eq_of_testBit_eq
 intro j
 rw [Nat.testBit_mod_two_pow, Nat.testBit_mod_two_pow, Nat.testBit_div_two_pow, Nat.testBit_mod_two_pow, Nat.testBit_div_two_pow, Nat.testBit_div_two_pow]
 by_cases hj : j < c
 ·have e : w * (i / w) + (j + i % w) = j + i := by have := Nat.div_add_mod i w; omega
  have hlt : j + i % w < w := by omega
  rw [Nat.add_comm (j + i % w), e]
  simp [hj, hlt]
 ·simp [hj]
theorem Read32_l1 (N : Nat) : ∀ (n i : Nat), i ≤ 32 -> 32 < n + i -> fr09_Read_l1 (zl (limbsN 8 32 N)) n (i : Int) (zl (limbsN 32 8 (N % 2 ^ (8 * i)))) = some (zl (limbsN 32 8 (N % 2 ^ 256)))
 | 0, i, h, h' => by omega
 | n + 1, i, h, h' => by
  rw [fr09_Read_l1.eq_2]
  by_cases hi : i < 32
  ·rw [cond_tt (by simp; omega)]
   have e1 : Int.tdiv (i : Int) 4 = ((i / 4 : Nat) : Int) := rfl
   have e3 : Int.tmod (i : Int) 4 = ((i % 4 : Nat) : Int) := rfl
   have e4 : 8 * ((i % 4 : Nat) : Int) = ((8 * (i % 4) : Nat) : Int) := by rw [Int.natCast_mul]; rfl
   have e5 : IntKind.wrap .u64 ((8 * (i % 4) : Nat) : Int) = ((8 * (i % 4) : Nat) : Int) := by rw [u64n, Nat.mod_eq_of_lt (by omega)]
   have m2 : min (8 * (i % 4)) (IntKind.bits .u32) = 8 * (i % 4) := by show min _ 32 = _; omega
   have d1 : 8 * i / 32 = i / 4 := by omega
   have d2 : 8 * i % 32 = 8 * (i % 4) := by omega
   have d3 : 8 * i / 8 = i := by omega
   have d4 : 8 * i % 8 = 0 := by omega
   have hb : (limbsN 8 32 N).getD i 0 < 256 := getD_lt (limbsN_lt 8 32 N) (by decide) _
   have hbit := limbsN_bits 8 8 (by decide) 32 N (8 * i) (by omega) (by omega)
   rw [d3, d4, Nat.pow_zero, Nat.div_one, Nat.mod_eq_of_lt (a := (limbsN 8 32 N).getD i 0) (by simpa using hb)] at hbit
   obtain ⟨s1, s2⟩ := limbsN_setc 32 8 (by decide) (by decide) 8 N (8 * i) (by omega) (by omega)
   rw [d1, d2] at s1 s2
   have p1 : (2 : Nat) ^ (8 * (i % 4)) ≤ 2 ^ 24 := Nat.pow_le_pow_right (by decide) (by omega)
   have hlt2 : N / 2 ^ (8 * i) % 2 ^ 8 < 256 := Nat.mod_lt _ (by decide)
   have hlt : (N / 2 ^ (8 * i) % 2 ^ 8) * 2 ^ (8 * (i % 4)) ≤ 255 * 2 ^ 24 := Nat.mul_le_mul (by omega) p1
   have hlt3 : (limbsN 32 8 (N % 2 ^ (8 * i))).getD (i / 4) 0 < 2 ^ 24 := Nat.lt_of_lt_of_le s1 p1
   simp only [nm_eq, e1, e3, e4, e5, i64n (n := i / 4) (by omega), i64n (n := 8 * (i % 4)) (by omega), Int.toNat_natCast, m2, zl_getD, hbit]
   rw [if_pos (by omega), if_pos (by omega), if_pos (by omega), if_pos (by omega)]
   rw [u32n, Nat.mod_eq_of_lt (a := N / 2 ^ (8 * i) % 2 ^ 8) (by omega), muln, u32n, Nat.mod_eq_of_lt (a := N / 2 ^ (8 * i) % 2 ^ 8 * 2 ^ (8 * (i % 4))) (by omega)]
   rw [← Int.natCast_add, u32n, Nat.mod_eq_of_lt (a := (limbsN 32 8 (N % 2 ^ (8 * i))).getD (i / 4) 0 + N / 2 ^ (8 * i) % 2 ^ 8 * 2 ^ (8 * (i % 4))) (by omega), Nat.mul_comm (N / 2 ^ (8 * i) % 2 ^ 8), zl_set, s2]
   rw [show (i : Int) + 1 = ((i + 1 : Nat) : Int) from rfl, i64n (by omega)]
   exact Read32_l1 N n (i + 1) (by omega) (by omega)
  ·have : i = 32 := by omega
   subst this
   rw [cond_ff (by decide)]
theorem Read_ref (N : Nat) : fr09_Read (zl (limbsN 8 32 N)) = some (zl (limbsN 32 8 (N % 2 ^ 256))) := by
 have h := Read32_l1 N FUEL 0 (by omega) (by show 32 < 18446744073709551616 + 0; omega)
 rw [Nat.mul_zero, Nat.pow_zero, Nat.mod_one, limbs_zero, zl_rep] at h
 unfold fr09_Read
 rw [show (0 : Int) = ((0 : Nat) : Int) from rfl, h]; rfl
theorem Bytes32_l1 (X : Nat) : ∀ (n i : Nat), i ≤ 32 -> 32 < n + i -> fr09_Bytes_l1 (zl (limbsN 32 8 X)) n (i : Int) (zl (limbsN 8 32 (X % 2 ^ (8 * i)))) = some (zl (limbsN 8 32 (X % 2 ^ 256)))
 | 0, i, h, h' => by omega
 | n + 1, i, h, h' => by
  rw [fr09_Bytes_l1.eq_2]
  by_cases hi : i < 32
  ·rw [cond_tt (by simp; omega)]
   have e1 : Int.tdiv (i : Int) 4 = ((i / 4 : Nat) : Int) := rfl
   have e3 : Int.tmod (i : Int) 4 = ((i % 4 : Nat) : Int) := rfl
   have e4 : 8 * ((i % 4 : Nat) : Int) = ((8 * (i % 4) : Nat) : Int) := by rw [Int.natCast_mul]; rfl
   have e5 : IntKind.wrap .u64 ((8 * (i % 4) : Nat) : Int) = ((8 * (i % 4) : Nat) : Int) := by rw [u64n, Nat.mod_eq_of_lt (by omega)]
   have m2 : min (8 * (i % 4)) (IntKind.bits .u32) = 8 * (i % 4) := by show min _ 32 = _; omega
   have d1 : 8 * i / 32 = i / 4 := by omega
   have d2 : 8 * i % 32 = 8 * (i % 4) := by omega
   have d3 : 8 * i / 8 = i := by omega
   have d4 : 8 * i % 8 = 0 := by omega
   have hbit := limbsN_bits 32 8 (by decide) 8 X (8 * i) (by omega) (by omega)
   rw [d1, d2] at hbit
   obtain ⟨s1, s2⟩ := limbsN_setc 8 8 (by decide) (by decide) 32 X (8 * i) (by omega) (by omega)
   rw [d3, d4, Nat.pow_zero] at s1 s2
   rw [show (limbsN 8 32 (X % 2 ^ (8 * i))).getD i 0 = 0 by omega, Nat.zero_add, Nat.one_mul] at s2
   simp only [nm_eq, e1, e3, e4, e5, i64n (n := i / 4) (by omega), i64n (n := 8 * (i % 4)) (by omega), Int.toNat_natCast, m2, zl_getD, fdivn]
   rw [if_pos (by omega), if_pos (by omega), if_pos (by omega), u8n]
   rw [show (256 : Nat) = 2 ^ 8 from rfl, hbit, zl_set, s2]
   rw [show (i : Int) + 1 = ((i + 1 : Nat) : Int) from rfl, i64n (by omega)]
   exact Bytes32_l1 X n (i + 1) (by omega) (by omega)
  ·have : i = 32 := by omega
   subst this
   rw [cond_ff (by decide)]
theorem Bytes_ref {x : Int} (_h : 0 ≤ x) (h' : x < P256) : fr09_Bytes (numP x) = some (bytesP x) := by
 have h := Bytes32_l1 x.toNat FUEL 0 (by omega) (by show 32 < 18446744073709551616 + 0; omega)
 have e : (2 : Nat) ^ 256 = 115792089237316195423570985008687907853269984665640564039457584007913129639936 := by decide
 rw [Nat.mul_zero, Nat.pow_zero, Nat.mod_one, limbs_zero, zl_rep, e, Nat.mod_eq_of_lt (by simp only [P256] at h'; omega)] at h
 unfold fr09_Bytes numP
 rw [show (0 : Int) = ((0 : Nat) : Int) from rfl, h]; rfl
end Go.Eng
