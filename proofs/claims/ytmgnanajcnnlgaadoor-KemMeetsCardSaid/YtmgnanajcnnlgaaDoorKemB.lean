/-
  Part of a proof: KemB.
-/
import Derived.Test.YtmgnanajcnnlgaaDoorKemP5
set_option linter.unusedVariables false
set_option linter.unusedSimpArgs false
namespace Go.Eng
set_option maxRecDepth 100000
set_option maxHeartbeats 1000000
def limbsN (w : Nat) : Nat -> Nat -> List Nat
 | 0, _ => []
 | n + 1, x => x % 2 ^ w :: limbsN w n (x / 2 ^ w)
theorem limbsN_len (w : Nat) : ∀ n x, (limbsN w n x).length = n
 | 0, _ => rfl
 | n + 1, x => by simp [limbsN, limbsN_len w n]
theorem limbsN_get (w : Nat) : ∀ n x j, j < n -> (limbsN w n x).getD j 0 = x / 2 ^ (w * j) % 2 ^ w
 | n + 1, x, 0, _ => by simp [limbsN]
 | n + 1, x, j + 1, h => by
  rw [limbsN, List.getD_cons_succ, limbsN_get w n _ j (by omega), Nat.div_div_eq_div_mul, ← Nat.pow_add, Nat.mul_succ, Nat.add_comm w]
theorem limbsN_set (w : Nat) (hw : 0 < w) : ∀ n X i, i < w * n ->
  (limbsN w n (X % 2 ^ i)).getD (i / w) 0 < 2 ^ (i % w) /\
  (limbsN w n (X % 2 ^ i)).set (i / w) ((limbsN w n (X % 2 ^ i)).getD (i / w) 0 + 2 ^ (i % w) * (X / 2 ^ i % 2)) = limbsN w n (X % 2 ^ (i + 1))
 | 0, _, _, h => by simp at h
 | n + 1, X, i, h => by
  by_cases hi : i < w
  ·have h1 : X % 2 ^ i < 2 ^ i := Nat.mod_lt _ (Nat.two_pow_pos i)
   have h2 : (2 : Nat) ^ i < 2 ^ w := Nat.pow_lt_pow_right (by decide) hi
   have h3 : X % 2 ^ (i + 1) < 2 ^ (i + 1) := Nat.mod_lt _ (Nat.two_pow_pos _)
   have h4 : (2 : Nat) ^ (i + 1) ≤ 2 ^ w := Nat.pow_le_pow_right (by decide) hi
   have h5 : X % 2 ^ (i + 1) = X % 2 ^ i + 2 ^ i * (X / 2 ^ i % 2) := by rw [Nat.pow_succ, Nat.mod_mul]
   rw [Nat.div_eq_of_lt hi, Nat.mod_eq_of_lt hi]
   simp only [limbsN, List.getD_cons_zero, List.set_cons_zero]
   rw [Nat.mod_eq_of_lt (Nat.lt_trans h1 h2), Nat.div_eq_of_lt (Nat.lt_trans h1 h2), Nat.mod_eq_of_lt (Nat.lt_of_lt_of_le h3 h4), Nat.div_eq_of_lt (Nat.lt_of_lt_of_le h3 h4), ← h5]
   exact ⟨h1, rfl⟩
  ·obtain ⟨k, rfl⟩ : ∃ k, i = w + k := ⟨i - w, by omega⟩
   have e1 : (w + k) / w = k / w + 1 := by rw [Nat.add_comm, Nat.add_div_right _ hw]
   have e2 : (w + k) % w = k % w := by rw [Nat.add_comm, Nat.add_mod_right]
   have e3 : ∀ m, (X % 2 ^ (w + m)) % 2 ^ w = X % 2 ^ w := fun m => Nat.mod_mod_of_dvd _ ⟨2 ^ m, Nat.pow_add ..⟩
   have e4 : ∀ m, (X % 2 ^ (w + m)) / 2 ^ w = X / 2 ^ w % 2 ^ m := fun m => by rw [Nat.pow_add, Nat.mod_mul_right_div_self]
   have e5 : X / 2 ^ (w + k) = X / 2 ^ w / 2 ^ k := by rw [Nat.pow_add, Nat.div_div_eq_div_mul]
   have hk : k < w * n := by rw [Nat.mul_succ] at h; omega
   obtain ⟨i1, i2⟩ := limbsN_set w hw n (X / 2 ^ w) k hk
   rw [e1, e2, e5, Nat.add_assoc]
   simp only [limbsN, List.getD_cons_succ, List.set_cons_succ, e3, e4]
   exact ⟨i1, by rw [i2]⟩
theorem or_add {a r b : Nat} (h : a < 2 ^ r) : a ||| (b * 2 ^ r) = a + 2 ^ r * b := by
 rw [Nat.mul_comm b, Nat.or_comm, ← Nat.two_pow_add_eq_or_of_lt h, Nat.add_comm]
theorem limbsN_bit (w : Nat) (hw : 0 < w) (n X i : Nat) (h : i < w * n) : (limbsN w n X).getD (i / w) 0 / 2 ^ (i % w) % 2 = X / 2 ^ i % 2 := by
 have h1 : i / w < n := (Nat.div_lt_iff_lt_mul hw).2 (by rw [Nat.mul_comm]; exact h)
 rw [limbsN_get w n X _ h1, ← Nat.toNat_testBit, ← Nat.toNat_testBit, Nat.testBit_mod_two_pow, Nat.testBit_div_two_pow]
 have h2 : i % w < w := Nat.mod_lt _ hw
 rw [Nat.add_comm (i % w), Nat.div_add_mod]
 simp [h2]
def valN (w : Nat) : List Nat -> Nat
 | [] => 0
 | x :: xs => x + 2 ^ w * valN w xs
theorem valN_limbs (w : Nat) : ∀ n X, valN w (limbsN w n X) = X % 2 ^ (w * n)
 | 0, X => by simp [limbsN, valN, Nat.mod_one]
 | n + 1, X => by
  rw [limbsN, valN, valN_limbs w n, Nat.mul_succ, Nat.add_comm, Nat.add_comm (w * n), Nat.pow_add, Nat.mod_mul, Nat.add_comm]
theorem limbsN_val (w : Nat) : ∀ (l : List Nat), (∀ x ∈ l, x < 2 ^ w) -> limbsN w l.length (valN w l) = l
 | [], _ => rfl
 | x :: xs, h => by
  have hx := h x (List.mem_cons_self ..)
  rw [List.length_cons, limbsN, valN, Nat.add_mul_mod_self_left, Nat.mod_eq_of_lt hx, Nat.add_mul_div_left _ _ (Nat.two_pow_pos w), Nat.div_eq_of_lt hx, Nat.zero_add, limbsN_val w xs fun y hy => h y (List.mem_cons_of_mem _ hy)]
theorem valN_lt (w : Nat) : ∀ (l : List Nat), (∀ x ∈ l, x < 2 ^ w) -> valN w l < 2 ^ (w * l.length)
 | [], _ => by simp [valN]
 | x :: xs, h => by
  have hx := h x (List.mem_cons_self ..)
  have ih := valN_lt w xs fun y hy => h y (List.mem_cons_of_mem _ hy)
  rw [valN, List.length_cons, Nat.mul_succ, Nat.add_comm (w * xs.length), Nat.pow_add]
  have : 2 ^ w * valN w xs + 2 ^ w ≤ 2 ^ w * 2 ^ (w * xs.length) := by rw [← Nat.mul_succ]; exact Nat.mul_le_mul_left _ ih
  omega
end Go.Eng
