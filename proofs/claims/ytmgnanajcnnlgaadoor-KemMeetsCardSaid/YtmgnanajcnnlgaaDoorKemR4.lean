/-
  Part of a proof: KemR4.
-/
import Derived.Test.YtmgnanajcnnlgaaDoorKemR3
set_option linter.unusedVariables false
set_option linter.unusedSimpArgs false
namespace Go.Eng
set_option maxRecDepth 100000
set_option maxHeartbeats 400000
def powP (a : Int) (n : Nat) : Int := a ^ n % PP
theorem powP_add (a : Int) (m n : Nat) : mulP (powP a m) (powP a n) = powP a (m + n) := by
 show (a ^ m % PP) * (a ^ n % PP) % PP = a ^ (m + n) % PP
 rw [← Int.mul_emod, Int.pow_add]
theorem powP_one {a : Int} (h : 0 ≤ a) (h' : a < PP) : powP a 1 = a := by
 show a ^ 1 % PP = a
 rw [Int.pow_succ, Int.pow_zero, Int.one_mul, Int.emod_eq_of_lt h h']
theorem powP_zero (a : Int) : powP a 0 = 1 := by show a ^ 0 % PP = 1; rw [Int.pow_zero]; decide
attribute [irreducible] powP
structure IsP (a : Int) (k : Nat) (e : T_field_Elem) : Prop where
 ok : EOk e
 val : res e = powP a k
theorem Times_pow {a : Int} {j k : Nat} {x y : T_field_Elem} (hx : IsP a j x) (hy : IsP a k y) : ∃ r, field_Elem_Times x y = some r /\ IsP a (j + k) r := by
 obtain ⟨r, h1, h2, h3⟩ := Times_some hx.ok hy.ok
 exact ⟨r, h1, h2, by rw [h3, hx.val, hy.val, powP_add]⟩
theorem Square_some {a : T_field_Elem} (ha : EOk a) : ∃ r, field_Elem_Square a = some r /\ EOk r /\ res r = mulP (res a) (res a) := by
 obtain ⟨r, h1, h2, h3⟩ := Times_some ha ha
 exact ⟨r, by unfold field_Elem_Square; rw [h1]; rfl, h2, h3⟩
theorem Square_pow {a : Int} {k : Nat} {x : T_field_Elem} (hx : IsP a k x) : ∃ r, field_Elem_Square x = some r /\ IsP a (k + k) r := by
 obtain ⟨r, h1, h2⟩ := Times_pow hx hx
 exact ⟨r, by unfold field_Elem_Square; rw [h1]; rfl, h2⟩
theorem squares_l1 (a : Int) : ∀ (n f k : Nat) (x : T_field_Elem), n < f -> n < 1000 -> IsP a k x -> ∃ r, field_Elem_squares_l1 f (n : Int) x = some r /\ IsP a (k * 2 ^ n) r
 | _, 0, _, _, h, _, _ => by omega
 | 0, f + 1, k, x, _, _, hx => by
  rw [field_Elem_squares_l1.eq_2, cond_ff (by decide)]
  exact ⟨x, rfl, by rw [Nat.pow_zero, Nat.mul_one]; exact hx⟩
 | n + 1, f + 1, k, x, h, h', hx => by
  obtain ⟨r, h1, h2⟩ := Square_pow hx
  rw [field_Elem_squares_l1.eq_2, cond_tt (by simp), h1, Option.bind_some, show ((n + 1 : Nat) : Int) - 1 = n by omega, i64n (by omega)]
  obtain ⟨s, h3, h4⟩ := squares_l1 a n f (k + k) r (by omega) (by omega) h2
  refine ⟨s, h3, ?_⟩
  rw [Nat.pow_succ, Nat.mul_comm _ 2, ← Nat.mul_assoc, Nat.mul_two]
  exact h4
theorem squares_pow {a : Int} {k : Nat} {x : T_field_Elem} (n : Nat) (hn : 0 < n) (hn' : n < 1000) (hx : IsP a k x) : ∃ r, field_Elem_squares x (n : Int) = some r /\ IsP a (k * 2 ^ n) r := by
 obtain ⟨m, rfl⟩ : ∃ m, n = m + 1 := ⟨n - 1, by omega⟩
 obtain ⟨r, h1, h2⟩ := Square_pow hx
 obtain ⟨s, h3, h4⟩ := squares_l1 a m FUEL (k + k) r (by unfold FUEL; omega) (by omega) h2
 refine ⟨s, ?_, ?_⟩
 ·unfold field_Elem_squares
  rw [cond_tt (by simp), h1, Option.bind_some, show ((m + 1 : Nat) : Int) - 1 = m by omega, i64n (by omega)]
  exact h3
 ·rw [Nat.pow_succ, Nat.mul_comm _ 2, ← Nat.mul_assoc, Nat.mul_two]
  exact h4
end Go.Eng
