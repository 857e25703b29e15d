/-
  Part of a proof: SgV.
-/
import Derived.Test.YtifjekgjjinijaaDoorSgF6
set_option linter.unusedVariables false
set_option linter.unusedSimpArgs false
set_option linter.unusedVariables false
set_option linter.unusedSimpArgs false
namespace Go.Eng
set_option maxRecDepth 100000
set_option maxHeartbeats 1000000
theorem two8 : (2 : Nat) ^ 8 = 256 := rfl
theorem p256 (n : Nat) : (256 : Nat) ^ (n + 1) = 256 ^ n * 256 := Nat.pow_succ ..
abbrev V8 (l : List Nat) : Nat := valN 8 l
def Dig (l : List Nat) : Prop := ∀ x ∈ l, x < 256
theorem V_take_succ : ∀ (l : List Nat) (k : Nat), V8 (l.take (k + 1)) = V8 (l.take k) + 256 ^ k * l.getD k 0
 | [], k => by simp [V8, valN]
 | x :: xs, 0 => by simp [V8, valN]
 | x :: xs, k + 1 => by
  have := V_take_succ xs k
  simp only [V8, List.take_succ_cons, valN, List.getD_cons_succ, p256, two8] at this ⊢
  rw [this, Nat.mul_add, ← Nat.mul_assoc, Nat.mul_comm (256 ^ k) 256]
  omega
theorem V_drop (l : List Nat) (i : Nat) (h : i < l.length) : V8 (l.drop i) = l.getD i 0 + 256 * V8 (l.drop (i + 1)) := by
 rw [List.drop_eq_getElem_cons h]
 simp only [V8, valN, List.getD, List.getElem?_eq_getElem h, Option.getD_some]
theorem V_zeros (n : Nat) : V8 (List.replicate n 0) = 0 := by
 induction n with
 | zero => rfl
 | succ n ih => rw [List.replicate_succ]; simp only [V8, valN] at ih ⊢; rw [ih]
theorem V_lt {l : List Nat} (h : Dig l) : V8 l < 256 ^ l.length := by
 have := valN_lt 8 l h
 rw [Nat.pow_mul] at this; exact this
theorem big (n : Nat) (h : n < 10000000) : n < FUEL := Nat.lt_trans h (by decide)
theorem pick_l (x y : Int) (h : 0 ≤ x /\ x < 18446744073709551616) (h' : 0 ≤ y /\ y < 18446744073709551616) (b : Bool) : words_Pick b x y = some (cond b x y) := by
 cases b with
 | true =>
  show some (bits .u64 .or (bits .u64 .and x 18446744073709551615) (bits .u64 .andNot y 18446744073709551615)) = some x
  rw [and_max h.1 h.2, andNot_max, or_zero64 h.1 h.2]
 | false =>
  show some (bits .u64 .or (bits .u64 .and x 0) (bits .u64 .andNot y 0)) = some y
  rw [and_zero64 h.1 h.2, andNot_zero64 h'.1 h'.2, zero_or64 h'.1 h'.2]
end Go.Eng
