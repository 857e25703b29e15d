/-
  Part of a proof: NT1.
-/

set_option linter.unusedVariables false
set_option linter.unusedSimpArgs false
namespace Go.Eng
def Pri (n : Nat) : Prop := 1 < n /\ ∀ m, m ∣ n -> m = 1 \/ m = n
theorem Pri.cop {p k : Nat} (h : Pri p) (hk : ¬ p ∣ k) : Nat.Coprime p k := by
 rcases h.2 (Nat.gcd p k) (Nat.gcd_dvd_left p k) with e | e
 ·exact e
 ·exact absurd (e ▸ Nat.gcd_dvd_right p k) hk
theorem Pri.mul {p a b : Nat} (h : Pri p) (hd : p ∣ a * b) : p ∣ a \/ p ∣ b := by
 by_cases ha : p ∣ a
 ·exact .inl ha
 ·exact .inr ((h.cop ha).dvd_of_dvd_mul_left hd)
theorem has_pri : ∀ n, 1 < n -> ∃ p, Pri p /\ p ∣ n := by
 intro n
 induction n using Nat.strongRecOn with
 | _ n ih =>
  intro h
  by_cases hp : Pri n
  ·exact ⟨n, hp, Nat.dvd_refl n⟩
  ·have : ¬ ∀ m, m ∣ n -> m = 1 \/ m = n := fun hh => hp ⟨h, hh⟩
   obtain ⟨m, hm⟩ := Classical.not_forall.1 this
   have hm' := Classical.not_imp.1 hm
   obtain ⟨hd, hne⟩ := hm'
   have h1 : m ≠ 1 := fun e => hne (.inl e)
   have h2 : m ≠ n := fun e => hne (.inr e)
   have h3 : m ≤ n := Nat.le_of_dvd (by omega) hd
   have h4 : m ≠ 0 := fun e => by rw [e] at hd; have := Nat.eq_zero_of_zero_dvd hd; omega
   obtain ⟨p, hp1, hp2⟩ := ih m (by omega) (by omega)
   exact ⟨p, hp1, Nat.dvd_trans hp2 hd⟩
theorem small_pri {n : Nat} (h : 1 < n) (hn : ¬ Pri n) : ∃ p, Pri p /\ p ∣ n /\ p * p ≤ n := by
 have : ¬ ∀ m, m ∣ n -> m = 1 \/ m = n := fun hh => hn ⟨h, hh⟩
 obtain ⟨m, hm⟩ := Classical.not_forall.1 this
 obtain ⟨hd, hne⟩ := Classical.not_imp.1 hm
 have h1 : m ≠ 1 := fun e => hne (.inl e)
 have h2 : m ≠ n := fun e => hne (.inr e)
 obtain ⟨k, hk⟩ := hd
 have hm0 : m ≠ 0 := fun e => by rw [e] at hk; omega
 have hk0 : k ≠ 0 := fun e => by rw [e] at hk; omega
 have hk1 : k ≠ 1 := fun e => by rw [e, Nat.mul_one] at hk; exact h2 hk.symm
 by_cases hle : m ≤ k
 ·obtain ⟨p, hp1, hp2⟩ := has_pri m (by omega)
  have : p ≤ m := Nat.le_of_dvd (by omega) hp2
  exact ⟨p, hp1, hk ▸ Nat.dvd_trans hp2 (Nat.dvd_mul_right m k), hk ▸ Nat.mul_le_mul this (by omega)⟩
 ·obtain ⟨p, hp1, hp2⟩ := has_pri k (by omega)
  have : p ≤ k := Nat.le_of_dvd (by omega) hp2
  exact ⟨p, hp1, hk ▸ Nat.dvd_trans hp2 (Nat.dvd_mul_left k m), hk ▸ Nat.mul_le_mul (by omega) this⟩
def bin : Nat -> Nat -> Nat
 | _, 0 => 1
 | 0, _ + 1 => 0
 | n + 1, k + 1 => bin n k + bin n (k + 1)
theorem bin_zero : ∀ n k, n < k -> bin n k = 0
 | 0, k + 1, _ => rfl
 | n + 1, k + 1, h => by rw [bin, bin_zero n k (by omega), bin_zero n (k + 1) (by omega)]
theorem bin_self : ∀ n, bin n n = 1
 | 0 => rfl
 | n + 1 => by rw [bin, bin_self n, bin_zero n (n + 1) (by omega)]
theorem bin_k : ∀ n k, (k + 1) * bin (n + 1) (k + 1) = (n + 1) * bin n k
 | 0, 0 => rfl
 | 0, k + 1 => by rw [bin_zero 1 (k + 2) (by omega), bin_zero 0 (k + 1) (by omega)]; simp
 | n + 1, 0 => by
  have h := bin_k n 0
  simp only [bin, Nat.zero_add, Nat.one_mul, Nat.mul_one] at h ⊢
  omega
 | n + 1, k + 1 => by
  have h1 := bin_k n k
  have h2 := bin_k n (k + 1)
  have e1 : bin (n + 2) (k + 2) = bin (n + 1) (k + 1) + bin (n + 1) (k + 2) := rfl
  have e2 : bin (n + 1) (k + 1) = bin n k + bin n (k + 1) := rfl
  have a1 : (k + 1 + 1) * bin (n + 1) (k + 1) = (n + 1) * bin n k + bin (n + 1) (k + 1) := by rw [Nat.succ_mul, h1]
  show (k + 1 + 1) * bin (n + 2) (k + 2) = (n + 1 + 1) * bin (n + 1) (k + 1)
  rw [e1, Nat.mul_add, a1, h2, Nat.succ_mul (n + 1), e2, Nat.mul_add]
  omega
def bsum (n a : Nat) : Nat -> Nat
 | 0 => 0
 | m + 1 => bsum n a m + bin n m * a ^ m
theorem bsum_succ (n a : Nat) : ∀ m, bsum (n + 1) a (m + 1) = bsum n a (m + 1) + a * bsum n a m
 | 0 => by simp [bsum, bin]
 | m + 1 => by
  have ih := bsum_succ n a m
  have e : bsum (n + 1) a (m + 2) = bsum (n + 1) a (m + 1) + bin (n + 1) (m + 1) * a ^ (m + 1) := rfl
  have e2 : bsum n a (m + 2) = bsum n a (m + 1) + bin n (m + 1) * a ^ (m + 1) := rfl
  have e3 : bsum n a (m + 1) = bsum n a m + bin n m * a ^ m := rfl
  have e4 : bin (n + 1) (m + 1) = bin n m + bin n (m + 1) := rfl
  rw [e, ih, e2, e4, Nat.add_mul, e3, Nat.mul_add a, Nat.pow_succ, Nat.mul_comm (a ^ m) a, Nat.mul_left_comm (bin n m) a]
  omega
theorem bsum_all : ∀ n a, bsum n a (n + 1) = (a + 1) ^ n
 | 0, a => by simp [bsum, bin]
 | n + 1, a => by
  rw [bsum_succ, bsum_all n a]
  have : bsum n a (n + 1 + 1) = bsum n a (n + 1) := by
   show bsum n a (n + 1) + bin n (n + 1) * a ^ (n + 1) = _
   rw [bin_zero n (n + 1) (by omega)]; simp
  rw [this, bsum_all n a, Nat.pow_succ, Nat.mul_add, Nat.mul_one, Nat.mul_comm a]; omega
theorem bin_pri {p : Nat} (h : Pri p) {k : Nat} (h0 : 0 < k) (h1 : k < p) : p ∣ bin p k := by
 obtain ⟨n, rfl⟩ : ∃ n, p = n + 1 := ⟨p - 1, by omega⟩
 obtain ⟨j, rfl⟩ : ∃ j, k = j + 1 := ⟨k - 1, by omega⟩
 have := bin_k n j
 rcases h.mul (a := j + 1) (b := bin (n + 1) (j + 1)) (this ▸ Nat.dvd_mul_right _ _) with e | e
 ·have := Nat.le_of_dvd (by omega) e; omega
 ·exact e
theorem bsum_pri {p : Nat} (h : Pri p) (a : Nat) : ∀ m, m + 1 ≤ p -> bsum p a (m + 1) % p = 1 % p
 | 0, _ => by simp [bsum, bin]
 | m + 1, hm => by
  have ih := bsum_pri h a m (by omega)
  obtain ⟨c, hc⟩ := bin_pri h (k := m + 1) (by omega) (by omega)
  show (bsum p a (m + 1) + bin p (m + 1) * a ^ (m + 1)) % p = _
  rw [hc, Nat.mul_assoc, Nat.add_mul_mod_self_left, ih]
theorem fermat {p : Nat} (h : Pri p) : ∀ a, a ^ p % p = a % p
 | 0 => by rw [Nat.zero_pow (by have := h.1; omega)]
 | a + 1 => by
  obtain ⟨n, hn⟩ : ∃ n, p = n + 1 := ⟨p - 1, by have := h.1; omega⟩
  have e : (a + 1) ^ p = bsum p a p + a ^ p := by
   rw [← bsum_all p a]
   show bsum p a p + bin p p * a ^ p = _
   rw [bin_self, Nat.one_mul]
  have h1 := bsum_pri h a n (by omega)
  rw [← hn] at h1
  rw [e, Nat.add_mod, h1, fermat h a, ← Nat.add_mod, Nat.add_comm]
theorem fermat1 {p a : Nat} (h : Pri p) (ha : ¬ p ∣ a) : a ^ (p - 1) % p = 1 := by
 obtain ⟨n, hn⟩ : ∃ n, p = n + 1 := ⟨p - 1, by have := h.1; omega⟩
 have hf := fermat h a
 have hn1 : p - 1 = n := by omega
 rw [hn1]
 have hp := h.1
 have hpos : 0 < a ^ n := by
  rcases Nat.eq_zero_or_pos a with e | e
  ·exact absurd (e ▸ Nat.dvd_zero p) ha
  ·exact Nat.pow_pos e
 have hd : p ∣ a * (a ^ n - 1) := by
  have e : a * (a ^ n - 1) = a ^ p - a := by rw [Nat.mul_sub, Nat.mul_one, ← Nat.pow_succ', hn]
  rw [e]
  exact Nat.dvd_of_mod_eq_zero (Nat.sub_mod_eq_zero_of_mod_eq hf)
 rcases h.mul hd with e | e
 ·exact absurd e ha
 ·obtain ⟨c, hc⟩ := e
  have : a ^ n = 1 + p * c := by omega
  rw [this, Nat.add_mul_mod_self_left, Nat.mod_eq_of_lt hp]
end Go.Eng
