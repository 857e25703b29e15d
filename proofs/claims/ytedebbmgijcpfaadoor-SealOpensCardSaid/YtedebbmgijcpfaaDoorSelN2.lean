/-
  Part of a proof: SelN2.
-/
import Derived.Test.YtedebbmgijcpfaaDoorSelN1
set_option linter.unusedVariables false
set_option linter.unusedSimpArgs false
set_option linter.unusedVariables false
set_option linter.unusedSimpArgs false
namespace Go.Eng
set_option maxRecDepth 100000
set_option maxHeartbeats 1000000
theorem bset {o : List Nat} {B j v : Nat} (h : ∀ x ∈ o, x ≤ B) (hj : v ≤ 65536) : ∀ x ∈ o.set j (o.getD j 0 + v), x ≤ B + 65536 := fun x hx => by
 rcases List.mem_or_eq_of_mem_set hx with hx | rfl
 ·have := h x hx; omega
 ·have : o.getD j 0 ≤ B := by
   have := getD_lt (l := o) (b := B + 1) (fun x hx => by have := h x hx; omega) (by omega) j
   omega
  omega
theorem add_l1 (a : List Nat) (N : Nat) (ha : Dig a) (hN : N ≤ 1000) : ∀ (r n i B : Nat) (o : List Nat), i + r = a.length -> a.length ≤ N -> r < n -> o.length = N -> (∀ x ∈ o, x ≤ B) -> B + 65536 * r ≤ 1000000000 ->
  ∃ o', fr07_add_l1 (zl a) (N : Int) n (i : Int) (zl o) = some (zl o') /\ o'.length = N /\ V8 o' = V8 o + 256 ^ i * V8 (a.drop i) /\ ∀ x ∈ o', x ≤ B + 65536 * r
 | _, 0, _, _, _, _, _, h, _, _, _ => absurd h (Nat.not_lt_zero _)
 | 0, n + 1, i, B, o, h, h1, h2, h3, h4, h5 => by
  rw [fr07_add_l1.eq_2, zl_len, cond_ff (by simp <;> omega)]
  refine ⟨o, rfl, h3, ?_, fun x hx => by have := h4 x hx; omega⟩
  rw [List.drop_eq_nil_of_le (by omega)]; simp [V8, valN]
 | r + 1, n + 1, i, B, o, h, h1, h2, h3, h4, h5 => by
  have hg : a.getD i 0 < 256 := getD_lt ha (by decide) i
  have hg2 : o.getD i 0 < B + 1 := getD_lt (l := o) (b := B + 1) (fun x hx => by have := h4 x hx; omega) (by omega) i
  have e0 : ((o.getD i 0 : Nat) : Int) + ((a.getD i 0 : Nat) : Int) = ((o.getD i 0 + a.getD i 0 : Nat) : Int) := rfl
  rw [fr07_add_l1.eq_2, zl_len, cond_tt (by simp <;> omega), if_pos ⟨by omega, by omega⟩]
  rw [List.length_replicate, Int.toNat_natCast, if_pos ⟨by omega, by omega⟩, Int.toNat_natCast, zl_getD, zl_getD, e0, i64n (by omega), nm_eq, if_pos ⟨by omega, by omega⟩, zl_set, wrap_i64 (by omega) (by omega), show (i : Int) + 1 = ((i + 1 : Nat) : Int) from rfl]
  obtain ⟨o', p1, p2, p3, p4⟩ := add_l1 a N ha hN r n (i + 1) (B + 65536) (o.set i (o.getD i 0 + a.getD i 0)) (by omega) h1 (by omega) (by rw [List.length_set]; exact h3) (bset h4 (by omega)) (by omega)
  refine ⟨o', p1, p2, ?_, fun x hx => by have := p4 x hx; omega⟩
  rw [p3, V_set o i _ (by omega), V_drop a i (by omega), p256, Nat.mul_add, Nat.mul_assoc]; omega
theorem add_l2 (a : List Nat) (N : Nat) (ha : Dig a) (hN : N ≤ 1000) : ∀ (r n i B : Nat) (o : List Nat), i + r = a.length -> a.length ≤ N -> r < n -> o.length = N -> (∀ x ∈ o, x ≤ B) -> B + 65536 * r ≤ 1000000000 ->
  ∃ o', fr07_add_l2 (zl a) (N : Int) n (i : Int) (zl o) = some (zl o') /\ o'.length = N /\ V8 o' = V8 o + 256 ^ i * V8 (a.drop i) /\ ∀ x ∈ o', x ≤ B + 65536 * r
 | _, 0, _, _, _, _, _, h, _, _, _ => absurd h (Nat.not_lt_zero _)
 | 0, n + 1, i, B, o, h, h1, h2, h3, h4, h5 => by
  rw [fr07_add_l2.eq_2, zl_len, cond_ff (by simp <;> omega)]
  refine ⟨o, rfl, h3, ?_, fun x hx => by have := h4 x hx; omega⟩
  rw [List.drop_eq_nil_of_le (by omega)]; simp [V8, valN]
 | r + 1, n + 1, i, B, o, h, h1, h2, h3, h4, h5 => by
  have hg : a.getD i 0 < 256 := getD_lt ha (by decide) i
  have hg2 : o.getD i 0 < B + 1 := getD_lt (l := o) (b := B + 1) (fun x hx => by have := h4 x hx; omega) (by omega) i
  have e0 : ((o.getD i 0 : Nat) : Int) + ((a.getD i 0 : Nat) : Int) = ((o.getD i 0 + a.getD i 0 : Nat) : Int) := rfl
  rw [fr07_add_l2.eq_2, zl_len, cond_tt (by simp <;> omega), if_pos ⟨by omega, by omega⟩]
  rw [List.length_replicate, Int.toNat_natCast, if_pos ⟨by omega, by omega⟩, Int.toNat_natCast, zl_getD, zl_getD, e0, i64n (by omega), nm_eq, if_pos ⟨by omega, by omega⟩, zl_set, wrap_i64 (by omega) (by omega), show (i : Int) + 1 = ((i + 1 : Nat) : Int) from rfl]
  obtain ⟨o', p1, p2, p3, p4⟩ := add_l2 a N ha hN r n (i + 1) (B + 65536) (o.set i (o.getD i 0 + a.getD i 0)) (by omega) h1 (by omega) (by rw [List.length_set]; exact h3) (bset h4 (by omega)) (by omega)
  refine ⟨o', p1, p2, ?_, fun x hx => by have := p4 x hx; omega⟩
  rw [p3, V_set o i _ (by omega), V_drop a i (by omega), p256, Nat.mul_add, Nat.mul_assoc]; omega
theorem add_is (a b : List Nat) (ha : Dig a) (hb : Dig b) (la : a.length ≤ 100) (lb : b.length ≤ 100) : ∃ p, fr07_add (zl a) (zl b) = some p /\ Is p (V8 a + V8 b) := by
 obtain ⟨o, h1, h2, h3, h4⟩ := add_l1 a (a.length + b.length) ha (by omega) a.length FUEL 0 0 (List.replicate (a.length + b.length) 0) (by omega) (by omega) (big _ (by omega)) (by simp) (fun x hx => by rw [List.eq_of_mem_replicate hx]; exact Nat.le_refl 0) (by omega)
 obtain ⟨q, k1, k2, k3, k4⟩ := add_l2 b (a.length + b.length) hb (by omega) b.length FUEL 0 _ o (by omega) (by omega) (big _ (by omega)) h2 h4 (by omega)
 obtain ⟨p, f1, f2⟩ := even_is q (fun x hx => by have := k4 x hx; omega) (by omega)
 refine ⟨p, ?_, ?_⟩
 ·unfold fr07_add
  rw [zl_len, zl_len, show ((a.length : Nat) : Int) + ((b.length : Nat) : Int) = ((a.length + b.length : Nat) : Int) from rfl, i64n (by omega), nm_eq, if_pos ⟨by omega, by omega, by omega, by omega⟩, Int.toNat_natCast]
  rw [zl_rep, show ((0 : Nat) : Int) = 0 from rfl] at h1
  rw [show ((0 : Nat) : Int) = 0 from rfl] at k1
  rw [h1, Option.bind_some, k1, Option.bind_some, List.length_replicate, List.take_of_length_le (by rw [zl_len]; omega), f1]; rfl
 ·rw [k3, h3, V_zeros] at f2
  simpa using f2
theorem times_l2 (a b : List Nat) (N : Nat) (ha : Dig a) (hb : Dig b) (hN : N ≤ 1000) (i : Nat) (hi : i < a.length) (hab : a.length + b.length ≤ N) : ∀ (r n k B : Nat) (o : List Nat), k + r = b.length -> r < n -> o.length = N -> (∀ x ∈ o, x ≤ B) -> B + 65536 * r ≤ 1000000000 ->
  ∃ o', fr07_times_l2 (zl a) (zl b) (N : Int) (i : Int) n (k : Int) (zl o) = some (zl o') /\ o'.length = N /\ V8 o' = V8 o + 256 ^ (i + k) * (a.getD i 0 * V8 (b.drop k)) /\ ∀ x ∈ o', x ≤ B + 65536 * r
 | _, 0, _, _, _, _, h, _, _, _ => absurd h (Nat.not_lt_zero _)
 | 0, n + 1, k, B, o, h, h2, h3, h4, h5 => by
  rw [fr07_times_l2.eq_2, zl_len, cond_ff (by simp <;> omega)]
  refine ⟨o, rfl, h3, ?_, fun x hx => by have := h4 x hx; omega⟩
  rw [List.drop_eq_nil_of_le (by omega)]; simp [V8, valN]
 | r + 1, n + 1, k, B, o, h, h2, h3, h4, h5 => by
  have hg : a.getD i 0 < 256 := getD_lt ha (by decide) i
  have hg1 : b.getD k 0 < 256 := getD_lt hb (by decide) k
  have hg2 : o.getD (i + k) 0 < B + 1 := getD_lt (l := o) (b := B + 1) (fun x hx => by have := h4 x hx; omega) (by omega) _
  have hm : a.getD i 0 * b.getD k 0 ≤ 255 * 255 := Nat.mul_le_mul (by omega) (by omega)
  have e0 : ∀ x y : Nat, (x : Int) + (y : Int) = ((x + y : Nat) : Int) := fun _ _ => rfl
  have e1 : ∀ x y : Nat, (x : Int) * (y : Int) = ((x * y : Nat) : Int) := fun _ _ => rfl
  rw [fr07_times_l2.eq_2, zl_len, cond_tt (by simp <;> omega), if_pos ⟨by omega, by omega⟩, e0 i k, i64n (n := i + k) (by omega), List.length_replicate, Int.toNat_natCast, if_pos ⟨by omega, by omega⟩]
  rw [nm_eq, nm_eq, if_pos ⟨by omega, by omega⟩, nm_eq, Int.toNat_natCast, Int.toNat_natCast, Int.toNat_natCast, zl_getD, zl_getD, zl_getD, e1, i64n (n := a.getD i 0 * b.getD k 0) (by omega), e0, i64n (n := o.getD (i + k) 0 + a.getD i 0 * b.getD k 0) (by omega), zl_set, wrap_i64 (by omega) (by omega), show (k : Int) + 1 = ((k + 1 : Nat) : Int) from rfl]
  obtain ⟨o', p1, p2, p3, p4⟩ := times_l2 a b N ha hb hN i hi hab r n (k + 1) (B + 65536) (o.set (i + k) (o.getD (i + k) 0 + a.getD i 0 * b.getD k 0)) (by omega) (by omega) (by rw [List.length_set]; exact h3) (bset h4 (by omega)) (by omega)
  refine ⟨o', p1, p2, ?_, fun x hx => by have := p4 x hx; omega⟩
  rw [p3, V_set o (i + k) _ (by omega), V_drop b k (by omega), show i + (k + 1) = (i + k) + 1 from rfl, p256, Nat.mul_add, Nat.mul_add, Nat.mul_assoc (256 ^ (i + k)) 256, Nat.mul_left_comm (a.getD i 0) 256]; omega
theorem times_l1 (a b : List Nat) (N : Nat) (ha : Dig a) (hb : Dig b) (hN : N ≤ 1000) (hab : a.length + b.length ≤ N) : ∀ (r n i B : Nat) (o : List Nat), i + r = a.length -> r < n -> o.length = N -> (∀ x ∈ o, x ≤ B) -> B + 65536 * (b.length * r) ≤ 1000000000 ->
  ∃ o', fr07_times_l1 (zl a) (zl b) (N : Int) n (i : Int) (zl o) = some (zl o') /\ o'.length = N /\ V8 o' = V8 o + 256 ^ i * (V8 (a.drop i) * V8 b) /\ ∀ x ∈ o', x ≤ B + 65536 * (b.length * r)
 | _, 0, _, _, _, _, h, _, _, _ => absurd h (Nat.not_lt_zero _)
 | 0, n + 1, i, B, o, h, h2, h3, h4, h5 => by
  rw [fr07_times_l1.eq_2, zl_len, cond_ff (by simp <;> omega)]
  refine ⟨o, rfl, h3, ?_, fun x hx => by have := h4 x hx; omega⟩
  rw [List.drop_eq_nil_of_le (by omega)]; simp [V8, valN]
 | r + 1, n + 1, i, B, o, h, h2, h3, h4, h5 => by
  have hs : b.length * (r + 1) = b.length * r + b.length := Nat.mul_succ ..
  rw [hs] at h5
  obtain ⟨o1, p1, p2, p3, p4⟩ := times_l2 a b N ha hb hN i (by omega) hab b.length FUEL 0 B o (by omega) (big _ (by omega)) h3 h4 (by omega)
  obtain ⟨o', q1, q2, q3, q4⟩ := times_l1 a b N ha hb hN hab r n (i + 1) (B + 65536 * b.length) o1 (by omega) (by omega) p2 p4 (by omega)
  rw [show ((0 : Nat) : Int) = 0 from rfl] at p1
  rw [fr07_times_l1.eq_2, zl_len, cond_tt (by simp <;> omega), if_pos ⟨by omega, by omega⟩, p1, Option.bind_some, wrap_i64 (by omega) (by omega), show (i : Int) + 1 = ((i + 1 : Nat) : Int) from rfl]
  refine ⟨o', q1, q2, ?_, fun x hx => by have := q4 x hx; rw [hs]; omega⟩
  rw [q3, p3, V_drop a i (by omega), p256, Nat.add_zero, List.drop_zero, Nat.add_mul, Nat.mul_add, Nat.mul_assoc (256 ^ i) 256, Nat.mul_assoc 256]; omega
theorem times_is (a b : List Nat) (ha : Dig a) (hb : Dig b) (la : a.length ≤ 100) (lb : b.length ≤ 100) : ∃ p, fr07_times (zl a) (zl b) = some p /\ Is p (V8 a * V8 b) := by
 have hm : b.length * a.length ≤ 100 * 100 := Nat.mul_le_mul lb la
 obtain ⟨o, h1, h2, h3, h4⟩ := times_l1 a b (a.length + b.length) ha hb (by omega) (by omega) a.length FUEL 0 0 (List.replicate (a.length + b.length) 0) (by omega) (big _ (by omega)) (by simp) (fun x hx => by rw [List.eq_of_mem_replicate hx]; exact Nat.le_refl 0) (by omega)
 obtain ⟨p, f1, f2⟩ := even_is o (fun x hx => by have := h4 x hx; omega) (by omega)
 refine ⟨p, ?_, ?_⟩
 ·unfold fr07_times
  rw [zl_len, zl_len, show ((a.length : Nat) : Int) + ((b.length : Nat) : Int) = ((a.length + b.length : Nat) : Int) from rfl, i64n (by omega), nm_eq, if_pos ⟨by omega, by omega, by omega, by omega⟩, Int.toNat_natCast]
  rw [zl_rep, show ((0 : Nat) : Int) = 0 from rfl] at h1
  rw [h1, Option.bind_some, List.length_replicate, List.take_of_length_le (by rw [zl_len]; omega), f1]; rfl
 ·rw [h3, V_zeros] at f2
  simpa using f2
end Go.Eng
