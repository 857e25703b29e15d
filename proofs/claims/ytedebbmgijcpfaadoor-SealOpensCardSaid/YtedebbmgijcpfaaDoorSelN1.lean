/-
  Part of a proof: SelN1.
-/
import Derived.Test.YtedebbmgijcpfaaDoorSelB
set_option linter.unusedVariables false
set_option linter.unusedSimpArgs false
set_option linter.unusedVariables false
set_option linter.unusedSimpArgs false
namespace Go.Eng
set_option maxRecDepth 100000
set_option maxHeartbeats 1000000
theorem two8 : (2 : Nat) ^ 8 = 256 := rfl
theorem p256 (n : Nat) : (256 : Nat) ^ (n + 1) = 256 ^ n * 256 := Nat.pow_succ ..
abbrev V8 (l : List Nat) : Nat := valN 8 l
def Dig (l : List Nat) : Prop := ∀ x ∈ l, x < 256
def D (n : Nat) : List Nat := if n = 0 then [] else n % 256 :: D (n / 256)
 termination_by n
 decreasing_by omega
theorem D_zero : D 0 = [] := by rw [D]; rfl
theorem D_pos {n : Nat} (h : n ≠ 0) : D n = n % 256 :: D (n / 256) := by rw [D, if_neg h]
theorem D_dig (n : Nat) : Dig (D n) := by
 induction n using Nat.strongRecOn with
 | _ n ih =>
  by_cases h : n = 0
  ·rw [h, D_zero]; exact fun x hx => by cases hx
  ·rw [D_pos h]
   intro x hx
   rcases List.mem_cons.1 hx with rfl | hx
   ·exact Nat.mod_lt _ (by decide)
   ·exact ih (n / 256) (by omega) x hx
theorem D_val (n : Nat) : V8 (D n) = n := by
 induction n using Nat.strongRecOn with
 | _ n ih =>
  by_cases h : n = 0
  ·rw [h, D_zero]; rfl
  ·rw [D_pos h]
   have := ih (n / 256) (by omega)
   simp only [V8, valN] at this ⊢
   rw [this]
   omega
theorem D_len : ∀ (k n : Nat), n < 256 ^ k -> (D n).length ≤ k
 | 0, n, h => by
  have : n = 0 := by simpa using h
  rw [this, D_zero]; exact Nat.le_refl 0
 | k + 1, n, h => by
  by_cases h0 : n = 0
  ·rw [h0, D_zero]; exact Nat.zero_le _
  ·rw [D_pos h0, List.length_cons]
   have := D_len k (n / 256) (by rw [Nat.pow_succ] at h; omega)
   omega
theorem V_append (a b : List Nat) : V8 (a ++ b) = V8 a + 256 ^ a.length * V8 b := by
 induction a with
 | nil => simp [V8, valN]
 | cons x xs ih =>
  simp only [V8, List.cons_append, valN, List.length_cons, p256, two8] at ih ⊢
  rw [ih, Nat.mul_add, ← Nat.mul_assoc, Nat.mul_comm (256 ^ xs.length) 256]
  omega
theorem V_take_succ : ∀ (l : List Nat) (k : Nat), V8 (l.take (k + 1)) = V8 (l.take k) + 256 ^ k * l.getD k 0
 | [], k => by simp [V8, valN]
 | x :: xs, 0 => by simp [V8, valN]
 | x :: xs, k + 1 => by
  have := V_take_succ xs k
  simp only [V8, List.take_succ_cons, valN, List.getD_cons_succ, p256, two8] at this ⊢
  rw [this, Nat.mul_add, ← Nat.mul_assoc, Nat.mul_comm (256 ^ k) 256]
  omega
theorem V_drop (l : List Nat) (i : Nat) (h : i < l.length) : V8 (l.drop i) = l.getD i 0 + 256 * V8 (l.drop (i + 1)) := by
 rw [List.drop_eq_getElem_cons h]
 simp only [V8, valN, List.getD, List.getElem?_eq_getElem h, Option.getD_some]
theorem V_set : ∀ (l : List Nat) (j x : Nat), j < l.length -> V8 (l.set j (l.getD j 0 + x)) = V8 l + 256 ^ j * x
 | [], j, x, h => by simp at h
 | y :: ys, 0, x, h => by simp [V8, valN]; omega
 | y :: ys, j + 1, x, h => by
  have := V_set ys j x (by simpa using h)
  simp only [V8, List.getD_cons_succ, List.set_cons_succ, valN, p256, two8] at this ⊢
  rw [this, Nat.mul_add, ← Nat.mul_assoc, Nat.mul_comm (256 ^ j) 256]
  omega
theorem V_zeros (n : Nat) : V8 (List.replicate n 0) = 0 := by
 induction n with
 | zero => rfl
 | succ n ih => rw [List.replicate_succ]; simp only [V8, valN] at ih ⊢; rw [ih]
theorem V_lt {l : List Nat} (h : Dig l) : V8 l < 256 ^ l.length := by
 have := valN_lt 8 l h
 rw [Nat.pow_mul] at this; exact this
theorem D_of : ∀ (l : List Nat) (k : Nat), Dig l -> l.length = k + 1 -> l.getD k 0 ≠ 0 -> D (V8 l) = l
 | [x], 0, h, _, h0 => by
  have hx := h x (List.mem_cons_self ..)
  have : x ≠ 0 := by simpa using h0
  have e : V8 [x] = x := by simp [V8, valN]
  rw [e, D_pos this, Nat.mod_eq_of_lt hx, Nat.div_eq_of_lt hx, D_zero]
 | x :: y :: ys, k + 1, h, hl, h0 => by
  have hx := h x (List.mem_cons_self ..)
  have ih := D_of (y :: ys) k (fun z hz => h z (List.mem_cons_of_mem _ hz)) (by simpa using hl) (by simpa using h0)
  have e : V8 (x :: y :: ys) = x + 256 * V8 (y :: ys) := rfl
  have hn : V8 (y :: ys) ≠ 0 := fun e0 => by rw [e0, D_zero] at ih; cases ih
  rw [e, D_pos (by omega), Nat.add_mul_mod_self_left, Nat.mod_eq_of_lt hx, Nat.add_mul_div_left _ _ (by decide), Nat.div_eq_of_lt hx, Nat.zero_add, ih]
theorem big (n : Nat) (h : n < 10000000) : n < FUEL := Nat.lt_trans h (by decide)
theorem trim_l1 (m : List Nat) (hm : Dig m) (hl : m.length ≤ 1000000) : ∀ (k n : Nat), k ≤ m.length -> k < n -> ∃ j, j ≤ k /\ fr07_trim_2_l1 (zl m) n k = some j /\ m.take j = D (V8 (m.take k))
 | _, 0, _, h => absurd h (Nat.not_lt_zero _)
 | 0, n + 1, _, _ => by
  rw [fr07_trim_2_l1.eq_2, cond_ff (by decide)]
  exact ⟨0, Nat.le_refl 0, rfl, by rw [List.take_zero]; exact D_zero.symm⟩
 | k + 1, n + 1, h, h' => by
  have e : IntKind.wrap .i64 (((k + 1 : Nat) : Int) - 1) = (k : Int) := by rw [wrap_i64 (by omega) (by omega)]; omega
  rw [fr07_trim_2_l1.eq_2, cond_tt (by simp <;> omega), e, if_pos ⟨by omega, by omega⟩, nm_eq, Int.toNat_natCast, zl_getD]
  by_cases h0 : m.getD k 0 = 0
  ·rw [cond_tt (by rw [h0]; rfl), if_pos (by omega), if_pos (by omega), show ((k : Int) - 0).toNat = k by omega]
   obtain ⟨j, a, b, c⟩ := trim_l1 m hm hl k n (by omega) (by omega)
   refine ⟨j, by omega, b, ?_⟩
   rw [c, V_take_succ, h0, Nat.mul_zero, Nat.add_zero]
  ·rw [cond_ff (by rw [beq_eq_false_iff_ne]; omega)]
   refine ⟨k + 1, Nat.le_refl _, rfl, ?_⟩
   have ht : (m.take (k + 1)).length = k + 1 := by rw [List.length_take]; omega
   rw [D_of (m.take (k + 1)) k (fun x hx => hm x (List.mem_of_mem_take hx)) ht (by simp only [List.getD] at h0 ⊢; rw [List.getElem?_take_of_lt (by omega)]; exact h0)]
theorem trim_is (m : List Nat) (hm : Dig m) (hl : m.length ≤ 1000000) : ∃ j, fr07_trim_2 (zl m) = some j /\ m.take j = D (V8 m) /\ j ≤ m.length := by
 obtain ⟨j, hj, b, c⟩ := trim_l1 m hm hl m.length FUEL (Nat.le_refl _) (big _ (by omega))
 refine ⟨j, ?_, by rw [c, List.take_length], hj⟩
 unfold fr07_trim_2
 rw [zl_len, b]; rfl
def Is (p : Nat × List Int) (v : Nat) : Prop := ∃ m, p.2 = zl m /\ Dig m /\ p.1 ≤ m.length /\ m.take p.1 = D v
theorem Is.take {p : Nat × List Int} {v : Nat} (h : Is p v) : p.2.take p.1 = zl (D v) := by
 obtain ⟨m, h1, _, _, h2⟩ := h
 rw [h1, ← zl_take, h2]
theorem Is.zero {p : Nat × List Int} {v : Nat} (h : Is p v) : p.1 = 0 ↔ v = 0 := by
 obtain ⟨m, _, _, h3, h2⟩ := h
 constructor
 ·intro h0
  rw [h0, List.take_zero] at h2
  rw [← D_val v, ← h2]; rfl
 ·intro h0
  rw [h0, D_zero] at h2
  have := congrArg List.length h2
  rw [List.length_take, List.length_nil] at this
  omega
theorem number_l1 (m : List Nat) (hm : Dig m) (hl : m.length ≤ 1000000) : ∀ (r n i : Nat), i + r = m.length -> r < n -> fr07_number_l1 (zl m) n (i : Int) (zl (m.take i)) = some (.inr (zl m))
 | _, 0, _, _, h => absurd h (Nat.not_lt_zero _)
 | 0, n + 1, i, h, _ => by
  rw [fr07_number_l1.eq_2, zl_len, cond_ff (by simp <;> omega), List.take_of_length_le (by omega)]
 | r + 1, n + 1, i, h, h' => by
  have hg : m.getD i 0 < 256 := getD_lt hm (by decide) i
  have e : (zl (m.take i)) ++ [((m.getD i 0 : Nat) : Int)] = zl (m.take (i + 1)) := by
   rw [List.take_add_one, zl_append]; congr 1
   rw [List.getD, List.getElem?_eq_getElem (by omega)]; rfl
  rw [fr07_number_l1.eq_2, zl_len, cond_tt (by simp <;> omega), if_pos ⟨by omega, by omega⟩, Int.toNat_natCast, zl_getD, i64n (by omega), if_pos (by rw [zl_len, List.length_take]; simp only [List.length_cons, List.length_nil]; omega), nm_eq, e, wrap_i64 (by omega) (by omega)]
  exact number_l1 m hm hl r n (i + 1) (by omega) (by omega)
theorem number_is (m : List Nat) (hm : Dig m) (hl : m.length ≤ 1000000) : ∃ p, fr07_number (zl m) = some p /\ Is p (V8 m) := by
 obtain ⟨j, h1, h2, h3⟩ := trim_is m hm hl
 have := number_l1 m hm hl m.length FUEL 0 (by omega) (big _ (by omega))
 refine ⟨(j, zl m), ?_, ⟨m, rfl, hm, h3, h2⟩⟩
 unfold fr07_number
 rw [show (0 : Int) = ((0 : Nat) : Int) from rfl, show ([] : List Int) = zl (m.take 0) from rfl, this, Option.bind_some]
 dsimp only
 rw [h1]; rfl
theorem even_2 (m : List Nat) : ∀ (k n c i : Nat) (o : List Nat), c < 256 ^ k -> k < n -> o.length + k ≤ 1000000 -> m.length ≤ i -> i + k < 1000000 -> c < 9223372036854775808 ->
  ∃ e, fr07_even_l1 (zl m) n (c : Int) (i : Int) (zl o) = some (.inr (zl (o ++ e))) /\ Dig e /\ V8 e = c /\ e.length ≤ k
 | _, 0, _, _, _, _, h, _, _, _, _ => absurd h (Nat.not_lt_zero _)
 | k, n + 1, 0, i, o, _, _, _, h, _, _ => by
  rw [fr07_even_l1.eq_2, zl_len, cond_ff (by simp <;> omega), cond_ff (by simp)]
  exact ⟨[], by rw [List.append_nil], (fun x hx => by cases hx), rfl, Nat.zero_le _⟩
 | 0, n + 1, c + 1, i, o, h, _, _, _, _, _ => by simp at h
 | k + 1, n + 1, c + 1, i, o, h, h1, h2, h3, h4, h5 => by
  have e1 : Int.tmod ((c + 1 : Nat) : Int) 256 = (((c + 1) % 256 : Nat) : Int) := rfl
  have e2 : Int.tdiv ((c + 1 : Nat) : Int) 256 = (((c + 1) / 256 : Nat) : Int) := rfl
  have e3 : zl o ++ [(((c + 1) % 256 : Nat) : Int)] = zl (o ++ [(c + 1) % 256]) := by rw [zl_append]; rfl
  rw [fr07_even_l1.eq_2, zl_len, cond_ff (by simp <;> omega), cond_tt (by simp <;> omega), cond_ff (by simp <;> omega), Option.bind_some, e1, e2, if_pos (by rw [zl_len]; simp only [List.length_cons, List.length_nil]; omega), i64n (by omega), wrap_i64 (by omega) (by omega), e3]
  obtain ⟨e, a, b, d, f⟩ := even_2 m k n ((c + 1) / 256) (i + 1) (o ++ [(c + 1) % 256]) (by rw [Nat.pow_succ] at h; omega) (by omega) (by simp only [List.length_append, List.length_cons, List.length_nil]; omega) (by omega) (by omega) (by omega)
  refine ⟨(c + 1) % 256 :: e, ?_, ?_, ?_, by simp only [List.length_cons]; omega⟩
  ·rw [show (i : Int) + 1 = ((i + 1 : Nat) : Int) from rfl, a, List.append_assoc]; rfl
  ·intro x hx
   rcases List.mem_cons.1 hx with rfl | hx
   ·exact Nat.mod_lt _ (by decide)
   ·exact b x hx
  ·show (c + 1) % 256 + 256 * V8 e = _
   rw [d]; omega
theorem even_1 (m : List Nat) (hm : ∀ x ∈ m, x < 1099511627776) (hl : m.length ≤ 1000) : ∀ (r n c i : Nat) (o : List Nat), i + r = m.length -> r + 10 < n -> c < 1099511627776 -> o.length ≤ i ->
  ∃ e, fr07_even_l1 (zl m) n (c : Int) (i : Int) (zl o) = some (.inr (zl (o ++ e))) /\ Dig e /\ V8 e = c + V8 (m.drop i) /\ e.length ≤ r + 5
 | _, 0, _, _, _, _, h, _, _ => absurd h (Nat.not_lt_zero _)
 | 0, n + 1, c, i, o, h, h1, h2, h3 => by
  obtain ⟨e, a, b, d, f⟩ := even_2 m 5 (n + 1) c i o (by simpa using h2) (by omega) (by omega) (by omega) (by omega) (by omega)
  refine ⟨e, a, b, ?_, by omega⟩
  rw [d, List.drop_eq_nil_of_le (by omega)]; rfl
 | r + 1, n + 1, c, i, o, h, h1, h2, h3 => by
  have hg : m.getD i 0 < 1099511627776 := getD_lt hm (by decide) i
  have e0 : (c : Int) + ((m.getD i 0 : Nat) : Int) = ((c + m.getD i 0 : Nat) : Int) := rfl
  have e1 : Int.tmod ((c + m.getD i 0 : Nat) : Int) 256 = (((c + m.getD i 0) % 256 : Nat) : Int) := rfl
  have e2 : Int.tdiv ((c + m.getD i 0 : Nat) : Int) 256 = (((c + m.getD i 0) / 256 : Nat) : Int) := rfl
  have e3 : zl o ++ [(((c + m.getD i 0) % 256 : Nat) : Int)] = zl (o ++ [(c + m.getD i 0) % 256]) := by rw [zl_append]; rfl
  rw [fr07_even_l1.eq_2, zl_len, cond_tt (by simp <;> omega), cond_tt (by simp <;> omega), if_pos ⟨by omega, by omega⟩, nm_eq, Int.toNat_natCast, zl_getD, e0, i64n (by omega), Option.bind_some, e1, e2, if_pos (by rw [zl_len]; simp only [List.length_cons, List.length_nil]; omega), i64n (by omega), wrap_i64 (by omega) (by omega), e3]
  obtain ⟨e, a, b, d, f⟩ := even_1 m hm hl r n ((c + m.getD i 0) / 256) (i + 1) (o ++ [(c + m.getD i 0) % 256]) (by omega) (by omega) (by omega) (by simp only [List.length_append, List.length_cons, List.length_nil]; omega)
  refine ⟨(c + m.getD i 0) % 256 :: e, ?_, ?_, ?_, by simp only [List.length_cons]; omega⟩
  ·rw [show (i : Int) + 1 = ((i + 1 : Nat) : Int) from rfl, a, List.append_assoc]; rfl
  ·intro x hx
   rcases List.mem_cons.1 hx with rfl | hx
   ·exact Nat.mod_lt _ (by decide)
   ·exact b x hx
  ·show (c + m.getD i 0) % 256 + 256 * V8 e = _
   rw [d, V_drop m i (by omega)]; omega
theorem even_is (m : List Nat) (hm : ∀ x ∈ m, x < 1099511627776) (hl : m.length ≤ 1000) : ∃ p, fr07_even (zl m) = some p /\ Is p (V8 m) := by
 obtain ⟨e, a, b, d, f⟩ := even_1 m hm hl m.length FUEL 0 0 [] (by omega) (big _ (by omega)) (by omega) (Nat.zero_le _)
 obtain ⟨j, h1, h2, h3⟩ := trim_is e b (by omega)
 refine ⟨(j, zl e), ?_, ⟨e, rfl, b, h3, by rw [h2, d, Nat.zero_add, List.drop_zero]⟩⟩
 unfold fr07_even
 rw [show (0 : Int) = ((0 : Nat) : Int) from rfl, show ([] : List Int) = zl [] from rfl, a, Option.bind_some]
 dsimp only
 rw [List.nil_append, h1]; rfl
end Go.Eng
