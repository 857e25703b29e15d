/-
  Part of a proof: SelN3.
-/
import Derived.Test.YtedebbmgijcpfaaDoorSelN2
set_option linter.unusedVariables false
set_option linter.unusedSimpArgs false
set_option linter.unusedVariables false
set_option linter.unusedSimpArgs false
namespace Go.Eng
set_option maxRecDepth 100000
set_option maxHeartbeats 1000000
abbrev T130 : Nat := 1361129467683753853853498429727072845824
abbrev P130 : Nat := 1361129467683753853853498429727072845819
theorem take_getD (m : List Nat) (N i : Nat) (h : i < N) : (m.take N).getD i 0 = m.getD i 0 := by
 simp only [List.getD]; rw [List.getElem?_take_of_lt h]
theorem halved_l1_eq (x : List Int) : ∀ (n : Nat) (i : Int) (o : List Int), fr07_halved_l1 x n i o = fr07_halved_2_l1 x.length x n i o
 | 0, _, _ => rfl
 | n + 1, i, o => by
  have ih : fr07_halved_l1 x n = fr07_halved_2_l1 x.length x n := funext fun i => funext fun o => halved_l1_eq x n i o
  rw [fr07_halved_l1.eq_2, fr07_halved_2_l1.eq_2, ih]
  rfl
theorem halved_eq (x : List Int) : fr07_halved x = fr07_halved_2 x.length x := by
 have ih : fr07_halved_l1 x = fr07_halved_2_l1 x.length x := funext fun n => funext fun i => funext fun o => halved_l1_eq x n i o
 unfold fr07_halved fr07_halved_2
 rw [ih]
theorem quarter (a : List Nat) (i : Nat) : V8 (a.drop i) % 4 = a.getD i 0 % 4 := by
 by_cases h : i < a.length
 ·rw [V_drop a i h]; omega
 ·rw [List.drop_eq_nil_of_le (by omega)]
  simp only [List.getD]; rw [List.getElem?_eq_none (by omega)]; rfl
theorem halved_2_l1_is (m : List Nat) (N : Nat) (hm : Dig m) (hN : N ≤ m.length) (hl : N ≤ 1000) : ∀ (r n i : Nat) (o : List Nat), i + r = N -> r < n -> o.length ≤ i ->
  ∃ e, fr07_halved_2_l1 N (zl m) n (i : Int) (zl o) = some (.inr (zl (o ++ e))) /\ Dig e /\ V8 e = V8 ((m.take N).drop i) / 4 /\ e.length ≤ r
 | _, 0, _, _, _, h, _ => absurd h (Nat.not_lt_zero _)
 | 0, n + 1, i, o, h, h1, h2 => by
  rw [fr07_halved_2_l1.eq_2, cond_ff (by simp <;> omega)]
  refine ⟨[], by rw [List.append_nil], (fun x hx => by cases hx), ?_, Nat.zero_le _⟩
  rw [List.drop_eq_nil_of_le (by rw [List.length_take]; omega)]; rfl
 | r + 1, n + 1, i, o, h, h1, h2 => by
  have hg : m.getD i 0 < 256 := getD_lt hm (by decide) i
  have hg1 : (m.take N).getD (i + 1) 0 < 256 := getD_lt (fun x hx => hm x (List.mem_of_mem_take hx)) (by decide) (i + 1)
  have hg2 := take_getD m N i (by omega)
  have hc : ((cond (decide ((IntKind.wrap .i64 ((i : Int) + 1)) < (N : Int)))
    (if (0 : Int) ≤ (IntKind.wrap .i64 ((i : Int) + 1)) /\ (IntKind.wrap .i64 ((i : Int) + 1)) < (N : Int) then
     nm ((List.getD (zl m) (Int.toNat (IntKind.wrap .i64 ((i : Int) + 1))) 0) : Int) fun x121 =>
     some x121
    else none)
    (some 0) : Option Int)) = some (((m.take N).getD (i + 1) 0 : Nat) : Int) := by
   rw [wrap_i64 (by omega) (by omega)]
   by_cases hi : i + 1 < N
   ·rw [cond_tt (by simp <;> omega), if_pos ⟨by omega, by omega⟩, nm_eq, show ((i : Int) + 1).toNat = i + 1 by omega, zl_getD, take_getD m N (i + 1) hi]
   ·rw [cond_ff (by simp <;> omega)]
    simp only [List.getD]; rw [List.getElem?_eq_none (by rw [List.length_take]; omega)]; rfl
  have e1 : ∀ x : Nat, Int.tdiv (x : Int) 4 = ((x / 4 : Nat) : Int) := fun _ => rfl
  have e2 : ∀ x : Nat, Int.tmod (x : Int) 4 * 64 = ((x % 4 * 64 : Nat) : Int) := fun _ => rfl
  have e0 : ∀ x y : Nat, (x : Int) + (y : Int) = ((x + y : Nat) : Int) := fun _ _ => rfl
  have e3 : zl o ++ [((m.getD i 0 / 4 + (m.take N).getD (i + 1) 0 % 4 * 64 : Nat) : Int)] = zl (o ++ [m.getD i 0 / 4 + (m.take N).getD (i + 1) 0 % 4 * 64]) := by rw [zl_append]; rfl
  rw [fr07_halved_2_l1.eq_2, cond_tt (by simp <;> omega), hc, Option.bind_some, if_pos ⟨by omega, by omega⟩, nm_eq, nm_eq, Int.toNat_natCast, zl_getD, e1, e2, i64n (by omega), i64n (by omega), e0 (m.getD i 0 / 4) ((m.take N).getD (i + 1) 0 % 4 * 64), i64n (by omega), if_pos (by rw [zl_len]; simp only [List.length_cons, List.length_nil]; omega), wrap_i64 (by omega) (by omega), e3, show (i : Int) + 1 = ((i + 1 : Nat) : Int) from rfl]
  obtain ⟨e, p1, p2, p3, p4⟩ := halved_2_l1_is m N hm hN hl r n (i + 1) (o ++ [m.getD i 0 / 4 + (m.take N).getD (i + 1) 0 % 4 * 64]) (by omega) (by omega) (by simp only [List.length_append, List.length_cons, List.length_nil]; omega)
  refine ⟨(m.getD i 0 / 4 + (m.take N).getD (i + 1) 0 % 4 * 64) :: e, by rw [p1, List.append_assoc]; rfl, ?_, ?_, by simp only [List.length_cons]; omega⟩
  ·intro x hx
   rcases List.mem_cons.1 hx with rfl | hx
   ·omega
   ·exact p2 x hx
  ·show (m.getD i 0 / 4 + (m.take N).getD (i + 1) 0 % 4 * 64) + 256 * V8 e = _
   have hq := quarter (m.take N) (i + 1)
   rw [p3, V_drop (m.take N) i (by rw [List.length_take]; omega), hg2]
   generalize V8 ((m.take N).drop (i + 1)) = W at *
   omega
theorem halved_2_is {p : Nat × List Int} {v : Nat} (h : Is p v) (hl : p.1 ≤ 1000) : (fr07_halved_2 p.1 p.2 = some (.inl ()) /\ v / T130 = 0) \/ ∃ a b c d, fr07_halved_2 p.1 p.2 = some (.inr (a, b, c, d)) /\ Is (a, c) (v / T130) /\ Is (b, d) (v % T130) := by
 obtain ⟨N, l⟩ := p
 obtain ⟨m, h1, h2, h3, h4⟩ := h
 simp only at h1 h3 h4 hl ⊢
 subst h1
 have hv : v = V8 (m.take N) := by rw [h4, D_val]
 unfold fr07_halved_2
 by_cases hN : N < 17
 ·refine .inl ⟨cond_tt (by simp <;> omega), ?_⟩
  have h5 := V_lt (l := m.take N) (fun x hx => h2 x (List.mem_of_mem_take hx))
  rw [← hv, List.length_take, Nat.min_eq_left h3] at h5
  have h6 : (256 : Nat) ^ N ≤ 256 ^ 16 := Nat.pow_le_pow_right (by decide) (by omega)
  have h7 : (256 : Nat) ^ 16 < T130 := by decide
  exact Nat.div_eq_of_lt (by omega)
 ·refine .inr ?_
  have ht : (m.take 17).length = 17 := by rw [List.length_take]; omega
  have hg : (m.take 17).getD 16 0 < 256 := getD_lt (fun x hx => h2 x (List.mem_of_mem_take hx)) (by decide) 16
  have e1 : Int.tmod (((m.take 17).getD 16 0 : Nat) : Int) 4 = (((m.take 17).getD 16 0 % 4 : Nat) : Int) := rfl
  have hlow : Dig ((m.take 17).set 16 ((m.take 17).getD 16 0 % 4)) := fun x hx => by
   rcases List.mem_or_eq_of_mem_set hx with hx | rfl
   ·exact h2 x (List.mem_of_mem_take hx)
   ·omega
  obtain ⟨e, p1, p2, p3, p4⟩ := halved_2_l1_is m N h2 h3 hl (N - 16) FUEL 16 [] (by omega) (big _ (by omega)) (Nat.zero_le _)
  obtain ⟨j1, q1, q2, q3⟩ := trim_is e p2 (by omega)
  obtain ⟨j2, r1, r2, r3⟩ := trim_is _ hlow (by rw [List.length_set]; omega)
  rw [show ((16 : Nat) : Int) = 16 from rfl, show zl [] = ([] : List Int) from rfl] at p1
  refine ⟨j1, j2, zl e, zl ((m.take 17).set 16 ((m.take 17).getD 16 0 % 4)), ?_, ⟨e, rfl, p2, q3, ?_⟩, ⟨_, rfl, hlow, r3, ?_⟩⟩
  ·rw [cond_ff (by simp <;> omega), if_pos (by omega), List.nil_append, ← zl_take, if_pos (by rw [zl_len, ht]; decide), zl_len, ht, if_pos (by decide), nm_eq, if_pos (by decide), p1, Option.bind_some]
   dsimp only
   rw [List.nil_append, q1, Option.bind_some, zl_getD, e1, zl_set, r1]; rfl
  ·rw [q2, p3, hv]
   congr 1
   have hsplit : V8 (m.take N) = V8 ((m.take N).take 16) + 256 ^ 16 * V8 ((m.take N).drop 16) := by
    have := V_append ((m.take N).take 16) ((m.take N).drop 16)
    rw [List.take_append_drop, List.length_take, List.length_take, Nat.min_eq_left (by omega)] at this
    exact this
   have hlt := V_lt (l := (m.take N).take 16) (fun x hx => h2 x (List.mem_of_mem_take (List.mem_of_mem_take hx)))
   rw [List.length_take, List.length_take, Nat.min_eq_left (by omega)] at hlt
   have c16 : (256 : Nat) ^ 16 = 340282366920938463463374607431768211456 := by decide
   rw [c16] at hsplit hlt
   rw [hsplit]
   simp only [T130]
   omega
  ·rw [r2, hv]
   congr 1
   have hsplit : V8 (m.take N) = V8 ((m.take N).take 16) + 256 ^ 16 * V8 ((m.take N).drop 16) := by
    have := V_append ((m.take N).take 16) ((m.take N).drop 16)
    rw [List.take_append_drop, List.length_take, List.length_take, Nat.min_eq_left (by omega)] at this
    exact this
   have hlt := V_lt (l := (m.take N).take 16) (fun x hx => h2 x (List.mem_of_mem_take (List.mem_of_mem_take hx)))
   rw [List.length_take, List.length_take, Nat.min_eq_left (by omega)] at hlt
   have c16 : (256 : Nat) ^ 16 = 340282366920938463463374607431768211456 := by decide
   have hq := quarter (m.take N) 16
   have hg16 : (m.take N).getD 16 0 = (m.take 17).getD 16 0 := by rw [take_getD m N 16 (by omega), take_getD m 17 16 (by omega)]
   have hlowV : V8 ((m.take 17).set 16 ((m.take 17).getD 16 0 % 4)) = V8 (m.take 16) + 256 ^ 16 * ((m.take 17).getD 16 0 % 4) := by
    have : (m.take 17).set 16 ((m.take 17).getD 16 0 % 4) = m.take 16 ++ [(m.take 17).getD 16 0 % 4] := by
     generalize (m.take 17).getD 16 0 % 4 = z
     rw [List.take_add_one (i := 16), List.set_append_right _ _ (by rw [List.length_take]; omega), List.getElem?_eq_getElem (by omega)]
     rw [List.length_take, Nat.min_eq_left (by omega)]; rfl
    rw [this, V_append, List.length_take, Nat.min_eq_left (by omega)]; simp [V8, valN]
   have htt : (m.take N).take 16 = m.take 16 := by rw [List.take_take, Nat.min_eq_left (by omega)]
   rw [hg16] at hq
   rw [hlowV, hsplit, htt]
   rw [htt] at hlt
   rw [c16] at hlt ⊢
   generalize V8 ((m.take N).drop 16) = W at *
   generalize V8 (m.take 16) = U at *
   generalize (m.take 17).getD 16 0 = g at *
   simp only [T130]
   omega
end Go.Eng
