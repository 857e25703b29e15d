/-
  Part of a proof: SelN4.
-/
import Derived.Test.YtedebbmgijcpfaaDoorSelN3
set_option linter.unusedVariables false
set_option linter.unusedSimpArgs false
set_option linter.unusedVariables false
set_option linter.unusedSimpArgs false
namespace Go.Eng
set_option maxRecDepth 100000
set_option maxHeartbeats 1000000
theorem Is_D (v : Nat) : Is ((D v).length, zl (D v)) v := ⟨D v, rfl, D_dig v, Nat.le_refl _, List.take_length ..⟩
theorem dig5 : Dig [5] := fun x hx => by rw [List.mem_singleton.1 hx]; decide
theorem V5 : V8 [5] = 5 := rfl
theorem zl5 : zl [5] = [5] := rfl
theorem c34 : (256 : Nat) ^ 34 = 7588550360256754183279148073529370729071901715047420004889892225542594864082845696 := by decide
theorem Mod_step {v : Nat} (hv : v < 256 ^ 34) (n : Nat) : fr07_Mod_l1 (n + 1) (zl (D v)) = if v / T130 = 0 then some (zl (D v)) else fr07_Mod_l1 n (zl (D (v % T130 + v / T130 * 5))) := by
 have hl := D_len 34 v hv
 have hlow : v % T130 < 256 ^ 34 := Nat.lt_of_le_of_lt (Nat.mod_le _ _) hv
 have hhi : v / T130 < 256 ^ 34 := Nat.lt_of_le_of_lt (Nat.div_le_self _ _) hv
 rw [fr07_Mod_l1.eq_2, halved_eq, zl_len]
 rcases halved_2_is (Is_D v) (by simp only; omega) with ⟨h1, h2⟩ | ⟨a, b, c, d, h1, h2, h3⟩
 ·simp only at h1
  rw [h1, if_pos h2]; rfl
 ·simp only at h1
  rw [h1, Option.bind_some]
  dsimp only
  have hz := h2.zero
  simp only at hz
  by_cases h0 : v / T130 = 0
  ·rw [if_pos h0, hz.2 h0]; rfl
  ·have ha : a ≠ 0 := fun e => h0 (hz.1 e)
   rw [if_neg h0, cond_ff (by rw [beq_eq_false_iff_ne]; omega)]
   have t1 := h2.take
   have t2 := h3.take
   simp only at t1 t2
   obtain ⟨p, f1, f2⟩ := times_is (D (v / T130)) [5] (D_dig _) dig5 (Nat.le_trans (D_len 34 _ hhi) (by decide)) (by decide)
   rw [D_val, V5] at f2
   rw [t1, ← zl5, f1, Option.bind_some]
   have h5 : v / T130 * 5 < 256 ^ 34 := by rw [c34] at *; simp only [T130]; omega
   obtain ⟨q, g1, g2⟩ := add_is (D (v % T130)) (D (v / T130 * 5)) (D_dig _) (D_dig _) (Nat.le_trans (D_len 34 _ hlow) (by decide)) (Nat.le_trans (D_len 34 _ h5) (by decide))
   rw [D_val, D_val] at g2
   have t3 := f2.take
   obtain ⟨p1, p2⟩ := p
   dsimp only at t3 ⊢
   rw [t2, t3, g1, Option.bind_some]
   have t4 := g2.take
   obtain ⟨q1, q2⟩ := q
   dsimp only at t4 ⊢
   rw [t4]
theorem Mod_l1_is {v : Nat} (hv : v < 256 ^ 34) : ∃ w, fr07_Mod_l1 FUEL (zl (D v)) = some (zl (D w)) /\ w < T130 /\ w % P130 = v % P130 := by
 obtain ⟨m, hm⟩ : ∃ m, FUEL = m + 6 := ⟨18446744073709551610, rfl⟩
 rw [hm, Mod_step hv]
 rw [c34] at hv
 have cT : T130 = 1361129467683753853853498429727072845824 := rfl
 have cP : P130 = 1361129467683753853853498429727072845819 := rfl
 have r1 : (v % T130 + v / T130 * 5) % P130 = v % P130 := by simp only [T130, P130]; omega
 have b1 : v % T130 + v / T130 * 5 < 27877292627630962680773501339240178955321344 := by simp only [T130]; omega
 by_cases h0 : v / T130 = 0
 ·rw [if_pos h0]; exact ⟨v, rfl, by simp only [T130] at h0 ⊢; omega, rfl⟩
 rw [if_neg h0]
 generalize hv1 : v % T130 + v / T130 * 5 = v1 at *
 have b1' : v1 < 256 ^ 34 := by rw [c34]; omega
 rw [Mod_step b1']
 by_cases h1 : v1 / T130 = 0
 ·rw [if_pos h1]; exact ⟨v1, rfl, by simp only [T130] at h1 ⊢; omega, r1⟩
 rw [if_neg h1]
 have r2 : (v1 % T130 + v1 / T130 * 5) % P130 = v1 % P130 := by simp only [T130, P130]; omega
 have b2 : v1 % T130 + v1 / T130 * 5 < 1361129467683753853853498429727073009664 := by simp only [T130]; omega
 generalize hv2 : v1 % T130 + v1 / T130 * 5 = v2 at *
 rw [Mod_step (v := v2) (by rw [c34]; omega)]
 by_cases h2 : v2 / T130 = 0
 ·rw [if_pos h2]; exact ⟨v2, rfl, by simp only [T130] at h2 ⊢; omega, by rw [r2, r1]⟩
 rw [if_neg h2]
 have r3 : (v2 % T130 + v2 / T130 * 5) % P130 = v2 % P130 := by simp only [T130, P130]; omega
 have b3 : v2 % T130 + v2 / T130 * 5 < 1361129467683753853853498429727072845844 := by simp only [T130]; omega
 generalize hv3 : v2 % T130 + v2 / T130 * 5 = v3 at *
 rw [Mod_step (v := v3) (by rw [c34]; omega)]
 by_cases h3 : v3 / T130 = 0
 ·rw [if_pos h3]; exact ⟨v3, rfl, by simp only [T130] at h3 ⊢; omega, by rw [r3, r2, r1]⟩
 rw [if_neg h3]
 have r4 : (v3 % T130 + v3 / T130 * 5) % P130 = v3 % P130 := by simp only [T130, P130]; omega
 have b4 : v3 % T130 + v3 / T130 * 5 < 1361129467683753853853498429727072845824 := by simp only [T130] at h3 ⊢; omega
 generalize hv4 : v3 % T130 + v3 / T130 * 5 = v4 at *
 rw [Mod_step (v := v4) (by rw [c34]; omega)]
 have h4 : v4 / T130 = 0 := by simp only [T130]; omega
 rw [if_pos h4]; exact ⟨v4, rfl, by simp only [T130]; omega, by rw [r4, r3, r2, r1]⟩
theorem Mod_is {v : Nat} (hv : v < 256 ^ 34) : (fr07_Mod (zl (D v)) = some (.inl (zl (D (v % P130))))) \/ ∃ a b, fr07_Mod (zl (D v)) = some (.inr (a, b)) /\ b.take a = zl (D (v % P130)) := by
 obtain ⟨w, h1, h2, h3⟩ := Mod_l1_is hv
 have c17 : (256 : Nat) ^ 17 = 87112285931760246646623899502532662132736 := by decide
 obtain ⟨q, g1, g2⟩ := add_is (D w) [5] (D_dig _) dig5 (Nat.le_trans (D_len 17 _ (by rw [c17]; simp only [T130] at h2; omega)) (by decide)) (by decide)
 rw [D_val, V5] at g2
 unfold fr07_Mod
 rw [h1, Option.bind_some, ← zl5, g1, Option.bind_some]
 have hq : q.1 ≤ 1000 := by
  obtain ⟨m, e1, e2, e3, e4⟩ := g2
  have := congrArg List.length e4
  have h17 := D_len 17 (w + 5) (by rw [c17]; simp only [T130] at h2; omega)
  rw [List.length_take, Nat.min_eq_left e3] at this
  omega
 obtain ⟨q1, q2⟩ := q
 dsimp only at hq ⊢
 rcases halved_2_is g2 hq with ⟨k1, k2⟩ | ⟨a, b, c, d, k1, k2, k3⟩
 ·dsimp only at k1
  rw [k1]
  refine .inl ?_
  have : v % P130 = w := by rw [← h3]; simp only [T130, P130] at *; omega
  rw [this]; rfl
 ·dsimp only at k1
  rw [k1, Option.bind_some]
  dsimp only
  have hz := k2.zero
  dsimp only at hz
  by_cases h0 : (w + 5) / T130 = 0
  ·have ha := hz.2 h0
   refine .inl ?_
   rw [cond_ff (by rw [ha]; rfl)]
   have : v % P130 = w := by rw [← h3]; simp only [T130, P130] at *; omega
   rw [this]
  ·have ha : a ≠ 0 := fun e => h0 (hz.1 e)
   refine .inr ⟨b, d, by rw [cond_tt (by simp <;> omega)], ?_⟩
   have t := k3.take
   dsimp only at t
   rw [t]
   congr 2
   rw [← h3]; simp only [T130, P130] at *; omega
def polyN (r : Nat) : Nat -> Nat -> List Nat -> Nat
 | 0, a, _ => a
 | k + 1, a, m => if m.isEmpty then a else polyN r k (((a + V8 (m.take 16 ++ [1])) * r) % P130) (m.drop 16)
theorem polyN_nil (r k a : Nat) : polyN r k a [] = a := by cases k <;> rfl
theorem Sum_l3_is (m : List Nat) (hm : Dig m) (hl : m.length ≤ 900000) {x79 : Nat} {x80 : List Int} {r : Nat} (hr : x80.take x79 = zl (D r)) (hr' : r < 256 ^ 16) : ∀ (k n i a : Nat), m.length ≤ i + 16 * k -> k < n -> i ≤ m.length + 15 -> a < P130 ->
  fr07_Sum_l3 (zl m) x79 x80 n (zl (D a)) (i : Int) = some (zl (D (polyN r k a (m.drop i))))
 | _, 0, _, _, _, h, _, _ => absurd h (Nat.not_lt_zero _)
 | k, n + 1, i, a, h1, h2, h3, h4 => by
  rw [fr07_Sum_l3.eq_2, zl_len]
  by_cases hi : i < m.length
  ·cases k with
   | zero => omega
   | succ k =>
   have c16 : (256 : Nat) ^ 16 = 340282366920938463463374607431768211456 := by decide
   have c17 : (256 : Nat) ^ 17 = 87112285931760246646623899502532662132736 := by decide
   have c18 : (256 : Nat) ^ 18 = 22300745198530623141535718272648361505980416 := by decide
   rw [cond_tt (by simp <;> omega), nm_eq, wrap_i64 (n := (i : Int) + 16) (by omega) (by omega)]
   have hcond : (cond (decide ((i : Int) + 16 > (m.length : Int))) (some (m.length : Int)) (some ((i : Int) + 16)) : Option Int) = some ((min m.length (i + 16) : Nat) : Int) := by
    by_cases hh : (i : Int) + 16 > (m.length : Int)
    ·rw [cond_tt (by simpa using hh)]; congr 1; omega
    ·rw [cond_ff (by simpa using hh)]; congr 1; omega
   rw [hcond, Option.bind_some, if_pos (by omega), if_pos ⟨by omega, by omega⟩, nm_eq]
   have hch : List.take (((min m.length (i + 16) : Nat) : Int) - (i : Int)).toNat (List.drop (i : Int).toNat (zl m)) = zl ((m.drop i).take 16) := by
    rw [Int.toNat_natCast, ← zl_drop, ← zl_take]
    congr 1
    rw [show (((min m.length (i + 16) : Nat) : Int) - (i : Int)).toNat = min m.length (i + 16) - i by omega]
    by_cases h16 : i + 16 ≤ m.length
    ·rw [show min m.length (i + 16) - i = 16 by omega]
    ·rw [List.take_of_length_le (by rw [List.length_drop]; omega), List.take_of_length_le (by rw [List.length_drop]; omega)]
   have hcd : Dig ((m.drop i).take 16 ++ [1]) := fun x hx => by
    rcases List.mem_append.1 hx with hx | hx
    ·exact hm x (List.mem_of_mem_drop (List.mem_of_mem_take hx))
    ·rw [List.mem_singleton.1 hx]; decide
   have hcl : ((m.drop i).take 16).length ≤ 16 := by rw [List.length_take]; omega
   have hcl2 : ((m.drop i).take 16 ++ [1]).length ≤ 17 := by rw [List.length_append]; simp only [List.length_cons, List.length_nil]; omega
   obtain ⟨p, n1, n2⟩ := number_is _ hcd (by omega)
   have hzz : zl ((m.drop i).take 16) ++ [1] = zl ((m.drop i).take 16 ++ [1]) := by rw [zl_append]; rfl
   rw [hch, if_pos (by rw [zl_len]; simp only [List.length_nil]; omega), List.nil_append, if_pos (by rw [zl_len]; simp only [List.length_cons, List.length_nil]; omega), hzz, n1, Option.bind_some]
   have hV : V8 ((m.drop i).take 16 ++ [1]) < 256 ^ 17 := Nat.lt_of_lt_of_le (V_lt hcd) (Nat.pow_le_pow_right (by decide) hcl2)
   have t1 := n2.take
   obtain ⟨p1, p2⟩ := p
   dsimp only at t1 ⊢
   simp only [P130] at h4
   have la := D_len 17 a (by rw [c17]; omega)
   have lv := D_len 17 _ hV
   obtain ⟨q, a1, a2⟩ := add_is (D a) (D (V8 ((m.drop i).take 16 ++ [1]))) (D_dig _) (D_dig _) (by omega) (by omega)
   rw [D_val, D_val] at a2
   have t2 := a2.take
   have hs : a + V8 ((m.drop i).take 16 ++ [1]) < 256 ^ 18 := by rw [c17] at hV; rw [c18]; omega
   rw [t1, a1, Option.bind_some]
   obtain ⟨q1, q2⟩ := q
   dsimp only at t2 ⊢
   obtain ⟨u, b1, b2⟩ := times_is (D (a + V8 ((m.drop i).take 16 ++ [1]))) (D r) (D_dig _) (D_dig _) (Nat.le_trans (D_len 18 _ hs) (by decide)) (Nat.le_trans (D_len 16 _ hr') (by decide))
   rw [D_val, D_val] at b2
   have t3 := b2.take
   rw [t2, hr, b1, Option.bind_some]
   obtain ⟨u1, u2⟩ := u
   dsimp only at t3 ⊢
   have hprod : (a + V8 ((m.drop i).take 16 ++ [1])) * r < 256 ^ 34 := by
    have := Nat.mul_lt_mul'' hs hr'
    rw [← Nat.pow_add] at this; exact this
   have hstep : polyN r (k + 1) a (m.drop i) = polyN r k (((a + V8 ((m.drop i).take 16 ++ [1])) * r) % P130) (m.drop (i + 16)) := by
    rw [polyN, if_neg (by rw [List.isEmpty_iff]; intro e; have := congrArg List.length e; rw [List.length_drop, List.length_nil] at this; omega), List.drop_drop]
   have ih := Sum_l3_is m hm hl hr hr' k n (i + 16) (((a + V8 ((m.drop i).take 16 ++ [1])) * r) % P130) (by omega) (by omega) (by omega) (Nat.mod_lt _ (by decide))
   rw [show (i : Int) + 16 = ((i + 16 : Nat) : Int) from rfl, hstep, ← ih, t3]
   rcases Mod_is hprod with e | ⟨x, y, e, e'⟩
   ·rw [e]; rfl
   ·rw [e, Option.bind_some]
    dsimp only
    rw [e']; rfl
  ·rw [cond_ff (by simp <;> omega), List.drop_eq_nil_of_le (by omega), polyN_nil]
end Go.Eng
