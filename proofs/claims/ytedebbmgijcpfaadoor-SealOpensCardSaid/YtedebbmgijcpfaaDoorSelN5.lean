/-
  Part of a proof: SelN5.
-/
import Derived.Test.YtedebbmgijcpfaaDoorSelN4
import Derived.KernelRfl
set_option linter.unusedVariables false
set_option linter.unusedSimpArgs false
set_option linter.unusedVariables false
set_option linter.unusedSimpArgs false
namespace Go.Eng
set_option maxRecDepth 100000
set_option maxHeartbeats 1000000
theorem D_get : ∀ (i s : Nat), (D s).getD i 0 = s / 256 ^ i % 256
 | i, 0 => by rw [D_zero, Nat.zero_div]; rfl
 | 0, s + 1 => by rw [D_pos (by omega)]; simp
 | i + 1, s + 1 => by
  rw [D_pos (by omega), List.getD_cons_succ, D_get i, p256, Nat.mul_comm, Nat.div_div_eq_div_mul]
theorem Sum_l4_is {x99 : Nat} {x100 : List Int} {s : Nat} (h : Is (x99, x100) s) (hx : x99 ≤ 1000) : ∀ (r n i : Nat), i + r = 16 -> r < n ->
  fr07_Sum_l4 x99 x100 n (i : Int) (zl (limbsN 8 16 (s % 2 ^ (8 * i)))) = some (zl (limbsN 8 16 (s % 2 ^ 128)))
 | _, 0, _, _, h => absurd h (Nat.not_lt_zero _)
 | 0, n + 1, i, h1, h2 => by
  have : i = 16 := by omega
  subst this
  rw [fr07_Sum_l4.eq_2, cond_ff (by decide)]
 | r + 1, n + 1, i, h1, h2 => by
  obtain ⟨m, e1, e2, e3, e4⟩ := h
  dsimp only at e1 e3 e4
  have h := (⟨m, e1, e2, e3, e4⟩ : Is (x99, x100) s)
  obtain ⟨s1, s2⟩ := limbsN_setc 8 8 (by decide) (by decide) 16 s (8 * i) (by omega) (by omega)
  rw [show 8 * i / 8 = i by omega, show 8 * i % 8 = 0 by omega, Nat.pow_zero] at s1 s2
  rw [show (limbsN 8 16 (s % 2 ^ (8 * i))).getD i 0 = 0 by omega, Nat.zero_add, Nat.one_mul] at s2
  have hd := D_get i s
  have hp : (256 : Nat) ^ i = 2 ^ (8 * i) := by rw [Nat.pow_mul]
  rw [hp] at hd
  have ih := Sum_l4_is h hx r n (i + 1) (by omega) (by omega)
  rw [show 8 * (i + 1) = 8 * i + 8 by omega] at ih
  rw [fr07_Sum_l4.eq_2, cond_tt (by simp <;> omega)]
  by_cases hi : i < x99
  ·have hg : m.getD i 0 = s / 2 ^ (8 * i) % 2 ^ 8 := by
    rw [← take_getD m x99 i hi, e4, hd]
   rw [cond_tt (by simp <;> omega), if_pos ⟨by omega, by omega⟩, if_pos ⟨by omega, by omega⟩, nm_eq, Int.toNat_natCast, e1, zl_getD, hg, u8n, Nat.mod_eq_of_lt (a := s / 2 ^ (8 * i) % 2 ^ 8) (Nat.mod_lt _ (by decide)), zl_set, s2, wrap_i64 (by omega) (by omega)]
   rw [e1] at ih
   exact ih
  ·rw [cond_ff (by simp <;> omega)]
   have hlen := congrArg List.length e4
   rw [List.length_take, Nat.min_eq_left e3] at hlen
   have hlt := V_lt (D_dig s)
   rw [D_val, ← hlen] at hlt
   have hle : (256 : Nat) ^ x99 ≤ 256 ^ i := Nat.pow_le_pow_right (by decide) (by omega)
   have hle2 : (2 : Nat) ^ (8 * i) ≤ 2 ^ 128 := Nat.pow_le_pow_right (by decide) (by omega)
   rw [hp] at hle
   rw [Nat.mod_eq_of_lt (a := s) (b := 2 ^ (8 * i)) (by omega), Nat.mod_eq_of_lt (a := s) (b := 2 ^ 128) (by omega)]
def clN : List Nat -> List Nat
 | [a0, a1, a2, a3, a4, a5, a6, a7, a8, a9, a10, a11, a12, a13, a14, a15] => [a0, a1, a2, a3 % 16, a4 / 4 * 4, a5, a6, a7 % 16, a8 / 4 * 4, a9, a10, a11 % 16, a12 / 4 * 4, a13, a14, a15 % 16]
 | l => l
theorem list16n {l : List Nat} (h : l.length = 16) : ∃ a0 a1 a2 a3 a4 a5 a6 a7 a8 a9 a10 a11 a12 a13 a14 a15, l = [a0, a1, a2, a3, a4, a5, a6, a7, a8, a9, a10, a11, a12, a13, a14, a15] := list16 h
theorem cl_ref (k0 k1 k2 k3 k4 k5 k6 k7 k8 k9 k10 k11 k12 k13 k14 k15 k16 k17 k18 k19 k20 k21 k22 k23 k24 k25 k26 k27 k28 k29 k30 k31 : Int) :
  (fr07_Sum_l1 [k0, k1, k2, k3, k4, k5, k6, k7, k8, k9, k10, k11, k12, k13, k14, k15, k16, k17, k18, k19, k20, k21, k22, k23, k24, k25, k26, k27, k28, k29, k30, k31] FUEL 0 ([] ++ [k0, k1, k2, k3, k4, k5, k6, k7, k8, k9, k10, k11, k12, k13, k14, k15])) = some [k0, k1, k2, Int.tmod k3 16, k4, k5, k6, Int.tmod k7 16, k8, k9, k10, Int.tmod k11 16, k12, k13, k14, Int.tmod k15 16] := by kernel_rfl
theorem cl_ref2 (k0 k1 k2 k3 k4 k5 k6 k7 k8 k9 k10 k11 k12 k13 k14 k15 k16 k17 k18 k19 k20 k21 k22 k23 k24 k25 k26 k27 k28 k29 k30 k31 a0 a1 a2 a3 a4 a5 a6 a7 a8 a9 a10 a11 a12 a13 a14 a15 : Int) :
  (fr07_Sum_l2 [k0, k1, k2, k3, k4, k5, k6, k7, k8, k9, k10, k11, k12, k13, k14, k15, k16, k17, k18, k19, k20, k21, k22, k23, k24, k25, k26, k27, k28, k29, k30, k31] FUEL 0 [a0, a1, a2, a3, a4, a5, a6, a7, a8, a9, a10, a11, a12, a13, a14, a15]) = some [a0, a1, a2, a3, IntKind.wrap .u8 (IntKind.wrap .u8 (Int.tdiv a4 4) * 4), a5, a6, a7, IntKind.wrap .u8 (IntKind.wrap .u8 (Int.tdiv a8 4) * 4), a9, a10, a11, IntKind.wrap .u8 (IntKind.wrap .u8 (Int.tdiv a12 4) * 4), a13, a14, a15] := by kernel_rfl
theorem cl4 {a : Nat} (h : a < 256) : IntKind.wrap .u8 (IntKind.wrap .u8 (Int.tdiv (a : Int) 4) * 4) = ((a / 4 * 4 : Nat) : Int) := by
 rw [show Int.tdiv (a : Int) 4 = ((a / 4 : Nat) : Int) from rfl, u8n, Nat.mod_eq_of_lt (by omega), show ((a / 4 : Nat) : Int) * 4 = ((a / 4 * 4 : Nat) : Int) from rfl, u8n, Nat.mod_eq_of_lt (by omega)]
theorem cl_both {k : List Nat} (hk : k.length = 32) (kb : Dig k) : (fr07_Sum_l1 (zl k) FUEL 0 ([] ++ (zl k).take 16)).bind (fun x => fr07_Sum_l2 (zl k) FUEL 0 x) = some (zl (clN (k.take 16))) := by
 obtain ⟨k0, k1, k2, k3, k4, k5, k6, k7, k8, k9, k10, k11, k12, k13, k14, k15, k16, k17, k18, k19, k20, k21, k22, k23, k24, k25, k26, k27, k28, k29, k30, k31, rfl⟩ := list32 hk
 have h1 := cl_ref k0 k1 k2 k3 k4 k5 k6 k7 k8 k9 k10 k11 k12 k13 k14 k15 k16 k17 k18 k19 k20 k21 k22 k23 k24 k25 k26 k27 k28 k29 k30 k31
 have h2 := cl_ref2 k0 k1 k2 k3 k4 k5 k6 k7 k8 k9 k10 k11 k12 k13 k14 k15 k16 k17 k18 k19 k20 k21 k22 k23 k24 k25 k26 k27 k28 k29 k30 k31 k0 k1 k2 (Int.tmod k3 16) k4 k5 k6 (Int.tmod k7 16) k8 k9 k10 (Int.tmod k11 16) k12 k13 k14 (Int.tmod k15 16)
 rw [cl4 (kb k4 (by simp)), cl4 (kb k8 (by simp)), cl4 (kb k12 (by simp))] at h2
 show (fr07_Sum_l1 [(k0 : Int), k1, k2, k3, k4, k5, k6, k7, k8, k9, k10, k11, k12, k13, k14, k15, k16, k17, k18, k19, k20, k21, k22, k23, k24, k25, k26, k27, k28, k29, k30, k31] FUEL 0 ([] ++ [(k0 : Int), k1, k2, k3, k4, k5, k6, k7, k8, k9, k10, k11, k12, k13, k14, k15])).bind (fun x => fr07_Sum_l2 [(k0 : Int), k1, k2, k3, k4, k5, k6, k7, k8, k9, k10, k11, k12, k13, k14, k15, k16, k17, k18, k19, k20, k21, k22, k23, k24, k25, k26, k27, k28, k29, k30, k31] FUEL 0 x) = _
 rw [h1, Option.bind_some, h2]
 rfl
theorem clN_dig {k : List Nat} (hk : k.length = 16) (kb : Dig k) : Dig (clN k) /\ (clN k).length = 16 := by
 obtain ⟨k0, k1, k2, k3, k4, k5, k6, k7, k8, k9, k10, k11, k12, k13, k14, k15, rfl⟩ := list16n hk
 refine ⟨?_, rfl⟩
 have h3 := kb k3 (by simp)
 have h4 := kb k4 (by simp)
 have h7 := kb k7 (by simp)
 have h8 := kb k8 (by simp)
 have h11 := kb k11 (by simp)
 have h12 := kb k12 (by simp)
 have h15 := kb k15 (by simp)
 intro x hx
 simp only [clN, List.mem_cons, List.not_mem_nil, or_false] at hx
 rcases hx with rfl | rfl | rfl | rfl | rfl | rfl | rfl | rfl | rfl | rfl | rfl | rfl | rfl | rfl | rfl | rfl
 any_goals omega
 all_goals exact kb _ (by simp)
def macN (k m : List Nat) : List Nat := limbsN 8 16 ((polyN (V8 (clN (k.take 16))) (m.length + 1) 0 m + V8 (k.drop 16)) % 2 ^ 128)
theorem polyN_lt (r : Nat) : ∀ (k a : Nat) (m : List Nat), a < P130 -> polyN r k a m < P130
 | 0, a, m, h => h
 | k + 1, a, m, h => by
  rw [polyN]
  split
  ·exact h
  ·exact polyN_lt r k _ _ (Nat.mod_lt _ (by decide))
theorem Sum_ref {k m : List Nat} (hk : k.length = 32) (kb : Dig k) (hm : Dig m) (hl : m.length ≤ 900000) : fr07_Sum (zl k) (zl m) = some (zl (macN k m)) := by
 have k16 : (k.take 16).length = 16 := by rw [List.length_take]; omega
 have k16' : (k.drop 16).length = 16 := by rw [List.length_drop]; omega
 have kd : Dig (k.take 16) := fun x hx => kb x (List.mem_of_mem_take hx)
 have kd' : Dig (k.drop 16) := fun x hx => kb x (List.mem_of_mem_drop hx)
 obtain ⟨c1, c2⟩ := clN_dig k16 kd
 obtain ⟨p, n1, n2⟩ := number_is _ c1 (by omega)
 have t1 := n2.take
 have hr' : V8 (clN (k.take 16)) < 256 ^ 16 := Nat.lt_of_lt_of_le (V_lt c1) (Nat.pow_le_pow_right (by decide) (by omega))
 have c16 : (256 : Nat) ^ 16 = 340282366920938463463374607431768211456 := by decide
 have hl3 := Sum_l3_is m hm hl t1 hr' (m.length + 1) FUEL 0 0 (by omega) (big _ (by omega)) (by omega) (by decide)
 rw [D_zero, List.drop_zero] at hl3
 have ha := polyN_lt (V8 (clN (k.take 16))) (m.length + 1) 0 m (by decide)
 unfold macN
 generalize polyN (V8 (clN (k.take 16))) (m.length + 1) 0 m = A at *
 obtain ⟨q, s1, s2⟩ := number_is _ kd' (by omega)
 have t2 := s2.take
 have hS : V8 (k.drop 16) < 256 ^ 16 := Nat.lt_of_lt_of_le (V_lt kd') (Nat.pow_le_pow_right (by decide) (by omega))
 have c17 : (256 : Nat) ^ 17 = 87112285931760246646623899502532662132736 := by decide
 simp only [P130] at ha
 obtain ⟨u, a1, a2⟩ := add_is (D A) (D (V8 (k.drop 16))) (D_dig _) (D_dig _) (Nat.le_trans (D_len 17 _ (by rw [c17]; omega)) (by decide)) (Nat.le_trans (D_len 16 _ hS) (by decide))
 rw [D_val, D_val] at a2
 have hu : u.1 ≤ 1000 := by
  obtain ⟨w, e1, e2, e3, e4⟩ := a2
  have := congrArg List.length e4
  have h17 := D_len 17 (A + V8 (k.drop 16)) (by rw [c16] at hS; rw [c17]; omega)
  rw [List.length_take, Nat.min_eq_left e3] at this
  omega
 have hcl := cl_both hk kb
 obtain ⟨x69, hx1, hx2⟩ : ∃ x, fr07_Sum_l1 (zl k) FUEL 0 ([] ++ (zl k).take 16) = some x /\ fr07_Sum_l2 (zl k) FUEL 0 x = some (zl (clN (k.take 16))) := by
  cases h : fr07_Sum_l1 (zl k) FUEL 0 ([] ++ (zl k).take 16) with
  | none => rw [h] at hcl; cases hcl
  | some x => rw [h] at hcl; exact ⟨x, rfl, hcl⟩
 unfold fr07_Sum
 have hlen : (([] : List Int) ++ List.take 16 (zl k)).length = 16 := by rw [List.nil_append, List.length_take, zl_len]; omega
 rw [if_pos (by rw [List.length_take, zl_len]; simp only [List.length_nil]; omega), hx1, Option.bind_some, hx2, Option.bind_some, hlen, List.take_of_length_le (by rw [zl_len]; omega), n1, Option.bind_some]
 obtain ⟨p1, p2⟩ := p
 dsimp only at hl3 ⊢
 rw [show ((0 : Nat) : Int) = 0 from rfl, show zl [] = ([] : List Int) from rfl] at hl3
 rw [hl3, Option.bind_some, List.take_of_length_le (by rw [List.length_drop, zl_len]; omega), ← zl_drop, s1, Option.bind_some]
 obtain ⟨q1, q2⟩ := q
 dsimp only at t2 ⊢
 rw [t2, a1, Option.bind_some]
 have l4 := Sum_l4_is (x99 := u.1) (x100 := u.2) a2 hu 16 FUEL 0 (by omega) (big _ (by omega))
 rw [Nat.mul_zero, Nat.pow_zero, Nat.mod_one, limbs_zero, zl_rep, show ((0 : Nat) : Int) = 0 from rfl] at l4
 rw [l4]; rfl
end Go.Eng
