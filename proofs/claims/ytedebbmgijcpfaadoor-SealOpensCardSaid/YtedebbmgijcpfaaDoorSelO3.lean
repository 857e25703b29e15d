/-
  Part of a proof: SelO3.
-/
import Derived.Test.YtedebbmgijcpfaaDoorSelO2
import Derived.KernelRfl
set_option linter.unusedVariables false
set_option linter.unusedSimpArgs false
set_option linter.unusedVariables false
set_option linter.unusedSimpArgs false
namespace Go.Eng
set_option maxRecDepth 100000
set_option maxHeartbeats 1000000
def addL : List Int -> List Int -> List Int
 | x :: xs, y :: ys => IntKind.wrap .u64 (x + y) :: addL xs ys
 | _, _ => []
theorem sum_l2_raw (a0 a1 a2 a3 a4 b0 b1 b2 b3 b4 : Int) : onetime_Sum_l2 [b0, b1, b2, b3, b4] FUEL 0 [a0, a1, a2, a3, a4] = some (addL [a0, a1, a2, a3, a4] [b0, b1, b2, b3, b4]) := by kernel_rfl
theorem addL_val : ∀ (a b : List Int), a.length = b.length -> Lim 134217728 a -> Lim 67108864 b ->
  val26 (addL a b) = val26 a + val26 b /\ Lim 268435456 (addL a b) /\ (addL a b).length = a.length
 | [], [], _, _, _ => by simp [addL, val26, Lim]
 | x :: xs, y :: ys, h, ⟨⟨p1, p2⟩, p3⟩, ⟨⟨q1, q2⟩, q3⟩ => by
  obtain ⟨i1, i2, i3⟩ := addL_val xs ys (by simpa using h) p3 q3
  simp only [addL, val26, Lim, List.length_cons, i1, i3, u64_id (n := x + y) (by omega) (by omega)]
  exact ⟨by omega, ⟨⟨by omega, by omega⟩, i2⟩, trivial⟩
theorem sum_l2_is {a b : List Int} (la : a.length = 5) (lb : b.length = 5) : onetime_Sum_l2 b FUEL 0 a = some (addL a b) := by
 obtain ⟨a0, a1, a2, a3, a4, rfl⟩ := list5 la
 obtain ⟨b0, b1, b2, b3, b4, rfl⟩ := list5 lb
 exact sum_l2_raw ..
theorem Sum_l1_is {rl : List Int} {r : Nat} (hr : Lim 67108864 rl) (lr : rl.length = 5) (vr : val26 rl = (r : Int)) (m : List Nat) (hm : Dig m) (hl : m.length ≤ 900000) : ∀ (k n i a : Nat) (h : List Int), m.length ≤ i + 16 * k -> k < n -> i ≤ m.length + 15 -> Lim 134217728 h -> h.length = 5 -> val26 h % PI = (a : Int) % PI ->
  ∃ h', onetime_Sum_l1 rl (zl m) n (i : Int) h = some h' /\ Lim 134217728 h' /\ h'.length = 5 /\ val26 h' % PI = ((polyN r k a (m.drop i) : Nat) : Int) % PI
 | _, 0, _, _, _, _, h, _, _, _, _ => absurd h (Nat.not_lt_zero _)
 | k, n + 1, i, a, h, h1, h2, h3, h4, h5, h6 => by
  rw [onetime_Sum_l1.eq_2, zl_len]
  by_cases hi : i < m.length
  ·cases k with
   | zero => omega
   | succ k =>
   rw [cond_tt (by simp <;> omega), if_pos ⟨by omega, by omega⟩, nm_eq]
   obtain ⟨w, hw⟩ : ∃ w : Nat, (if ((((m.length : Nat) : Int) - (i : Int)).toNat : Int) < 16 then ((((m.length : Nat) : Int) - (i : Int)).toNat : Int) else 16) = (w : Int) /\ w = min 16 (m.length - i) := by
    refine ⟨min 16 (m.length - i), ?_, rfl⟩
    split <;> omega
   rw [hw.1, wrap_i64 (n := (i : Int) + (w : Int)) (by omega) (by omega), if_pos ⟨by omega, by omega, by omega⟩, if_pos (by omega)]
   have hch : List.take (((i : Int) + (w : Int)) - (i : Int)).toNat (List.drop (i : Int).toNat (zl m)) = zl ((m.drop i).take 16) := by
    rw [Int.toNat_natCast, ← zl_drop, ← zl_take]
    congr 1
    rw [show (((i : Int) + (w : Int)) - (i : Int)).toNat = w by omega, hw.2]
    by_cases h16 : i + 16 ≤ m.length
    ·rw [show min 16 (m.length - i) = 16 by omega]
    ·rw [List.take_of_length_le (by rw [List.length_drop]; omega), List.take_of_length_le (by rw [List.length_drop]; omega)]
   have hcd : Dig ((m.drop i).take 16 ++ [1]) := fun x hx => by
    rcases List.mem_append.1 hx with hx | hx
    ·exact hm x (List.mem_of_mem_drop (List.mem_of_mem_take hx))
    ·rw [List.mem_singleton.1 hx]; decide
   have hcl : ((m.drop i).take 16).length ≤ 16 := by rw [List.length_take]; omega
   have hcl2 : ((m.drop i).take 16 ++ [1]).length ≤ 17 := by rw [List.length_append]; simp only [List.length_cons, List.length_nil]; omega
   have hzz : zl ((m.drop i).take 16) ++ [1] = zl ((m.drop i).take 16 ++ [1]) := by rw [zl_append]; rfl
   have hV : V8 ((m.drop i).take 16 ++ [1]) < T130 := by
    have hc : Dig ((m.drop i).take 16) := fun x hx => hm x (List.mem_of_mem_drop (List.mem_of_mem_take hx))
    have hlt := V_lt hc
    have hle : (256 : Nat) ^ ((m.drop i).take 16).length ≤ 256 ^ 16 := Nat.pow_le_pow_right (by decide) hcl
    have c16 : (256 : Nat) ^ 16 = 340282366920938463463374607431768211456 := by decide
    have e1 : V8 [1] = 1 := rfl
    rw [V_append, e1]
    rw [c16] at hle
    simp only [T130]; omega
   rw [hch, clone_some (by rw [zl_len]; omega), Option.bind_some, if_pos (by rw [zl_len]; simp only [List.length_cons, List.length_nil]; omega), hzz]
   obtain ⟨q, q1, q2, q3, q4⟩ := read_is hcd hcl2 hV
   obtain ⟨s1, s2, s3⟩ := addL_val h q (by rw [h5, q3]) h4 q2
   obtain ⟨t, t1, t2, t3, t4⟩ := times5_is s2 hr (by rw [s3, h5]) lr
   rw [q1, Option.bind_some, sum_l2_is h5 q3, Option.bind_some, t1, Option.bind_some, wrap_i64 (by omega) (by omega), show (i : Int) + 16 = ((i + 16 : Nat) : Int) from rfl]
   have hstep : polyN r (k + 1) a (m.drop i) = polyN r k (((a + V8 ((m.drop i).take 16 ++ [1])) * r) % P130) (m.drop (i + 16)) := by
    rw [polyN, if_neg (by rw [List.isEmpty_iff]; intro e; have := congrArg List.length e; rw [List.length_drop, List.length_nil] at this; omega), List.drop_drop]
   rw [hstep]
   refine Sum_l1_is hr lr vr m hm hl k n (i + 16) _ t (by omega) (by omega) (by omega) t2 t3 ?_
   rw [t4, s1, q4, vr, Int.mul_emod, Int.add_emod, h6, ← Int.add_emod, ← Int.mul_emod]
   generalize V8 ((m.drop i).take 16 ++ [1]) = z
   rw [Int.natCast_emod, Int.natCast_mul, Int.natCast_add]
   exact (Int.emod_emod _ _).symm
  ·rw [cond_ff (by simp <;> omega), List.drop_eq_nil_of_le (by omega), polyN_nil]
   exact ⟨h, rfl, h4, h5, h6⟩
theorem least_l1_raw (a0 a1 a2 a3 a4 : Int) : onetime_number_least_l1 FUEL 0 [a0, a1, a2, a3, a4] = some (wpass0 [a0, a1, a2, a3, a4]) := by kernel_rfl
theorem pick_l (x y : Int) (h : 0 ≤ x /\ x < 18446744073709551616) (h' : 0 ≤ y /\ y < 18446744073709551616) (b : Bool) : words_Pick b x y = some (cond b x y) := by
 cases b with
 | true =>
  show some (bits .u64 .or (bits .u64 .and x 18446744073709551615) (bits .u64 .andNot y 18446744073709551615)) = some x
  rw [and_max h.1 h.2, andNot_max, or_zero64 h.1 h.2]
 | false =>
  show some (bits .u64 .or (bits .u64 .and x 0) (bits .u64 .andNot y 0)) = some y
  rw [and_zero64 h.1 h.2, andNot_zero64 h'.1 h'.2, zero_or64 h'.1 h'.2]
theorem least_l2_raw (x y a0 a1 a2 a3 a4 b0 b1 b2 b3 b4 : Int) (x0 x1 x2 x3 x4 : Int) : onetime_number_least_l2 [x0, x1, x2, x3, x4] [b0, b1, b2, b3, b4] FUEL 0 [a0, a1, a2, a3, a4] = (words_Pick (!((Int.fdiv x4 (2 ^ 26)) == 0)) b0 a0).bind fun c0 => (words_Pick (!((Int.fdiv x4 (2 ^ 26)) == 0)) b1 a1).bind fun c1 => (words_Pick (!((Int.fdiv x4 (2 ^ 26)) == 0)) b2 a2).bind fun c2 => (words_Pick (!((Int.fdiv x4 (2 ^ 26)) == 0)) b3 a3).bind fun c3 => (words_Pick (!((Int.fdiv x4 (2 ^ 26)) == 0)) b4 a4).bind fun c4 => some [c0, c1, c2, c3, c4] := by kernel_rfl
theorem least_is {a : List Int} (ha : Lim 134217728 a) (la : a.length = 5) : ∃ r, onetime_number_least a = some r /\ Lim 67108864 r /\ r.length = 5 /\ val26 r = val26 a % PI := by
 obtain ⟨c1, c2, c3, c4, c5, _⟩ := carried2_val (ha.mono (by decide)) la
 obtain ⟨_, _, d3, _, _, d6⟩ := carried2_val (c2.mono (by decide)) c3
 obtain ⟨d6, d7⟩ := d6 c5
 have hv : val26 a % PI = val26 (carried2 (carried2 a)) % PI := by rw [d6, c1]
 have hlo : 0 ≤ val26 (carried2 (carried2 a)) := by rw [d6]; exact c4
 have hhi : val26 (carried2 (carried2 a)) < TI := by rw [d6]; exact c5
 unfold onetime_number_least
 rw [carry2_eq la, Option.bind_some, carry2_eq c3, Option.bind_some, hv]
 clear hv d6 c1 c2 c4 c5
 generalize carried2 (carried2 a) = b at *
 obtain ⟨b0, b1, b2, b3, b4, rfl⟩ := list5 d3
 have d7' := d7
 simp only [Lim] at d7'
 obtain ⟨h0, h1, h2, h3, h4, _⟩ := d7'
 have e3 : IntKind.u64.wrap (b0 + 5) = b0 + 5 := u64_id (by omega) (by omega)
 have hl : Lim 9223372036854775808 [b0 + 5, b1, b2, b3, b4] := by
  simp only [Lim]; refine ⟨by omega, by omega, by omega, by omega, by omega, trivial⟩
 obtain ⟨w1, w2, w3⟩ := wpass0_val _ (by simp) hl
 have hw : val26 [b0 + 5, b1, b2, b3, b4] = val26 [b0, b1, b2, b3, b4] + 5 := by simp only [val26]; omega
 have hx := least_l1_raw (b0 + 5) b1 b2 b3 b4
 simp only [List.getD_cons_zero, List.set_cons_zero, e3]
 rw [nm_eq, hx, Option.bind_some, nm_eq]
 generalize wpass0 [b0 + 5, b1, b2, b3, b4] = y at *
 obtain ⟨y0, y1, y2, y3, y4, rfl⟩ := list5 w3
 rw [hw] at w1
 simp only [LimT] at w2
 obtain ⟨g0, g1, g2, g3, g4⟩ := w2
 have hy4 : y4 < 134217728 := by simp only [val26] at w1; omega
 have em : bits .u64 .and y4 67108863 = y4 % 67108864 := mask26 g4 (by omega)
 simp only [List.getD_cons_zero, List.getD_cons_succ, List.set_cons_zero, List.set_cons_succ, em]
 rw [least_l2_raw 0 0, pick_l _ _ (by omega) (by omega), Option.bind_some, pick_l _ _ (by omega) (by omega), Option.bind_some, pick_l _ _ (by omega) (by omega), Option.bind_some, pick_l _ _ (by omega) (by omega), Option.bind_some, pick_l _ _ (by omega) (by omega), Option.bind_some, Option.bind_some, fdiv26]
 by_cases hg : y4 / 67108864 = 0
 ·rw [hg]
  refine ⟨_, rfl, d7, rfl, ?_⟩
  show val26 [b0, b1, b2, b3, b4] = _
  have : val26 [b0, b1, b2, b3, b4] < PI := by simp only [val26, PI] at w1 ⊢; omega
  rw [Int.emod_eq_of_lt hlo this]
 ·have hb : (!((y4 / 67108864) == 0)) = true := by simpa using hg
  rw [hb]
  refine ⟨_, rfl, ?_, rfl, ?_⟩
  ·show Lim 67108864 [y0, y1, y2, y3, y4 % 67108864]
   simp only [Lim]; refine ⟨by omega, by omega, by omega, by omega, by omega, trivial⟩
  ·show val26 [y0, y1, y2, y3, y4 % 67108864] = _
   have hv : val26 [y0, y1, y2, y3, y4 % 67108864] = val26 [b0, b1, b2, b3, b4] - PI := by
    simp only [val26, PI, TI] at w1 hhi ⊢; omega
   rw [hv]
   have hge : PI ≤ val26 [b0, b1, b2, b3, b4] := by simp only [val26, PI] at w1 ⊢; omega
   simp only [PI, TI] at hhi hge ⊢; omega
theorem limbs26 {l : List Int} (h : Lim 67108864 l) (hn : l.length = 5) : l = zl (limbsN 26 5 (val26 l).toNat) := by
 obtain ⟨m, rfl, h1, h2⟩ := lim_zl (n := 67108864) h
 rw [val26_zl, Int.toNat_natCast, ← hn, ← h1, limbsN_val 26 m (by simpa using h2)]
theorem low_l2_is (X j : Nat) (hj : j < 16) : ∀ (r n t : Nat), t + r = 8 -> r < n -> onetime_number_low_l2 (zl (limbsN 26 5 X)) (j : Int) n ((X / 2 ^ (8 * j) % 2 ^ t : Nat) : Int) (t : Int) = some ((X / 2 ^ (8 * j) % 2 ^ 8 : Nat) : Int)
 | _, 0, _, _, h => absurd h (Nat.not_lt_zero _)
 | 0, n + 1, t, h1, h2 => by
  have : t = 8 := by omega
  subst this
  rw [onetime_number_low_l2.eq_2, cond_ff (by decide)]
 | r + 1, n + 1, t, h1, h2 => by
  have e0 : (8 : Int) * (j : Int) = ((8 * j : Nat) : Int) := rfl
  have e1 : ((8 * j : Nat) : Int) + (t : Int) = ((8 * j + t : Nat) : Int) := rfl
  have e2 : Int.tdiv ((8 * j + t : Nat) : Int) 26 = (((8 * j + t) / 26 : Nat) : Int) := rfl
  have e3 : Int.tmod ((8 * j + t : Nat) : Int) 26 = (((8 * j + t) % 26 : Nat) : Int) := rfl
  have m1 : min ((8 * j + t) % 26) (IntKind.bits .u64) = (8 * j + t) % 26 := by show min _ 64 = _; omega
  have m2 : min t (IntKind.bits .u64) = t := by show min _ 64 = _; omega
  have hb : (limbsN 26 5 X).getD ((8 * j + t) / 26) 0 < 67108864 := getD_lt (limbsN_lt 26 5 X) (by decide) _
  have hb' : (limbsN 26 5 X).getD ((8 * j + t) / 26) 0 / 2 ^ ((8 * j + t) % 26) < 18446744073709551616 := Nat.lt_trans (Nat.lt_of_le_of_lt (Nat.div_le_self _ _) hb) (by decide)
  have hbit := limbsN_bit 26 (by decide) 5 X (8 * j + t) (by omega)
  have hbit2 : X / 2 ^ (8 * j + t) % 2 = X / 2 ^ (8 * j) / 2 ^ t % 2 := by rw [Nat.pow_add, Nat.div_div_eq_div_mul]
  rw [hbit2] at hbit
  have hlt : X / 2 ^ (8 * j) % 2 ^ t < 2 ^ t := Nat.mod_lt _ (Nat.two_pow_pos t)
  have p1 : (2 : Nat) ^ t ≤ 2 ^ 7 := Nat.pow_le_pow_right (by decide) (by omega)
  have hlt2 : (X / 2 ^ (8 * j) / 2 ^ t % 2) * 2 ^ t ≤ 1 * 2 ^ 7 := Nat.mul_le_mul (by omega) p1
  have hs : X / 2 ^ (8 * j) % 2 ^ t + 2 ^ t * (X / 2 ^ (8 * j) / 2 ^ t % 2) = X / 2 ^ (8 * j) % 2 ^ (t + 1) := by rw [Nat.pow_succ, Nat.mod_mul]
  rw [onetime_number_low_l2.eq_2, cond_tt (by simp <;> omega), e0, i64n (n := 8 * j) (by omega), e1, i64n (n := 8 * j + t) (by omega), e2, i64n (n := (8 * j + t) / 26) (by omega), nm_eq, if_pos ⟨by omega, by omega⟩, e3, nm_eq, if_pos (by omega), nm_eq, if_pos (by omega), nm_eq, Int.toNat_natCast, Int.toNat_natCast, Int.toNat_natCast, zl_getD, m1, fdivn, and1_64 hb', hbit, m2, muln, u64n, Nat.mod_eq_of_lt (a := X / 2 ^ (8 * j) / 2 ^ t % 2 * 2 ^ t) (by omega), bits_or64 (by omega) (by omega), or_add hlt, hs, wrap_i64 (by omega) (by omega), show (t : Int) + 1 = ((t + 1 : Nat) : Int) from rfl]
  exact low_l2_is X j hj r n (t + 1) (by omega) (by omega)
theorem low_l1_is (X : Nat) : ∀ (r n i : Nat), i + r = 16 -> r < n -> onetime_number_low_l1 (zl (limbsN 26 5 X)) n (i : Int) (zl (limbsN 8 16 (X % 2 ^ (8 * i)))) = some (zl (limbsN 8 16 (X % 2 ^ 128)))
 | _, 0, _, _, h => absurd h (Nat.not_lt_zero _)
 | 0, n + 1, i, h1, h2 => by
  have : i = 16 := by omega
  subst this
  rw [onetime_number_low_l1.eq_2, cond_ff (by decide)]
 | r + 1, n + 1, i, h1, h2 => by
  obtain ⟨s1, s2⟩ := limbsN_setc 8 8 (by decide) (by decide) 16 X (8 * i) (by omega) (by omega)
  rw [show 8 * i / 8 = i by omega, show 8 * i % 8 = 0 by omega, Nat.pow_zero] at s1 s2
  rw [show (limbsN 8 16 (X % 2 ^ (8 * i))).getD i 0 = 0 by omega, Nat.zero_add, Nat.one_mul] at s2
  have hl := low_l2_is X i (by omega) 8 FUEL 0 (by omega) (big _ (by omega))
  rw [Nat.pow_zero, Nat.mod_one, show ((0 : Nat) : Int) = 0 from rfl] at hl
  rw [onetime_number_low_l1.eq_2, cond_tt (by simp <;> omega), hl, Option.bind_some, if_pos ⟨by omega, by omega⟩, Int.toNat_natCast, u8n, Nat.mod_eq_of_lt (a := X / 2 ^ (8 * i) % 2 ^ 8) (Nat.mod_lt _ (by decide)), zl_set, s2, wrap_i64 (by omega) (by omega), show (i : Int) + 1 = ((i + 1 : Nat) : Int) from rfl]
  exact low_l1_is X r n (i + 1) (by omega) (by omega)
theorem low_is {l : List Int} (h : Lim 67108864 l) (hn : l.length = 5) : onetime_number_low l = some (zl (limbsN 8 16 ((val26 l).toNat % 2 ^ 128))) := by
 have hl := low_l1_is (val26 l).toNat 16 FUEL 0 (by omega) (big _ (by omega))
 rw [Nat.mul_zero, Nat.pow_zero, Nat.mod_one, limbs_zero, zl_rep, show ((0 : Nat) : Int) = 0 from rfl, ← limbs26 h hn] at hl
 unfold onetime_number_low
 rw [hl]; rfl
def apass : Int -> List Int -> List Int -> List Int
 | c, x :: xs, y :: ys => IntKind.wrap .u8 (IntKind.wrap .i64 (c + IntKind.wrap .i64 (IntKind.wrap .i64 x + IntKind.wrap .i64 y))) :: apass (Int.fdiv (IntKind.wrap .i64 (c + IntKind.wrap .i64 (IntKind.wrap .i64 x + IntKind.wrap .i64 y))) (2 ^ 8)) xs ys
 | _, _, _ => []
theorem sum_l3_raw (k0 k1 k2 k3 k4 k5 k6 k7 k8 k9 k10 k11 k12 k13 k14 k15 k16 k17 k18 k19 k20 k21 k22 k23 k24 k25 k26 k27 k28 k29 k30 k31 a0 a1 a2 a3 a4 a5 a6 a7 a8 a9 a10 a11 a12 a13 a14 a15 : Int) :
  onetime_Sum_l3 [k0, k1, k2, k3, k4, k5, k6, k7, k8, k9, k10, k11, k12, k13, k14, k15, k16, k17, k18, k19, k20, k21, k22, k23, k24, k25, k26, k27, k28, k29, k30, k31] FUEL 0 0 [a0, a1, a2, a3, a4, a5, a6, a7, a8, a9, a10, a11, a12, a13, a14, a15] = some (apass 0 [a0, a1, a2, a3, a4, a5, a6, a7, a8, a9, a10, a11, a12, a13, a14, a15] [k16, k17, k18, k19, k20, k21, k22, k23, k24, k25, k26, k27, k28, k29, k30, k31]) := by kernel_rfl
theorem apass_val : ∀ (a b : List Nat) (c : Nat), a.length = b.length -> Dig a -> Dig b -> c ≤ 1 -> apass (c : Int) (zl a) (zl b) = zl (limbsN 8 a.length (V8 a + V8 b + c))
 | [], [], c, _, _, _, _ => rfl
 | x :: xs, y :: ys, c, h, hx, hy, hc => by
  have h1 := hx x (List.mem_cons_self ..)
  have h2 := hy y (List.mem_cons_self ..)
  have e0 : ∀ x y : Nat, (x : Int) + (y : Int) = ((x + y : Nat) : Int) := fun _ _ => rfl
  have ih := apass_val xs ys ((c + (x + y)) / 256) (by simpa using h) (fun z hz => hx z (List.mem_cons_of_mem _ hz)) (fun z hz => hy z (List.mem_cons_of_mem _ hz)) (by omega)
  rw [zl_cons, zl_cons, apass, i64n (n := x) (by omega), i64n (n := y) (by omega), e0, i64n (n := x + y) (by omega), e0, i64n (n := c + (x + y)) (by omega), fdivn, u8n, two8, ih, List.length_cons, limbsN, zl_cons]
  have eV : V8 (x :: xs) + V8 (y :: ys) + c = (c + (x + y)) + 256 * (V8 xs + V8 ys) := by simp only [V8, valN, two8]; omega
  rw [eV, two8, Nat.add_mul_mod_self_left, Nat.add_mul_div_left _ _ (by decide), Nat.add_comm ((c + (x + y)) / 256)]
end Go.Eng
