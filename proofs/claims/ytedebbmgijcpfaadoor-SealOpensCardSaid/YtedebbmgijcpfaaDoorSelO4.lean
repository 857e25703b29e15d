/-
  Part of a proof: SelO4.
-/
import Derived.Test.YtedebbmgijcpfaaDoorSelO3
import Derived.KernelRfl
set_option linter.unusedVariables false
set_option linter.unusedSimpArgs false
set_option linter.unusedVariables false
set_option linter.unusedSimpArgs false
namespace Go.Eng
set_option maxRecDepth 100000
set_option maxHeartbeats 1000000
theorem clamped_raw (k0 k1 k2 k3 k4 k5 k6 k7 k8 k9 k10 k11 k12 k13 k14 k15 k16 k17 k18 k19 k20 k21 k22 k23 k24 k25 k26 k27 k28 k29 k30 k31 : Int) :
  onetime_clamped [k0, k1, k2, k3, k4, k5, k6, k7, k8, k9, k10, k11, k12, k13, k14, k15, k16, k17, k18, k19, k20, k21, k22, k23, k24, k25, k26, k27, k28, k29, k30, k31] = (onetime_read [k0, k1, k2, bits .u8 .and k3 15, bits .u8 .and k4 252, k5, k6, bits .u8 .and k7 15, bits .u8 .and k8 252, k9, k10, bits .u8 .and k11 15, bits .u8 .and k12 252, k13, k14, bits .u8 .and k15 15]).bind fun x => some x := by kernel_rfl
theorem and15 {a : Nat} (h : a < 256) : bits .u8 .and (a : Int) 15 = ((a % 16 : Nat) : Int) := by
 have := bits_and8 (n := a) (m := 15) h (by decide)
 rw [show ((15 : Nat) : Int) = 15 from rfl] at this
 rw [this, show (15 : Nat) = 2 ^ 4 - 1 from rfl, Nat.and_two_pow_sub_one_eq_mod]
theorem and252n : ∀ a : Fin 256, a.val &&& 252 = a.val / 4 * 4 := by decide
theorem and252 {a : Nat} (h : a < 256) : bits .u8 .and (a : Int) 252 = ((a / 4 * 4 : Nat) : Int) := by
 have := bits_and8 (n := a) (m := 252) h (by decide)
 rw [show ((252 : Nat) : Int) = 252 from rfl] at this
 rw [this, and252n ⟨a, h⟩]
theorem clamped_is {k : List Nat} (hk : k.length = 32) (kb : Dig k) : onetime_clamped (zl k) = (onetime_read (zl (clN (k.take 16)))).bind fun x => some x := by
 obtain ⟨k0, k1, k2, k3, k4, k5, k6, k7, k8, k9, k10, k11, k12, k13, k14, k15, k16, k17, k18, k19, k20, k21, k22, k23, k24, k25, k26, k27, k28, k29, k30, k31, rfl⟩ := list32 hk
 have h := clamped_raw k0 k1 k2 k3 k4 k5 k6 k7 k8 k9 k10 k11 k12 k13 k14 k15 k16 k17 k18 k19 k20 k21 k22 k23 k24 k25 k26 k27 k28 k29 k30 k31
 rw [and15 (kb k3 (by simp)), and15 (kb k7 (by simp)), and15 (kb k11 (by simp)), and15 (kb k15 (by simp)), and252 (kb k4 (by simp)), and252 (kb k8 (by simp)), and252 (kb k12 (by simp))] at h
 exact h
theorem limbsN_mod (w n X : Nat) : limbsN w n (X % 2 ^ (w * n)) = limbsN w n X := by
 have h := limbsN_val w (limbsN w n X) (limbsN_lt w n X)
 rw [limbsN_len, valN_limbs] at h
 exact h
theorem sum_l3_is {k a : List Nat} (hk : k.length = 32) (kb : Dig k) (ha : a.length = 16) (ab : Dig a) : onetime_Sum_l3 (zl k) FUEL 0 0 (zl a) = some (zl (limbsN 8 16 (V8 a + V8 (k.drop 16)))) := by
 have h := apass_val a (k.drop 16) 0 (by rw [List.length_drop]; omega) ab (fun x hx => kb x (List.mem_of_mem_drop hx)) (by decide)
 rw [ha, Nat.add_zero] at h
 rw [← h]
 obtain ⟨k0, k1, k2, k3, k4, k5, k6, k7, k8, k9, k10, k11, k12, k13, k14, k15, k16, k17, k18, k19, k20, k21, k22, k23, k24, k25, k26, k27, k28, k29, k30, k31, rfl⟩ := list32 hk
 obtain ⟨a0, a1, a2, a3, a4, a5, a6, a7, a8, a9, a10, a11, a12, a13, a14, a15, rfl⟩ := list16n ha
 exact sum_l3_raw k0 k1 k2 k3 k4 k5 k6 k7 k8 k9 k10 k11 k12 k13 k14 k15 k16 k17 k18 k19 k20 k21 k22 k23 k24 k25 k26 k27 k28 k29 k30 k31 a0 a1 a2 a3 a4 a5 a6 a7 a8 a9 a10 a11 a12 a13 a14 a15
theorem lim_zeros : Lim 134217728 (List.replicate 5 (0 : Int)) := ⟨by decide, by decide, by decide, by decide, by decide, trivial⟩
theorem v0 : val26 (List.replicate 5 (0 : Int)) % PI = ((0 : Nat) : Int) % PI := by decide
theorem fin128 (A S V : Nat) (h : V = A % 2 ^ 128 % 2 ^ (8 * 16)) : limbsN 8 16 (V + S) = limbsN 8 16 ((A + S) % 2 ^ 128) := by
 rw [← limbsN_mod 8 16 (V + S), h, show (8 * 16 : Nat) = 128 from rfl, Nat.mod_mod, Nat.mod_add_mod]
theorem macM_is {k m : List Nat} (hk : k.length = 32) (kb : Dig k) (hm : Dig m) (hl : m.length ≤ 900000) : macM (zl k) (zl m) = some (zl (macN k m)) := by
 have k16 : (k.take 16).length = 16 := by rw [List.length_take]; omega
 have kd : Dig (k.take 16) := fun x hx => kb x (List.mem_of_mem_take hx)
 obtain ⟨c1, c2⟩ := clN_dig k16 kd
 have hr' : V8 (clN (k.take 16)) < 256 ^ 16 := Nat.lt_of_lt_of_le (V_lt c1) (Nat.pow_le_pow_right (by decide) (by omega))
 have c16 : (256 : Nat) ^ 16 = 340282366920938463463374607431768211456 := by decide
 obtain ⟨rl, r1, r2, r3, r4⟩ := read_is c1 (by omega) (by rw [c16] at hr'; simp only [T130]; omega)
 obtain ⟨h, h1, h2, h3, h4⟩ := Sum_l1_is r2 r3 r4 m hm hl (m.length + 1) FUEL 0 0 (List.replicate 5 0) (by omega) (big _ (by omega)) (by omega) lim_zeros rfl v0
 obtain ⟨a, a1, a2, a3, a4⟩ := least_is h2 h3
 rw [List.drop_zero] at h4
 have hA := polyN_lt (V8 (clN (k.take 16))) (m.length + 1) 0 m (by decide)
 unfold macN
 generalize polyN (V8 (clN (k.take 16))) (m.length + 1) 0 m = A at *
 have ha : val26 a = (A : Int) := by
  rw [a4, h4, Int.emod_eq_of_lt (Int.natCast_nonneg _) (by simp only [P130] at hA; simp only [PI]; omega)]
 have hlow := low_is a2 a3
 rw [ha, Int.toNat_natCast] at hlow
 have hs := sum_l3_is hk kb (limbsN_len 8 16 (A % 2 ^ 128)) (limbsN_lt 8 16 _)
 unfold macM
 rw [clamped_is hk kb, r1, Option.bind_some, Option.bind_some]
 rw [show ((0 : Nat) : Int) = 0 from rfl] at h1
 rw [h1, Option.bind_some, a1, Option.bind_some, hlow, Option.bind_some, hs]
 rw [fin128 A (V8 (k.drop 16)) _ (valN_limbs 8 16 _)]
end Go.Eng
