/-
  Part of a proof: KmC.
-/
import Derived.Test.YtmgnanajcnnlgaaDoorKmB
set_option linter.unusedVariables false
set_option linter.unusedSimpArgs false
set_option linter.unusedVariables false
set_option linter.unusedSimpArgs false
namespace Go.Eng
set_option maxRecDepth 100000
set_option maxHeartbeats 1000000
theorem cl0 : ∀ n : Fin 256, bits .u8 .and (n.val : Int) 248 % 8 = 0 := by decide
theorem cl31 : ∀ n : Fin 256, 64 ≤ bits .u8 .or (bits .u8 .and (n.val : Int) 127) 64 /\ bits .u8 .or (bits .u8 .and (n.val : Int) 127) 64 < 128 := by decide
def secN (k : List Int) : Nat := leN (clampP k)
theorem c248a : (2 : Nat) ^ 248 * 64 = 2 ^ 254 := by decide
theorem c248b : (2 : Nat) ^ 248 * 128 = 2 ^ 255 := by decide
theorem secN_is {k : List Int} (hk : Lim 256 k) (lk : k.length = 32) : secN k % 8 = 0 /\ 2 ^ 254 ≤ secN k /\ secN k < 2 ^ 255 := by
 obtain ⟨_, _, c2, c3⟩ := clamp_ok hk lk
 obtain ⟨K, e, hK⟩ := bytes32 c2 c3
 have hs : secN k = K := by unfold secN; rw [e, leN_zl K hK]
 have g0 : (clampP k).getD 0 0 = bits .u8 .and (k.getD 0 0) 248 := by
  unfold clampP
  rw [List.getD_eq_getElem?_getD, List.getElem?_set_ne (by decide), List.getElem?_set_self (by omega)]; rfl
 have g31 : (clampP k).getD 31 0 = bits .u8 .or (bits .u8 .and (k.getD 31 0) 127) 64 := by
  unfold clampP
  rw [List.getD_eq_getElem?_getD, List.getElem?_set_self (by rw [List.length_set]; omega)]; rfl
 have b0 := lim_getD (n := 256) (by decide) 0 hk
 have b31 := lim_getD (n := 256) (by decide) 31 hk
 obtain ⟨m0, hm0⟩ : ∃ m : Nat, k.getD 0 0 = (m : Int) := ⟨_, (Int.toNat_of_nonneg b0.1).symm⟩
 obtain ⟨m1, hm1⟩ : ∃ m : Nat, k.getD 31 0 = (m : Int) := ⟨_, (Int.toNat_of_nonneg b31.1).symm⟩
 have t0 := cl0 ⟨m0, by omega⟩
 have t1 := cl31 ⟨m1, by omega⟩
 rw [← hm0, ← g0, e, zl_getD, limbsN_get 8 32 K 0 (by decide)] at t0
 rw [← hm1, ← g31, e, zl_getD, limbsN_get 8 32 K 31 (by decide)] at t1
 have e0 : K / 2 ^ (8 * 0) % 2 ^ 8 = K % 256 := by rw [Nat.mul_zero, Nat.pow_zero, Nat.div_one]
 have e1 : K / 2 ^ (8 * 31) % 2 ^ 8 = K / 2 ^ 248 := Nat.mod_eq_of_lt (Nat.div_lt_of_lt_mul (by rw [show (2 : Nat) ^ (8 * 31) * 2 ^ 8 = 2 ^ 256 by decide]; exact hK))
 rw [e0] at t0
 rw [e1] at t1
 rw [hs]
 refine ⟨by omega, ?_, ?_⟩
 ·rw [← c248a, Nat.mul_comm]
  exact (Nat.le_div_iff_mul_le (Nat.two_pow_pos _)).1 (by omega)
 ·rw [← c248b, Nat.mul_comm]
  exact (Nat.div_lt_iff_lt_mul (Nat.two_pow_pos _)).1 (by omega)
theorem pri_mul {p a b : Nat} (hp : Pri p) (h : p ∣ a * b) : p ∣ a \/ p ∣ b :=
 Classical.byContradiction fun hn => by
  have h1 : Nat.Coprime p a := hp.cop (fun e => hn (.inl e))
  exact hn (.inr (h1.dvd_of_dvd_mul_left h))
theorem lLN : Pri LN := pri_723700
theorem sec_nd {K : Nat} (h : K % 8 = 0 /\ 2 ^ 254 ≤ K /\ K < 2 ^ 255) : ¬ LN ∣ K := fun hd => by
 obtain ⟨h8, hl, hu⟩ := h
 obtain ⟨j, rfl⟩ : ∃ j, K = 8 * j := ⟨K / 8, by omega⟩
 have hj : LN ∣ j := (pri_mul lLN hd).resolve_left (by decide)
 have c1 : (2 : Nat) ^ 255 = 8 * 2 ^ 252 := by decide
 have c2 : 2 ^ 252 < LN := by decide
 have c3 : 0 < (2 : Nat) ^ 254 := Nat.two_pow_pos _
 have := Nat.le_of_dvd (by omega) hj
 rw [c1] at hu
 omega
theorem u9 : RepU (ph 9) 1 B := by
 have hy : (5 : FF) * B.y = 4 := by
  have h : ph ((5 * byN : Nat) : Int) = ph ((4 : Nat) : Int) := by rw [ph_nat]; kernel_rfl
  rw [ph_mulN] at h
  exact h
 have e9 : ph 9 = (9 : FF) := by decide
 rw [e9]
 refine ⟨by decide, ?_⟩
 show (9 : FF) - 1 = B.y * (9 + 1)
 generalize B.y = y at *
 have : y * (9 + 1) = 2 * (5 * y) := by grobner
 rw [this, hy]; decide
theorem ph9_ne : ph 9 ≠ 0 := by decide
theorem mulB_ne {m : Nat} (h : ¬ LN ∣ m) : Pt.mul envF B m ≠ Pt.zero := fun e => h (order e)
theorem mult_B {K : Nat} (h : K % 8 = 0 /\ 2 ^ 254 ≤ K /\ K < 2 ^ 255) : RepU (ph (multP K 9)) 1 (Pt.mul envF B K) :=
 mult_is u9 ph9_ne h.2.2 (mulB_ne (sec_nd h))
theorem u_ne {m : Nat} {U : FF} (h : ¬ LN ∣ m) (hu : RepU U 1 (Pt.mul envF B m)) : U ≠ 0 := fun e => by
 subst e
 have := hu.zero_dbl
 rw [← Pt.mul_add] at this
 have hd := order this
 rw [show m + m = 2 * m by omega] at hd
 exact h ((pri_mul lLN hd).resolve_left (by decide))
theorem mult_BB {J K : Nat} (hj : J % 8 = 0 /\ 2 ^ 254 ≤ J /\ J < 2 ^ 255) (hk : K % 8 = 0 /\ 2 ^ 254 ≤ K /\ K < 2 ^ 255) : RepU (ph (multP K (multP J 9))) 1 (Pt.mul envF B (J * K)) /\ ph (multP K (multP J 9)) ≠ 0 := by
 have h1 := mult_B hj
 have hn : ¬ LN ∣ J * K := fun hd => by rcases pri_mul lLN hd with h | h; exact sec_nd hj h; exact sec_nd hk h
 have h2 := mult_is h1 (u_ne (sec_nd hj) h1) hk.2.2 (by rw [Pt.mul_mul]; exact mulB_ne hn)
 rw [Pt.mul_mul] at h2
 exact ⟨h2, u_ne hn h2⟩
theorem multP_in (K : Nat) (u : Int) : 0 ≤ multP K u /\ multP K u < PP := ⟨Int.emod_nonneg _ (by decide), Int.emod_lt_of_pos _ (by decide)⟩
theorem phU_inj {x y : Int} (hx : 0 ≤ x /\ x < PP) (hy : 0 ≤ y /\ y < PP) (h : ph x = ph y) : x = y := by
 have := ph_eq.1 h
 rw [Int.emod_eq_of_lt hx.1 hx.2, Int.emod_eq_of_lt hy.1 hy.2] at this
 exact this
theorem mult_comm {J K : Nat} (hj : J % 8 = 0 /\ 2 ^ 254 ≤ J /\ J < 2 ^ 255) (hk : K % 8 = 0 /\ 2 ^ 254 ≤ K /\ K < 2 ^ 255) : multP K (multP J 9) = multP J (multP K 9) := by
 have h1 := (mult_BB hj hk).1
 have h2 := (mult_BB hk hj).1
 rw [Nat.mul_comm] at h2
 exact phU_inj (multP_in _ _) (multP_in _ _) (h1.u_inj h2)
theorem read_bytesP {x : Int} (h : 0 ≤ x /\ x < PP) : ((leN (bytesP x) % 2 ^ 255 : Nat) : Int) % PP = x := by
 obtain ⟨n, rfl⟩ : ∃ n : Nat, x = n := ⟨x.toNat, (Int.toNat_of_nonneg h.1).symm⟩
 have hn : n < 57896044618658097711785492504343953926634992332820282019728792003956564819949 := by have := h.2; unfold PP at this; omega
 have c : (57896044618658097711785492504343953926634992332820282019728792003956564819949 : Nat) < 2 ^ 255 := by decide
 have c' : (2 : Nat) ^ 255 < 2 ^ 256 := by decide
 unfold bytesP
 rw [Int.toNat_natCast, leN_zl n (by omega), Nat.mod_eq_of_lt (by omega), Int.emod_eq_of_lt h.1 h.2]
theorem x_of (k : List Int) {x : Int} (h : 0 ≤ x /\ x < PP) : x25519 k (bytesP x) = bytesP (multP (secN k) x) := by
 unfold x25519
 rw [read_bytesP h]; rfl
def b9 : List Int := (List.replicate 32 (0 : Int)).set 0 9
theorem b9_is : b9 = bytesP 9 := by decide
theorem x_b9 (k : List Int) : x25519 k b9 = bytesP (multP (secN k) 9) := by rw [b9_is]; exact x_of k (by decide)
theorem x25519_comm {j k : List Int} (hj : Lim 256 j) (lj : j.length = 32) (hk : Lim 256 k) (lk : k.length = 32) : x25519 k (x25519 j b9) = x25519 j (x25519 k b9) := by
 rw [x_b9, x_b9, x_of _ (multP_in _ _), x_of _ (multP_in _ _), mult_comm (secN_is hj lj) (secN_is hk lk)]
theorem bytesP_zero {x : Int} (h : 0 ≤ x /\ x < PP) (hz : bytesP x = List.replicate 32 0) : x = 0 := by
 have := read_bytesP h
 rw [hz] at this
 rw [← this]; decide
theorem x25519_ne {j k : List Int} (hj : Lim 256 j) (lj : j.length = 32) (hk : Lim 256 k) (lk : k.length = 32) : x25519 k (x25519 j b9) ≠ List.replicate 32 0 := fun e => by
 rw [x_b9, x_of _ (multP_in _ _)] at e
 have h := bytesP_zero (multP_in _ _) e
 have := (mult_BB (secN_is hj lj) (secN_is hk lk)).2
 rw [h, ph_zero] at this
 exact this rfl
end Go.Eng
