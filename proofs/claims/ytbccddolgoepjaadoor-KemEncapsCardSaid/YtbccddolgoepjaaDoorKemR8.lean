/-
  Part of a proof: KemR8.
-/
import Derived.Test.YtbccddolgoepjaaDoorKemR7
set_option linter.unusedVariables false
set_option linter.unusedSimpArgs false
namespace Go.Eng
set_option maxRecDepth 100000
set_option maxHeartbeats 1000000
theorem mulP_comm (x y : Int) : mulP x y = mulP y x := by unfold mulP; rw [Int.mul_comm]
theorem addP_in (x y : Int) : 0 ≤ addP x y /\ addP x y < PP := ⟨Int.emod_nonneg _ (by decide), Int.emod_lt_of_pos _ (by decide)⟩
theorem subP_in (x y : Int) : 0 ≤ subP x y /\ subP x y < PP := ⟨Int.emod_nonneg _ (by decide), Int.emod_lt_of_pos _ (by decide)⟩
theorem mulP_in (x y : Int) : 0 ≤ mulP x y /\ mulP x y < PP := ⟨Int.emod_nonneg _ (by decide), Int.emod_lt_of_pos _ (by decide)⟩
theorem up {x : Int} (h : 0 ≤ x /\ x < PP) : 0 ≤ x /\ x < P256 := ⟨h.1, Int.lt_trans h.2 (by decide)⟩
theorem add_r {x y : Int} (hx : 0 ≤ x /\ x < PP) (hy : 0 ≤ y /\ y < PP) : fr09_Add (numP x) (numP y) = some (numP (addP x y)) := Add_ref (up hx).1 (up hx).2 (up hy).1 (up hy).2
theorem sub_r {x y : Int} (hx : 0 ≤ x /\ x < PP) (hy : 0 ≤ y /\ y < PP) : fr09_Sub (numP x) (numP y) = some (numP (subP x y)) := Sub_ref (up hx).1 (up hx).2 (up hy).1 (up hy).2
theorem mul_r {x y : Int} (hx : 0 ≤ x /\ x < PP) (hy : 0 ≤ y /\ y < PP) : fr09_Times (numP x) (numP y) = some (numP (mulP x y)) := Times_ref (up hx).1 (up hx).2 (up hy).1 (up hy).2
structure L4.InR (l : L4) : Prop where
 a : 0 ≤ l.x2 /\ l.x2 < PP
 b : 0 ≤ l.z2 /\ l.z2 < PP
 c : 0 ≤ l.x3 /\ l.x3 < PP
 d : 0 ≤ l.z3 /\ l.z3 < PP
theorem swapP_in {l : L4} (h : l.InR) (b : Bool) : (swapP b l).InR := by cases b; exact h; exact ⟨h.c, h.d, h.a, h.b⟩
theorem stepP_in (u : Int) (l : L4) : (stepP u l).InR := ⟨mulP_in _ _, mulP_in _ _, mulP_in _ _, mulP_in _ _⟩
theorem ladP_in (K : Nat) (u : Int) : ∀ (i : Nat) (l : L4), l.InR -> (ladP K u i l).InR
 | 0, _, h => h
 | i + 1, _, _ => ladP_in K u i _ (swapP_in (stepP_in _ _) _)
theorem swapP_swapP (b : Bool) (l : L4) : swapP b (swapP b l) = l := by cases b <;> rfl
def b2i (b : Bool) : Int := cond b 1 0
theorem MultR_l1 (K : Nat) {u : Int} (hu : 0 ≤ u /\ u < PP) : ∀ (i n : Nat) (sw : Bool) (l : L4), l.InR -> i < n -> i ≤ 255 ->
  ∃ sw', fr10_Mult_l1 (zl (limbsN 8 32 K)) (numP u) n (b2i sw) ((i : Int) - 1) (numP (swapP sw l).x2) (numP (swapP sw l).z2) (numP (swapP sw l).x3) (numP (swapP sw l).z3) =
   some (b2i sw', numP (swapP sw' (ladP K u i l)).x2, numP (swapP sw' (ladP K u i l)).z2, numP (swapP sw' (ladP K u i l)).x3, numP (swapP sw' (ladP K u i l)).z3)
 | i, 0, _, _, _, h, _ => by omega
 | 0, n + 1, sw, l, hl, _, _ => by
  rw [fr10_Mult_l1.eq_2, cond_ff (by decide)]
  exact ⟨sw, rfl⟩
 | i + 1, n + 1, sw, l, hl, h, h' => by
  rw [fr10_Mult_l1.eq_2, show ((i + 1 : Nat) : Int) - 1 = i by omega, cond_tt (by simp)]
  have e1 : Int.tdiv (i : Int) 8 = ((i / 8 : Nat) : Int) := rfl
  have e3 : Int.tmod (i : Int) 8 = ((i % 8 : Nat) : Int) := rfl
  have m2 : min (i % 8) (IntKind.bits .u8) = i % 8 := by show min _ 8 = _; omega
  simp only [nm_eq, e1, e3, i64n (n := i / 8) (by omega), u64n, Nat.mod_eq_of_lt (a := i % 8) (b := 18446744073709551616) (by omega), Int.toNat_natCast, m2, zl_getD, fdivn]
  rw [if_pos (by omega), if_pos (by omega), bit_eq K i (by omega)]
  have hbi : ((K / 2 ^ i % 2 : Nat) : Int) = b2i (K / 2 ^ i % 2 == 1) := by
   rcases Nat.mod_two_eq_zero_or_one (K / 2 ^ i) with h0 | h0 <;> rw [h0] <;> rfl
  rw [hbi]
  rw [show ladP K u (i + 1) l = ladP K u i (swapP (K / 2 ^ i % 2 == 1) (stepP u (swapP (K / 2 ^ i % 2 == 1) l))) from rfl]
  generalize (K / 2 ^ i % 2 == 1) = b at *
  have hc : (cond (!(b2i sw == b2i b)) (some (numP (swapP sw l).x3, numP (swapP sw l).z3, numP (swapP sw l).x2, numP (swapP sw l).z2)) (some (numP (swapP sw l).x2, numP (swapP sw l).z2, numP (swapP sw l).x3, numP (swapP sw l).z3)) : Option ((List Int) × (List Int) × (List Int) × (List Int))) = some (numP (swapP b l).x2, numP (swapP b l).z2, numP (swapP b l).x3, numP (swapP b l).z3) := by
   cases sw <;> cases b <;> rfl
  rw [hc, Option.bind_some]
  have hs := swapP_in hl b
  generalize swapP b l = s at *
  simp only
  have r1 := addP_in s.x2 s.z2
  have r2 := subP_in s.x2 s.z2
  have r3 := mulP_in (addP s.x2 s.z2) (addP s.x2 s.z2)
  have r4 := mulP_in (subP s.x2 s.z2) (subP s.x2 s.z2)
  have r5 := subP_in (mulP (addP s.x2 s.z2) (addP s.x2 s.z2)) (mulP (subP s.x2 s.z2) (subP s.x2 s.z2))
  rw [add_r hs.a hs.b, Option.bind_some, mul_r r1 r1, Option.bind_some, sub_r hs.a hs.b, Option.bind_some, mul_r r2 r2, Option.bind_some, sub_r r3 r4, Option.bind_some]
  rw [add_r hs.c hs.d, Option.bind_some, sub_r hs.c hs.d, Option.bind_some, mul_r (subP_in _ _) r1, Option.bind_some, mul_r (addP_in _ _) r2, Option.bind_some]
  rw [add_r (mulP_in _ _) (mulP_in _ _), Option.bind_some, sub_r (mulP_in _ _) (mulP_in _ _), Option.bind_some, mul_r (addP_in _ _) (addP_in _ _), Option.bind_some, mul_r (subP_in _ _) (subP_in _ _), Option.bind_some]
  rw [mul_r hu (mulP_in _ _), Option.bind_some, mul_r r3 r4, Option.bind_some]
  rw [show (List.replicate 8 (0 : Int)).set 0 121665 = numP 121665 by kernel_rfl, mul_r (by decide) r5, Option.bind_some, add_r r3 (mulP_in _ _), Option.bind_some, mul_r r5 (addP_in _ _), Option.bind_some]
  rw [wrap_i64 (n := (i : Int) - 1) (by omega) (by omega)]
  have ih := MultR_l1 K hu i n b (swapP b (stepP u s)) (swapP_in (stepP_in _ _) _) (by omega) (by omega)
  rw [swapP_swapP] at ih
  rw [mulP_comm 121665, mulP_comm u]
  exact ih
theorem Masked_ref (U : Nat) : fr09_Masked (zl (limbsN 8 32 U)) = some (numP (((U % 2 ^ 255 : Nat) : Int) % PP)) := by
 unfold fr09_Masked
 have e : (2 : Nat) ^ 255 = 57896044618658097711785492504343953926634992332820282019728792003956564819968 := by kernel_rfl
 have hlt : U % 2 ^ 255 < 2 ^ 255 := Nat.mod_lt _ (Nat.two_pow_pos _)
 rw [mask_top, Read_ref, Option.bind_some, Nat.mod_mod_of_dvd'' hlt]
 have : zl (limbsN 32 8 (U % 2 ^ 255)) = numP ((U % 2 ^ 255 : Nat) : Int) := by unfold numP; rw [Int.toNat_natCast]
 rw [this, Least_some (Int.natCast_nonneg _) (by rw [e] at hlt ⊢; simp only [P256]; omega)]; rfl
where
 Nat.mod_mod_of_dvd'' {x : Nat} (h : x < 2 ^ 255) : x % 2 ^ 256 = x := Nat.mod_eq_of_lt (Nat.lt_of_lt_of_le h (Nat.pow_le_pow_right (by decide) (by decide)))
theorem MultR_some {k u : List Int} (hk : Lim 256 k) (lk : k.length = 32) (hu : Lim 256 u) (lu : u.length = 32) : fr10_Mult k u = some (x25519 k u) := by
 obtain ⟨_, c1, c2, c3⟩ := clamp_ok hk lk
 obtain ⟨K, e, hK⟩ := bytes32 c2 c3
 obtain ⟨U, rfl, hU⟩ := bytes32 hu lu
 unfold fr10_Mult x25519
 rw [c1, Option.bind_some, Masked_ref, Option.bind_some, e, leN_zl K hK, leN_zl U hU]
 have hr : 0 ≤ ((U % 2 ^ 255 : Nat) : Int) % PP /\ ((U % 2 ^ 255 : Nat) : Int) % PP < PP := ⟨Int.emod_nonneg _ (by decide), Int.emod_lt_of_pos _ (by decide)⟩
 generalize ((U % 2 ^ 255 : Nat) : Int) % PP = x at *
 have hi : L4.InR ⟨1, 0, x, 1⟩ := ⟨(by decide : (0 : Int) ≤ 1 /\ (1 : Int) < PP), (by decide : (0 : Int) ≤ 0 /\ (0 : Int) < PP), hr, (by decide : (0 : Int) ≤ 1 /\ (1 : Int) < PP)⟩
 obtain ⟨sw, h⟩ := MultR_l1 K hr 255 FUEL false ⟨1, 0, x, 1⟩ hi (by unfold FUEL; omega) (by decide)
 rw [show (List.replicate 8 (0 : Int)).set 0 1 = numP 1 by kernel_rfl, show List.replicate 8 (0 : Int) = numP 0 by kernel_rfl]
 have h : fr10_Mult_l1 (zl (limbsN 8 32 K)) (numP x) FUEL 0 254 (numP 1) (numP 0) (numP x) (numP 1) = _ := h
 rw [h, Option.bind_some]
 have hl := ladP_in K x 255 _ hi
 unfold multP
 generalize ladP K x 255 ⟨1, 0, x, 1⟩ = l at *
 have hc : (cond (b2i sw == 1) (some (numP (swapP sw l).x3, numP (swapP sw l).z3)) (some (numP (swapP sw l).x2, numP (swapP sw l).z2)) : Option ((List Int) × (List Int))) = some (numP l.x2, numP l.z2) := by
  cases sw <;> rfl
 simp only
 rw [hc, Option.bind_some]
 simp only
 have rp := powP_range l.z2 PM2
 have rm := mulP_in l.x2 (powP l.z2 PM2)
 rw [Invert_ref hl.b.1 hl.b.2, Option.bind_some, mul_r hl.a rp, Option.bind_some, Bytes_ref rm.1 (up rm).2]; rfl
end Go.Eng
