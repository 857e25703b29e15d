/-
  Part of a proof: KemR6.
-/
import Derived.Test.YtbccddolgoepjaaDoorKemR5
set_option linter.unusedVariables false
set_option linter.unusedSimpArgs false
namespace Go.Eng
set_option maxRecDepth 100000
set_option maxHeartbeats 400000
theorem Power_l1 (a : Int) (ha : 0 ≤ a) (ha' : a < PP) (E : Nat) : ∀ (i n : Nat), i < n -> i ≤ 256 -> fr09_Power_l1 (numP a) (zl (limbsN 32 8 E)) n ((i : Int) - 1) (numP (powP a (E / 2 ^ i))) = some (numP (powP a E))
 | i, 0, h, _ => by omega
 | 0, n + 1, _, _ => by
  rw [fr09_Power_l1.eq_2, cond_ff (by decide), Nat.pow_zero, Nat.div_one]
 | i + 1, n + 1, h, h' => by
  have rg := powP_range a (E / 2 ^ (i + 1))
  have up : ∀ x : Int, x < PP -> x < P256 := fun x hx => Int.lt_trans hx (by decide)
  rw [fr09_Power_l1.eq_2, show ((i + 1 : Nat) : Int) - 1 = i by omega, cond_tt (by simp), Times_ref rg.1 (up _ rg.2) rg.1 (up _ rg.2), Option.bind_some, powP_add]
  have e1 : Int.tdiv (i : Int) 32 = ((i / 32 : Nat) : Int) := rfl
  have e3 : Int.tmod (i : Int) 32 = ((i % 32 : Nat) : Int) := rfl
  have m2 : min (i % 32) (IntKind.bits .u32) = i % 32 := by show min _ 32 = _; omega
  have hb : (limbsN 32 8 E).getD (i / 32) 0 < 4294967296 := getD_lt (limbsN_lt 32 8 E) (by decide) _
  have hb' : (limbsN 32 8 E).getD (i / 32) 0 / 2 ^ (i % 32) < 4294967296 := Nat.lt_of_le_of_lt (Nat.div_le_self _ _) hb
  have hbit := limbsN_bit 32 (by decide) 8 E i (by omega)
  have and1 : bits .u32 .and (((limbsN 32 8 E).getD (i / 32) 0 / 2 ^ (i % 32) : Nat) : Int) 1 = ((E / 2 ^ i % 2 : Nat) : Int) := by
   rw [← hbit]
   generalize (limbsN 32 8 E).getD (i / 32) 0 / 2 ^ (i % 32) = q at *
   show IntKind.u32.wrap (((BitVec.ofInt 32 q &&& BitVec.ofInt 32 1 : BitVec 32).toNat : Nat) : Int) = _
   rw [BitVec.ofInt_natCast, show BitVec.ofInt 32 1 = BitVec.ofNat 32 1 from rfl, BitVec.toNat_and, BitVec.toNat_ofNat, BitVec.toNat_ofNat, wu32]
   simp only [Nat.reducePow]
   rw [Nat.mod_eq_of_lt hb', Nat.mod_eq_of_lt (a := 1) (by decide), Nat.and_one_is_mod, Int.emod_eq_of_lt (by omega) (by omega)]
  simp only [nm_eq, e1, e3, i64n (n := i / 32) (by omega), u64n, Nat.mod_eq_of_lt (a := i % 32) (b := 18446744073709551616) (by omega), Int.toNat_natCast, m2, zl_getD, fdivn, and1]
  rw [if_pos (by omega), if_pos (by omega)]
  have hE : E / 2 ^ i = E / 2 ^ (i + 1) + E / 2 ^ (i + 1) + E / 2 ^ i % 2 := by
   rw [Nat.pow_succ, ← Nat.div_div_eq_div_mul]; omega
  have rg2 := powP_range a (E / 2 ^ (i + 1) + E / 2 ^ (i + 1))
  have step : (cond ((((E / 2 ^ i % 2 : Nat) : Int)) == 1) ((fr09_Times (numP (powP a (E / 2 ^ (i + 1) + E / 2 ^ (i + 1)))) (numP a)).bind fun x69 => some x69) (some (numP (powP a (E / 2 ^ (i + 1) + E / 2 ^ (i + 1)))))) = some (numP (powP a (E / 2 ^ i))) := by
   rcases Nat.mod_two_eq_zero_or_one (E / 2 ^ i) with h0 | h0
   ·rw [h0, cond_ff (by decide)]; rw [h0, Nat.add_zero] at hE; rw [← hE]
   ·rw [h0, cond_tt (by decide), Times_ref rg2.1 (up _ rg2.2) ha (up _ ha'), Option.bind_some]
    rw [h0] at hE
    have := powP_add a (E / 2 ^ (i + 1) + E / 2 ^ (i + 1)) 1
    rw [powP_one ha ha', ← hE] at this
    rw [this]
  rw [step, Option.bind_some, i64_pred i (by omega)]
  exact Power_l1 a ha ha' E i n (by omega) (by omega)
where
 i64_pred (i : Nat) (h : i < 1000) : IntKind.wrap .i64 ((i : Int) - 1) = (i : Int) - 1 := wrap_i64 (by omega) (by omega)
theorem Invert_ref {a : Int} (ha : 0 ≤ a) (ha' : a < PP) : fr09_Invert (numP a) = some (numP (powP a PM2)) := by
 have e2 : (List.replicate 8 (0 : Int)).set 0 2 = numP 2 := by kernel_rfl
 have e1 : (List.replicate 8 (0 : Int)).set 0 1 = numP 1 := by kernel_rfl
 unfold fr09_Invert
 rw [P_eq, Option.bind_some, e2, minus_some (by decide) (by decide) (by decide) (by decide), Option.bind_some]
 have hz : PM2 / 2 ^ 256 = 0 := by kernel_rfl
 have h := Power_l1 a ha ha' PM2 256 FUEL (by unfold FUEL; omega) (by omega)
 rw [hz, powP_zero] at h
 unfold fr09_Power
 rw [e1, show numP (PP - 2) = zl (limbsN 32 8 PM2) by kernel_rfl, show (255 : Int) = ((256 : Nat) : Int) - 1 from rfl, h]
 rfl
end Go.Eng
