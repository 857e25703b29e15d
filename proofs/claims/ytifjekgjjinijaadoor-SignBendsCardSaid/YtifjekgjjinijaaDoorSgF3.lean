/-
  Part of a proof: SgF3.
-/
import Derived.Test.YtifjekgjjinijaaDoorSgF2
set_option linter.unusedVariables false
set_option linter.unusedSimpArgs false
set_option linter.unusedVariables false
set_option linter.unusedSimpArgs false
namespace Go.Eng
set_option maxRecDepth 100000
set_option maxHeartbeats 1000000
theorem fe_inj {a b : T_field_Elem} : res a = res b ↔ fe a = fe b := ⟨fun h => by unfold fe; rw [h], fun h => by rw [fe_res a, fe_res b, h]⟩
abbrev K250 : Nat := 1809251394333065553493296640760748560207343510400633813116524750123642650623
theorem power_some {a : T_field_Elem} (ha : EOk a) : ∃ x y, field_Elem_power a = some (x, y) /\ IsP (res a) K250 x := by
 obtain ⟨r0, r1⟩ := res_range a
 have h1 : IsP (res a) 1 a := ⟨ha, (powP_one r0 r1).symm⟩
 unfold field_Elem_power
 obtain ⟨a2, e, h2⟩ := Square_pow h1; rw [e, Option.bind_some]
 obtain ⟨b1, e, k1⟩ := squares_pow 2 (by decide) (by decide) h2; rw [show (2 : Int) = ((2 : Nat) : Int) from rfl, e, Option.bind_some]
 obtain ⟨b2, e, k2⟩ := Times_pow k1 h1; rw [e, Option.bind_some]
 obtain ⟨b3, e, k3⟩ := Times_pow k2 h2; rw [e, Option.bind_some]
 obtain ⟨b4, e, k4⟩ := Square_pow k3; rw [e, Option.bind_some]
 obtain ⟨b5, e, k5⟩ := Times_pow k4 k2; rw [e, Option.bind_some]
 obtain ⟨b6, e, k6⟩ := squares_pow 5 (by decide) (by decide) k5; rw [show (5 : Int) = ((5 : Nat) : Int) from rfl, e, Option.bind_some]
 obtain ⟨b7, e, k7⟩ := Times_pow k6 k5; rw [e, Option.bind_some]
 obtain ⟨b8, e, k8⟩ := squares_pow 10 (by decide) (by decide) k7; rw [show (10 : Int) = ((10 : Nat) : Int) from rfl, e, Option.bind_some]
 obtain ⟨b9, e, k9⟩ := Times_pow k8 k7; rw [e, Option.bind_some]
 obtain ⟨c1, e, l1⟩ := squares_pow 20 (by decide) (by decide) k9; rw [show (20 : Int) = ((20 : Nat) : Int) from rfl, e, Option.bind_some]
 obtain ⟨c2, e, l2⟩ := Times_pow l1 k9; rw [e, Option.bind_some]
 obtain ⟨c3, e, l3⟩ := squares_pow 10 (by decide) (by decide) l2; rw [e, Option.bind_some]
 obtain ⟨c4, e, l4⟩ := Times_pow l3 k7; rw [e, Option.bind_some]
 obtain ⟨c5, e, l5⟩ := squares_pow 50 (by decide) (by decide) l4; rw [show (50 : Int) = ((50 : Nat) : Int) from rfl, e, Option.bind_some]
 obtain ⟨c6, e, l6⟩ := Times_pow l5 l4; rw [e, Option.bind_some]
 obtain ⟨c7, e, l7⟩ := squares_pow 100 (by decide) (by decide) l6; rw [show (100 : Int) = ((100 : Nat) : Int) from rfl, e, Option.bind_some]
 obtain ⟨c8, e, l8⟩ := Times_pow l7 l6; rw [e, Option.bind_some]
 obtain ⟨c9, e, l9⟩ := squares_pow 50 (by decide) (by decide) l8; rw [e, Option.bind_some]
 obtain ⟨d1, e, m1⟩ := Times_pow l9 l4; rw [e, Option.bind_some]
 exact ⟨d1, b3, rfl, m1⟩
def mI : T_field_Elem := ⟨tb_field_minus⟩
theorem mI_ok : EOk mI := ⟨lim10 (by decide), rfl⟩
theorem mI_sq : fe mI * fe mI = -1 := by
 have h : mulP (res mI) (res mI) = PP - 1 := by decide
 have h2 : ph (mulP (res mI) (res mI)) = fe mI * fe mI := ph_mulP _ _
 rw [h, ph_sub, ph_one] at h2
 have h3 : ph PP = 0 := by rw [← ph_zero, ph_eq]; decide
 rw [h3] at h2
 rw [← h2]; grind
theorem root_alg {n K : Nat} (hK : K = 7237005577332262213973186563042994240829374041602535252466099000494570602494) {w : FF} (hw : w * w = ph (n : Int)) : ph ((n ^ K : Nat) : Int) * ph ((n ^ K : Nat) : Int) = ph (n : Int) \/ ph ((n ^ K : Nat) : Int) * ph ((n ^ K : Nat) : Int) = -ph (n : Int) := by
 by_cases h0 : w = 0
 ·left
  rw [h0] at hw
  have hn : ph (n : Int) = 0 := by rw [← hw]; grind
  obtain ⟨k, hk⟩ : ∃ k, K = k + 1 := ⟨7237005577332262213973186563042994240829374041602535252466099000494570602493, hK⟩
  rw [hk, Nat.pow_succ, ph_mulN, hn]; grind
 ·have hv := ph_val w
  generalize w.val = m at *
  subst hv
  rw [← ph_mulN] at hw
  have hm : ¬ PN ∣ m := ph_ne.1 h0
  have h4 : K + K + (K + K) = kN + 2 := by rw [hK]
  clear hK
  have e : ph ((n ^ K : Nat) : Int) = ph (((m * m) ^ K : Nat) : Int) := by
   rw [ph_nat, Nat.pow_mod, ← ph_nat.1 hw, ← Nat.pow_mod]
  have hp : ph ((n ^ K : Nat) : Int) * ph ((n ^ K : Nat) : Int) = ph ((m ^ kN : Nat) : Int) * ph (n : Int) := by
   rw [e, ← ph_mulN, ← Nat.pow_add, ← hw, ← ph_mulN, ← Nat.pow_two m, ← Nat.pow_mul, ← Nat.pow_add, show 2 * (K + K) = kN + 2 by omega]
  have hT : ph ((m ^ kN : Nat) : Int) * ph ((m ^ kN : Nat) : Int) = 1 := by
   rw [← ph_pow_add]
   exact ph_fermat hm (by rw [← two_kN]; omega)
  rw [hp]
  generalize ph ((m ^ kN : Nat) : Int) = T at *
  generalize ph (n : Int) = N at *
  have : (T - 1) * (T + 1) = 0 := by grind
  rcases fldFF.cases this with h | h
  ·left; have : T = 1 := by grind
   rw [this]; grind
  ·right; have : T = -1 := by grind
   rw [this]; grind
theorem neg_even {x : Int} (h0 : 0 ≤ x) (h1 : x < PP) (ho : x % 2 = 1) : (0 - x) % PP % 2 = 0 := by
 have hp : PP % 2 = 1 := by decide
 have e : (0 - x) % PP = PP - x := by
  rw [show 0 - x = (PP - x) + PP * (-1) by omega, Int.add_mul_emod_self_left, Int.emod_eq_of_lt (by omega) (by omega)]
 rw [e]
 generalize PP = P at *
 omega
theorem Root_some {a : T_field_Elem} (ha : EOk a) : ∃ e b, field_Elem_Root a = some (e, b) /\ EOk e /\ (b = true -> fe e * fe e = fe a /\ res e % 2 = 0) /\ ((∃ w, w * w = fe a) -> b = true) := by
 obtain ⟨r0, r1⟩ := res_range a
 have h1 : IsP (res a) 1 a := ⟨ha, (powP_one r0 r1).symm⟩
 obtain ⟨x, y, hx, px⟩ := power_some ha
 unfold field_Elem_Root
 rw [hx, Option.bind_some]
 obtain ⟨x54, e, p54⟩ := Square_pow px
 dsimp only
 rw [e, Option.bind_some]
 obtain ⟨x55, e, p55⟩ := Times_pow p54 h1; rw [e, Option.bind_some]
 obtain ⟨r, e, pr⟩ := Square_pow p55; rw [e, Option.bind_some]
 obtain ⟨x57, e, ok57, f57⟩ := SquareF pr.ok; rw [e, Option.bind_some, Same_some ok57 ha, Option.bind_some]
 have okr : EOk r := pr.ok
 obtain ⟨K, hK, pr⟩ : ∃ K, K = 7237005577332262213973186563042994240829374041602535252466099000494570602494 /\ IsP (res a) K r := ⟨_, rfl, pr⟩
 have hr' := fe_powN pr
 clear pr p55 p54 px
 obtain ⟨r2, hr2, ok2, hr2f⟩ : ∃ r2, ((cond (!(decide (res x57 = res a))) ((field_Elem_Times r ({ fn := tb_field_minus } : T_field_Elem)).bind fun x60 => some x60) (some r) : Option T_field_Elem)) = some r2 /\ EOk r2 /\ ((∃ w, w * w = fe a) -> fe r2 * fe r2 = fe a) := by
  by_cases hs : res x57 = res a
  ·rw [decide_eq_true hs]
   exact ⟨r, cond_ff (by rfl), okr, fun _ => by rw [← f57]; exact fe_inj.1 hs⟩
  ·rw [decide_eq_false hs]
   obtain ⟨r2, e, ok, f⟩ := TimesF okr mI_ok
   refine ⟨r2, by rw [cond_tt (by rfl)]; show (field_Elem_Times r mI).bind _ = _; rw [e]; rfl, ok, fun ⟨w, hw⟩ => ?_⟩
   have hv := ph_val (fe a)
   rw [← hv] at hw
   have hal := root_alg hK hw
   have hne : fe r * fe r ≠ fe a := fun e => hs (fe_inj.2 (by rw [f57, e]))
   have hm := mI_sq
   rw [f]
   rw [← hr', hv] at hal
   rcases hal with h | h
   ·exact absurd h hne
   ·generalize fe r = R at *
    generalize fe mI = M at *
    generalize fe a = A at *
    grind
 rw [hr2, Option.bind_some]
 obtain ⟨x61, e, ok61, f61⟩ := SquareF ok2; rw [e, Option.bind_some, Same_some ok61 ha, Option.bind_some]
 by_cases hs : res x61 = res a
 ·rw [decide_eq_true hs, cond_ff (by rfl), Odd_some ok2, Option.bind_some]
  have hsq : fe r2 * fe r2 = fe a := by rw [← f61]; exact fe_inj.1 hs
  by_cases ho : res r2 % 2 = 1
  ·rw [decide_eq_true ho, cond_tt (by rfl)]
   obtain ⟨r3, e, ok3, h3⟩ := Sub_some e0_ok ok2
   have f3 : fe r3 = 0 - fe r2 := by unfold fe; rw [h3, ph_subP, e0_res, ph_zero]
   refine ⟨r3, true, by show (((field_Elem_Sub e0 r2).bind fun x => some x).bind _) = _; rw [e]; rfl, ok3, fun _ => ⟨?_, ?_⟩, fun _ => rfl⟩
   ·rw [f3, ← hsq]; generalize fe r2 = R; grind
   ·rw [h3, e0_res]
    exact neg_even (res_range r2).1 (res_range r2).2 ho
  ·rw [decide_eq_false ho, cond_ff (by rfl)]
   exact ⟨r2, true, rfl, ok2, fun _ => ⟨hsq, by omega⟩, fun _ => rfl⟩
 ·rw [decide_eq_false hs, cond_tt (by rfl)]
  exact ⟨e0, false, rfl, e0_ok, fun h => (by cases h), fun hw => absurd (fe_inj.2 (by rw [f61, hr2f hw])) hs⟩
end Go.Eng
