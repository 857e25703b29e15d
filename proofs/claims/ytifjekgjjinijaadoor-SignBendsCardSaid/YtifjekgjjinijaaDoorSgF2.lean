/-
  Part of a proof: SgF2.
-/
import Derived.Test.YtifjekgjjinijaaDoorSgF1
import Derived.Test.YtifjekgjjinijaaDoorNT6
set_option linter.unusedVariables false
set_option linter.unusedSimpArgs false
set_option linter.unusedVariables false
set_option linter.unusedSimpArgs false
namespace Go.Eng
set_option maxRecDepth 100000
set_option maxHeartbeats 1000000
def fe (e : T_field_Elem) : FF := ph (res e)
theorem PP_eq : PP = ((PN : Nat) : Int) := rfl
theorem ph_mod (x : Int) : ph (x % PP) = ph x := by rw [ph_eq]; exact Int.emod_emod _ _
theorem ph_addP (x y : Int) : ph (addP x y) = ph x + ph y := by show ph ((x + y) % PP) = _; rw [ph_mod, ph_add]
theorem ph_subP (x y : Int) : ph (subP x y) = ph x - ph y := by show ph ((x - y) % PP) = _; rw [ph_mod, ph_sub]
theorem ph_mulP (x y : Int) : ph (mulP x y) = ph x * ph y := by show ph ((x * y) % PP) = _; rw [ph_mod, ph_mul]
theorem ph_inj {x y : Int} (hx : 0 ≤ x /\ x < PP) (hy : 0 ≤ y /\ y < PP) (h : ph x = ph y) : x = y := by
 have := ph_eq.1 h
 rw [Int.emod_eq_of_lt hx.1 hx.2, Int.emod_eq_of_lt hy.1 hy.2] at this
 exact this
theorem ph_self {a : FF} {x : Int} (hx : 0 ≤ x /\ x < PP) (h : ph x = a) : x = (a.val : Int) := by
 rw [← ph_val a] at h
 exact ph_inj hx ⟨Int.natCast_nonneg _, by rw [PP_eq]; exact Int.ofNat_lt.2 a.isLt⟩ h
theorem fe_res (e : T_field_Elem) : res e = ((fe e).val : Int) := ph_self (res_range e) rfl
theorem AddF {a b : T_field_Elem} (ha : EOk a) (hb : EOk b) : ∃ r, field_Elem_Add a b = some r /\ EOk r /\ fe r = fe a + fe b := by
 obtain ⟨r, h1, h2, h3⟩ := Add_some ha hb
 exact ⟨r, h1, h2, by unfold fe; rw [h3, ph_addP]⟩
theorem SubF {a b : T_field_Elem} (ha : EOk a) (hb : EOk b) : ∃ r, field_Elem_Sub a b = some r /\ EOk r /\ fe r = fe a - fe b := by
 obtain ⟨r, h1, h2, h3⟩ := Sub_some ha hb
 exact ⟨r, h1, h2, by unfold fe; rw [h3, ph_subP]⟩
theorem TimesF {a b : T_field_Elem} (ha : EOk a) (hb : EOk b) : ∃ r, field_Elem_Times a b = some r /\ EOk r /\ fe r = fe a * fe b := by
 obtain ⟨r, h1, h2, h3⟩ := Times_some ha hb
 exact ⟨r, h1, h2, by unfold fe; rw [h3, ph_mulP]⟩
theorem SquareF {a : T_field_Elem} (ha : EOk a) : ∃ r, field_Elem_Square a = some r /\ EOk r /\ fe r = fe a * fe a := by
 obtain ⟨r, h1, h2, h3⟩ := Square_some ha
 exact ⟨r, h1, h2, by unfold fe; rw [h3, ph_mulP]⟩
theorem fe_e0 : fe e0 = 0 := by unfold fe; rw [e0_res, ph_zero]
theorem fe_e1 : fe e1 = 1 := by unfold fe; rw [e1_res, ph_one]
theorem powP_nat (n k : Nat) : powP (n : Int) k = ((n ^ k % PN : Nat) : Int) := by
 unfold powP
 rw [PP_eq, ← Int.natCast_pow, ← Int.natCast_emod]
theorem fe_pow {a r : T_field_Elem} {k : Nat} (h : IsP (res a) k r) : res r = (((fe a).val ^ k % PN : Nat) : Int) := by
 rw [h.val, fe_res a, powP_nat]
theorem fe_powN {a r : T_field_Elem} {k : Nat} (h : IsP (res a) k r) : fe r = ph (((fe a).val ^ k : Nat) : Int) := by
 unfold fe
 rw [fe_pow h, ph_nat, Nat.mod_mod]
 rfl
theorem ph_pow_add (n j k : Nat) : ph ((n ^ (j + k) : Nat) : Int) = ph ((n ^ j : Nat) : Int) * ph ((n ^ k : Nat) : Int) := by rw [Nat.pow_add, ph_mulN]
theorem ph_fermat {n : Nat} (h : ¬ PN ∣ n) {k : Nat} (hk : k = PN - 1) : ph ((n ^ k : Nat) : Int) = 1 := by
 rw [hk, ← ph_one, show (1 : Int) = ((1 : Nat) : Int) from rfl, ph_nat, fermat1 priPN h]; rfl
theorem InvertF {a : T_field_Elem} (ha : EOk a) : ∃ r, field_Elem_Invert a = some r /\ EOk r /\ fe r = nvF (fe a) := by
 obtain ⟨r, h1, h2, h3⟩ := Invert_some ha
 refine ⟨r, h1, h2, ?_⟩
 have hp : IsP (res a) PM2 r := ⟨h2, h3⟩
 have e := fe_powN hp
 rw [e]
 by_cases h0 : fe a = 0
 ·rw [h0, nvF_zero]
  obtain ⟨k, hk⟩ : ∃ k, PM2 = k + 1 := ⟨57896044618658097711785492504343953926634992332820282019728792003956564819946, rfl⟩
  rw [hk, Nat.pow_succ, ph_mulN]
  show _ * ph (((0 : FF).val : Nat) : Int) = 0
  rw [show ph (((0 : FF).val : Nat) : Int) = (0 : FF) from ph_val 0]
  generalize ph _ = z
  grind
 ·have hm : fe a * ph (((fe a).val ^ PM2 : Nat) : Int) = 1 := by
   have hd : ¬ PN ∣ (fe a).val := ph_ne.1 (by rw [ph_val]; exact h0)
   have := ph_fermat hd (k := 1 + PM2) rfl
   rw [ph_pow_add, Nat.pow_one, ph_val] at this
   exact this
  have hn := nvF_mul _ h0
  generalize ph _ = z at *
  generalize nvF (fe a) = w at *
  have : z = z * (fe a * w) := by rw [hn]; grind
  rw [this]
  have : z * (fe a * w) = (fe a * z) * w := by grind
  rw [this, hm]; grind
end Go.Eng
