/-
  Part of a proof: SgF5.
-/
import Derived.Test.YtifjekgjjinijaaDoorSgF4
set_option linter.unusedVariables false
set_option linter.unusedSimpArgs false
set_option linter.unusedVariables false
set_option linter.unusedSimpArgs false
namespace Go.Eng
set_option maxRecDepth 100000
set_option maxHeartbeats 1000000
theorem mul_one (a : PF) : Pt.mul envF a 1 = a := Pt.zero_add envF a
theorem mul_dbl (a : PF) (n : Nat) : (Pt.mul envF a n).add envF (Pt.mul envF a n) = Pt.mul envF a (n + n) := (Pt.mul_add envF a n n).symm
theorem mul_succ (a : PF) (n : Nat) : (Pt.mul envF a n).add envF a = Pt.mul envF a (n + 1) := rfl
theorem add4 (a b c e : PF) : (a.add envF b).add envF (c.add envF e) = (a.add envF c).add envF (b.add envF e) := by
 rw [Pt.add_assoc, Pt.add_assoc, ← Pt.add_assoc envF b, ← Pt.add_assoc envF c, Pt.add_comm envF b c]
theorem half_step (s i : Nat) : s / 2 ^ i = s / 2 ^ (i + 1) + s / 2 ^ (i + 1) + s / 2 ^ i % 2 := by
 rw [Nat.pow_succ, ← Nat.div_div_eq_div_mul]; omega
theorem step1 {p x : T_points_Point} {w : T_field_Elem} {a : PF} {s i : Nat} (hp : POk p) (ha : Rep4 (p4 p) a) (hw : EOk w) (fw : fe w = dF + dF) (hx : POk x) (rx : Rep4 (p4 x) (Pt.mul envF a (s / 2 ^ (i + 1)))) :
  ∃ x2 y, points_Point_double x = some x2 /\ ((cond (decide (s / 2 ^ i % 2 = 1)) ((points_Point_plus x2 p w).bind fun z => some z) (some x2) : Option T_points_Point)) = some y /\ POk y /\ Rep4 (p4 y) (Pt.mul envF a (s / 2 ^ i)) := by
 obtain ⟨x2, h1, h2, h3⟩ := double_rep hx rx
 rw [mul_dbl] at h3
 have hs := half_step s i
 by_cases hb : s / 2 ^ i % 2 = 1
 ·obtain ⟨y, k1, k2, k3⟩ := plus_rep h2 hp hw fw h3 ha
  refine ⟨x2, y, h1, by rw [decide_eq_true hb, cond_true, k1]; rfl, k2, ?_⟩
  rw [hs, hb, ← mul_succ]; exact k3
 ·refine ⟨x2, x2, h1, by rw [decide_eq_false hb, cond_false], h2, ?_⟩
  have h0 : s / 2 ^ i % 2 = 0 := by omega
  rw [hs, h0, Nat.add_zero]; exact h3
theorem Times_l1_is {p : T_points_Point} {w : T_field_Elem} {a : PF} {s : Nat} (hp : POk p) (ha : Rep4 (p4 p) a) (hw : EOk w) (fw : fe w = dF + dF) : ∀ (i n : Nat) (x : T_points_Point), i < n -> i ≤ 256 -> POk x -> Rep4 (p4 x) (Pt.mul envF a (s / 2 ^ i)) ->
  ∃ r, points_Point_Times_l1 p (zl (limbsN 8 32 s)) w n ((i : Int) - 1) x = some r /\ POk r /\ Rep4 (p4 r) (Pt.mul envF a s)
 | i, 0, x, h, _, _, _ => absurd h (Nat.not_lt_zero _)
 | 0, n + 1, x, _, _, hx, rx => by
  rw [points_Point_Times_l1.eq_2, cond_ff (by decide)]
  rw [Nat.pow_zero, Nat.div_one] at rx
  exact ⟨x, rfl, hx, rx⟩
 | i + 1, n + 1, x, h, h', hx, rx => by
  obtain ⟨x2, y, e1, e2, e3, e4⟩ := step1 hp ha hw fw hx rx
  obtain ⟨r, f1, f2, f3⟩ := Times_l1_is (s := s) hp ha hw fw i n y (by omega) (by omega) e3 e4
  refine ⟨r, ?_, f2, f3⟩
  rw [points_Point_Times_l1.eq_2, show ((i + 1 : Nat) : Int) - 1 = (i : Int) by omega, cond_tt (by simp), e1, Option.bind_some, Bit_is (by omega), Option.bind_some, e2, Option.bind_some, wrap_i64 (by omega) (by omega)]
  exact f1
theorem pow256 {s : Nat} (h : s < 2 ^ 256) : s / 2 ^ 256 = 0 := Nat.div_eq_of_lt h
theorem Times_is {p : T_points_Point} {a : PF} {s : Nat} (hp : POk p) (ha : Rep4 (p4 p) a) (hs : s < 2 ^ 256) : ∃ r, points_Point_Times p (zl (limbsN 8 32 s)) = some r /\ POk r /\ Rep4 (p4 r) (Pt.mul envF a s) := by
 obtain ⟨w, w1, w2, w3⟩ := twice_is
 obtain ⟨z, z1, z2, z3⟩ := Zero_is
 have z4 : Rep4 (p4 z) (Pt.mul envF a (s / 2 ^ (255 + 1))) := by rw [show 255 + 1 = 256 from rfl, pow256 hs]; exact z3
 obtain ⟨x2, y, e1, e2, e3, e4⟩ := step1 hp ha w2 w3 z2 z4
 obtain ⟨r, f1, f2, f3⟩ := Times_l1_is (s := s) hp ha w2 w3 255 FUEL y (by decide) (by decide) e3 e4
 refine ⟨r, ?_, f2, f3⟩
 unfold points_Point_Times
 rw [w1, Option.bind_some, z1, Option.bind_some, e1, Option.bind_some, show (255 : Int) = ((255 : Nat) : Int) from rfl, Bit_is (by decide), Option.bind_some, e2, Option.bind_some]
 exact f1
theorem step2 {p bs bo x : T_points_Point} {w : T_field_Elem} {a : PF} {h s i : Nat} (hp : POk p) (ha : Rep4 (p4 p) a) (hb : POk bs) (rb : Rep4 (p4 bs) B) (ho : POk bo) (ro : Rep4 (p4 bo) (a.add envF B)) (hw : EOk w) (fw : fe w = dF + dF) (hx : POk x) (rx : Rep4 (p4 x) ((Pt.mul envF a (h / 2 ^ (i + 1))).add envF (Pt.mul envF B (s / 2 ^ (i + 1))))) :
  ∃ x2 y, points_Point_double x = some x2 /\ ((cond (decide (h / 2 ^ i % 2 = 1))
       (((cond (decide (s / 2 ^ i % 2 = 1))
        ((points_Point_plus x2 bo w).bind fun x108 =>
         some x108)
        (((cond (decide (h / 2 ^ i % 2 = 1))
         ((points_Point_plus x2 p w).bind fun x110 =>
          some x110)
         (((cond (decide (s / 2 ^ i % 2 = 1))
          ((points_Point_plus x2 bs w).bind fun x112 =>
           some x112)
          (some x2) : Option T_points_Point)).bind fun x111 =>
          some x111) : Option T_points_Point)).bind fun x109 =>
         some x109) : Option T_points_Point)).bind fun x107 =>
        some x107)
       (((cond (decide (h / 2 ^ i % 2 = 1))
        ((points_Point_plus x2 p w).bind fun x114 =>
         some x114)
        (((cond (decide (s / 2 ^ i % 2 = 1))
         ((points_Point_plus x2 bs w).bind fun x116 =>
          some x116)
         (some x2) : Option T_points_Point)).bind fun x115 =>
         some x115) : Option T_points_Point)).bind fun x113 =>
        some x113) : Option T_points_Point)) = some y /\ POk y /\ Rep4 (p4 y) ((Pt.mul envF a (h / 2 ^ i)).add envF (Pt.mul envF B (s / 2 ^ i))) := by
 obtain ⟨x2, h1, h2, h3⟩ := double_rep hx rx
 rw [add4, mul_dbl, mul_dbl] at h3
 have hh := half_step h i
 have hs := half_step s i
 by_cases b1 : h / 2 ^ i % 2 = 1
 ·by_cases b2 : s / 2 ^ i % 2 = 1
  ·obtain ⟨y, k1, k2, k3⟩ := plus_rep h2 ho hw fw h3 ro
   refine ⟨x2, y, h1, by simp only [decide_eq_true b1, decide_eq_true b2, cond_true, k1, Option.bind_some], k2, ?_⟩
   rw [hh, b1, hs, b2, ← mul_succ, ← mul_succ, ← add4]; exact k3
  ·have b0 : s / 2 ^ i % 2 = 0 := by omega
   obtain ⟨y, k1, k2, k3⟩ := plus_rep h2 hp hw fw h3 ha
   refine ⟨x2, y, h1, by simp only [decide_eq_true b1, decide_eq_false b2, cond_true, cond_false, k1, Option.bind_some], k2, ?_⟩
   rw [hh, b1, hs, b0, Nat.add_zero, ← mul_succ]
   rw [Pt.add_assoc, Pt.add_comm envF _ a, ← Pt.add_assoc] at k3
   exact k3
 ·have b0 : h / 2 ^ i % 2 = 0 := by omega
  by_cases b2 : s / 2 ^ i % 2 = 1
  ·obtain ⟨y, k1, k2, k3⟩ := plus_rep h2 hb hw fw h3 rb
   refine ⟨x2, y, h1, by simp only [decide_eq_false b1, decide_eq_true b2, cond_true, cond_false, k1, Option.bind_some], k2, ?_⟩
   rw [hh, b0, hs, b2, Nat.add_zero, ← mul_succ B]
   rw [Pt.add_assoc] at k3
   exact k3
  ·have b3 : s / 2 ^ i % 2 = 0 := by omega
   refine ⟨x2, x2, h1, by simp only [decide_eq_false b1, decide_eq_false b2, cond_false, Option.bind_some], h2, ?_⟩
   rw [hh, b0, hs, b3, Nat.add_zero, Nat.add_zero]; exact h3
theorem With_l1_is {p bs bo : T_points_Point} {w : T_field_Elem} {a : PF} {h s : Nat} (hp : POk p) (ha : Rep4 (p4 p) a) (hb : POk bs) (rb : Rep4 (p4 bs) B) (ho : POk bo) (ro : Rep4 (p4 bo) (a.add envF B)) (hw : EOk w) (fw : fe w = dF + dF) : ∀ (i n : Nat) (x : T_points_Point), i < n -> i ≤ 256 -> POk x -> Rep4 (p4 x) ((Pt.mul envF a (h / 2 ^ i)).add envF (Pt.mul envF B (s / 2 ^ i))) ->
  ∃ r, points_Point_With_l1 p (zl (limbsN 8 32 h)) (zl (limbsN 8 32 s)) w bs bo n ((i : Int) - 1) x = some r /\ POk r /\ Rep4 (p4 r) ((Pt.mul envF a h).add envF (Pt.mul envF B s))
 | i, 0, x, h, _, _, _ => absurd h (Nat.not_lt_zero _)
 | 0, n + 1, x, _, _, hx, rx => by
  rw [points_Point_With_l1.eq_2, cond_ff (by decide)]
  rw [Nat.pow_zero, Nat.div_one, Nat.div_one] at rx
  exact ⟨x, rfl, hx, rx⟩
 | i + 1, n + 1, x, h, h', hx, rx => by
  obtain ⟨x2, y, e1, e2, e3, e4⟩ := step2 hp ha hb rb ho ro hw fw hx rx
  obtain ⟨r, f1, f2, f3⟩ := With_l1_is (s := s) hp ha hb rb ho ro hw fw i n y (by omega) (by omega) e3 e4
  refine ⟨r, ?_, f2, f3⟩
  rw [points_Point_With_l1.eq_2, show ((i + 1 : Nat) : Int) - 1 = (i : Int) by omega, cond_tt (by simp), e1, Option.bind_some, Bit_is (by omega), Option.bind_some, Bit_is (by omega), Option.bind_some, e2, Option.bind_some, wrap_i64 (by omega) (by omega)]
  exact f1
theorem With_is {p : T_points_Point} {a : PF} {h s : Nat} (hp : POk p) (ha : Rep4 (p4 p) a) (hh : h < 2 ^ 256) (hs : s < 2 ^ 256) : ∃ r, points_Point_With p (zl (limbsN 8 32 h)) (zl (limbsN 8 32 s)) = some r /\ POk r /\ Rep4 (p4 r) ((Pt.mul envF a h).add envF (Pt.mul envF B s)) := by
 obtain ⟨w, w1, w2, w3⟩ := twice_is
 obtain ⟨bs, b1, b2, b3⟩ := Base_is
 obtain ⟨bo, o1, o2, o3⟩ := plus_rep hp b2 w2 w3 ha b3
 obtain ⟨z, z1, z2, z3⟩ := Zero_is
 have z4 : Rep4 (p4 z) ((Pt.mul envF a (h / 2 ^ (255 + 1))).add envF (Pt.mul envF B (s / 2 ^ (255 + 1)))) := by
  rw [show 255 + 1 = 256 from rfl, pow256 hs, pow256 hh]
  show Rep4 (p4 z) (Pt.zero.add envF Pt.zero)
  rw [Pt.add_zero]; exact z3
 obtain ⟨x2, y, e1, e2, e3, e4⟩ := step2 hp ha b2 b3 o2 o3 w2 w3 z2 z4
 obtain ⟨r, f1, f2, f3⟩ := With_l1_is (s := s) hp ha b2 b3 o2 o3 w2 w3 255 FUEL y (by decide) (by decide) e3 e4
 refine ⟨r, ?_, f2, f3⟩
 unfold points_Point_With
 rw [w1, Option.bind_some, b1, Option.bind_some, o1, Option.bind_some, z1, Option.bind_some, e1, Option.bind_some, show (255 : Int) = ((255 : Nat) : Int) from rfl, Bit_is (by decide), Option.bind_some, Bit_is (by decide), Option.bind_some, e2, Option.bind_some]
 exact f1
end Go.Eng
