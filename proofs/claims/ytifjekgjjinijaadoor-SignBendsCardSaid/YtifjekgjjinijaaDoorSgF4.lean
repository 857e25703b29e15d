/-
  Part of a proof: SgF4.
-/
import Derived.Test.YtifjekgjjinijaaDoorSgF3
set_option linter.unusedVariables false
set_option linter.unusedSimpArgs false
set_option linter.unusedVariables false
set_option linter.unusedSimpArgs false
namespace Go.Eng
set_option maxRecDepth 100000
set_option maxHeartbeats 1000000
structure POk (p : T_points_Point) : Prop where
 x : EOk p.fx
 y : EOk p.fy
 z : EOk p.fz
 t : EOk p.ft
def p4 (p : T_points_Point) : P4 := ⟨fe p.fx, fe p.fy, fe p.fz, fe p.ft⟩
theorem plus_some {p q : T_points_Point} {w : T_field_Elem} (hp : POk p) (hq : POk q) (hw : EOk w) : ∃ r, points_Point_plus p q w = some r /\ POk r /\ p4 r = (p4 p).plus (fe w) (p4 q) := by
 unfold points_Point_plus
 obtain ⟨a1, e, k1, f1⟩ := SubF hp.y hp.x; rw [e, Option.bind_some]
 obtain ⟨a2, e, k2, f2⟩ := SubF hq.y hq.x; rw [e, Option.bind_some]
 obtain ⟨a3, e, k3, f3⟩ := TimesF k1 k2; rw [e, Option.bind_some]
 obtain ⟨a4, e, k4, f4⟩ := AddF hp.y hp.x; rw [e, Option.bind_some]
 obtain ⟨a5, e, k5, f5⟩ := AddF hq.y hq.x; rw [e, Option.bind_some]
 obtain ⟨a6, e, k6, f6⟩ := TimesF k4 k5; rw [e, Option.bind_some]
 obtain ⟨a7, e, k7, f7⟩ := TimesF hp.t hq.t; rw [e, Option.bind_some]
 obtain ⟨a8, e, k8, f8⟩ := TimesF k7 hw; rw [e, Option.bind_some]
 obtain ⟨a9, e, k9, f9⟩ := TimesF hp.z hq.z; rw [e, Option.bind_some]
 obtain ⟨b1, e, l1, g1⟩ := AddF k9 k9; rw [e, Option.bind_some]
 obtain ⟨b2, e, l2, g2⟩ := SubF k6 k3; rw [e, Option.bind_some]
 obtain ⟨b3, e, l3, g3⟩ := SubF l1 k8; rw [e, Option.bind_some]
 obtain ⟨b4, e, l4, g4⟩ := AddF l1 k8; rw [e, Option.bind_some]
 obtain ⟨b5, e, l5, g5⟩ := AddF k6 k3; rw [e, Option.bind_some]
 obtain ⟨c1, e, m1, h1⟩ := TimesF l2 l3; rw [e, Option.bind_some]
 obtain ⟨c2, e, m2, h2⟩ := TimesF l4 l5; rw [e, Option.bind_some]
 obtain ⟨c3, e, m3, h3⟩ := TimesF l3 l4; rw [e, Option.bind_some]
 obtain ⟨c4, e, m4, h4⟩ := TimesF l2 l5; rw [e, Option.bind_some]
 refine ⟨_, rfl, ⟨m1, m2, m3, m4⟩, ?_⟩
 unfold p4 P4.plus
 simp only [h1, h2, h3, h4, g1, g2, g3, g4, g5, f1, f2, f3, f4, f5, f6, f7, f8, f9]
theorem double_some {p : T_points_Point} (hp : POk p) : ∃ r, points_Point_double p = some r /\ POk r /\ p4 r = (p4 p).dbl := by
 unfold points_Point_double
 obtain ⟨a1, e, k1, f1⟩ := SquareF hp.x; rw [e, Option.bind_some]
 obtain ⟨a2, e, k2, f2⟩ := SquareF hp.y; rw [e, Option.bind_some]
 obtain ⟨a3, e, k3, f3⟩ := SquareF hp.z; rw [e, Option.bind_some]
 obtain ⟨a4, e, k4, f4⟩ := AddF k3 k3; rw [e, Option.bind_some]
 obtain ⟨a5, e, k5, f5⟩ := AddF k1 k2; rw [e, Option.bind_some]
 obtain ⟨a6, e, k6, f6⟩ := AddF hp.x hp.y; rw [e, Option.bind_some]
 obtain ⟨a7, e, k7, f7⟩ := SquareF k6; rw [e, Option.bind_some]
 obtain ⟨a8, e, k8, f8⟩ := SubF k5 k7; rw [e, Option.bind_some]
 obtain ⟨a9, e, k9, f9⟩ := SubF k1 k2; rw [e, Option.bind_some]
 obtain ⟨b1, e, l1, g1⟩ := AddF k4 k9; rw [e, Option.bind_some]
 obtain ⟨c1, e, m1, h1⟩ := TimesF k8 l1; rw [e, Option.bind_some]
 obtain ⟨c2, e, m2, h2⟩ := TimesF k9 k5; rw [e, Option.bind_some]
 obtain ⟨c3, e, m3, h3⟩ := TimesF l1 k9; rw [e, Option.bind_some]
 obtain ⟨c4, e, m4, h4⟩ := TimesF k8 k5; rw [e, Option.bind_some]
 refine ⟨_, rfl, ⟨m1, m2, m3, m4⟩, ?_⟩
 unfold p4 P4.dbl
 simp only [h1, h2, h3, h4, g1, f1, f2, f3, f4, f5, f6, f7, f8, f9]
def eD : T_field_Elem := ⟨[56195235, 47411844, 25868126, 20251911, 28682, 31357478, 7604119, 66702899, 15608687, 1343707]⟩
theorem Curve_is : field_Curve = some eD := by kernel_rfl
theorem eD_ok : EOk eD := ⟨lim10 (by decide), rfl⟩
theorem eD_fe : fe eD = dF := by unfold fe dF; congr 1
theorem twice_is : ∃ w, points_twice = some w /\ EOk w /\ fe w = dF + dF := by
 obtain ⟨r, e, k, f⟩ := AddF eD_ok eD_ok
 refine ⟨r, ?_, k, by rw [f, eD_fe]⟩
 unfold points_twice
 rw [Curve_is, Option.bind_some, e]; rfl
def eX : T_field_Elem := ⟨[52811034, 25909283, 41626773, 25318550, 6892743, 58046231, 38675231, 22018818, 47435118, 547405]⟩
def eY : T_field_Elem := ⟨[40265304, 26843545, 40265318, 26843545, 40265318, 26843545, 40265318, 26843545, 40265318, 1677721]⟩
theorem eX_ok : EOk eX := ⟨lim10 (by decide), rfl⟩
theorem eY_ok : EOk eY := ⟨lim10 (by decide), rfl⟩
abbrev bxN : Nat := 15112221349535400772501151409588531511454012693041857206046113283949847762202
abbrev byN : Nat := 46316835694926478169428394003475163141307993866256225615783033603165251855960
theorem eX_fe : fe eX = ph bxN := by unfold fe; congr 1
theorem eY_fe : fe eY = ph byN := by unfold fe; congr 1
theorem base_on : OnA dF (ph bxN) (ph byN) := by
 have h : ph ((byN * byN : Nat) : Int) = ph ((bxN * bxN + (1 + dN * (bxN * bxN) * (byN * byN)) : Nat) : Int) := by
  rw [ph_nat]; kernel_rfl
 rw [Int.natCast_add, Int.natCast_add, ph_add, ph_add, ph_mulN, ph_mulN, ph_mulN, ph_mulN, ph_mulN, ph_mulN] at h
 have h1 : ph ((1 : Nat) : Int) = 1 := ph_one
 rw [h1] at h
 unfold OnA dF
 generalize ph (bxN : Int) = x at *
 generalize ph (byN : Int) = y at *
 generalize ph (dN : Int) = d at *
 grind
def B : PF := ⟨ph bxN, ph byN, base_on⟩
theorem at_some {x y : T_field_Elem} (hx : EOk x) (hy : EOk y) : ∃ r, points_at x y = some r /\ POk r /\ p4 r = ⟨fe x, fe y, 1, fe x * fe y⟩ := by
 obtain ⟨t, e, k, f⟩ := TimesF hx hy
 refine ⟨⟨x, y, e1, t⟩, ?_, ⟨hx, hy, e1_ok, k⟩, ?_⟩
 ·unfold points_at
  rw [Small1, Option.bind_some, e]; rfl
 ·unfold p4
  simp only [fe_e1, f]
theorem Base_is : ∃ r, points_Base = some r /\ POk r /\ Rep4 (p4 r) B := by
 obtain ⟨r, h1, h2, h3⟩ := at_some eX_ok eY_ok
 refine ⟨r, ?_, h2, ?_⟩
 ·unfold points_Base
  rw [show field_BaseX = some eX from rfl, Option.bind_some, show field_BaseY = some eY from rfl, Option.bind_some, h1]; rfl
 ·rw [h3, eX_fe, eY_fe]
  exact Rep4.at_ fldFF base_on
theorem Zero_is : ∃ r, points_Zero = some r /\ POk r /\ Rep4 (p4 r) (Pt.zero : PF) := by
 obtain ⟨r, h1, h2, h3⟩ := at_some e0_ok e1_ok
 refine ⟨r, ?_, h2, ?_⟩
 ·unfold points_Zero
  rw [Small0, Option.bind_some, Small1, Option.bind_some, h1]; rfl
 ·rw [h3, fe_e0, fe_e1]
  exact Rep4.at_ fldFF Pt.zero.on
theorem Neg_is {p : T_points_Point} {a : PF} (hp : POk p) (h : Rep4 (p4 p) a) : ∃ r, points_Point_Negate p = some r /\ POk r /\ Rep4 (p4 r) a.neg := by
 obtain ⟨x, e, k, f⟩ := SubF e0_ok hp.x
 obtain ⟨t, e', k', f'⟩ := SubF e0_ok hp.t
 refine ⟨⟨x, p.fy, p.fz, t⟩, ?_, ⟨k, hp.y, hp.z, k'⟩, ?_⟩
 ·unfold points_Point_Negate
  rw [Small0, Option.bind_some, e, Option.bind_some, e']; rfl
 ·have := h.neg
  unfold p4
  simp only [f, f', fe_e0]
  exact this
theorem plus_rep {p q : T_points_Point} {w : T_field_Elem} {a b : PF} (hp : POk p) (hq : POk q) (hw : EOk w) (fw : fe w = dF + dF) (ha : Rep4 (p4 p) a) (hb : Rep4 (p4 q) b) : ∃ r, points_Point_plus p q w = some r /\ POk r /\ Rep4 (p4 r) (a.add envF b) := by
 obtain ⟨r, h1, h2, h3⟩ := plus_some hp hq hw
 refine ⟨r, h1, h2, ?_⟩
 rw [h3, fw]
 exact Rep4.plus envF ha hb
theorem double_rep {p : T_points_Point} {a : PF} (hp : POk p) (ha : Rep4 (p4 p) a) : ∃ r, points_Point_double p = some r /\ POk r /\ Rep4 (p4 r) (a.add envF a) := by
 obtain ⟨r, h1, h2, h3⟩ := double_some hp
 refine ⟨r, h1, h2, ?_⟩
 rw [h3]
 exact Rep4.dbl envF ha
theorem Bit_is {s : Nat} {i : Nat} (hi : i < 256) : scalar_Bit (zl (limbsN 8 32 s)) (i : Int) = some (decide (s / 2 ^ i % 2 = 1)) := by
 have e1 : Int.tdiv (i : Int) 8 = ((i / 8 : Nat) : Int) := rfl
 have e2 : Int.tmod (i : Int) 8 = ((i % 8 : Nat) : Int) := rfl
 have m1 : min (i % 8) (IntKind.bits .u8) = i % 8 := by show min _ 8 = _; omega
 have hb : (limbsN 8 32 s).getD (i / 8) 0 < 256 := getD_lt (limbsN_lt 8 32 s) (by decide) _
 have hb' : (limbsN 8 32 s).getD (i / 8) 0 / 2 ^ (i % 8) < 256 := Nat.lt_of_le_of_lt (Nat.div_le_self _ _) hb
 have hbit := limbsN_bit 8 (by decide) 32 s i (by omega)
 unfold scalar_Bit
 rw [cond_tt (by simp), cond_tt (by simp <;> omega), e1, i64n (n := i / 8) (by omega), if_pos ⟨by omega, by omega⟩, nm_eq, e2, if_pos (by omega), nm_eq, Int.toNat_natCast, Int.toNat_natCast, zl_getD, m1, fdivn, and1_8 hb', hbit]
 congr 1
 by_cases h : s / 2 ^ i % 2 = 1
 ·rw [decide_eq_true h, beq_iff_eq]; omega
 ·rw [decide_eq_false h, beq_eq_false_iff_ne]; omega
end Go.Eng
