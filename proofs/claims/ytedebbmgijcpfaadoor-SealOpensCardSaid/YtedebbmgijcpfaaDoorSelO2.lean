/-
  Part of a proof: SelO2.
-/
import Derived.Test.YtedebbmgijcpfaaDoorSelO1
import Derived.KernelRfl
set_option linter.unusedVariables false
set_option linter.unusedSimpArgs false
set_option linter.unusedVariables false
set_option linter.unusedSimpArgs false
namespace Go.Eng
set_option maxRecDepth 100000
set_option maxHeartbeats 1000000
abbrev TI : Int := 1361129467683753853853498429727072845824
abbrev PI : Int := 1361129467683753853853498429727072845819
def bump5 (r : Int × List Int) : List Int := List.set r.2 0 (IntKind.wrap .u64 (List.getD r.2 0 0 + IntKind.wrap .u64 (5 * r.1)))
def carried2 (l : List Int) : List Int := bump5 (cpass 0 (bump5 (cpass 0 l)))
theorem carry2_raw (a0 a1 a2 a3 a4 : Int) : onetime_number_carry_2 [a0, a1, a2, a3, a4] = some (carried2 [a0, a1, a2, a3, a4]) := by kernel_rfl
theorem carry2_eq {l : List Int} (h : l.length = 5) : onetime_number_carry_2 l = some (carried2 l) := by
 obtain ⟨a0, a1, a2, a3, a4, rfl⟩ := list5 h
 exact carry2_raw ..
theorem pow5 : (67108864 : Int) ^ 5 = 1361129467683753853853498429727072845824 := by decide
theorem bump5_val {o : Int} {l : List Int} (h : Lim 67108864 l) (hn : l.length = 5) (h0 : 0 ≤ o) (h1 : o < 274877906944) :
  val26 (bump5 (o, l)) = val26 l + 5 * o /\ Lim (67108864 + 5 * o) (bump5 (o, l)) /\ (bump5 (o, l)).length = 5 := by
 match l, h, hn with
 | x :: xs, ⟨⟨a, b⟩, c⟩, hn =>
  have e1 : IntKind.u64.wrap (5 * o) = 5 * o := u64_id (by omega) (by omega)
  have e2 : IntKind.u64.wrap (x + 5 * o) = x + 5 * o := u64_id (by omega) (by omega)
  simp only [bump5, List.getD_cons_zero, e1, e2, List.set_cons_zero, val26, Lim, List.length_cons] at hn ⊢
  exact ⟨by omega, ⟨⟨by omega, by omega⟩, c.mono (by omega)⟩, by omega⟩
theorem carried2_val {l : List Int} (h : Lim 9223372036854775808 l) (hn : l.length = 5) :
  val26 (carried2 l) % PI = val26 l % PI /\ Lim 134217728 (carried2 l) /\ (carried2 l).length = 5 /\ 0 ≤ val26 (carried2 l) /\ val26 (carried2 l) < TI /\ (val26 l < TI -> val26 (carried2 l) = val26 l /\ Lim 67108864 (carried2 l)) := by
 obtain ⟨a1, a2, a3, a4, a5⟩ := cpass_val l 0 h (by decide) (by decide)
 rw [hn] at a1 a3
 have a6 := val26_nonneg a2
 have a7 := val26_lt a2
 rw [a3, pow5] at a7
 rw [pow5] at a1
 unfold carried2
 generalize hl1 : cpass 0 l = r1 at *
 obtain ⟨o1, l1⟩ := r1
 obtain ⟨b1, b2, b3⟩ := bump5_val a2 a3 a4 a5
 generalize hb1 : bump5 (o1, l1) = m1 at *
 simp only at a1 a2 a3 a4 a5 a6 a7 b1 b2
 obtain ⟨c1, c2, c3, c4, c5⟩ := cpass_val m1 0 (b2.mono (by omega)) (by decide) (by decide)
 rw [b3] at c1 c3
 have c6 := val26_nonneg c2
 have c7 := val26_lt c2
 rw [c3, pow5] at c7
 rw [pow5] at c1
 generalize hl2 : cpass 0 m1 = r2 at *
 obtain ⟨o2, l2⟩ := r2
 obtain ⟨d1, d2, d3⟩ := bump5_val c2 c3 c4 c5
 generalize hb2 : bump5 (o2, l2) = m2 at *
 simp only at c1 c2 c3 c4 c5 c6 c7 d1 d2
 have z : o2 ≤ 1 := by omega
 refine ⟨by simp only [PI]; omega, d2.mono (by omega), d3, by omega, by simp only [TI]; omega, fun hlt => ?_⟩
 simp only [TI] at hlt
 have z1 : o1 = 0 := by omega
 have z2 : o2 = 0 := by omega
 subst z1 z2
 exact ⟨by omega, d2.mono (by omega)⟩
def us (x y : Int) : Int := IntKind.wrap .u64 (x + y)
def up (x y : Int) : Int := IntKind.wrap .u64 (x * y)
def uq (x y : Int) : Int := IntKind.wrap .u64 (IntKind.wrap .u64 (x * y) * 5)
def su5 (a b c d e : Int) : Int := us (us (us (us (us 0 a) b) c) d) e
theorem times_raw (a0 a1 a2 a3 a4 b0 b1 b2 b3 b4 : Int) : onetime_times_l1 [a0, a1, a2, a3, a4] [b0, b1, b2, b3, b4] FUEL 0 (List.replicate 5 0) = some
  [su5 (up a0 b0) (uq a1 b4) (uq a2 b3) (uq a3 b2) (uq a4 b1), su5 (up a0 b1) (up a1 b0) (uq a2 b4) (uq a3 b3) (uq a4 b2), su5 (up a0 b2) (up a1 b1) (up a2 b0) (uq a3 b4) (uq a4 b3), su5 (up a0 b3) (up a1 b2) (up a2 b1) (up a3 b0) (uq a4 b4), su5 (up a0 b4) (up a1 b3) (up a2 b2) (up a3 b1) (up a4 b0)] := by kernel_rfl
theorem up_eq {x y : Int} (h0 : 0 ≤ x) (h1 : x < 268435456) (h2 : 0 ≤ y) (h3 : y < 67108864) : up x y = x * y /\ 0 ≤ x * y /\ x * y ≤ 18014398509481984 := by
 have m0 : 0 ≤ x * y := Int.mul_nonneg h0 h2
 have m1 : x * y ≤ 268435455 * 67108863 := Int.mul_le_mul (by omega) (by omega) h2 (by decide)
 exact ⟨u64_id m0 (by omega), m0, by omega⟩
theorem uq_eq {x y : Int} (h0 : 0 ≤ x) (h1 : x < 268435456) (h2 : 0 ≤ y) (h3 : y < 67108864) : uq x y = 5 * (x * y) /\ 0 ≤ x * y /\ x * y ≤ 18014398509481984 := by
 obtain ⟨e, m0, m1⟩ := up_eq h0 h1 h2 h3
 unfold uq
 rw [show IntKind.wrap .u64 (x * y) = x * y from e, u64_id (by omega) (by omega)]
 exact ⟨by omega, m0, m1⟩
theorem su5_eq {a b c d e : Int} (ha : 0 ≤ a /\ a ≤ 90071992547409920) (hb : 0 ≤ b /\ b ≤ 90071992547409920) (hc : 0 ≤ c /\ c ≤ 90071992547409920) (hd : 0 ≤ d /\ d ≤ 90071992547409920) (he : 0 ≤ e /\ e ≤ 90071992547409920) : su5 a b c d e = a + b + c + d + e := by
 unfold su5 us
 rw [Int.zero_add, u64_id (n := a) (by omega) (by omega), u64_id (n := a + b) (by omega) (by omega), u64_id (n := a + b + c) (by omega) (by omega), u64_id (n := a + b + c + d) (by omega) (by omega), u64_id (by omega) (by omega)]
theorem ring5 (a0 a1 a2 a3 a4 b0 b1 b2 b3 b4 : Int) :
  val26 [a0, a1, a2, a3, a4] * val26 [b0, b1, b2, b3, b4] = val26 [a0 * b0 + 5 * (a1 * b4) + 5 * (a2 * b3) + 5 * (a3 * b2) + 5 * (a4 * b1), a0 * b1 + a1 * b0 + 5 * (a2 * b4) + 5 * (a3 * b3) + 5 * (a4 * b2), a0 * b2 + a1 * b1 + a2 * b0 + 5 * (a3 * b4) + 5 * (a4 * b3), a0 * b3 + a1 * b2 + a2 * b1 + a3 * b0 + 5 * (a4 * b4), a0 * b4 + a1 * b3 + a2 * b2 + a3 * b1 + a4 * b0]
   + 1361129467683753853853498429727072845819 * (a1 * b4 + a2 * b3 + a3 * b2 + a4 * b1 + 67108864 * (a2 * b4 + a3 * b3 + a4 * b2) + 4503599627370496 * (a3 * b4 + a4 * b3) + 302231454903657293676544 * (a4 * b4)) := by
 simp only [val26]
 grind
theorem times5_is {a b : List Int} (ha : Lim 268435456 a) (hb : Lim 67108864 b) (la : a.length = 5) (lb : b.length = 5) : ∃ r, onetime_times a b = some r /\ Lim 134217728 r /\ r.length = 5 /\ val26 r % PI = val26 a * val26 b % PI := by
 obtain ⟨a0, a1, a2, a3, a4, rfl⟩ := list5 la
 obtain ⟨b0, b1, b2, b3, b4, rfl⟩ := list5 lb
 simp only [Lim] at ha hb
 obtain ⟨⟨x0, y0⟩, ⟨x1, y1⟩, ⟨x2, y2⟩, ⟨x3, y3⟩, ⟨x4, y4⟩, _⟩ := ha
 obtain ⟨⟨u0, v0⟩, ⟨u1, v1⟩, ⟨u2, v2⟩, ⟨u3, v3⟩, ⟨u4, v4⟩, _⟩ := hb
 have e00 := up_eq x0 y0 u0 v0
 have e01 := up_eq x0 y0 u1 v1
 have e02 := up_eq x0 y0 u2 v2
 have e03 := up_eq x0 y0 u3 v3
 have e04 := up_eq x0 y0 u4 v4
 have e10 := up_eq x1 y1 u0 v0
 have e11 := up_eq x1 y1 u1 v1
 have e12 := up_eq x1 y1 u2 v2
 have e13 := up_eq x1 y1 u3 v3
 have e14 := uq_eq x1 y1 u4 v4
 have e20 := up_eq x2 y2 u0 v0
 have e21 := up_eq x2 y2 u1 v1
 have e22 := up_eq x2 y2 u2 v2
 have e23 := uq_eq x2 y2 u3 v3
 have e24 := uq_eq x2 y2 u4 v4
 have e30 := up_eq x3 y3 u0 v0
 have e31 := up_eq x3 y3 u1 v1
 have e32 := uq_eq x3 y3 u2 v2
 have e33 := uq_eq x3 y3 u3 v3
 have e34 := uq_eq x3 y3 u4 v4
 have e40 := up_eq x4 y4 u0 v0
 have e41 := uq_eq x4 y4 u1 v1
 have e42 := uq_eq x4 y4 u2 v2
 have e43 := uq_eq x4 y4 u3 v3
 have e44 := uq_eq x4 y4 u4 v4
 have hr := ring5 a0 a1 a2 a3 a4 b0 b1 b2 b3 b4
 have ht := times_raw a0 a1 a2 a3 a4 b0 b1 b2 b3 b4
 rw [e00.1, e01.1, e02.1, e03.1, e04.1, e10.1, e11.1, e12.1, e13.1, e14.1, e20.1, e21.1, e22.1, e23.1, e24.1, e30.1, e31.1, e32.1, e33.1, e34.1, e40.1, e41.1, e42.1, e43.1, e44.1] at ht
 replace e00 := e00.2
 replace e01 := e01.2
 replace e02 := e02.2
 replace e03 := e03.2
 replace e04 := e04.2
 replace e10 := e10.2
 replace e11 := e11.2
 replace e12 := e12.2
 replace e13 := e13.2
 replace e14 := e14.2
 replace e20 := e20.2
 replace e21 := e21.2
 replace e22 := e22.2
 replace e23 := e23.2
 replace e24 := e24.2
 replace e30 := e30.2
 replace e31 := e31.2
 replace e32 := e32.2
 replace e33 := e33.2
 replace e34 := e34.2
 replace e40 := e40.2
 replace e41 := e41.2
 replace e42 := e42.2
 replace e43 := e43.2
 replace e44 := e44.2
 have t0 := su5_eq (a := a0 * b0) (b := 5 * (a1 * b4)) (c := 5 * (a2 * b3)) (d := 5 * (a3 * b2)) (e := 5 * (a4 * b1)) (by omega) (by omega) (by omega) (by omega) (by omega)
 have t1 := su5_eq (a := a0 * b1) (b := a1 * b0) (c := 5 * (a2 * b4)) (d := 5 * (a3 * b3)) (e := 5 * (a4 * b2)) (by omega) (by omega) (by omega) (by omega) (by omega)
 have t2 := su5_eq (a := a0 * b2) (b := a1 * b1) (c := a2 * b0) (d := 5 * (a3 * b4)) (e := 5 * (a4 * b3)) (by omega) (by omega) (by omega) (by omega) (by omega)
 have t3 := su5_eq (a := a0 * b3) (b := a1 * b2) (c := a2 * b1) (d := a3 * b0) (e := 5 * (a4 * b4)) (by omega) (by omega) (by omega) (by omega) (by omega)
 have t4 := su5_eq (a := a0 * b4) (b := a1 * b3) (c := a2 * b2) (d := a3 * b1) (e := a4 * b0) (by omega) (by omega) (by omega) (by omega) (by omega)
 rw [t0, t1, t2, t3, t4] at ht
 clear t0 t1 t2 t3 t4
 have hL : Lim 9223372036854775808 [a0 * b0 + 5 * (a1 * b4) + 5 * (a2 * b3) + 5 * (a3 * b2) + 5 * (a4 * b1), a0 * b1 + a1 * b0 + 5 * (a2 * b4) + 5 * (a3 * b3) + 5 * (a4 * b2), a0 * b2 + a1 * b1 + a2 * b0 + 5 * (a3 * b4) + 5 * (a4 * b3), a0 * b3 + a1 * b2 + a2 * b1 + a3 * b0 + 5 * (a4 * b4), a0 * b4 + a1 * b3 + a2 * b2 + a3 * b1 + a4 * b0] := by
  simp only [Lim]
  refine ⟨?_, ?_, ?_, ?_, ?_, trivial⟩
  ·clear hr ht; omega
  ·clear hr ht; omega
  ·clear hr ht; omega
  ·clear hr ht; omega
  ·clear hr ht; omega
 obtain ⟨c1, c2, c3, _⟩ := carried2_val hL rfl
 refine ⟨_, ?_, c2, c3, ?_⟩
 ·unfold onetime_times
  rw [ht, Option.bind_some, carry2_eq rfl]; rfl
 ·rw [c1, hr, Int.add_mul_emod_self_left]
end Go.Eng
