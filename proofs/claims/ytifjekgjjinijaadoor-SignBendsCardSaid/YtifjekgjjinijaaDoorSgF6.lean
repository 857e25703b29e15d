/-
  Part of a proof: SgF6.
-/
import Derived.Test.YtifjekgjjinijaaDoorSgF5
set_option linter.unusedVariables false
set_option linter.unusedSimpArgs false
set_option linter.unusedVariables false
set_option linter.unusedSimpArgs false
namespace Go.Eng
set_option maxRecDepth 100000
set_option maxHeartbeats 1000000
def encN (a : PF) : Nat := a.y.val + 2 ^ 255 * (a.x.val % 2)
def encP (a : PF) : List Int := zl (limbsN 8 32 (encN a))
theorem c255 : (2 : Nat) ^ 255 = 57896044618658097711785492504343953926634992332820282019728792003956564819968 := by decide
theorem val_lt (a : FF) : a.val < 57896044618658097711785492504343953926634992332820282019728792003956564819949 := a.isLt
theorem encN_lt (a : PF) : encN a < 2 ^ 256 := by
 unfold encN
 have h := val_lt a.y
 have h2 : a.x.val % 2 < 2 := Nat.mod_lt _ (by decide)
 generalize a.x.val % 2 = o at *
 generalize a.y.val = y at *
 have h3 : (2 : Nat) ^ 256 = 2 ^ 255 * 2 := by decide
 rw [h3, c255]; omega
theorem encN_inj {a b : PF} (h : encN a = encN b) : a.y = b.y /\ a.x.val % 2 = b.x.val % 2 := by
 unfold encN at h
 have h1 := val_lt a.y
 have h2 := val_lt b.y
 have h3 : a.x.val % 2 < 2 := Nat.mod_lt _ (by decide)
 have h4 : b.x.val % 2 < 2 := Nat.mod_lt _ (by decide)
 rw [c255] at h
 generalize a.x.val % 2 = o at *
 generalize b.x.val % 2 = o' at *
 have : a.y.val = b.y.val /\ o = o' := by
  generalize a.y.val = y at *
  generalize b.y.val = y' at *
  omega
 exact ⟨Fin.ext this.1, this.2⟩
theorem sq_eq {x y : FF} (h : x * x = y * y) : x = y \/ x = -y := by
 have : (x - y) * (x + y) = 0 := by grind
 rcases fldFF.cases this with e | e
 ·left; grind
 ·right; grind
theorem neg_val {x y : FF} (h : x = -y) (hp : x.val % 2 = y.val % 2) : x = y := by
 have hs : ph ((x.val + y.val : Nat) : Int) = ph ((0 : Nat) : Int) := by
  rw [Int.natCast_add, ph_add, ph_val, ph_val, h]
  have : ph ((0 : Nat) : Int) = 0 := ph_zero
  rw [this]; grind
 rw [ph_nat] at hs
 have h1 := val_lt x
 have h2 := val_lt y
 apply Fin.ext
 generalize x.val = m at *
 generalize y.val = n at *
 have hs' : (m + n) % 57896044618658097711785492504343953926634992332820282019728792003956564819949 = 0 := hs
 have ho : 57896044618658097711785492504343953926634992332820282019728792003956564819949 % 2 = 1 := by decide
 clear hs h
 generalize 57896044618658097711785492504343953926634992332820282019728792003956564819949 = P at *
 by_cases hlt : m + n < P
 ·rw [Nat.mod_eq_of_lt hlt] at hs'; omega
 ·rw [Nat.mod_eq_sub_mod (by omega), Nat.mod_eq_of_lt (by omega)] at hs'
  omega
theorem pt_eq {a b : PF} (hy : a.y = b.y) (hx : a.x.val % 2 = b.x.val % 2) : a = b := by
 have h1 := a.on
 have h2 := b.on
 unfold OnA at h1 h2
 rw [hy] at h1
 have hk : 1 + dF * (b.y * b.y) ≠ 0 := fun e => by
  have hz := fldFF.nsq iF b.y (by rw [fldFF.sq]; grind)
  rw [hz] at e
  exact fldFF.two (by grind)
 have hm : (1 + dF * (b.y * b.y)) * (a.x * a.x - b.x * b.x) = 0 := by
  generalize a.x = x at *
  generalize b.x = x' at *
  generalize b.y = y at *
  grind
 have hsq : a.x * a.x = b.x * b.x := by
  have := (fldFF.cases hm).resolve_left hk
  grind
 refine Pt.ext' ?_ hy
 rcases sq_eq hsq with e | e
 ·exact e
 ·exact neg_val e hx
theorem encP_inj {a b : PF} (h : encP a = encP b) : a = b := by
 have := limbs_inj (by have := encN_lt a; simpa using this) (by have := encN_lt b; simpa using this) (zl_inj h)
 obtain ⟨h1, h2⟩ := encN_inj this
 exact pt_eq h1 h2
theorem encP_len (a : PF) : (encP a).length = 32 := by unfold encP; rw [zl_len, limbsN_len]
theorem encP_byt (a : PF) : byt (encP a) := zl_byt (limbsN_lt 8 32 _)
theorem Bytes_is {p : T_points_Point} {a : PF} (hp : POk p) (h : Rep4 (p4 p) a) : points_Point_Bytes p = some (encP a) := by
 obtain ⟨hx, hy⟩ := h.x_eq envF
 obtain ⟨v, e, kv, fv⟩ := InvertF hp.z
 unfold points_Point_Bytes
 rw [e, Option.bind_some]
 obtain ⟨x, e, kx, fx⟩ := TimesF hp.x kv; rw [e, Option.bind_some]
 obtain ⟨y, e, ky, fy⟩ := TimesF hp.y kv; rw [e, Option.bind_some, Bytes_some ky, Option.bind_some, Odd_some kx, Option.bind_some]
 have ex : fe x = a.x := by rw [fx, fv]; exact hx
 have ey : fe y = a.y := by rw [fy, fv]; exact hy
 have rx : res x = ((a.x.val : Nat) : Int) := by rw [fe_res, ex]
 have ry : res y = ((a.y.val : Nat) : Int) := by rw [fe_res, ey]
 have hb : bytesP (res y) = zl (limbsN 8 32 a.y.val) := by unfold bytesP; rw [ry, Int.toNat_natCast]
 have hyl := val_lt a.y
 rw [hb, rx]
 unfold encP encN
 by_cases ho : a.x.val % 2 = 1
 ·rw [decide_eq_true (by omega), cond_true, Option.bind_some, ho]
  obtain ⟨s1, s2⟩ := limbsN_set 8 (by decide) 32 (a.y.val + 2 ^ 255 * 1) 255 (by decide)
  have e1 : (a.y.val + 2 ^ 255 * 1) % 2 ^ 255 = a.y.val := by rw [c255]; omega
  have e2 : (a.y.val + 2 ^ 255 * 1) / 2 ^ 255 % 2 = 1 := by rw [c255]; omega
  have e3 : (a.y.val + 2 ^ 255 * 1) % 2 ^ (255 + 1) = a.y.val + 2 ^ 255 * 1 := Nat.mod_eq_of_lt (by
   have h3 : (2 : Nat) ^ (255 + 1) = 2 ^ 255 * 2 := by decide
   rw [h3, c255]; omega)
  rw [e1, e2, e3] at s2
  rw [e1] at s1
  replace s1 : (limbsN 8 32 a.y.val).getD 31 0 < 2 ^ 7 := s1
  replace s2 : (limbsN 8 32 a.y.val).set 31 ((limbsN 8 32 a.y.val).getD 31 0 + 2 ^ 7 * 1) = limbsN 8 32 (a.y.val + 2 ^ 255 * 1) := s2
  have hor : bits .u8 .or (((limbsN 8 32 a.y.val).getD 31 0 : Nat) : Int) 128 = (((limbsN 8 32 a.y.val).getD 31 0 + 2 ^ 7 * 1 : Nat) : Int) := by
   have := bits_or8 (n := (limbsN 8 32 a.y.val).getD 31 0) (m := 1 * 2 ^ 7) (by omega) (by decide)
   rw [or_add s1] at this
   exact this
  rw [zl_getD, hor, zl_set, s2]
 ·have h0 : a.x.val % 2 = 0 := by omega
  rw [decide_eq_false (by omega), cond_false, Option.bind_some, h0, Nat.mul_zero, Nat.add_zero]
theorem andNot128 : ∀ t : Fin 256, bits .u8 .andNot (t.val : Int) 128 = ((t.val % 128 : Nat) : Int) := by decide
theorem and128 : ∀ t : Fin 256, (bits .u8 .and (t.val : Int) 128 == 0) = decide (t.val < 128) := by decide
theorem lt_pow {Y a b : Nat} (h : Y < 2 ^ a) (hab : a ≤ b) : Y < 2 ^ b := Nat.lt_of_lt_of_le h (Nat.pow_le_pow_right (by decide) hab)
theorem lt255 {Y : Nat} (h : Y < 57896044618658097711785492504343953926634992332820282019728792003956564819949) : Y < 2 ^ 255 := by rw [c255]; omega
theorem modlt {Y w n : Nat} (h : Y < 2 ^ 255) (hw : 255 ≤ w * n) : Y % 2 ^ (w * n) = Y := Nat.mod_eq_of_lt (lt_pow h hw)
theorem val26_n {Y : Nat} (n : Nat) (h : Y < 2 ^ 255) (hw : 255 ≤ 26 * n) : val26 (zl (limbsN 26 n Y)) = (Y : Int) := by
 rw [val26_zl, valN_limbs, modlt h hw]
theorem Strict_is {Y : Nat} (h : Y < 57896044618658097711785492504343953926634992332820282019728792003956564819949) : ∃ y, field_Strict (zl (limbsN 8 32 Y)) = some (.inl y) /\ EOk y /\ fe y = ph (Y : Int) := by
 have hm : Y % 2 ^ 255 = Y := Nat.mod_eq_of_lt (by rw [c255]; omega)
 have hR := Read_eq Y
 rw [hm] at hR
 have ok : EOk ⟨zl (limbsN 26 10 Y)⟩ := ⟨zl_lim (limbsN_lt 26 10 Y), by rw [zl_len, limbsN_len]⟩
 have hv : res ⟨zl (limbsN 26 10 Y)⟩ = (Y : Int) := by
  show val26 (zl (limbsN 26 10 Y)) % PP = _
  rw [val26_n 10 (lt255 h) (by decide), Int.emod_eq_of_lt (Int.natCast_nonneg _) (by unfold PP; omega)]
 refine ⟨_, ?_, ok, by unfold fe; rw [hv]⟩
 unfold field_Strict
 rw [hR, Option.bind_some, Bytes_some ok, Option.bind_some, hv]
 have : bytesP ((Y : Nat) : Int) = zl (limbsN 8 32 Y) := by unfold bytesP; rw [Int.toNat_natCast]
 rw [this, cond_ff (by simp)]
theorem Read_is (a : PF) : ∃ r, points_Read (encP a) = some (.inl r) /\ POk r /\ Rep4 (p4 r) a := by
 have hyl := val_lt a.y
 have ho2 : a.x.val % 2 < 2 := Nat.mod_lt _ (by decide)
 obtain ⟨o, hoo⟩ : ∃ o, o = a.x.val % 2 := ⟨_, rfl⟩
 have hX : encN a = a.y.val + 2 ^ 255 * o := by unfold encN; rw [hoo]
 have c248 : (2 : Nat) ^ 248 * 256 = 2 ^ 256 := by decide
 have c248' : (2 : Nat) ^ 248 * 128 = 2 ^ 255 := by decide
 have hXl := encN_lt a
 have c3 : (2 : Nat) ^ 256 = 2 ^ 255 * 2 := by decide
 -- the last byte
 have ht : (limbsN 8 32 (encN a)).getD 31 0 = encN a / 2 ^ 248 := by
  rw [limbsN_get 8 32 _ 31 (by decide)]
  exact Nat.mod_eq_of_lt (Nat.div_lt_of_lt_mul (by rw [c248]; exact hXl))
 have htl : encN a / 2 ^ 248 < 256 := Nat.div_lt_of_lt_mul (by rw [c248]; exact hXl)
 have hYq : a.y.val / 2 ^ 248 < 128 := Nat.div_lt_of_lt_mul (by rw [c248', c255]; omega)
 have htq : encN a / 2 ^ 248 = a.y.val / 2 ^ 248 + 128 * o := by
  rw [hX, show 2 ^ 255 * o = 2 ^ 248 * (128 * o) by rw [← c248', Nat.mul_assoc], Nat.add_mul_div_left _ _ (Nat.two_pow_pos _)]
 have hmod : encN a % 2 ^ 248 = a.y.val % 2 ^ 248 := by
  rw [hX, show 2 ^ 255 * o = 2 ^ 248 * (128 * o) by rw [← c248', Nat.mul_assoc], Nat.add_mul_mod_self_left]
 have hset : ∀ Z, Z < 2 ^ 256 -> (limbsN 8 32 (Z % 2 ^ 248)).set 31 (Z / 2 ^ 248) = limbsN 8 32 Z := fun Z hZ => by
  obtain ⟨s1, s2⟩ := limbsN_setc 8 8 (by decide) (by decide) 32 Z 248 (by decide) (by decide)
  replace s1 : (limbsN 8 32 (Z % 2 ^ 248)).getD 31 0 < 1 := s1
  replace s2 : (limbsN 8 32 (Z % 2 ^ 248)).set 31 ((limbsN 8 32 (Z % 2 ^ 248)).getD 31 0 + 1 * (Z / 2 ^ 248 % 2 ^ 8)) = limbsN 8 32 (Z % 2 ^ 256) := s2
  rw [show (limbsN 8 32 (Z % 2 ^ 248)).getD 31 0 = 0 by omega, Nat.zero_add, Nat.one_mul, Nat.mod_eq_of_lt hZ, Nat.mod_eq_of_lt (a := Z / 2 ^ 248) (Nat.div_lt_of_lt_mul (by rw [show (2 : Nat) ^ 8 = 256 from rfl, c248]; exact hZ))] at s2
  exact s2
 have hset2 : (limbsN 8 32 (encN a)).set 31 (a.y.val / 2 ^ 248) = limbsN 8 32 a.y.val := by
  rw [← hset (encN a) hXl, List.set_set, hmod, hset a.y.val (by rw [c3, c255]; omega)]
 have hb1 : bits .u8 .andNot (((limbsN 8 32 (encN a)).getD 31 0 : Nat) : Int) 128 = ((a.y.val / 2 ^ 248 : Nat) : Int) := by
  rw [ht, andNot128 ⟨_, htl⟩]
  show ((encN a / 2 ^ 248 % 128 : Nat) : Int) = _
  rw [htq]; congr 1; omega
 have hb2 : (bits .u8 .and (((limbsN 8 32 (encN a)).getD 31 0 : Nat) : Int) 128 == 0) = decide (o = 0) := by
  rw [ht, and128 ⟨_, htl⟩]
  show decide (encN a / 2 ^ 248 < 128) = _
  rw [htq]
  congr 1
  apply propext
  omega
 obtain ⟨y, hS, ky, fy⟩ := Strict_is hyl
 rw [ph_val] at fy
 unfold points_Read
 unfold encP
 simp only [zl_getD, hb1, zl_set, hset2, hb2]
 rw [nm_eq, hS, Option.bind_some]
 dsimp only
 obtain ⟨yy, e, k1, f1⟩ := SquareF ky; rw [e, Option.bind_some, Small1, Option.bind_some]
 obtain ⟨u, e, k2, f2⟩ := SubF k1 e1_ok; rw [e, Option.bind_some, Curve_is, Option.bind_some]
 obtain ⟨v, e, k3, f3⟩ := TimesF eD_ok k1; rw [e, Option.bind_some]
 obtain ⟨v1, e, k4, f4⟩ := AddF k3 e1_ok; rw [e, Option.bind_some]
 obtain ⟨v2, e, k5, f5⟩ := InvertF k4; rw [e, Option.bind_some]
 obtain ⟨q, e, k6, f6⟩ := TimesF k2 k5; rw [e, Option.bind_some]
 have hq : a.x * a.x = fe q := by
  rw [f6, f5, f4, f3, f2, f1, fy, fe_e1, eD_fe]
  have hk : dF * (a.y * a.y) + 1 ≠ 0 := fun e => by
   have hz := fldFF.nsq iF a.y (by rw [fldFF.sq]; grind)
   rw [hz] at e
   exact fldFF.two (by grind)
  have hn := nvF_mul _ hk
  have on := a.on
  unfold OnA at on
  generalize nvF (dF * (a.y * a.y) + 1) = w at *
  generalize a.x = x at *
  generalize a.y = y' at *
  have : x * x * (dF * (y' * y') + 1) = y' * y' - 1 := by grind
  rw [← this]
  grind
 obtain ⟨r, b, hr, kr, g1, g2⟩ := Root_some k6
 have hbt := g2 ⟨a.x, hq⟩
 obtain ⟨g3, g4⟩ := g1 hbt
 rw [hr, Option.bind_some, hbt]
 dsimp only
 rw [cond_ff (by rfl)]
 rw [← hq] at g3
 have hrv : res r = ((fe r).val : Int) := fe_res r
 have hrp : (fe r).val % 2 = 0 := by omega
 by_cases h0 : o = 0
 ·rw [decide_eq_true h0]
  have hx : fe r = a.x := by
   rcases sq_eq g3 with e | e
   ·exact e
   ·exact neg_val e (by omega)
  obtain ⟨p, p1, p2, p3⟩ := at_some kr ky
  refine ⟨p, ?_, p2, ?_⟩
  ·rw [cond_ff (by rfl), cond_ff (by rfl), Option.bind_some, p1]; rfl
  ·rw [p3, hx, fy]
   exact Rep4.at_ fldFF a.on
 ·rw [decide_eq_false h0]
  have hx : fe r = -a.x := by
   rcases sq_eq g3 with e | e
   ·exfalso
    rw [e] at hrp
    omega
   ·exact e
  have hnz : res r ≠ 0 := fun e => by
   have : fe r = 0 := by unfold fe; rw [e, ph_zero]
   rw [this] at hx
   have hx0 : a.x = 0 := by generalize a.x = x at *; grind
   rw [hx0] at hoo
   exact h0 hoo
  obtain ⟨s, e, ks, fs⟩ := SubF e0_ok kr
  obtain ⟨p, p1, p2, p3⟩ := at_some ks ky
  refine ⟨p, ?_, p2, ?_⟩
  ·rw [cond_tt (by rfl), Zero_some kr, Option.bind_some, decide_eq_false hnz, cond_ff (by rfl), cond_tt (by rfl), Small0, Option.bind_some, e, Option.bind_some, Option.bind_some, p1]; rfl
  ·rw [p3, fs, fe_e0, hx, fy]
   have : (0 : FF) - -a.x = a.x := by generalize a.x = x; grind
   rw [this]
   exact Rep4.at_ fldFF a.on
end Go.Eng
