/-
  Part of a proof: KemP7.
-/
import Derived.Test.YtmgnanajcnnlgaaDoorKemP6
set_option linter.unusedVariables false
set_option linter.unusedSimpArgs false
namespace Go.Eng
set_option maxRecDepth 100000
set_option maxHeartbeats 4000000
theorem val26_zl (m : List Nat) : val26 (zl m) = (valN 26 m : Int) := by
 induction m with
 | nil => rfl
 | cons x xs ih => rw [zl_cons, val26, ih, valN]; rfl
abbrev P255 : Int := 57896044618658097711785492504343953926634992332820282019728792003956564819968
theorem fold_some {l : List Int} (h : Lim 67108864 l) (hn : l.length = 10) : ∃ r, field_Elem_fold_2 ⟨l⟩ = some ⟨r⟩ /\ Lim 67108864 r /\ r.length = 10 /\ val26 r = val26 l % P255 + 19 * (val26 l / P255) := by
 obtain ⟨a0, a1, a2, a3, a4, a5, a6, a7, a8, a9, rfl⟩ := list10 hn
 have h' := h
 simp only [Lim] at h'
 obtain ⟨h0, h1, h2, h3, h4, h5, h6, h7, h8, h9, _⟩ := h'
 have e1 : bits .u64 .and a9 2097151 = a9 % 2097152 := mask21 (by omega) (by omega)
 have e2 : IntKind.u64.wrap (19 * (a9 / 2097152)) = 19 * (a9 / 2097152) := u64_id (by omega) (by omega)
 have e3 : IntKind.u64.wrap (a0 + 19 * (a9 / 2097152)) = a0 + 19 * (a9 / 2097152) := u64_id (by omega) (by omega)
 have hv : val26 [a0, a1, a2, a3, a4, a5, a6, a7, a8, a9] % P255 + 19 * (val26 [a0, a1, a2, a3, a4, a5, a6, a7, a8, a9] / P255) = val26 [a0 + 19 * (a9 / 2097152), a1, a2, a3, a4, a5, a6, a7, a8, a9 % 2097152] := by
  simp only [val26, P255]; omega
 have hl : Lim 9223372036854775808 [a0 + 19 * (a9 / 2097152), a1, a2, a3, a4, a5, a6, a7, a8, a9 % 2097152] := by
  simp only [Lim]; refine ⟨by omega, by omega, by omega, by omega, by omega, by omega, by omega, by omega, by omega, by omega, trivial⟩
 obtain ⟨w1, w2, w3⟩ := wpass0_val _ (by simp) hl
 refine ⟨wpass0 [a0 + 19 * (a9 / 2097152), a1, a2, a3, a4, a5, a6, a7, a8, a9 % 2097152], ?_, w2.lim ?_, w3, by rw [hv, w1]⟩
 ·unfold field_Elem_fold_2
  simp only [nm_eq, List.getD_cons_zero, List.getD_cons_succ, List.set_cons_zero, List.set_cons_succ, e1, fdiv21, e2, e3, fold_l1, Option.bind_some]
 ·rw [w3, w1]
  simp only [val26]
  show _ < (67108864 : Int) ^ 10
  rw [pow260]
  omega
theorem limbs26 {l : List Int} (h : Lim 67108864 l) (hn : l.length = 10) : l = zl (limbsN 26 10 (val26 l).toNat) := by
 obtain ⟨m, rfl, h1, h2⟩ := lim_zl (n := 67108864) h
 rw [val26_zl, Int.toNat_natCast, ← hn, ← h1, limbsN_val 26 m (by simpa using h2)]
theorem least_some {a : T_field_Elem} (ha : EOk a) : field_Elem_least a = some ⟨zl (limbsN 26 10 (res a).toNat)⟩ := by
 obtain ⟨a⟩ := a; obtain ⟨ha, la⟩ := ha
 simp only at ha la
 obtain ⟨c1, c2, c3⟩ := carried_val (ha.mono (by decide)) la
 obtain ⟨r1, f1, p1, q1, v1⟩ := fold_some c2 c3
 obtain ⟨r2, f2, p2, q2, v2⟩ := fold_some p1 q1
 have n0 := val26_nonneg c2
 have n0' := val26_lt c2
 rw [c3, pow260] at n0'
 have n1 : val26 r2 < P255 := by rw [v2, v1]; simp only [P255]; omega
 have n1' : 0 ≤ val26 r2 := val26_nonneg p2
 have n2 : val26 r2 % PP = val26 a % PP := by rw [← c1, v2, v1]; simp only [P255]; unfold PP; omega
 have hres : res ⟨a⟩ = val26 r2 % PP := n2.symm
 unfold field_Elem_least
 rw [carry_eq la, Option.bind_some, f1, Option.bind_some, f2, Option.bind_some]
 obtain ⟨b0, b1, b2, b3, b4, b5, b6, b7, b8, b9, rfl⟩ := list10 q2
 have p2' := p2
 simp only [Lim] at p2'
 obtain ⟨h0, h1, h2, h3, h4, h5, h6, h7, h8, h9, _⟩ := p2'
 have e3 : IntKind.u64.wrap (b0 + 19) = b0 + 19 := u64_id (by omega) (by omega)
 simp only [nm_eq, List.getD_cons_zero, List.set_cons_zero, e3, least_l1, Option.bind_some]
 have hl : Lim 9223372036854775808 [b0 + 19, b1, b2, b3, b4, b5, b6, b7, b8, b9] := by
  simp only [Lim]; refine ⟨by omega, by omega, by omega, by omega, by omega, by omega, by omega, by omega, by omega, by omega, trivial⟩
 obtain ⟨w1, w2, w3⟩ := wpass0_val _ (by simp) hl
 have hw : val26 [b0 + 19, b1, b2, b3, b4, b5, b6, b7, b8, b9] = val26 [b0, b1, b2, b3, b4, b5, b6, b7, b8, b9] + 19 := by simp only [val26]; omega
 generalize hz : [b0, b1, b2, b3, b4, b5, b6, b7, b8, b9] = z at *
 generalize wpass0 [b0 + 19, b1, b2, b3, b4, b5, b6, b7, b8, b9] = y at *
 have y1 : val26 y = val26 z + 19 := by rw [w1, hw]
 have y2 : Lim 67108864 y := w2.lim (by rw [w3]; show _ < (67108864 : Int) ^ 10; rw [pow260, y1]; simp only [P255] at n1; omega)
 obtain ⟨d0, d1, d2, d3, d4, d5, d6, d7, d8, d9, rfl⟩ := list10 w3
 have y2' := y2
 simp only [Lim] at y2'
 obtain ⟨k0, k1, k2, k3, k4, k5, k6, k7, k8, k9, _⟩ := y2'
 have e1 : bits .u64 .and d9 2097151 = d9 % 2097152 := mask21 (by omega) (by omega)
 simp only [List.getD_cons_zero, List.getD_cons_succ, List.set_cons_zero, List.set_cons_succ, e1, fdiv21]
 have o1 : EOk ⟨[d0, d1, d2, d3, d4, d5, d6, d7, d8, d9 % 2097152]⟩ := ⟨by simp only [Lim]; refine ⟨k0, k1, k2, k3, k4, k5, k6, k7, k8, ⟨by omega, by omega⟩, trivial⟩, rfl⟩
 have o2 : EOk ⟨z⟩ := ⟨p2, q2⟩
 rw [Pick_some _ o1 o2, Option.bind_some]
 congr 1
 have hd : val26 [d0, d1, d2, d3, d4, d5, d6, d7, d8, d9 % 2097152] = (val26 z + 19) % P255 /\ d9 / 2097152 = (val26 z + 19) / P255 := by
  rw [← y1]; simp only [val26, P255]; omega
 by_cases hg : val26 z < PP
 ·have : d9 / 2097152 = 0 := by rw [hd.2]; simp only [P255]; unfold PP at hg; omega
  rw [this]
  show (⟨z⟩ : T_field_Elem) = _
  rw [hres, Int.emod_eq_of_lt n1' hg]
  congr 1
  exact limbs26 p2 q2
 ·have : d9 / 2097152 = 1 := by rw [hd.2]; simp only [P255] at n1 ⊢; unfold PP at hg; omega
  rw [this]
  show (⟨[d0, d1, d2, d3, d4, d5, d6, d7, d8, d9 % 2097152]⟩ : T_field_Elem) = _
  rw [hres]
  congr 1
  refine (limbs26 (l := [d0, d1, d2, d3, d4, d5, d6, d7, d8, d9 % 2097152]) o1.lim o1.len).trans ?_
  rw [hd.1]
  congr 3
  simp only [P255] at n1 ⊢; unfold PP at hg ⊢; omega
theorem Bytes_l1 (X : Nat) (hX : X < 2 ^ 255) : ∀ (n i : Nat), i ≤ 255 -> 255 < n + i -> field_Elem_Bytes_l1 ⟨zl (limbsN 26 10 X)⟩ n (i : Int) (zl (limbsN 8 32 (X % 2 ^ i))) = some (zl (limbsN 8 32 X))
 | 0, i, h, h' => by omega
 | n + 1, i, h, h' => by
  rw [field_Elem_Bytes_l1.eq_2]
  by_cases hi : i < 255
  ·rw [cond_tt (by simp; omega)]
   have e1 : Int.tdiv (i : Int) 26 = ((i / 26 : Nat) : Int) := rfl
   have e2 : Int.tdiv (i : Int) 8 = ((i / 8 : Nat) : Int) := rfl
   have e3 : Int.tmod (i : Int) 8 = ((i % 8 : Nat) : Int) := rfl
   have e4 : Int.tmod (i : Int) 26 = ((i % 26 : Nat) : Int) := rfl
   have m1 : min (i % 8) (IntKind.bits .u8) = i % 8 := by show min _ 8 = _; omega
   have m2 : min (i % 26) (IntKind.bits .u64) = i % 26 := by show min _ 64 = _; omega
   have hb : (limbsN 26 10 X).getD (i / 26) 0 < 67108864 := getD_lt (limbsN_lt 26 10 X) (by decide) _
   have hb' : (limbsN 26 10 X).getD (i / 26) 0 / 2 ^ (i % 26) < 18446744073709551616 := Nat.lt_trans (Nat.lt_of_le_of_lt (Nat.div_le_self _ _) hb) (by decide)
   have hbit := limbsN_bit 26 (by decide) 10 X i (by omega)
   obtain ⟨s1, s2⟩ := limbsN_set 8 (by decide) 32 X i (by omega)
   have p1 : (2 : Nat) ^ (i % 8) ≤ 2 ^ 7 := Nat.pow_le_pow_right (by decide) (by omega)
   have hlt : (X / 2 ^ i % 2) * 2 ^ (i % 8) < 256 := by
    have : (X / 2 ^ i % 2) * 2 ^ (i % 8) ≤ 1 * 2 ^ 7 := Nat.mul_le_mul (by omega) p1
    omega
   simp only [nm_eq, e1, e2, e3, e4, i64n (n := i / 26) (by omega), i64n (n := i / 8) (by omega), Int.toNat_natCast, m1, m2, zl_getD, fdivn, and1_64 hb', hbit]
   rw [if_pos (by omega), if_pos (by omega), if_pos (by omega), if_pos (by omega), if_pos (by omega)]
   rw [u8n, Nat.mod_eq_of_lt (a := X / 2 ^ i % 2) (by omega), muln, u8n, Nat.mod_eq_of_lt (a := X / 2 ^ i % 2 * 2 ^ (i % 8)) (by omega)]
   rw [bits_or8 (by have := Nat.lt_of_lt_of_le s1 p1; omega) (by omega), or_add s1, zl_set, s2]
   rw [show (i : Int) + 1 = ((i + 1 : Nat) : Int) from rfl, i64n (by omega)]
   exact Bytes_l1 X hX n (i + 1) (by omega) (by omega)
  ·have : i = 255 := by omega
   subst this
   rw [cond_ff (by decide), Nat.mod_eq_of_lt hX]
theorem res_range (a : T_field_Elem) : 0 ≤ res a /\ res a < PP := ⟨Int.emod_nonneg _ (by decide), Int.emod_lt_of_pos _ (by decide)⟩
def bytesP (x : Int) : List Int := zl (limbsN 8 32 x.toNat)
theorem Bytes_some {a : T_field_Elem} (ha : EOk a) : field_Elem_Bytes a = some (bytesP (res a)) := by
 obtain ⟨r0, r1⟩ := res_range a
 have hX : (res a).toNat < 2 ^ 255 := by
  have : (2 : Nat) ^ 255 = 57896044618658097711785492504343953926634992332820282019728792003956564819968 := by decide
  rw [this]; unfold PP at r1; omega
 have h := Bytes_l1 (res a).toNat hX FUEL 0 (by omega) (by show 255 < 18446744073709551616 + 0; omega)
 rw [Nat.pow_zero, Nat.mod_one, limbs_zero, zl_rep] at h
 unfold field_Elem_Bytes
 rw [least_some ha, Option.bind_some]
 rw [show (0 : Int) = ((0 : Nat) : Int) from rfl, h]; rfl
end Go.Eng
