/-
  Part of a proof: KemR2.
-/
import Derived.Test.YtbccddolgoepjaaDoorKemR1
set_option linter.unusedVariables false
set_option linter.unusedSimpArgs false
namespace Go.Eng
set_option maxRecDepth 100000
set_option maxHeartbeats 4000000
def numP (x : Int) : List Int := zl (limbsN 32 8 x.toNat)
abbrev P256 : Int := 115792089237316195423570985008687907853269984665640564039457584007913129639936
theorem lim_append {n : Int} : ∀ {a b : List Int}, Lim n a -> Lim n b -> Lim n (a ++ b)
 | [], _, _, h => h
 | _ :: _, _, ⟨h1, h2⟩, h => ⟨h1, lim_append h2 h⟩
theorem limbs32 {l : List Int} (h : Lim 4294967296 l) (hn : l.length = 8) : l = numP (val32 l) := by
 obtain ⟨m, rfl, h1, h2⟩ := lim_zl (n := 4294967296) h
 unfold numP
 rw [val32_zl, Int.toNat_natCast, ← hn, ← h1, limbsN_val 32 m (by simpa using h2)]
theorem numP_len (x : Int) : (numP x).length = 8 := by rw [numP, zl_len, limbsN_len]
theorem numP_lim (x : Int) : Lim 4294967296 (numP x) := zl_lim (n := 4294967296) (limbsN_lt 32 8 _)
theorem numP_val {x : Int} (h : 0 ≤ x) (h' : x < P256) : val32 (numP x) = x := by
 rw [numP, val32_zl, valN_limbs]
 have e : (2 : Nat) ^ (32 * 8) = 115792089237316195423570985008687907853269984665640564039457584007913129639936 := by decide
 rw [e, Nat.mod_eq_of_lt (by simp only [P256] at h'; omega)]
 omega
theorem P_eq : fr09_P = some (numP PP) := by kernel_rfl
theorem minus_some {a b : Int} (ha : 0 ≤ a) (ha' : a < P256) (hb : 0 ≤ b) (hab : b ≤ a) : fr09_minus (numP a) (numP b) = some (numP (a - b)) := by
 obtain ⟨c, c0, c1, h1, h2, h3⟩ := mpass_val (numP a) (numP b) 0 (by rw [numP_len, numP_len]) (numP_lim a) (numP_lim b) (by decide) (by decide)
 have h4 := val32_lt h2
 have h5 := val32_nonneg h2
 rw [numP_len] at h1 h3
 rw [h3] at h4
 rw [pow8] at h1 h4
 rw [numP_val ha ha', numP_val hb (by omega)] at h1
 have hc : val32 (mpass 0 (numP a) (numP b)) = a - b := by simp only [P256] at ha'; omega
 have h6 := limbs32 h2 h3
 rw [hc] at h6
 rw [← h6]
 obtain ⟨a0, a1, a2, a3, a4, a5, a6, a7, e1⟩ := list8 (numP_len a)
 obtain ⟨b0, b1, b2, b3, b4, b5, b6, b7, e2⟩ := list8 (numP_len b)
 rw [e1, e2]
 exact ref_minus ..
theorem less_some {a b : Int} (ha : 0 ≤ a) (ha' : a < P256) (hb : 0 ≤ b) (hb' : b < P256) : fr09_less (numP a) (numP b) = some (decide (a < b)) := by
 have va := numP_val ha ha'
 have vb := numP_val hb hb'
 have la := numP_lim a
 have lb := numP_lim b
 obtain ⟨a0, a1, a2, a3, a4, a5, a6, a7, e1⟩ := list8 (numP_len a)
 obtain ⟨b0, b1, b2, b3, b4, b5, b6, b7, e2⟩ := list8 (numP_len b)
 rw [e1] at la va
 rw [e2] at lb vb
 have la' : Lim 4294967296 [a7, a6, a5, a4, a3, a2, a1, a0] := by
  simp only [Lim] at la ⊢
  obtain ⟨h0, h1, h2, h3, h4, h5, h6, h7, _⟩ := la
  exact ⟨h7, h6, h5, h4, h3, h2, h1, h0, trivial⟩
 have lb' : Lim 4294967296 [b7, b6, b5, b4, b3, b2, b1, b0] := by
  simp only [Lim] at lb ⊢
  obtain ⟨h0, h1, h2, h3, h4, h5, h6, h7, _⟩ := lb
  exact ⟨h7, h6, h5, h4, h3, h2, h1, h0, trivial⟩
 have hv := lessR_val [a7, a6, a5, a4, a3, a2, a1, a0] [b7, b6, b5, b4, b3, b2, b1, b0] rfl la' lb'
 rw [e1, e2, ref_less, hv]
 have ea : valBE [a7, a6, a5, a4, a3, a2, a1, a0] = a := by rw [← va]; simp only [valBE, val32, List.length_cons, List.length_nil]; omega
 have eb : valBE [b7, b6, b5, b4, b3, b2, b1, b0] = b := by rw [← vb]; simp only [valBE, val32, List.length_cons, List.length_nil]; omega
 rw [ea, eb]
theorem Least_l1 (n : Nat) : ∀ (x : Int), 0 ≤ x -> x < P256 -> x < n * PP -> fr09_Least_l1 n (numP x) = some (numP (x % PP)) := by
 induction n with
 | zero => intro x h _ h'; rw [show ((0 : Nat) : Int) = 0 from rfl, Int.zero_mul] at h'; omega
 | succ n ih =>
  intro x h h' h''
  rw [fr09_Least_l1.eq_2, P_eq, Option.bind_some, less_some h h' (by decide) (by decide), Option.bind_some]
  by_cases hx : x < PP
  ·rw [cond_ff (by simpa using hx), Int.emod_eq_of_lt h hx]
  ·have h1 : x - PP < P256 := by unfold PP; simp only [P256] at *; omega
   have h2 : x - PP < n * PP := by rw [Int.natCast_add, Int.add_mul] at h''; omega
   rw [cond_tt (by simpa using hx), Option.bind_some, minus_some h h' (by decide) (by omega), Option.bind_some]
   rw [ih (x - PP) (by omega) h1 h2]
   rw [Int.sub_emod, Int.emod_self, Int.sub_zero, Int.emod_emod]
theorem Least_some {x : Int} (h : 0 ≤ x) (h' : x < P256) : fr09_Least (numP x) = some (numP (x % PP)) := by
 unfold fr09_Least
 rw [Least_l1 FUEL x h h' (by unfold FUEL PP; simp only [P256] at h'; omega)]; rfl
theorem fold_l2 : ∀ (n : Nat) (x o : Int), 0 ≤ x -> x < P256 -> 0 ≤ o -> o ≤ 38 -> (o = 0 /\ 0 < n) \/ (o = 1 /\ x < 2000 /\ 1 < n) \/ 2 < n -> fr09_fold_l2 n o (numP x) = some (0, numP ((x + 38 * o) % P256 + (if (x + 38 * o) < P256 then 0 else 38)))
 | 0, x, o, _, _, _, _, h => by omega
 | n + 1, x, o, h1, h2, h3, h4, h5 => by
  rw [fr09_fold_l2.eq_2]
  by_cases ho : o > 0
  ·rw [cond_tt (by simpa using ho), u64_id (by omega) (by omega)]
   obtain ⟨g1, g2, g3, g4⟩ := gpass_val (numP x) (o * 38) (numP_lim x) (by omega) (by omega)
   have g5 := val32_lt g2
   have g6 := val32_nonneg g2
   rw [numP_len] at g1 g3
   rw [g3] at g5
   rw [pow8] at g1 g5
   rw [numP_val h1 h2] at g1
   have g7 := limbs32 g2 g3
   have e : fr09_fold_l3 FUEL (o * 38) 0 (numP x) = some (gpass (o * 38) (numP x)) := by
    obtain ⟨a0, a1, a2, a3, a4, a5, a6, a7, e1⟩ := list8 (numP_len x)
    rw [e1]; exact ref_fold_l3 ..
   rw [e, Option.bind_some]
   generalize gpass (o * 38) (numP x) = r at *
   obtain ⟨o', l⟩ := r
   simp only at g1 g2 g3 g4 g5 g6 g7 ⊢
   rw [g7]
   by_cases hc : x + 38 * o < P256
   ·have z : o' = 0 := by simp only [P256] at hc; omega
    subst z
    have hv : val32 l = x + 38 * o := by omega
    rw [fold_l2 n (val32 l) 0 g6 (by omega) (by decide) (by decide) (Or.inl ⟨rfl, by omega⟩)]
    rw [hv, Int.mul_zero, Int.add_zero]
   ·have z : o' = 1 := by simp only [P256] at hc h2; omega
    subst z
    have hv : val32 l = x + 38 * o - P256 := by simp only [P256]; omega
    have hv2 : val32 l + 38 * 1 < P256 := by simp only [P256] at *; omega
    have hv3 : (x + 38 * o) % P256 = val32 l := by rw [hv]; simp only [P256] at *; omega
    have h6 : (1 = (0 : Int) /\ 0 < n) \/ ((1 : Int) = 1 /\ val32 l < 2000 /\ 1 < n) \/ 2 < n := by
     have : val32 l < 2000 := by rw [hv]; simp only [P256] at *; omega
     have : ¬ (o = 1 /\ x < 2000) := by simp only [P256] at hc; omega
     omega
    rw [fold_l2 n (val32 l) 1 g6 (by omega) (by decide) (by decide) h6]
    rw [if_neg hc, if_pos hv2, hv3, Int.emod_eq_of_lt (by omega) hv2, Int.mul_one, Int.add_zero]
  ·have z : o = 0 := by omega
   subst z
   rw [cond_ff (by simp)]
   rw [Int.mul_zero, Int.add_zero, if_pos h2, Int.emod_eq_of_lt h1 h2, Int.add_zero]
theorem fold_ref {lo hi : List Int} (hl : lo.length = 8) (hh : hi.length = 8) (ll : Lim 4294967296 lo) (lh : Lim 4294967296 hi) : fr09_fold (lo ++ hi) = some (numP ((val32 lo + P256 * val32 hi) % PP)) := by
 obtain ⟨f1, f2, f3, f4, f5⟩ := fpass_val lo hi 0 (hl.trans hh.symm) ll lh (by decide) (by decide)
 have e : fr09_fold_l1 (lo ++ hi) FUEL 0 0 (List.replicate 8 0) = some (fpass 0 lo hi) := by
  obtain ⟨a0, a1, a2, a3, a4, a5, a6, a7, rfl⟩ := list8 hl
  obtain ⟨b0, b1, b2, b3, b4, b5, b6, b7, rfl⟩ := list8 hh
  exact ref_fold_l1 ..
 unfold fr09_fold
 rw [e, Option.bind_some]
 generalize fpass 0 lo hi = r at *
 obtain ⟨o, l⟩ := r
 simp only at f1 f2 f3 f4 f5 ⊢
 have f6 := val32_lt f2
 have f7 := val32_nonneg f2
 rw [hl] at f1 f3
 rw [f3] at f6
 rw [pow8] at f1 f6
 have f8 := limbs32 f2 f3
 rw [f8, fold_l2 FUEL (val32 l) o f7 (by simp only [P256]; omega) f4 f5 (Or.inr (Or.inr (by unfold FUEL; omega))), Option.bind_some]
 simp only
 have hr : 0 ≤ (val32 l + 38 * o) % P256 + (if (val32 l + 38 * o) < P256 then 0 else 38) /\ (val32 l + 38 * o) % P256 + (if (val32 l + 38 * o) < P256 then 0 else 38) < P256 /\ ((val32 l + 38 * o) % P256 + (if (val32 l + 38 * o) < P256 then 0 else 38)) % PP = (val32 lo + P256 * val32 hi) % PP := by
  split
  ·rename_i hc
   rw [Int.emod_eq_of_lt (by omega) hc, Int.add_zero]
   refine ⟨by omega, hc, ?_⟩
   rw [show val32 lo + P256 * val32 hi = (val32 l + 38 * o) + PP * (2 * (o + val32 hi)) by unfold PP; simp only [P256]; omega, Int.add_mul_emod_self_left]
  ·rename_i hc
   have hm : (val32 l + 38 * o) % P256 = val32 l + 38 * o - P256 := by simp only [P256] at *; omega
   rw [hm]
   refine ⟨by omega, by simp only [P256] at *; omega, ?_⟩
   rw [show val32 lo + P256 * val32 hi = (val32 l + 38 * o - P256 + 38) + PP * (2 * (o + val32 hi) + 2) by unfold PP; simp only [P256]; omega, Int.add_mul_emod_self_left]
 rw [Least_some hr.1 hr.2.1, hr.2.2]; rfl
theorem Add_ref {x y : Int} (hx : 0 ≤ x) (hx' : x < P256) (hy : 0 ≤ y) (hy' : y < P256) : fr09_Add (numP x) (numP y) = some (numP (addP x y)) := by
 obtain ⟨f1, f2, f3, f4, f5⟩ := apass_val (numP x) (numP y) 0 (by rw [numP_len, numP_len]) (numP_lim x) (numP_lim y) (by decide) (by decide)
 have e : fr09_Add_l1 (numP x) (numP y) FUEL 0 0 (List.replicate 16 0) = some ((apass 0 (numP x) (numP y)).1, (apass 0 (numP x) (numP y)).2 ++ List.replicate 8 0) := by
  obtain ⟨a0, a1, a2, a3, a4, a5, a6, a7, e1⟩ := list8 (numP_len x)
  obtain ⟨b0, b1, b2, b3, b4, b5, b6, b7, e2⟩ := list8 (numP_len y)
  rw [e1, e2]
  exact ref_add_l1 ..
 unfold fr09_Add
 rw [e, Option.bind_some]
 rw [numP_val hx hx', numP_val hy hy', numP_len] at f1
 rw [numP_len] at f3
 generalize apass 0 (numP x) (numP y) = r at *
 obtain ⟨o, l⟩ := r
 simp only at f1 f2 f3 f4 f5 ⊢
 rw [pow8] at f1
 rw [u32_id f4 (by omega)]
 have hset : (l ++ List.replicate 8 0).set 8 o = l ++ ([o, 0, 0, 0, 0, 0, 0, 0] : List Int) := by
  obtain ⟨a0, a1, a2, a3, a4, a5, a6, a7, rfl⟩ := list8 f3
  rfl
 rw [hset, fold_ref f3 rfl f2 (by simp only [Lim]; refine ⟨⟨f4, by omega⟩, ?_⟩; simp), Option.bind_some]
 congr 2
 show _ = (x + y) % PP
 congr 1
 simp only [val32, P256]; omega
theorem Sub_ref {x y : Int} (hx : 0 ≤ x) (hx' : x < P256) (hy : 0 ≤ y) (hy' : y < P256) : fr09_Sub (numP x) (numP y) = some (numP (subP x y)) := by
 have h1 := Int.emod_nonneg y (show PP ≠ 0 by decide)
 have h2 := Int.emod_lt_of_pos y (show 0 < PP by decide)
 unfold fr09_Sub
 rw [P_eq, Option.bind_some, Least_some hy hy', Option.bind_some, minus_some (by decide) (by decide) h1 (by omega), Option.bind_some, Add_ref hx hx' (by omega) (by unfold PP at *; simp only [P256]; omega)]
 show some (numP ((x + (PP - y % PP)) % PP)) = some (numP ((x - y) % PP))
 congr 2
 rw [show x + (PP - y % PP) = (x - y % PP) + PP by omega, Int.add_emod_right, Int.sub_emod_emod]
theorem Times_ref {x y : Int} (hx : 0 ≤ x) (hx' : x < P256) (hy : 0 ≤ y) (hy' : y < P256) : fr09_Times (numP x) (numP y) = some (numP (mulP x y)) := by
 obtain ⟨i1, i2, i3⟩ := rows32_val (numP y) (numP_lim y) (numP x) (List.replicate 8 0) (by rw [numP_len]; rfl) (numP_lim x) (lim_of (by simp))
 have e : fr09_Times_l1 (numP x) (numP y) FUEL 0 (List.replicate 16 0) = some (rows32 (numP y) (numP x) (List.replicate 16 0)) := by
  obtain ⟨a0, a1, a2, a3, a4, a5, a6, a7, e1⟩ := list8 (numP_len x)
  obtain ⟨b0, b1, b2, b3, b4, b5, b6, b7, e2⟩ := list8 (numP_len y)
  rw [e1, e2]
  exact ref_times_l1 ..
 unfold fr09_Times
 rw [e, Option.bind_some]
 rw [numP_len, show List.replicate 8 (0 : Int) ++ List.replicate 8 0 = List.replicate 16 0 from rfl, numP_val hx hx', numP_val hy hy'] at i1
 rw [numP_len, show List.replicate 8 (0 : Int) ++ List.replicate 8 0 = List.replicate 16 0 from rfl] at i2 i3
 rw [numP_len] at i3
 rw [show val32 (List.replicate 8 0) = 0 from by decide, Int.zero_add] at i1
 generalize rows32 (numP y) (numP x) (List.replicate 16 0) = w at *
 have hw : w = w.take 8 ++ w.drop 8 := (List.take_append_drop 8 w).symm
 have t1 : (w.take 8).length = 8 := by rw [List.length_take, i3]; rfl
 have t2 : (w.drop 8).length = 8 := by rw [List.length_drop, i3]
 rw [hw] at i2 i1
 rw [val32_append, t1, pow8] at i1
 rw [hw, fold_ref t1 t2 i2.append.1 i2.append.2, Option.bind_some]
 show some (numP (_ % PP)) = some (numP (x * y % PP))
 rw [← i1]
end Go.Eng
