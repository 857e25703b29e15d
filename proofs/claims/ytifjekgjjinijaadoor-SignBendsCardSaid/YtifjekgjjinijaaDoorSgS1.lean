/-
  Part of a proof: SgS1.
-/
import Derived.Test.YtifjekgjjinijaaDoorSgV
set_option linter.unusedVariables false
set_option linter.unusedSimpArgs false
set_option linter.unusedVariables false
set_option linter.unusedSimpArgs false
namespace Go.Eng
set_option maxRecDepth 100000
set_option maxHeartbeats 1000000
abbrev LN : Nat := 7237005577332262213973186563042994240857116359379907606001950938285454250989
theorem mask32 {x : Nat} (h : x < 18446744073709551616) : bits .u64 .and (x : Int) 4294967295 = ((x % 4294967296 : Nat) : Int) := by
 have := bits_and64 (n := x) (m := 4294967295) (by omega) (by omega)
 rw [show ((4294967295 : Nat) : Int) = 4294967295 from rfl] at this
 rw [this, show (4294967295 : Nat) = 2 ^ 32 - 1 from rfl, Nat.and_two_pow_sub_one_eq_mod]
theorem two32 : (2 : Nat) ^ 32 = 4294967296 := rfl
theorem fdivn32 (a : Nat) : Int.fdiv (a : Int) (2 ^ 32) = ((a / 4294967296 : Nat) : Int) := fdivn a 32
def lw (x y o : Int) : Int := IntKind.wrap .u64 (IntKind.wrap .u64 (IntKind.wrap .u64 (x + 4294967296) - y) - o)
def lpass : Int -> List Int -> List Int -> Int × List Int
 | o, x :: xs, y :: ys => ((lpass (IntKind.wrap .u64 (1 - Int.fdiv (lw x y o) (2 ^ 32))) xs ys).1, bits .u64 .and (lw x y o) 4294967295 :: (lpass (IntKind.wrap .u64 (1 - Int.fdiv (lw x y o) (2 ^ 32))) xs ys).2)
 | o, _, _ => (o, [])
def modW : List Int := [1559614445, 1477600026, 2734136534, 350157278, 0, 0, 0, 268435456]
theorem less_raw (a0 a1 a2 a3 a4 a5 a6 a7 : Int) : scalar_number_less [a0, a1, a2, a3, a4, a5, a6, a7] = some ((lpass 0 [a0, a1, a2, a3, a4, a5, a6, a7] modW).2, (lpass 0 [a0, a1, a2, a3, a4, a5, a6, a7] modW).1 == 1) := by kernel_rfl
theorem lw_eq {x y o : Nat} (hx : x < 4294967296) (hy : y < 4294967296) (ho : o ≤ 1) : lw x y o = ((x + 4294967296 - y - o : Nat) : Int) := by
 unfold lw
 rw [u64_id (n := (x : Int) + 4294967296) (by omega) (by omega), u64_id (n := (x : Int) + 4294967296 - y) (by omega) (by omega), u64_id (by omega) (by omega)]
 omega
theorem lpass_val : ∀ (m k : List Nat) (o : Nat), m.length = k.length -> (∀ x ∈ m, x < 4294967296) -> (∀ x ∈ k, x < 4294967296) -> o ≤ 1 ->
  ∃ (b : Nat) (r : List Nat), lpass (o : Int) (zl m) (zl k) = ((b : Int), zl r) /\ b ≤ 1 /\ r.length = m.length /\ (∀ x ∈ r, x < 4294967296) /\ valN 32 r + valN 32 k + o = valN 32 m + 2 ^ (32 * m.length) * b
 | [], [], o, _, _, _, h => ⟨o, [], rfl, h, rfl, (fun x hx => by cases hx), by simp [valN]⟩
 | x :: m, y :: k, o, hl, hm, hk, ho => by
  have hx := hm x (List.mem_cons_self ..)
  have hy := hk y (List.mem_cons_self ..)
  have ev := lw_eq hx hy ho
  have hv : x + 4294967296 - y - o < 18446744073709551616 := by omega
  have eo : IntKind.wrap .u64 (1 - Int.fdiv (lw x y o) (2 ^ 32)) = ((1 - (x + 4294967296 - y - o) / 4294967296 : Nat) : Int) := by
   rw [ev, fdivn32, u64_id (by omega) (by omega)]; omega
  obtain ⟨b, r, h1, h2, h3, h4, h5⟩ := lpass_val m k (1 - (x + 4294967296 - y - o) / 4294967296) (by simpa using hl) (fun z hz => hm z (List.mem_cons_of_mem _ hz)) (fun z hz => hk z (List.mem_cons_of_mem _ hz)) (by omega)
  refine ⟨b, (x + 4294967296 - y - o) % 4294967296 :: r, ?_, h2, by simp [h3], ?_, ?_⟩
  ·rw [zl_cons, zl_cons, lpass, eo, h1, ev, mask32 hv]; rfl
  ·intro z hz
   rcases List.mem_cons.1 hz with rfl | hz
   ·exact Nat.mod_lt _ (by decide)
   ·exact h4 z hz
  ·have hp : 2 ^ (32 * (x :: m).length) = 4294967296 * 2 ^ (32 * m.length) := by rw [List.length_cons, Nat.mul_succ, Nat.pow_add, Nat.mul_comm]
   rw [hp, Nat.mul_assoc]
   simp only [valN, two32]
   generalize 2 ^ (32 * m.length) * b = tb at *
   omega
theorem LN_lt : LN < 2 ^ (32 * 8) := by decide
theorem modW_eq : modW = zl (limbsN 32 8 LN) := by decide
theorem l8n {l : List Nat} (h : l.length = 8) : ∃ a0 a1 a2 a3 a4 a5 a6 a7, l = [a0, a1, a2, a3, a4, a5, a6, a7] := by
 match l, h with
 | [a0, a1, a2, a3, a4, a5, a6, a7], _ => exact ⟨a0, a1, a2, a3, a4, a5, a6, a7, rfl⟩
theorem c256' : (2 : Nat) ^ (32 * 8) = 115792089237316195423570985008687907853269984665640564039457584007913129639936 := by decide
theorem limbs_val {w n : Nat} {r : List Nat} (h : r.length = n) (hr : ∀ x ∈ r, x < 2 ^ w) : r = limbsN w n (valN w r) := by rw [← h, limbsN_val w r hr]
theorem less_is {X : Nat} (hX : X < 2 ^ 256) : ∃ d, scalar_number_less (zl (limbsN 32 8 X)) = some (zl (limbsN 32 8 d), decide (X < LN)) /\ (LN ≤ X -> d = X - LN) := by
 obtain ⟨b, r, h1, h2, h3, h4, h5⟩ := lpass_val (limbsN 32 8 X) (limbsN 32 8 LN) 0 (by rw [limbsN_len, limbsN_len]) (limbsN_lt 32 8 X) (limbsN_lt 32 8 LN) (by decide)
 rw [limbsN_len] at h3 h5
 rw [valN_limbs, valN_limbs, Nat.mod_eq_of_lt (a := X) hX, Nat.mod_eq_of_lt (a := LN) LN_lt, c256'] at h5
 have hr := limbs_val (w := 32) h3 h4
 have hlt := valN_lt 32 r h4
 rw [h3, c256'] at hlt
 refine ⟨valN 32 r, ?_, fun hge => ?_⟩
 ·obtain ⟨a0, a1, a2, a3, a4, a5, a6, a7, e⟩ := l8n (limbsN_len 32 8 X)
  have hraw := less_raw a0 a1 a2 a3 a4 a5 a6 a7
  rw [modW_eq] at hraw
  have e' : zl (limbsN 32 8 X) = [(a0 : Int), a1, a2, a3, a4, a5, a6, a7] := by rw [e]; rfl
  rw [← e'] at hraw
  have hb1 : ((b : Int) == 1) = decide (X < LN) := by
   by_cases hlt : X < LN
   ·rw [decide_eq_true hlt, beq_iff_eq]; simp only [LN] at *; omega
   ·rw [decide_eq_false hlt, beq_eq_false_iff_ne]; simp only [LN] at *; omega
  rw [show ((0 : Nat) : Int) = 0 from rfl] at h1
  rw [hraw, h1, ← hr]
  simp only [hb1]
 ·have : b = 0 := by
   have hb := hX
   rw [show (2 : Nat) ^ 256 = 2 ^ (32 * 8) from rfl, c256'] at hb
   simp only [LN] at *; omega
  subst this
  omega
theorem least_raw (b : Bool) (a0 a1 a2 a3 a4 a5 a6 a7 d0 d1 d2 d3 d4 d5 d6 d7 : Int) : scalar_number_least_l1 [d0, d1, d2, d3, d4, d5, d6, d7] b FUEL 0 [a0, a1, a2, a3, a4, a5, a6, a7] = (words_Pick b a0 d0).bind fun c0 => (words_Pick b a1 d1).bind fun c1 => (words_Pick b a2 d2).bind fun c2 => (words_Pick b a3 d3).bind fun c3 => (words_Pick b a4 d4).bind fun c4 => (words_Pick b a5 d5).bind fun c5 => (words_Pick b a6 d6).bind fun c6 => (words_Pick b a7 d7).bind fun c7 => some [c0, c1, c2, c3, c4, c5, c6, c7] := by kernel_rfl
theorem pick_n (b : Bool) {x y : Nat} (hx : x < 4294967296) (hy : y < 4294967296) : words_Pick b (x : Int) (y : Int) = some ((cond b x y : Nat) : Int) := by
 rw [pick_l _ _ (by omega) (by omega)]; cases b <;> rfl
theorem least_pick (b : Bool) {a d : List Nat} (ha : a.length = 8) (hd : d.length = 8) (la : ∀ x ∈ a, x < 4294967296) (ld : ∀ x ∈ d, x < 4294967296) : scalar_number_least_l1 (zl d) b FUEL 0 (zl a) = some (zl (cond b a d)) := by
 obtain ⟨a0, a1, a2, a3, a4, a5, a6, a7, rfl⟩ := l8n ha
 obtain ⟨d0, d1, d2, d3, d4, d5, d6, d7, rfl⟩ := l8n hd
 have h := least_raw b a0 a1 a2 a3 a4 a5 a6 a7 d0 d1 d2 d3 d4 d5 d6 d7
 rw [pick_n b (la a0 (by simp)) (ld d0 (by simp)), pick_n b (la a1 (by simp)) (ld d1 (by simp)), pick_n b (la a2 (by simp)) (ld d2 (by simp)), pick_n b (la a3 (by simp)) (ld d3 (by simp)), pick_n b (la a4 (by simp)) (ld d4 (by simp)), pick_n b (la a5 (by simp)) (ld d5 (by simp)), pick_n b (la a6 (by simp)) (ld d6 (by simp)), pick_n b (la a7 (by simp)) (ld d7 (by simp))] at h
 simp only [Option.bind_some] at h
 refine Eq.trans h ?_
 cases b <;> rfl
theorem least_is {X : Nat} (hX : X < 2 * LN) : scalar_number_least (zl (limbsN 32 8 X)) = some (zl (limbsN 32 8 (X % LN))) := by
 have hX2 : X < 2 ^ 256 := by rw [show (2 : Nat) ^ 256 = 2 ^ (32 * 8) from rfl, c256']; simp only [LN] at hX; omega
 obtain ⟨d, h1, h2⟩ := less_is hX2
 unfold scalar_number_least
 rw [h1, Option.bind_some]
 dsimp only
 rw [least_pick _ (limbsN_len 32 8 X) (limbsN_len 32 8 d) (limbsN_lt 32 8 X) (limbsN_lt 32 8 d), Option.bind_some]
 by_cases hlt : X < LN
 ·rw [decide_eq_true hlt, cond_true, Nat.mod_eq_of_lt hlt]
 ·rw [decide_eq_false hlt, cond_false, h2 (by omega), Nat.mod_eq_sub_mod (by omega), Nat.mod_eq_of_lt (by omega)]
def gpass : Int -> List Int -> List Int
 | _, [] => []
 | c, x :: xs => bits .u64 .and (bits .u64 .or (IntKind.wrap .u64 (x * 2 ^ 1)) c) 4294967295 :: gpass (Int.fdiv (bits .u64 .or (IntKind.wrap .u64 (x * 2 ^ 1)) c) (2 ^ 32)) xs
theorem grown_raw (c a0 a1 a2 a3 a4 a5 a6 a7 : Int) : scalar_number_grown_l1 FUEL c 0 [a0, a1, a2, a3, a4, a5, a6, a7] = some (gpass c [a0, a1, a2, a3, a4, a5, a6, a7]) := by kernel_rfl
theorem gpass_val : ∀ (m : List Nat) (c : Nat), (∀ x ∈ m, x < 4294967296) -> c ≤ 1 -> gpass (c : Int) (zl m) = zl (limbsN 32 m.length (2 * valN 32 m + c))
 | [], _, _, _ => rfl
 | x :: m, c, hm, hc => by
  have hx := hm x (List.mem_cons_self ..)
  have e : bits .u64 .or (IntKind.wrap .u64 ((x : Int) * 2 ^ 1)) (c : Int) = ((2 * x + c : Nat) : Int) := by
   rw [muln, u64n, Nat.mod_eq_of_lt (by omega), bits_or64 (by omega) (by omega), Nat.or_comm, or_add (by simp; omega)]
   congr 1; omega
  have ih := gpass_val m ((2 * x + c) / 4294967296) (fun z hz => hm z (List.mem_cons_of_mem _ hz)) (by omega)
  rw [zl_cons, gpass, e, fdivn32, ih, mask32 (by omega), List.length_cons, limbsN, zl_cons, valN, two32]
  have h1 : (2 * (x + 4294967296 * valN 32 m) + c) % 4294967296 = (2 * x + c) % 4294967296 := by omega
  have h2 : (2 * (x + 4294967296 * valN 32 m) + c) / 4294967296 = 2 * valN 32 m + (2 * x + c) / 4294967296 := by omega
  rw [h1, h2]
theorem grown_is {X b : Nat} (hX : X < LN) (hb : b ≤ 1) : scalar_number_grown (zl (limbsN 32 8 X)) (b : Int) = some (zl (limbsN 32 8 ((2 * X + b) % LN))) := by
 have hg := gpass_val (limbsN 32 8 X) b (limbsN_lt 32 8 X) hb
 rw [limbsN_len, valN_limbs, Nat.mod_eq_of_lt (Nat.lt_trans hX LN_lt)] at hg
 obtain ⟨a0, a1, a2, a3, a4, a5, a6, a7, e⟩ := l8n (limbsN_len 32 8 X)
 have hraw := grown_raw b a0 a1 a2 a3 a4 a5 a6 a7
 have e' : zl (limbsN 32 8 X) = [(a0 : Int), a1, a2, a3, a4, a5, a6, a7] := by rw [e]; rfl
 rw [← e', hg] at hraw
 unfold scalar_number_grown
 rw [hraw, Option.bind_some, least_is (by omega)]; rfl
end Go.Eng
