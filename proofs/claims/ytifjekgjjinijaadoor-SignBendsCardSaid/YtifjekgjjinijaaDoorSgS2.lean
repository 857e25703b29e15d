/-
  Part of a proof: SgS2.
-/
import Derived.Test.YtifjekgjjinijaaDoorSgS1
set_option linter.unusedVariables false
set_option linter.unusedSimpArgs false
set_option linter.unusedVariables false
set_option linter.unusedSimpArgs false
namespace Go.Eng
set_option maxRecDepth 100000
set_option maxHeartbeats 1000000
theorem LN_pos : 0 < LN := by decide
theorem mod_l1_is (L V : Nat) (hL : L ≤ 64) : ∀ (i n : Nat), i < n -> i ≤ 8 * L -> scalar_mod_l1 (zl (limbsN 8 L V)) n ((i : Int) - 1) (zl (limbsN 32 8 (V / 2 ^ i % LN))) = some (zl (limbsN 32 8 (V % LN)))
 | i, 0, h, _ => absurd h (Nat.not_lt_zero _)
 | 0, n + 1, _, _ => by
  rw [scalar_mod_l1.eq_2, cond_ff (by decide), Nat.pow_zero, Nat.div_one]
 | i + 1, n + 1, h, h' => by
  have e1 : Int.tdiv (i : Int) 8 = ((i / 8 : Nat) : Int) := rfl
  have e2 : Int.tmod (i : Int) 8 = ((i % 8 : Nat) : Int) := rfl
  have m1 : min (i % 8) (IntKind.bits .u8) = i % 8 := by show min _ 8 = _; omega
  have hb : (limbsN 8 L V).getD (i / 8) 0 < 256 := getD_lt (limbsN_lt 8 L V) (by decide) _
  have hb' : (limbsN 8 L V).getD (i / 8) 0 / 2 ^ (i % 8) < 256 := Nat.lt_of_le_of_lt (Nat.div_le_self _ _) hb
  have hbit := limbsN_bit 8 (by decide) L V i (by omega)
  have hX : V / 2 ^ (i + 1) % LN < LN := Nat.mod_lt _ LN_pos
  have hstep : (2 * (V / 2 ^ (i + 1) % LN) + V / 2 ^ i % 2) % LN = V / 2 ^ i % LN := by
   have : V / 2 ^ i = 2 * (V / 2 ^ (i + 1)) + V / 2 ^ i % 2 := by rw [Nat.pow_succ, ← Nat.div_div_eq_div_mul]; omega
   rw [Nat.add_mod, Nat.mul_mod_mod, ← Nat.add_mod, ← this]
  rw [scalar_mod_l1.eq_2, show ((i + 1 : Nat) : Int) - 1 = (i : Int) by omega, cond_tt (by simp), e1, i64n (n := i / 8) (by omega), zl_len, limbsN_len, if_pos ⟨by omega, by omega⟩, nm_eq, e2, if_pos (by omega), nm_eq, Int.toNat_natCast, Int.toNat_natCast, zl_getD, m1, fdivn, and1_8 hb', hbit, u64n, Nat.mod_eq_of_lt (a := V / 2 ^ i % 2) (by omega), grown_is hX (by omega), Option.bind_some, hstep, wrap_i64 (by omega) (by omega)]
  exact mod_l1_is L V hL i n (by omega) (by omega)
theorem mod_is {L V : Nat} (hL : L ≤ 64) (h0 : 0 < L) (hV : V < 2 ^ (8 * L)) : scalar_mod (zl (limbsN 8 L V)) = some (zl (limbsN 32 8 (V % LN))) := by
 obtain ⟨i, hi⟩ : ∃ i, 8 * L = i + 1 := ⟨8 * L - 1, by omega⟩
 have e0 : IntKind.wrap .i64 (IntKind.wrap .i64 (8 * (L : Int)) - 1) = (i : Int) := by
  rw [wrap_i64 (n := 8 * (L : Int)) (by omega) (by omega), wrap_i64 (by omega) (by omega)]; omega
 have h1 := mod_l1_is L V hL i FUEL (big _ (by omega)) (by omega)
 have e1 : Int.tdiv (i : Int) 8 = ((i / 8 : Nat) : Int) := rfl
 have e2 : Int.tmod (i : Int) 8 = ((i % 8 : Nat) : Int) := rfl
 have m1 : min (i % 8) (IntKind.bits .u8) = i % 8 := by show min _ 8 = _; omega
 have hb : (limbsN 8 L V).getD (i / 8) 0 < 256 := getD_lt (limbsN_lt 8 L V) (by decide) _
 have hb' : (limbsN 8 L V).getD (i / 8) 0 / 2 ^ (i % 8) < 256 := Nat.lt_of_le_of_lt (Nat.div_le_self _ _) hb
 have hbit := limbsN_bit 8 (by decide) L V i (by omega)
 have hz : V / 2 ^ (i + 1) = 0 := Nat.div_eq_of_lt (by rw [← hi]; exact hV)
 have hq : V / 2 ^ i = V / 2 ^ i % 2 := by
  have : V / 2 ^ i = 2 * (V / 2 ^ (i + 1)) + V / 2 ^ i % 2 := by rw [Nat.pow_succ, ← Nat.div_div_eq_div_mul]; omega
  omega
 have hg := grown_is (X := 0) (b := V / 2 ^ i % 2) LN_pos (by omega)
 rw [Nat.mul_zero, Nat.zero_add, limbs_zero, zl_rep, ← hq] at hg
 unfold scalar_mod
 rw [zl_len, limbsN_len, e0, nm_eq, cond_tt (by simp), e1, i64n (n := i / 8) (by omega), if_pos ⟨by omega, by omega⟩, nm_eq, e2, if_pos (by omega), nm_eq, Int.toNat_natCast, Int.toNat_natCast, zl_getD, m1, fdivn, and1_8 hb', hbit, ← hq, u64n, Nat.mod_eq_of_lt (a := V / 2 ^ i) (by omega)]
 rw [show ((0 : Nat) : Int) = 0 from rfl] at hg
 rw [hg, Option.bind_some, wrap_i64 (by omega) (by omega)]
 exact h1
theorem bytes_l1_is (X : Nat) : ∀ (r n i : Nat), i + r = 32 -> r < n -> scalar_number_bytes_l1 (zl (limbsN 32 8 X)) n (i : Int) (zl (limbsN 8 32 (X % 2 ^ (8 * i)))) = some (zl (limbsN 8 32 (X % 2 ^ 256)))
 | _, 0, _, _, h => absurd h (Nat.not_lt_zero _)
 | 0, n + 1, i, h, _ => by
  have : i = 32 := by omega
  subst this
  rw [scalar_number_bytes_l1.eq_2, cond_ff (by decide)]
 | r + 1, n + 1, i, h, h' => by
  have e1 : Int.tdiv (i : Int) 4 = ((i / 4 : Nat) : Int) := rfl
  have e3 : Int.tmod (i : Int) 4 = ((i % 4 : Nat) : Int) := rfl
  have e4 : 8 * ((i % 4 : Nat) : Int) = ((8 * (i % 4) : Nat) : Int) := by rw [Int.natCast_mul]; rfl
  have m2 : min (8 * (i % 4)) (IntKind.bits .u64) = 8 * (i % 4) := by show min _ 64 = _; omega
  have d1 : 8 * i / 32 = i / 4 := by omega
  have d2 : 8 * i % 32 = 8 * (i % 4) := by omega
  have d3 : 8 * i / 8 = i := by omega
  have d4 : 8 * i % 8 = 0 := by omega
  have hbit := limbsN_bits 32 8 (by decide) 8 X (8 * i) (by omega) (by omega)
  rw [d1, d2] at hbit
  obtain ⟨s1, s2⟩ := limbsN_setc 8 8 (by decide) (by decide) 32 X (8 * i) (by omega) (by omega)
  rw [d3, d4, Nat.pow_zero] at s1 s2
  rw [show (limbsN 8 32 (X % 2 ^ (8 * i))).getD i 0 = 0 by omega, Nat.zero_add, Nat.one_mul] at s2
  rw [scalar_number_bytes_l1.eq_2, cond_tt (by simp <;> omega), e1, i64n (n := i / 4) (by omega), if_pos ⟨by omega, by omega⟩, nm_eq, e3, e4, i64n (n := 8 * (i % 4)) (by omega), if_pos (by omega), nm_eq, if_pos ⟨by omega, by omega⟩, Int.toNat_natCast, Int.toNat_natCast, Int.toNat_natCast, zl_getD, m2, fdivn, u8n]
  rw [show (256 : Nat) = 2 ^ 8 from rfl, hbit, zl_set, s2, wrap_i64 (by omega) (by omega), show (i : Int) + 1 = ((i + 1 : Nat) : Int) from rfl]
  exact bytes_l1_is X r n (i + 1) (by omega) (by omega)
theorem bytes_is {X : Nat} (hX : X < 2 ^ 256) : scalar_number_bytes (zl (limbsN 32 8 X)) = some (zl (limbsN 8 32 X)) := by
 have h := bytes_l1_is X 32 FUEL 0 (by omega) (big _ (by omega))
 rw [Nat.mul_zero, Nat.pow_zero, Nat.mod_one, limbs_zero, zl_rep, Nat.mod_eq_of_lt hX, show ((0 : Nat) : Int) = 0 from rfl] at h
 unfold scalar_number_bytes
 rw [h]; rfl
theorem mod256 (V : Nat) : V % LN < 2 ^ 256 := Nat.lt_trans (Nat.mod_lt _ LN_pos) LN_lt
theorem take_limbs (w n x : Nat) : List.take n (zl (limbsN w n x)) = zl (limbsN w n x) := List.take_of_length_le (by rw [zl_len, limbsN_len]; exact Nat.le_refl _)
theorem Reduce_is {V : Nat} (hV : V < 2 ^ (8 * 64)) : scalar_Reduce (zl (limbsN 8 64 V)) = some (zl (limbsN 8 32 (V % LN))) := by
 unfold scalar_Reduce
 rw [take_limbs, mod_is (by decide) (by decide) hV, Option.bind_some, bytes_is (mod256 V)]; rfl
theorem Right_is {V : Nat} (hV : V < 2 ^ 256) : scalar_Right (zl (limbsN 8 32 V)) = some (decide (V < LN)) := by
 unfold scalar_Right
 rw [take_limbs, mod_is (by decide) (by decide) hV, Option.bind_some, bytes_is (mod256 V), Option.bind_some, take_limbs, Equal_is (zl_byt (limbsN_lt 8 32 _)) (zl_byt (limbsN_lt 8 32 _)) (by rw [zl_len, limbsN_len]; decide), Option.bind_some]
 congr 1
 by_cases h : V < LN
 ·rw [decide_eq_true h, Nat.mod_eq_of_lt h]; exact decide_eq_true rfl
 ·rw [decide_eq_false h]
  refine decide_eq_false fun e => h ?_
  have := limbs_inj (by have := mod256 V; exact this) hV (zl_inj e)
  rw [← this]; exact Nat.mod_lt _ LN_pos
def apass : Int -> List Int -> List Int -> List Int
 | c, x :: xs, y :: ys => bits .u64 .and (IntKind.wrap .u64 (c + IntKind.wrap .u64 (x + y))) 4294967295 :: apass (Int.fdiv (IntKind.wrap .u64 (c + IntKind.wrap .u64 (x + y))) (2 ^ 32)) xs ys
 | _, _, _ => []
theorem add_raw (a0 a1 a2 a3 a4 a5 a6 a7 b0 b1 b2 b3 b4 b5 b6 b7 : Int) : scalar_Add_l1 [b0, b1, b2, b3, b4, b5, b6, b7] FUEL 0 0 [a0, a1, a2, a3, a4, a5, a6, a7] = some (apass 0 [a0, a1, a2, a3, a4, a5, a6, a7] [b0, b1, b2, b3, b4, b5, b6, b7]) := by kernel_rfl
theorem apass_val : ∀ (a b : List Nat) (c : Nat), a.length = b.length -> (∀ x ∈ a, x < 4294967296) -> (∀ x ∈ b, x < 4294967296) -> c ≤ 1 -> apass (c : Int) (zl a) (zl b) = zl (limbsN 32 a.length (valN 32 a + valN 32 b + c))
 | [], [], c, _, _, _, _ => rfl
 | x :: xs, y :: ys, c, h, hx, hy, hc => by
  have h1 := hx x (List.mem_cons_self ..)
  have h2 := hy y (List.mem_cons_self ..)
  have e0 : ∀ x y : Nat, (x : Int) + (y : Int) = ((x + y : Nat) : Int) := fun _ _ => rfl
  have ih := apass_val xs ys ((c + (x + y)) / 4294967296) (by simpa using h) (fun z hz => hx z (List.mem_cons_of_mem _ hz)) (fun z hz => hy z (List.mem_cons_of_mem _ hz)) (by omega)
  rw [zl_cons, zl_cons, apass, e0, u64n, Nat.mod_eq_of_lt (a := x + y) (by omega), e0, u64n, Nat.mod_eq_of_lt (a := c + (x + y)) (by omega), fdivn32, mask32 (by omega), ih, List.length_cons, limbsN, zl_cons]
  have eV : valN 32 (x :: xs) + valN 32 (y :: ys) + c = (c + (x + y)) + 4294967296 * (valN 32 xs + valN 32 ys) := by simp only [valN, two32]; omega
  rw [eV, two32, Nat.add_mul_mod_self_left, Nat.add_mul_div_left _ _ (by decide), Nat.add_comm ((c + (x + y)) / 4294967296)]
theorem Add_is {V W : Nat} (hV : V < 2 ^ 256) (hW : W < 2 ^ 256) : scalar_Add (zl (limbsN 8 32 V)) (zl (limbsN 8 32 W)) = some (zl (limbsN 8 32 ((V + W) % LN))) := by
 have ha := apass_val (limbsN 32 8 (V % LN)) (limbsN 32 8 (W % LN)) 0 (by rw [limbsN_len, limbsN_len]) (limbsN_lt 32 8 _) (limbsN_lt 32 8 _) (by decide)
 rw [limbsN_len, valN_limbs, valN_limbs, Nat.mod_eq_of_lt (a := V % LN) (mod256 V), Nat.mod_eq_of_lt (a := W % LN) (mod256 W), Nat.add_zero] at ha
 have hraw : scalar_Add_l1 (zl (limbsN 32 8 (W % LN))) FUEL 0 0 (zl (limbsN 32 8 (V % LN))) = some (apass 0 (zl (limbsN 32 8 (V % LN))) (zl (limbsN 32 8 (W % LN)))) := by
  obtain ⟨a0, a1, a2, a3, a4, a5, a6, a7, e⟩ := l8n (limbsN_len 32 8 (V % LN))
  obtain ⟨b0, b1, b2, b3, b4, b5, b6, b7, e'⟩ := l8n (limbsN_len 32 8 (W % LN))
  rw [e, e']
  exact add_raw a0 a1 a2 a3 a4 a5 a6 a7 b0 b1 b2 b3 b4 b5 b6 b7
 rw [show ((0 : Nat) : Int) = 0 from rfl] at ha
 have h1 : V % LN < LN := Nat.mod_lt _ LN_pos
 have h2 : W % LN < LN := Nat.mod_lt _ LN_pos
 unfold scalar_Add
 rw [take_limbs, take_limbs, mod_is (by decide) (by decide) hV, Option.bind_some, mod_is (by decide) (by decide) hW, Option.bind_some, hraw, ha, Option.bind_some, least_is (by omega), Option.bind_some, ← Nat.add_mod, bytes_is (mod256 _)]; rfl
end Go.Eng
