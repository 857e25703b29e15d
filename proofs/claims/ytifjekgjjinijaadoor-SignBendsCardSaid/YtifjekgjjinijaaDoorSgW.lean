/-
  Part of a proof: SgW.
-/
import Derived.Test.YtifjekgjjinijaaDoorKemR5
set_option linter.unusedVariables false
set_option linter.unusedSimpArgs false
set_option linter.unusedVariables false
set_option linter.unusedSimpArgs false
namespace Go.Eng
open Go.Proofs
set_option maxRecDepth 100000
set_option maxHeartbeats 1000000
theorem wrap_u8 (n : Int) : IntKind.u8.wrap n = n % 256 := by simp [IntKind.wrap, IntKind.bits, IntKind.signed]
def byt (l : List Int) : Prop := ∀ y, y ∈ l -> 0 ≤ y /\ y < 256
def xr (x y : Int) : Int := bits .u8 .xor x y
theorem xr_byt (x y : Int) : 0 ≤ xr x y /\ xr x y < 256 := by
 unfold xr bits
 simp only [wrap_u8]
 omega
theorem xr_xr {x : Int} (y : Int) (h : 0 ≤ x /\ x < 256) : xr (xr x y) y = x := by
 unfold xr bits
 simp only [wrap_u8]
 have h8 : IntKind.u8.bits = 8 := rfl
 rw [h8]
 generalize hA : BitVec.ofInt 8 x = A
 generalize hK : BitVec.ofInt 8 y = K
 have hx : x = (A.toNat : Int) := by
  rw [← hA, BitVec.toNat_ofInt]
  omega
 have e1 : (((A ^^^ K).toNat : Nat) : Int) % 256 = ((A ^^^ K).toNat : Int) := by
  have := (A ^^^ K).isLt; omega
 rw [e1]
 have e2 : BitVec.ofInt 8 ((A ^^^ K).toNat : Int) = A ^^^ K := by
  rw [BitVec.ofInt_natCast, BitVec.ofNat_toNat, BitVec.setWidth_eq]
 rw [e2, BitVec.xor_assoc, BitVec.xor_self, BitVec.xor_zero, hx]
 have := A.isLt; omega
theorem xr_zero {x y : Int} (hx : 0 ≤ x /\ x < 256) (hy : 0 ≤ y /\ y < 256) : xr x y = 0 ↔ x = y := by
 constructor
 ·intro h
  have h1 := xr_xr (x := y) x hy
  have h2 : xr y x = xr x y := by unfold xr bits; simp only [BitVec.xor_comm]
  rw [h2, h] at h1
  have h3 := xr_xr (x := x) x hx
  have h4 : xr x x = 0 := by unfold xr bits; simp only [BitVec.xor_self]; rfl
  rw [h4] at h3
  omega
 ·rintro rfl
  unfold xr bits; simp only [BitVec.xor_self]; rfl
def or8 (x y : Int) : Int := bits .u8 .or x y
theorem or8_byt (x y : Int) : 0 ≤ or8 x y /\ or8 x y < 256 := by
 unfold or8 bits; simp only [wrap_u8]; omega
theorem or8_zero {x y : Int} (hx : 0 ≤ x /\ x < 256) (hy : 0 ≤ y /\ y < 256) : or8 x y = 0 ↔ x = 0 /\ y = 0 := by
 obtain ⟨a, rfl⟩ := Int.eq_ofNat_of_zero_le hx.1
 obtain ⟨b, rfl⟩ := Int.eq_ofNat_of_zero_le hy.1
 have ha : a < 256 := by omega
 have hb : b < 256 := by omega
 unfold or8 bits
 simp only [wrap_u8]
 have h8 : IntKind.u8.bits = 8 := rfl
 rw [h8, BitVec.ofInt_natCast, BitVec.ofInt_natCast, BitVec.toNat_or, BitVec.toNat_ofNat, BitVec.toNat_ofNat, Nat.mod_eq_of_lt (by omega), Nat.mod_eq_of_lt (by omega)]
 have hlt : a ||| b < 2 ^ 8 := Nat.or_lt_two_pow ha hb
 constructor
 ·intro h
  have h0 : a ||| b = 0 := by omega
  have := Nat.or_eq_zero_iff.1 h0
  omega
 ·rintro ⟨h1, h2⟩
  have h1 : a = 0 := by omega
  have h2 : b = 0 := by omega
  subst h1; subst h2; rfl
theorem Equal_l1 {a b : List Int} (ha : byt a) (hb : byt b) (hl : a.length = b.length) (hle : a.length ≤ 1000000) : ∀ (n i : Nat) (c : Int), i ≤ a.length -> a.length < i + n -> (0 ≤ c /\ c < 256) ->
  ∃ r, words_Equal_l1 a b n c (i : Int) = some r /\ (r = 0 ↔ c = 0 /\ a.drop i = b.drop i)
 | 0, i, c, h1, h2, hc => by omega
 | n + 1, i, c, h1, h2, hc => by
  rw [words_Equal_l1.eq_2]
  by_cases hlt : i < a.length
  ·rw [cond_tt (by simp <;> omega), if_pos ⟨by omega, by omega⟩, if_pos ⟨by omega, by omega⟩, nm_eq, wrap_i64 (by omega) (by omega)]
   have e1 : a.drop i = a.getD i 0 :: a.drop (i + 1) := by
    rw [List.drop_eq_getElem_cons hlt]; simp [List.getD, List.getElem?_eq_getElem hlt]
   have e2 : b.drop i = b.getD i 0 :: b.drop (i + 1) := by
    rw [List.drop_eq_getElem_cons (by omega)]; simp [List.getD, List.getElem?_eq_getElem (show i < b.length by omega)]
   have hai : 0 ≤ a.getD i 0 /\ a.getD i 0 < 256 := ha _ (by simp [List.getD, List.getElem?_eq_getElem hlt])
   have hbi : 0 ≤ b.getD i 0 /\ b.getD i 0 < 256 := hb _ (by simp [List.getD, List.getElem?_eq_getElem (show i < b.length by omega)])
   obtain ⟨r, hr, hz⟩ := Equal_l1 ha hb hl hle n (i + 1) (or8 c (xr (a.getD i 0) (b.getD i 0))) (by omega) (by omega) (or8_byt _ _)
   refine ⟨r, hr, hz.trans ?_⟩
   rw [or8_zero hc (xr_byt _ _), xr_zero hai hbi, e1, e2]
   constructor
   ·rintro ⟨⟨h1, h2⟩, h3⟩; exact ⟨h1, by rw [h2, h3]⟩
   ·rintro ⟨h1, h2⟩; injection h2 with h2 h3; exact ⟨⟨h1, h2⟩, h3⟩
  ·rw [cond_ff (by simp <;> omega)]
   refine ⟨c, rfl, ?_⟩
   rw [List.drop_eq_nil_of_le (by omega), List.drop_eq_nil_of_le (by omega)]
   simp
theorem Equal_is {a b : List Int} (ha : byt a) (hb : byt b) (hle : a.length ≤ 1000000) : words_Equal a b = some (decide (a = b)) := by
 unfold words_Equal
 by_cases hl : a.length = b.length
 ·rw [cond_ff (by simp [hl])]
  obtain ⟨f, e, hf⟩ := FUEL_pos 1000001 (by decide)
  obtain ⟨r, hr, hz⟩ := Equal_l1 ha hb hl hle FUEL 0 0 (by omega) (by rw [e]; omega) (by omega)
  rw [show ((0 : Nat) : Int) = 0 from rfl] at hr
  rw [hr, Option.bind_some]
  congr 1
  rw [List.drop_zero, List.drop_zero] at hz
  by_cases hab : a = b
  ·rw [decide_eq_true hab, hz.2 ⟨rfl, hab⟩]; rfl
  ·rw [decide_eq_false hab]
   have : r ≠ 0 := fun h => hab (hz.1 h).2
   simpa using this
 ·rw [cond_tt (by simp; omega), decide_eq_false fun h => hl (by rw [h])]
theorem limbsN_setc (w c : Nat) (hw : 0 < w) (hc0 : 0 < c) : ∀ n X i, i < w * n -> i % w + c ≤ w ->
  (limbsN w n (X % 2 ^ i)).getD (i / w) 0 < 2 ^ (i % w) /\
  (limbsN w n (X % 2 ^ i)).set (i / w) ((limbsN w n (X % 2 ^ i)).getD (i / w) 0 + 2 ^ (i % w) * (X / 2 ^ i % 2 ^ c)) = limbsN w n (X % 2 ^ (i + c))
 | 0, _, _, h, _ => by simp at h
 | n + 1, X, i, h, hc => by
  by_cases hi : i < w
  ·have h1 : X % 2 ^ i < 2 ^ i := Nat.mod_lt _ (Nat.two_pow_pos i)
   have h2 : (2 : Nat) ^ i < 2 ^ w := Nat.pow_lt_pow_right (by decide) hi
   have h3 : X % 2 ^ (i + c) < 2 ^ (i + c) := Nat.mod_lt _ (Nat.two_pow_pos _)
   rw [Nat.mod_eq_of_lt hi] at hc
   have h4 : (2 : Nat) ^ (i + c) ≤ 2 ^ w := Nat.pow_le_pow_right (by decide) hc
   have h5 : X % 2 ^ (i + c) = X % 2 ^ i + 2 ^ i * (X / 2 ^ i % 2 ^ c) := by rw [Nat.pow_add, Nat.mod_mul]
   rw [Nat.div_eq_of_lt hi, Nat.mod_eq_of_lt hi]
   simp only [limbsN, List.getD_cons_zero, List.set_cons_zero]
   rw [Nat.mod_eq_of_lt (Nat.lt_trans h1 h2), Nat.div_eq_of_lt (Nat.lt_trans h1 h2), Nat.mod_eq_of_lt (Nat.lt_of_lt_of_le h3 h4), Nat.div_eq_of_lt (Nat.lt_of_lt_of_le h3 h4), ← h5]
   exact ⟨h1, rfl⟩
  ·obtain ⟨k, rfl⟩ : ∃ k, i = w + k := ⟨i - w, by omega⟩
   have e1 : (w + k) / w = k / w + 1 := by rw [Nat.add_comm, Nat.add_div_right _ hw]
   have e2 : (w + k) % w = k % w := by rw [Nat.add_comm, Nat.add_mod_right]
   have e3 : ∀ m, (X % 2 ^ (w + m)) % 2 ^ w = X % 2 ^ w := fun m => Nat.mod_mod_of_dvd _ ⟨2 ^ m, Nat.pow_add ..⟩
   have e4 : ∀ m, (X % 2 ^ (w + m)) / 2 ^ w = X / 2 ^ w % 2 ^ m := fun m => by rw [Nat.pow_add, Nat.mod_mul_right_div_self]
   have e5 : X / 2 ^ (w + k) = X / 2 ^ w / 2 ^ k := by rw [Nat.pow_add, Nat.div_div_eq_div_mul]
   have hk : k < w * n := by rw [Nat.mul_succ] at h; omega
   obtain ⟨i1, i2⟩ := limbsN_setc w c hw hc0 n (X / 2 ^ w) k hk (by rw [← e2]; exact hc)
   rw [e1, e2, e5, Nat.add_assoc]
   simp only [limbsN, List.getD_cons_succ, List.set_cons_succ, e3, e4]
   exact ⟨i1, by rw [i2]⟩
theorem limbsN_bits (w c : Nat) (hw : 0 < w) (n X i : Nat) (h : i < w * n) (hc : i % w + c ≤ w) : (limbsN w n X).getD (i / w) 0 / 2 ^ (i % w) % 2 ^ c = X / 2 ^ i % 2 ^ c := by
 have h1 : i / w < n := (Nat.div_lt_iff_lt_mul hw).2 (by rw [Nat.mul_comm]; exact h)
 rw [limbsN_get w n X _ h1]
 apply Nat.eq_of_testBit_eq
 intro j
 rw [Nat.testBit_mod_two_pow, Nat.testBit_mod_two_pow, Nat.testBit_div_two_pow, Nat.testBit_mod_two_pow, Nat.testBit_div_two_pow, Nat.testBit_div_two_pow]
 by_cases hj : j < c
 ·have e : w * (i / w) + (j + i % w) = j + i := by have := Nat.div_add_mod i w; omega
  have hlt : j + i % w < w := by omega
  rw [Nat.add_comm (j + i % w), e]
  simp [hj, hlt]
 ·simp [hj]
end Go.Eng
