/-
  Part of a proof: SealP2.
-/
import Derived.Test.YtedebbmgijcpfaaDoorSealP1
set_option linter.unusedVariables false
set_option linter.unusedSimpArgs false
namespace Go.Eng
set_option maxRecDepth 100000
set_option maxHeartbeats 1000000
def byt (l : List Int) : Prop := ∀ y, y ∈ l -> 0 ≤ y /\ y < 256
def xr (x y : Int) : Int := bits .u8 .xor x y
theorem xr_byt (x y : Int) : 0 ≤ xr x y /\ xr x y < 256 := by
 unfold xr bits
 simp only [wrap_u8]
 omega
theorem xr_xr {x : Int} (y : Int) (h : 0 ≤ x /\ x < 256) : xr (xr x y) y = x := by
 unfold xr bits
 simp only [wrap_u8]
 have h8 : IntKind.u8.bits = 8 := rfl
 rw [h8]
 generalize hA : BitVec.ofInt 8 x = A
 generalize hK : BitVec.ofInt 8 y = K
 have hx : x = (A.toNat : Int) := by
  rw [← hA, BitVec.toNat_ofInt]
  omega
 have e1 : (((A ^^^ K).toNat : Nat) : Int) % 256 = ((A ^^^ K).toNat : Int) := by
  have := (A ^^^ K).isLt; omega
 rw [e1]
 have e2 : BitVec.ofInt 8 ((A ^^^ K).toNat : Int) = A ^^^ K := by
  rw [BitVec.ofInt_natCast, BitVec.ofNat_toNat, BitVec.setWidth_eq]
 rw [e2, BitVec.xor_assoc, BitVec.xor_self, BitVec.xor_zero, hx]
 have := A.isLt; omega
def xorL (a b : List Int) : List Int := List.zipWith xr a b
theorem xorL_len {a b : List Int} (h : a.length ≤ b.length) : (xorL a b).length = a.length := by
 unfold xorL; rw [List.length_zipWith]; omega
theorem xorL_byt : ∀ (a b : List Int), byt (xorL a b)
 | [], _ => fun y hy => by cases hy
 | _ :: _, [] => fun y hy => by cases hy
 | x :: a, z :: b => fun y hy => by
  rcases List.mem_cons.1 hy with rfl | hy
  ·exact xr_byt x z
  ·exact xorL_byt a b y hy
theorem xorL_xorL : ∀ {a b : List Int}, a.length ≤ b.length -> byt a -> xorL (xorL a b) b = a
 | [], _, _, _ => rfl
 | _ :: _, [], h, _ => by cases h
 | x :: a, z :: b, h, hb => by
  show xr (xr x z) z :: xorL (xorL a b) b = x :: a
  rw [xr_xr z (hb x (.head _)), xorL_xorL (Nat.le_of_succ_le_succ h) fun y hy => hb y (.tail _ hy)]
theorem clone_some {l : List Int} (h : l.length ≤ 140737488355328) : slices_Clone_byte_byte l = some l := by
 unfold slices_Clone_byte_byte
 rw [if_pos (by simp; omega)]; rfl
theorem Mix_l1 (b c : List Int) (hc : c.length ≤ 1000000) : ∀ (n i : Nat) (a : List Int), a.length = b.length -> c.length = b.length -> i ≤ b.length -> b.length - i < n ->
  words_Mix_l1 b c n (i : Int) a = some (a.take i ++ xorL (a.drop i) (b.drop i))
 | 0, _, _, _, _, _, h => absurd h (Nat.not_lt_zero _)
 | n + 1, i, a, ha, hcb, hi, hn => by
  rw [words_Mix_l1.eq_2]
  by_cases hlt : i < b.length
  ·rw [cond_tt (by simp; omega), if_pos ⟨by omega, by omega⟩, if_pos ⟨by omega, by omega⟩, nm_eq, if_pos ⟨by omega, by omega⟩, wrap_i64 (by omega) (by omega), show (i : Int) + 1 = ((i + 1 : Nat) : Int) from rfl, Int.toNat_natCast,
    Mix_l1 b c hc n (i + 1) _ (by simp [ha]) hcb (by omega) (by omega)]
   have h1 : a.drop i = a.getD i 0 :: a.drop (i + 1) := by
    rw [List.drop_eq_getElem_cons (by omega)]; simp [List.getD, List.getElem?_eq_getElem (show i < a.length by omega)]
   have h2 : b.drop i = b.getD i 0 :: b.drop (i + 1) := by
    rw [List.drop_eq_getElem_cons (by omega)]; simp [List.getD, List.getElem?_eq_getElem hlt]
   rw [h1, h2]
   show _ = some (a.take i ++ (xr (a.getD i 0) (b.getD i 0) :: xorL (a.drop (i + 1)) (b.drop (i + 1))))
   congr 1
   rw [List.drop_set_of_lt (by omega), List.take_add_one, List.take_set_of_le (by omega), List.getElem?_set_self (by omega)]
   simp [xr]
  ·have : i = b.length := by omega
   subst this
   rw [cond_ff (by simp; omega)]
   rw [List.take_of_length_le (by omega), List.drop_eq_nil_of_le (by omega)]
   simp [xorL]
theorem Mix_some {a b : List Int} (h : a.length = b.length) (hl : a.length ≤ 1000000) : words_Mix a b = some (.inl (xorL a b)) := by
 unfold words_Mix
 rw [cond_ff (by simp [h]), clone_some (by omega)]
 show (words_Mix_l1 b a FUEL 0 a).bind _ = _
 obtain ⟨m, e, hm⟩ := FUEL_pos 1000001 (by decide)
 rw [show (0 : Int) = ((0 : Nat) : Int) from rfl, Mix_l1 b a hl FUEL 0 a h h (Nat.zero_le _) (by rw [e]; omega)]
 simp
end Go.Eng
