/-
  Part of a proof: SealP3.
-/
import Derived.Test.YtedebbmgijcpfaaDoorSealP2
set_option linter.unusedVariables false
set_option linter.unusedSimpArgs false
namespace Go.Eng
set_option maxRecDepth 100000
set_option maxHeartbeats 1000000
def blockL (k : List Int) (c : Int) (n : List Int) : List Int := match stream_Block k c n with
 | some (.inl b) => b
 | _ => []
theorem Block_is {k n : List Int} (c : Int) (hk : k.length = 32) (hn : n.length = 12) : stream_Block k c n = some (.inl (blockL k c n)) /\ (blockL k c n).length = 64 := by
 obtain ⟨b, h, hl⟩ := Block_some c hk hn
 unfold blockL; rw [h]; exact ⟨rfl, hl⟩
def turnL (k n : List Int) : Nat -> Int -> List Int -> List Int
 | 0, _, _ => []
 | m + 1, c, b => xorL (b.take 64) (blockL k c n) ++ turnL k n m (IntKind.wrap .u32 (c + 1)) (b.drop 64)
theorem turnL_len {k n : List Int} (hk : k.length = 32) (hn : n.length = 12) : ∀ (m : Nat) (c : Int) (b : List Int), b.length ≤ 64 * m -> (turnL k n m c b).length = b.length
 | 0, c, b, h => by
  have : b = [] := List.eq_nil_of_length_eq_zero (by omega)
  subst this; rfl
 | m + 1, c, b, h => by
  show (xorL (b.take 64) (blockL k c n) ++ turnL k n m _ (b.drop 64)).length = _
  rw [List.length_append, xorL_len (by rw [(Block_is c hk hn).2, List.length_take]; omega), turnL_len hk hn m _ _ (by rw [List.length_drop]; omega), List.length_take, List.length_drop]
  omega
theorem turnL_byt {k n : List Int} : ∀ (m : Nat) (c : Int) (b : List Int), byt (turnL k n m c b)
 | 0, _, _ => fun y hy => by cases hy
 | m + 1, c, b => fun y hy => by
  rcases List.mem_append.1 hy with hy | hy
  ·exact xorL_byt _ _ y hy
  ·exact turnL_byt m _ _ y hy
theorem turnL_nil {k n : List Int} : ∀ (m : Nat) (c : Int), turnL k n m c [] = []
 | 0, _ => rfl
 | m + 1, c => by
  show xorL [] _ ++ turnL k n m _ [] = []
  rw [turnL_nil m]; rfl
theorem turnL_turnL {k n : List Int} (hk : k.length = 32) (hn : n.length = 12) : ∀ (m : Nat) (c : Int) (b : List Int), b.length ≤ 64 * m -> byt b -> turnL k n m c (turnL k n m c b) = b
 | 0, c, b, h, _ => by
  have : b = [] := List.eq_nil_of_length_eq_zero (by omega)
  subst this; rfl
 | m + 1, c, b, h, hb => by
  have hbl := (Block_is c hk hn).2
  have h1 : (xorL (b.take 64) (blockL k c n)).length = min 64 b.length := by rw [xorL_len (by rw [hbl, List.length_take]; omega), List.length_take]
  show xorL ((xorL (b.take 64) (blockL k c n) ++ turnL k n m _ (b.drop 64)).take 64) (blockL k c n) ++ turnL k n m _ ((xorL (b.take 64) (blockL k c n) ++ turnL k n m _ (b.drop 64)).drop 64) = b
  by_cases hle : b.length ≤ 64
  ·have hd : b.drop 64 = [] := List.drop_eq_nil_of_le hle
   have ht : b.take 64 = b := List.take_of_length_le hle
   rw [hd, ht, turnL_nil, List.append_nil]
   rw [ht] at h1
   rw [List.take_of_length_le (by omega), List.drop_eq_nil_of_le (by omega), turnL_nil, List.append_nil]
   exact xorL_xorL (by omega) hb
  ·have e : (xorL (b.take 64) (blockL k c n)).length = 64 := by omega
   rw [List.take_append_of_le_length (by omega), List.take_of_length_le (by omega), List.drop_append_of_le_length (by omega), List.drop_eq_nil_of_le (by omega), List.nil_append,
    turnL_turnL hk hn m _ _ (by rw [List.length_drop]; omega) (fun y hy => hb y (List.mem_of_mem_drop hy)), xorL_xorL (by rw [hbl, List.length_take]; omega) (fun y hy => hb y (List.mem_of_mem_take hy)), List.take_append_drop]
theorem xorL_take : ∀ (p q : List Int), xorL p (q.take p.length) = xorL p q
 | [], _ => rfl
 | _ :: _, [] => rfl
 | x :: p, y :: q => by
  show xr x y :: xorL p (q.take p.length) = xr x y :: xorL p q
  rw [xorL_take p q]
theorem Turn_l1 {k nn : List Int} (hk : k.length = 32) (hn : nn.length = 12) (b : List Int) (hb : b.length ≤ 65536) : ∀ (n m i : Nat) (c : Int) (a : List Int), i ≤ b.length + 63 -> a.length ≤ i -> b.length ≤ i + 64 * m -> b.length + 64 ≤ i + 64 * n ->
  ∃ c', stream_Turn_l1 k nn b n (i : Int) c a = some (.inl (c', a ++ turnL k nn m c (b.drop i)))
 | 0, m, i, c, a, h1, h2, h3, h4 => by omega
 | n + 1, m, i, c, a, h1, h2, h3, h4 => by
  rw [stream_Turn_l1.eq_2]
  by_cases hlt : i < b.length
  ·cases m with
   | zero => omega
   | succ m =>
   have hbk := Block_is c hk hn
   rw [cond_tt (by simp; omega), if_pos ⟨by omega, by omega⟩]
   simp only [nm_eq]
   have hl : ((List.take (((b.length : Int) - (i : Int)).toNat) (List.drop (i : Int).toNat b)).length : Int) = b.length - i := by
    rw [List.length_take, List.length_drop, Int.toNat_natCast]; omega
   rw [hl]
   have hd : b.drop i = (b.drop i).take 64 ++ b.drop (i + 64) := by rw [← List.drop_drop, List.take_append_drop]
   obtain ⟨w, hw⟩ : ∃ w : Nat, (if (b.length : Int) - (i : Int) < 64 then (b.length : Int) - (i : Int) else 64) = (w : Int) /\ w = min 64 (b.length - i) := by
    refine ⟨min 64 (b.length - i), ?_, rfl⟩
    split <;> omega
   rw [hw.1, wrap_i64 (by omega) (by omega), if_pos ⟨by omega, by omega, by omega⟩, if_pos (by omega), hbk.1]
   have ht : List.take (((i : Int) + (w : Int)) - (i : Int)).toNat (List.drop (i : Int).toNat b) = (b.drop i).take 64 := by
    rw [show (((i : Int) + (w : Int)) - (i : Int)).toNat = w from by omega, Int.toNat_natCast, hw.2]
    by_cases h64 : 64 ≤ b.length - i
    ·rw [Nat.min_eq_left h64]
    ·rw [Nat.min_eq_right (by omega), List.take_of_length_le (by rw [List.length_drop]; omega), List.take_of_length_le (by rw [List.length_drop]; omega)]
   rw [ht, Option.bind_some]
   dsimp only
   have hlt64 : ((b.drop i).take 64).length ≤ 64 := by rw [List.length_take]; omega
   rw [if_pos (by rw [hbk.2]; omega), if_pos (by omega), show ((((b.drop i).take 64).length : Int) - 0).toNat = ((b.drop i).take 64).length from by omega, Mix_some (by rw [List.length_take (l := blockL k c nn), hbk.2]; omega) (by omega), xorL_take, Option.bind_some]
   have hxl : (xorL ((b.drop i).take 64) (blockL k c nn)).length ≤ 64 := by rw [xorL_len (by rw [hbk.2]; exact hlt64)]; exact hlt64
   dsimp only
   rw [if_pos (by omega)]
   rw [wrap_i64 (by omega) (by omega)]
   obtain ⟨c', e⟩ := Turn_l1 hk hn b hb n m (i + 64) (IntKind.wrap .u32 (c + 1)) (a ++ xorL ((b.drop i).take 64) (blockL k c nn)) (by omega) (by rw [List.length_append]; omega) (by omega) (by omega)
   refine ⟨c', ?_⟩
   rw [show (i : Int) + 64 = ((i + 64 : Nat) : Int) from rfl, e, List.append_assoc]
   show _ = some (Sum.inl (c', a ++ (xorL ((b.drop i).take 64) (blockL k c nn) ++ turnL k nn m _ ((b.drop i).drop 64))))
   rw [List.drop_drop]
  ·rw [cond_ff (by simp; omega)]
   refine ⟨c, ?_⟩
   rw [List.drop_eq_nil_of_le (by omega), turnL_nil, List.append_nil]
end Go.Eng
