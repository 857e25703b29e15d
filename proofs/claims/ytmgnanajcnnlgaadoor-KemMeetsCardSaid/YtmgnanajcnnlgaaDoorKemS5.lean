/-
  Part of a proof: KemS5.
-/
import Derived.Test.YtmgnanajcnnlgaaDoorKemS4
set_option linter.unusedVariables false
set_option linter.unusedSimpArgs false
namespace Go.Eng
set_option maxRecDepth 100000
set_option maxHeartbeats 1000000
theorem Expand_some {key info : List Int} {n : Nat} (hk : Lim 256 key) (hi : Lim 256 info) (lk : key.length < 10000000000) (li : info.length ≤ 65536) (h0 : 0 < n) (hn : n ≤ 32) :
  derive_Expand key info n = some (.inl (n, hmacP key (info ++ [1]))) := by
 have l1 : (hmacP key (info ++ [1])).length = 32 := hmacP_len _ _
 have t1 : (hmacP key (info ++ [1])).take 32 = hmacP key (info ++ [1]) := List.take_of_length_le (by omega)
 have hm := mac_Sum_2_some (b := [1]) 1 hk (by omega) hi (by simp [Lim]) (by omega) (Nat.le_refl _) (by decide)
 have hm : mac_Sum_2 key info [1].length [1] = _ := hm
 unfold derive_Expand
 rw [cond_ff (by simp), cond_ff (by simp; omega), cond_ff (by simp; omega), cond_tt (by simp; omega), hm, Option.bind_some, t1, l1, if_pos (by omega)]
 obtain ⟨m, e, _⟩ := FUEL_pos 10 (by decide)
 rw [e, derive_Expand_l1.eq_2, l1, cond_ff (by simp; omega), if_pos (by omega), if_pos (by omega)]
 rfl
def bstr (l : List UInt8) : List Int := l.map fun q : UInt8 => (q.toNat : Int)
theorem bstr_lim (l : List UInt8) : Lim 256 (bstr l) := lim_of fun x hx => by
 obtain ⟨y, _, rfl⟩ := List.mem_map.1 hx
 have := y.toNat_lt
 omega
theorem bstr_len (l : List UInt8) : (bstr l).length = l.length := List.length_map ..
theorem Grow_some {n : Nat} (h : n < 100000000000) : slices_Grow_byte_byte_2 (n : Int) = some (0, List.replicate n 0) := by
 unfold slices_Grow_byte_byte_2
 rw [cond_ff (by simp), Int.sub_zero, i64n (by omega)]
 by_cases hn : n = 0
 ·subst hn; rfl
 ·rw [cond_tt (by simp; omega), if_pos (by omega), nm_eq, if_pos (by omega), Int.toNat_natCast, Option.bind_some]
theorem Concat_some {n : Nat} {l : List Int} (hl : l.length ≤ n) (hn : n < 100000000000) : slices_Concat_byte_byte n l = some l := by
 unfold slices_Concat_byte_byte
 rw [Int.zero_add, i64n (by omega), cond_ff (by simp), Option.bind_some, Grow_some (by omega), Option.bind_some]
 simp only
 have t : l.take n = l := List.take_of_length_le hl
 rw [t, if_pos (by omega), if_pos (Nat.zero_le _), Option.bind_some, List.take_zero, List.nil_append]
theorem Concat_3_some {n : Nat} {l : List Int} (hl : l.length ≤ n) (hn : n < 100000000000) : slices_Concat_byte_byte_3 n l = some l := by
 unfold slices_Concat_byte_byte_3
 rw [Int.zero_add, i64n (by omega), cond_ff (by simp), Option.bind_some, Grow_some (by omega), Option.bind_some]
 simp only
 have t : l.take n = l := List.take_of_length_le hl
 rw [t, if_pos (by omega), if_pos (Nat.zero_le _), Option.bind_some, List.take_zero, List.nil_append]
theorem Concat_4_some {n m : Nat} {a b : List Int} (ha : a.length ≤ n) (hn : n < 10000000000) (hb : b.length ≤ m) (hm : m < 10000000000) : slices_Concat_byte_byte_4 n m a b = some (a ++ b) := by
 unfold slices_Concat_byte_byte_4
 rw [Int.zero_add, i64n (by omega), cond_ff (by simp), nm_eq, show (n : Int) + (m : Int) = ((n + m : Nat) : Int) from rfl, i64n (by omega), cond_ff (by simp; omega), Option.bind_some, Grow_some (by omega), Option.bind_some]
 simp only
 have t : a.take n = a := List.take_of_length_le ha
 have t' : b.take m = b := List.take_of_length_le hb
 rw [t, t', if_pos (by omega), if_pos (Nat.zero_le _), List.take_zero, List.nil_append, if_pos (by omega), nm_eq, Option.bind_some]
theorem sum_l1 (L : List (List Int)) (hs : L.flatten.length < 100000000000) (hn : L.length < 100000000) : ∀ (n f i : Nat), i + n = L.length -> n < f -> slices_Concat_byte_byte_2_l1 L f (((L.take i).flatten.length : Nat) : Int) (i : Int) = some ((L.flatten.length : Nat) : Int)
 | _, 0, _, _, h => by omega
 | 0, f + 1, i, h, _ => by
  rw [slices_Concat_byte_byte_2_l1.eq_2, cond_ff (by simp; omega), List.take_of_length_le (by omega)]
 | n + 1, f + 1, i, h, h' => by
  have e : L.take (i + 1) = L.take i ++ [L.getD i []] := by rw [List.take_succ_eq_append_getElem (by omega)]; simp [List.getD, show i < L.length by omega]
  have e2 : (L.take (i + 1)).flatten.length = (L.take i).flatten.length + (L.getD i []).length := by rw [e, List.flatten_append, List.length_append]; simp
  have hle : (L.take (i + 1)).flatten.length ≤ L.flatten.length := by
   have := congrArg List.length (congrArg List.flatten (List.take_append_drop (i + 1) L))
   rw [List.flatten_append, List.length_append] at this
   omega
  rw [slices_Concat_byte_byte_2_l1.eq_2, cond_tt (by simp; omega), if_pos (by omega), nm_eq, Int.toNat_natCast, ← Int.natCast_add, ← e2, i64n (by omega), cond_ff (by simp), show (i : Int) + 1 = ((i + 1 : Nat) : Int) from rfl, i64n (by omega)]
  exact sum_l1 L hs hn n f (i + 1) (by omega) (by omega)
theorem app_l2 (L : List (List Int)) (hs : L.flatten.length < 100000000000) (hn : L.length < 100000000) : ∀ (n f i : Nat) (k : Nat) (x : List Int), i + n = L.length -> n < f -> k ≤ x.length -> x.take k = (L.take i).flatten ->
  ∃ k' x', slices_Concat_byte_byte_2_l2 L f k (i : Int) x = some (.inr (k', x')) /\ x'.take k' = L.flatten
 | _, 0, _, _, _, _, h, _, _ => by omega
 | 0, f + 1, i, k, x, h, _, hk, hx => by
  rw [slices_Concat_byte_byte_2_l2.eq_2, cond_ff (by simp; omega)]
  exact ⟨k, x, rfl, by rw [hx, List.take_of_length_le (by omega)]⟩
 | n + 1, f + 1, i, k, x, h, h', hk, hx => by
  have e : L.take (i + 1) = L.take i ++ [L.getD i []] := by rw [List.take_succ_eq_append_getElem (by omega)]; simp [List.getD, show i < L.length by omega]
  have e2 : (L.take (i + 1)).flatten = (L.take i).flatten ++ L.getD i [] := by rw [e, List.flatten_append]; simp
  have hle : (L.take (i + 1)).flatten.length ≤ L.flatten.length := by
   have := congrArg List.length (congrArg List.flatten (List.take_append_drop (i + 1) L))
   rw [List.flatten_append, List.length_append] at this
   omega
  have hkl : k = (L.take i).flatten.length := by rw [← hx, List.length_take]; omega
  rw [e2, List.length_append] at hle
  rw [slices_Concat_byte_byte_2_l2.eq_2, cond_tt (by simp; omega), if_pos (by omega), Int.toNat_natCast, if_pos (by omega), if_pos hk, hx, ← e2, show (i : Int) + 1 = ((i + 1 : Nat) : Int) from rfl, i64n (by omega)]
  exact app_l2 L hs hn n f (i + 1) _ _ (by omega) (by omega) (Nat.le_refl _) (List.take_length ..)
theorem Concat_2_some {L : List (List Int)} (hs : L.flatten.length < 100000000000) (hn : L.length < 100000000) : ∃ k x, slices_Concat_byte_byte_2 L = some (k, x) /\ x.take k = L.flatten := by
 unfold slices_Concat_byte_byte_2
 have h1 := sum_l1 L hs hn L.length FUEL 0 (by omega) (by unfold FUEL; omega)
 have h1 : slices_Concat_byte_byte_2_l1 L FUEL 0 0 = _ := h1
 rw [h1, Option.bind_some, Grow_some (by omega), Option.bind_some]
 simp only
 obtain ⟨k, x, h2, h3⟩ := app_l2 L hs hn L.length FUEL 0 0 (List.replicate L.flatten.length 0) (by omega) (by unfold FUEL; omega) (Nat.zero_le _) rfl
 have h2 : slices_Concat_byte_byte_2_l2 L FUEL 0 0 (List.replicate L.flatten.length 0) = _ := h2
 rw [h2, Option.bind_some]
 exact ⟨k, x, rfl, h3⟩
end Go.Eng
