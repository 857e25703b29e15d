/-
  Part of a proof: KemS5.
-/
import Derived.Test.YtbccddolgoepjaaDoorKemS4
set_option linter.unusedVariables false
set_option linter.unusedSimpArgs false
namespace Go.Eng
set_option maxRecDepth 100000
set_option maxHeartbeats 1000000
theorem keyP_getD {key : List Int} (h : key.length ≤ 64) {i : Nat} (_hi : i < 64) : (keyP key).getD i 0 = if i < key.length then key.getD i 0 else 0 := by
 have ek : keyP key = key ++ List.replicate (64 - key.length) 0 := by unfold keyP; rw [if_neg (by omega)]
 rw [ek]
 split
 ·rename_i h; exact getD_app h
 ·rename_i h'
  simp only [List.getD, List.getElem?_append_right (Nat.le_of_not_lt h')]
  rw [List.getElem?_replicate]
  split <;> rfl
theorem keyP_big {key : List Int} (h : key.length > 64) : keyP key = keyP (shaP key) := by
 unfold keyP
 rw [if_pos h, if_neg (by rw [shaP_len]; decide)]
theorem xorP_take {K : List Int} (by_ : Int) {i : Nat} (h : i < K.length) : xorP by_ (K.take (i + 1)) = xorP by_ (K.take i) ++ [bits .u8 .xor (K.getD i 0) by_] := by
 rw [List.take_succ_eq_append_getElem h]
 unfold xorP
 rw [List.map_append]; simp [List.getD, h]
theorem hmacR_l1 {key : List Int} (hk : key.length = 32) : ∀ (n f : Nat), n ≤ 64 -> n < f ->
  fr04_Sum_l1 key f ((64 - n : Nat) : Int) (xorP 54 ((keyP key).take (64 - n)) ++ List.replicate n 0) (xorP 92 ((keyP key).take (64 - n)) ++ List.replicate n 0) = some (xorP 54 (keyP key), xorP 92 (keyP key))
 | _, 0, _, h => by omega
 | 0, f + 1, _, _ => by
  rw [fr04_Sum_l1.eq_2, cond_ff (by decide), List.take_of_length_le (by rw [keyP_len]; decide)]; simp
 | n + 1, f + 1, h, h' => by
  have hl : ((List.replicate 64 (0 : Int)).length : Int) = 64 := rfl
  have hg := keyP_getD (key := key) (by omega) (i := 64 - (n + 1)) (by omega)
  have hc : (cond (decide (((64 - (n + 1) : Nat) : Int) < 32)) (if (0 : Int) ≤ ((64 - (n + 1) : Nat) : Int) /\ ((64 - (n + 1) : Nat) : Int) < (32 : Int) then some (List.getD key (Int.toNat ((64 - (n + 1) : Nat) : Int)) 0) else none) (some 0) : Option Int) = some ((keyP key).getD (64 - (n + 1)) 0) := by
   rw [hg, hk]
   by_cases hx : 64 - (n + 1) < 32
   ·rw [cond_tt (by simp; omega), if_pos (by omega), if_pos hx, Int.toNat_natCast]
   ·rw [cond_ff (by simp; omega), if_neg hx]
  rw [fr04_Sum_l1.eq_2, cond_tt (by simp; omega), hc, Option.bind_some, if_pos ⟨by omega, by rw [hl]; omega⟩, if_pos ⟨by omega, by rw [hl]; omega⟩, Int.toNat_natCast]
  have lt : ∀ b : Int, (xorP b ((keyP key).take (64 - (n + 1)))).length = 64 - (n + 1) := fun b => by rw [xorP_len, List.length_take, keyP_len]; omega
  rw [set_rep' _ (lt 54).symm, set_rep' _ (lt 92).symm, ← xorP_take 54 (by rw [keyP_len]; omega), ← xorP_take 92 (by rw [keyP_len]; omega)]
  rw [show ((64 - (n + 1) : Nat) : Int) + 1 = ((64 - n : Nat) : Int) by omega, i64n (by omega), show 64 - (n + 1) + 1 = 64 - n by omega]
  exact hmacR_l1 hk n f (by omega) (by omega)
theorem hmacR_l2 {key : List Int} (hk : key.length ≤ 64) : ∀ (n f : Nat), n ≤ 64 -> n < f ->
  fr04_Sum_l2 key f ((64 - n : Nat) : Int) (xorP 54 ((keyP key).take (64 - n)) ++ List.replicate n 0) (xorP 92 ((keyP key).take (64 - n)) ++ List.replicate n 0) = some (xorP 54 (keyP key), xorP 92 (keyP key))
 | _, 0, _, h => by omega
 | 0, f + 1, _, _ => by
  rw [fr04_Sum_l2.eq_2, cond_ff (by decide), List.take_of_length_le (by rw [keyP_len]; decide)]; simp
 | n + 1, f + 1, h, h' => by
  have hl : ((List.replicate 64 (0 : Int)).length : Int) = 64 := rfl
  have hg := keyP_getD (key := key) hk (i := 64 - (n + 1)) (by omega)
  have hc : (cond (decide (((64 - (n + 1) : Nat) : Int) < (key.length : Int))) (if (0 : Int) ≤ ((64 - (n + 1) : Nat) : Int) /\ ((64 - (n + 1) : Nat) : Int) < (key.length : Int) then some (List.getD key (Int.toNat ((64 - (n + 1) : Nat) : Int)) 0) else none) (some 0) : Option Int) = some ((keyP key).getD (64 - (n + 1)) 0) := by
   rw [hg]
   by_cases hx : 64 - (n + 1) < key.length
   ·rw [cond_tt (by simp; omega), if_pos (by omega), if_pos hx, Int.toNat_natCast]
   ·rw [cond_ff (by simp; omega), if_neg hx]
  rw [fr04_Sum_l2.eq_2, cond_tt (by simp; omega), hc, Option.bind_some, if_pos ⟨by omega, by rw [hl]; omega⟩, if_pos ⟨by omega, by rw [hl]; omega⟩, Int.toNat_natCast]
  have lt : ∀ b : Int, (xorP b ((keyP key).take (64 - (n + 1)))).length = 64 - (n + 1) := fun b => by rw [xorP_len, List.length_take, keyP_len]; omega
  rw [set_rep' _ (lt 54).symm, set_rep' _ (lt 92).symm, ← xorP_take 54 (by rw [keyP_len]; omega), ← xorP_take 92 (by rw [keyP_len]; omega)]
  rw [show ((64 - (n + 1) : Nat) : Int) + 1 = ((64 - n : Nat) : Int) by omega, i64n (by omega), show 64 - (n + 1) + 1 = 64 - n by omega]
  exact hmacR_l2 hk n f (by omega) (by omega)
theorem hmacR_some {key M : List Int} (hk : Lim 256 key) (hM : Lim 256 M) (lk : key.length < 10000000000) (lM : M.length < 10000000000) : fr04_Sum key M = some (hmacP key M) := by
 have l64 : (List.replicate 64 (0 : Int)).length = 64 := rfl
 have x1 : (xorP 54 (keyP key)).length = 64 := by rw [xorP_len, keyP_len]
 have x2 : (xorP 92 (keyP key)).length = 64 := by rw [xorP_len, keyP_len]
 have t1 : (xorP 54 (keyP key)).take 64 = xorP 54 (keyP key) := List.take_of_length_le (by omega)
 have t2 : (xorP 92 (keyP key)).take 64 = xorP 92 (keyP key) := List.take_of_length_le (by omega)
 have s1 : fr02_Sum (xorP 54 (keyP key) ++ M) = some (shaP (xorP 54 (keyP key) ++ M)) := SumR_some (lim_append (xorP_lim _ _) hM) (by rw [List.length_append]; omega)
 have t3 : (shaP (xorP 54 (keyP key) ++ M)).take 32 = shaP (xorP 54 (keyP key) ++ M) := List.take_of_length_le (by rw [shaP_len]; decide)
 have l3 : (shaP (xorP 54 (keyP key) ++ M)).length = 32 := shaP_len _
 have s2 : fr02_Sum (xorP 92 (keyP key) ++ shaP (xorP 54 (keyP key) ++ M)) = some (hmacP key M) := SumR_some (lim_append (xorP_lim _ _) (shaP_lim _)) (by rw [List.length_append]; omega)
 unfold fr04_Sum
 by_cases h : key.length > 64
 ·rw [cond_tt (by simp; omega), SumR_some hk (by omega), Option.bind_some, Option.bind_some]
  simp only
  have h1 := hmacR_l1 (key := shaP key) (shaP_len _) 64 FUEL (by decide) (by unfold FUEL; omega)
  have h1 : fr04_Sum_l1 (shaP key) FUEL 0 (List.replicate 64 0) (List.replicate 64 0) = _ := h1
  rw [h1, ← keyP_big h, Option.bind_some]
  simp only
  rw [l64, if_pos (by omega), if_pos (by omega), nm_eq, t1, s1, Option.bind_some, t3, l3, if_pos (by omega), if_pos (by omega), nm_eq, t2, s2]; rfl
 ·rw [cond_ff (by simp; omega), Option.bind_some]
  simp only
  have h1 := hmacR_l2 (key := key) (by omega) 64 FUEL (by decide) (by unfold FUEL; omega)
  have h1 : fr04_Sum_l2 key FUEL 0 (List.replicate 64 0) (List.replicate 64 0) = _ := h1
  rw [h1, Option.bind_some]
  simp only
  rw [l64, if_pos (by omega), if_pos (by omega), nm_eq, t1, s1, Option.bind_some, t3, l3, if_pos (by omega), if_pos (by omega), nm_eq, t2, s2]; rfl
theorem Expand_some {key info : List Int} {n : Nat} (hk : Lim 256 key) (hi : Lim 256 info) (lk : key.length < 10000000000) (li : info.length ≤ 65536) (h0 : 0 < n) (hn : n ≤ 32) :
  derive_Expand key info n = some (.inl (n, hmacP key (info ++ [1]))) := by
 have l1 : (hmacP key (info ++ [1])).length = 32 := hmacP_len _ _
 have t1 : (hmacP key (info ++ [1])).take 32 = hmacP key (info ++ [1]) := List.take_of_length_le (by omega)
 have hm := mac_Sum_2_some (b := [1]) 1 hk (by omega) hi (by simp [Lim]) (by omega) (Nat.le_refl _) (by decide)
 have hm : mac_Sum_2 key info [1].length [1] = _ := hm
 unfold derive_Expand
 rw [cond_ff (by simp), cond_ff (by simp; omega), cond_ff (by simp; omega), cond_tt (by simp; omega), hm, Option.bind_some, t1, l1, if_pos (by omega)]
 obtain ⟨m, e, _⟩ := FUEL_pos 10 (by decide)
 rw [e, derive_Expand_l1.eq_2, l1, cond_ff (by simp; omega), if_pos (by omega), if_pos (by omega)]
 rfl
theorem ExpandR_some {key info : List Int} {n : Nat} (hk : Lim 256 key) (hi : Lim 256 info) (lk : key.length < 10000000000) (li : info.length ≤ 100000) (h0 : 0 < n) (hn : n ≤ 32) :
  fr05_Expand key info n = some (hmacP key (info ++ [1])) := by
 have l1 : (hmacP key (info ++ [1])).length = 32 := hmacP_len _ _
 have t1 : (hmacP key (info ++ [1])).take 32 = hmacP key (info ++ [1]) := List.take_of_length_le (by omega)
 obtain ⟨m, e, hm⟩ := FUEL_pos 10 (by decide)
 obtain ⟨m, rfl⟩ : ∃ k, m = k + 1 := ⟨m - 1, by omega⟩
 unfold fr05_Expand
 rw [e, fr05_Expand_l1.eq_2, List.length_nil, cond_tt (by simp; omega), List.take_zero, List.length_nil, if_pos (by decide), List.append_nil, List.length_nil, if_pos (by omega), List.nil_append, List.length_cons, List.length_nil, if_pos (by omega), nm_eq]
 have e2 : IntKind.wrap .u8 1 = 1 := by decide
 rw [e2, hmacR_some hk (lim_append hi (by simp [Lim])) lk (by rw [List.length_append, List.length_cons, List.length_nil]; omega), Option.bind_some, t1, l1, if_pos (by decide), List.nil_append, fr05_Expand_l1.eq_2, l1, cond_ff (by simp; omega), Option.bind_some]
 simp only
 rw [l1, if_pos (by omega), if_pos (by omega)]
def bstr (l : List UInt8) : List Int := l.map fun q : UInt8 => (q.toNat : Int)
theorem bstr_lim (l : List UInt8) : Lim 256 (bstr l) := lim_of fun x hx => by
 obtain ⟨y, _, rfl⟩ := List.mem_map.1 hx
 have := y.toNat_lt
 omega
theorem bstr_len (l : List UInt8) : (bstr l).length = l.length := List.length_map ..
theorem bstr_app (a b : List UInt8) : bstr (a ++ b) = bstr a ++ bstr b := List.map_append
theorem Grow_some {n : Nat} (h : n < 100000000000) : slices_Grow_byte_byte_2 (n : Int) = some (0, List.replicate n 0) := by
 unfold slices_Grow_byte_byte_2
 rw [cond_ff (by simp), Int.sub_zero, i64n (by omega)]
 by_cases hn : n = 0
 ·subst hn; rfl
 ·rw [cond_tt (by simp; omega), if_pos (by omega), nm_eq, if_pos (by omega), Int.toNat_natCast, Option.bind_some]
theorem Concat_some {n : Nat} {l : List Int} (hl : l.length ≤ n) (hn : n < 100000000000) : slices_Concat_byte_byte n l = some l := by
 unfold slices_Concat_byte_byte
 rw [Int.zero_add, i64n (by omega), cond_ff (by simp), Option.bind_some, Grow_some (by omega), Option.bind_some]
 simp only
 have t : l.take n = l := List.take_of_length_le hl
 rw [t, if_pos (by omega), if_pos (Nat.zero_le _), Option.bind_some, List.take_zero, List.nil_append]
theorem Concat_3_some {n : Nat} {l : List Int} (hl : l.length ≤ n) (hn : n < 100000000000) : slices_Concat_byte_byte_3 n l = some l := by
 unfold slices_Concat_byte_byte_3
 rw [Int.zero_add, i64n (by omega), cond_ff (by simp), Option.bind_some, Grow_some (by omega), Option.bind_some]
 simp only
 have t : l.take n = l := List.take_of_length_le hl
 rw [t, if_pos (by omega), if_pos (Nat.zero_le _), Option.bind_some, List.take_zero, List.nil_append]
theorem Concat_4_some {n m : Nat} {a b : List Int} (ha : a.length ≤ n) (hn : n < 10000000000) (hb : b.length ≤ m) (hm : m < 10000000000) : slices_Concat_byte_byte_4 n m a b = some (a ++ b) := by
 unfold slices_Concat_byte_byte_4
 rw [Int.zero_add, i64n (by omega), cond_ff (by simp), nm_eq, show (n : Int) + (m : Int) = ((n + m : Nat) : Int) from rfl, i64n (by omega), cond_ff (by simp; omega), Option.bind_some, Grow_some (by omega), Option.bind_some]
 simp only
 have t : a.take n = a := List.take_of_length_le ha
 have t' : b.take m = b := List.take_of_length_le hb
 rw [t, t', if_pos (by omega), if_pos (Nat.zero_le _), List.take_zero, List.nil_append, if_pos (by omega), nm_eq, Option.bind_some]
theorem sum_l1 (L : List (List Int)) (hs : L.flatten.length < 100000000000) (hn : L.length < 100000000) : ∀ (n f i : Nat), i + n = L.length -> n < f -> slices_Concat_byte_byte_2_l1 L f (((L.take i).flatten.length : Nat) : Int) (i : Int) = some ((L.flatten.length : Nat) : Int)
 | _, 0, _, _, h => by omega
 | 0, f + 1, i, h, _ => by
  rw [slices_Concat_byte_byte_2_l1.eq_2, cond_ff (by simp; omega), List.take_of_length_le (by omega)]
 | n + 1, f + 1, i, h, h' => by
  have e : L.take (i + 1) = L.take i ++ [L.getD i []] := by rw [List.take_succ_eq_append_getElem (by omega)]; simp [List.getD, show i < L.length by omega]
  have e2 : (L.take (i + 1)).flatten.length = (L.take i).flatten.length + (L.getD i []).length := by rw [e, List.flatten_append, List.length_append]; simp
  have hle : (L.take (i + 1)).flatten.length ≤ L.flatten.length := by
   have := congrArg List.length (congrArg List.flatten (List.take_append_drop (i + 1) L))
   rw [List.flatten_append, List.length_append] at this
   omega
  rw [slices_Concat_byte_byte_2_l1.eq_2, cond_tt (by simp; omega), if_pos (by omega), nm_eq, Int.toNat_natCast, ← Int.natCast_add, ← e2, i64n (by omega), cond_ff (by simp), show (i : Int) + 1 = ((i + 1 : Nat) : Int) from rfl, i64n (by omega)]
  exact sum_l1 L hs hn n f (i + 1) (by omega) (by omega)
theorem app_l2 (L : List (List Int)) (hs : L.flatten.length < 100000000000) (hn : L.length < 100000000) : ∀ (n f i : Nat) (k : Nat) (x : List Int), i + n = L.length -> n < f -> k ≤ x.length -> x.take k = (L.take i).flatten ->
  ∃ k' x', slices_Concat_byte_byte_2_l2 L f k (i : Int) x = some (.inr (k', x')) /\ x'.take k' = L.flatten
 | _, 0, _, _, _, _, h, _, _ => by omega
 | 0, f + 1, i, k, x, h, _, hk, hx => by
  rw [slices_Concat_byte_byte_2_l2.eq_2, cond_ff (by simp; omega)]
  exact ⟨k, x, rfl, by rw [hx, List.take_of_length_le (by omega)]⟩
 | n + 1, f + 1, i, k, x, h, h', hk, hx => by
  have e : L.take (i + 1) = L.take i ++ [L.getD i []] := by rw [List.take_succ_eq_append_getElem (by omega)]; simp [List.getD, show i < L.length by omega]
  have e2 : (L.take (i + 1)).flatten = (L.take i).flatten ++ L.getD i [] := by rw [e, List.flatten_append]; simp
  have hle : (L.take (i + 1)).flatten.length ≤ L.flatten.length := by
   have := congrArg List.length (congrArg List.flatten (List.take_append_drop (i + 1) L))
   rw [List.flatten_append, List.length_append] at this
   omega
  have hkl : k = (L.take i).flatten.length := by rw [← hx, List.length_take]; omega
  rw [e2, List.length_append] at hle
  rw [slices_Concat_byte_byte_2_l2.eq_2, cond_tt (by simp; omega), if_pos (by omega), Int.toNat_natCast, if_pos (by omega), if_pos hk, hx, ← e2, show (i : Int) + 1 = ((i + 1 : Nat) : Int) from rfl, i64n (by omega)]
  exact app_l2 L hs hn n f (i + 1) _ _ (by omega) (by omega) (Nat.le_refl _) (List.take_length ..)
theorem Concat_2_some {L : List (List Int)} (hs : L.flatten.length < 100000000000) (hn : L.length < 100000000) : ∃ k x, slices_Concat_byte_byte_2 L = some (k, x) /\ x.take k = L.flatten := by
 unfold slices_Concat_byte_byte_2
 have h1 := sum_l1 L hs hn L.length FUEL 0 (by omega) (by unfold FUEL; omega)
 have h1 : slices_Concat_byte_byte_2_l1 L FUEL 0 0 = _ := h1
 rw [h1, Option.bind_some, Grow_some (by omega), Option.bind_some]
 simp only
 obtain ⟨k, x, h2, h3⟩ := app_l2 L hs hn L.length FUEL 0 0 (List.replicate L.flatten.length 0) (by omega) (by unfold FUEL; omega) (Nat.zero_le _) rfl
 have h2 : slices_Concat_byte_byte_2_l2 L FUEL 0 0 (List.replicate L.flatten.length 0) = _ := h2
 rw [h2, Option.bind_some]
 exact ⟨k, x, rfl, h3⟩
end Go.Eng
