/-
  Part of a proof: KemS6.
-/
import Derived.Test.YtmgnanajcnnlgaaDoorKemS5
set_option linter.unusedVariables false
set_option linter.unusedSimpArgs false
namespace Go.Eng
set_option maxRecDepth 100000
set_option maxHeartbeats 1000000
def preK : List UInt8 := [72, 80, 75, 69, 45, 118, 49, 75, 69, 77, 0, 32]
def extractP (label : List UInt8) (M : List Int) : List Int := hmacP [] (bstr (preK ++ label) ++ M)
def expandP (s : List Int) (label : List UInt8) (info : List Int) : List Int := hmacP s (bstr ([0, 32] ++ preK ++ label) ++ info ++ [1])
def base9 : List Int := (List.replicate 32 (0 : Int)).set 0 9
def pairP (seed : List Int) : List Int × List Int :=
 (expandP (extractP [100, 107, 112, 95, 112, 114, 107] seed) [115, 107] [], x25519 (expandP (extractP [100, 107, 112, 95, 112, 114, 107] seed) [115, 107] []) base9)
def commonP (dh enc to : List Int) : List Int := expandP (extractP [101, 97, 101, 95, 112, 114, 107] dh) [115, 104, 97, 114, 101, 100, 95, 115, 101, 99, 114, 101, 116] (enc ++ to)
theorem expandP_lim (s : List Int) (l : List UInt8) (i : List Int) : Lim 256 (expandP s l i) := hmacP_lim _ _
theorem expandP_len (s : List Int) (l : List UInt8) (i : List Int) : (expandP s l i).length = 32 := hmacP_len _ _
theorem extractP_lim (l : List UInt8) (i : List Int) : Lim 256 (extractP l i) := hmacP_lim _ _
theorem extractP_len (l : List UInt8) (i : List Int) : (extractP l i).length = 32 := hmacP_len _ _
theorem x25519_lim (k u : List Int) : Lim 256 (x25519 k u) := limbs8_lim 32 _
theorem x25519_len (k u : List Int) : (x25519 k u).length = 32 := by rw [x25519, bytesP, zl_len, limbsN_len]
theorem base9_lim : Lim 256 base9 := by unfold base9; exact lim_set (rep_lim 32) (by decide) (by decide)
theorem base9_len : base9.length = 32 := by simp [base9]
theorem Extract_some {M : List Int} (hM : Lim 256 M) (lM : M.length < 1000000000) : derive_Extract [] M = some (hmacP [] M) := by
 unfold derive_Extract
 rw [mac_Sum_some (key := []) trivial (by decide) (fun x hx => by rw [List.mem_singleton.1 hx]; exact hM) (by simp) (by simp; omega)]
 simp
theorem extract_some {label : List UInt8} {n : Nat} {M : List Int} (hl : label.length < 1000) (hM : Lim 256 M) (lM : M.length ≤ n) (hn : n < 1000000) : kem_extract label n M = some (extractP label M) := by
 unfold kem_extract
 rw [if_pos (by simp only [List.length_cons, List.length_nil]; omega), nm_eq, Concat_some lM (by omega), Option.bind_some]
 have h : (bstr (preK ++ label) ++ M).length < 2000000 := by rw [List.length_append, bstr_len, List.length_append]; simp only [preK, List.length_cons, List.length_nil]; omega
 have h1 : (bstr (preK ++ label)).length < 2000 := by rw [bstr_len, List.length_append]; simp only [preK, List.length_cons, List.length_nil]; omega
 show (if (((bstr (preK ++ label)).length : Int) + M.length) * 1 ≤ 140737488355328 then (derive_Extract [] (bstr (preK ++ label) ++ M)).bind fun x13 => some x13 else none) = _
 rw [if_pos (by omega), Extract_some (lim_append (bstr_lim _) hM) (by omega)]; rfl
theorem extract_2_some {label : List UInt8} {n : Nat} {M : List Int} (hl : label.length < 1000) (hM : Lim 256 M) (lM : M.length ≤ n) (hn : n < 1000000) : kem_extract_2 label n M = some (extractP label M) := by
 unfold kem_extract_2
 rw [if_pos (by simp only [List.length_cons, List.length_nil]; omega), nm_eq, Concat_3_some lM (by omega), Option.bind_some]
 have h : (bstr (preK ++ label) ++ M).length < 2000000 := by rw [List.length_append, bstr_len, List.length_append]; simp only [preK, List.length_cons, List.length_nil]; omega
 have h1 : (bstr (preK ++ label)).length < 2000 := by rw [bstr_len, List.length_append]; simp only [preK, List.length_cons, List.length_nil]; omega
 show (if (((bstr (preK ++ label)).length : Int) + M.length) * 1 ≤ 140737488355328 then (derive_Extract [] (bstr (preK ++ label) ++ M)).bind fun x13 => some x13 else none) = _
 rw [if_pos (by omega), Extract_some (lim_append (bstr_lim _) hM) (by omega)]; rfl
theorem extract_3_some {label : List UInt8} {L : List (List Int)} (hl : label.length < 1000) (hM : Lim 256 L.flatten) (lM : L.flatten.length < 1000000) (hn : L.length < 1000) : kem_extract_3 label L = some (extractP label L.flatten) := by
 unfold kem_extract_3
 obtain ⟨k, x, e, h0⟩ := Concat_2_some (L := L) (by omega) (by omega)
 rw [if_pos (by simp only [List.length_cons, List.length_nil]; omega), nm_eq, e, Option.bind_some]
 simp only
 rw [h0]
 have h : (bstr (preK ++ label) ++ L.flatten).length < 2000000 := by rw [List.length_append, bstr_len, List.length_append]; simp only [preK, List.length_cons, List.length_nil]; omega
 have h1 : (bstr (preK ++ label)).length < 2000 := by rw [bstr_len, List.length_append]; simp only [preK, List.length_cons, List.length_nil]; omega
 show (if (((bstr (preK ++ label)).length : Int) + L.flatten.length) * 1 ≤ 140737488355328 then (derive_Extract [] (bstr (preK ++ label) ++ L.flatten)).bind fun x13 => some x13 else none) = _
 rw [if_pos (by omega), Extract_some (lim_append (bstr_lim _) hM) (by omega)]; rfl
theorem over_32 {m : List Int} (h : m.length = 32) : over (List.replicate 32 0) 0 m = m := by
 unfold over
 rw [List.take_zero, List.nil_append, List.drop_of_length_le (by rw [List.length_replicate]; omega), List.append_nil]
theorem expand_end {s info : List Int} (hs : Lim 256 s) (ls : s.length = 32) (hi : Lim 256 info) (li : info.length ≤ 65536) :
  ((derive_Expand (List.take 32 s) info 32).bind fun r25 => match r25 with
     | (Sum.inl (x22, x23)) => nm ((over (List.replicate 32 (0 : Int)) 0 (List.take 32 (List.take x22 x23))) : List Int) fun x24 => some x24
     | (Sum.inr _) => some (List.replicate 32 (0 : Int))) = some (hmacP s (info ++ [1])) := by
 have t : s.take 32 = s := List.take_of_length_le (by omega)
 have h := Expand_some (n := 32) hs hi (by omega) li (by decide) (by decide)
 have h : derive_Expand s info 32 = _ := h
 have t1 : (hmacP s (info ++ [1])).take 32 = hmacP s (info ++ [1]) := List.take_of_length_le (by rw [hmacP_len]; decide)
 rw [t, h, Option.bind_some]
 simp only
 rw [nm_eq, t1, t1, over_32 (hmacP_len _ _)]
theorem expand_some {s : List Int} {label : List UInt8} {L : List (List Int)} (hs : Lim 256 s) (ls : s.length = 32) (hl : label.length < 1000) (hM : Lim 256 L.flatten) (lM : L.flatten.length < 1000) (hn : L.length < 1000) :
  kem_expand s label L = some (expandP s label L.flatten) := by
 unfold kem_expand
 obtain ⟨k, x, e, h0⟩ := Concat_2_some (L := L) (by omega) (by omega)
 rw [if_pos (by simp only [List.length_cons, List.length_nil]; omega), nm_eq, e, Option.bind_some]
 simp only
 rw [h0]
 have h1 : (bstr ([0, 32] ++ preK ++ label)).length < 2000 := by rw [bstr_len, List.length_append]; simp only [preK, List.length_cons, List.length_nil, List.length_append]; omega
 have he := expand_end hs ls (info := bstr ([0, 32] ++ preK ++ label) ++ L.flatten) (lim_append (bstr_lim _) hM) (by rw [List.length_append]; omega)
 show (if (((bstr ([0, 32] ++ preK ++ label)).length : Int) + L.flatten.length) * 1 ≤ 140737488355328 then _ else none) = _
 rw [if_pos (by omega), nm_eq]
 exact he
theorem expand_2_some {s a b : List Int} {label : List UInt8} (hs : Lim 256 s) (ls : s.length = 32) (hl : label.length < 1000) (ha : Lim 256 a) (hb : Lim 256 b) (la : a.length = 32) (lb : b.length = 32) :
  kem_expand_2 s label 32 32 a b = some (expandP s label (a ++ b)) := by
 unfold kem_expand_2
 rw [if_pos (by simp only [List.length_cons, List.length_nil]; omega), nm_eq, Concat_4_some (by omega) (by decide) (by omega) (by decide), Option.bind_some]
 have h0 : (a ++ b).length = 64 := by rw [List.length_append]; omega
 have h1 : (bstr ([0, 32] ++ preK ++ label)).length < 2000 := by rw [bstr_len, List.length_append]; simp only [preK, List.length_cons, List.length_nil, List.length_append]; omega
 have he := expand_end hs ls (info := bstr ([0, 32] ++ preK ++ label) ++ (a ++ b)) (lim_append (bstr_lim _) (lim_append ha hb)) (by rw [List.length_append]; omega)
 show (if (((bstr ([0, 32] ++ preK ++ label)).length : Int) + (a ++ b).length) * 1 ≤ 140737488355328 then _ else none) = _
 rw [if_pos (by omega)]
 exact he
theorem Base_some {k : List Int} (hk : Lim 256 k) (lk : k.length = 32) : ladder_Base k = some (x25519 k base9) := by
 unfold ladder_Base
 rw [show (List.replicate 32 (0 : Int)).set 0 9 = base9 from rfl, Mult_some hk lk base9_lim base9_len]; rfl
theorem Pair_some {M : List Int} {n : Nat} (hM : Lim 256 M) (lM : M.length ≤ n) (hn : n < 1000000) : kem_Pair n M = some (pairP M) := by
 unfold kem_Pair
 rw [extract_some (by decide) hM lM hn, Option.bind_some, expand_some (L := []) (extractP_lim _ _) (extractP_len _ _) (by decide) trivial (by decide) (by decide), Option.bind_some]
 rw [List.flatten_nil, Base_some (expandP_lim _ _ _) (expandP_len _ _ _)]; rfl
theorem Pair_2_some {L : List (List Int)} (hM : Lim 256 L.flatten) (lM : L.flatten.length < 1000000) (hn : L.length < 1000) : kem_Pair_2 L = some (pairP L.flatten) := by
 unfold kem_Pair_2
 rw [extract_3_some (by decide) hM lM hn, Option.bind_some, expand_some (L := []) (extractP_lim _ _) (extractP_len _ _) (by decide) trivial (by decide) (by decide), Option.bind_some]
 rw [List.flatten_nil, Base_some (expandP_lim _ _ _) (expandP_len _ _ _)]; rfl
theorem common_some {dh enc to : List Int} (h1 : Lim 256 dh) (l1 : dh.length = 32) (h2 : Lim 256 enc) (l2 : enc.length = 32) (h3 : Lim 256 to) (l3 : to.length = 32) : kem_common dh enc to = some (commonP dh enc to) := by
 unfold kem_common
 rw [extract_2_some (by decide) h1 (by omega) (by decide), Option.bind_some, expand_2_some (extractP_lim _ _) (extractP_len _ _) (by decide) h2 h3 l2 l3]; rfl
end Go.Eng
