/-
  Part of a proof: KemS7.
-/
import Derived.Test.YtmgnanajcnnlgaaDoorKemS6
set_option linter.unusedVariables false
set_option linter.unusedSimpArgs false
namespace Go.Eng
set_option maxRecDepth 100000
set_option maxHeartbeats 1000000
def zero32 : List Int := List.replicate 32 0
theorem Zero_l1 {b : List Int} (hb : Lim 256 b) : ∀ (n f i a : Nat), i + n = b.length -> b.length < 1000000 -> n < f -> a < 256 -> ∃ r : Nat, words_Zero_l1 b f (a : Int) (i : Int) = some (r : Int) /\ r < 256 /\ (r = 0 ↔ a = 0 /\ ∀ j, i ≤ j -> j < b.length -> b.getD j 0 = 0)
 | _, 0, _, _, _, _, h, _ => by omega
 | 0, f + 1, i, a, h, _, _, ha => by
  rw [words_Zero_l1.eq_2, cond_ff (by simp; omega)]
  exact ⟨a, rfl, ha, ⟨fun h' => ⟨h', fun j h1 h2 => by omega⟩, fun h' => h'.1⟩⟩
 | n + 1, f + 1, i, a, h, hs, h', ha => by
  obtain ⟨g1, g2⟩ := lim_getD (by decide) i hb
  obtain ⟨x, e⟩ := Int.eq_ofNat_of_zero_le g1
  have hx : x < 256 := by omega
  rw [words_Zero_l1.eq_2, cond_tt (by simp; omega), if_pos (by omega), Int.toNat_natCast, e, bits_or8 ha hx, show (i : Int) + 1 = ((i + 1 : Nat) : Int) from rfl, i64n (by omega)]
  obtain ⟨r, h1, h2, h3⟩ := Zero_l1 hb n f (i + 1) (a ||| x) (by omega) hs (by omega) (Nat.or_lt_two_pow (n := 8) ha hx)
  refine ⟨r, h1, h2, h3.trans ?_⟩
  rw [Nat.or_eq_zero_iff]
  constructor
  ·rintro ⟨⟨p, q⟩, s⟩
   refine ⟨p, fun j hj hj' => ?_⟩
   by_cases hij : j = i
   ·rw [hij, e, q]; rfl
   ·exact s j (by omega) hj'
  ·rintro ⟨p, s⟩
   have := s i (Nat.le_refl _) (by omega)
   exact ⟨⟨p, by omega⟩, fun j hj hj' => s j (by omega) hj'⟩
theorem Zero_some {b : List Int} (hb : Lim 256 b) (lb : b.length = 32) : words_Zero b = some (b == zero32) := by
 obtain ⟨r, h1, h2, h3⟩ := Zero_l1 hb 32 FUEL 0 0 (by omega) (by omega) (by unfold FUEL; omega) (by decide)
 have h1 : words_Zero_l1 b FUEL 0 0 = _ := h1
 unfold words_Zero
 rw [h1, Option.bind_some]
 congr 1
 by_cases hr : r = 0
 ·have hz : b = zero32 := by
   refine List.ext_getElem (by rw [lb]; rfl) fun j hj hj' => ?_
   have := (h3.1 hr).2 j (Nat.zero_le _) hj
   simp only [List.getD, List.getElem?_eq_getElem hj, Option.getD_some] at this
   rw [this]; exact (List.getElem_replicate ..).symm
  rw [hz, hr]; rfl
 ·have hz : b ≠ zero32 := fun e => hr (h3.2 ⟨rfl, fun j _ hj => by
   subst e
   simp only [List.getD, List.getElem?_eq_getElem hj, Option.getD_some]; exact List.getElem_replicate ..⟩)
  rw [beq_false_of_ne hz]
  apply beq_false_of_ne
  omega
theorem Shared_some {k u : List Int} (hk : Lim 256 k) (lk : k.length = 32) (hu : Lim 256 u) (lu : u.length = 32) : ladder_Shared k u = some (if x25519 k u = zero32 then .inr () else .inl (x25519 k u)) := by
 have t : (x25519 k u).take 32 = x25519 k u := List.take_of_length_le (by rw [x25519_len]; decide)
 unfold ladder_Shared
 rw [Mult_some hk lk hu lu, Option.bind_some, t, Zero_some (x25519_lim _ _) (x25519_len _ _), Option.bind_some]
 by_cases h : x25519 k u = zero32
 ·rw [if_pos h, cond_tt (by simpa using h)]
 ·rw [if_neg h, cond_ff (by simpa using h)]
theorem pairP_ok (M : List Int) : Lim 256 (pairP M).1 /\ (pairP M).1.length = 32 /\ Lim 256 (pairP M).2 /\ (pairP M).2.length = 32 := ⟨expandP_lim _ _ _, expandP_len _ _ _, x25519_lim _ _, x25519_len _ _⟩
def encapP (to M : List Int) : List Int ⊕ Unit := if x25519 (pairP M).1 to = zero32 then .inr () else .inl (commonP (x25519 (pairP M).1 to) (pairP M).2 to)
theorem encapP_t {to M : List Int} (h : x25519 (pairP M).1 to = zero32) : encapP to M = .inr () := if_pos h
theorem encapP_f {to M : List Int} (h : ¬ x25519 (pairP M).1 to = zero32) : encapP to M = .inl (commonP (x25519 (pairP M).1 to) (pairP M).2 to) := if_neg h
theorem shared_t {k u : List Int} (h : x25519 k u = zero32) : (if x25519 k u = zero32 then .inr () else .inl (x25519 k u) : List Int ⊕ Unit) = .inr () := if_pos h
theorem shared_f {k u : List Int} (h : ¬ x25519 k u = zero32) : (if x25519 k u = zero32 then .inr () else .inl (x25519 k u) : List Int ⊕ Unit) = .inl (x25519 k u) := if_neg h
theorem Encap_end {to M : List Int} (ht : Lim 256 to) (lt : to.length = 32) :
  ((ladder_Shared (pairP M).1 to).bind fun r9 => match r9 with
   | (Sum.inl x8) => (kem_common x8 (pairP M).2 to).bind fun x9 => some (Sum.inl ((pairP M).2, x9))
   | (Sum.inr ()) => some (Sum.inr ())) = some (match encapP to M with | .inl c => .inl ((pairP M).2, c) | .inr () => .inr ()) := by
 obtain ⟨p1, p2, p3, p4⟩ := pairP_ok M
 rw [Shared_some p1 p2 ht lt, Option.bind_some]
 by_cases h : x25519 (pairP M).1 to = zero32
 ·rw [encapP_t h, shared_t h]
 ·rw [encapP_f h, shared_f h]
  simp only
  rw [common_some (x25519_lim _ _) (x25519_len _ _) p3 p4 ht lt]; rfl
theorem Encap_some {to M : List Int} {n : Nat} (ht : Lim 256 to) (lt : to.length = 32) (hM : Lim 256 M) (lM : M.length ≤ n) (hn : n < 1000000) :
  kem_Encap to n M = some (match encapP to M with | .inl c => .inl ((pairP M).2, c) | .inr () => .inr ()) := by
 unfold kem_Encap
 rw [Pair_some hM lM hn, Option.bind_some]
 exact Encap_end ht lt
theorem Encap2_some {to : List Int} {L : List (List Int)} (ht : Lim 256 to) (lt : to.length = 32) (hM : Lim 256 L.flatten) (lM : L.flatten.length < 1000000) (hn : L.length < 1000) :
  kem_Encap_2 to L = some (match encapP to L.flatten with | .inl c => .inl ((pairP L.flatten).2, c) | .inr () => .inr ()) := by
 unfold kem_Encap_2
 rw [Pair_2_some hM lM hn, Option.bind_some]
 exact Encap_end ht lt
def decapP (s enc : List Int) : List Int ⊕ Unit := if x25519 s enc = zero32 then .inr () else .inl (commonP (x25519 s enc) enc (x25519 s base9))
theorem decapP_t {s enc : List Int} (h : x25519 s enc = zero32) : decapP s enc = .inr () := if_pos h
theorem decapP_f {s enc : List Int} (h : ¬ x25519 s enc = zero32) : decapP s enc = .inl (commonP (x25519 s enc) enc (x25519 s base9)) := if_neg h
theorem Decap_some {s enc : List Int} (hs : Lim 256 s) (ls : s.length = 32) (he : Lim 256 enc) (le : enc.length = 32) : kem_Decap s enc = some (decapP s enc) := by
 unfold kem_Decap
 rw [Shared_some hs ls he le, Option.bind_some]
 by_cases h : x25519 s enc = zero32
 ·rw [decapP_t h, shared_t h]
 ·rw [decapP_f h, shared_f h]
  simp only
  rw [Base_some hs ls, Option.bind_some, common_some (x25519_lim _ _) (x25519_len _ _) he le (x25519_lim _ _) (x25519_len _ _)]; rfl
end Go.Eng
