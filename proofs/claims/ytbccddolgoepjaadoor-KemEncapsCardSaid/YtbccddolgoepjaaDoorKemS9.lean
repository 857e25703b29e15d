/-
  Part of a proof: KemS9.
-/
import Derived.Test.YtbccddolgoepjaaDoorKemS8
set_option linter.unusedVariables false
set_option linter.unusedSimpArgs false
namespace Go.Eng
set_option maxRecDepth 100000
set_option maxHeartbeats 1000000
theorem KemEncaps_is {to s M : List Int} (ht : Lim 256 to) (lt : to.length = 32) (hs : Lim 256 s) (ls : s.length = 32) (hM : Lim 256 M) : fl14_KemEncaps to s M = some true := by
 unfold fl14_KemEncaps
 rw [alive_some, Option.bind_some, cond_ff (by decide)]
 by_cases h1 : M.length > 300
 ·rw [cond_tt (by simp; omega)]
 ·rw [cond_ff (by simp; omega)]
  have e : ([M] : List (List Int)).flatten = M := by simp
  have h3 := Encap2_some (L := [M]) ht lt (by rw [e]; exact hM) (by rw [e]; omega) (by simp)
  have h4 := EncapR_some ht lt hM (by omega)
  have h5 := Decap_some hs ls ht lt
  have h6 := DecapR_some hs ls ht lt
  have hz : (List.replicate 32 (0 : Int) == List.replicate 32 (0 : Int)) = true := by decide
  rw [e] at h3
  generalize encapP to M = ec at h3 h4
  generalize decapP s to = dc at h5 h6
  generalize (pairP M).2 = y at h3 h4
  cases ec with
  | inl c =>
   have h3 : kem_Encap_2 to [M] = some (.inl (y, c)) := h3
   have h4 : fr14_Encap to M = some (y, c, true) := h4
   rw [h3, Option.bind_some]
   simp only
   rw [h4, Option.bind_some]
   simp only
   rw [cond_ff (by decide), cond_tt rfl, cond_ff (by simp), cond_ff (by simp)]
   cases dc with
   | inl d =>
    have h6 : fr14_Decap s to = some (d, true) := h6
    rw [h5, Option.bind_some]
    simp only
    rw [h6, Option.bind_some]
    simp only
    rw [cond_ff (by decide), beq_self_eq_true]
   | inr u =>
    have h6 : fr14_Decap s to = some (zero32, false) := h6
    rw [h5, Option.bind_some]
    simp only
    rw [h6, Option.bind_some]
    simp only
    rw [cond_tt (by decide), nm_eq, cond_tt hz, Num_5, Option.bind_some]; rfl
  | inr u =>
   have h3 : kem_Encap_2 to [M] = some (.inr ()) := h3
   have h4 : fr14_Encap to M = some (zero32, zero32, false) := h4
   rw [h3, Option.bind_some]
   simp only
   rw [h4, Option.bind_some]
   simp only
   rw [cond_tt (by decide), nm_eq, hz, cond_ff (by decide), nm_eq, cond_ff (by decide), Num_5, Option.bind_some, cond_ff (by decide), cond_ff rfl]
   cases dc with
   | inl d =>
    have h6 : fr14_Decap s to = some (d, true) := h6
    rw [h5, Option.bind_some]
    simp only
    rw [h6, Option.bind_some]
    simp only
    rw [cond_ff (by decide), beq_self_eq_true]
   | inr u =>
    have h6 : fr14_Decap s to = some (zero32, false) := h6
    rw [h5, Option.bind_some]
    simp only
    rw [h6, Option.bind_some]
    simp only
    rw [cond_tt (by decide), nm_eq, cond_tt rfl, Option.bind_some]; rfl
end Go.Eng
