/-
  Part of a proof: KmD.
-/
import Derived.Test.YtmgnanajcnnlgaaDoorKmC
import Derived.Test.YtmgnanajcnnlgaaDoorKemS8
set_option linter.unusedVariables false
set_option linter.unusedSimpArgs false
set_option linter.unusedVariables false
set_option linter.unusedSimpArgs false
namespace Go.Eng
set_option maxRecDepth 100000
set_option maxHeartbeats 1000000
theorem b9_base : b9 = base9 := rfl
theorem KemMeets_is {a b : List Int} (ha : Lim 256 a) (hb : Lim 256 b) : fl14_KemMeets a b = some true := by
 unfold fl14_KemMeets
 rw [alive_some, Option.bind_some, cond_ff (by decide)]
 by_cases h1 : a.length > 300
 ·rw [cond_tt (by simp; omega)]
 ·by_cases h2 : b.length > 300
  ·rw [cond_ff (by simp; omega), cond_tt (by simp; omega)]
  ·rw [cond_ff (by simp; omega), cond_ff (by simp; omega)]
   have ea : ([a] : List (List Int)).flatten = a := by simp
   have eb : ([b] : List (List Int)).flatten = b := by simp
   obtain ⟨a1, a2, a3, a4⟩ := pairP_ok a
   obtain ⟨b1, b2, b3, b4⟩ := pairP_ok b
   have hA := Pair_2_some (L := [a]) (by rw [ea]; exact ha) (by rw [ea]; omega) (by simp)
   have hB := Pair_2_some (L := [b]) (by rw [eb]; exact hb) (by rw [eb]; omega) (by simp)
   have hE := Encap2_some (L := [b]) a3 a4 (by rw [eb]; exact hb) (by rw [eb]; omega) (by simp)
   have hD := Decap_some a1 a2 b3 b4
   rw [ea] at hA
   rw [eb] at hB hE
   have pA : (pairP a).2 = x25519 (pairP a).1 b9 := rfl
   have pB : (pairP b).2 = x25519 (pairP b).1 b9 := rfl
   have n1 : x25519 (pairP b).1 (pairP a).2 ≠ zero32 := by rw [pA]; exact x25519_ne a1 a2 b1 b2
   have n2 : x25519 (pairP a).1 (pairP b).2 ≠ zero32 := by rw [pB]; exact x25519_ne b1 b2 a1 a2
   have hc : x25519 (pairP b).1 (pairP a).2 = x25519 (pairP a).1 (pairP b).2 := by rw [pA, pB]; exact x25519_comm a1 a2 b1 b2
   rw [encapP_f n1] at hE
   rw [decapP_f n2, ← b9_base, ← pA, ← hc] at hD
   generalize commonP (x25519 (pairP b).1 (pairP a).2) (pairP b).2 (pairP a).2 = C at hE hD
   replace hE : kem_Encap_2 (pairP a).2 [b] = some (.inl ((pairP b).2, C)) := hE
   rw [hA, Option.bind_some]
   show ((kem_Encap_2 (pairP a).2 [b]).bind _) = _
   rw [hE, Option.bind_some]
   show ((kem_Decap (pairP a).1 (pairP b).2).bind _) = _
   rw [hD, Option.bind_some]
   show ((kem_Pair_2 [b]).bind _) = _
   rw [hB, Option.bind_some]
   show cond (C == C) (some ((pairP b).2 == (pairP b).2)) (some false) = _
   rw [beq_self_eq_true, cond_tt rfl, beq_self_eq_true]
end Go.Eng
