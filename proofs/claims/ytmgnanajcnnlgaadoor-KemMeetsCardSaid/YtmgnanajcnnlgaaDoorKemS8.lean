/-
  Part of a proof: KemS8.
-/
import Derived.Test.YtmgnanajcnnlgaaDoorKemS7
set_option linter.unusedVariables false
set_option linter.unusedSimpArgs false
namespace Go.Eng
set_option maxRecDepth 100000
def powF (a : Int) (E : Nat) : Nat -> Int -> Int
 | 0, o => o
 | i + 1, o => powF a E i (cond (E / 2 ^ i % 2 == 1) (mulP (mulP o o) a) (mulP o o))
theorem powF_eq {a : Int} (ha : 0 ≤ a) (ha' : a < PP) (E : Nat) : ∀ i, powF a E i (powP a (E / 2 ^ i)) = powP a E
 | 0 => by rw [powF, Nat.pow_zero, Nat.div_one]
 | i + 1 => by
  have hE : E / 2 ^ i = E / 2 ^ (i + 1) + E / 2 ^ (i + 1) + E / 2 ^ i % 2 := by
   rw [Nat.pow_succ, ← Nat.div_div_eq_div_mul]; omega
  rw [powF, powP_add]
  have : cond (E / 2 ^ i % 2 == 1) (mulP (powP a (E / 2 ^ (i + 1) + E / 2 ^ (i + 1))) a) (powP a (E / 2 ^ (i + 1) + E / 2 ^ (i + 1))) = powP a (E / 2 ^ i) := by
   rcases Nat.mod_two_eq_zero_or_one (E / 2 ^ i) with h0 | h0
   ·rw [h0, cond_ff (by decide)]; rw [h0, Nat.add_zero] at hE; rw [← hE]
   ·rw [h0, cond_tt (by decide)]
    rw [h0] at hE
    have := powP_add a (E / 2 ^ (i + 1) + E / 2 ^ (i + 1)) 1
    rw [powP_one ha ha', ← hE] at this
    exact this
  rw [this]
  exact powF_eq ha ha' E i
theorem pow_eq {a : Int} (ha : 0 ≤ a) (ha' : a < PP) : powP a PM2 = powF a PM2 256 1 := by
 have h := powF_eq ha ha' PM2 256
 rw [show PM2 / 2 ^ 256 = 0 by kernel_rfl, powP_zero] at h
 exact h.symm
theorem al1 : extractP [100, 107, 112, 95, 112, 114, 107] [120] = [210, 247, 76, 15, 223, 124, 104, 157, 218, 105, 204, 42, 146, 215, 237, 4, 126, 214, 74, 248, 102, 48, 36, 240, 227, 100, 50, 113, 168, 27, 139, 163] := by kernel_rfl
theorem al2 : expandP [210, 247, 76, 15, 223, 124, 104, 157, 218, 105, 204, 42, 146, 215, 237, 4, 126, 214, 74, 248, 102, 48, 36, 240, 227, 100, 50, 113, 168, 27, 139, 163] [115, 107] [] = [6, 157, 90, 94, 107, 97, 20, 217, 238, 7, 70, 89, 64, 147, 39, 129, 172, 211, 223, 201, 172, 49, 77, 147, 63, 31, 102, 11, 99, 196, 98, 15] := by kernel_rfl
theorem al3 : leN (clampP [6, 157, 90, 94, 107, 97, 20, 217, 238, 7, 70, 89, 64, 147, 39, 129, 172, 211, 223, 201, 172, 49, 77, 147, 63, 31, 102, 11, 99, 196, 98, 15]) = 35907221462945463132921873092606876566992056605023823303711984379636156636416 := by kernel_rfl
theorem al4 : ladP 35907221462945463132921873092606876566992056605023823303711984379636156636416 9 255 ⟨1, 0, 9, 1⟩ = ⟨49778907369373459249477723849043026012375787587920310717737047178351110875602, 17482782121803242656016171121340639069291543025555349571047935684230514623627, 51776623698750523009728085950951523035040530150669317153085031544905956433191, 14374628701983599269828007659321219296165894817585954826439060566160538482237⟩ := by kernel_rfl
theorem al5 : ladP 35907221462945463132921873092606876566992056605023823303711984379636156636416 0 255 ⟨1, 0, 0, 1⟩ = ⟨0, 0, 0, 0⟩ := by kernel_rfl
theorem al6 : powF 17482782121803242656016171121340639069291543025555349571047935684230514623627 PM2 256 1 = 40110430380561814516112022416256172050646382487537770922933971068742121679742 := by kernel_rfl
theorem al7 : mulP 49778907369373459249477723849043026012375787587920310717737047178351110875602 40110430380561814516112022416256172050646382487537770922933971068742121679742 = 43366608476099930956769318608978268198203409999857882993783226267459177348134 := by kernel_rfl
theorem al8 : bytesP 43366608476099930956769318608978268198203409999857882993783226267459177348134 = [38, 252, 250, 199, 114, 232, 249, 73, 49, 9, 13, 254, 113, 207, 142, 67, 57, 140, 22, 17, 8, 197, 234, 116, 127, 227, 165, 240, 108, 161, 224, 95] := by kernel_rfl
theorem al_pair : (pairP [120]).1 = [6, 157, 90, 94, 107, 97, 20, 217, 238, 7, 70, 89, 64, 147, 39, 129, 172, 211, 223, 201, 172, 49, 77, 147, 63, 31, 102, 11, 99, 196, 98, 15] := by
 show expandP (extractP [100, 107, 112, 95, 112, 114, 107] [120]) [115, 107] [] = _
 rw [al1, al2]
theorem al_zero : x25519 (pairP [120]).1 zero32 = zero32 := by
 have h0 : ∀ y, mulP 0 y = 0 := fun y => by unfold mulP; rw [Int.zero_mul]; rfl
 have h1 : (((leN zero32 % 2 ^ 255 : Nat) : Int) % PP) = 0 := by kernel_rfl
 have h2 : bytesP 0 = zero32 := by kernel_rfl
 rw [al_pair, x25519, al3, h1, multP, al5, h0, h2]
theorem pairP_snd (M : List Int) : (pairP M).2 = x25519 (pairP M).1 base9 := rfl
theorem al_pub : (pairP [120]).2 ≠ zero32 := by
 have h1 : (((leN base9 % 2 ^ 255 : Nat) : Int) % PP) = 9 := by kernel_rfl
 rw [pairP_snd, al_pair, x25519, al3, h1, multP, al4]
 simp only
 rw [pow_eq (by decide) (by decide), al6, al7, al8]
 decide
theorem Num_5 : fnum_Num_2 5 = some 5 := by kernel_rfl
theorem alive_some : fl14_alive = some true := by
 have hl : Lim 256 ([120] : List Int) := ⟨by decide, trivial⟩
 have h1 := Encap_some (to := zero32) (M := [120]) (n := 1) (rep_lim 32) rfl hl (by decide) (by decide)
 rw [encapP_t al_zero] at h1
 have h1 : kem_Encap (List.replicate 32 (0 : Int)) (List.length [120]) [120] = _ := h1
 have h2 := Pair_some (M := [120]) (n := 1) hl (by decide) (by decide)
 have h2 : kem_Pair (List.length [120]) [120] = _ := h2
 unfold fl14_alive
 rw [h1, Option.bind_some]
 simp only
 rw [h2, Option.bind_some]
 have h3 := al_pub
 generalize pairP [120] = q at *
 obtain ⟨x, y⟩ := q
 simp only at h3 ⊢
 rw [Num_5, Option.bind_some, cond_tt (by decide)]
 have : (y == List.replicate 32 (0 : Int)) = false := beq_false_of_ne h3
 rw [this]; rfl
end Go.Eng
