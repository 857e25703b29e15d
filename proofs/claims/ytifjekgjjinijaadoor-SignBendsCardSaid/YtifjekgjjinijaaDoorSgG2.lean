/-
  Part of a proof: SgG2.
-/
import Derived.Test.YtifjekgjjinijaaDoorSgG1
set_option linter.unusedVariables false
set_option linter.unusedSimpArgs false
set_option linter.unusedVariables false
set_option linter.unusedSimpArgs false
namespace Go.Eng
set_option maxRecDepth 100000
set_option maxHeartbeats 1000000
theorem Concat6_is {t : List Int} (ht : t.length ≤ 300000) : slices_Concat_byte_byte_6 [t] = some (t.length, t) := by
 obtain ⟨m, hm⟩ : ∃ m, FUEL = m + 1 + 1 := ⟨18446744073709551614, rfl⟩
 obtain ⟨g, hg⟩ := Grow_is (x := (t.length : Int)) (by omega) (by omega)
 have w : IntKind.wrap .i64 (0 + (t.length : Int)) = (t.length : Int) := by rw [wrap_i64 (by omega) (by omega)]; omega
 have l1 : slices_Concat_byte_byte_6_l1 [t] FUEL 0 0 = some (t.length : Int) := by
  rw [hm, slices_Concat_byte_byte_6_l1.eq_2, cond_tt (by rfl), if_pos ⟨by decide, (by show (0 : Int) < 1; decide)⟩, nm_eq]
  show cond (decide (IntKind.wrap .i64 (0 + (t.length : Int)) < 0)) none (slices_Concat_byte_byte_6_l1 [t] (m + 1) (IntKind.wrap .i64 (0 + (t.length : Int))) 1) = _
  rw [w, cond_ff (by simp <;> omega), slices_Concat_byte_byte_6_l1.eq_2, cond_ff (by rfl)]
 have l2 : slices_Concat_byte_byte_6_l2 [t] FUEL 0 0 g = some (.inr (t.length, t)) := by
  rw [hm, slices_Concat_byte_byte_6_l2.eq_2, cond_tt (by rfl), if_pos ⟨by decide, (by show (0 : Int) < 1; decide)⟩]
  show (if (((0 : Nat) : Int) + (t.length : Int)) * 1 ≤ 140737488355328 then if 0 ≤ g.length then slices_Concat_byte_byte_6_l2 [t] (m + 1) (List.length (List.take 0 g ++ t)) 1 (List.take 0 g ++ t) else none else none) = _
  rw [if_pos (by omega), if_pos (Nat.zero_le _), List.take_zero, List.nil_append, slices_Concat_byte_byte_6_l2.eq_2, cond_ff (by rfl)]
 unfold slices_Concat_byte_byte_6
 rw [l1, Option.bind_some, hg, Option.bind_some]
 dsimp only
 rw [l2]; rfl
theorem Sign2_is {k t : List Int} (ht : t.length ≤ 300000) : sign_Sign_2 k [t] = sign_Sign k t.length t := by
 unfold sign_Sign_2 sign_Sign
 rw [Concat6_is ht, Concat2_is ht, List.take_length]
 simp only [Option.bind_some]
theorem Verify2_is {k s t : List Int} (ht : t.length ≤ 300000) : sign_Verify_2 k s [t] = sign_Verify k s t.length t := by
 unfold sign_Verify_2 sign_Verify
 rw [Concat6_is ht, Concat2_is ht, List.take_length]
 simp only [Option.bind_some]
theorem neg_mul (p : PF) : ∀ n, (Pt.mul envF p.neg n).add envF (Pt.mul envF p n) = Pt.zero
 | 0 => Pt.zero_add envF _
 | n + 1 => by
  show ((Pt.mul envF p.neg n).add envF p.neg).add envF ((Pt.mul envF p n).add envF p) = Pt.zero
  rw [add4, neg_mul p n, Pt.neg_add, Pt.zero_add]
theorem verify_eq {A h s r : Nat} : ((Pt.mul envF (Pt.mul envF B A).neg h).add envF (Pt.mul envF B s) = Pt.mul envF B r) ↔ s % LN = (r + A * h) % LN := by
 have hX := neg_mul (Pt.mul envF B A) h
 rw [Pt.mul_mul] at hX
 constructor
 ·intro e
  have : Pt.mul envF B s = Pt.mul envF B (r + A * h) := by
   rw [Pt.mul_add, ← e, Pt.add_comm envF _ (Pt.mul envF B s), Pt.add_assoc, hX, Pt.add_zero]
  exact mulB_inj this
 ·intro e
  have : Pt.mul envF B s = Pt.mul envF B (r + A * h) := by rw [← mulB_mod s, e, mulB_mod]
  rw [this, Pt.mul_add, ← Pt.add_assoc, Pt.add_comm envF _ (Pt.mul envF B r), Pt.add_assoc, hX, Pt.add_zero]
theorem verify_enc {A h s r : Nat} : (encP ((Pt.mul envF (Pt.mul envF B A).neg h).add envF (Pt.mul envF B s)) = encP (Pt.mul envF B r)) ↔ s % LN = (r + A * h) % LN := by
 rw [← verify_eq]
 exact ⟨fun e => encP_inj e, fun e => by rw [e]⟩
theorem own_is {A r n s : Nat} {t : List Int} (hs : s < 2 ^ 256) (hn : n ≤ 1000) :
  sign_Verify (encP (Pt.mul envF B A)) (encP (Pt.mul envF B r) ++ zl (limbsN 8 32 s)) n t = some (decide (s = (r + hN (encP (Pt.mul envF B r) ++ encP (Pt.mul envF B A) ++ t.take n) * A % LN) % LN)) := by
 rw [Verify_is (encP_len _) (encP_byt _) hs hn]
 congr 1
 generalize hN (encP (Pt.mul envF B r) ++ encP (Pt.mul envF B A) ++ t.take n) = h
 have hv := verify_enc (A := A) (h := h) (s := s) (r := r)
 have he : (r + h * A % LN) % LN = (r + A * h) % LN := by rw [Nat.add_mod_mod, Nat.mul_comm h]
 rw [he]
 have hl := Nat.mod_lt (r + A * h) LN_pos
 by_cases hlt : s < LN
 ·rw [decide_eq_true hlt, Bool.true_and]
  rw [Nat.mod_eq_of_lt hlt] at hv
  simp only [hv]
 ·rw [decide_eq_false hlt, Bool.false_and, decide_eq_false (by omega)]
theorem bends {k t o : List Int} (hk : k.length = 32) (ht : t.length ≤ 300) (ho : o.length = 32) (ob : byt o) :
  ((sign_Sign_2 k [t]).bind fun x5 =>
     (sign_Public k).bind fun x6 =>
      (sign_Verify_2 x6 (over x5 32 (List.take 32 (List.take 32 o))) [t]).bind fun x7 =>
       nm ((x7 == ((over x5 32 (List.take 32 (List.take 32 o))) == x5)) : Bool) fun x8 =>
       some x8) = some true := by
 obtain ⟨A, w, h1, h2, h3, _⟩ := secret_is hk
 obtain ⟨r, hr, hS, _⟩ := Sign_is (n := t.length) (t := t) h1 h2 h3 (by omega)
 have hP := Public_is h1 h2
 obtain ⟨s, rfl, hs⟩ := byt_form ho ob
 rw [Sign2_is (by omega), hS, Option.bind_some, hP, Option.bind_some]
 obtain ⟨s0, hs0⟩ : ∃ s0, s0 = (r + hN (encP (Pt.mul envF B r) ++ encP (Pt.mul envF B A) ++ t.take t.length) * A % LN) % LN := ⟨_, rfl⟩
 have hs0l : s0 < 2 ^ 256 := by rw [hs0]; exact mod256 _
 rw [← hs0]
 have hov : over (encP (Pt.mul envF B r) ++ zl (limbsN 8 32 s0)) 32 (List.take 32 (List.take 32 (zl (limbsN 8 32 s)))) = encP (Pt.mul envF B r) ++ zl (limbsN 8 32 s) := by
  rw [take_limbs, take_limbs]
  unfold over
  rw [List.take_left' (encP_len _), zl_len, limbsN_len, List.drop_of_length_le (by rw [List.length_append, encP_len, zl_len, limbsN_len]; decide), List.append_nil]
 rw [hov, Verify2_is (by omega), own_is hs (by omega), Option.bind_some, nm_eq, ← hs0]
 congr 1
 rw [beq_iff_eq]
 by_cases e : s = s0
 ·subst e
  rw [decide_eq_true rfl, beq_self_eq_true]
 ·rw [decide_eq_false e]
  refine (beq_eq_false_iff_ne.2 fun h => e ?_).symm
  exact limbs_inj hs hs0l (zl_inj (List.append_cancel_left h))
end Go.Eng
