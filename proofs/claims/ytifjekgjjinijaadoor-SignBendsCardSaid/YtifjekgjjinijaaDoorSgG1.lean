/-
  Part of a proof: SgG1.
-/
import Derived.Test.YtifjekgjjinijaaDoorSgO
set_option linter.unusedVariables false
set_option linter.unusedSimpArgs false
set_option linter.unusedVariables false
set_option linter.unusedSimpArgs false
namespace Go.Eng
set_option maxRecDepth 100000
set_option maxHeartbeats 1000000
theorem byt_form {l : List Int} {n : Nat} (hl : l.length = n) (hb : byt l) : ∃ v, l = zl (limbsN 8 n v) /\ v < 2 ^ (8 * n) := by
 obtain ⟨m, h1, h2, h3⟩ := lim_zl (n := 256) (lim_of hb)
 refine ⟨valN 8 m, ?_, ?_⟩
 ·rw [h1, ← hl, ← h2, limbsN_val 8 m h3]
 ·have := valN_lt 8 m h3
  rw [h2, hl] at this; exact this
def numB (l : List Int) : Nat := valN 8 (l.map Int.toNat)
theorem numB_limbs {n v : Nat} (h : v < 2 ^ (8 * n)) : numB (zl (limbsN 8 n v)) = v := by
 unfold numB
 have : (zl (limbsN 8 n v)).map Int.toNat = limbsN 8 n v := by
  unfold zl; rw [List.map_map]
  have e : (Int.toNat ∘ fun (n : Nat) => (n : Int)) = id := funext fun x => Int.toNat_natCast x
  rw [e, List.map_id]
 rw [this, valN_limbs, Nat.mod_eq_of_lt h]
def hN (m : List Int) : Nat := numB ((shaC m).getD []) % LN
theorem hash_is {m : List Int} (hm : m.length ≤ 100000) : ∃ r, shaC m = some r /\ r.length = 64 /\ byt r /\ scalar_Reduce r = some (zl (limbsN 8 32 (hN m))) := by
 obtain ⟨r, h1, h2, h3⟩ := shaC_tot hm
 obtain ⟨v, rfl, hv⟩ := byt_form h2 h3
 refine ⟨_, h1, h2, h3, ?_⟩
 unfold hN
 rw [h1, Option.getD_some, numB_limbs hv]
 exact Reduce_is hv
theorem hN_lt (m : List Int) : hN m < LN := Nat.mod_lt _ LN_pos
theorem hN_lt2 (m : List Int) : hN m < 2 ^ 256 := Nat.lt_trans (hN_lt m) LN_lt
theorem bits8_byt (op : BinOp) (x y : Int) : 0 ≤ bits .u8 op x y /\ bits .u8 op x y < 256 := by
 unfold bits
 simp only [wrap_u8]
 split <;> omega
theorem byt_set {l : List Int} (h : byt l) (i : Nat) {e : Int} (he : 0 ≤ e /\ e < 256) : byt (l.set i e) := fun y hy => by
 rcases List.mem_or_eq_of_mem_set hy with hy | rfl
 ·exact h y hy
 ·exact he
theorem Clamp_is {k : List Int} (hk : k.length = 32) (kb : byt k) : ∃ A, ladder_Clamp k = some (zl (limbsN 8 32 A)) /\ A < 2 ^ 256 := by
 have hb : byt (List.set (List.set (List.set k 0 (bits .u8 .and (List.getD k 0 0) 248)) 31 (bits .u8 .and (List.getD (List.set k 0 (bits .u8 .and (List.getD k 0 0) 248)) 31 0) 127)) 31 (bits .u8 .or (List.getD (List.set (List.set k 0 (bits .u8 .and (List.getD k 0 0) 248)) 31 (bits .u8 .and (List.getD (List.set k 0 (bits .u8 .and (List.getD k 0 0) 248)) 31 0) 127)) 31 0) 64)) :=
  byt_set (byt_set (byt_set kb _ (bits8_byt _ _ _)) _ (bits8_byt _ _ _)) _ (bits8_byt _ _ _)
 obtain ⟨A, h1, h2⟩ := byt_form (n := 32) (by rw [List.length_set, List.length_set, List.length_set]; exact hk) hb
 exact ⟨A, by rw [← h1]; rfl, h2⟩
theorem secret_is {k : List Int} (hk : k.length = 32) : ∃ A w, sign_secret k = some (zl (limbsN 8 32 A), w) /\ A < 2 ^ 256 /\ w.length = 64 /\ byt w := by
 obtain ⟨w, h1, h2, h3⟩ := shaC_tot (m := k.take 32) (by rw [List.length_take]; omega)
 obtain ⟨A, h4, h5⟩ := Clamp_is (k := List.take 32 (List.take 32 w)) (by rw [List.length_take, List.length_take]; omega) (fun y hy => h3 y (List.mem_of_mem_take (List.mem_of_mem_take hy)))
 refine ⟨A, w, ?_, h5, h2, h3⟩
 unfold sign_secret
 rw [Sum1_is (by decide), h1, Option.bind_some, if_pos (by rw [List.length_take]; omega), h4]; rfl
theorem baseMul {s : Nat} (hs : s < 2 ^ 256) : ∃ b p, points_Base = some b /\ points_Point_Times b (zl (limbsN 8 32 s)) = some p /\ points_Point_Bytes p = some (encP (Pt.mul envF B s)) := by
 obtain ⟨b, b1, b2, b3⟩ := Base_is
 obtain ⟨p, p1, p2, p3⟩ := Times_is b2 b3 hs
 exact ⟨b, p, b1, p1, Bytes_is p2 p3⟩
theorem over64 {R S : List Int} (hR : R.length = 32) (hS : S.length = 32) : over (over (List.replicate 64 (0 : Int)) 0 (List.take 64 (List.take 32 R))) 32 (List.take 32 (List.take 32 S)) = R ++ S := by
 rw [List.take_of_length_le (l := R) (by omega), List.take_of_length_le (l := R) (by omega), List.take_of_length_le (l := S) (by omega), List.take_of_length_le (l := S) (by omega)]
 unfold over
 rw [List.take_zero, List.nil_append, Nat.zero_add, hR, List.drop_replicate, hS]
 rw [List.take_left' hR, List.drop_of_length_le (by rw [List.length_append, List.length_replicate]; omega), List.append_nil]
theorem Sign_is {k : List Int} {n : Nat} {t : List Int} {A : Nat} {w : List Int} (hs : sign_secret k = some (zl (limbsN 8 32 A), w)) (hA : A < 2 ^ 256) (hw : w.length = 64) (hn : n ≤ 1000) : ∃ r, r < LN /\
  sign_Sign k n t = some (encP (Pt.mul envF B r) ++ zl (limbsN 8 32 ((r + hN (encP (Pt.mul envF B r) ++ encP (Pt.mul envF B A) ++ t.take n) * A % LN) % LN))) /\ r = hN (List.take 32 (List.drop 32 w) ++ t.take n) := by
 have hT : (t.take n).length ≤ n := by rw [List.length_take]; omega
 have hTT : List.take (t.take n).length (t.take n) = t.take n := List.take_length ..
 obtain ⟨d1, e1, e2, e3, e4⟩ := hash_is (m := List.take 32 (List.drop 32 w) ++ t.take n) (by simp only [List.length_append, List.length_take]; omega)
 obtain ⟨r, hr⟩ : ∃ r, r = hN (List.take 32 (List.drop 32 w) ++ t.take n) := ⟨_, rfl⟩
 rw [← hr] at e4 ⊢
 have hrl : r < LN := by rw [hr]; exact hN_lt _
 have hrl2 : r < 2 ^ 256 := Nat.lt_trans hrl LN_lt
 obtain ⟨b, p, b1, p1, p2⟩ := baseMul hA
 obtain ⟨b', q, b1', q1, q2⟩ := baseMul hrl2
 rw [b1] at b1'
 cases b1'
 have lR := encP_len (Pt.mul envF B r)
 have lP := encP_len (Pt.mul envF B A)
 obtain ⟨d2, f1, f2, f3, f4⟩ := hash_is (m := encP (Pt.mul envF B r) ++ encP (Pt.mul envF B A) ++ t.take n) (by simp only [List.length_append, List.length_take, lR, lP]; omega)
 refine ⟨r, hrl, ?_, rfl⟩
 unfold sign_Sign
 rw [hs, Option.bind_some]
 dsimp only
 rw [b1, Option.bind_some, p1, Option.bind_some, p2, Option.bind_some, Concat2_is (by omega), Option.bind_some]
 have hh1 : sign_hash 32 32 (t.take n).length w (t.take n) = some (zl (limbsN 8 32 r)) := by
  unfold sign_hash
  rw [Sum2_is (by omega) (by omega), hTT, e1, Option.bind_some, e4]; rfl
 have hh2 : sign_hash_2 32 32 (t.take n).length (encP (Pt.mul envF B r)) (encP (Pt.mul envF B A)) (t.take n) = some (zl (limbsN 8 32 (hN (encP (Pt.mul envF B r) ++ encP (Pt.mul envF B A) ++ t.take n)))) := by
  unfold sign_hash_2
  rw [Sum3_is (by omega) (by omega) (by omega), hTT, List.take_of_length_le (by omega), List.take_of_length_le (by omega), f1, Option.bind_some, f4]; rfl
 rw [hh1, Option.bind_some, Option.bind_some, q1, Option.bind_some, q2, Option.bind_some, hh2, Option.bind_some, STimes_is (hN_lt2 _) hA, Option.bind_some, Add_is hrl2 (mod256 _), Option.bind_some, nm_eq, over64 lR (by rw [zl_len, limbsN_len])]
theorem Public_is {k : List Int} {A : Nat} {w : List Int} (hs : sign_secret k = some (zl (limbsN 8 32 A), w)) (hA : A < 2 ^ 256) : sign_Public k = some (encP (Pt.mul envF B A)) := by
 obtain ⟨b, p, b1, p1, p2⟩ := baseMul hA
 unfold sign_Public
 rw [hs, Option.bind_some]
 dsimp only
 rw [b1, Option.bind_some, p1, Option.bind_some, p2]; rfl
theorem Verify_is {a : PF} {R : List Int} {s n : Nat} {t : List Int} (hR : R.length = 32) (Rb : byt R) (hs : s < 2 ^ 256) (hn : n ≤ 1000) :
  sign_Verify (encP a) (R ++ zl (limbsN 8 32 s)) n t = some (decide (s < LN) && decide (encP ((Pt.mul envF a.neg (hN (R ++ encP a ++ t.take n))).add envF (Pt.mul envF B s)) = R)) := by
 have hT : (t.take n).length ≤ n := by rw [List.length_take]; omega
 have hTT : List.take (t.take n).length (t.take n) = t.take n := List.take_length ..
 have hd : List.drop 32 (R ++ zl (limbsN 8 32 s)) = zl (limbsN 8 32 s) := List.drop_left' hR
 have ht : List.take 32 (R ++ zl (limbsN 8 32 s)) = R := List.take_left' hR
 obtain ⟨p, p1, p2, p3⟩ := Read_is a
 obtain ⟨g, g1, g2, g3⟩ := Neg_is p2 p3
 have lP := encP_len a
 obtain ⟨d2, f1, f2, f3, f4⟩ := hash_is (m := R ++ encP a ++ t.take n) (by simp only [List.length_append, List.length_take, hR, lP]; omega)
 obtain ⟨q, q1, q2, q3⟩ := With_is g2 g3 (hN_lt2 (R ++ encP a ++ t.take n)) hs
 have hh : sign_hash_3 32 32 (t.take n).length (R ++ zl (limbsN 8 32 s)) (encP a) (t.take n) = some (zl (limbsN 8 32 (hN (R ++ encP a ++ t.take n)))) := by
  unfold sign_hash_3
  rw [Sum4_is (by omega) (by omega) (by omega), hTT, ht, List.take_of_length_le (by omega), f1, Option.bind_some, f4]; rfl
 unfold sign_Verify
 rw [hd, take_limbs, take_limbs, if_pos (by rw [zl_len, limbsN_len]; decide), p1, Option.bind_some]
 dsimp only
 rw [Right_is hs, Option.bind_some]
 by_cases hl : s < LN
 ·rw [decide_eq_true hl, cond_ff (by rfl), Concat2_is (by omega), Option.bind_some, hh, Option.bind_some, g1, Option.bind_some, q1, Option.bind_some, Bytes_is q2 q3, Option.bind_some, ht, List.take_of_length_le (by rw [encP_len]; exact Nat.le_refl _), Equal_is (encP_byt _) Rb (by rw [encP_len]; decide)]
  rfl
 ·rw [decide_eq_false hl, cond_tt (by rfl)]; rfl
end Go.Eng
