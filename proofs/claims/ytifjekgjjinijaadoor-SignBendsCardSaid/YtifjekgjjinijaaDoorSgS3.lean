/-
  Part of a proof: SgS3.
-/
import Derived.Test.YtifjekgjjinijaaDoorSgS2
set_option linter.unusedVariables false
set_option linter.unusedSimpArgs false
set_option linter.unusedVariables false
set_option linter.unusedSimpArgs false
namespace Go.Eng
set_option maxRecDepth 100000
set_option maxHeartbeats 1000000
theorem V_set' : ∀ (l : List Nat) (j y : Nat), j < l.length -> V8 (l.set j y) + 256 ^ j * l.getD j 0 = V8 l + 256 ^ j * y
 | [], j, y, h => by simp at h
 | x :: xs, 0, y, h => by simp [V8, valN]; omega
 | x :: xs, j + 1, y, h => by
  have := V_set' xs j y (by simpa using h)
  simp only [V8, List.getD_cons_succ, List.set_cons_succ, valN, two8] at this ⊢
  rw [p256, Nat.mul_comm (256 ^ j), Nat.mul_assoc, Nat.mul_assoc]
  omega
theorem getD_set_ne {l : List Nat} {i j x : Nat} (h : i ≠ j) : (l.set i x).getD j 0 = l.getD j 0 := by
 simp only [List.getD]; rw [List.getElem?_set_ne h]
theorem times_l2_is (a b : List Nat) (ha : Dig a) (hb : Dig b) (la : a.length = 32) (lb : b.length = 32) (i : Nat) (hi : i < 32) : ∀ (r n k c : Nat) (p : List Nat), k + r = 32 -> r < n -> p.length = 64 -> Dig p -> c < 65536 ->
  ∃ (c' : Nat) (p' : List Nat), scalar_Times_l2 (zl a) (zl b) (i : Int) n (c : Int) (k : Int) (zl p) = some ((c' : Int), zl p') /\ p'.length = 64 /\ Dig p' /\ c' < 65536 /\ V8 p' + 256 ^ (i + 32) * c' = V8 p + 256 ^ (i + k) * (c + a.getD i 0 * V8 (b.drop k)) /\ ∀ j, i + 32 ≤ j -> p'.getD j 0 = p.getD j 0
 | _, 0, _, _, _, _, h, _, _, _ => absurd h (Nat.not_lt_zero _)
 | 0, n + 1, k, c, p, h, _, hp, hd, hc => by
  have : k = 32 := by omega
  subst this
  rw [scalar_Times_l2.eq_2, cond_ff (by decide)]
  refine ⟨c, p, rfl, hp, hd, hc, ?_, fun _ _ => rfl⟩
  rw [List.drop_eq_nil_of_le (by omega)]; simp [V8, valN]
 | r + 1, n + 1, k, c, p, h, h', hp, hd, hc => by
  have ga : a.getD i 0 < 256 := getD_lt ha (by decide) i
  have gb : b.getD k 0 < 256 := getD_lt hb (by decide) k
  have gp : p.getD (i + k) 0 < 256 := getD_lt hd (by decide) _
  have hm : a.getD i 0 * b.getD k 0 ≤ 255 * 255 := Nat.mul_le_mul (by omega) (by omega)
  have e0 : ∀ x y : Nat, (x : Int) + (y : Int) = ((x + y : Nat) : Int) := fun _ _ => rfl
  have e1 : ∀ x y : Nat, (x : Int) * (y : Int) = ((x * y : Nat) : Int) := fun _ _ => rfl
  obtain ⟨t, ht⟩ : ∃ t, t = c + (p.getD (i + k) 0 + a.getD i 0 * b.getD k 0) := ⟨_, rfl⟩
  have eT : IntKind.wrap .u64 ((c : Int) + IntKind.wrap .u64 (IntKind.wrap .u64 ((p.getD (i + k) 0 : Nat) : Int) + IntKind.wrap .u64 (IntKind.wrap .u64 ((a.getD i 0 : Nat) : Int) * IntKind.wrap .u64 ((b.getD k 0 : Nat) : Int)))) = (t : Int) := by
   rw [u64n (p.getD (i + k) 0), Nat.mod_eq_of_lt (a := p.getD (i + k) 0) (by omega), u64n (a.getD i 0), Nat.mod_eq_of_lt (a := a.getD i 0) (by omega), u64n (b.getD k 0), Nat.mod_eq_of_lt (a := b.getD k 0) (by omega), e1, u64n, Nat.mod_eq_of_lt (a := a.getD i 0 * b.getD k 0) (by omega), e0, u64n, Nat.mod_eq_of_lt (a := p.getD (i + k) 0 + a.getD i 0 * b.getD k 0) (by omega), e0, u64n, Nat.mod_eq_of_lt (by omega), ht]
  have hd1 : Dig (p.set (i + k) (t % 256)) := fun x hx => by
   rcases List.mem_or_eq_of_mem_set hx with hx | rfl
   ·exact hd x hx
   ·exact Nat.mod_lt _ (by decide)
  obtain ⟨c', p', q1, q2, q3, q4, q5, q6⟩ := times_l2_is a b ha hb la lb i hi r n (k + 1) (t / 256) (p.set (i + k) (t % 256)) (by omega) (by omega) (by rw [List.length_set]; exact hp) hd1 (by omega)
  refine ⟨c', p', ?_, q2, q3, q4, ?_, fun j hj => by rw [q6 j hj, getD_set_ne (by omega)]⟩
  ·rw [scalar_Times_l2.eq_2, cond_tt (by simp <;> omega), if_pos ⟨by omega, by omega⟩, e0 i k, i64n (n := i + k) (by omega), if_pos ⟨by omega, by omega⟩, nm_eq, nm_eq, nm_eq, if_pos ⟨by omega, by omega⟩, nm_eq, Int.toNat_natCast, Int.toNat_natCast, Int.toNat_natCast, zl_getD, zl_getD, zl_getD, eT, u8n, zl_set, fdivn, two8, wrap_i64 (by omega) (by omega), show (k : Int) + 1 = ((k + 1 : Nat) : Int) from rfl, q1]
  ·have hs := V_set' p (i + k) (t % 256) (by omega)
   rw [q5, V_drop b k (by omega), show i + (k + 1) = (i + k) + 1 from rfl, p256]
   generalize V8 (b.drop (k + 1)) = W at *
   generalize (256 : Nat) ^ (i + k) = T at *
   have e : T * (t % 256) + T * (256 * (t / 256)) = T * c + T * (p.getD (i + k) 0) + T * (a.getD i 0 * b.getD k 0) := by
    rw [← Nat.mul_add, Nat.mod_add_div, ht, Nat.mul_add, Nat.mul_add, Nat.add_assoc]
   have e2 : T * 256 * (t / 256 + a.getD i 0 * W) = T * (256 * (t / 256)) + T * (a.getD i 0 * (256 * W)) := by
    rw [Nat.mul_add, Nat.mul_assoc, Nat.mul_assoc, Nat.mul_left_comm 256]
   have e3 : T * (c + a.getD i 0 * (b.getD k 0 + 256 * W)) = T * c + T * (a.getD i 0 * b.getD k 0) + T * (a.getD i 0 * (256 * W)) := by
    rw [Nat.mul_add, Nat.mul_add, Nat.mul_add, Nat.add_assoc]
   rw [e2, e3]
   omega
theorem ltm {T a b : Nat} (h : T * a < T * b) : a < b := Nat.not_le.1 fun hn => absurd h (Nat.not_lt.2 (Nat.mul_le_mul_left T hn))
theorem times_l1_is (a b : List Nat) (ha : Dig a) (hb : Dig b) (la : a.length = 32) (lb : b.length = 32) : ∀ (r n i : Nat) (p : List Nat), i + r = 32 -> r < n -> p.length = 64 -> Dig p -> V8 p = V8 (a.take i) * V8 b -> (∀ j, i + 32 ≤ j -> p.getD j 0 = 0) ->
  ∃ p', scalar_Times_l1 (zl a) (zl b) n (i : Int) (zl p) = some (zl p') /\ p'.length = 64 /\ Dig p' /\ V8 p' = V8 a * V8 b
 | _, 0, _, _, _, h, _, _, _, _ => absurd h (Nat.not_lt_zero _)
 | 0, n + 1, i, p, h, _, hp, hd, hv, _ => by
  have : i = 32 := by omega
  subst this
  rw [scalar_Times_l1.eq_2, cond_ff (by decide)]
  rw [List.take_of_length_le (by omega)] at hv
  exact ⟨p, rfl, hp, hd, hv⟩
 | r + 1, n + 1, i, p, h, h', hp, hd, hv, hz => by
  obtain ⟨c', p', q1, q2, q3, q4, q5, q6⟩ := times_l2_is a b ha hb la lb i (by omega) 32 FUEL 0 0 p (by omega) (big _ (by omega)) hp hd (by decide)
  rw [show i + 0 = i from rfl, List.drop_zero, Nat.zero_add, hv] at q5
  have hb2 := V_lt hb
  rw [lb] at hb2
  have hat : Dig (a.take (i + 1)) := fun x hx => ha x (List.mem_of_mem_take hx)
  have ha2 := V_lt hat
  rw [List.length_take, Nat.min_eq_left (by omega)] at ha2
  have hsum : V8 p' + 256 ^ (i + 32) * c' = V8 (a.take (i + 1)) * V8 b := by
   rw [q5, V_take_succ, Nat.add_mul, Nat.mul_assoc]
  have hlt : V8 (a.take (i + 1)) * V8 b < 256 ^ (i + 1 + 32) := by
   rw [Nat.pow_add]; exact Nat.mul_lt_mul'' ha2 hb2
  have hc : c' < 256 := by
   have hp2 : (256 : Nat) ^ (i + 1 + 32) = 256 ^ (i + 32) * 256 := by rw [show i + 1 + 32 = (i + 32) + 1 by omega]; exact Nat.pow_succ ..
   rw [hp2, ← hsum] at hlt
   have h3 := Nat.lt_of_le_of_lt (Nat.le_add_left _ _) hlt
   exact ltm h3
  have hz' : p'.getD (i + 32) 0 = 0 := by rw [q6 (i + 32) (by omega), hz (i + 32) (by omega)]
  have hs := V_set' p' (i + 32) c' (by omega)
  rw [hz', Nat.mul_zero, Nat.add_zero, hsum] at hs
  have hd' : Dig (p'.set (i + 32) c') := fun x hx => by
   rcases List.mem_or_eq_of_mem_set hx with hx | rfl
   ·exact q3 x hx
   ·exact hc
  obtain ⟨p'', w1, w2, w3, w4⟩ := times_l1_is a b ha hb la lb r n (i + 1) (p'.set (i + 32) c') (by omega) (by omega) (by rw [List.length_set]; exact q2) hd' hs (fun j hj => by rw [getD_set_ne (by omega), q6 j (by omega), hz j (by omega)])
  refine ⟨p'', ?_, w2, w3, w4⟩
  rw [show ((0 : Nat) : Int) = 0 from rfl] at q1
  rw [scalar_Times_l1.eq_2, cond_tt (by simp <;> omega), if_pos ⟨by omega, by omega⟩, q1, Option.bind_some]
  dsimp only
  rw [wrap_i64 (n := (i : Int) + 32) (by omega) (by omega), if_pos ⟨by omega, by omega⟩, nm_eq, u8n, Nat.mod_eq_of_lt hc, show ((i : Int) + 32).toNat = i + 32 by omega, zl_set, wrap_i64 (by omega) (by omega), show (i : Int) + 1 = ((i + 1 : Nat) : Int) from rfl, w1]
theorem lt512 {V W : Nat} (hV : V < 2 ^ 256) (hW : W < 2 ^ 256) : V * W < 2 ^ (8 * 64) := by
 have h := Nat.mul_lt_mul'' hV hW
 rw [← Nat.pow_add, show 256 + 256 = 8 * 64 from rfl] at h
 exact h
theorem STimes_is {V W : Nat} (hV : V < 2 ^ 256) (hW : W < 2 ^ 256) : scalar_Times (zl (limbsN 8 32 V)) (zl (limbsN 8 32 W)) = some (zl (limbsN 8 32 (V * W % LN))) := by
 obtain ⟨p, h1, h2, h3, h4⟩ := times_l1_is (limbsN 8 32 V) (limbsN 8 32 W) (limbsN_lt 8 32 V) (limbsN_lt 8 32 W) (limbsN_len 8 32 V) (limbsN_len 8 32 W) 32 FUEL 0 (List.replicate 64 0) (by omega) (big _ (by omega)) (by simp) (fun x hx => by rw [List.eq_of_mem_replicate hx]; decide) (by rw [V_zeros, List.take_zero]; simp [V8, valN]) (fun j _ => by simp only [List.getD]; rw [List.getElem?_replicate]; split <;> rfl)
 have e1 : V8 (limbsN 8 32 V) = V := by rw [show V8 (limbsN 8 32 V) = V % 2 ^ (8 * 32) from valN_limbs 8 32 V]; exact Nat.mod_eq_of_lt hV
 have e2 : V8 (limbsN 8 32 W) = W := by rw [show V8 (limbsN 8 32 W) = W % 2 ^ (8 * 32) from valN_limbs 8 32 W]; exact Nat.mod_eq_of_lt hW
 rw [e1, e2] at h4
 have hp : p = limbsN 8 64 (V * W) := by rw [← h4, ← h2]; exact (limbsN_val 8 p h3).symm
 rw [zl_rep, show ((0 : Nat) : Int) = 0 from rfl] at h1
 unfold scalar_Times
 rw [h1, Option.bind_some, hp, Reduce_is (lt512 hV hW)]; rfl
end Go.Eng
