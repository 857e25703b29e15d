/-
  Part of a proof: SealP5.
-/
import Derived.Test.YtedebbmgijcpfaaDoorSealP4
set_option linter.unusedVariables false
set_option linter.unusedSimpArgs false
namespace Go.Eng
set_option maxRecDepth 100000
set_option maxHeartbeats 1000000
theorem bind_some' {α : Type} (o : Option α) : (o.bind fun x => some x) = o := by cases o <;> rfl
theorem over_len0 {l m : List Int} (h : m.length ≤ l.length) : (over l 0 m).length = l.length := by unfold over; simp; omega
theorem read_some {b : List Int} (h : b.length ≤ 32) : ∃ r, onetime_read b = some r /\ r.length = 5 := by
 unfold onetime_read
 simp only [nm_eq]
 have hl : (over (List.replicate 32 (0 : Int)) 0 (List.take (List.length (List.replicate 32 (0 : Int))) b)).length = 32 := by rw [over_len0 (by simp <;> omega)]; rfl
 obtain ⟨a0, a1, a2, a3, a4, a5, a6, a7, a8, a9, a10, a11, a12, a13, a14, a15, a16, a17, a18, a19, a20, a21, a22, a23, a24, a25, a26, a27, a28, a29, a30, a31, e⟩ := list32 hl
 rw [e]
 exact some_of_map (by kernel_rfl)
theorem clamped_some {k : List Int} (h : k.length = 32) : ∃ r, onetime_clamped k = some r /\ r.length = 5 := by
 obtain ⟨a0, a1, a2, a3, a4, a5, a6, a7, a8, a9, a10, a11, a12, a13, a14, a15, a16, a17, a18, a19, a20, a21, a22, a23, a24, a25, a26, a27, a28, a29, a30, a31, rfl⟩ := list32 h
 exact some_of_map (by kernel_rfl)
theorem Sum_l2_some {a b : List Int} (h : a.length = 5) (h' : b.length = 5) : ∃ r, onetime_Sum_l2 a FUEL 0 b = some r /\ r.length = 5 := by
 obtain ⟨a0, a1, a2, a3, a4, rfl⟩ := list5 h
 obtain ⟨b0, b1, b2, b3, b4, rfl⟩ := list5 h'
 exact some_of_map (by kernel_rfl)
theorem times_some {a b : List Int} (h : a.length = 5) (h' : b.length = 5) : ∃ r, onetime_times a b = some r /\ r.length = 5 := by
 obtain ⟨a0, a1, a2, a3, a4, rfl⟩ := list5 h
 obtain ⟨b0, b1, b2, b3, b4, rfl⟩ := list5 h'
 exact some_of_map (by kernel_rfl)
theorem Pick_some (b : Bool) (x y : Int) : ∃ r, words_Pick b x y = some r := by cases b <;> exact ⟨_, rfl⟩
theorem least_l2_some {x y : List Int} : ∀ (n i : Nat) (z : List Int), z.length = 5 -> i ≤ 5 -> 5 < i + n -> ∃ r, onetime_number_least_l2 x y n (i : Int) z = some r /\ r.length = 5
 | 0, i, z, h, h1, h2 => by omega
 | n + 1, i, z, h, h1, h2 => by
  rw [onetime_number_least_l2.eq_2]
  by_cases hlt : i < 5
  ·rw [cond_tt (by simp <;> omega), if_pos ⟨by omega, by omega⟩, if_pos ⟨by omega, by omega⟩]
   obtain ⟨v, hv⟩ := Pick_some (!((Int.fdiv (List.getD x 4 0) (2 ^ 26)) == 0)) (List.getD y (Int.toNat i) 0) (List.getD z (Int.toNat i) 0)
   rw [hv, Option.bind_some, if_pos ⟨by omega, by omega⟩, wrap_i64 (by omega) (by omega)]
   exact least_l2_some n (i + 1) _ (by rw [List.length_set]; exact h) (by omega) (by omega)
  ·rw [cond_ff (by simp <;> omega)]
   exact ⟨z, rfl, h⟩
theorem least_l1_some {a : List Int} (h : a.length = 5) : ∃ r, onetime_number_least_l1 FUEL 0 a = some r /\ r.length = 5 := by
 obtain ⟨a0, a1, a2, a3, a4, rfl⟩ := list5 h
 exact some_of_map (by kernel_rfl)
theorem carry_some {a : List Int} (h : a.length = 5) : ∃ r, onetime_number_carry_2 a = some r /\ r.length = 5 := by
 obtain ⟨a0, a1, a2, a3, a4, rfl⟩ := list5 h
 exact some_of_map (by kernel_rfl)
theorem least_some {a : List Int} (h : a.length = 5) : ∃ r, onetime_number_least a = some r /\ r.length = 5 := by
 obtain ⟨b, hb, hbl⟩ := carry_some h
 obtain ⟨c, hc, hcl⟩ := carry_some hbl
 obtain ⟨d, hd, hdl⟩ := least_l1_some (a := List.set c 0 (IntKind.wrap .u64 ((List.getD c 0 0) + 5))) (by rw [List.length_set]; exact hcl)
 obtain ⟨f, e, hf⟩ := FUEL_pos 1000001 (by decide)
 obtain ⟨r, hr, hrl⟩ := least_l2_some (x := d) (y := List.set d 4 (bits .u64 .and (List.getD d 4 0) 67108863)) FUEL 0 c hcl (by omega) (by rw [e]; omega)
 refine ⟨r, ?_, hrl⟩
 unfold onetime_number_least
 rw [hb, Option.bind_some, hc, Option.bind_some, nm_eq, hd, Option.bind_some, nm_eq]
 rw [show ((0 : Nat) : Int) = 0 from rfl] at hr
 rw [hr]
 rfl
theorem low_some {a : List Int} (h : a.length = 5) : ∃ r, onetime_number_low a = some r /\ r.length = 16 := by
 obtain ⟨a0, a1, a2, a3, a4, rfl⟩ := list5 h
 exact some_of_map (by kernel_rfl)
theorem Sum_l3_some {k b : List Int} (h : k.length = 32) (h' : b.length = 16) : ∃ r, onetime_Sum_l3 k FUEL 0 0 b = some r /\ r.length = 16 := by
 obtain ⟨a0, a1, a2, a3, a4, a5, a6, a7, a8, a9, a10, a11, a12, a13, a14, a15, a16, a17, a18, a19, a20, a21, a22, a23, a24, a25, a26, a27, a28, a29, a30, a31, rfl⟩ := list32 h
 obtain ⟨b0, b1, b2, b3, b4, b5, b6, b7, b8, b9, b10, b11, b12, b13, b14, b15, rfl⟩ := list16 h'
 exact some_of_map (by kernel_rfl)
theorem byt_set {l : List Int} (h : byt l) (i : Nat) (e : Int) : byt (l.set i (IntKind.wrap .u8 e)) := fun y hy => by
 rcases List.mem_or_eq_of_mem_set hy with hy | rfl
 ·exact h y hy
 ·rw [wrap_u8]; omega
theorem Sum_l3_byt {k : List Int} : ∀ (n : Nat) (c i : Int) (a r : List Int), onetime_Sum_l3 k n c i a = some r -> byt a -> byt r
 | 0, _, _, _, _, h, _ => by cases h
 | n + 1, c, i, a, r, h, ha => by
  rw [onetime_Sum_l3.eq_2] at h
  cases hd : decide (i < 16) with
  | false => rw [hd] at h; cases h; exact ha
  | true =>
   rw [hd] at h
   obtain ⟨_, h⟩ := gd h
   obtain ⟨_, h⟩ := gd h
   simp only [nm_eq] at h
   obtain ⟨_, h⟩ := gd h
   exact Sum_l3_byt n _ _ _ _ h (byt_set ha _ _)
theorem low_l1_byt {x : List Int} : ∀ (n : Nat) (i : Int) (a r : List Int), onetime_number_low_l1 x n i a = some r -> byt a -> byt r
 | 0, _, _, _, h, _ => by cases h
 | n + 1, i, a, r, h, ha => by
  rw [onetime_number_low_l1.eq_2] at h
  cases hd : decide (i < 16) with
  | false => rw [hd] at h; cases h; exact ha
  | true =>
   rw [hd] at h
   obtain ⟨_, _, h⟩ := bnd h
   obtain ⟨_, h⟩ := gd h
   exact low_l1_byt n _ _ _ h (byt_set ha _ _)
theorem low_byt {x r : List Int} (h : onetime_number_low x = some r) : byt r := by
 unfold onetime_number_low at h
 obtain ⟨a, h1, h2⟩ := bnd h
 cases h2
 exact low_l1_byt _ _ _ _ h1 fun y hy => by rw [List.eq_of_mem_replicate hy]; omega
def macM (k m : List Int) : Option (List Int) := (onetime_clamped k).bind fun r => (onetime_Sum_l1 r m FUEL 0 (List.replicate 5 0)).bind fun h => (onetime_number_least h).bind fun a => (onetime_number_low a).bind fun b => onetime_Sum_l3 k FUEL 0 0 b
theorem Sum_l1_some {r m : List Int} (hr : r.length = 5) (hm : m.length ≤ 1000000) : ∀ (n i : Nat) (h : List Int), h.length = 5 -> i ≤ m.length + 15 -> m.length + 16 ≤ i + 16 * n -> ∃ h', onetime_Sum_l1 r m n (i : Int) h = some h' /\ h'.length = 5
 | 0, i, h, hh, h1, h2 => by omega
 | n + 1, i, h, hh, h1, h2 => by
  rw [onetime_Sum_l1.eq_2]
  by_cases hlt : i < m.length
  ·rw [cond_tt (by simp <;> omega), if_pos ⟨by omega, by omega⟩]
   simp only [nm_eq]
   have e0 : (((m.length : Int) - (i : Int)).toNat : Int) = (m.length : Int) - i := by omega
   rw [e0]
   obtain ⟨w, hw⟩ : ∃ w : Nat, (if (m.length : Int) - (i : Int) < 16 then (m.length : Int) - (i : Int) else 16) = (w : Int) /\ w = min 16 (m.length - i) := by
    refine ⟨min 16 (m.length - i), ?_, rfl⟩
    split <;> omega
   rw [hw.1, wrap_i64 (by omega) (by omega), if_pos ⟨by omega, by omega, by omega⟩, if_pos (by omega)]
   generalize hp : List.take (((i : Int) + (w : Int)) - (i : Int)).toNat (List.drop (i : Int).toNat m) = p
   have hpl : p.length ≤ 16 := by rw [← hp, List.length_take]; omega
   rw [clone_some (by omega), Option.bind_some, if_pos (by simp; omega)]
   obtain ⟨q, hq, hql⟩ := read_some (b := p ++ [1]) (by simp; omega)
   obtain ⟨s, hs, hsl⟩ := Sum_l2_some hql hh
   obtain ⟨t, ht, htl⟩ := times_some hsl hr
   rw [hq, Option.bind_some, hs, Option.bind_some, ht, Option.bind_some, wrap_i64 (by omega) (by omega)]
   exact Sum_l1_some hr hm n (i + 16) t htl (by omega) (by omega)
  ·rw [cond_ff (by simp <;> omega)]
   exact ⟨h, rfl, hh⟩
theorem mac_some {k m : List Int} (hk : k.length = 32) (hm : m.length ≤ 1000000) : ∃ t, macM k m = some t /\ t.length = 16 /\ byt t := by
 obtain ⟨r, h1, hr⟩ := clamped_some hk
 obtain ⟨f, e, hf⟩ := FUEL_pos 1000001 (by decide)
 obtain ⟨h, h2, hh⟩ := Sum_l1_some hr hm FUEL 0 (List.replicate 5 0) (by simp) (by omega) (by rw [e]; omega)
 rw [show ((0 : Nat) : Int) = 0 from rfl] at h2
 obtain ⟨a, h3, ha⟩ := least_some hh
 obtain ⟨b, h4, hb⟩ := low_some ha
 obtain ⟨t, h5, ht⟩ := Sum_l3_some hk hb
 refine ⟨t, ?_, ht, Sum_l3_byt _ _ _ _ _ h5 (low_byt h4)⟩
 unfold macM
 rw [h1, Option.bind_some, h2, Option.bind_some, h3, Option.bind_some, h4, Option.bind_some, h5]
theorem Sum_2_l2_eq (x : List Int) : ∀ (n : Nat) (i : Int) (a : List Int), onetime_Sum_2_l2 x n i a = onetime_Sum_l2 x n i a
 | 0, _, _ => rfl
 | n + 1, i, a => by
  rw [onetime_Sum_2_l2.eq_2, onetime_Sum_l2.eq_2]
  simp only [nm_eq, Sum_2_l2_eq x n]
theorem Sum_2_l1_eq (x y : List Int) : ∀ (n : Nat) (i : Int) (a : List Int), onetime_Sum_2_l1 x y n i a = onetime_Sum_l1 x y n i a
 | 0, _, _ => rfl
 | n + 1, i, a => by
  rw [onetime_Sum_2_l1.eq_2, onetime_Sum_l1.eq_2]
  simp only [nm_eq, Sum_2_l1_eq x y n, Sum_2_l2_eq]
theorem Sum_2_l3_eq (x : List Int) : ∀ (n : Nat) (c i : Int) (a : List Int), onetime_Sum_2_l3 x n c i a = onetime_Sum_l3 x n c i a
 | 0, _, _, _ => rfl
 | n + 1, c, i, a => by
  rw [onetime_Sum_2_l3.eq_2, onetime_Sum_l3.eq_2]
  simp only [nm_eq, Sum_2_l3_eq x n]
theorem Sum_is (k A B C D E F : List Int) (h : A.length + B.length + C.length + D.length + E.length + F.length ≤ 1000000) :
  onetime_Sum k A B.length C.length D.length E.length F.length B C D E F = macM k (A ++ B ++ C ++ D ++ E ++ F) := by
 unfold onetime_Sum macM
 rw [Concat_is A B C D E F h]
 simp only [Option.bind_some]
 rw [show slices_Chunk_byte_byte_2 16 (A ++ B ++ C ++ D ++ E ++ F) = some () from rfl]
 simp only [Option.bind_some, bind_some']
theorem Sum_2_is (k A B C D E F : List Int) (h : A.length + B.length + C.length + D.length + E.length + F.length ≤ 1000000) :
  onetime_Sum_2 k A B.length C D.length E.length F.length B D E F = macM k (A ++ B ++ C ++ D ++ E ++ F) := by
 unfold onetime_Sum_2 macM
 rw [Concat_2_is A B C D E F h]
 simp only [Option.bind_some]
 rw [show slices_Chunk_byte_byte_2 16 (A ++ B ++ C ++ D ++ E ++ F) = some () from rfl]
 simp only [Option.bind_some, bind_some', Sum_2_l1_eq, Sum_2_l3_eq]
end Go.Eng
