/-
  Part of a proof: SgF1.
-/
import Derived.Test.YtifjekgjjinijaaDoorSgW
set_option linter.unusedVariables false
set_option linter.unusedSimpArgs false
set_option linter.unusedVariables false
set_option linter.unusedSimpArgs false
namespace Go.Eng
set_option maxRecDepth 100000
set_option maxHeartbeats 1000000
theorem zl_byt {m : List Nat} (h : ∀ x ∈ m, x < 256) : byt (zl m) := fun y hy => by
 obtain ⟨x, hx, rfl⟩ := List.mem_map.1 hy
 have := h x hx
 omega
theorem zl_inj : ∀ {a b : List Nat}, zl a = zl b -> a = b
 | [], [], _ => rfl
 | x :: xs, y :: ys, h => by
  rw [zl_cons, zl_cons] at h
  injection h with h1 h2
  rw [Int.ofNat_inj.1 h1, zl_inj h2]
theorem limbs_inj {w n x y : Nat} (hx : x < 2 ^ (w * n)) (hy : y < 2 ^ (w * n)) (h : limbsN w n x = limbsN w n y) : x = y := by
 have := congrArg (valN w) h
 rw [valN_limbs, valN_limbs, Nat.mod_eq_of_lt hx, Nat.mod_eq_of_lt hy] at this
 exact this
theorem c256 : (2 : Nat) ^ (8 * 32) = 115792089237316195423570985008687907853269984665640564039457584007913129639936 := by decide
theorem bytesP_len (x : Int) : (bytesP x).length = 32 := by unfold bytesP; rw [zl_len, limbsN_len]
theorem bytesP_byt (x : Int) : byt (bytesP x) := zl_byt (limbsN_lt 8 32 _)
theorem bytesP_inj {x y : Int} (hx : 0 ≤ x /\ x < PP) (hy : 0 ≤ y /\ y < PP) (h : bytesP x = bytesP y) : x = y := by
 have := limbs_inj (by rw [c256]; unfold PP at hx; omega) (by rw [c256]; unfold PP at hy; omega) (zl_inj h)
 omega
theorem Same_some {a b : T_field_Elem} (ha : EOk a) (hb : EOk b) : field_Elem_Same a b = some (decide (res a = res b)) := by
 unfold field_Elem_Same
 rw [Bytes_some ha, Option.bind_some, Bytes_some hb, Option.bind_some, List.take_of_length_le (by rw [bytesP_len]; exact Nat.le_refl _), List.take_of_length_le (by rw [bytesP_len]; exact Nat.le_refl _), Equal_is (bytesP_byt _) (bytesP_byt _) (by rw [bytesP_len]; decide), Option.bind_some]
 congr 1
 have : (bytesP (res a) = bytesP (res b)) ↔ res a = res b := ⟨fun h => bytesP_inj (res_range a) (res_range b) h, fun h => by rw [h]⟩
 simp only [this]
theorem Odd_some {a : T_field_Elem} (ha : EOk a) : field_Elem_Odd a = some (decide (res a % 2 = 1)) := by
 obtain ⟨r0, r1⟩ := res_range a
 unfold field_Elem_Odd
 rw [least_some ha, Option.bind_some]
 simp only [zl_getD]
 have e : (limbsN 26 10 (res a).toNat).getD 0 0 = (res a).toNat % 2 ^ 26 := rfl
 have hlt : (res a).toNat % 2 ^ 26 < 18446744073709551616 := Nat.lt_trans (Nat.mod_lt _ (by decide)) (by decide)
 rw [e, and1_64 hlt]
 congr 1
 have : (res a).toNat % 2 ^ 26 % 2 = (res a).toNat % 2 := Nat.mod_mod_of_dvd _ ⟨2 ^ 25, rfl⟩
 rw [this]
 by_cases h : res a % 2 = 1
 ·rw [decide_eq_true h, beq_iff_eq]; omega
 ·rw [decide_eq_false h, beq_eq_false_iff_ne]; omega
theorem Zero_l1 {b : List Int} (hb : byt b) (hle : b.length ≤ 1000000) : ∀ (n i : Nat) (c : Int), i ≤ b.length -> b.length < i + n -> (0 ≤ c /\ c < 256) ->
  ∃ r, words_Zero_l1 b n c (i : Int) = some r /\ (r = 0 ↔ c = 0 /\ ∀ x ∈ b.drop i, x = 0)
 | 0, i, c, h1, h2, hc => by omega
 | n + 1, i, c, h1, h2, hc => by
  rw [words_Zero_l1.eq_2]
  by_cases hlt : i < b.length
  ·rw [cond_tt (by simp <;> omega), if_pos ⟨by omega, by omega⟩, wrap_i64 (by omega) (by omega)]
   have e1 : b.drop i = b.getD i 0 :: b.drop (i + 1) := by
    rw [List.drop_eq_getElem_cons hlt]; simp [List.getD, List.getElem?_eq_getElem hlt]
   have hbi : 0 ≤ b.getD i 0 /\ b.getD i 0 < 256 := hb _ (by simp [List.getD, List.getElem?_eq_getElem hlt])
   obtain ⟨r, hr, hz⟩ := Zero_l1 hb hle n (i + 1) (or8 c (b.getD i 0)) (by omega) (by omega) (or8_byt _ _)
   refine ⟨r, hr, hz.trans ?_⟩
   rw [or8_zero hc hbi, e1]
   simp only [List.mem_cons, forall_eq_or_imp, and_assoc]
  ·rw [cond_ff (by simp <;> omega)]
   refine ⟨c, rfl, ?_⟩
   rw [List.drop_eq_nil_of_le (by omega)]
   simp
theorem Zero_some {a : T_field_Elem} (ha : EOk a) : field_Elem_Zero a = some (decide (res a = 0)) := by
 obtain ⟨r0, r1⟩ := res_range a
 unfold field_Elem_Zero words_Zero
 rw [Bytes_some ha, Option.bind_some, List.take_of_length_le (by rw [bytesP_len]; exact Nat.le_refl _)]
 obtain ⟨r, hr, hz⟩ := Zero_l1 (bytesP_byt (res a)) (by rw [bytesP_len]; decide) FUEL 0 0 (by omega) (by rw [bytesP_len, Nat.zero_add]; decide) (by omega)
 rw [show ((0 : Nat) : Int) = 0 from rfl] at hr
 rw [hr, Option.bind_some, Option.bind_some]
 congr 1
 rw [List.drop_zero] at hz
 by_cases h : res a = 0
 ·rw [decide_eq_true h, beq_iff_eq]
  refine hz.2 ⟨rfl, ?_⟩
  rw [h]
  intro x hx
  unfold bytesP at hx
  rw [show (0 : Int).toNat = 0 from rfl, limbs_zero, zl_rep] at hx
  exact List.eq_of_mem_replicate hx
 ·rw [decide_eq_false h, beq_eq_false_iff_ne]
  intro e
  have hall := (hz.1 e).2
  have h0 : limbsN 8 32 (res a).toNat = limbsN 8 32 0 := by
   apply List.ext_getElem (by rw [limbsN_len, limbsN_len])
   intro i h1 h2
   have m1 : ((limbsN 8 32 (res a).toNat)[i] : Int) ∈ bytesP (res a) := List.mem_map.2 ⟨_, List.getElem_mem h1, rfl⟩
   have z1 := hall _ m1
   have z2 : (limbsN 8 32 0)[i] = 0 := by
    have : (limbsN 8 32 0)[i] ∈ List.replicate 32 0 := by rw [← limbs_zero 8 32]; exact List.getElem_mem h2
    exact List.eq_of_mem_replicate this
   omega
  have := limbs_inj (by rw [c256]; unfold PP at r1; omega) (by rw [c256]; decide) h0
  omega
def e0 : T_field_Elem := ⟨List.replicate 10 0⟩
def e1 : T_field_Elem := ⟨[1, 0, 0, 0, 0, 0, 0, 0, 0, 0]⟩
theorem Small0 : field_Small 0 = some e0 := by kernel_rfl
theorem Small1 : field_Small 1 = some e1 := by kernel_rfl
theorem lim10 {l : List Int} (h : (l.all fun x => decide (0 ≤ x) && decide (x < 67108864)) = true) : Lim 67108864 l := lim_of fun x hx => by
 have := List.all_eq_true.1 h x hx
 simpa using this
theorem e0_ok : EOk e0 := ⟨lim10 (by decide), rfl⟩
theorem e1_ok : EOk e1 := ⟨lim10 (by decide), rfl⟩
theorem e0_res : res e0 = 0 := by decide
theorem e1_res : res e1 = 1 := by decide
end Go.Eng
