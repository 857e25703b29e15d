/-
  Part of a proof: SgH2.
-/
import Derived.Test.YtifjekgjjinijaaDoorSgH1
set_option linter.unusedVariables false
set_option linter.unusedSimpArgs false
set_option linter.unusedVariables false
set_option linter.unusedSimpArgs false
namespace Go.Eng
set_option maxRecDepth 100000
set_option maxHeartbeats 1000000
theorem S2_l1 (x : List Int) (y : Int) : ∀ n : Nat, shawide_Sum_2_l1 x y n = shawide_Sum_l1 x y n
 | 0 => rfl
 | n + 1 => by
  have ih := S2_l1 x y n
  funext i a
  rw [shawide_Sum_2_l1.eq_2, shawide_Sum_l1.eq_2, ih]
theorem S2_l2 (x m : List Int) : ∀ n : Nat, shawide_Sum_2_l2 x m n = shawide_Sum_l2 x m n
 | 0 => rfl
 | n + 1 => by
  have ih := S2_l2 x m n
  funext i a
  rw [shawide_Sum_2_l2.eq_2, shawide_Sum_l2.eq_2, ih]
theorem S2_l4 (x : List Int) (y : Int) : ∀ n : Nat, shawide_Sum_2_l4 x y n = shawide_Sum_l4 x y n
 | 0 => rfl
 | n + 1 => by
  have ih := S2_l4 x y n
  funext i a
  rw [shawide_Sum_2_l4.eq_2, shawide_Sum_l4.eq_2, ih]
theorem S2_l3 (x : List Int) : ∀ n : Nat, shawide_Sum_2_l3 x n = shawide_Sum_l3 x n
 | 0 => rfl
 | n + 1 => by
  have ih := S2_l3 x n
  funext i a
  rw [shawide_Sum_2_l3.eq_2, shawide_Sum_l3.eq_2, ih, S2_l4]
theorem S3_l1 (x : List Int) (y : Int) : ∀ n : Nat, shawide_Sum_3_l1 x y n = shawide_Sum_l1 x y n
 | 0 => rfl
 | n + 1 => by
  have ih := S3_l1 x y n
  funext i a
  rw [shawide_Sum_3_l1.eq_2, shawide_Sum_l1.eq_2, ih]
theorem S3_l2 (x m : List Int) : ∀ n : Nat, shawide_Sum_3_l2 x m n = shawide_Sum_l2 x m n
 | 0 => rfl
 | n + 1 => by
  have ih := S3_l2 x m n
  funext i a
  rw [shawide_Sum_3_l2.eq_2, shawide_Sum_l2.eq_2, ih]
theorem S3_l4 (x : List Int) (y : Int) : ∀ n : Nat, shawide_Sum_3_l4 x y n = shawide_Sum_l4 x y n
 | 0 => rfl
 | n + 1 => by
  have ih := S3_l4 x y n
  funext i a
  rw [shawide_Sum_3_l4.eq_2, shawide_Sum_l4.eq_2, ih]
theorem S3_l3 (x : List Int) : ∀ n : Nat, shawide_Sum_3_l3 x n = shawide_Sum_l3 x n
 | 0 => rfl
 | n + 1 => by
  have ih := S3_l3 x n
  funext i a
  rw [shawide_Sum_3_l3.eq_2, shawide_Sum_l3.eq_2, ih, S3_l4]
theorem S4_l1 (x : List Int) (y : Int) : ∀ n : Nat, shawide_Sum_4_l1 x y n = shawide_Sum_l1 x y n
 | 0 => rfl
 | n + 1 => by
  have ih := S4_l1 x y n
  funext i a
  rw [shawide_Sum_4_l1.eq_2, shawide_Sum_l1.eq_2, ih]
theorem S4_l2 (x m : List Int) : ∀ n : Nat, shawide_Sum_4_l2 x m n = shawide_Sum_l2 x m n
 | 0 => rfl
 | n + 1 => by
  have ih := S4_l2 x m n
  funext i a
  rw [shawide_Sum_4_l2.eq_2, shawide_Sum_l2.eq_2, ih]
theorem S4_l4 (x : List Int) (y : Int) : ∀ n : Nat, shawide_Sum_4_l4 x y n = shawide_Sum_l4 x y n
 | 0 => rfl
 | n + 1 => by
  have ih := S4_l4 x y n
  funext i a
  rw [shawide_Sum_4_l4.eq_2, shawide_Sum_l4.eq_2, ih]
theorem S4_l3 (x : List Int) : ∀ n : Nat, shawide_Sum_4_l3 x n = shawide_Sum_l3 x n
 | 0 => rfl
 | n + 1 => by
  have ih := S4_l3 x n
  funext i a
  rw [shawide_Sum_4_l3.eq_2, shawide_Sum_l3.eq_2, ih, S4_l4]
theorem Grow_is {x : Int} (h : 0 ≤ x) (h' : x ≤ 1000000) : ∃ g, slices_Grow_byte_byte_2 x = some (0, g) := by
 unfold slices_Grow_byte_byte_2
 rw [cond_ff (by simp <;> omega), wrap_i64 (by omega) (by omega)]
 by_cases hx : x - 0 > 0
 ·refine ⟨List.replicate (Int.toNat (x - 0)) 0, ?_⟩
  rw [cond_tt (by simp <;> omega), if_pos ⟨by omega, by omega⟩, nm_eq, if_pos (by omega)]
  rfl
 ·refine ⟨[], ?_⟩
  rw [cond_ff (by simp <;> omega)]
  rfl
theorem Concat_is {n : Nat} {l : List Int} (h : n ≤ 300000) : slices_Concat_byte_byte n l = some (l.take n) := by
 obtain ⟨g, hg⟩ := Grow_is (x := (n : Int)) (by omega) (by omega)
 have hl : (l.take n).length ≤ n := by rw [List.length_take]; omega
 have w : IntKind.wrap .i64 (0 + (n : Int)) = (n : Int) := by rw [wrap_i64 (by omega) (by omega)]; omega
 unfold slices_Concat_byte_byte
 rw [w, cond_ff (by simp <;> omega), Option.bind_some, hg, Option.bind_some]
 dsimp only
 rw [if_pos (by omega), if_pos (by omega), Option.bind_some]
 simp
theorem Concat2_is {n : Nat} {l : List Int} (h : n ≤ 300000) : slices_Concat_byte_byte_2 n l = some (l.take n) := by
 obtain ⟨g, hg⟩ := Grow_is (x := (n : Int)) (by omega) (by omega)
 have hl : (l.take n).length ≤ n := by rw [List.length_take]; omega
 have w : IntKind.wrap .i64 (0 + (n : Int)) = (n : Int) := by rw [wrap_i64 (by omega) (by omega)]; omega
 unfold slices_Concat_byte_byte_2
 rw [w, cond_ff (by simp <;> omega), Option.bind_some, hg, Option.bind_some]
 dsimp only
 rw [if_pos (by omega), if_pos (by omega), Option.bind_some]
 simp
theorem Concat3_is {a n m : Nat} {l k : List Int} (h : n ≤ 300000) (h' : m ≤ 300000) : slices_Concat_byte_byte_3 a n m l k = some ((l.drop a).take n ++ k.take m) := by
 obtain ⟨g, hg⟩ := Grow_is (x := (n : Int) + (m : Int)) (by omega) (by omega)
 have hl : ((l.drop a).take n).length ≤ n := by rw [List.length_take]; omega
 have hk : (k.take m).length ≤ m := by rw [List.length_take]; omega
 have w : IntKind.wrap .i64 (0 + (n : Int)) = (n : Int) := by rw [wrap_i64 (by omega) (by omega)]; omega
 have w2 : IntKind.wrap .i64 ((n : Int) + (m : Int)) = (n : Int) + (m : Int) := wrap_i64 (by omega) (by omega)
 unfold slices_Concat_byte_byte_3
 rw [w, w2, cond_ff (by simp <;> omega), nm_eq, cond_ff (by simp <;> omega), Option.bind_some, hg, Option.bind_some]
 dsimp only
 rw [if_pos (by omega), if_pos (by omega), List.take_zero, List.nil_append, if_pos (by omega), nm_eq]
 rfl
theorem Concat4_is {n m q : Nat} {l k j : List Int} (h : n ≤ 300000) (h' : m ≤ 300000) (h'' : q ≤ 300000) : slices_Concat_byte_byte_4 n m q l k j = some (l.take n ++ k.take m ++ j.take q) := by
 obtain ⟨g, hg⟩ := Grow_is (x := (n : Int) + (m : Int) + (q : Int)) (by omega) (by omega)
 have hl : (l.take n).length ≤ n := by rw [List.length_take]; omega
 have hk : (k.take m).length ≤ m := by rw [List.length_take]; omega
 have hj : (j.take q).length ≤ q := by rw [List.length_take]; omega
 have w : IntKind.wrap .i64 (0 + (n : Int)) = (n : Int) := by rw [wrap_i64 (by omega) (by omega)]; omega
 have w2 : IntKind.wrap .i64 ((n : Int) + (m : Int)) = (n : Int) + (m : Int) := wrap_i64 (by omega) (by omega)
 have w3 : IntKind.wrap .i64 ((n : Int) + (m : Int) + (q : Int)) = (n : Int) + (m : Int) + (q : Int) := wrap_i64 (by omega) (by omega)
 unfold slices_Concat_byte_byte_4
 rw [w, w2, cond_ff (by simp <;> omega), nm_eq, cond_ff (by simp <;> omega), w3, cond_ff (by simp <;> omega), Option.bind_some, hg, Option.bind_some]
 dsimp only
 rw [if_pos (by omega), if_pos (by omega), List.take_zero, List.nil_append, if_pos (by omega), nm_eq, if_pos (by rw [List.length_append]; omega)]
 rfl
theorem Concat5_is {n m q : Nat} {l k j : List Int} (h : n ≤ 300000) (h' : m ≤ 300000) (h'' : q ≤ 300000) : slices_Concat_byte_byte_5 n m q l k j = some (l.take n ++ k.take m ++ j.take q) := by
 have e : slices_Concat_byte_byte_5 n m q l k j = slices_Concat_byte_byte_4 n m q l k j := by rfl
 rw [e]; exact Concat4_is h h' h''
theorem Sum1_is {n : Nat} {l : List Int} (h : n ≤ 300000) : shawide_Sum n l = shaC (l.take n) := by
 unfold shawide_Sum shaC
 rw [show shawide_begin = some beginL from rfl, Option.bind_some, show shawide_padded n l = some () from rfl, Option.bind_some, Concat_is h, Option.bind_some]
theorem Sum2_is {a n m : Nat} {l k : List Int} (h : n ≤ 300000) (h' : m ≤ 300000) : shawide_Sum_2 a n m l k = shaC ((l.drop a).take n ++ k.take m) := by
 unfold shawide_Sum_2 shaC
 rw [show shawide_begin = some beginL from rfl, Option.bind_some, show shawide_padded_2 a n m l k = some () from rfl, Option.bind_some, Concat3_is h h', Option.bind_some]
 simp only [S2_l1, S2_l2, S2_l3]
theorem Sum3_is {n m q : Nat} {l k j : List Int} (h : n ≤ 300000) (h' : m ≤ 300000) (h'' : q ≤ 300000) : shawide_Sum_3 n m q l k j = shaC (l.take n ++ k.take m ++ j.take q) := by
 unfold shawide_Sum_3 shaC
 rw [show shawide_begin = some beginL from rfl, Option.bind_some, show shawide_padded_3 n m q l k j = some () from rfl, Option.bind_some, Concat4_is h h' h'', Option.bind_some]
 simp only [S3_l1, S3_l2, S3_l3]
theorem Sum4_is {n m q : Nat} {l k j : List Int} (h : n ≤ 300000) (h' : m ≤ 300000) (h'' : q ≤ 300000) : shawide_Sum_4 n m q l k j = shaC (l.take n ++ k.take m ++ j.take q) := by
 unfold shawide_Sum_4 shaC
 rw [show shawide_begin = some beginL from rfl, Option.bind_some, show shawide_padded_4 n m q l k j = some () from rfl, Option.bind_some, Concat5_is h h' h'', Option.bind_some]
 simp only [S4_l1, S4_l2, S4_l3]
end Go.Eng
