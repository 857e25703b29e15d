/-
  Part of a proof: SealP4.
-/
import Derived.Test.YtedebbmgijcpfaaDoorSealP3
set_option linter.unusedVariables false
set_option linter.unusedSimpArgs false
namespace Go.Eng
set_option maxRecDepth 100000
set_option maxHeartbeats 1000000
def turnS (k n : List Int) (c : Int) (b : List Int) : List Int := turnL k n 1025 c b
theorem Turn_is {k n : List Int} (hk : k.length = 32) (hn : n.length = 12) (c : Int) {b : List Int} (hb : b.length ≤ 65536) : stream_Turn k c n b = some (.inl (turnS k n c b)) := by
 unfold stream_Turn
 rw [cond_ff (by simp [hn]), cond_ff (by simp <;> omega)]
 rw [show slices_Chunk_byte_byte b 64 = some () from rfl, Option.bind_some]
 obtain ⟨m, e, hm⟩ := FUEL_pos 1000001 (by decide)
 obtain ⟨c', h⟩ := Turn_l1 hk hn b hb FUEL 1025 0 c [] (by omega) (by simp) (by omega) (by rw [e]; omega)
 rw [show ((0 : Nat) : Int) = 0 from rfl] at h
 rw [h, Option.bind_some]
 dsimp only
 rw [Option.bind_some, List.nil_append]
 dsimp only
 rw [List.drop_zero]; rfl
def fillL (b : List Int) : List Int := List.replicate (Int.toNat (Int.tmod (IntKind.wrap .i64 (16 - (Int.tmod (List.length b : Int) 16))) 16)) 0
theorem filled_is {b : List Int} : seal_filled b = some (fillL b) /\ (fillL b).length ≤ 15 := by
 have h1 : 0 ≤ Int.tmod (b.length : Int) 16 := Int.tmod_nonneg _ (by omega)
 have h2 : Int.tmod (b.length : Int) 16 < 16 := Int.tmod_lt_of_pos _ (by omega)
 have hw : IntKind.wrap .i64 (16 - Int.tmod (b.length : Int) 16) = 16 - Int.tmod (b.length : Int) 16 := wrap_i64 (by omega) (by omega)
 have h3 : 0 ≤ Int.tmod (16 - Int.tmod (b.length : Int) 16) 16 := Int.tmod_nonneg _ (by omega)
 have h4 : Int.tmod (16 - Int.tmod (b.length : Int) 16) 16 < 16 := Int.tmod_lt_of_pos _ (by omega)
 constructor
 ·unfold seal_filled
  rw [nm_eq, if_pos ⟨by rw [hw]; omega, by rw [hw]; omega, by rw [hw]; omega, by rw [hw]; omega⟩]
  rfl
 ·unfold fillL; rw [List.length_replicate, hw]; omega
theorem PutLittle8 (x : Int) : ∃ l, words_PutLittle x 8 = some (.inl l) /\ l.length = 8 := by
 obtain ⟨r, h1, h2⟩ := some_of_map (o := words_PutLittle x 8) (f := fun r => match r with | .inl b => b.length | .inr _ => 0) (b := 8) (by kernel_rfl)
 match r, h2 with
 | .inl b, h2 => exact ⟨b, h1, h2⟩
def countL (b : List Int) : List Int := match words_PutLittle (IntKind.wrap .u64 (b.length : Int)) 8 with
 | some (.inl l) => l
 | _ => []
theorem count_is (b : List Int) : seal_count b = some (8, countL b) /\ (countL b).length = 8 := by
 obtain ⟨l, h, hl⟩ := PutLittle8 (IntKind.wrap .u64 (b.length : Int))
 unfold seal_count countL
 rw [h]
 exact ⟨rfl, hl⟩
def onceL (k n : List Int) : List Int := over (List.replicate 32 (0 : Int)) 0 (List.take 32 (List.take (List.length (blockL k 0 n)) (blockL k 0 n)))
theorem once_len {k n : List Int} (hk : k.length = 32) (hn : n.length = 12) : (onceL k n).length = 32 := by
 have h := (Block_is 0 hk hn).2
 unfold onceL over
 simp [h]
theorem code_is {k n : List Int} (hk : k.length = 32) (hn : n.length = 12) (w t : List Int) :
  seal_code k n w t = some (.inl (onceL k n, (fillL w).length, (fillL t).length, 8, 8, fillL w, fillL t, countL w, countL t)) := by
 unfold seal_code
 rw [(Block_is 0 hk hn).1, Option.bind_some]
 simp only [nm_eq, filled_is.1, (count_is _).1, Option.bind_some]
 rfl
theorem code_2_is {k n : List Int} (hk : k.length = 32) (hn : n.length = 12) (w t : List Int) :
  seal_code_2 k n w t = some (.inl (onceL k n, (fillL w).length, (fillL t).length, 8, 8, fillL w, fillL t, countL w, countL t)) := code_is hk hn w t
theorem Grow_is {x : Int} (h : 0 ≤ x) (h' : x ≤ 1000000) : ∃ g, slices_Grow_byte_byte_2 x = some (0, g) := by
 unfold slices_Grow_byte_byte_2
 rw [cond_ff (by simp <;> omega), wrap_i64 (by omega) (by omega)]
 by_cases hx : x - 0 > 0
 ·refine ⟨List.replicate (Int.toNat (x - 0)) 0, ?_⟩
  rw [cond_tt (by simp <;> omega), if_pos ⟨by omega, by omega⟩, nm_eq, if_pos (by omega)]
  rfl
 ·refine ⟨[], ?_⟩
  rw [cond_ff (by simp <;> omega)]
  rfl
theorem Concat_is (A B C D E F : List Int) (h : A.length + B.length + C.length + D.length + E.length + F.length ≤ 1000000) :
  slices_Concat_byte_byte A B.length C.length D.length E.length F.length B C D E F = some (A ++ B ++ C ++ D ++ E ++ F) := by
 have w1 : IntKind.i64.wrap (0 + (A.length : Int)) = (A.length : Int) := by rw [wrap_i64 (by omega) (by omega)]; omega
 have w2 : IntKind.i64.wrap ((A.length : Int) + (B.length : Int)) = (A.length : Int) + (B.length : Int) := wrap_i64 (by omega) (by omega)
 have w3 : IntKind.i64.wrap ((A.length : Int) + (B.length : Int) + (C.length : Int)) = (A.length : Int) + (B.length : Int) + (C.length : Int) := wrap_i64 (by omega) (by omega)
 have w4 : IntKind.i64.wrap ((A.length : Int) + (B.length : Int) + (C.length : Int) + (D.length : Int)) = (A.length : Int) + (B.length : Int) + (C.length : Int) + (D.length : Int) := wrap_i64 (by omega) (by omega)
 have w5 : IntKind.i64.wrap ((A.length : Int) + (B.length : Int) + (C.length : Int) + (D.length : Int) + (E.length : Int)) = (A.length : Int) + (B.length : Int) + (C.length : Int) + (D.length : Int) + (E.length : Int) := wrap_i64 (by omega) (by omega)
 have w6 : IntKind.i64.wrap ((A.length : Int) + (B.length : Int) + (C.length : Int) + (D.length : Int) + (E.length : Int) + (F.length : Int)) = (A.length : Int) + (B.length : Int) + (C.length : Int) + (D.length : Int) + (E.length : Int) + (F.length : Int) := wrap_i64 (by omega) (by omega)
 obtain ⟨g, hg⟩ := Grow_is (x := (A.length : Int) + (B.length : Int) + (C.length : Int) + (D.length : Int) + (E.length : Int) + (F.length : Int)) (by omega) (by omega)
 unfold slices_Concat_byte_byte
 simp only [nm_eq, w1, w2, w3, w4, w5, w6]
 rw [cond_ff (by simp <;> omega), cond_ff (by simp <;> omega), cond_ff (by simp <;> omega), cond_ff (by simp <;> omega), cond_ff (by simp <;> omega), cond_ff (by simp <;> omega), Option.bind_some, hg, Option.bind_some]
 simp only [List.take_length, List.take_zero, List.nil_append, List.length_append]
 rw [if_pos (by omega), if_pos (by omega), if_pos (by omega), if_pos (by omega), if_pos (by omega), if_pos (by omega), if_pos (by omega)]
 rfl
theorem Concat_2_is (A B C D E F : List Int) (h : A.length + B.length + C.length + D.length + E.length + F.length ≤ 1000000) :
  slices_Concat_byte_byte_2 A B.length C D.length E.length F.length B D E F = some (A ++ B ++ C ++ D ++ E ++ F) := by
 have w1 : IntKind.i64.wrap (0 + (A.length : Int)) = (A.length : Int) := by rw [wrap_i64 (by omega) (by omega)]; omega
 have w2 : IntKind.i64.wrap ((A.length : Int) + (B.length : Int)) = (A.length : Int) + (B.length : Int) := wrap_i64 (by omega) (by omega)
 have w3 : IntKind.i64.wrap ((A.length : Int) + (B.length : Int) + (C.length : Int)) = (A.length : Int) + (B.length : Int) + (C.length : Int) := wrap_i64 (by omega) (by omega)
 have w4 : IntKind.i64.wrap ((A.length : Int) + (B.length : Int) + (C.length : Int) + (D.length : Int)) = (A.length : Int) + (B.length : Int) + (C.length : Int) + (D.length : Int) := wrap_i64 (by omega) (by omega)
 have w5 : IntKind.i64.wrap ((A.length : Int) + (B.length : Int) + (C.length : Int) + (D.length : Int) + (E.length : Int)) = (A.length : Int) + (B.length : Int) + (C.length : Int) + (D.length : Int) + (E.length : Int) := wrap_i64 (by omega) (by omega)
 have w6 : IntKind.i64.wrap ((A.length : Int) + (B.length : Int) + (C.length : Int) + (D.length : Int) + (E.length : Int) + (F.length : Int)) = (A.length : Int) + (B.length : Int) + (C.length : Int) + (D.length : Int) + (E.length : Int) + (F.length : Int) := wrap_i64 (by omega) (by omega)
 obtain ⟨g, hg⟩ := Grow_is (x := (A.length : Int) + (B.length : Int) + (C.length : Int) + (D.length : Int) + (E.length : Int) + (F.length : Int)) (by omega) (by omega)
 unfold slices_Concat_byte_byte_2
 simp only [nm_eq, w1, w2, w3, w4, w5, w6]
 rw [cond_ff (by simp <;> omega), cond_ff (by simp <;> omega), cond_ff (by simp <;> omega), cond_ff (by simp <;> omega), cond_ff (by simp <;> omega), cond_ff (by simp <;> omega), Option.bind_some, hg, Option.bind_some]
 simp only [List.take_length, List.take_zero, List.nil_append, List.length_append]
 rw [if_pos (by omega), if_pos (by omega), if_pos (by omega), if_pos (by omega), if_pos (by omega), if_pos (by omega), if_pos (by omega)]
 rfl
end Go.Eng
