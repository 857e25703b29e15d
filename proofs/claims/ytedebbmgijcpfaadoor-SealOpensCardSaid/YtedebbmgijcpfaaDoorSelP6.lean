/-
  Part of a proof: SelP6.
-/
import Derived.Test.YtedebbmgijcpfaaDoorSelP5
import Derived.Test.YtedebbmgijcpfaaDoorSealP6
set_option linter.unusedVariables false
set_option linter.unusedSimpArgs false
set_option linter.unusedVariables false
set_option linter.unusedSimpArgs false
namespace Go.Eng
open Go.Proofs
set_option maxRecDepth 100000
set_option maxHeartbeats 1000000
theorem fill_l1_is : ∀ (j n : Nat) (x : List Int), j = (16 - x.length % 16) % 16 -> j < n -> x.length + j < 1000000 -> fr08_fill_l1 n x = some (.inr (x ++ List.replicate j 0))
 | _, 0, _, _, h, _ => absurd h (Nat.not_lt_zero _)
 | 0, n + 1, x, h, _, hl => by
  have : x.length % 16 = 0 := by omega
  have e : Int.tmod (x.length : Int) 16 = ((x.length % 16 : Nat) : Int) := rfl
  rw [fr08_fill_l1.eq_2, e, this, cond_ff (by rfl)]
  simp
 | j + 1, n + 1, x, h, h', hl => by
  have h0 : x.length % 16 ≠ 0 := by omega
  have e : Int.tmod (x.length : Int) 16 = ((x.length % 16 : Nat) : Int) := rfl
  rw [fr08_fill_l1.eq_2, e, cond_tt (by simp <;> omega), if_pos (by simp <;> omega), fill_l1_is j n (x ++ [0]) (by simp only [List.length_append, List.length_cons, List.length_nil]; omega) (by omega) (by simp only [List.length_append, List.length_cons, List.length_nil]; omega)]
  rw [List.append_assoc, List.replicate_succ]; rfl
theorem fillL_eq (b : List Int) (h : b.length < 1000000) : fillL b = List.replicate ((16 - b.length % 16) % 16) 0 := by
 unfold fillL
 have e : Int.tmod (b.length : Int) 16 = ((b.length % 16 : Nat) : Int) := rfl
 rw [e, wrap_i64 (by omega) (by omega), show (16 : Int) - ((b.length % 16 : Nat) : Int) = ((16 - b.length % 16 : Nat) : Int) by omega]
 have e2 : Int.tmod ((16 - b.length % 16 : Nat) : Int) 16 = (((16 - b.length % 16) % 16 : Nat) : Int) := rfl
 rw [e2, Int.toNat_natCast]
theorem fill_is {b : List Int} (h : b.length < 900000) : fr08_fill b = some (b ++ fillL b) := by
 unfold fr08_fill
 have := fill_l1_is _ FUEL b rfl (Nat.lt_trans (Nat.mod_lt _ (by decide)) (show 16 < FUEL by decide)) (by omega)
 rw [List.nil_append, if_pos (by simp <;> omega), this, fillL_eq b (by omega)]; rfl
def sh8 (x : Int) : Int := Int.fdiv x (2 ^ 8)
def td8 (x : Int) : Int := IntKind.wrap .u64 (Int.tdiv x 256)
theorem td8_eq {x : Int} (h : 0 ≤ x) (h' : x < 18446744073709551616) : td8 x = sh8 x /\ 0 ≤ sh8 x /\ sh8 x < 18446744073709551616 /\ IntKind.wrap .u8 (Int.tmod x 256) = IntKind.wrap .u8 x := by
 have e1 : sh8 x = x / 256 := by unfold sh8; rw [Int.fdiv_eq_ediv_of_nonneg x (by decide)]; rfl
 unfold td8
 rw [Int.tdiv_eq_ediv_of_nonneg h, Int.tmod_eq_emod_of_nonneg h, e1, wrap_u64, wrap_u8, wrap_u8]
 refine ⟨?_, ?_, ?_, ?_⟩ <;> omega
theorem Put_is (x : Int) : words_PutLittle x 8 = some (.inl [IntKind.wrap .u8 x, IntKind.wrap .u8 (sh8 x), IntKind.wrap .u8 (sh8 (sh8 x)), IntKind.wrap .u8 (sh8 (sh8 (sh8 x))), IntKind.wrap .u8 (sh8 (sh8 (sh8 (sh8 x)))), IntKind.wrap .u8 (sh8 (sh8 (sh8 (sh8 (sh8 x))))), IntKind.wrap .u8 (sh8 (sh8 (sh8 (sh8 (sh8 (sh8 x)))))), IntKind.wrap .u8 (sh8 (sh8 (sh8 (sh8 (sh8 (sh8 (sh8 x))))))) ]) := by kernel_rfl
def tm8 (x : Int) : Int := IntKind.wrap .u8 (Int.tmod x 256)
theorem Little_raw (x : Int) : fr01_Little x 8 = some [tm8 x, tm8 (td8 x), tm8 (td8 (td8 x)), tm8 (td8 (td8 (td8 x))), tm8 (td8 (td8 (td8 (td8 x)))), tm8 (td8 (td8 (td8 (td8 (td8 x))))), tm8 (td8 (td8 (td8 (td8 (td8 (td8 x)))))), tm8 (td8 (td8 (td8 (td8 (td8 (td8 (td8 x)))))))] := by kernel_rfl
theorem Little_is {b : List Int} : fr01_Little (IntKind.wrap .u64 (b.length : Int)) 8 = some (countL b) := by
 unfold countL
 have h0 : 0 ≤ IntKind.wrap .u64 (b.length : Int) := by rw [wrap_u64]; omega
 have h0' : IntKind.wrap .u64 (b.length : Int) < 18446744073709551616 := by rw [wrap_u64]; omega
 generalize IntKind.wrap .u64 (b.length : Int) = x at *
 obtain ⟨a1, b1, c1, d1⟩ := td8_eq h0 h0'
 obtain ⟨a2, b2, c2, d2⟩ := td8_eq b1 c1
 obtain ⟨a3, b3, c3, d3⟩ := td8_eq b2 c2
 obtain ⟨a4, b4, c4, d4⟩ := td8_eq b3 c3
 obtain ⟨a5, b5, c5, d5⟩ := td8_eq b4 c4
 obtain ⟨a6, b6, c6, d6⟩ := td8_eq b5 c5
 obtain ⟨a7, b7, c7, d7⟩ := td8_eq b6 c6
 obtain ⟨a8, b8, c8, d8⟩ := td8_eq b7 c7
 rw [Little_raw, Put_is, a1, a2, a3, a4, a5, a6, a7]
 unfold tm8
 rw [d1, d2, d3, d4, d5, d6, d7, d8]
theorem l64 {α : Type} {l : List α} (h : l.length = 64) : ∃ a b, l = a ++ b /\ a.length = 32 /\ b.length = 32 := ⟨l.take 32, l.drop 32, (List.take_append_drop 32 l).symm, by rw [List.length_take]; omega, by rw [List.length_drop]; omega⟩
theorem once_raw {x : List Int} (h : x.length = 64) : fr08_code_l1 x FUEL 0 (List.replicate 32 0) = some (over (List.replicate 32 (0 : Int)) 0 (List.take 32 (List.take (List.length x) x))) := by
 obtain ⟨a, b, rfl, ha, hb⟩ := l64 h
 obtain ⟨a0, a1, a2, a3, a4, a5, a6, a7, a8, a9, a10, a11, a12, a13, a14, a15, a16, a17, a18, a19, a20, a21, a22, a23, a24, a25, a26, a27, a28, a29, a30, a31, rfl⟩ := list32 ha
 obtain ⟨b0, b1, b2, b3, b4, b5, b6, b7, b8, b9, b10, b11, b12, b13, b14, b15, b16, b17, b18, b19, b20, b21, b22, b23, b24, b25, b26, b27, b28, b29, b30, b31, rfl⟩ := list32 hb
 kernel_rfl
theorem once_is {k n : List Int} (hk : k.length = 32) (hn : n.length = 12) : fr08_code_l1 (blockL k 0 n) FUEL 0 (List.replicate 32 0) = some (onceL k n) := once_raw (Block_is 0 hk hn).2
end Go.Eng
