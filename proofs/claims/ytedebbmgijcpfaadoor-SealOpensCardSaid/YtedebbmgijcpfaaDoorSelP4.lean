/-
  Part of a proof: SelP4.
-/
import Derived.Test.YtedebbmgijcpfaaDoorSelP3
import Derived.Test.YtedebbmgijcpfaaDoorSealP3
set_option linter.unusedVariables false
set_option linter.unusedSimpArgs false
set_option linter.unusedVariables false
set_option linter.unusedSimpArgs false
namespace Go.Eng
open Go.Proofs
set_option maxRecDepth 100000
set_option maxHeartbeats 1000000
def dblN : Nat -> List Int -> List Int
 | 0, l => l
 | n + 1, l => dblN n (dblL l)
theorem dblN_len : ∀ (n : Nat) {l : List Int}, l.length = 16 -> (dblN n l).length = 16
 | 0, _, h => h
 | n + 1, _, h => dblN_len n (dbl_len h)
def by4 (x : Int) : List Int := [(IntKind.wrap .u8 x), (IntKind.wrap .u8 (Int.fdiv x (2 ^ 8))), (IntKind.wrap .u8 (Int.fdiv x (2 ^ 16))), (IntKind.wrap .u8 (Int.fdiv x (2 ^ 24)))]
def outL : List Int -> List Int -> List Int
 | x :: xs, s :: ss => by4 (IntKind.wrap .u32 (x + s)) ++ outL xs ss
 | _, _ => []
def orW (b0 b1 b2 b3 : Int) : Int := bits .u32 .or (bits .u32 .or (bits .u32 .or (IntKind.wrap .u32 b0) (IntKind.wrap .u32 ((IntKind.wrap .u32 b1) * 2 ^ 8))) (IntKind.wrap .u32 ((IntKind.wrap .u32 b2) * 2 ^ 16))) (IntKind.wrap .u32 ((IntKind.wrap .u32 b3) * 2 ^ 24))
def suW (b0 b1 b2 b3 : Int) : Int := IntKind.wrap .u32 ((IntKind.wrap .u32 ((IntKind.wrap .u32 ((IntKind.wrap .u32 b0) + (IntKind.wrap .u32 (256 * (IntKind.wrap .u32 b1))))) + (IntKind.wrap .u32 (65536 * (IntKind.wrap .u32 b2))))) + (IntKind.wrap .u32 (16777216 * (IntKind.wrap .u32 b3))))
theorem wrap_u32 (n : Int) : IntKind.u32.wrap n = n % 4294967296 := by simp [IntKind.wrap, IntKind.bits, IntKind.signed]
theorem bits_or32 {n m : Nat} (hn : n < 4294967296) (hm : m < 4294967296) : bits .u32 .or (n : Int) (m : Int) = ((n ||| m : Nat) : Int) := by
 show IntKind.u32.wrap (((BitVec.ofInt 32 n ||| BitVec.ofInt 32 m : BitVec 32).toNat : Nat) : Int) = _
 rw [BitVec.ofInt_natCast, BitVec.ofInt_natCast, BitVec.toNat_or, BitVec.toNat_ofNat, BitVec.toNat_ofNat, wrap_u32]
 simp only [Nat.reducePow]
 rw [Nat.mod_eq_of_lt hn, Nat.mod_eq_of_lt hm, Int.emod_eq_of_lt (by omega)]
 have := Nat.or_lt_two_pow (n := 32) hn hm
 omega
theorem or_add' {a r b : Nat} (h : a < 2 ^ r) : a ||| (b * 2 ^ r) = a + 2 ^ r * b := by
 rw [Nat.mul_comm b, Nat.or_comm, ← Nat.two_pow_add_eq_or_of_lt h, Nat.add_comm]
theorem or32_add {a b : Nat} (r : Nat) (h : a < 2 ^ r) (hb : b * 2 ^ r < 4294967296) (ha : a < 4294967296) : bits .u32 .or (a : Int) (((b * 2 ^ r : Nat)) : Int) = ((a + 2 ^ r * b : Nat) : Int) := by
 rw [bits_or32 ha hb, or_add' h]
theorem orW_eq {b0 b1 b2 b3 : Int} (h0 : 0 ≤ b0 /\ b0 < 256) (h1 : 0 ≤ b1 /\ b1 < 256) (h2 : 0 ≤ b2 /\ b2 < 256) (h3 : 0 ≤ b3 /\ b3 < 256) : orW b0 b1 b2 b3 = suW b0 b1 b2 b3 := by
 obtain ⟨x0, rfl⟩ := Int.eq_ofNat_of_zero_le h0.1
 obtain ⟨x1, rfl⟩ := Int.eq_ofNat_of_zero_le h1.1
 obtain ⟨x2, rfl⟩ := Int.eq_ofNat_of_zero_le h2.1
 obtain ⟨x3, rfl⟩ := Int.eq_ofNat_of_zero_le h3.1
 have e1 : ((x1 : Int) % 4294967296 * 2 ^ 8) % 4294967296 = ((x1 * 2 ^ 8 : Nat) : Int) := by omega
 have e2 : ((x2 : Int) % 4294967296 * 2 ^ 16) % 4294967296 = ((x2 * 2 ^ 16 : Nat) : Int) := by omega
 have e3 : ((x3 : Int) % 4294967296 * 2 ^ 24) % 4294967296 = ((x3 * 2 ^ 24 : Nat) : Int) := by omega
 have e0 : ((x0 : Int) % 4294967296) = ((x0 : Nat) : Int) := by omega
 unfold orW suW
 simp only [wrap_u32, e1, e2, e3, e0]
 rw [or32_add 8 (by omega) (by omega) (by omega), or32_add 16 (by omega) (by omega) (by omega), or32_add 24 (by omega) (by omega) (by omega)]
 omega
theorem begin_is (c k0 k1 k2 k3 k4 k5 k6 k7 k8 k9 k10 k11 k12 k13 k14 k15 k16 k17 k18 k19 k20 k21 k22 k23 k24 k25 k26 k27 k28 k29 k30 k31 n0 n1 n2 n3 n4 n5 n6 n7 n8 n9 n10 n11 : Int) :
  stream_begin [k0, k1, k2, k3, k4, k5, k6, k7, k8, k9, k10, k11, k12, k13, k14, k15, k16, k17, k18, k19, k20, k21, k22, k23, k24, k25, k26, k27, k28, k29, k30, k31] c [n0, n1, n2, n3, n4, n5, n6, n7, n8, n9, n10, n11]
  = some [1634760805, 857760878, 2036477234, 1797285236, orW k0 k1 k2 k3, orW k4 k5 k6 k7, orW k8 k9 k10 k11, orW k12 k13 k14 k15, orW k16 k17 k18 k19, orW k20 k21 k22 k23, orW k24 k25 k26 k27, orW k28 k29 k30 k31, c, orW n0 n1 n2 n3, orW n4 n5 n6 n7, orW n8 n9 n10 n11] := by kernel_rfl
theorem words_is (k0 k1 k2 k3 k4 k5 k6 k7 k8 k9 k10 k11 k12 k13 k14 k15 k16 k17 k18 k19 k20 k21 k22 k23 k24 k25 k26 k27 k28 k29 k30 k31 : Int) :
  fr06_Block_l1 [k0, k1, k2, k3, k4, k5, k6, k7, k8, k9, k10, k11, k12, k13, k14, k15, k16, k17, k18, k19, k20, k21, k22, k23, k24, k25, k26, k27, k28, k29, k30, k31] FUEL 0 [1634760805, 857760878, 2036477234, 1797285236]
  = some [1634760805, 857760878, 2036477234, 1797285236, suW k0 k1 k2 k3, suW k4 k5 k6 k7, suW k8 k9 k10 k11, suW k12 k13 k14 k15, suW k16 k17 k18 k19, suW k20 k21 k22 k23, suW k24 k25 k26 k27, suW k28 k29 k30 k31] := by kernel_rfl
theorem word_0 (n0 n1 n2 n3 n4 n5 n6 n7 n8 n9 n10 n11 : Int) : fr06_word [n0, n1, n2, n3, n4, n5, n6, n7, n8, n9, n10, n11] 0 = some (suW n0 n1 n2 n3) := by kernel_rfl
theorem word_1 (n0 n1 n2 n3 n4 n5 n6 n7 n8 n9 n10 n11 : Int) : fr06_word [n0, n1, n2, n3, n4, n5, n6, n7, n8, n9, n10, n11] 1 = some (suW n4 n5 n6 n7) := by kernel_rfl
theorem word_2 (n0 n1 n2 n3 n4 n5 n6 n7 n8 n9 n10 n11 : Int) : fr06_word [n0, n1, n2, n3, n4, n5, n6, n7, n8, n9, n10, n11] 2 = some (suW n8 n9 n10 n11) := by kernel_rfl
theorem pro_out {s x : List Int} (hs : s.length = 16) (hx : x.length = 16) : ∃ i, stream_Block_l2 s x FUEL 0 [] = some (i, outL x s) := by
 obtain ⟨a0, a1, a2, a3, a4, a5, a6, a7, a8, a9, a10, a11, a12, a13, a14, a15, rfl⟩ := l16 hs
 obtain ⟨b0, b1, b2, b3, b4, b5, b6, b7, b8, b9, b10, b11, b12, b13, b14, b15, rfl⟩ := l16 hx
 exact ⟨16, by kernel_rfl⟩
theorem ref_out {s x : List Int} {c n1 n2 n3 : Int} (hs : s.length = 12) (hx : x.length = 16) : fr06_Block_l3 c s n1 n2 n3 x FUEL 0 [] = some (outL x (s ++ [c, n1, n2, n3])) := by
 obtain ⟨a0, a1, a2, a3, a4, a5, a6, a7, a8, a9, a10, a11, rfl⟩ := list12 hs
 obtain ⟨b0, b1, b2, b3, b4, b5, b6, b7, b8, b9, b10, b11, b12, b13, b14, b15, rfl⟩ := l16 hx
 kernel_rfl
theorem pro_rounds (s : List Int) (hs : s.length = 16) : ∀ (m n i : Nat) (x : List Int), i + m = 10 -> m < n -> x.length = 16 -> stream_Block_l1 s n (i : Int) x = some (.inl (outL (dblN m x) s))
 | _, 0, _, _, _, h, _ => absurd h (Nat.not_lt_zero _)
 | 0, n + 1, i, x, h1, h2, hx => by
  rw [stream_Block_l1.eq_2, cond_ff (by simp <;> omega)]
  obtain ⟨j, e⟩ := pro_out hs hx
  rw [e]; rfl
 | m + 1, n + 1, i, x, h1, h2, hx => by
  rw [stream_Block_l1.eq_2, cond_tt (by simp <;> omega), double_is hx, Option.bind_some, wrap_i64 (by omega) (by omega)]
  exact pro_rounds s hs m n (i + 1) _ (by omega) (by omega) (dbl_len hx)
theorem ref_rounds {c : Int} {s : List Int} {a b d : Int} (hs : s.length = 12) : ∀ (m n i : Nat) (x : List Int), i + m = 10 -> m < n -> x.length = 16 -> fr06_Block_l2 c s a b d n (i : Int) x = some (dblN m x)
 | _, 0, _, _, _, h, _ => absurd h (Nat.not_lt_zero _)
 | 0, n + 1, i, x, h1, h2, hx => by
  rw [fr06_Block_l2.eq_2, cond_ff (by simp <;> omega)]; rfl
 | m + 1, n + 1, i, x, h1, h2, hx => by
  have hl : List.length (([] : List Int) ++ (s ++ [c, a, b, d])) = 16 := by simp [hs]
  have h1' := (rq0 hx).2.2
  have h2' := (rq1 h1').2.2
  have h3 := (rq2 h2').2.2
  have h4 := (rq3 h3).2.2
  have h5 := (rq4 h4).2.2
  have h6 := (rq5 h5).2.2
  have h7 := (rq6 h6).2.2
  rw [fr06_Block_l2.eq_2, cond_tt (by simp <;> omega), hl, (rq0 hx).1, Option.bind_some, (rq1 h1').1, Option.bind_some, (rq2 h2').1, Option.bind_some, (rq3 h3).1, Option.bind_some, (rq4 h4).1, Option.bind_some, (rq5 h5).1, Option.bind_some, (rq6 h6).1, Option.bind_some, (rq7 h7).1, Option.bind_some, wrap_i64 (by omega) (by omega)]
  exact ref_rounds hs m n (i + 1) _ (by omega) (by omega) (dbl_len hx)
end Go.Eng
