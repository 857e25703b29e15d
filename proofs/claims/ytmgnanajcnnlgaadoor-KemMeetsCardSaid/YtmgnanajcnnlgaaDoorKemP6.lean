/-
  Part of a proof: KemP6.
-/
import Derived.Test.YtmgnanajcnnlgaaDoorKemB
set_option linter.unusedVariables false
set_option linter.unusedSimpArgs false
namespace Go.Eng
set_option maxRecDepth 100000
set_option maxHeartbeats 1000000
def zl (l : List Nat) : List Int := l.map (fun (n : Nat) => (n : Int))
theorem zl_getD (l : List Nat) (j : Nat) : (zl l).getD j 0 = ((l.getD j 0 : Nat) : Int) := by
 unfold zl; simp only [List.getD, List.getElem?_map]; cases l[j]? <;> rfl
theorem zl_set (l : List Nat) (j x : Nat) : (zl l).set j (x : Int) = zl (l.set j x) := by unfold zl; rw [List.map_set]
theorem zl_len (l : List Nat) : (zl l).length = l.length := List.length_map ..
theorem zl_cons (x : Nat) (l : List Nat) : zl (x :: l) = (x : Int) :: zl l := rfl
theorem zl_rep (n x : Nat) : zl (List.replicate n x) = List.replicate n (x : Int) := by simp [zl]
theorem lim_zl {n : Nat} : ∀ {l : List Int}, Lim n l -> ∃ m : List Nat, l = zl m /\ m.length = l.length /\ ∀ x ∈ m, x < n
 | [], _ => ⟨[], rfl, rfl, fun _ h => by simp at h⟩
 | x :: xs, ⟨⟨a, b⟩, c⟩ => by
  obtain ⟨m, rfl, h1, h2⟩ := lim_zl c
  obtain ⟨k, rfl⟩ := Int.eq_ofNat_of_zero_le a
  refine ⟨k :: m, rfl, by simp [h1], fun y hy => ?_⟩
  rcases List.mem_cons.1 hy with rfl | hy
  ·exact Int.ofNat_lt.1 b
  ·exact h2 y hy
theorem zl_lim {n : Nat} : ∀ {m : List Nat}, (∀ x ∈ m, x < n) -> Lim n (zl m)
 | [], _ => trivial
 | x :: _, h => ⟨⟨Int.natCast_nonneg x, Int.ofNat_lt.2 (h x (List.mem_cons_self ..))⟩, zl_lim fun y hy => h y (List.mem_cons_of_mem _ hy)⟩
theorem i64n {n : Nat} (h : n < 9223372036854775808) : IntKind.wrap .i64 (n : Int) = n := wrap_i64 (by omega) (by omega)
theorem u64n (n : Nat) : IntKind.wrap .u64 (n : Int) = ((n % 18446744073709551616 : Nat) : Int) := by rw [wu64]; rfl
theorem u32n (n : Nat) : IntKind.wrap .u32 (n : Int) = ((n % 4294967296 : Nat) : Int) := by rw [wu32]; rfl
theorem u8n (n : Nat) : IntKind.wrap .u8 (n : Int) = ((n % 256 : Nat) : Int) := by rw [wu8]; rfl
theorem fdivn (a m : Nat) : Int.fdiv (a : Int) (2 ^ m) = ((a / 2 ^ m : Nat) : Int) := by
 have h : ((2 : Int) ^ m) = ((2 ^ m : Nat) : Int) := by rw [Int.natCast_pow]; rfl
 rw [h, Int.fdiv_eq_ediv_of_nonneg _ (Int.natCast_nonneg _)]; rfl
theorem muln (a m : Nat) : (a : Int) * 2 ^ m = ((a * 2 ^ m : Nat) : Int) := by rw [Int.natCast_mul, Int.natCast_pow]; rfl
theorem bits_and8 {n m : Nat} (hn : n < 256) (hm : m < 256) : bits .u8 .and (n : Int) (m : Int) = ((n &&& m : Nat) : Int) := by
 show IntKind.u8.wrap (((BitVec.ofInt 8 n &&& BitVec.ofInt 8 m : BitVec 8).toNat : Nat) : Int) = _
 rw [BitVec.ofInt_natCast, BitVec.ofInt_natCast, BitVec.toNat_and, BitVec.toNat_ofNat, BitVec.toNat_ofNat, wu8]
 simp only [Nat.reducePow]
 rw [Nat.mod_eq_of_lt hn, Nat.mod_eq_of_lt hm, Int.emod_eq_of_lt (by omega)]
 have := Nat.and_le_left (n := n) (m := m)
 omega
theorem bits_or8 {n m : Nat} (hn : n < 256) (hm : m < 256) : bits .u8 .or (n : Int) (m : Int) = ((n ||| m : Nat) : Int) := by
 show IntKind.u8.wrap (((BitVec.ofInt 8 n ||| BitVec.ofInt 8 m : BitVec 8).toNat : Nat) : Int) = _
 rw [BitVec.ofInt_natCast, BitVec.ofInt_natCast, BitVec.toNat_or, BitVec.toNat_ofNat, BitVec.toNat_ofNat, wu8]
 simp only [Nat.reducePow]
 rw [Nat.mod_eq_of_lt hn, Nat.mod_eq_of_lt hm, Int.emod_eq_of_lt (by omega)]
 have := Nat.or_lt_two_pow (n := 8) hn hm
 omega
theorem and1_8 {n : Nat} (hn : n < 256) : bits .u8 .and (n : Int) 1 = ((n % 2 : Nat) : Int) := by
 have := bits_and8 (n := n) (m := 1) hn (by decide)
 rw [show ((1 : Nat) : Int) = 1 from rfl] at this
 rw [this, Nat.and_one_is_mod]
theorem and1_64 {n : Nat} (hn : n < 18446744073709551616) : bits .u64 .and (n : Int) 1 = ((n % 2 : Nat) : Int) := by
 have := bits_and64 (n := n) (m := 1) hn (by decide)
 rw [show ((1 : Nat) : Int) = 1 from rfl] at this
 rw [this, Nat.and_one_is_mod]
theorem limbsN_lt (w : Nat) (n x : Nat) : ∀ y ∈ limbsN w n x, y < 2 ^ w := by
 induction n generalizing x with
 | zero => intro y h; simp [limbsN] at h
 | succ n ih =>
  intro y h
  rcases List.mem_cons.1 h with rfl | h
  ·exact Nat.mod_lt _ (Nat.two_pow_pos w)
  ·exact ih _ y h
theorem getD_lt {l : List Nat} {b : Nat} (h : ∀ x ∈ l, x < b) (hb : 0 < b) (j : Nat) : l.getD j 0 < b := by
 simp only [List.getD]
 cases e : l[j]? with
 | none => exact hb
 | some x => exact h x (List.mem_of_getElem? e)
theorem Read_l1 (N : Nat) : ∀ (n i : Nat), i ≤ 255 -> 255 < n + i -> field_Read_l1 (zl (limbsN 8 32 N)) n (i : Int) (zl (limbsN 26 10 (N % 2 ^ i))) = some (zl (limbsN 26 10 (N % 2 ^ 255)))
 | 0, i, h, h' => by omega
 | n + 1, i, h, h' => by
  rw [field_Read_l1.eq_2]
  by_cases hi : i < 255
  ·rw [cond_tt (by simp; omega)]
   have e1 : Int.tdiv (i : Int) 26 = ((i / 26 : Nat) : Int) := rfl
   have e2 : Int.tdiv (i : Int) 8 = ((i / 8 : Nat) : Int) := rfl
   have e3 : Int.tmod (i : Int) 8 = ((i % 8 : Nat) : Int) := rfl
   have e4 : Int.tmod (i : Int) 26 = ((i % 26 : Nat) : Int) := rfl
   have m1 : min (i % 8) (IntKind.bits .u8) = i % 8 := by show min _ 8 = _; omega
   have m2 : min (i % 26) (IntKind.bits .u64) = i % 26 := by show min _ 64 = _; omega
   have hb : (limbsN 8 32 N).getD (i / 8) 0 < 256 := getD_lt (limbsN_lt 8 32 N) (by decide) _
   have hb' : (limbsN 8 32 N).getD (i / 8) 0 / 2 ^ (i % 8) < 256 := Nat.lt_of_le_of_lt (Nat.div_le_self _ _) hb
   have hbit := limbsN_bit 8 (by decide) 32 N i (by omega)
   obtain ⟨s1, s2⟩ := limbsN_set 26 (by decide) 10 N i (by omega)
   have p1 : (2 : Nat) ^ (i % 26) ≤ 2 ^ 25 := Nat.pow_le_pow_right (by decide) (by omega)
   have hlt : (N / 2 ^ i % 2) * 2 ^ (i % 26) < 67108864 := by
    have : (N / 2 ^ i % 2) * 2 ^ (i % 26) ≤ 1 * 2 ^ 25 := Nat.mul_le_mul (by omega) p1
    omega
   simp only [nm_eq, e1, e2, e3, e4, i64n (n := i / 26) (by omega), i64n (n := i / 8) (by omega), Int.toNat_natCast, m1, m2, zl_getD, fdivn, and1_8 hb', hbit]
   rw [if_pos (by omega), if_pos (by omega), if_pos (by omega), if_pos (by omega), if_pos (by omega)]
   rw [u64n, Nat.mod_eq_of_lt (a := N / 2 ^ i % 2) (by omega), muln, u64n, Nat.mod_eq_of_lt (a := N / 2 ^ i % 2 * 2 ^ (i % 26)) (by omega)]
   rw [bits_or64 (by have := Nat.lt_of_lt_of_le s1 p1; omega) (by omega), or_add s1, zl_set, s2]
   rw [show (i : Int) + 1 = ((i + 1 : Nat) : Int) from rfl, i64n (by omega)]
   exact Read_l1 N n (i + 1) (by omega) (by omega)
  ·have : i = 255 := by omega
   subst this
   rw [cond_ff (by decide)]
theorem limbs_zero (w n : Nat) : limbsN w n 0 = List.replicate n 0 := by
 induction n with
 | zero => rfl
 | succ n ih => rw [limbsN, Nat.zero_div, ih, Nat.zero_mod]; rfl
theorem Read_eq (N : Nat) : field_Read (zl (limbsN 8 32 N)) = some ⟨zl (limbsN 26 10 (N % 2 ^ 255))⟩ := by
 have h := Read_l1 N FUEL 0 (by omega) (by show 255 < 18446744073709551616 + 0; omega)
 rw [Nat.pow_zero, Nat.mod_one, limbs_zero, zl_rep] at h
 show (field_Read_l1 _ FUEL 0 (List.replicate 10 0)).bind _ = _
 rw [show (0 : Int) = ((0 : Nat) : Int) from rfl, h]; rfl
end Go.Eng
