/-
  Part of a proof: KemP3.
-/
import Derived.Test.YtmgnanajcnnlgaaDoorKemP2
set_option linter.unusedVariables false
set_option linter.unusedSimpArgs false
namespace Go.Eng
set_option maxRecDepth 100000
set_option maxHeartbeats 1000000
theorem wu64 (n : Int) : IntKind.u64.wrap n = n % 18446744073709551616 := by simp [IntKind.wrap, IntKind.bits, IntKind.signed]
theorem wu32 (n : Int) : IntKind.u32.wrap n = n % 4294967296 := by simp [IntKind.wrap, IntKind.bits, IntKind.signed]
theorem wu8 (n : Int) : IntKind.u8.wrap n = n % 256 := by simp [IntKind.wrap, IntKind.bits, IntKind.signed]
theorem u64_id {n : Int} (h : 0 ≤ n) (h1 : n < 18446744073709551616) : IntKind.u64.wrap n = n := by rw [wu64, Int.emod_eq_of_lt h h1]
theorem bits_and64 {n m : Nat} (hn : n < 18446744073709551616) (hm : m < 18446744073709551616) : bits .u64 .and (n : Int) (m : Int) = ((n &&& m : Nat) : Int) := by
 show IntKind.u64.wrap (((BitVec.ofInt 64 n &&& BitVec.ofInt 64 m : BitVec 64).toNat : Nat) : Int) = _
 rw [BitVec.ofInt_natCast, BitVec.ofInt_natCast, BitVec.toNat_and, BitVec.toNat_ofNat, BitVec.toNat_ofNat, wu64]
 simp only [Nat.reducePow]
 rw [Nat.mod_eq_of_lt hn, Nat.mod_eq_of_lt hm, Int.emod_eq_of_lt (by omega)]
 have := Nat.and_le_left (n := n) (m := m)
 omega
theorem bits_or64 {n m : Nat} (hn : n < 18446744073709551616) (hm : m < 18446744073709551616) : bits .u64 .or (n : Int) (m : Int) = ((n ||| m : Nat) : Int) := by
 show IntKind.u64.wrap (((BitVec.ofInt 64 n ||| BitVec.ofInt 64 m : BitVec 64).toNat : Nat) : Int) = _
 rw [BitVec.ofInt_natCast, BitVec.ofInt_natCast, BitVec.toNat_or, BitVec.toNat_ofNat, BitVec.toNat_ofNat, wu64]
 simp only [Nat.reducePow]
 rw [Nat.mod_eq_of_lt hn, Nat.mod_eq_of_lt hm, Int.emod_eq_of_lt (by omega)]
 have := Nat.or_lt_two_pow (n := 64) hn hm
 omega
theorem mask26 {x : Int} (h : 0 ≤ x) (h1 : x < 18446744073709551616) : bits .u64 .and x 67108863 = x % 67108864 := by
 obtain ⟨n, rfl⟩ := Int.eq_ofNat_of_zero_le h
 have := bits_and64 (n := n) (m := 67108863) (by omega) (by omega)
 rw [show ((67108863 : Nat) : Int) = 67108863 from rfl] at this
 rw [this, show (67108863 : Nat) = 2 ^ 26 - 1 from rfl, Nat.and_two_pow_sub_one_eq_mod]
 omega
theorem mask21 {x : Int} (h : 0 ≤ x) (h1 : x < 18446744073709551616) : bits .u64 .and x 2097151 = x % 2097152 := by
 obtain ⟨n, rfl⟩ := Int.eq_ofNat_of_zero_le h
 have := bits_and64 (n := n) (m := 2097151) (by omega) (by omega)
 rw [show ((2097151 : Nat) : Int) = 2097151 from rfl] at this
 rw [this, show (2097151 : Nat) = 2 ^ 21 - 1 from rfl, Nat.and_two_pow_sub_one_eq_mod]
 omega
theorem fdiv26 (x : Int) : Int.fdiv x (2 ^ 26) = x / 67108864 := by
 rw [Int.fdiv_eq_ediv_of_nonneg x (by decide)]; rfl
theorem fdiv21 (x : Int) : Int.fdiv x (2 ^ 21) = x / 2097152 := by
 rw [Int.fdiv_eq_ediv_of_nonneg x (by decide)]; rfl
def val26 : List Int -> Int
 | [] => 0
 | x :: xs => x + 67108864 * val26 xs
def Lim (n : Int) : List Int -> Prop
 | [] => True
 | x :: xs => (0 ≤ x /\ x < n) /\ Lim n xs
theorem Lim.mono {n m : Int} (h : n ≤ m) : ∀ {l : List Int}, Lim n l -> Lim m l
 | [], _ => trivial
 | _ :: _, ⟨⟨a, b⟩, c⟩ => ⟨⟨a, by omega⟩, c.mono h⟩
theorem Lim.get {n : Int} : ∀ {l : List Int}, Lim n l -> ∀ x ∈ l, 0 ≤ x /\ x < n
 | _ :: _, ⟨a, c⟩, x, h => by
  rcases List.mem_cons.1 h with rfl | h
  ·exact a
  ·exact c.get x h
theorem lim_of {n : Int} : ∀ {l : List Int}, (∀ x ∈ l, 0 ≤ x /\ x < n) -> Lim n l
 | [], _ => trivial
 | x :: _, h => ⟨h x (List.mem_cons_self ..), lim_of fun y hy => h y (List.mem_cons_of_mem _ hy)⟩
theorem val26_nonneg {n : Int} : ∀ {l : List Int}, Lim n l -> 0 ≤ val26 l
 | [], _ => Int.le_refl 0
 | _ :: _, ⟨a, c⟩ => by have := val26_nonneg c; simp only [val26]; omega
theorem cpass_val : ∀ (l : List Int) (c : Int), Lim 9223372036854775808 l -> 0 ≤ c -> c < 274877906944 ->
  val26 l + c = val26 (cpass c l).2 + 67108864 ^ l.length * (cpass c l).1 /\ Lim 67108864 (cpass c l).2 /\ (cpass c l).2.length = l.length /\ 0 ≤ (cpass c l).1 /\ (cpass c l).1 < 274877906944
 | [], c, _, h, h' => by simp [cpass, val26, Lim, h]; assumption
 | x :: xs, c, ⟨⟨h1, h2⟩, h3⟩, h4, h5 => by
  have e : IntKind.u64.wrap (x + c) = x + c := u64_id (by omega) (by omega)
  have e2 : bits .u64 .and (x + c) 67108863 = (x + c) % 67108864 := mask26 (by omega) (by omega)
  have ih := cpass_val xs ((x + c) / 67108864) h3 (by omega) (by omega)
  have hp : (67108864 : Int) ^ (xs.length + 1) = 67108864 ^ xs.length * 67108864 := Int.pow_succ ..
  simp only [cpass, e, e2, fdiv26, val26, List.length_cons, hp, Lim] at ih ⊢
  obtain ⟨i1, i2, i3, i4, i5⟩ := ih
  refine ⟨?_, ⟨⟨by omega, by omega⟩, i2⟩, by rw [i3], i4, i5⟩
  generalize cpass ((x + c) / 67108864) xs = r at *
  rw [show (67108864 : Int) ^ xs.length * 67108864 * r.1 = 67108864 * (67108864 ^ xs.length * r.1) by rw [Int.mul_comm (67108864 ^ xs.length) 67108864, Int.mul_assoc]]
  generalize (67108864 : Int) ^ xs.length * r.1 = z at *
  omega
theorem val26_lt : ∀ {l : List Int}, Lim 67108864 l -> val26 l < 67108864 ^ l.length
 | [], _ => by decide
 | x :: xs, ⟨a, c⟩ => by
  have := val26_lt c
  have hp : (67108864 : Int) ^ (xs.length + 1) = 67108864 ^ xs.length * 67108864 := Int.pow_succ ..
  simp only [val26, List.length_cons, hp]; omega
abbrev PP : Int := 57896044618658097711785492504343953926634992332820282019728792003956564819949
theorem pow260 : (67108864 : Int) ^ 10 = 1852673427797059126777135760139006525652319754650249024631321344126610074238976 := by decide
def bump (r : Int × List Int) : List Int := List.set r.2 0 (IntKind.wrap .u64 (List.getD r.2 0 0 + IntKind.wrap .u64 (608 * r.1)))
theorem bump_val {o : Int} {l : List Int} (h : Lim 67108864 l) (hn : l.length = 10) (h0 : 0 ≤ o) (h1 : o < 274877906944) :
  val26 (bump (o, l)) = val26 l + 608 * o /\ Lim 9223372036854775808 (bump (o, l)) /\ (bump (o, l)).length = 10 := by
 match l, h, hn with
 | x :: xs, ⟨⟨a, b⟩, c⟩, hn =>
  have e1 : IntKind.u64.wrap (608 * o) = 608 * o := u64_id (by omega) (by omega)
  have e2 : IntKind.u64.wrap (x + 608 * o) = x + 608 * o := u64_id (by omega) (by omega)
  simp only [bump, List.getD_cons_zero, e1, e2, List.set_cons_zero, val26, Lim, List.length_cons] at hn ⊢
  exact ⟨by omega, ⟨⟨by omega, by omega⟩, c.mono (by omega)⟩, by omega⟩
def carried (l : List Int) : List Int := bump (cpass 0 (bump (cpass 0 (bump (cpass 0 l)))))
theorem carry_eq {l : List Int} (hn : l.length = 10) : field_Elem_carry_2 ⟨l⟩ = some ⟨carried l⟩ := by
 obtain ⟨a0, a1, a2, a3, a4, a5, a6, a7, a8, a9, rfl⟩ := list10 hn
 kernel_rfl
theorem carried_val {l : List Int} (h : Lim 9223372036854775808 l) (hn : l.length = 10) :
  val26 (carried l) % PP = val26 l % PP /\ Lim 67108864 (carried l) /\ (carried l).length = 10 := by
 obtain ⟨a1, a2, a3, a4, a5⟩ := cpass_val l 0 h (by decide) (by decide)
 rw [hn] at a1 a3
 have a6 := val26_nonneg a2
 have a7 := val26_lt a2
 rw [a3, pow260] at a7
 rw [pow260] at a1
 obtain ⟨b1, b2, b3⟩ := bump_val a2 a3 a4 a5
 unfold carried
 generalize hl1 : cpass 0 l = r1 at *
 obtain ⟨o1, l1⟩ := r1
 generalize hb1 : bump (o1, l1) = m1 at *
 obtain ⟨c1, c2, c3, c4, c5⟩ := cpass_val m1 0 b2 (by decide) (by decide)
 rw [b3] at c1 c3
 have c6 := val26_nonneg c2
 have c7 := val26_lt c2
 rw [c3, pow260] at c7
 rw [pow260] at c1
 obtain ⟨d1, d2, d3⟩ := bump_val c2 c3 c4 c5
 generalize hl2 : cpass 0 m1 = r2 at *
 obtain ⟨o2, l2⟩ := r2
 generalize hb2 : bump (o2, l2) = m2 at *
 obtain ⟨e1, e2, e3, e4, e5⟩ := cpass_val m2 0 d2 (by decide) (by decide)
 rw [d3] at e1 e3
 have e6 := val26_nonneg e2
 have e7 := val26_lt e2
 rw [e3, pow260] at e7
 rw [pow260] at e1
 generalize hl3 : cpass 0 m2 = r3 at *
 obtain ⟨o3, l3⟩ := r3
 simp only at *
 have z : o3 = 0 := by omega
 subst z
 have f : bump (0, l3) = l3 := by
  match l3, e2, e3 with
  | x :: xs, ⟨⟨a, b⟩, c⟩, hn =>
   simp only [bump, List.getD_cons_zero, List.set_cons_zero, Int.mul_zero]
   rw [show IntKind.u64.wrap 0 = 0 from rfl, Int.add_zero, u64_id a (by omega)]
 rw [f]
 exact ⟨by unfold PP; omega, e2, e3⟩
end Go.Eng
