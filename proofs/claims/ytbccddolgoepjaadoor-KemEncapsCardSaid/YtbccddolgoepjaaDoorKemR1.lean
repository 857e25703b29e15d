/-
  Part of a proof: KemR1.
-/
import Derived.Test.YtbccddolgoepjaaDoorKemP7
set_option linter.unusedVariables false
set_option linter.unusedSimpArgs false
namespace Go.Eng
set_option maxRecDepth 100000
set_option maxHeartbeats 4000000
def val32 : List Int -> Int
 | [] => 0
 | x :: xs => x + 4294967296 * val32 xs
theorem val32_nonneg {n : Int} : ∀ {l : List Int}, Lim n l -> 0 ≤ val32 l
 | [], _ => Int.le_refl 0
 | _ :: _, ⟨a, c⟩ => by have := val32_nonneg c; simp only [val32]; omega
theorem val32_lt : ∀ {l : List Int}, Lim 4294967296 l -> val32 l < 4294967296 ^ l.length
 | [], _ => by decide
 | x :: xs, ⟨a, c⟩ => by
  have := val32_lt c
  have hp : (4294967296 : Int) ^ (xs.length + 1) = 4294967296 ^ xs.length * 4294967296 := Int.pow_succ ..
  simp only [val32, List.length_cons, hp]; omega
theorem val32_append : ∀ (a b : List Int), val32 (a ++ b) = val32 a + 4294967296 ^ a.length * val32 b
 | [], b => by simp [val32]
 | x :: xs, b => by
  have hp : (4294967296 : Int) ^ (xs.length + 1) = 4294967296 ^ xs.length * 4294967296 := Int.pow_succ ..
  simp only [List.cons_append, val32, val32_append xs b, List.length_cons, hp]
  rw [Int.mul_add, Int.mul_comm (4294967296 ^ xs.length) 4294967296, Int.mul_assoc]; omega
theorem val32_zl (m : List Nat) : val32 (zl m) = (valN 32 m : Int) := by
 induction m with
 | nil => rfl
 | cons x xs ih => rw [zl_cons, val32, ih, valN]; rfl
theorem pow8 : (4294967296 : Int) ^ 8 = 115792089237316195423570985008687907853269984665640564039457584007913129639936 := by decide
theorem u64_32 {n : Int} (h : 0 ≤ n) (h1 : n < 4294967296) : IntKind.u64.wrap n = n := u64_id h (by omega)
theorem fpass_val : ∀ (xs ys : List Int) (c : Int), xs.length = ys.length -> Lim 4294967296 xs -> Lim 4294967296 ys -> 0 ≤ c -> c ≤ 38 ->
  val32 xs + 38 * val32 ys + c = val32 (fpass c xs ys).2 + 4294967296 ^ xs.length * (fpass c xs ys).1 /\ Lim 4294967296 (fpass c xs ys).2 /\ (fpass c xs ys).2.length = xs.length /\ 0 ≤ (fpass c xs ys).1 /\ (fpass c xs ys).1 ≤ 38
 | [], [], c, _, _, _, h, h' => by simp [fpass, val32, Lim, h]; assumption
 | x :: xs, y :: ys, c, hl, ⟨⟨p1, p2⟩, p3⟩, ⟨⟨q1, q2⟩, q3⟩, h4, h5 => by
  have e1 : IntKind.u64.wrap x = x := u64_32 p1 p2
  have e2 : IntKind.u64.wrap y = y := u64_32 q1 q2
  have e3 : IntKind.u64.wrap (38 * y) = 38 * y := u64_id (by omega) (by omega)
  have e4 : IntKind.u64.wrap (x + 38 * y) = x + 38 * y := u64_id (by omega) (by omega)
  have e5 : IntKind.u64.wrap (x + 38 * y + c) = x + 38 * y + c := u64_id (by omega) (by omega)
  have e6 : IntKind.u32.wrap (x + 38 * y + c) = (x + 38 * y + c) % 4294967296 := wu32 _
  obtain ⟨i1, i2, i3, i4, i5⟩ := fpass_val xs ys ((x + 38 * y + c) / 4294967296) (by simpa using hl) p3 q3 (by omega) (by omega)
  have hp : (4294967296 : Int) ^ (xs.length + 1) = 4294967296 ^ xs.length * 4294967296 := Int.pow_succ ..
  simp only [fpass, e1, e2, e3, e4, e5, e6, fdiv32, val32, List.length_cons, hp, Lim]
  refine ⟨?_, ⟨⟨by omega, by omega⟩, i2⟩, by rw [i3], i4, i5⟩
  generalize fpass ((x + 38 * y + c) / 4294967296) xs ys = r at *
  rw [show (4294967296 : Int) ^ xs.length * 4294967296 * r.1 = 4294967296 * (4294967296 ^ xs.length * r.1) by rw [Int.mul_comm (4294967296 ^ xs.length) 4294967296, Int.mul_assoc]]
  generalize (4294967296 : Int) ^ xs.length * r.1 = z at *
  omega
theorem gpass_val : ∀ (xs : List Int) (c : Int), Lim 4294967296 xs -> 0 ≤ c -> c < 4294967296 ->
  val32 xs + c = val32 (gpass c xs).2 + 4294967296 ^ xs.length * (gpass c xs).1 /\ Lim 4294967296 (gpass c xs).2 /\ (gpass c xs).2.length = xs.length /\ 0 ≤ (gpass c xs).1
 | [], c, _, h, h' => by simp [gpass, val32, Lim, h]
 | x :: xs, c, ⟨⟨p1, p2⟩, p3⟩, h4, h5 => by
  have e1 : IntKind.u64.wrap x = x := u64_32 p1 p2
  have e5 : IntKind.u64.wrap (c + x) = c + x := u64_id (by omega) (by omega)
  have e6 : IntKind.u32.wrap (c + x) = (c + x) % 4294967296 := wu32 _
  obtain ⟨i1, i2, i3, i4⟩ := gpass_val xs ((c + x) / 4294967296) p3 (by omega) (by omega)
  have hp : (4294967296 : Int) ^ (xs.length + 1) = 4294967296 ^ xs.length * 4294967296 := Int.pow_succ ..
  simp only [gpass, e1, e5, e6, fdiv32, val32, List.length_cons, hp, Lim]
  refine ⟨?_, ⟨⟨by omega, by omega⟩, i2⟩, by rw [i3], i4⟩
  generalize gpass ((c + x) / 4294967296) xs = r at *
  rw [show (4294967296 : Int) ^ xs.length * 4294967296 * r.1 = 4294967296 * (4294967296 ^ xs.length * r.1) by rw [Int.mul_comm (4294967296 ^ xs.length) 4294967296, Int.mul_assoc]]
  generalize (4294967296 : Int) ^ xs.length * r.1 = z at *
  omega
theorem apass_val : ∀ (xs ys : List Int) (c : Int), xs.length = ys.length -> Lim 4294967296 xs -> Lim 4294967296 ys -> 0 ≤ c -> c ≤ 1 ->
  val32 xs + val32 ys + c = val32 (apass c xs ys).2 + 4294967296 ^ xs.length * (apass c xs ys).1 /\ Lim 4294967296 (apass c xs ys).2 /\ (apass c xs ys).2.length = xs.length /\ 0 ≤ (apass c xs ys).1 /\ (apass c xs ys).1 ≤ 1
 | [], [], c, _, _, _, h, h' => by simp [apass, val32, Lim, h]; assumption
 | x :: xs, y :: ys, c, hl, ⟨⟨p1, p2⟩, p3⟩, ⟨⟨q1, q2⟩, q3⟩, h4, h5 => by
  have e1 : IntKind.u64.wrap x = x := u64_32 p1 p2
  have e2 : IntKind.u64.wrap y = y := u64_32 q1 q2
  have e4 : IntKind.u64.wrap (x + y) = x + y := u64_id (by omega) (by omega)
  have e5 : IntKind.u64.wrap (x + y + c) = x + y + c := u64_id (by omega) (by omega)
  have e6 : IntKind.u32.wrap (x + y + c) = (x + y + c) % 4294967296 := wu32 _
  obtain ⟨i1, i2, i3, i4, i5⟩ := apass_val xs ys ((x + y + c) / 4294967296) (by simpa using hl) p3 q3 (by omega) (by omega)
  have hp : (4294967296 : Int) ^ (xs.length + 1) = 4294967296 ^ xs.length * 4294967296 := Int.pow_succ ..
  simp only [apass, e1, e2, e4, e5, e6, fdiv32, val32, List.length_cons, hp, Lim]
  refine ⟨?_, ⟨⟨by omega, by omega⟩, i2⟩, by rw [i3], i4, i5⟩
  generalize apass ((x + y + c) / 4294967296) xs ys = r at *
  rw [show (4294967296 : Int) ^ xs.length * 4294967296 * r.1 = 4294967296 * (4294967296 ^ xs.length * r.1) by rw [Int.mul_comm (4294967296 ^ xs.length) 4294967296, Int.mul_assoc]]
  generalize (4294967296 : Int) ^ xs.length * r.1 = z at *
  omega
theorem mpass_val : ∀ (xs ys : List Int) (o : Int), xs.length = ys.length -> Lim 4294967296 xs -> Lim 4294967296 ys -> 0 ≤ o -> o ≤ 1 ->
  ∃ b, 0 ≤ b /\ b ≤ 1 /\ val32 (mpass o xs ys) = val32 xs - val32 ys - o + 4294967296 ^ xs.length * b /\ Lim 4294967296 (mpass o xs ys) /\ (mpass o xs ys).length = xs.length
 | [], [], o, _, _, _, h, h' => ⟨o, h, h', by simp [mpass, val32, Lim]; omega⟩
 | x :: xs, y :: ys, o, hl, ⟨⟨p1, p2⟩, p3⟩, ⟨⟨q1, q2⟩, q3⟩, h4, h5 => by
  have e1 : IntKind.u64.wrap x = x := u64_32 p1 p2
  have e2 : IntKind.u64.wrap y = y := u64_32 q1 q2
  have e3 : IntKind.u64.wrap (x + 4294967296) = x + 4294967296 := u64_id (by omega) (by omega)
  have e4 : IntKind.u64.wrap (x + 4294967296 - y) = x + 4294967296 - y := u64_id (by omega) (by omega)
  have e5 : IntKind.u64.wrap (x + 4294967296 - y - o) = x + 4294967296 - y - o := u64_id (by omega) (by omega)
  have e6 : IntKind.u32.wrap (x + 4294967296 - y - o) = (x + 4294967296 - y - o) % 4294967296 := wu32 _
  have e7 : IntKind.u64.wrap (1 - (x + 4294967296 - y - o) / 4294967296) = 1 - (x + 4294967296 - y - o) / 4294967296 := u64_id (by omega) (by omega)
  obtain ⟨b, b0, b1, i1, i2, i3⟩ := mpass_val xs ys (1 - (x + 4294967296 - y - o) / 4294967296) (by simpa using hl) p3 q3 (by omega) (by omega)
  have hp : (4294967296 : Int) ^ (xs.length + 1) = 4294967296 ^ xs.length * 4294967296 := Int.pow_succ ..
  refine ⟨b, b0, b1, ?_⟩
  simp only [mpass, e1, e2, e3, e4, e5, e6, e7, fdiv32, val32, List.length_cons, hp, Lim, i1]
  refine ⟨?_, ⟨⟨by omega, by omega⟩, i2⟩, by rw [i3]⟩
  rw [show (4294967296 : Int) ^ xs.length * 4294967296 * b = 4294967296 * (4294967296 ^ xs.length * b) by rw [Int.mul_comm (4294967296 ^ xs.length) 4294967296, Int.mul_assoc]]
  generalize (4294967296 : Int) ^ xs.length * b = z at *
  omega
def valBE : List Int -> Int
 | [] => 0
 | x :: xs => x * 4294967296 ^ xs.length + valBE xs
theorem valBE_lt : ∀ {l : List Int}, Lim 4294967296 l -> 0 ≤ valBE l /\ valBE l < 4294967296 ^ l.length
 | [], _ => by decide
 | x :: xs, ⟨⟨a, a'⟩, c⟩ => by
  obtain ⟨h, h'⟩ := valBE_lt c
  have hp : (4294967296 : Int) ^ (xs.length + 1) = 4294967296 ^ xs.length * 4294967296 := Int.pow_succ ..
  simp only [valBE, List.length_cons, hp]
  generalize (4294967296 : Int) ^ xs.length = q at *
  have h1 : 0 ≤ x * q := Int.mul_nonneg a (by omega)
  have h2 : (x + 1) * q ≤ 4294967296 * q := Int.mul_le_mul_of_nonneg_right (by omega) (by omega)
  rw [Int.add_mul] at h2
  rw [Int.mul_comm q]
  omega
theorem lessR_val : ∀ (xs ys : List Int), xs.length = ys.length -> Lim 4294967296 xs -> Lim 4294967296 ys -> lessR xs ys = decide (valBE xs < valBE ys)
 | [], [], _, _, _ => by simp [lessR, valBE]
 | x :: xs, y :: ys, hl, ⟨⟨p1, p2⟩, p3⟩, ⟨⟨q1, q2⟩, q3⟩ => by
  have hl' : xs.length = ys.length := by simpa using hl
  have ih := lessR_val xs ys hl' p3 q3
  obtain ⟨a1, a2⟩ := valBE_lt p3
  obtain ⟨b1, b2⟩ := valBE_lt q3
  rw [← hl'] at b2
  simp only [lessR, valBE, ← hl']
  generalize (4294967296 : Int) ^ xs.length = q at *
  by_cases h : x = y
  ·subst h
   rw [cond_tt (by simp), ih]
   congr 1; simp
  ·rw [cond_ff (by simpa using h)]
   congr 1
   apply propext
   constructor
   ·intro hlt
    have : (x + 1) * q ≤ y * q := Int.mul_le_mul_of_nonneg_right (by omega) (by omega)
    rw [Int.add_mul] at this
    omega
   ·intro hlt
    refine Classical.byContradiction fun hn => ?_
    have : (y + 1) * q ≤ x * q := Int.mul_le_mul_of_nonneg_right (by omega) (by omega)
    rw [Int.add_mul] at this
    omega
def rowq (x : Int) : Int -> List Int -> List Int -> List Int
 | c, [], _ => [IntKind.wrap .u32 c]
 | _, _ :: _, [] => []
 | c, y :: ys, w :: ws => IntKind.wrap .u32 (IntKind.wrap .u64 (IntKind.wrap .u64 (IntKind.wrap .u64 (IntKind.wrap .u64 x * IntKind.wrap .u64 y) + IntKind.wrap .u64 w) + c)) :: rowq x (Int.fdiv (IntKind.wrap .u64 (IntKind.wrap .u64 (IntKind.wrap .u64 (IntKind.wrap .u64 x * IntKind.wrap .u64 y) + IntKind.wrap .u64 w) + c)) (2 ^ 32)) ys ws
theorem rowp_eq (x z : Int) (zs : List Int) : ∀ (ys us : List Int) (c : Int), us.length = ys.length -> rowp x c ys (us ++ z :: zs) = rowq x c ys us ++ zs
 | [], [], c, _ => rfl
 | y :: ys, w :: us, c, h => by simp only [List.cons_append, rowp, rowq, rowp_eq x z zs ys us _ (by simpa using h)]
theorem rowq_val (x : Int) (hx : 0 ≤ x) (hx' : x < 4294967296) : ∀ (ys us : List Int) (c : Int), us.length = ys.length -> Lim 4294967296 ys -> Lim 4294967296 us -> 0 ≤ c -> c < 4294967296 ->
  val32 (rowq x c ys us) = val32 us + x * val32 ys + c /\ Lim 4294967296 (rowq x c ys us) /\ (rowq x c ys us).length = ys.length + 1
 | [], [], c, _, _, _, h, h' => by
  simp only [rowq, u32_id h h', val32, Lim, Int.mul_zero, Int.add_zero, Int.zero_add, List.length_cons, List.length_nil, and_true, true_and]
  exact ⟨h, h'⟩
 | y :: ys, w :: us, c, hl, ⟨⟨p1, p2⟩, p3⟩, ⟨⟨q1, q2⟩, q3⟩, h4, h5 => by
  have m0 : 0 ≤ x * y := Int.mul_nonneg hx p1
  have m1 : x * y ≤ 4294967295 * 4294967295 := Int.mul_le_mul (by omega) (by omega) p1 (by decide)
  have e1 : IntKind.u64.wrap x = x := u64_32 hx hx'
  have e2 : IntKind.u64.wrap y = y := u64_32 p1 p2
  have e3 : IntKind.u64.wrap w = w := u64_32 q1 q2
  have e4 : IntKind.u64.wrap (x * y) = x * y := u64_id (by omega) (by omega)
  have e5 : IntKind.u64.wrap (x * y + w) = x * y + w := u64_id (by omega) (by omega)
  have e6 : IntKind.u64.wrap (x * y + w + c) = x * y + w + c := u64_id (by omega) (by omega)
  obtain ⟨i1, i2, i3⟩ := rowq_val x hx hx' ys us ((x * y + w + c) / 4294967296) (by simpa using hl) p3 q3 (by omega) (by omega)
  simp only [rowq, e1, e2, e3, e4, e5, e6, wu32, fdiv32, val32, Lim, List.length_cons, i1, i3]
  refine ⟨?_, ⟨⟨by omega, by omega⟩, i2⟩, trivial⟩
  rw [Int.mul_add x, Int.mul_left_comm x]
  generalize x * y = u at *
  generalize x * val32 ys = v at *
  omega
theorem rows32_val (ys : List Int) (hy : Lim 4294967296 ys) : ∀ (xs us : List Int), us.length = ys.length -> Lim 4294967296 xs -> Lim 4294967296 us ->
  val32 (rows32 ys xs (us ++ List.replicate xs.length 0)) = val32 us + val32 xs * val32 ys /\ Lim 4294967296 (rows32 ys xs (us ++ List.replicate xs.length 0)) /\ (rows32 ys xs (us ++ List.replicate xs.length 0)).length = ys.length + xs.length
 | [], us, hl, _, h => by simp [rows32, val32, hl, h]
 | x :: xs, us, hl, ⟨⟨p1, p2⟩, p3⟩, h => by
  obtain ⟨i1, i2, i3⟩ := rowq_val x p1 p2 ys us 0 hl hy h (by decide) (by decide)
  rw [List.length_cons, List.replicate_succ]
  simp only [rows32, rowp_eq x 0 _ ys us 0 hl]
  generalize rowq x 0 ys us = r at *
  match r, i1, i2, i3 with
  | r :: rs, i1, ⟨⟨j1, j2⟩, j3⟩, i3 =>
   have hrs : rs.length = ys.length := by simpa using i3
   obtain ⟨k1, k2, k3⟩ := rows32_val ys hy xs rs hrs p3 j3
   simp only [List.cons_append, val32, Lim, List.length_cons, k1, k3] at i1 ⊢
   refine ⟨?_, ⟨⟨j1, j2⟩, k2⟩, by omega⟩
   rw [Int.add_mul, Int.mul_add, Int.mul_assoc]; omega
end Go.Eng
