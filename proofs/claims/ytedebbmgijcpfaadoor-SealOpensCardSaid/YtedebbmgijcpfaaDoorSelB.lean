/-
  Part of a proof: SelB.
-/
import Derived.Test.YtedebbmgijcpfaaDoorSealP5
set_option linter.unusedVariables false
set_option linter.unusedSimpArgs false
set_option linter.unusedVariables false
set_option linter.unusedSimpArgs false
namespace Go.Eng
set_option maxRecDepth 100000
set_option maxHeartbeats 1000000
theorem wu64 (n : Int) : IntKind.u64.wrap n = n % 18446744073709551616 := by simp [IntKind.wrap, IntKind.bits, IntKind.signed]
theorem wu8 (n : Int) : IntKind.u8.wrap n = n % 256 := by simp [IntKind.wrap, IntKind.bits, IntKind.signed]
theorem u64_id {n : Int} (h : 0 ≤ n) (h1 : n < 18446744073709551616) : IntKind.u64.wrap n = n := by rw [wu64, Int.emod_eq_of_lt h h1]
theorem bits_and64 {n m : Nat} (hn : n < 18446744073709551616) (hm : m < 18446744073709551616) : bits .u64 .and (n : Int) (m : Int) = ((n &&& m : Nat) : Int) := by
 show IntKind.u64.wrap (((BitVec.ofInt 64 n &&& BitVec.ofInt 64 m : BitVec 64).toNat : Nat) : Int) = _
 rw [BitVec.ofInt_natCast, BitVec.ofInt_natCast, BitVec.toNat_and, BitVec.toNat_ofNat, BitVec.toNat_ofNat, wu64]
 simp only [Nat.reducePow]
 rw [Nat.mod_eq_of_lt hn, Nat.mod_eq_of_lt hm, Int.emod_eq_of_lt (by omega)]
 have := Nat.and_le_left (n := n) (m := m)
 omega
theorem bits_or64 {n m : Nat} (hn : n < 18446744073709551616) (hm : m < 18446744073709551616) : bits .u64 .or (n : Int) (m : Int) = ((n ||| m : Nat) : Int) := by
 show IntKind.u64.wrap (((BitVec.ofInt 64 n ||| BitVec.ofInt 64 m : BitVec 64).toNat : Nat) : Int) = _
 rw [BitVec.ofInt_natCast, BitVec.ofInt_natCast, BitVec.toNat_or, BitVec.toNat_ofNat, BitVec.toNat_ofNat, wu64]
 simp only [Nat.reducePow]
 rw [Nat.mod_eq_of_lt hn, Nat.mod_eq_of_lt hm, Int.emod_eq_of_lt (by omega)]
 have := Nat.or_lt_two_pow (n := 64) hn hm
 omega
theorem mask26 {x : Int} (h : 0 ≤ x) (h1 : x < 18446744073709551616) : bits .u64 .and x 67108863 = x % 67108864 := by
 obtain ⟨n, rfl⟩ := Int.eq_ofNat_of_zero_le h
 have := bits_and64 (n := n) (m := 67108863) (by omega) (by omega)
 rw [show ((67108863 : Nat) : Int) = 67108863 from rfl] at this
 rw [this, show (67108863 : Nat) = 2 ^ 26 - 1 from rfl, Nat.and_two_pow_sub_one_eq_mod]
 omega
theorem fdiv26 (x : Int) : Int.fdiv x (2 ^ 26) = x / 67108864 := by
 rw [Int.fdiv_eq_ediv_of_nonneg x (by decide)]; rfl
def val26 : List Int -> Int
 | [] => 0
 | x :: xs => x + 67108864 * val26 xs
def Lim (n : Int) : List Int -> Prop
 | [] => True
 | x :: xs => (0 ≤ x /\ x < n) /\ Lim n xs
theorem Lim.mono {n m : Int} (h : n ≤ m) : ∀ {l : List Int}, Lim n l -> Lim m l
 | [], _ => trivial
 | _ :: _, ⟨⟨a, b⟩, c⟩ => ⟨⟨a, by omega⟩, c.mono h⟩
theorem Lim.get {n : Int} : ∀ {l : List Int}, Lim n l -> ∀ x ∈ l, 0 ≤ x /\ x < n
 | _ :: _, ⟨a, c⟩, x, h => by
  rcases List.mem_cons.1 h with rfl | h
  ·exact a
  ·exact c.get x h
theorem lim_of {n : Int} : ∀ {l : List Int}, (∀ x ∈ l, 0 ≤ x /\ x < n) -> Lim n l
 | [], _ => trivial
 | x :: _, h => ⟨h x (List.mem_cons_self ..), lim_of fun y hy => h y (List.mem_cons_of_mem _ hy)⟩
theorem val26_nonneg {n : Int} : ∀ {l : List Int}, Lim n l -> 0 ≤ val26 l
 | [], _ => Int.le_refl 0
 | _ :: _, ⟨a, c⟩ => by have := val26_nonneg c; simp only [val26]; omega
theorem val26_lt : ∀ {l : List Int}, Lim 67108864 l -> val26 l < 67108864 ^ l.length
 | [], _ => by decide
 | x :: xs, ⟨a, c⟩ => by
  have := val26_lt c
  have hp : (67108864 : Int) ^ (xs.length + 1) = 67108864 ^ xs.length * 67108864 := Int.pow_succ ..
  simp only [val26, List.length_cons, hp]; omega
def cpass : Int -> List Int -> Int × List Int
 | c, [] => (c, [])
 | c, x :: xs => ((cpass (Int.fdiv (IntKind.wrap .u64 (x + c)) (2 ^ 26)) xs).1, bits .u64 .and (IntKind.wrap .u64 (x + c)) 67108863 :: (cpass (Int.fdiv (IntKind.wrap .u64 (x + c)) (2 ^ 26)) xs).2)
theorem cpass_val : ∀ (l : List Int) (c : Int), Lim 9223372036854775808 l -> 0 ≤ c -> c < 274877906944 ->
  val26 l + c = val26 (cpass c l).2 + 67108864 ^ l.length * (cpass c l).1 /\ Lim 67108864 (cpass c l).2 /\ (cpass c l).2.length = l.length /\ 0 ≤ (cpass c l).1 /\ (cpass c l).1 < 274877906944
 | [], c, _, h, h' => by simp [cpass, val26, Lim, h]; assumption
 | x :: xs, c, ⟨⟨h1, h2⟩, h3⟩, h4, h5 => by
  have e : IntKind.u64.wrap (x + c) = x + c := u64_id (by omega) (by omega)
  have e2 : bits .u64 .and (x + c) 67108863 = (x + c) % 67108864 := mask26 (by omega) (by omega)
  have ih := cpass_val xs ((x + c) / 67108864) h3 (by omega) (by omega)
  have hp : (67108864 : Int) ^ (xs.length + 1) = 67108864 ^ xs.length * 67108864 := Int.pow_succ ..
  simp only [cpass, e, e2, fdiv26, val26, List.length_cons, hp, Lim] at ih ⊢
  obtain ⟨i1, i2, i3, i4, i5⟩ := ih
  refine ⟨?_, ⟨⟨by omega, by omega⟩, i2⟩, by rw [i3], i4, i5⟩
  generalize cpass ((x + c) / 67108864) xs = r at *
  rw [show (67108864 : Int) ^ xs.length * 67108864 * r.1 = 67108864 * (67108864 ^ xs.length * r.1) by rw [Int.mul_comm (67108864 ^ xs.length) 67108864, Int.mul_assoc]]
  generalize (67108864 : Int) ^ xs.length * r.1 = z at *
  omega
def wpass : Int -> List Int -> List Int
 | _, [] => []
 | c, [x] => [IntKind.wrap .u64 (x + c)]
 | c, x :: y :: xs => bits .u64 .and (IntKind.wrap .u64 (x + c)) 67108863 :: wpass (Int.fdiv (IntKind.wrap .u64 (x + c)) (2 ^ 26)) (y :: xs)
def wpass0 : List Int -> List Int
 | [] => []
 | [x] => [x]
 | x :: y :: xs => bits .u64 .and x 67108863 :: wpass (Int.fdiv x (2 ^ 26)) (y :: xs)
def LimT : List Int -> Prop
 | [] => True
 | [x] => 0 ≤ x
 | x :: y :: xs => (0 ≤ x /\ x < 67108864) /\ LimT (y :: xs)
theorem wpass_val (l : List Int) : ∀ (c : Int), l ≠ [] -> Lim 9223372036854775808 l -> 0 ≤ c -> c < 274877906944 ->
  val26 (wpass c l) = val26 l + c /\ LimT (wpass c l) /\ (wpass c l).length = l.length := by
 induction l with
 | nil => intro c h; exact absurd rfl h
 | cons x xs ih =>
  intro c _ h h4 h5
  obtain ⟨⟨h1, h2⟩, h3⟩ := h
  have e : IntKind.u64.wrap (x + c) = x + c := u64_id (by omega) (by omega)
  cases xs with
  | nil => rw [wpass, e]; refine ⟨?_, ?_, rfl⟩; { simp only [val26]; omega }; { show 0 ≤ x + c; omega }
  | cons y xs =>
   have e2 : bits .u64 .and (x + c) 67108863 = (x + c) % 67108864 := mask26 (by omega) (by omega)
   obtain ⟨i1, i2, i3⟩ := ih ((x + c) / 67108864) (by simp) h3 (by omega) (by omega)
   rw [wpass, e, e2, fdiv26]
   generalize wpass ((x + c) / 67108864) (y :: xs) = r at *
   match r, i1, i2, i3 with
   | r :: rs, i1, i2, i3 =>
    simp only [val26, LimT, List.length_cons] at i1 i2 i3 ⊢
    exact ⟨by omega, ⟨⟨by omega, by omega⟩, i2⟩, by omega⟩
theorem wpass0_val (l : List Int) (h0 : l ≠ []) (h : Lim 9223372036854775808 l) :
  val26 (wpass0 l) = val26 l /\ LimT (wpass0 l) /\ (wpass0 l).length = l.length := by
 match l, h0, h with
 | [x], _, ⟨⟨h1, h2⟩, _⟩ => simp only [wpass0, val26, LimT, true_and, and_true]; exact h1
 | x :: y :: xs, _, ⟨⟨h1, h2⟩, h3⟩ =>
  have e2 : bits .u64 .and x 67108863 = x % 67108864 := mask26 (by omega) (by omega)
  obtain ⟨i1, i2, i3⟩ := wpass_val (y :: xs) (x / 67108864) (by simp) h3 (by omega) (by omega)
  rw [wpass0, e2, fdiv26]
  generalize wpass (x / 67108864) (y :: xs) = r at *
  match r, i1, i2, i3 with
  | r :: rs, i1, i2, i3 =>
   simp only [val26, LimT, List.length_cons] at i1 i2 i3 ⊢
   exact ⟨by omega, ⟨⟨by omega, by omega⟩, i2⟩, by omega⟩
theorem and_max {x : Int} (h : 0 ≤ x) (h1 : x < 18446744073709551616) : bits .u64 .and x 18446744073709551615 = x := by
 obtain ⟨n, rfl⟩ := Int.eq_ofNat_of_zero_le h
 have := bits_and64 (n := n) (m := 18446744073709551615) (by omega) (by omega)
 rw [show ((18446744073709551615 : Nat) : Int) = 18446744073709551615 from rfl] at this
 rw [this, show (18446744073709551615 : Nat) = 2 ^ 64 - 1 from rfl, Nat.and_two_pow_sub_one_eq_mod, Nat.mod_eq_of_lt (by omega)]
theorem and_zero64 {x : Int} (h : 0 ≤ x) (h1 : x < 18446744073709551616) : bits .u64 .and x 0 = 0 := by
 obtain ⟨n, rfl⟩ := Int.eq_ofNat_of_zero_le h
 have := bits_and64 (n := n) (m := 0) (by omega) (by omega)
 rw [show ((0 : Nat) : Int) = 0 from rfl, Nat.and_zero] at this
 exact this
theorem or_zero64 {x : Int} (h : 0 ≤ x) (h1 : x < 18446744073709551616) : bits .u64 .or x 0 = x := by
 obtain ⟨n, rfl⟩ := Int.eq_ofNat_of_zero_le h
 have := bits_or64 (n := n) (m := 0) (by omega) (by omega)
 rw [show ((0 : Nat) : Int) = 0 from rfl, Nat.or_zero] at this
 exact this
theorem zero_or64 {x : Int} (h : 0 ≤ x) (h1 : x < 18446744073709551616) : bits .u64 .or 0 x = x := by
 obtain ⟨n, rfl⟩ := Int.eq_ofNat_of_zero_le h
 have := bits_or64 (n := 0) (m := n) (by omega) (by omega)
 rw [show ((0 : Nat) : Int) = 0 from rfl, Nat.zero_or] at this
 exact this
theorem andNot_zero64 {x : Int} (h : 0 ≤ x) (h1 : x < 18446744073709551616) : bits .u64 .andNot x 0 = x := by
 obtain ⟨n, rfl⟩ := Int.eq_ofNat_of_zero_le h
 show IntKind.u64.wrap (((BitVec.ofInt 64 n &&& ~~~ BitVec.ofInt 64 0 : BitVec 64).toNat : Nat) : Int) = _
 rw [show ~~~ BitVec.ofInt 64 0 = BitVec.allOnes 64 from by decide, BitVec.and_allOnes, BitVec.ofInt_natCast, BitVec.toNat_ofNat]
 simp only [Nat.reducePow]
 rw [Nat.mod_eq_of_lt (by omega), u64_id (by omega) (by omega)]
theorem andNot_max {x : Int} : bits .u64 .andNot x 18446744073709551615 = 0 := by
 show IntKind.u64.wrap (((BitVec.ofInt 64 x &&& ~~~ BitVec.ofInt 64 18446744073709551615 : BitVec 64).toNat : Nat) : Int) = _
 rw [show ~~~ BitVec.ofInt 64 18446744073709551615 = 0#64 from by decide, BitVec.and_zero]; rfl
def limbsN (w : Nat) : Nat -> Nat -> List Nat
 | 0, _ => []
 | n + 1, x => x % 2 ^ w :: limbsN w n (x / 2 ^ w)
theorem limbsN_len (w : Nat) : ∀ n x, (limbsN w n x).length = n
 | 0, _ => rfl
 | n + 1, x => by simp [limbsN, limbsN_len w n]
theorem limbsN_get (w : Nat) : ∀ n x j, j < n -> (limbsN w n x).getD j 0 = x / 2 ^ (w * j) % 2 ^ w
 | n + 1, x, 0, _ => by simp [limbsN]
 | n + 1, x, j + 1, h => by
  rw [limbsN, List.getD_cons_succ, limbsN_get w n _ j (by omega), Nat.div_div_eq_div_mul, ← Nat.pow_add, Nat.mul_succ, Nat.add_comm w]
theorem or_add {a r b : Nat} (h : a < 2 ^ r) : a ||| (b * 2 ^ r) = a + 2 ^ r * b := by
 rw [Nat.mul_comm b, Nat.or_comm, ← Nat.two_pow_add_eq_or_of_lt h, Nat.add_comm]
theorem limbsN_bit (w : Nat) (hw : 0 < w) (n X i : Nat) (h : i < w * n) : (limbsN w n X).getD (i / w) 0 / 2 ^ (i % w) % 2 = X / 2 ^ i % 2 := by
 have h1 : i / w < n := (Nat.div_lt_iff_lt_mul hw).2 (by rw [Nat.mul_comm]; exact h)
 rw [limbsN_get w n X _ h1, ← Nat.toNat_testBit, ← Nat.toNat_testBit, Nat.testBit_mod_two_pow, Nat.testBit_div_two_pow]
 have h2 : i % w < w := Nat.mod_lt _ hw
 rw [Nat.add_comm (i % w), Nat.div_add_mod]
 simp [h2]
def valN (w : Nat) : List Nat -> Nat
 | [] => 0
 | x :: xs => x + 2 ^ w * valN w xs
theorem valN_limbs (w : Nat) : ∀ n X, valN w (limbsN w n X) = X % 2 ^ (w * n)
 | 0, X => by simp [limbsN, valN, Nat.mod_one]
 | n + 1, X => by
  rw [limbsN, valN, valN_limbs w n, Nat.mul_succ, Nat.add_comm, Nat.add_comm (w * n), Nat.pow_add, Nat.mod_mul, Nat.add_comm]
theorem limbsN_val (w : Nat) : ∀ (l : List Nat), (∀ x ∈ l, x < 2 ^ w) -> limbsN w l.length (valN w l) = l
 | [], _ => rfl
 | x :: xs, h => by
  have hx := h x (List.mem_cons_self ..)
  rw [List.length_cons, limbsN, valN, Nat.add_mul_mod_self_left, Nat.mod_eq_of_lt hx, Nat.add_mul_div_left _ _ (Nat.two_pow_pos w), Nat.div_eq_of_lt hx, Nat.zero_add, limbsN_val w xs fun y hy => h y (List.mem_cons_of_mem _ hy)]
theorem valN_lt (w : Nat) : ∀ (l : List Nat), (∀ x ∈ l, x < 2 ^ w) -> valN w l < 2 ^ (w * l.length)
 | [], _ => by simp [valN]
 | x :: xs, h => by
  have hx := h x (List.mem_cons_self ..)
  have ih := valN_lt w xs fun y hy => h y (List.mem_cons_of_mem _ hy)
  rw [valN, List.length_cons, Nat.mul_succ, Nat.add_comm (w * xs.length), Nat.pow_add]
  have : 2 ^ w * valN w xs + 2 ^ w ≤ 2 ^ w * 2 ^ (w * xs.length) := by rw [← Nat.mul_succ]; exact Nat.mul_le_mul_left _ ih
  omega
def zl (l : List Nat) : List Int := l.map (fun (n : Nat) => (n : Int))
theorem zl_getD (l : List Nat) (j : Nat) : (zl l).getD j 0 = ((l.getD j 0 : Nat) : Int) := by
 unfold zl; simp only [List.getD, List.getElem?_map]; cases l[j]? <;> rfl
theorem zl_set (l : List Nat) (j x : Nat) : (zl l).set j (x : Int) = zl (l.set j x) := by unfold zl; rw [List.map_set]
theorem zl_len (l : List Nat) : (zl l).length = l.length := List.length_map ..
theorem zl_cons (x : Nat) (l : List Nat) : zl (x :: l) = (x : Int) :: zl l := rfl
theorem zl_append (a b : List Nat) : zl (a ++ b) = zl a ++ zl b := List.map_append
theorem zl_rep (n x : Nat) : zl (List.replicate n x) = List.replicate n (x : Int) := by simp [zl]
theorem zl_take (l : List Nat) (n : Nat) : zl (l.take n) = (zl l).take n := by simp [zl]
theorem zl_drop (l : List Nat) (n : Nat) : zl (l.drop n) = (zl l).drop n := by simp [zl]
theorem lim_zl {n : Nat} : ∀ {l : List Int}, Lim n l -> ∃ m : List Nat, l = zl m /\ m.length = l.length /\ ∀ x ∈ m, x < n
 | [], _ => ⟨[], rfl, rfl, fun _ h => by simp at h⟩
 | x :: xs, ⟨⟨a, b⟩, c⟩ => by
  obtain ⟨m, rfl, h1, h2⟩ := lim_zl c
  obtain ⟨k, rfl⟩ := Int.eq_ofNat_of_zero_le a
  refine ⟨k :: m, rfl, by simp [h1], fun y hy => ?_⟩
  rcases List.mem_cons.1 hy with rfl | hy
  ·exact Int.ofNat_lt.1 b
  ·exact h2 y hy
theorem zl_lim {n : Nat} : ∀ {m : List Nat}, (∀ x ∈ m, x < n) -> Lim n (zl m)
 | [], _ => trivial
 | x :: _, h => ⟨⟨Int.natCast_nonneg x, Int.ofNat_lt.2 (h x (List.mem_cons_self ..))⟩, zl_lim fun y hy => h y (List.mem_cons_of_mem _ hy)⟩
theorem i64n {n : Nat} (h : n < 9223372036854775808) : IntKind.wrap .i64 (n : Int) = n := wrap_i64 (by omega) (by omega)
theorem u64n (n : Nat) : IntKind.wrap .u64 (n : Int) = ((n % 18446744073709551616 : Nat) : Int) := by rw [wu64]; rfl
theorem u8n (n : Nat) : IntKind.wrap .u8 (n : Int) = ((n % 256 : Nat) : Int) := by rw [wu8]; rfl
theorem fdivn (a m : Nat) : Int.fdiv (a : Int) (2 ^ m) = ((a / 2 ^ m : Nat) : Int) := by
 have h : ((2 : Int) ^ m) = ((2 ^ m : Nat) : Int) := by rw [Int.natCast_pow]; rfl
 rw [h, Int.fdiv_eq_ediv_of_nonneg _ (Int.natCast_nonneg _)]; rfl
theorem muln (a m : Nat) : (a : Int) * 2 ^ m = ((a * 2 ^ m : Nat) : Int) := by rw [Int.natCast_mul, Int.natCast_pow]; rfl
theorem bits_and8 {n m : Nat} (hn : n < 256) (hm : m < 256) : bits .u8 .and (n : Int) (m : Int) = ((n &&& m : Nat) : Int) := by
 show IntKind.u8.wrap (((BitVec.ofInt 8 n &&& BitVec.ofInt 8 m : BitVec 8).toNat : Nat) : Int) = _
 rw [BitVec.ofInt_natCast, BitVec.ofInt_natCast, BitVec.toNat_and, BitVec.toNat_ofNat, BitVec.toNat_ofNat, wu8]
 simp only [Nat.reducePow]
 rw [Nat.mod_eq_of_lt hn, Nat.mod_eq_of_lt hm, Int.emod_eq_of_lt (by omega)]
 have := Nat.and_le_left (n := n) (m := m)
 omega
theorem and1_64 {n : Nat} (hn : n < 18446744073709551616) : bits .u64 .and (n : Int) 1 = ((n % 2 : Nat) : Int) := by
 have := bits_and64 (n := n) (m := 1) hn (by decide)
 rw [show ((1 : Nat) : Int) = 1 from rfl] at this
 rw [this, Nat.and_one_is_mod]
theorem limbsN_lt (w : Nat) (n x : Nat) : ∀ y ∈ limbsN w n x, y < 2 ^ w := by
 induction n generalizing x with
 | zero => intro y h; simp [limbsN] at h
 | succ n ih =>
  intro y h
  rcases List.mem_cons.1 h with rfl | h
  ·exact Nat.mod_lt _ (Nat.two_pow_pos w)
  ·exact ih _ y h
theorem getD_lt {l : List Nat} {b : Nat} (h : ∀ x ∈ l, x < b) (hb : 0 < b) (j : Nat) : l.getD j 0 < b := by
 simp only [List.getD]
 cases e : l[j]? with
 | none => exact hb
 | some x => exact h x (List.mem_of_getElem? e)
theorem limbs_zero (w n : Nat) : limbsN w n 0 = List.replicate n 0 := by
 induction n with
 | zero => rfl
 | succ n ih => rw [limbsN, Nat.zero_div, ih, Nat.zero_mod]; rfl
theorem val26_zl (m : List Nat) : val26 (zl m) = (valN 26 m : Int) := by
 induction m with
 | nil => rfl
 | cons x xs ih => rw [zl_cons, val26, ih, valN]; rfl
theorem limbsN_setc (w c : Nat) (hw : 0 < w) (hc0 : 0 < c) : ∀ n X i, i < w * n -> i % w + c ≤ w ->
  (limbsN w n (X % 2 ^ i)).getD (i / w) 0 < 2 ^ (i % w) /\
  (limbsN w n (X % 2 ^ i)).set (i / w) ((limbsN w n (X % 2 ^ i)).getD (i / w) 0 + 2 ^ (i % w) * (X / 2 ^ i % 2 ^ c)) = limbsN w n (X % 2 ^ (i + c))
 | 0, _, _, h, _ => by simp at h
 | n + 1, X, i, h, hc => by
  by_cases hi : i < w
  ·have h1 : X % 2 ^ i < 2 ^ i := Nat.mod_lt _ (Nat.two_pow_pos i)
   have h2 : (2 : Nat) ^ i < 2 ^ w := Nat.pow_lt_pow_right (by decide) hi
   have h3 : X % 2 ^ (i + c) < 2 ^ (i + c) := Nat.mod_lt _ (Nat.two_pow_pos _)
   rw [Nat.mod_eq_of_lt hi] at hc
   have h4 : (2 : Nat) ^ (i + c) ≤ 2 ^ w := Nat.pow_le_pow_right (by decide) hc
   have h5 : X % 2 ^ (i + c) = X % 2 ^ i + 2 ^ i * (X / 2 ^ i % 2 ^ c) := by rw [Nat.pow_add, Nat.mod_mul]
   rw [Nat.div_eq_of_lt hi, Nat.mod_eq_of_lt hi]
   simp only [limbsN, List.getD_cons_zero, List.set_cons_zero]
   rw [Nat.mod_eq_of_lt (Nat.lt_trans h1 h2), Nat.div_eq_of_lt (Nat.lt_trans h1 h2), Nat.mod_eq_of_lt (Nat.lt_of_lt_of_le h3 h4), Nat.div_eq_of_lt (Nat.lt_of_lt_of_le h3 h4), ← h5]
   exact ⟨h1, rfl⟩
  ·obtain ⟨k, rfl⟩ : ∃ k, i = w + k := ⟨i - w, by omega⟩
   have e1 : (w + k) / w = k / w + 1 := by rw [Nat.add_comm, Nat.add_div_right _ hw]
   have e2 : (w + k) % w = k % w := by rw [Nat.add_comm, Nat.add_mod_right]
   have e3 : ∀ m, (X % 2 ^ (w + m)) % 2 ^ w = X % 2 ^ w := fun m => Nat.mod_mod_of_dvd _ ⟨2 ^ m, Nat.pow_add ..⟩
   have e4 : ∀ m, (X % 2 ^ (w + m)) / 2 ^ w = X / 2 ^ w % 2 ^ m := fun m => by rw [Nat.pow_add, Nat.mod_mul_right_div_self]
   have e5 : X / 2 ^ (w + k) = X / 2 ^ w / 2 ^ k := by rw [Nat.pow_add, Nat.div_div_eq_div_mul]
   have hk : k < w * n := by rw [Nat.mul_succ] at h; omega
   obtain ⟨i1, i2⟩ := limbsN_setc w c hw hc0 n (X / 2 ^ w) k hk (by rw [← e2]; exact hc)
   rw [e1, e2, e5, Nat.add_assoc]
   simp only [limbsN, List.getD_cons_succ, List.set_cons_succ, e3, e4]
   exact ⟨i1, by rw [i2]⟩
end Go.Eng
