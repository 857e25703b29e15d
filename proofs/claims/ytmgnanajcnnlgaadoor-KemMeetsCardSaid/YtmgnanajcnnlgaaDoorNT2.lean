/-
  Part of a proof: NT2.
-/
import Derived.Test.YtmgnanajcnnlgaaDoorNT1
import Derived.KernelRfl
set_option linter.unusedVariables false
set_option linter.unusedSimpArgs false
namespace Go.Eng
set_option maxRecDepth 100000
def powm (m : Nat) : Nat -> Nat -> Nat -> Nat
 | 0, _, _ => 1 % m
 | k + 1, a, e => cond (Nat.beq (e % 2) 0) (powm m k (a * a % m) (e / 2)) (a * powm m k (a * a % m) (e / 2) % m)
theorem powm_eq (m : Nat) : ∀ k a e, e < 2 ^ k -> powm m k a e = a ^ e % m
 | 0, a, e, h => by
  have : e = 0 := by simpa using h
  rw [this]; rfl
 | k + 1, a, e, h => by
  have ih := powm_eq m k (a * a % m) (e / 2) (by rw [Nat.pow_succ] at h; omega)
  have e2 : (a * a % m) ^ (e / 2) % m = a ^ (2 * (e / 2)) % m := by rw [← Nat.pow_mod, Nat.pow_mul, Nat.pow_two]
  rw [e2] at ih
  cases hb : Nat.beq (e % 2) 0 with
  | true =>
   have h0 : e % 2 = 0 := Nat.eq_of_beq_eq_true hb
   rw [powm, hb, cond_true, ih, show 2 * (e / 2) = e by omega]
  | false =>
   have h0 : e % 2 ≠ 0 := Nat.ne_of_beq_eq_false hb
   rw [powm, hb, cond_false, ih, Nat.mul_mod_mod, ← Nat.pow_succ', show (2 * (e / 2)).succ = e by omega]
theorem pow_one_mul {r b m : Nat} (k : Nat) (hr : 1 < r) (h : b ^ m % r = 1) : b ^ (m * k) % r = 1 := by
 rw [Nat.pow_mul, Nat.pow_mod, h, Nat.one_pow, Nat.mod_eq_of_lt hr]
theorem pow_gcd {r b : Nat} (hr : 1 < r) (m n : Nat) (h1 : b ^ m % r = 1) (h2 : b ^ n % r = 1) : b ^ (Nat.gcd m n) % r = 1 := by
 induction m, n using Nat.gcd.induction with
 | H0 n => rw [Nat.gcd_zero_left]; exact h2
 | H1 m n hm ih =>
  rw [Nat.gcd_rec]
  refine ih ?_ h1
  have e : b ^ n % r = b ^ (m * (n / m)) * b ^ (n % m) % r := by rw [← Nat.pow_add, Nat.div_add_mod]
  rw [e, Nat.mul_mod, pow_one_mul _ hr h1, Nat.one_mul, Nat.mod_mod] at h2
  exact h2
theorem ord_dvd {r q b : Nat} (hr : Pri r) (hq : Pri q) (h : b ^ q % r = 1) (h1 : b % r ≠ 1) : q ∣ r - 1 := by
 have hr1 := hr.1
 refine Classical.byContradiction fun hn => h1 ?_
 have hb : ¬ r ∣ b := fun ⟨c, hc⟩ => by
  have : b ^ q % r = 0 := by
   obtain ⟨j, rfl⟩ : ∃ j, q = j + 1 := ⟨q - 1, by have := hq.1; omega⟩
   rw [hc, Nat.pow_succ, ← Nat.mul_assoc, Nat.mul_right_comm, Nat.mul_mod_left]
  omega
 have := pow_gcd hr1 q (r - 1) h (fermat1 hr hb)
 rw [hq.cop hn, Nat.pow_one] at this
 exact this
def wit (n : Nat) : Nat × Nat -> Bool := fun x => Nat.beq (powm n 256 x.2 (n - 1)) 1 && Nat.beq (Nat.gcd (powm n 256 x.2 ((n - 1) / x.1) + (n - 1)) n) 1 && Nat.beq ((n - 1) % x.1) 0
def prod : List (Nat × Nat) -> Nat
 | [] => 1
 | x :: xs => x.1 * prod xs
theorem prod_dvd {x : Nat} : ∀ l : List (Nat × Nat), (∀ y ∈ l, y.1 ∣ x) -> (∀ y ∈ l, Pri y.1) -> (l.map Prod.fst).Nodup -> prod l ∣ x /\ ∀ p, Pri p -> p ∣ prod l -> ∃ y ∈ l, y.1 = p
 | [], _, _, _ => ⟨Nat.one_dvd x, fun p hp hd => by have := hp.1; have h2 : p ≤ 1 := Nat.le_of_dvd (by decide) hd; omega⟩
 | y :: l, h, hp, hn => by
  rw [List.map_cons, List.nodup_cons] at hn
  obtain ⟨i1, i2⟩ := prod_dvd l (fun z hz => h z (List.mem_cons_of_mem _ hz)) (fun z hz => hp z (List.mem_cons_of_mem _ hz)) hn.2
  have hy := hp y (List.mem_cons_self ..)
  have hc : Nat.Coprime y.1 (prod l) := hy.cop fun hd => by
   obtain ⟨z, hz, e⟩ := i2 y.1 hy hd
   exact hn.1 (e ▸ List.mem_map_of_mem hz)
  refine ⟨hc.mul_dvd_of_dvd_of_dvd (h y (List.mem_cons_self ..)) i1, fun p hpp hd => ?_⟩
  rcases hpp.mul hd with e | e
  ·rcases hy.2 p e with e | e
   ·have := hpp.1; omega
   ·exact ⟨y, List.mem_cons_self .., e.symm⟩
  ·obtain ⟨z, hz, e⟩ := i2 p hpp e
   exact ⟨z, List.mem_cons_of_mem _ hz, e⟩
theorem pock {n : Nat} (h1 : 1 < n) (l : List (Nat × Nat)) (hn : n < 2 ^ 256) (hp : ∀ y ∈ l, Pri y.1) (hd : (l.map Prod.fst).Nodup) (hw : l.all (wit n) = true) (hF : n < prod l * prod l) : Pri n := by
 refine Classical.byContradiction fun hno => ?_
 obtain ⟨r, r1, r2, r3⟩ := small_pri h1 hno
 have hr := r1.1
 have hdv : prod l ∣ r - 1 := (prod_dvd l (fun y hy => by
  have hw := List.all_eq_true.1 hw y hy
  unfold wit at hw
  rw [Bool.and_eq_true, Bool.and_eq_true] at hw
  have w1 := Nat.eq_of_beq_eq_true hw.1.1
  have w2 := Nat.eq_of_beq_eq_true hw.1.2
  have w3 := Nat.eq_of_beq_eq_true hw.2
  rw [powm_eq n 256 y.2 (n - 1) (by omega)] at w1
  rw [powm_eq n 256 y.2 _ (Nat.lt_of_le_of_lt (Nat.div_le_self _ _) (by omega))] at w2
  have hyd : (n - 1) / y.1 * y.1 = n - 1 := Nat.div_mul_cancel (Nat.dvd_of_mod_eq_zero w3)
  refine ord_dvd r1 (hp y hy) (b := y.2 ^ ((n - 1) / y.1)) ?_ ?_
  ·rw [← Nat.pow_mul, hyd, ← Nat.mod_mod_of_dvd _ r2, w1, Nat.mod_eq_of_lt hr]
  ·intro he
   rw [← Nat.mod_mod_of_dvd _ r2] at he
   have : r ∣ Nat.gcd (y.2 ^ ((n - 1) / y.1) % n + (n - 1)) n := by
    refine Nat.dvd_gcd (Nat.dvd_of_mod_eq_zero ?_) r2
    generalize y.2 ^ ((n - 1) / y.1) % n = z at he
    clear hyd w1 w2 w3 hw
    obtain ⟨c, hc⟩ := r2
    have hc0 : 0 < c := Nat.pos_of_ne_zero fun e => by rw [e] at hc; omega
    obtain ⟨d, rfl⟩ : ∃ d, c = d + 1 := ⟨c - 1, by omega⟩
    have e1 : n - 1 = (r - 1) + r * d := by rw [hc, Nat.mul_succ]; omega
    rw [e1, ← Nat.add_assoc, Nat.add_mul_mod_self_left, Nat.add_mod, he, Nat.mod_eq_of_lt (a := r - 1) (by omega), show 1 + (r - 1) = r by omega, Nat.mod_self]
   rw [w2] at this
   have := Nat.le_of_dvd (by decide) this
   omega) hp hd).1
 have hle := Nat.le_of_dvd (by omega) hdv
 have : prod l * prod l ≤ r * r := Nat.mul_le_mul (by omega) (by omega)
 omega
def noDiv (n : Nat) : Nat -> Nat -> Bool
 | 0, _ => true
 | k + 1, d => !(Nat.beq (n % d) 0) && noDiv n k (d + 1)
theorem noDiv_spec (n : Nat) : ∀ k d, noDiv n k d = true -> ∀ m, d ≤ m -> m < d + k -> ¬ m ∣ n
 | 0, d, _, m, h1, h2 => by omega
 | k + 1, d, h, m, h1, h2 => by
  rw [noDiv, Bool.and_eq_true] at h
  by_cases e : m = d
  ·intro hd
   have := Nat.mod_eq_zero_of_dvd hd
   rw [e] at this
   rw [this] at h
   exact absurd h.1 (by decide)
  ·exact noDiv_spec n k (d + 1) h.2 m (by omega) (by omega)
theorem trial {n : Nat} (k : Nat) (h1 : 1 < n) (h : noDiv n k 2 = true) (hk : n < (k + 2) * (k + 2)) : Pri n := by
 refine Classical.byContradiction fun hno => ?_
 obtain ⟨r, r1, r2, r3⟩ := small_pri h1 hno
 have hr := r1.1
 refine noDiv_spec n k 2 h r hr ?_ r2
 refine Classical.byContradiction fun hh => ?_
 have : (k + 2) * (k + 2) ≤ r * r := Nat.mul_le_mul (by omega) (by omega)
 omega
theorem all1 {P : Nat × Nat -> Prop} {a : Nat × Nat} (h : P a) : ∀ y ∈ [a], P y := fun y hy => by rw [List.mem_singleton.1 hy]; exact h
theorem all2 {P : Nat × Nat -> Prop} {a b : Nat × Nat} (h : P a) (h' : P b) : ∀ y ∈ [a, b], P y := fun y hy => by
 rcases List.mem_cons.1 hy with rfl | hy
 ·exact h
 ·rw [List.mem_singleton.1 hy]; exact h'
theorem pri_991 : Pri 991 := trial 31 (by decide) (by kernel_rfl) (by decide)
theorem pri_103 : Pri 103 := trial 10 (by decide) (by kernel_rfl) (by decide)
theorem pri_857413 : Pri 8574133 := pock (by decide) [(991, 2), (103, 2)] (by decide) (all2 pri_991 pri_103) (by decide) (by kernel_rfl) (by decide)
theorem pri_127 : Pri 127 := trial 11 (by decide) (by kernel_rfl) (by decide)
theorem pri_191951 : Pri 1919519569386763 := pock (by decide) [(8574133, 2), (127, 2)] (by decide) (all2 pri_857413 pri_127) (by decide) (by kernel_rfl) (by decide)
theorem pri_419 : Pri 419 := trial 20 (by decide) (by kernel_rfl) (by decide)
theorem pri_97 : Pri 97 := trial 9 (by decide) (by kernel_rfl) (by decide)
theorem pri_569003 : Pri 569003 := pock (by decide) [(419, 2), (97, 2)] (by decide) (all2 pri_419 pri_97) (by decide) (by kernel_rfl) (by decide)
theorem pri_277332 : Pri 2773320623 := pock (by decide) [(569003, 2)] (by decide) (all1 pri_569003) (by decide) (by kernel_rfl) (by decide)
theorem pri_721063 : Pri 72106336199 := pock (by decide) [(2773320623, 2)] (by decide) (all1 pri_277332) (by decide) (by kernel_rfl) (by decide)
theorem pri_754457 : Pri 75445702479781427272750846543864801 := pock (by decide) [(1919519569386763, 2), (72106336199, 2)] (by decide) (all2 pri_191951 pri_721063) (by decide) (by kernel_rfl) (by decide)
theorem pri_1723 : Pri 1723 := trial 41 (by decide) (by kernel_rfl) (by decide)
theorem pri_430751 : Pri 430751 := pock (by decide) [(1723, 2)] (by decide) (all1 pri_1723) (by decide) (by kernel_rfl) (by decide)
theorem pri_4153 : Pri 4153 := trial 64 (by decide) (by kernel_rfl) (by decide)
theorem pri_317577 : Pri 31757755568855353 := pock (by decide) [(430751, 2), (4153, 2)] (by decide) (all2 pri_430751 pri_4153) (by decide) (by kernel_rfl) (by decide)
theorem pri_740582 : Pri 74058212732561358302231226437062788676166966415465897661863160754340907 := pock (by decide) [(75445702479781427272750846543864801, 2), (31757755568855353, 2)] (by decide) (all2 pri_754457 pri_317577) (by decide) (by kernel_rfl) (by decide)
theorem pri_578960 : Pri 57896044618658097711785492504343953926634992332820282019728792003956564819949 := pock (by decide) [(74058212732561358302231226437062788676166966415465897661863160754340907, 2)] (by decide) (all1 pri_740582) (by decide) (by kernel_rfl) (by decide)
end Go.Eng
