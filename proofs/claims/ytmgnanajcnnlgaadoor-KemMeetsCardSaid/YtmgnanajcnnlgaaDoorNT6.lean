/-
  Part of a proof: NT6.
-/
import Derived.Test.YtmgnanajcnnlgaaDoorNT2
import Derived.Test.YtmgnanajcnnlgaaDoorNT5
import Derived.KernelRfl
set_option linter.unusedVariables false
set_option linter.unusedSimpArgs false
namespace Go.Eng
set_option maxRecDepth 100000
theorem priPN : Pri PN := pri_578960
def ph (x : Int) : FF := Fin.ofNat PN (x % (PN : Nat)).toNat
theorem pn_pos : (0 : Int) < ((PN : Nat) : Int) := by decide
theorem ph_v (x : Int) : ((ph x).val : Int) = x % ((PN : Nat) : Int) := by
 have h0 := Int.emod_nonneg x (show ((PN : Nat) : Int) ≠ 0 by decide)
 have h1 := Int.emod_lt_of_pos x pn_pos
 show (((x % ((PN : Nat) : Int)).toNat % PN : Nat) : Int) = _
 rw [Int.natCast_emod, Int.toNat_of_nonneg h0, Int.emod_emod]
theorem ph_ext {a b : FF} (h : (a.val : Int) = (b.val : Int)) : a = b := Fin.ext (Int.ofNat_inj.1 h)
theorem ph_add (x y : Int) : ph (x + y) = ph x + ph y := by
 apply ph_ext
 rw [ph_v]
 show _ = ((((ph x).val + (ph y).val) % PN : Nat) : Int)
 rw [Int.natCast_emod, Int.natCast_add, ph_v, ph_v, ← Int.add_emod]
theorem ph_mul (x y : Int) : ph (x * y) = ph x * ph y := by
 apply ph_ext
 rw [ph_v]
 show _ = ((((ph x).val * (ph y).val) % PN : Nat) : Int)
 rw [Int.natCast_emod, Int.natCast_mul, ph_v, ph_v, ← Int.mul_emod]
theorem ph_eq {x y : Int} : ph x = ph y ↔ x % 57896044618658097711785492504343953926634992332820282019728792003956564819949 = y % 57896044618658097711785492504343953926634992332820282019728792003956564819949 := by
 constructor
 ·intro h
  have := congrArg (fun a : FF => (a.val : Int)) h
  simp only [ph_v] at this
  exact this
 ·intro h
  apply ph_ext
  rw [ph_v, ph_v]; exact h
theorem ph_zero : ph 0 = 0 := by decide
theorem ph_one : ph 1 = 1 := by decide
theorem ph_sub (x y : Int) : ph (x - y) = ph x - ph y := by
 have h : ph (x - y) + ph y = ph x := by rw [← ph_add]; congr 1; omega
 rw [← h]; grobner
theorem ph_val (a : FF) : ph (a.val : Int) = a := by
 apply ph_ext
 rw [ph_v, ← Int.natCast_emod, Nat.mod_eq_of_lt a.isLt]
theorem ph_nat {m n : Nat} : ph (m : Int) = ph (n : Int) ↔ m % PN = n % PN := by
 rw [ph_eq]
 constructor
 ·intro h
  have : ((m % PN : Nat) : Int) = ((n % PN : Nat) : Int) := by
   rw [Int.natCast_emod, Int.natCast_emod]; exact h
  exact Int.ofNat_inj.1 this
 ·intro h
  have : ((m % PN : Nat) : Int) = ((n % PN : Nat) : Int) := by rw [h]
  rw [Int.natCast_emod, Int.natCast_emod] at this; exact this
theorem ph_ne {n : Nat} : ph (n : Int) ≠ 0 ↔ ¬ PN ∣ n := by
 rw [← ph_zero, show (0 : Int) = ((0 : Nat) : Int) from rfl, Ne, ph_nat, Nat.zero_mod]
 exact ⟨fun h hd => h (Nat.mod_eq_zero_of_dvd hd), fun h e => h (Nat.dvd_of_mod_eq_zero e)⟩
theorem ph_mulN (m n : Nat) : ph ((m * n : Nat) : Int) = ph m * ph n := by rw [Int.natCast_mul, ph_mul]
abbrev dN : Nat := 37095705934669439343138083508754565189542113879843219016388785533085940283555
abbrev iN : Nat := 19681161376707505956807079304988542015446066515923890162744021073123829784752
def dF : FF := ph dN
def iF : FF := ph iN
theorem half_pow {p a k : Nat} (hp : Pri p) (h : 2 * k = p - 1) (ha : ¬ p ∣ a) : (a * a) ^ k % p = 1 := by
 rw [← Nat.pow_two, ← Nat.pow_mul, h]
 exact fermat1 hp ha
abbrev kN : Nat := 28948022309329048855892746252171976963317496166410141009864396001978282409974
theorem two_kN : 2 * kN = PN - 1 := rfl
theorem d_pow : dN ^ kN % PN = PN - 1 := by
 have h : powm PN 256 dN kN = PN - 1 := by kernel_rfl
 rw [powm_eq PN 256 dN kN (by decide)] at h
 exact h
theorem inv_FF (a : FF) (h : a ≠ 0) : ∃ b, a * b = 1 := by
 rw [← ph_val a] at h ⊢
 have hd := ph_ne.1 h
 generalize a.val = n at *
 have hf := fermat1 priPN hd
 obtain ⟨k, hk⟩ : ∃ k, PN - 1 = k + 1 := ⟨57896044618658097711785492504343953926634992332820282019728792003956564819947, rfl⟩
 rw [hk] at hf
 refine ⟨ph ((n ^ k : Nat) : Int), ?_⟩
 rw [← ph_mulN, ← ph_one, show (1 : Int) = ((1 : Nat) : Int) from rfl, ph_nat, ← Nat.pow_succ', hf]
 rfl
theorem sq_FF : iF * iF = -1 := by
 have h : ph (iN : Int) * ph (iN : Int) + ph ((1 : Nat) : Int) = ph ((0 : Nat) : Int) := by
  rw [← ph_mulN, ← ph_add, ← Int.natCast_add, ph_nat]
  kernel_rfl
 have e1 : ph ((1 : Nat) : Int) = 1 := ph_one
 have e0 : ph ((0 : Nat) : Int) = 0 := ph_zero
 rw [e1, e0] at h
 unfold iF
 generalize ph (iN : Int) = x at *
 grobner
theorem nsq_FF (A B : FF) (h : A * A = dF * (B * B)) : B = 0 := by
 refine Classical.byContradiction fun hb => ?_
 rw [← ph_val A, ← ph_val B] at h
 rw [← ph_val B] at hb
 have hbd := ph_ne.1 hb
 have hA := ph_val A
 generalize A.val = a at *
 generalize B.val = b at *
 unfold dF at h
 rw [← ph_mulN, ← ph_mulN, ← ph_mulN, ph_nat] at h
 have h2 : (a * a) ^ kN % PN = (dN * (b * b)) ^ kN % PN := by rw [Nat.pow_mod, h, ← Nat.pow_mod]
 rw [Nat.mul_pow dN (b * b) kN, Nat.mul_mod (dN ^ kN), d_pow, half_pow priPN two_kN hbd, Nat.mul_one] at h2
 by_cases ha : PN ∣ a
 ·obtain ⟨c, hc⟩ := ha
  have : (a * a) ^ kN % PN = 0 := by
   obtain ⟨k, hk⟩ : ∃ k, kN = k + 1 := ⟨28948022309329048855892746252171976963317496166410141009864396001978282409973, rfl⟩
   rw [hk, Nat.pow_succ, hc, Nat.mul_assoc PN c, ← Nat.mul_assoc _ PN, Nat.mul_comm _ PN, Nat.mul_assoc PN, Nat.mul_mod_right]
  rw [this] at h2
  exact absurd h2 (by decide)
 ·rw [half_pow priPN two_kN ha] at h2
  exact absurd h2 (by decide)
theorem two_FF : (2 : FF) ≠ 0 := by decide
theorem fldFF : Fld dF iF := ⟨inv_FF, sq_FF, nsq_FF, two_FF⟩
noncomputable def nvF (a : FF) : FF := if h : a = 0 then 0 else Classical.choose (inv_FF a h)
theorem nvF_mul (a : FF) (h : a ≠ 0) : a * nvF a = 1 := by
 unfold nvF
 rw [dif_neg h]
 exact Classical.choose_spec (inv_FF a h)
theorem envF : Env4 dF iF nvF := ⟨fldFF, nvF_mul⟩
abbrev PF : Type := Pt dF
end Go.Eng
