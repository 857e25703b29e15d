/-
  Part of a proof: NT9.
-/
import Derived.Test.YtmgnanajcnnlgaaDoorNT7
import Derived.Test.YtmgnanajcnnlgaaDoorNT8
set_option linter.unusedVariables false
set_option linter.unusedSimpArgs false
set_option linter.unusedVariables false
set_option linter.unusedSimpArgs false
namespace Go.Eng
set_option maxRecDepth 100000
set_option maxHeartbeats 1000000
abbrev LN : Nat := 7237005577332262213973186563042994240857116359379907606001950938285454250989
theorem LN_lt : LN < 2 ^ 256 := by decide
theorem mul_one (a : PF) : Pt.mul envF a 1 = a := Pt.zero_add envF a
abbrev bxN : Nat := 15112221349535400772501151409588531511454012693041857206046113283949847762202
abbrev byN : Nat := 46316835694926478169428394003475163141307993866256225615783033603165251855960
theorem base_on : OnA dF (ph bxN) (ph byN) := by
 have h : ph ((byN * byN : Nat) : Int) = ph ((bxN * bxN + (1 + dN * (bxN * bxN) * (byN * byN)) : Nat) : Int) := by
  rw [ph_nat]; kernel_rfl
 rw [Int.natCast_add, Int.natCast_add, ph_add, ph_add, ph_mulN, ph_mulN, ph_mulN, ph_mulN, ph_mulN, ph_mulN] at h
 have h1 : ph ((1 : Nat) : Int) = 1 := ph_one
 rw [h1] at h
 unfold OnA dF
 generalize ph (bxN : Int) = x at *
 generalize ph (byN : Int) = y at *
 generalize ph (dN : Int) = d at *
 grind
def B : PF := ⟨ph bxN, ph byN, base_on⟩
def bQ : Q4 := ⟨15112221349535400772501151409588531511454012693041857206046113283949847762202, 46316835694926478169428394003475163141307993866256225615783033603165251855960, 1, 46827403850823179245072216630277197565144205554125654976674165829533817101731⟩
theorem bQ_rep : Rep4 bQ.to B := by
 have h := Rep4.at_ fldFF base_on
 have e : ph ((46827403850823179245072216630277197565144205554125654976674165829533817101731 : Nat) : Int) = ph (bxN : Int) * ph (byN : Int) := by
  rw [← ph_mulN, ph_nat]; kernel_rfl
 have h1 : ph ((1 : Nat) : Int) = 1 := ph_one
 unfold Q4.to bQ
 simp only [h1]
 rw [e]
 exact h
noncomputable def isZ (q : Q4) : Bool := Q4.rec (fun x y z _ => Nat.beq x 0 && Nat.beq y z) q
theorem lB_raw : isZ (qmul bQ LN 256 q0) = true := by kernel_rfl
theorem lB : Pt.mul envF B LN = Pt.zero := by
 have h := qmul_is bQ_rep (s := LN) LN_lt
 have hz := lB_raw
 generalize qmul bQ LN 256 q0 = q at *
 obtain ⟨x, y, z, t⟩ := q
 have hz' : (Nat.beq x 0 && Nat.beq y z) = true := hz
 rw [Bool.and_eq_true] at hz'
 have hx := Nat.eq_of_beq_eq_true hz'.1
 have hy := Nat.eq_of_beq_eq_true hz'.2
 subst hx hy
 obtain ⟨n1, h1, h2, _⟩ := h
 simp only [Q4.to] at n1 h1 h2
 have h0 : ph ((0 : Nat) : Int) = 0 := ph_zero
 rw [h0] at h1
 apply Pt.ext'
 ·show (Pt.mul envF B LN).x = 0
  exact (fldFF.cases h1.symm).resolve_right n1
 ·show (Pt.mul envF B LN).y = 1
  have hn := nvF_mul _ n1
  generalize (Pt.mul envF B LN).y = Y at *
  generalize ph (y : Int) = P at *
  generalize nvF P = w at *
  have : Y = Y * (P * w) := by rw [hn]; grind
  rw [this]
  have : Y * (P * w) = (Y * P) * w := by grind
  rw [this, ← h2, hn]
theorem B_ne : B ≠ Pt.zero := fun h => by
 have hy : B.y = (Pt.zero : PF).y := by rw [h]
 have hy' : ph (byN : Int) = ph ((1 : Nat) : Int) := by
  have h1 : ph ((1 : Nat) : Int) = 1 := ph_one
  rw [h1]; exact hy
 rw [ph_nat] at hy'
 exact absurd hy' (by decide)
theorem order {m : Nat} (h : Pt.mul envF B m = Pt.zero) : LN ∣ m := by
 refine Classical.byContradiction fun hn => ?_
 have hc : Nat.Coprime LN m := (show Pri LN from pri_723700).cop hn
 have key : ∀ a b, Pt.mul envF B a = Pt.zero -> Pt.mul envF B b = Pt.zero -> Pt.mul envF B (Nat.gcd a b) = Pt.zero := by
  intro a b
  induction a, b using Nat.gcd.induction with
  | H0 n => intro _ h; rw [Nat.gcd_zero_left]; exact h
  | H1 m n hm ih =>
   intro h1 h2
   rw [Nat.gcd_rec]
   refine ih ?_ h1
   have := Pt.mul_mod envF h1 n
   rw [this, h2]
 have h1 := key LN m lB h
 rw [hc] at h1
 exact B_ne (by rw [← mul_one B]; exact h1)
end Go.Eng
