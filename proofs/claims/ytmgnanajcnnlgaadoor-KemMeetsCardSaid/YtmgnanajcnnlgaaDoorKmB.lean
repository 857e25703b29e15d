/-
  Part of a proof: KmB.
-/
import Derived.Test.YtmgnanajcnnlgaaDoorKmA
import Derived.Test.YtmgnanajcnnlgaaDoorNT9
import Derived.Test.YtmgnanajcnnlgaaDoorKemR7
set_option linter.unusedVariables false
set_option linter.unusedSimpArgs false
set_option linter.unusedVariables false
set_option linter.unusedSimpArgs false
namespace Go.Eng
set_option maxRecDepth 100000
set_option maxHeartbeats 1000000
theorem ph_modU (x : Int) : ph (x % PP) = ph x := by rw [ph_eq]; exact Int.emod_emod _ _
theorem ph_addU (x y : Int) : ph (addP x y) = ph x + ph y := by show ph ((x + y) % PP) = _; rw [ph_modU, ph_add]
theorem ph_subU (x y : Int) : ph (subP x y) = ph x - ph y := by show ph ((x - y) % PP) = _; rw [ph_modU, ph_sub]
theorem ph_mulU (x y : Int) : ph (mulP x y) = ph x * ph y := by show ph ((x * y) % PP) = _; rw [ph_modU, ph_mul]
def c24 : FF := ph 121666
theorem c24_is : c24 * (1 + dF) = 1 := by
 have h : ph ((121666 * (1 + dN) : Nat) : Int) = ph ((1 : Nat) : Int) := by rw [ph_nat]; kernel_rfl
 rw [ph_mulN, Int.natCast_add, ph_add] at h
 have h1 : ph ((1 : Nat) : Int) = 1 := ph_one
 rw [h1] at h
 exact h
theorem c24_1 : ph 121665 = c24 - 1 := by
 show ph (121666 - 1) = _
 rw [ph_sub, ph_one]; rfl
def LadU (l : L4) (r : PF) (m : Nat) : Prop := RepU (ph l.x2) (ph l.z2) (Pt.mul envF r m) /\ RepU (ph l.x3) (ph l.z3) (Pt.mul envF r (m + 1))
theorem mul_succ (r : PF) (m : Nat) : Pt.mul envF r (m + 1) = (Pt.mul envF r m).add envF r := by
 rw [Pt.mul_add, mul_one]
theorem step_dbl (u : Int) (l : L4) {a : PF} (h : RepU (ph l.x2) (ph l.z2) a) : RepU (ph (stepP u l).x2) (ph (stepP u l).z2) (a.add envF a) := by
 refine RepU.dbl envF c24_is h ?_ ?_
 ·simp only [stepP, ph_addU, ph_subU, ph_mulU]
 ·simp only [stepP, ph_addU, ph_subU, ph_mulU, c24_1]
theorem step_more {u : Int} (l : L4) {a b r : PF} (h : RepU (ph l.x2) (ph l.z2) a) (h' : RepU (ph l.x3) (ph l.z3) b) (hr : RepU (ph u) 1 r) (hu : ph u ≠ 0) (hb : b = a.add envF r \/ a = b.add envF r) : RepU (ph (stepP u l).x3) (ph (stepP u l).z3) (a.add envF b) := by
 rcases hb with hb | hb
 ·refine RepU.more envF h h' hr hu hb ?_ ?_
  ·simp only [stepP, ph_addU, ph_subU, ph_mulU]
  ·simp only [stepP, ph_addU, ph_subU, ph_mulU]
 ·rw [Pt.add_comm]
  refine RepU.more envF h' h hr hu hb ?_ ?_
  ·simp only [stepP, ph_addU, ph_subU, ph_mulU]
   generalize ph l.x2 = x2
   generalize ph l.z2 = z2
   generalize ph l.x3 = x3
   generalize ph l.z3 = z3
   grobner
  ·simp only [stepP, ph_addU, ph_subU, ph_mulU]
   generalize ph l.x2 = x2
   generalize ph l.z2 = z2
   generalize ph l.x3 = x3
   generalize ph l.z3 = z3
   generalize ph u = w
   grobner
theorem lad_is {K : Nat} {u : Int} {r : PF} (hr : RepU (ph u) 1 r) (hu : ph u ≠ 0) : ∀ (i : Nat) (l : L4), LadU l r (K / 2 ^ i) -> LadU (ladP K u i l) r K
 | 0, l, h => by rw [Nat.pow_zero, Nat.div_one] at h; exact h
 | i + 1, l, h => by
  show LadU (ladP K u i (swapP (K / 2 ^ i % 2 == 1) (stepP u (swapP (K / 2 ^ i % 2 == 1) l)))) r K
  refine lad_is hr hu i _ ?_
  have hm : K / 2 ^ (i + 1) = K / 2 ^ i / 2 := by rw [Nat.pow_succ, Nat.div_div_eq_div_mul]
  rw [hm] at h
  generalize K / 2 ^ i = m at *
  obtain ⟨h1, h2⟩ := h
  have e1 : Pt.mul envF r (m / 2 + 1) = (Pt.mul envF r (m / 2)).add envF r := mul_succ r _
  by_cases hb : m % 2 = 1
  ·rw [show (m % 2 == 1) = true by rw [hb]; rfl]
   have d := step_dbl u ⟨l.x3, l.z3, l.x2, l.z2⟩ h2
   have a := step_more ⟨l.x3, l.z3, l.x2, l.z2⟩ h2 h1 hr hu (.inr e1)
   rw [← Pt.mul_add] at d a
   rw [show m / 2 + 1 + (m / 2 + 1) = m + 1 by omega] at d
   rw [show m / 2 + 1 + m / 2 = m by omega] at a
   exact ⟨a, d⟩
  ·rw [show (m % 2 == 1) = false by rw [show m % 2 = 0 by omega]; rfl]
   have d := step_dbl u l h1
   have a := step_more l h1 h2 hr hu (.inl e1)
   rw [← Pt.mul_add] at d a
   rw [show m / 2 + m / 2 = m by omega] at d
   rw [show m / 2 + (m / 2 + 1) = m + 1 by omega] at a
   exact ⟨d, a⟩
theorem x_sq {d x y : FF} (h : y * y - x * x = 1 + d * (x * x) * (y * y)) (hy : y * y = 1) : (1 + d) * (x * x) = 0 := by rw [hy] at h; grobner
theorem two_ne : (1 : FF) ≠ 0 := by decide
theorem ph_inv {z : Int} (h : ph z ≠ 0) : ph z * ph (powP z PM2) = 1 := by
 have hv := ph_val (ph z)
 generalize hn : (ph z).val = n at hv
 have hd : ¬ PN ∣ n := ph_ne.1 (by rw [hv]; exact h)
 have e : ph (powP z PM2) = ph ((n ^ PM2 : Nat) : Int) := by
  unfold powP
  rw [ph_modU]
  have : ∀ k, ph (z ^ k) = ph ((n ^ k : Nat) : Int) := by
   intro k
   induction k with
   | zero => rw [Int.pow_zero, Nat.pow_zero]; rfl
   | succ k ih => rw [Int.pow_succ, Nat.pow_succ, ph_mul, ph_mulN, ih, hv]
  exact this _
 rw [e, ← hv, ← ph_mulN, ← Nat.pow_succ', ← ph_one, show (1 : Int) = ((1 : Nat) : Int) from rfl, ph_nat]
 have := fermat1 priPN hd
 rw [show PM2.succ = PN - 1 from rfl, this]; rfl
theorem RepU.unit {X Z U : FF} {a : PF} (h : RepU X Z a) (hz : Z * U = 1) : RepU (X * U) 1 a := by
 obtain ⟨h1, h2⟩ := h
 have e1 : X * U + 1 = (X + Z) * U := by rw [← hz]; grobner
 have e2 : X * U - 1 = (X - Z) * U := by rw [← hz]; grobner
 have hU : U ≠ 0 := fun e => two_ne (by rw [← hz, e]; grobner)
 exact ⟨by rw [e1]; exact fldFF.mul h1 hU, by rw [e1, e2, h2]; grobner⟩
theorem RepU.z_ne {X Z : FF} {a : PF} (h : RepU X Z a) (hy : a ≠ Pt.zero) : Z ≠ 0 := fun e => by
 obtain ⟨h1, h2⟩ := h
 subst e
 have hy1 : a.y = 1 := by
  have : (a.y - 1) * (X + 0) = 0 := by
   have : (a.y - 1) * (X + 0) = a.y * (X + 0) - (X - 0) := by grobner
   rw [this, h2]; grobner
  have := (fldFF.cases this).resolve_right h1
  grobner
 have ho := a.on
 unfold OnA at ho
 rw [hy1] at ho
 have hx := x_sq ho (by grobner)
 have hs : 1 + dF ≠ 0 := fun e => two_ne (by rw [← c24_is, e]; grobner)
 have hx0 : a.x = 0 := by
  rcases fldFF.cases ((fldFF.cases hx).resolve_left hs) with h | h <;> exact h
 exact hy (Pt.ext' hx0 hy1)
theorem RepU.u_inj {U V : FF} {a : PF} (h : RepU U 1 a) (h' : RepU V 1 a) : U = V := by
 obtain ⟨h1, h2⟩ := h
 obtain ⟨h3, h4⟩ := h'
 generalize a.y = y at *
 have e : (1 - y) * (U - V) = 0 := by
  have : (1 - y) * (U - V) = (U - 1 - y * (U + 1)) - (V - 1 - y * (V + 1)) := by clear h2 h4; grobner
  rw [this, h2, h4]; clear h2 h4; grobner
 rcases fldFF.cases e with e | e
 ·exfalso
  have hy : y = 1 := by clear h2 h4; grobner
  subst hy
  exact fldFF.two (by clear h4 e; grobner)
 ·clear h2 h4; grobner
theorem RepU.zero_dbl {a : PF} (h : RepU 0 1 a) : a.add envF a = Pt.zero := by
 obtain ⟨h1, h2⟩ := h
 have hy1 : a.y = -1 := by
  generalize a.y = y at *
  grobner
 have ho := a.on
 unfold OnA at ho
 rw [hy1] at ho
 have hx := x_sq ho (by grobner)
 have hs : 1 + dF ≠ 0 := fun e => two_ne (by rw [← c24_is, e]; grobner)
 have hx0 : a.x = 0 := by
  rcases fldFF.cases ((fldFF.cases hx).resolve_left hs) with h | h <;> exact h
 have hn : a.neg = a := Pt.ext' (by show -a.x = a.x; rw [hx0]; decide) rfl
 have := Pt.add_neg envF a
 rw [hn] at this
 exact this
theorem mult_is {K : Nat} {u : Int} {r : PF} (hr : RepU (ph u) 1 r) (hu : ph u ≠ 0) (hK : K < 2 ^ 255) (h0 : Pt.mul envF r K ≠ Pt.zero) : RepU (ph (multP K u)) 1 (Pt.mul envF r K) := by
 have hl : LadU (ladP K u 255 ⟨1, 0, u, 1⟩) r K := lad_is hr hu 255 _ (by
  rw [Nat.div_eq_of_lt hK]
  refine ⟨?_, ?_⟩
  ·show RepU (ph 1) (ph 0) Pt.zero
   rw [ph_one, ph_zero]
   exact ⟨by decide, by show (1 : FF) - 0 = 1 * (1 + 0); decide⟩
  ·show RepU (ph u) (ph 1) (Pt.mul envF r 1)
   rw [ph_one, mul_one]
   exact hr)
 unfold multP
 rw [ph_mulU]
 exact hl.1.unit (ph_inv (hl.1.z_ne h0))
end Go.Eng
