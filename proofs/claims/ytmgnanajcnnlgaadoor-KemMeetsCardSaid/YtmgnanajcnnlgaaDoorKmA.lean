/-
  Part of a proof: KmA.
-/
import Derived.Test.YtmgnanajcnnlgaaDoorNT6
set_option linter.unusedVariables false
set_option linter.unusedSimpArgs false
set_option linter.unusedVariables false
set_option linter.unusedSimpArgs false
namespace Go.Eng
section
variable {d i : FF} {nv : FF -> FF}
def RepU (X Z : FF) (a : Pt d) : Prop := X + Z ≠ 0 /\ X - Z = a.y * (X + Z)
theorem dy_ne (F : Fld d i) (y : FF) : 1 + d * (y * y) ≠ 0 := fun h => by
 have := F.nsq (A := i) (B := y) (by have := F.sq; grobner)
 subst this
 exact F.two (by grobner)
theorem half_ne (F : Fld d i) {a : FF} (h : a ≠ 0) : a + a ≠ 0 := fun e => by
 have : a = 0 \/ (2 : FF) = 0 := F.cases (by grobner)
 rcases this with h' | h'
 ·exact h h'
 ·exact F.two h'
theorem RepU.dbl (E : Env4 d i nv) {c X Z X' Z' : FF} {a : Pt d} (hc : c * (1 + d) = 1) (h : RepU X Z a)
  (hx : X' = (X + Z) * (X + Z) * ((X - Z) * (X - Z)))
  (hz : Z' = ((X + Z) * (X + Z) - (X - Z) * (X - Z)) * ((X + Z) * (X + Z) + ((X + Z) * (X + Z) - (X - Z) * (X - Z)) * (c - 1))) : RepU X' Z' (a.add E a) := by
 obtain ⟨hA, hB⟩ := h
 have ho := a.on
 have hm := less_neA E.F a.on a.on
 have hn := E.N _ hm
 have hd := dy_ne E.F a.y
 have hc0 : c ≠ 0 := fun e => by subst e; exact E.F.two (by grobner)
 show X' + Z' ≠ 0 /\ X' - Z' = (a.add E a).y * (X' + Z')
 have hy : (a.add E a).y = (a.y * a.y + a.x * a.x) * nv (1 - d * (a.x * a.x * (a.y * a.y))) := rfl
 unfold OnA at ho
 generalize (a.add E a).y = y3 at hy ⊢
 generalize hg : a.y = y at *
 generalize hg' : a.x = x at *
 generalize hM : 1 - d * (x * x * (y * y)) = m at *
 generalize nv m = w at *
 generalize hP : X + Z = A at *
 rw [hB] at hx hz
 generalize hq : 1 + d * (y * y) = q at *
 have f1 : y * y = c * q * (1 + x * x) := by
  have : (1 + x * x) * q = (1 + d) * (y * y) := by rw [← hq]; grobner
  have h2 : c * q * (1 + x * x) = c * ((1 + x * x) * q) := by grobner
  rw [h2, this]; grobner
 have f2 : 1 + (1 - y * y) * (c - 1) = c * q := by rw [← hq]; grobner
 have f3 : 2 + x * x - y * y = m := by rw [← hM]; grobner
 have eX : X' = A * A * (A * A) * (c * q) * (1 + x * x) := by rw [hx]; grobner
 have eZ : Z' = A * A * (A * A) * (c * q) * (1 - y * y) := by rw [hz]; grobner
 have e1 : X' + Z' = A * A * (A * A) * (c * q) * m := by rw [eX, eZ, ← f3]; grobner
 have e2 : X' - Z' = A * A * (A * A) * (c * q) * (x * x + y * y) := by rw [eX, eZ]; grobner
 refine ⟨?_, ?_⟩
 ·rw [e1]
  exact E.F.mul (E.F.mul (E.F.mul (E.F.mul hA hA) (E.F.mul hA hA)) (E.F.mul hc0 hd)) hm
 ·rw [e2, e1, hy]
  clear hy ho hM hP hx hz hA hB hq hd f1 f2 f3 eX eZ e1 e2 hc hg hg'
  generalize A * A * (A * A) * (c * q) = k at *
  grobner
theorem fr {m w y s : FF} (h : m * w = 1) (hy : y = s * w) : m * y = s := by rw [hy]; grobner
theorem q_eq {x y : FF} (h : y * y - x * x = 1 + d * (x * x) * (y * y)) : (1 + d * (y * y)) * (x * x) = y * y - 1 := by grobner
theorem core0 {a b t : FF} (h : t * t = a * b) : (1 + d * a) * (1 + d * b) * ((1 + t) * (1 + t)) - (a - 1) * (b - 1) * ((1 - d * t) * (1 - d * t)) = (1 + d) * (1 + d * (t * t)) * (a + b + 2 * t) := by grobner
theorem core {x1 y1 x2 y2 : FF} (o1 : y1 * y1 - x1 * x1 = 1 + d * (x1 * x1) * (y1 * y1)) (o2 : y2 * y2 - x2 * x2 = 1 + d * (x2 * x2) * (y2 * y2)) :
  (1 + d * (y1 * y1)) * (1 + d * (y2 * y2)) * ((1 - d * (x1 * x2 * (y1 * y2)) + (y1 * y2 + x1 * x2)) * (1 + d * (x1 * x2 * (y1 * y2)) + (y1 * y2 - x1 * x2))) = (1 + d) * (1 + d * (y1 * y2 * (y1 * y2))) * ((y1 + y2) * (y1 + y2)) := by
 have h1 := q_eq o1
 have h2 := q_eq o2
 have h := core0 (d := d) (a := y1 * y1) (b := y2 * y2) (t := y1 * y2) (by grobner)
 rw [← h1, ← h2] at h
 have e : (y1 + y2) * (y1 + y2) = y1 * y1 + y2 * y2 + 2 * (y1 * y2) := by clear o1 o2 h1 h2 h; grobner
 rw [e, ← h]
 clear o1 o2 h1 h2 h e
 generalize 1 + d * (y1 * y1) = q1
 generalize 1 + d * (y2 * y2) = q2
 grobner
theorem RepU.more (E : Env4 d i nv) {X1 Z1 X2 Z2 U X5 Z5 : FF} {a b r : Pt d} (h1 : RepU X1 Z1 a) (h2 : RepU X2 Z2 b) (hr : RepU U 1 r) (hU : U ≠ 0) (hb : b = a.add E r)
  (hx : X5 = ((X2 - Z2) * (X1 + Z1) + (X2 + Z2) * (X1 - Z1)) * ((X2 - Z2) * (X1 + Z1) + (X2 + Z2) * (X1 - Z1)))
  (hz : Z5 = ((X2 - Z2) * (X1 + Z1) - (X2 + Z2) * (X1 - Z1)) * ((X2 - Z2) * (X1 + Z1) - (X2 + Z2) * (X1 - Z1)) * U) : RepU X5 Z5 (a.add E b) := by
 obtain ⟨hA1, hB1⟩ := h1
 obtain ⟨hA2, hB2⟩ := h2
 obtain ⟨hu1, hu2⟩ := hr
 have hr' : r = a.neg.add E b := by rw [hb, ← Pt.add_assoc, Pt.neg_add, Pt.zero_add]
 have o1 := a.on
 have o2 := b.on
 have hm := less_neA E.F a.on b.on
 have hn := more_neA E.F a.on b.on
 have d1 := dy_ne E.F a.y
 have d2 := dy_ne E.F b.y
 have d3 := dy_ne E.F (a.y * b.y)
 have hD : r.y = (a.y * b.y + -a.x * b.x) * nv (1 - d * (-a.x * b.x * (a.y * b.y))) := by rw [hr']; rfl
 rw [show 1 - d * (-a.x * b.x * (a.y * b.y)) = 1 + d * (a.x * b.x * (a.y * b.y)) by grobner] at hD
 show X5 + Z5 ≠ 0 /\ X5 - Z5 = (a.add E b).y * (X5 + Z5)
 have hy : (a.add E b).y = (a.y * b.y + a.x * b.x) * nv (1 - d * (a.x * b.x * (a.y * b.y))) := rfl
 have N1 := E.N _ hm
 have N2 := E.N _ hn
 unfold OnA at o1 o2
 generalize (a.add E b).y = y3 at *
 generalize r.y = yD at *
 clear hr' hb
 generalize a.y = y1 at *
 generalize a.x = x1 at *
 generalize b.y = y2 at *
 generalize b.x = x2 at *
 generalize hM : 1 - d * (x1 * x2 * (y1 * y2)) = m at *
 generalize hN : 1 + d * (x1 * x2 * (y1 * y2)) = n at *
 generalize nv m = w at *
 generalize nv n = v at *
 have g1 := fr N1 hy
 have g2 : n * yD = y1 * y2 - x1 * x2 := by rw [fr N2 hD]; clear hx hz o1 o2 hB1 hB2; grobner
 have c1 := core o1 o2
 have c2 := core (y2 := -y2) (x2 := -x2) o1 (by rw [show -y2 * -y2 = y2 * y2 by grobner, show -x2 * -x2 = x2 * x2 by grobner]; exact o2)
 clear N1 N2 hy hD
 have hs : 1 + d ≠ 0 := by have := dy_ne E.F 1; rwa [show 1 + d * (1 * 1) = 1 + d by grobner] at this
 rw [show x1 * -x2 * (y1 * -y2) = x1 * x2 * (y1 * y2) by grobner, show y1 * -y2 + x1 * -x2 = -(y1 * y2 + x1 * x2) by grobner, show y1 * -y2 - x1 * -x2 = -(y1 * y2 - x1 * x2) by grobner, show y1 * -y2 * (y1 * -y2) = y1 * y2 * (y1 * y2) by grobner, show -y2 * -y2 = y2 * y2 by grobner, ← g1, ← g2, hM, hN] at c2
 rw [← g1, ← g2, hM, hN] at c1
 clear g1 g2 o1 o2 hM hN
 have hH := E.F.mul hs d3
 have hG := E.F.mul (E.F.mul d1 d2) (E.F.mul hm hn)
 generalize (1 + d) * (1 + d * (y1 * y2 * (y1 * y2))) = H at *
 generalize X1 + Z1 = A1 at *
 generalize X2 + Z2 = A2 at *
 rw [hB1, hB2] at hx hz
 clear hB1 hB2
 generalize (1 + d * (y1 * y1)) * (1 + d * (y2 * y2)) = q at *
 have e1 : (1 + yD) * (U + 1) = U + U := by clear c1 c2 hx hz; grobner
 have e2 : (1 - yD) * U = 1 + yD := by clear c1 c2 hx hz; grobner
 have hD1 : 1 + yD ≠ 0 := fun e => half_ne E.F hU (by rw [← e1, e]; clear c1 c2 hx hz; grobner)
 have hK := E.F.mul (E.F.mul hA1 hA1) (E.F.mul hA2 hA2)
 have eX : X5 = A1 * A1 * (A2 * A2) * ((y1 + y2) * (y1 + y2)) := by rw [hx]; clear c1 c2 hx hz e1 e2; grobner
 have eZ : Z5 = A1 * A1 * (A2 * A2) * ((y1 + -y2) * (y1 + -y2)) * U := by rw [hz]; clear c1 c2 hx hz e1 e2; grobner
 clear hx hz
 generalize A1 * A1 * (A2 * A2) = K at *
 generalize (y1 + y2) * (y1 + y2) = P at *
 generalize (y1 + -y2) * (y1 + -y2) = M at *
 have c1' : H * P = q * (m * n) * (1 + y3) * (1 + yD) := by rw [← c1]; clear c1 c2 e1 e2 eX eZ; grobner
 have c2' : H * M = q * (m * n) * (1 - y3) * (1 - yD) := by rw [← c2]; clear c1 c2 e1 e2 eX eZ; grobner
 generalize q * (m * n) = G at *
 have hX : H * X5 = K * G * (1 + yD) * (1 + y3) := by rw [eX, show H * (K * P) = K * (H * P) by grobner, c1']; clear c1 c2 c1' c2' e1 e2 eX eZ; grobner
 have hZ : H * Z5 = K * G * (1 + yD) * (1 - y3) := by rw [eZ, show H * (K * M * U) = K * (H * M) * U by grobner, c2', ← e2]; clear c1 c2 c1' c2' e1 e2 eX eZ hX; grobner
 have hk := E.F.mul (E.F.mul hK hG) hD1
 clear c1 c2 c1' c2' e1 e2 eX eZ
 generalize K * G * (1 + yD) = k at *
 have hS : H * (X5 + Z5) = k + k := by rw [show H * (X5 + Z5) = H * X5 + H * Z5 by grobner, hX, hZ]; clear hX hZ; grobner
 have hT : H * (X5 - Z5) = H * (y3 * (X5 + Z5)) := by
  rw [show H * (y3 * (X5 + Z5)) = y3 * (H * (X5 + Z5)) by grobner, hS, show H * (X5 - Z5) = H * X5 - H * Z5 by grobner, hX, hZ]; clear hX hZ hS; grobner
 refine ⟨fun e => half_ne E.F hk (by rw [← hS, e]; clear hX hZ hS hT; grobner), ?_⟩
 have : H * (X5 - Z5 - y3 * (X5 + Z5)) = 0 := by rw [show H * (X5 - Z5 - y3 * (X5 + Z5)) = H * (X5 - Z5) - H * (y3 * (X5 + Z5)) by grobner, hT]; clear hX hZ hS hT; grobner
 have := (E.F.cases this).resolve_left hH
 clear hX hZ hS hT
 grobner
end
end Go.Eng
