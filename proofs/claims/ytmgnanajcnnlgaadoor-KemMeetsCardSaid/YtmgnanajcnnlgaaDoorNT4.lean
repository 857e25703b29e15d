/-
  Part of a proof: NT4.
-/
import Derived.Test.YtmgnanajcnnlgaaDoorNT3
set_option linter.unusedVariables false
set_option linter.unusedSimpArgs false
namespace Go.Eng
section
variable {d i : FF} {nv : FF -> FF}
def OnA (d x y : FF) : Prop := y * y - x * x = 1 + d * (x * x) * (y * y)
theorem OnA.on {x y : FF} (h : OnA d x y) : On d x y 1 := by unfold OnA at h; unfold On; grobner
theorem more_neA (F : Fld d i) {x1 y1 x2 y2 : FF} (h1 : OnA d x1 y1) (h2 : OnA d x2 y2) : 1 + d * (x1 * x2 * (y1 * y2)) ≠ 0 := fun h => by
 have n1 : (1 : FF) ≠ 0 := fun e => F.two (by grobner)
 exact more_ne F h1.on h2.on n1 n1 (by grobner)
theorem less_neA (F : Fld d i) {x1 y1 x2 y2 : FF} (h1 : OnA d x1 y1) (h2 : OnA d x2 y2) : 1 - d * (x1 * x2 * (y1 * y2)) ≠ 0 := fun h => by
 have n1 : (1 : FF) ≠ 0 := fun e => F.two (by grobner)
 exact less_ne F h1.on h2.on n1 n1 (by grobner)
def sx (d : FF) (nv : FF -> FF) (x1 y1 x2 y2 : FF) : FF := (x1 * y2 + x2 * y1) * nv (1 + d * (x1 * x2 * (y1 * y2)))
def sy (d : FF) (nv : FF -> FF) (x1 y1 x2 y2 : FF) : FF := (y1 * y2 + x1 * x2) * nv (1 - d * (x1 * x2 * (y1 * y2)))
theorem OnA_sum (F : Fld d i) (N : ∀ a : FF, a ≠ 0 -> a * nv a = 1) {x1 y1 x2 y2 : FF} (h1 : OnA d x1 y1) (h2 : OnA d x2 y2) : OnA d (sx d nv x1 y1 x2 y2) (sy d nv x1 y1 x2 y2) := by
 have hm := N _ (more_neA F h1 h2)
 have hl := N _ (less_neA F h1 h2)
 have key : (y1 * y2 + x1 * x2) * (y1 * y2 + x1 * x2) * ((1 + d * (x1 * x2 * (y1 * y2))) * (1 + d * (x1 * x2 * (y1 * y2)))) - (x1 * y2 + x2 * y1) * (x1 * y2 + x2 * y1) * ((1 - d * (x1 * x2 * (y1 * y2))) * (1 - d * (x1 * x2 * (y1 * y2))))
   = (1 + d * (x1 * x2 * (y1 * y2))) * (1 + d * (x1 * x2 * (y1 * y2))) * ((1 - d * (x1 * x2 * (y1 * y2))) * (1 - d * (x1 * x2 * (y1 * y2)))) + d * ((x1 * y2 + x2 * y1) * (x1 * y2 + x2 * y1)) * ((y1 * y2 + x1 * x2) * (y1 * y2 + x1 * x2)) := by
  unfold OnA at h1 h2
  grobner
 unfold OnA sx sy
 clear h1 h2
 generalize 1 + d * (x1 * x2 * (y1 * y2)) = A at *
 generalize 1 - d * (x1 * x2 * (y1 * y2)) = B at *
 generalize x1 * y2 + x2 * y1 = c at *
 generalize y1 * y2 + x1 * x2 = m at *
 generalize nv A = a at *
 generalize nv B = b at *
 grobner
structure Pt (d : FF) where
 x : FF
 y : FF
 on : OnA d x y
theorem Pt.ext' {p q : Pt d} (h : p.x = q.x) (h' : p.y = q.y) : p = q := by
 obtain ⟨x, y, o⟩ := p
 obtain ⟨x', y', o'⟩ := q
 simp only at h h'
 subst h h'
 rfl
structure Env4 (d i : FF) (nv : FF -> FF) : Prop where
 F : Fld d i
 N : ∀ a : FF, a ≠ 0 -> a * nv a = 1
def Pt.add (E : Env4 d i nv) (p q : Pt d) : Pt d := ⟨sx d nv p.x p.y q.x q.y, sy d nv p.x p.y q.x q.y, OnA_sum E.F E.N p.on q.on⟩
def Pt.zero : Pt d := ⟨0, 1, by unfold OnA; grobner⟩
def Pt.neg (p : Pt d) : Pt d := ⟨-p.x, p.y, by have := p.on; unfold OnA at *; grobner⟩
theorem Pt.add_comm (E : Env4 d i nv) (p q : Pt d) : p.add E q = q.add E p := by
 apply Pt.ext'
 ·show sx d nv p.x p.y q.x q.y = sx d nv q.x q.y p.x p.y
  unfold sx
  rw [show p.x * q.x * (p.y * q.y) = q.x * p.x * (q.y * p.y) by grobner, show p.x * q.y + q.x * p.y = q.x * p.y + p.x * q.y by grobner]
 ·show sy d nv p.x p.y q.x q.y = sy d nv q.x q.y p.x p.y
  unfold sy
  rw [show p.x * q.x * (p.y * q.y) = q.x * p.x * (q.y * p.y) by grobner, show p.y * q.y + p.x * q.x = q.y * p.y + q.x * p.x by grobner]
theorem nv_one (E : Env4 d i nv) : nv 1 = 1 := by
 have := E.N 1 (fun e => E.F.two (by grobner))
 grobner
theorem Pt.zero_add (E : Env4 d i nv) (p : Pt d) : Pt.zero.add E p = p := by
 have h1 := nv_one E
 apply Pt.ext'
 ·show sx d nv 0 1 p.x p.y = p.x
  unfold sx
  rw [show 1 + d * (0 * p.x * (1 * p.y)) = 1 by grobner, h1]; grobner
 ·show sy d nv 0 1 p.x p.y = p.y
  unfold sy
  rw [show 1 - d * (0 * p.x * (1 * p.y)) = 1 by grobner, h1]; grobner
theorem Pt.add_zero (E : Env4 d i nv) (p : Pt d) : p.add E Pt.zero = p := by rw [Pt.add_comm, Pt.zero_add]
theorem Pt.add_neg (E : Env4 d i nv) (p : Pt d) : p.add E p.neg = Pt.zero := by
 have ho := p.on
 have hl := E.N _ (less_neA E.F p.on p.neg.on)
 apply Pt.ext'
 ·show sx d nv p.x p.y (-p.x) p.y = 0
  unfold sx
  grobner
 ·show sy d nv p.x p.y (-p.x) p.y = 1
  replace hl : (1 - d * (p.x * -p.x * (p.y * p.y))) * nv (1 - d * (p.x * -p.x * (p.y * p.y))) = 1 := hl
  unfold sy
  unfold OnA at ho
  have : p.y * p.y + p.x * -p.x = 1 - d * (p.x * -p.x * (p.y * p.y)) := by grobner
  rw [this, hl]
theorem assoc_x {x1 y1 x2 y2 x3 y3 c m e c' m' e' : FF} (h1 : OnA d x1 y1) (h2 : OnA d x2 y2) (h3 : OnA d x3 y3)
  (hc : c = x1 * y2 + x2 * y1) (hm : m = y1 * y2 + x1 * x2) (he : e = d * (x1 * x2 * (y1 * y2)))
  (hc' : c' = x2 * y3 + x3 * y2) (hm' : m' = y2 * y3 + x2 * x3) (he' : e' = d * (x2 * x3 * (y2 * y3))) :
  (c * (1 - e) * y3 + x3 * m * (1 + e)) * ((1 + e') * (1 - e') + d * c' * m' * x1 * y1) = (x1 * m' * (1 + e') + c' * (1 - e') * y1) * ((1 + e) * (1 - e) + d * c * m * x3 * y3) := by
 unfold OnA at h1 h2 h3
 subst hc hm he hc' hm' he'
 grobner (ringSteps := 10000000)
theorem assoc_y {x1 y1 x2 y2 x3 y3 c m e c' m' e' : FF} (h1 : OnA d x1 y1) (h2 : OnA d x2 y2) (h3 : OnA d x3 y3)
  (hc : c = x1 * y2 + x2 * y1) (hm : m = y1 * y2 + x1 * x2) (he : e = d * (x1 * x2 * (y1 * y2)))
  (hc' : c' = x2 * y3 + x3 * y2) (hm' : m' = y2 * y3 + x2 * x3) (he' : e' = d * (x2 * x3 * (y2 * y3))) :
  (m * (1 + e) * y3 + c * (1 - e) * x3) * ((1 + e') * (1 - e') - d * c' * m' * x1 * y1) = (y1 * m' * (1 + e') + x1 * c' * (1 - e')) * ((1 + e) * (1 - e) - d * c * m * x3 * y3) := by
 unfold OnA at h1 h2 h3
 subst hc hm he hc' hm' he'
 grobner (ringSteps := 10000000)
end
end Go.Eng
