/-
  Part of a proof: NT5.
-/
import Derived.Test.YtmgnanajcnnlgaaDoorNT4
set_option linter.unusedVariables false
set_option linter.unusedSimpArgs false
namespace Go.Eng
section
variable {d i : FF} {nv : FF -> FF}
theorem frac_eq (E : Env4 d i nv) {u1 v1 u2 v2 k1 k2 : FF} (hk1 : k1 ≠ 0) (hk2 : k2 ≠ 0) (h1 : v1 ≠ 0) (h2 : v2 ≠ 0) (h : (k1 * u1) * (k2 * v2) = (k2 * u2) * (k1 * v1)) : u1 * nv v1 = u2 * nv v2 := by
 have a := E.N _ h1
 have b := E.N _ h2
 have c := E.N _ (E.F.mul hk1 hk2)
 generalize nv v1 = w1 at *
 generalize nv v2 = w2 at *
 generalize nv (k1 * k2) = w at *
 have e : u1 * v2 = u2 * v1 := by
  have : w * ((k1 * u1) * (k2 * v2)) = w * ((k2 * u2) * (k1 * v1)) := by rw [h]
  grobner
 have : u1 * w1 = (u1 * v2) * (w1 * w2) := by grobner
 rw [this, e]; grobner
theorem Pt.add_assoc (E : Env4 d i nv) (p q r : Pt d) : (p.add E q).add E r = p.add E (q.add E r) := by
 have hm := more_neA E.F p.on q.on
 have hl := less_neA E.F p.on q.on
 have am := E.N _ hm
 have al := E.N _ hl
 have hm' := more_neA E.F q.on r.on
 have hl' := less_neA E.F q.on r.on
 have am' := E.N _ hm'
 have al' := E.N _ hl'
 have gm := more_neA E.F (p.add E q).on r.on
 have gl := less_neA E.F (p.add E q).on r.on
 have gm' := more_neA E.F p.on (q.add E r).on
 have gl' := less_neA E.F p.on (q.add E r).on
 have ax := assoc_x p.on q.on r.on rfl rfl rfl rfl rfl rfl
 have ay := assoc_y p.on q.on r.on rfl rfl rfl rfl rfl rfl
 apply Pt.ext'
 ·show sx d nv (p.add E q).x (p.add E q).y r.x r.y = sx d nv p.x p.y (q.add E r).x (q.add E r).y
  unfold sx
  refine frac_eq E (E.F.mul hm hl) (E.F.mul hm' hl') gm gm' ?_
  show ((1 + d * (p.x * q.x * (p.y * q.y))) * (1 - d * (p.x * q.x * (p.y * q.y))) * (sx d nv p.x p.y q.x q.y * r.y + r.x * sy d nv p.x p.y q.x q.y)) * ((1 + d * (q.x * r.x * (q.y * r.y))) * (1 - d * (q.x * r.x * (q.y * r.y))) * (1 + d * (p.x * sx d nv q.x q.y r.x r.y * (p.y * sy d nv q.x q.y r.x r.y))))
   = ((1 + d * (q.x * r.x * (q.y * r.y))) * (1 - d * (q.x * r.x * (q.y * r.y))) * (p.x * sy d nv q.x q.y r.x r.y + sx d nv q.x q.y r.x r.y * p.y)) * ((1 + d * (p.x * q.x * (p.y * q.y))) * (1 - d * (p.x * q.x * (p.y * q.y))) * (1 + d * (sx d nv p.x p.y q.x q.y * r.x * (sy d nv p.x p.y q.x q.y * r.y))))
  unfold sx sy
  generalize p.x * q.y + q.x * p.y = c at *
  generalize p.y * q.y + p.x * q.x = m at *
  generalize d * (p.x * q.x * (p.y * q.y)) = e at *
  generalize q.x * r.y + r.x * q.y = c' at *
  generalize q.y * r.y + q.x * r.x = m' at *
  generalize d * (q.x * r.x * (q.y * r.y)) = e' at *
  generalize nv (1 + e) = a at *
  generalize nv (1 - e) = b at *
  generalize nv (1 + e') = a' at *
  generalize nv (1 - e') = b' at *
  clear ay gm gl gm' gl' hm hl hm' hl'
  have t1 : (1 + e) * (1 - e) * (c * a * r.y + r.x * (m * b)) = c * (1 - e) * r.y + r.x * m * (1 + e) := by clear ax am' al'; grobner
  have t2 : (1 + e') * (1 - e') * (1 + d * (p.x * (c' * a') * (p.y * (m' * b')))) = (1 + e') * (1 - e') + d * c' * m' * p.x * p.y := by clear ax am al; grobner
  have t3 : (1 + e') * (1 - e') * (p.x * (m' * b') + c' * a' * p.y) = p.x * m' * (1 + e') + c' * (1 - e') * p.y := by clear ax am al; grobner
  have t4 : (1 + e) * (1 - e) * (1 + d * (c * a * r.x * (m * b * r.y))) = (1 + e) * (1 - e) + d * c * m * r.x * r.y := by clear ax am' al'; grobner
  rw [t1, t2, t3, t4, ax]
 ·show sy d nv (p.add E q).x (p.add E q).y r.x r.y = sy d nv p.x p.y (q.add E r).x (q.add E r).y
  unfold sy
  refine frac_eq E (E.F.mul hm hl) (E.F.mul hm' hl') gl gl' ?_
  show ((1 + d * (p.x * q.x * (p.y * q.y))) * (1 - d * (p.x * q.x * (p.y * q.y))) * (sy d nv p.x p.y q.x q.y * r.y + sx d nv p.x p.y q.x q.y * r.x)) * ((1 + d * (q.x * r.x * (q.y * r.y))) * (1 - d * (q.x * r.x * (q.y * r.y))) * (1 - d * (p.x * sx d nv q.x q.y r.x r.y * (p.y * sy d nv q.x q.y r.x r.y))))
   = ((1 + d * (q.x * r.x * (q.y * r.y))) * (1 - d * (q.x * r.x * (q.y * r.y))) * (p.y * sy d nv q.x q.y r.x r.y + p.x * sx d nv q.x q.y r.x r.y)) * ((1 + d * (p.x * q.x * (p.y * q.y))) * (1 - d * (p.x * q.x * (p.y * q.y))) * (1 - d * (sx d nv p.x p.y q.x q.y * r.x * (sy d nv p.x p.y q.x q.y * r.y))))
  unfold sx sy
  generalize p.x * q.y + q.x * p.y = c at *
  generalize p.y * q.y + p.x * q.x = m at *
  generalize d * (p.x * q.x * (p.y * q.y)) = e at *
  generalize q.x * r.y + r.x * q.y = c' at *
  generalize q.y * r.y + q.x * r.x = m' at *
  generalize d * (q.x * r.x * (q.y * r.y)) = e' at *
  generalize nv (1 + e) = a at *
  generalize nv (1 - e) = b at *
  generalize nv (1 + e') = a' at *
  generalize nv (1 - e') = b' at *
  clear ax gm gl gm' gl' hm hl hm' hl'
  have t1 : (1 + e) * (1 - e) * (m * b * r.y + c * a * r.x) = m * (1 + e) * r.y + c * (1 - e) * r.x := by clear ay am' al'; grobner
  have t2 : (1 + e') * (1 - e') * (1 - d * (p.x * (c' * a') * (p.y * (m' * b')))) = (1 + e') * (1 - e') - d * c' * m' * p.x * p.y := by clear ay am al; grobner
  have t3 : (1 + e') * (1 - e') * (p.y * (m' * b') + p.x * (c' * a')) = p.y * m' * (1 + e') + p.x * c' * (1 - e') := by clear ay am al; grobner
  have t4 : (1 + e) * (1 - e) * (1 - d * (c * a * r.x * (m * b * r.y))) = (1 + e) * (1 - e) - d * c * m * r.x * r.y := by clear ay am' al'; grobner
  rw [t1, t2, t3, t4, ay]
def Pt.mul (E : Env4 d i nv) (p : Pt d) : Nat -> Pt d
 | 0 => Pt.zero
 | n + 1 => (p.mul E n).add E p
theorem Pt.mul_add (E : Env4 d i nv) (p : Pt d) (m : Nat) : ∀ n, p.mul E (m + n) = (p.mul E m).add E (p.mul E n)
 | 0 => (Pt.add_zero E _).symm
 | n + 1 => by
  show (p.mul E (m + n)).add E p = (p.mul E m).add E ((p.mul E n).add E p)
  rw [Pt.mul_add E p m n, Pt.add_assoc]
theorem Pt.mul_mul (E : Env4 d i nv) (p : Pt d) (m : Nat) : ∀ n, (p.mul E m).mul E n = p.mul E (m * n)
 | 0 => rfl
 | n + 1 => by
  show ((p.mul E m).mul E n).add E (p.mul E m) = p.mul E (m * n + m)
  rw [Pt.mul_mul E p m n, Pt.mul_add]
theorem Pt.zero_mul (E : Env4 d i nv) : ∀ n, (Pt.zero : Pt d).mul E n = Pt.zero
 | 0 => rfl
 | n + 1 => by
  show (Pt.zero.mul E n).add E Pt.zero = Pt.zero
  rw [Pt.add_zero, Pt.zero_mul E n]
theorem Pt.mul_mod (E : Env4 d i nv) {p : Pt d} {l : Nat} (h : p.mul E l = Pt.zero) (n : Nat) : p.mul E (n % l) = p.mul E n := by
 have : p.mul E n = p.mul E (l * (n / l) + n % l) := by rw [Nat.div_add_mod]
 rw [this, Pt.mul_add, ← Pt.mul_mul, h, Pt.zero_mul, Pt.zero_add]
theorem Pt.neg_add (E : Env4 d i nv) (p : Pt d) : p.neg.add E p = Pt.zero := by rw [Pt.add_comm, Pt.add_neg]
structure P3 where
 x : FF
 y : FF
 z : FF
structure P4 where
 x : FF
 y : FF
 z : FF
 t : FF
def P4.plus (w2 : FF) (p q : P4) : P4 :=
 let a := (p.y - p.x) * (q.y - q.x)
 let b := (p.y + p.x) * (q.y + q.x)
 let c := p.t * q.t * w2
 let w := p.z * q.z
 let w := w + w
 ⟨(b - a) * (w - c), (w + c) * (b + a), (w - c) * (w + c), (b - a) * (b + a)⟩
def P4.dbl (p : P4) : P4 :=
 let a := p.x * p.x
 let b := p.y * p.y
 let c := p.z * p.z
 let c := c + c
 let h := a + b
 let e := h - (p.x + p.y) * (p.x + p.y)
 let g := a - b
 let f := c + g
 ⟨e * f, g * h, f * g, e * h⟩
def Rep3 (P : P3) (a : Pt d) : Prop := P.z ≠ 0 /\ P.x = a.x * P.z /\ P.y = a.y * P.z
def Rep4 (P : P4) (a : Pt d) : Prop := P.z ≠ 0 /\ P.x = a.x * P.z /\ P.y = a.y * P.z /\ P.t = a.x * a.y * P.z
theorem Rep4.plus (E : Env4 d i nv) {P Q : P4} {a b : Pt d} (hp : Rep4 P a) (hq : Rep4 Q b) : Rep4 (P.plus (d + d) Q) (a.add E b) := by
 obtain ⟨n1, h1, h2, h5⟩ := hp
 obtain ⟨n2, h3, h4, h6⟩ := hq
 obtain ⟨X1, Y1, Z1, T1⟩ := P
 obtain ⟨X2, Y2, Z2, T2⟩ := Q
 simp only at n1 h1 h2 n2 h3 h4 h5 h6
 subst h1 h2 h3 h4 h5 h6
 have hm := more_neA E.F a.on b.on
 have hl := less_neA E.F a.on b.on
 have am := E.N _ hm
 have al := E.N _ hl
 have hw := E.F.mul n1 n2
 have n4 := E.F.mul E.F.two E.F.two
 have e1 : (a.y * Z1 + a.x * Z1) * (b.y * Z2 + b.x * Z2) - (a.y * Z1 - a.x * Z1) * (b.y * Z2 - b.x * Z2) = 2 * (Z1 * Z2) * (a.x * b.y + b.x * a.y) := by grobner
 have e2 : (a.y * Z1 + a.x * Z1) * (b.y * Z2 + b.x * Z2) + (a.y * Z1 - a.x * Z1) * (b.y * Z2 - b.x * Z2) = 2 * (Z1 * Z2) * (a.y * b.y + a.x * b.x) := by grobner
 have e3 : Z1 * Z2 + Z1 * Z2 - a.x * a.y * Z1 * (b.x * b.y * Z2) * (d + d) = 2 * (Z1 * Z2) * (1 - d * (a.x * b.x * (a.y * b.y))) := by grobner
 have e4 : Z1 * Z2 + Z1 * Z2 + a.x * a.y * Z1 * (b.x * b.y * Z2) * (d + d) = 2 * (Z1 * Z2) * (1 + d * (a.x * b.x * (a.y * b.y))) := by grobner
 unfold P4.plus Rep4 Pt.add sx sy
 simp only [e1, e2, e3, e4]
 clear e1 e2 e3 e4
 generalize d * (a.x * b.x * (a.y * b.y)) = ep at *
 generalize a.x * b.y + b.x * a.y = c at *
 generalize a.y * b.y + a.x * b.x = m at *
 generalize Z1 * Z2 = W at *
 refine ⟨E.F.mul (E.F.mul (E.F.mul E.F.two hw) hl) (E.F.mul (E.F.mul E.F.two hw) hm), ?_, ?_, ?_⟩
 ·generalize nv (1 + ep) = u at *
  grobner
 ·generalize nv (1 - ep) = u at *
  grobner
 ·generalize nv (1 + ep) = u at *
  generalize nv (1 - ep) = v at *
  grobner
theorem Rep4.dbl (E : Env4 d i nv) {P : P4} {a : Pt d} (hp : Rep4 P a) : Rep4 P.dbl (a.add E a) := by
 obtain ⟨n1, h1, h2, h5⟩ := hp
 obtain ⟨X1, Y1, Z1, T1⟩ := P
 simp only at n1 h1 h2 h5
 subst h1 h2 h5
 have hm := more_neA E.F a.on a.on
 have hl := less_neA E.F a.on a.on
 have am := E.N _ hm
 have al := E.N _ hl
 have on := a.on
 unfold OnA at on
 have o1 : a.x * a.x - a.y * a.y = -(1 + d * (a.x * a.x * (a.y * a.y))) := by grobner
 have e1 : a.x * Z1 * (a.x * Z1) + a.y * Z1 * (a.y * Z1) - (a.x * Z1 + a.y * Z1) * (a.x * Z1 + a.y * Z1) = -(Z1 * Z1 * (a.x * a.y + a.x * a.y)) := by clear on o1 am al; grobner
 have e2 : a.x * Z1 * (a.x * Z1) - a.y * Z1 * (a.y * Z1) = -(Z1 * Z1 * (1 + d * (a.x * a.x * (a.y * a.y)))) := by clear on am al; grobner
 have e3 : a.x * Z1 * (a.x * Z1) + a.y * Z1 * (a.y * Z1) = Z1 * Z1 * (a.y * a.y + a.x * a.x) := by clear on o1 am al; grobner
 have e4 : Z1 * Z1 + Z1 * Z1 + (-(Z1 * Z1 * (1 + d * (a.x * a.x * (a.y * a.y))))) = Z1 * Z1 * (1 - d * (a.x * a.x * (a.y * a.y))) := by clear on o1 am al; grobner
 unfold P4.dbl Rep4 Pt.add sx sy
 simp only [e1, e2, e4]
 simp only [e3]
 clear e1 e2 e3 e4 o1 on
 generalize d * (a.x * a.x * (a.y * a.y)) = ep at *
 generalize a.x * a.y + a.x * a.y = c at *
 generalize a.y * a.y + a.x * a.x = m at *
 have hw := E.F.mul n1 n1
 generalize Z1 * Z1 = W at *
 have e5 : W * (1 - ep) * -(W * (1 + ep)) = -1 * (W * (1 - ep) * (W * (1 + ep))) := by grobner
 refine ⟨?_, ?_, ?_, ?_⟩
 ·rw [e5]
  exact E.F.mul (fun e => E.F.two (by grobner)) (E.F.mul (E.F.mul hw hl) (E.F.mul hw hm))
 ·generalize nv (1 + ep) = u at *
  grobner
 ·generalize nv (1 - ep) = u at *
  grobner
 ·generalize nv (1 + ep) = u at *
  generalize nv (1 - ep) = v at *
  grobner
theorem Rep4.neg {P : P4} {a : Pt d} (hp : Rep4 P a) : Rep4 ⟨0 - P.x, P.y, P.z, 0 - P.t⟩ a.neg := by
 obtain ⟨n1, h1, h2, h5⟩ := hp
 refine ⟨n1, ?_, h2, ?_⟩
 ·show 0 - P.x = -a.x * P.z; rw [h1]; grobner
 ·show 0 - P.t = -a.x * a.y * P.z; rw [h5]; grobner
theorem Rep3.neg {P : P3} {a : Pt d} (hp : Rep3 P a) : Rep3 ⟨0 - P.x, P.y, P.z⟩ a.neg := by
 obtain ⟨n1, h1, h2⟩ := hp
 refine ⟨n1, ?_, h2⟩
 show 0 - P.x = -a.x * P.z; rw [h1]; grobner
theorem Rep4.at_ (F : Fld d i) {x y : FF} (h : OnA d x y) : Rep4 ⟨x, y, 1, x * y⟩ (⟨x, y, h⟩ : Pt d) := ⟨fun e => F.two (by grobner), by show x = x * 1; grobner, by show y = y * 1; grobner, by show x * y = x * y * 1; grobner⟩
theorem Rep3.at_ (F : Fld d i) {x y : FF} (h : OnA d x y) : Rep3 ⟨x, y, 1⟩ (⟨x, y, h⟩ : Pt d) := ⟨fun e => F.two (by grobner), by show x = x * 1; grobner, by show y = y * 1; grobner⟩
end
end Go.Eng
