/-
  Part of a proof: NT7.
-/
import Derived.Test.YtmgnanajcnnlgaaDoorNT6
set_option linter.unusedVariables false
set_option linter.unusedSimpArgs false
namespace Go.Eng
set_option maxRecDepth 100000
def force {α : Type} (n : Nat) (k : Nat -> α) : α := Nat.rec (k 0) (fun m _ => k (m + 1)) n
theorem force_eq {α : Type} (n : Nat) (k : Nat -> α) : force n k = k n := by cases n <;> rfl
structure Q4 where
 x : Nat
 y : Nat
 z : Nat
 t : Nat
def mk4 (x y z t : Nat) : Q4 := force (x % PN) fun x => force (y % PN) fun y => force (z % PN) fun z => force (t % PN) fun t => ⟨x, y, z, t⟩
def ng (x : Nat) : Nat := PN - x % PN
def Q4.plus (p q : Q4) : Q4 :=
 force ((p.y + ng p.x) * (q.y + ng q.x) % PN) fun a => force ((p.y + p.x) * (q.y + q.x) % PN) fun b => force (p.t * q.t * (dN + dN) % PN) fun c => force (p.z * q.z % PN) fun w =>
 force (b + ng a) fun e => force (w + w + ng c) fun f => force (w + w + c) fun g => force (b + a) fun h =>
 mk4 (e * f) (g * h) (f * g) (e * h)
def Q4.dbl (p : Q4) : Q4 :=
 force (p.x * p.x % PN) fun a => force (p.y * p.y % PN) fun b => force (p.z * p.z % PN) fun c =>
 force (a + b) fun h => force (h + ng ((p.x + p.y) * (p.x + p.y))) fun e => force (a + ng b) fun g => force (c + c + g) fun f =>
 mk4 (e * f) (g * h) (f * g) (e * h)
def Q4.to (p : Q4) : P4 := ⟨ph p.x, ph p.y, ph p.z, ph p.t⟩
theorem ph_ng (x : Nat) : ph (ng x : Int) = - ph x := by
 have h : ph ((ng x + x : Nat) : Int) = ph ((0 : Nat) : Int) := by
  rw [ph_nat]
  unfold ng
  have : x % PN < PN := Nat.mod_lt _ (by decide)
  rw [Nat.add_mod, ← Nat.add_mod_mod, ← Nat.add_mod]
  have e : PN - x % PN + x % PN = PN := by omega
  have : (PN - x % PN + x) % PN = (PN - x % PN + x % PN) % PN := (Nat.add_mod_mod ..).symm
  rw [Nat.add_mod_mod, this, e]
  rfl
 rw [Int.natCast_add, ph_add] at h
 have h0 : ph ((0 : Nat) : Int) = 0 := ph_zero
 rw [h0] at h
 generalize ph (ng x : Int) = u at *
 grobner
theorem ph_modN (x : Nat) : ph ((x % PN : Nat) : Int) = ph x := by rw [ph_nat, Nat.mod_mod]
theorem ph_addN (x y : Nat) : ph ((x + y : Nat) : Int) = ph x + ph y := by rw [Int.natCast_add, ph_add]
theorem mk4_to (x y z t : Nat) : (mk4 x y z t).to = ⟨ph x, ph y, ph z, ph t⟩ := by
 unfold mk4
 simp only [force_eq, Q4.to, ph_modN]
theorem Q4.plus_to (p q : Q4) : (p.plus q).to = p.to.plus (dF + dF) q.to := by
 unfold Q4.plus
 simp only [force_eq, mk4_to]
 unfold P4.plus Q4.to
 have hd : ph ((dN + dN : Nat) : Int) = dF + dF := ph_addN dN dN
 simp only [ph_mulN, ph_addN, ph_modN, ph_ng, hd]
 generalize ph p.x = x1
 generalize ph p.y = y1
 generalize ph p.z = z1
 generalize ph p.t = t1
 generalize ph q.x = x2
 generalize ph q.y = y2
 generalize ph q.z = z2
 generalize ph q.t = t2
 have e1 : y1 + -x1 = y1 - x1 := by grobner
 have e2 : y2 + -x2 = y2 - x2 := by grobner
 rw [e1, e2]
 congr 1 <;> grobner
theorem Q4.dbl_to (p : Q4) : p.dbl.to = p.to.dbl := by
 unfold Q4.dbl
 simp only [force_eq, mk4_to]
 unfold P4.dbl Q4.to
 simp only [ph_mulN, ph_addN, ph_modN, ph_ng]
 congr 1 <;> grobner
noncomputable def strict {α : Type} (q : Q4) (k : Q4 -> α) : α := Q4.rec (fun x y z t => k ⟨x, y, z, t⟩) q
theorem strict_eq {α : Type} (q : Q4) (k : Q4 -> α) : strict q k = k q := by cases q; rfl
noncomputable def qmul (b : Q4) (s : Nat) : Nat -> Q4 -> Q4
 | 0, q => q
 | i + 1, q => strict q.dbl fun e => strict (cond (Nat.beq (s / 2 ^ i % 2) 1) (e.plus b) e) (qmul b s i)
theorem qhalf (s i : Nat) : s / 2 ^ i = s / 2 ^ (i + 1) + s / 2 ^ (i + 1) + s / 2 ^ i % 2 := by
 rw [Nat.pow_succ, ← Nat.div_div_eq_div_mul]; omega
theorem qmul_rep {b : Q4} {a : PF} (hb : Rep4 b.to a) (s : Nat) : ∀ (i : Nat) (q : Q4), Rep4 q.to (Pt.mul envF a (s / 2 ^ i)) -> Rep4 (qmul b s i q).to (Pt.mul envF a s)
 | 0, q, h => by rw [Nat.pow_zero, Nat.div_one] at h; exact h
 | i + 1, q, h => by
  have hd := Rep4.dbl envF h
  rw [← Q4.dbl_to, ← Pt.mul_add] at hd
  have hs := qhalf s i
  have he : qmul b s (i + 1) q = qmul b s i (cond (Nat.beq (s / 2 ^ i % 2) 1) (q.dbl.plus b) q.dbl) := by
   rw [qmul, strict_eq, strict_eq]
  rw [he]
  refine qmul_rep hb s i _ ?_
  cases hbit : Nat.beq (s / 2 ^ i % 2) 1 with
  | true =>
   have h1 : s / 2 ^ i % 2 = 1 := Nat.eq_of_beq_eq_true hbit
   rw [cond_true, hs, h1, Q4.plus_to]
   exact Rep4.plus envF hd hb
  | false =>
   have h1 : s / 2 ^ i % 2 ≠ 1 := Nat.ne_of_beq_eq_false hbit
   have h0 : s / 2 ^ i % 2 = 0 := by omega
   rw [cond_false, hs, h0, Nat.add_zero]
   exact hd
def q0 : Q4 := ⟨0, 1, 1, 0⟩
theorem q0_rep : Rep4 q0.to (Pt.zero : PF) := by
 have h1 : ph ((1 : Nat) : Int) = 1 := ph_one
 have h0 : ph ((0 : Nat) : Int) = 0 := ph_zero
 have h : Rep4 ⟨0, 1, 1, 0 * 1⟩ (Pt.zero : PF) := Rep4.at_ fldFF (Pt.zero : PF).on
 unfold Q4.to q0
 simp only [h0, h1]
 have e : (0 : FF) * 1 = 0 := by grobner
 rw [e] at h
 exact h
theorem qmul_is {b : Q4} {a : PF} (hb : Rep4 b.to a) {s : Nat} (hs : s < 2 ^ 256) : Rep4 (qmul b s 256 q0).to (Pt.mul envF a s) := by
 refine qmul_rep hb s 256 q0 ?_
 rw [Nat.div_eq_of_lt hs]
 exact q0_rep
end Go.Eng
