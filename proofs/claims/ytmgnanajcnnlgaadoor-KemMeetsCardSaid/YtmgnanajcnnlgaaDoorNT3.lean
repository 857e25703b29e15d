/-
  Part of a proof: NT3.
-/

set_option linter.unusedVariables false
set_option linter.unusedSimpArgs false
namespace Go.Eng
abbrev PN : Nat := 57896044618658097711785492504343953926634992332820282019728792003956564819949
instance : NeZero PN := ⟨by decide⟩
abbrev FF : Type := Fin PN
structure Fld (d i : FF) : Prop where
 inv : ∀ a : FF, a ≠ 0 -> ∃ b, a * b = 1
 sq : i * i = -1
 nsq : ∀ A B : FF, A * A = d * (B * B) -> B = 0
 two : (2 : FF) ≠ 0
section
variable {d i : FF}
theorem Fld.mul (F : Fld d i) {a b : FF} (ha : a ≠ 0) (hb : b ≠ 0) : a * b ≠ 0 := fun h => by
 obtain ⟨c, hc⟩ := F.inv a ha
 apply hb
 grobner
theorem Fld.cases (F : Fld d i) {a b : FF} (h : a * b = 0) : a = 0 \/ b = 0 :=
 Classical.byContradiction fun hn => F.mul (fun e => hn (.inl e)) (fun e => hn (.inr e)) h
def On (d x y z : FF) : Prop := z * z * (y * y - x * x) = z * z * (z * z) + d * (x * x) * (y * y)
theorem compl1 (F : Fld d i) {x1 y1 z1 x2 y2 z2 s e : FF} (h1 : On d x1 y1 z1) (h2 : On d x2 y2 z2) (n2 : z2 ≠ 0) (hs : s * s = 1) (he : e * e = 1)
  (h : d * (x1 * x2) * (y1 * y2) = e * (z1 * z2 * (z1 * z2))) : (z1 * z2) * (y1 + s * (i * x1)) * ((z1 * z2) * (y1 + s * (i * x1))) = d * ((x1 * y1 * (y2 + s * e * (i * x2))) * (x1 * y1 * (y2 + s * e * (i * x2)))) := by
 have hi := F.sq
 unfold On at h1 h2
 have k : z2 * z2 * (d * (x1 * x1) * (y1 * y1) * (y2 * y2 - x2 * x2)) = z2 * z2 * ((z1 * z2) * (z1 * z2) * (y1 * y1 - x1 * x1)) := by
  have : d * (x1 * x1) * (y1 * y1) * (z2 * z2 * (y2 * y2 - x2 * x2)) = d * (x1 * x1) * (y1 * y1) * (z2 * z2 * (z2 * z2)) + (d * (x1 * x2) * (y1 * y2)) * (d * (x1 * x2) * (y1 * y2)) := by rw [h2]; grobner
  rw [h] at this
  grobner
 have k2 : d * (x1 * x1) * (y1 * y1) * (y2 * y2 - x2 * x2) = (z1 * z2) * (z1 * z2) * (y1 * y1 - x1 * x1) := by
  obtain ⟨c, hc⟩ := F.inv (z2 * z2) (F.mul n2 n2)
  grobner
 have e1 : z1 * z2 * (z1 * z2) = e * (d * (x1 * x2) * (y1 * y2)) := by rw [h]; grobner
 grobner
theorem compl2 (F : Fld d i) {x1 y1 z1 x2 y2 z2 e : FF} (h1 : On d x1 y1 z1) (h2 : On d x2 y2 z2) (n1 : z1 ≠ 0) (n2 : z2 ≠ 0) (he : e * e = 1) : d * (x1 * x2) * (y1 * y2) ≠ e * (z1 * z2 * (z1 * z2)) := fun h => by
 have hi := F.sq
 have a := F.nsq _ _ (compl1 F (s := 1) h1 h2 n2 (by grobner) he h)
 have b := F.nsq _ _ (compl1 F (s := -1) h1 h2 n2 (by grobner) he h)
 have hxy : x1 * y1 ≠ 0 := fun h0 => by
  have : e * (z1 * z2 * (z1 * z2)) = 0 := by rw [← h]; grobner
  have : z1 * z2 * (z1 * z2) = 0 := by grobner
  exact F.mul (F.mul n1 n2) (F.mul n1 n2) this
 have a' : y2 + 1 * e * (i * x2) = 0 := (F.cases a).resolve_left hxy
 have b' : y2 + -1 * e * (i * x2) = 0 := (F.cases b).resolve_left hxy
 have hy : y2 = 0 := by
  have : (2 : FF) * y2 = 0 := by grobner
  exact (F.cases this).resolve_left F.two
 have hx : x2 = 0 := by grobner
 unfold On at h2
 have : z2 * z2 * (z2 * z2) = 0 := by grobner
 exact F.mul (F.mul n2 n2) (F.mul n2 n2) this
theorem more_ne (F : Fld d i) {x1 y1 z1 x2 y2 z2 : FF} (h1 : On d x1 y1 z1) (h2 : On d x2 y2 z2) (n1 : z1 ≠ 0) (n2 : z2 ≠ 0) : z1 * z2 * (z1 * z2) + d * (x1 * x2 * (y1 * y2)) ≠ 0 := fun h =>
 compl2 F h1 h2 n1 n2 (e := -1) (by grobner) (by grobner)
theorem less_ne (F : Fld d i) {x1 y1 z1 x2 y2 z2 : FF} (h1 : On d x1 y1 z1) (h2 : On d x2 y2 z2) (n1 : z1 ≠ 0) (n2 : z2 ≠ 0) : z1 * z2 * (z1 * z2) - d * (x1 * x2 * (y1 * y2)) ≠ 0 := fun h =>
 compl2 F h1 h2 n1 n2 (e := 1) (by grobner) (by grobner)
end
end Go.Eng
