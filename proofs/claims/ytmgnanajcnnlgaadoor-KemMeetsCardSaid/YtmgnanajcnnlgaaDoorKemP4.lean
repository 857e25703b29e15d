/-
  Part of a proof: KemP4.
-/
import Derived.Test.YtmgnanajcnnlgaaDoorKemP3
set_option linter.unusedVariables false
set_option linter.unusedSimpArgs false
namespace Go.Eng
set_option maxRecDepth 100000
set_option maxHeartbeats 1000000
theorem addL_val : ∀ (a b : List Int), a.length = b.length -> Lim 67108864 a -> Lim 67108864 b ->
  val26 (addL a b) = val26 a + val26 b /\ Lim 9223372036854775808 (addL a b) /\ (addL a b).length = a.length
 | [], [], _, _, _ => by simp [addL, val26, Lim]
 | x :: xs, y :: ys, h, ⟨⟨p1, p2⟩, p3⟩, ⟨⟨q1, q2⟩, q3⟩ => by
  obtain ⟨i1, i2, i3⟩ := addL_val xs ys (by simpa using h) p3 q3
  simp only [addL, val26, Lim, List.length_cons, i1, i3, u64_id (n := x + y) (by omega) (by omega)]
  exact ⟨by omega, ⟨⟨by omega, by omega⟩, i2⟩, trivial⟩
def Big : List Int -> Prop
 | [] => True
 | x :: xs => (67108864 ≤ x /\ x < 134217728) /\ Big xs
theorem subL_val : ∀ (a b m : List Int), a.length = b.length -> a.length = m.length -> Lim 67108864 a -> Lim 67108864 b -> Big m ->
  val26 (subL a b m) = val26 a + val26 m - val26 b /\ Lim 9223372036854775808 (subL a b m) /\ (subL a b m).length = a.length
 | [], [], [], _, _, _, _, _ => by simp [subL, val26, Lim]
 | x :: xs, y :: ys, m :: ms, h, h', ⟨⟨p1, p2⟩, p3⟩, ⟨⟨q1, q2⟩, q3⟩, ⟨⟨r1, r2⟩, r3⟩ => by
  obtain ⟨i1, i2, i3⟩ := subL_val xs ys ms (by simpa using h) (by simpa using h') p3 q3 r3
  simp only [subL, val26, Lim, List.length_cons, i1, i3, u64_id (n := m - y) (by omega) (by omega), u64_id (n := x + (m - y)) (by omega) (by omega)]
  exact ⟨by omega, ⟨⟨by omega, by omega⟩, i2⟩, trivial⟩
theorem addRow_val (x : Int) (hx : 0 ≤ x) (hx' : x < 67108864) (N : Int) (hN : N + 4503599627370496 ≤ 18446744073709551616) : ∀ (ys ws : List Int), ys.length ≤ ws.length -> Lim 67108864 ys -> Lim N ws ->
  val26 (addRow x ys ws) = val26 ws + x * val26 ys /\ Lim (N + 4503599627370496) (addRow x ys ws) /\ (addRow x ys ws).length = ws.length
 | [], ws, _, _, h => by simp only [addRow, val26, Int.mul_zero, Int.add_zero, true_and]; exact ⟨h.mono (by omega), trivial⟩
 | y :: ys, w :: ws, h, ⟨⟨p1, p2⟩, p3⟩, ⟨⟨q1, q2⟩, q3⟩ => by
  obtain ⟨i1, i2, i3⟩ := addRow_val x hx hx' N hN ys ws (by simpa using h) p3 q3
  have m0 : 0 ≤ x * y := Int.mul_nonneg hx p1
  have m1 : x * y ≤ 67108863 * 67108863 := Int.mul_le_mul (by omega) (by omega) p1 (by decide)
  simp only [addRow, val26, Lim, List.length_cons, i1, i3, u64_id (n := x * y) (by omega) (by omega), u64_id (n := w + x * y) (by omega) (by omega)]
  refine ⟨?_, ⟨⟨by omega, by omega⟩, i2⟩, trivial⟩
  rw [Int.mul_add, Int.mul_add, Int.mul_left_comm x]; omega
theorem mulAll_val (ys : List Int) (hy : Lim 67108864 ys) (hy0 : 0 < ys.length) : ∀ (xs ws : List Int) (N : Int), N + xs.length * 4503599627370496 ≤ 18446744073709551616 -> ys.length + xs.length ≤ ws.length + 1 -> Lim 67108864 xs -> Lim N ws -> 0 ≤ N ->
  val26 (mulAll ys xs ws) = val26 ws + val26 xs * val26 ys /\ Lim (N + xs.length * 4503599627370496) (mulAll ys xs ws) /\ (mulAll ys xs ws).length = ws.length
 | [], ws, N, _, _, _, h, _ => by simp only [mulAll, val26, Int.zero_mul, Int.add_zero, true_and]; exact ⟨h.mono (by simp), trivial⟩
 | x :: xs, [], N, _, h, _, _, _ => by
  simp only [List.length_cons, List.length_nil] at h
  omega
 | x :: xs, w :: ws, N, hN, h, ⟨⟨p1, p2⟩, p3⟩, hw, h0 => by
  simp only [List.length_cons] at h hN
  obtain ⟨i1, i2, i3⟩ := addRow_val x p1 p2 N (by omega) ys (w :: ws) (by simp only [List.length_cons]; omega) hy hw
  simp only [mulAll]
  generalize addRow x ys (w :: ws) = r at *
  match r, i1, i2, i3 with
  | r :: rs, i1, ⟨⟨j1, j2⟩, j3⟩, i3 =>
   simp only [List.length_cons] at i3
   obtain ⟨k1, k2, k3⟩ := mulAll_val ys hy hy0 xs rs (N + 4503599627370496) (by omega) (by omega) p3 j3 (by omega)
   simp only [val26, Lim, List.length_cons, k1, k3] at i1 ⊢
   refine ⟨?_, ⟨⟨by omega, by omega⟩, k2.mono (by omega)⟩, by omega⟩
   rw [Int.add_mul, Int.mul_add, Int.mul_assoc]; omega
def LimT : List Int -> Prop
 | [] => True
 | [x] => 0 ≤ x
 | x :: y :: xs => (0 ≤ x /\ x < 67108864) /\ LimT (y :: xs)
theorem LimT.lim : ∀ {l : List Int}, LimT l -> val26 l < 67108864 ^ l.length -> Lim 67108864 l
 | [], _, _ => trivial
 | [x], h, h' => by simp [val26, Lim, LimT] at *; omega
 | x :: y :: xs, ⟨h1, h2⟩, h' => by
  have hp : (67108864 : Int) ^ ((y :: xs).length + 1) = 67108864 ^ (y :: xs).length * 67108864 := Int.pow_succ ..
  rw [List.length_cons, hp] at h'
  refine ⟨h1, LimT.lim h2 ?_⟩
  simp only [val26] at h' ⊢
  generalize (67108864 : Int) ^ (y :: xs).length = q at *
  omega
theorem wpass_val (l : List Int) : ∀ (c : Int), l ≠ [] -> Lim 9223372036854775808 l -> 0 ≤ c -> c < 274877906944 ->
  val26 (wpass c l) = val26 l + c /\ LimT (wpass c l) /\ (wpass c l).length = l.length := by
 induction l with
 | nil => intro c h; exact absurd rfl h
 | cons x xs ih =>
  intro c _ h h4 h5
  obtain ⟨⟨h1, h2⟩, h3⟩ := h
  have e : IntKind.u64.wrap (x + c) = x + c := u64_id (by omega) (by omega)
  cases xs with
  | nil => rw [wpass, e]; refine ⟨?_, ?_, rfl⟩; { simp only [val26]; omega }; { show 0 ≤ x + c; omega }
  | cons y xs =>
   have e2 : bits .u64 .and (x + c) 67108863 = (x + c) % 67108864 := mask26 (by omega) (by omega)
   obtain ⟨i1, i2, i3⟩ := ih ((x + c) / 67108864) (by simp) h3 (by omega) (by omega)
   rw [wpass, e, e2, fdiv26]
   generalize wpass ((x + c) / 67108864) (y :: xs) = r at *
   match r, i1, i2, i3 with
   | r :: rs, i1, i2, i3 =>
    simp only [val26, LimT, List.length_cons] at i1 i2 i3 ⊢
    exact ⟨by omega, ⟨⟨by omega, by omega⟩, i2⟩, by omega⟩
theorem wpass0_val (l : List Int) (h0 : l ≠ []) (h : Lim 9223372036854775808 l) :
  val26 (wpass0 l) = val26 l /\ LimT (wpass0 l) /\ (wpass0 l).length = l.length := by
 match l, h0, h with
 | [x], _, ⟨⟨h1, h2⟩, _⟩ => simp only [wpass0, val26, LimT, true_and, and_true]; exact h1
 | x :: y :: xs, _, ⟨⟨h1, h2⟩, h3⟩ =>
  have e2 : bits .u64 .and x 67108863 = x % 67108864 := mask26 (by omega) (by omega)
  obtain ⟨i1, i2, i3⟩ := wpass_val (y :: xs) (x / 67108864) (by simp) h3 (by omega) (by omega)
  rw [wpass0, e2, fdiv26]
  generalize wpass (x / 67108864) (y :: xs) = r at *
  match r, i1, i2, i3 with
  | r :: rs, i1, i2, i3 =>
   simp only [val26, LimT, List.length_cons] at i1 i2 i3 ⊢
   exact ⟨by omega, ⟨⟨by omega, by omega⟩, i2⟩, by omega⟩
theorem down608_val : ∀ (a b : List Int), a.length = b.length -> Lim 67108864 a -> Lim 67108864 b ->
  val26 (down608 a b) = val26 a + 608 * val26 b /\ Lim 9223372036854775808 (down608 a b) /\ (down608 a b).length = a.length
 | [], [], _, _, _ => by simp [down608, val26, Lim]
 | x :: xs, y :: ys, h, ⟨⟨p1, p2⟩, p3⟩, ⟨⟨q1, q2⟩, q3⟩ => by
  obtain ⟨i1, i2, i3⟩ := down608_val xs ys (by simpa using h) p3 q3
  simp only [down608, val26, Lim, List.length_cons, i1, i3, u64_id (n := 608 * y) (by omega) (by omega), u64_id (n := x + 608 * y) (by omega) (by omega)]
  exact ⟨by omega, ⟨⟨by omega, by omega⟩, i2⟩, trivial⟩
theorem val26_append : ∀ (a b : List Int), val26 (a ++ b) = val26 a + 67108864 ^ a.length * val26 b
 | [], b => by simp [val26]
 | x :: xs, b => by
  have hp : (67108864 : Int) ^ (xs.length + 1) = 67108864 ^ xs.length * 67108864 := Int.pow_succ ..
  simp only [List.cons_append, val26, val26_append xs b, List.length_cons, hp]
  rw [Int.mul_add, Int.mul_comm (67108864 ^ xs.length) 67108864, Int.mul_assoc]; omega
theorem Lim.append {n : Int} : ∀ {a b : List Int}, Lim n (a ++ b) -> Lim n a /\ Lim n b
 | [], _, h => ⟨trivial, h⟩
 | _ :: _, _, ⟨h1, h2⟩ => ⟨⟨h1, h2.append.1⟩, h2.append.2⟩
structure EOk (e : T_field_Elem) : Prop where
 lim : Lim 67108864 e.fn
 len : e.fn.length = 10
def res (e : T_field_Elem) : Int := val26 e.fn % PP
def addP (x y : Int) : Int := (x + y) % PP
def subP (x y : Int) : Int := (x - y) % PP
def mulP (x y : Int) : Int := (x * y) % PP
theorem Add_some {a b : T_field_Elem} (ha : EOk a) (hb : EOk b) : ∃ r, field_Elem_Add a b = some r /\ EOk r /\ res r = addP (res a) (res b) := by
 obtain ⟨a⟩ := a; obtain ⟨b⟩ := b; obtain ⟨ha, la⟩ := ha; obtain ⟨hb, lb⟩ := hb
 obtain ⟨i1, i2, i3⟩ := addL_val a b (la.trans lb.symm) ha hb
 obtain ⟨j1, j2, j3⟩ := carried_val i2 (i3.trans la)
 refine ⟨⟨carried (addL a b)⟩, ?_, ⟨j2, j3⟩, ?_⟩
 ·have e : field_Elem_Add_l1 ⟨b⟩ FUEL 0 a = some (addL a b) := by
   obtain ⟨a0, a1, a2, a3, a4, a5, a6, a7, a8, a9, rfl⟩ := list10 la
   obtain ⟨b0, b1, b2, b3, b4, b5, b6, b7, b8, b9, rfl⟩ := list10 lb
   exact add_l1 ..
  simp only [field_Elem_Add, e, Option.bind_some, carry_eq (i3.trans la)]
 ·show val26 (carried (addL a b)) % PP = _
  rw [j1, i1]; exact Int.add_emod ..
theorem tb_field_many_val : val26 tb_field_many = 64 * PP := by decide
theorem Sub_some {a b : T_field_Elem} (ha : EOk a) (hb : EOk b) : ∃ r, field_Elem_Sub a b = some r /\ EOk r /\ res r = subP (res a) (res b) := by
 obtain ⟨a⟩ := a; obtain ⟨b⟩ := b; obtain ⟨ha, la⟩ := ha; obtain ⟨hb, lb⟩ := hb
 obtain ⟨i1, i2, i3⟩ := subL_val a b tb_field_many (la.trans lb.symm) la ha hb (by simp [Big, tb_field_many])
 obtain ⟨j1, j2, j3⟩ := carried_val i2 (i3.trans la)
 refine ⟨⟨carried (subL a b tb_field_many)⟩, ?_, ⟨j2, j3⟩, ?_⟩
 ·have e : field_Elem_Sub_l1 ⟨b⟩ FUEL 0 a = some (subL a b tb_field_many) := by
   obtain ⟨a0, a1, a2, a3, a4, a5, a6, a7, a8, a9, rfl⟩ := list10 la
   obtain ⟨b0, b1, b2, b3, b4, b5, b6, b7, b8, b9, rfl⟩ := list10 lb
   exact sub_l1 ..
  simp only [field_Elem_Sub, e, Option.bind_some, carry_eq (i3.trans la)]
 ·show val26 (carried (subL a b tb_field_many)) % PP = _
  rw [j1, i1, tb_field_many_val]
  show _ = (val26 a % PP - val26 b % PP) % PP
  rw [← Int.sub_emod]; unfold PP; omega
theorem Times_some {a b : T_field_Elem} (ha : EOk a) (hb : EOk b) : ∃ r, field_Elem_Times a b = some r /\ EOk r /\ res r = mulP (res a) (res b) := by
 obtain ⟨a⟩ := a; obtain ⟨b⟩ := b; obtain ⟨ha, la⟩ := ha; obtain ⟨hb, lb⟩ := hb
 simp only at ha la hb lb
 obtain ⟨i1, i2, i3⟩ := mulAll_val b hb (by omega) a (List.replicate 20 0) 1 (by rw [la]; decide) (by rw [la, lb]; decide) ha (lim_of (by simp)) (by decide)
 have e1 : field_Elem_Times_l1 ⟨a⟩ ⟨b⟩ FUEL 0 (List.replicate 20 0) = some (mulAll b a (List.replicate 20 0)) := by
  obtain ⟨a0, a1, a2, a3, a4, a5, a6, a7, a8, a9, rfl⟩ := list10 la
  obtain ⟨b0, b1, b2, b3, b4, b5, b6, b7, b8, b9, rfl⟩ := list10 lb
  exact mul_l1 ..
 rw [la] at i2
 generalize mulAll b a (List.replicate 20 0) = w at *
 obtain ⟨j1, j2, j3⟩ := wpass0_val w (by intro h; simp [h] at i3) (i2.mono (by decide))
 have va := val26_nonneg ha
 have vb := val26_nonneg hb
 have va' := val26_lt ha
 have vb' := val26_lt hb
 rw [la, pow260] at va'
 rw [lb, pow260] at vb'
 have z : val26 (List.replicate 20 (0 : Int)) = 0 := by decide
 rw [z, Int.zero_add] at i1
 have hv : val26 a * val26 b ≤ 1852673427797059126777135760139006525652319754650249024631321344126610074238975 * 1852673427797059126777135760139006525652319754650249024631321344126610074238975 := Int.mul_le_mul (by omega) (by omega) vb (by decide)
 have p520 : (67108864 : Int) ^ 20 = 1852673427797059126777135760139006525652319754650249024631321344126610074238976 * 1852673427797059126777135760139006525652319754650249024631321344126610074238976 := by decide
 have l20 : w.length = 20 := by rw [i3]; rfl
 have j4 := j2.lim (by rw [j3, l20, p520, j1, i1]; omega)
 have e3 : field_Elem_Times_l3 FUEL 0 w = some (wpass0 w) := by
  obtain ⟨a0, a1, a2, a3, a4, a5, a6, a7, a8, a9, b0, b1, b2, b3, b4, b5, b6, b7, b8, b9, rfl⟩ := list20 l20
  exact mul_l3 ..
 have e4 : ∃ lo hi : List Int, wpass0 w = lo ++ hi /\ lo.length = 10 /\ hi.length = 10 /\ field_Elem_Times_l4 (wpass0 w) FUEL 0 (List.replicate 10 0) = some (down608 lo hi) := by
  obtain ⟨a0, a1, a2, a3, a4, a5, a6, a7, a8, a9, b0, b1, b2, b3, b4, b5, b6, b7, b8, b9, h⟩ := list20 (j3.trans l20)
  rw [h]
  exact ⟨[a0, a1, a2, a3, a4, a5, a6, a7, a8, a9], [b0, b1, b2, b3, b4, b5, b6, b7, b8, b9], rfl, rfl, rfl, mul_l4 ..⟩
 obtain ⟨lo, hi, h1, h2, h3, e4⟩ := e4
 rw [h1] at j4
 obtain ⟨k1, k2, k3⟩ := down608_val lo hi (h2.trans h3.symm) j4.append.1 j4.append.2
 obtain ⟨n1, n2, n3⟩ := carried_val k2 (k3.trans h2)
 refine ⟨⟨carried (down608 lo hi)⟩, ?_, ⟨n2, n3⟩, ?_⟩
 ·simp only [field_Elem_Times, e1, e3, e4, Option.bind_some, carry_eq (k3.trans h2)]
 ·show val26 (carried (down608 lo hi)) % PP = ((val26 a % PP) * (val26 b % PP)) % PP
  rw [n1, k1, ← Int.mul_emod, ← i1, ← j1, h1, val26_append, h2, pow260]
  unfold PP; omega
end Go.Eng
