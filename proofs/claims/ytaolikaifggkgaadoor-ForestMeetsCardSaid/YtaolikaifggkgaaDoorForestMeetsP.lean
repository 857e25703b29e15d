/-
  Part of a proof: ForestMeetsP.
-/
import Derived.Test.YtaolikaifggkgaaDoorForestMeetsS
set_option linter.unusedVariables false
set_option linter.unusedSimpArgs false
namespace Go.Eng

theorem optK_none {α β : Type} (f : α → Option β) (d : Option β) : optK none f d = d := by cases d <;> rfl
theorem optK_some {α β : Type} (a : α) (f : α → Option β) (d : Option β) : optK (some a) f d = f a := by cases d <;> rfl
theorem wrap_i64 {n : Int} (h1 : -9223372036854775808 ≤ n) (h2 : n ≤ 9223372036854775807) : IntKind.i64.wrap n = n := by
  unfold IntKind.wrap; simp [IntKind.bits, IntKind.signed]; omega
theorem lk_st {κ α : Type} [BEq κ] [LawfulBEq κ] [DecidableEq κ] (k k' : κ) (v : α) : ∀ es : List (κ × α), lk k (st k' v es) = if k = k' then some v else lk k es
  | [] => by
    by_cases h : k = k'
    · subst h; simp [st, lk]
    · have : (k == k') = false := by simp [h]
      simp [st, lk, h, this]
  | x :: r => by
    by_cases h : k' = x.1
    · subst h
      by_cases h2 : k = x.1
      · subst h2; simp [st, lk]
      · have : (k == x.1) = false := by simp [h2]
        simp [st, lk, h2, this]
    · have h' : (k' == x.1) = false := by simp [h]
      simp only [st, h', lk]
      rw [lk_st k k' v r]
      by_cases h2 : k = x.1
      · subst h2
        have : ¬ x.1 = k' := fun e => h e.symm
        simp [this]
      · have : (k == x.1) = false := by simp [h2]
        simp [this]
theorem lk_dl {κ α : Type} [BEq κ] [LawfulBEq κ] (k k' : κ) {v : α} : ∀ es : List (κ × α), lk k (dl k' es) = some v → ∃ j, (j, v) ∈ es
  | [], h => by simp [dl, lk] at h
  | x :: r, h => by
    unfold dl at h
    have mem : ∀ {es : List (κ × α)}, lk k es = some v → ∃ j, (j, v) ∈ es := by
      intro es
      induction es with
      | nil => intro h; simp [lk] at h
      | cons y r ih =>
        intro h
        unfold lk at h
        split at h
        · cases h; exact ⟨y.1, .head _⟩
        · obtain ⟨j, hj⟩ := ih h; exact ⟨j, .tail _ hj⟩
    split at h
    · obtain ⟨j, hj⟩ := mem h; exact ⟨j, .tail _ hj⟩
    · unfold lk at h
      split at h
      · cases h; exact ⟨x.1, .head _⟩
      · obtain ⟨j, hj⟩ := lk_dl k k' r h; exact ⟨j, .tail _ hj⟩
theorem dl_mem {κ α : Type} [BEq κ] {k' : κ} {x : κ × α} : ∀ {es : List (κ × α)}, x ∈ dl k' es → x ∈ es
  | [], h => h
  | y :: r, h => by
    unfold dl at h
    split at h
    · exact .tail _ h
    · rcases List.mem_cons.1 h with rfl | h
      · exact .head _
      · exact .tail _ (dl_mem h)
theorem st_mem {κ α : Type} [BEq κ] {k : κ} {v : α} {x : κ × α} : ∀ {es : List (κ × α)}, x ∈ st k v es → x.2 = v ∨ x ∈ es
  | [], h => by simp [st] at h; subst h; exact .inl rfl
  | y :: r, h => by
    unfold st at h
    split at h
    · rcases List.mem_cons.1 h with rfl | h
      · exact .inl rfl
      · exact .inr (.tail _ h)
    · rcases List.mem_cons.1 h with rfl | h
      · exact .inr (.head _)
      · exact (st_mem h).imp id (.tail _)
theorem lk_mem {κ α : Type} [BEq κ] {k : κ} {v : α} : ∀ {es : List (κ × α)}, lk k es = some v → ∃ j, (j, v) ∈ es
  | [], h => by simp [lk] at h
  | y :: r, h => by
    unfold lk at h
    split at h
    · cases h; exact ⟨y.1, .head _⟩
    · obtain ⟨j, hj⟩ := lk_mem h; exact ⟨j, .tail _ hj⟩

abbrev Nd := T_forest_node
def nth (ns : List Nd) (i : Nat) : Nd := List.getD ns i T_forest_node.z
def MOK (m : T_forest_Mark) : Prop := -9223372036854775808 ≤ m.fEpoch ∧ m.fEpoch ≤ 9223372036854775807
def Child (ns : List Nd) (x : Nd) : Prop := x.fparent = -1 ∨ (0 ≤ x.fparent ∧ x.fparent < ns.length ∧ x.fMark.fGroup = (nth ns x.fparent.toNat).fMark.fGroup ∧ x.fMark.fEpoch = (nth ns x.fparent.toNat).fMark.fEpoch + 1)
structure FInv (ids : List (List Int × Int)) (ats : List (Int × Int)) (ns : List Nd) (N : Nat) : Prop where
  len : ns.length ≤ N
  id1 : ∀ k i, lk k ids = some i → 0 ≤ i ∧ i < ns.length ∧ (nth ns i.toNat).fMark.fID = k
  id2 : ∀ i : Nat, i < ns.length → lk (nth ns i).fMark.fID ids = some (i : Int)
  at_ : ∀ x, x ∈ ats → 0 ≤ x.2 ∧ x.2 < ns.length
  par : ∀ i : Nat, i < ns.length → Child ns (nth ns i)
  ok : ∀ i : Nat, i < ns.length → MOK (nth ns i).fMark

theorem same_iff (a b : T_forest_Mark) : T_forest_Mark.same a b = true ↔ a = b := by
  unfold T_forest_Mark.same
  cases a; cases b
  simp
theorem follows_eq {m q : T_forest_Mark} (hm : MOK m) (hq : MOK q) : forest_Mark_follows m q = some (decide (m.fGroup = q.fGroup ∧ m.fEpoch = q.fEpoch + 1)) := by
  unfold forest_Mark_follows
  obtain ⟨h1, h2⟩ := hm
  obtain ⟨h3, h4⟩ := hq
  by_cases hg : m.fGroup = q.fGroup
  · rw [show (m.fGroup == q.fGroup) = true from by simp [hg]]
    simp only [cond_true, hg, true_and]
    by_cases he : m.fEpoch > q.fEpoch
    · rw [show decide (m.fEpoch > q.fEpoch) = true from by simp [he]]
      simp only [cond_true]
      congr 1
      by_cases h5 : m.fEpoch = q.fEpoch + 1
      · rw [h5, show q.fEpoch + 1 - q.fEpoch = 1 from by omega, wrap_i64 (by omega) (by omega)]; simp
      · simp only [h5, decide_false, beq_eq_false_iff_ne, ne_eq]
        unfold IntKind.wrap; simp [IntKind.bits, IntKind.signed]; omega
    · rw [show decide (m.fEpoch > q.fEpoch) = false from by simp [he]]
      simp only [cond_false]
      congr 1
      simp; omega
  · rw [show (m.fGroup == q.fGroup) = false from by simp [hg]]
    simp [hg]

theorem nth_push {ns : List Nd} {x : Nd} {i : Nat} (h : i < ns.length) : nth (ns ++ [x]) i = nth ns i := by
  unfold nth; simp [List.getD, List.getElem?_append_left h]
theorem nth_last {ns : List Nd} {x : Nd} : nth (ns ++ [x]) ns.length = x := by
  unfold nth; simp [List.getD]
theorem nth_set {ns : List Nd} {x : Nd} {i j : Nat} (h : i < ns.length) : nth (ns.set i x) j = if j = i then x else nth ns j := by
  unfold nth
  by_cases e : j = i
  · subst e; simp [List.getD, h]
  · simp [List.getD, List.getElem?_set_ne (Ne.symm e), e]

/-- A node that is seen first. -/
theorem FInv.push {ids : List (List Int × Int)} {ats : List (Int × Int)} {ns : List Nd} {N : Nat} (h : FInv ids ats ns N) {m : T_forest_Mark} {p who : Int} (hm : MOK m) (hn : lk m.fID ids = none) (hc : Child ns { fMark := m, fparent := p }) :
    FInv (st m.fID (ns.length : Int) ids) (st who (ns.length : Int) ats) (ns ++ [({ fMark := m, fparent := p } : Nd)]) (N + 1) := by
  have hl : (ns ++ [({ fMark := m, fparent := p } : Nd)]).length = ns.length + 1 := by simp
  have child : ∀ x, Child ns x → Child (ns ++ [({ fMark := m, fparent := p } : Nd)]) x := by
    rintro x (hx | ⟨h1, h2, h3, h4⟩)
    · exact .inl hx
    · refine .inr ⟨h1, by rw [hl]; omega, ?_, ?_⟩
      · rw [nth_push (by omega)]; exact h3
      · rw [nth_push (by omega)]; exact h4
  refine ⟨by rw [hl]; have := h.len; omega, fun k i hk => ?_, fun i hi => ?_, fun x hx => ?_, fun i hi => ?_, fun i hi => ?_⟩
  · rw [lk_st] at hk
    split at hk
    · rename_i e; cases hk; subst e
      refine ⟨by omega, by rw [hl]; omega, ?_⟩
      rw [Int.toNat_natCast, nth_last]
    · obtain ⟨h1, h2, h3⟩ := h.id1 k i hk
      exact ⟨h1, by rw [hl]; omega, by rw [nth_push (by omega)]; exact h3⟩
  · rw [lk_st]
    by_cases e : i < ns.length
    · rw [nth_push e]
      have := h.id2 i e
      rw [if_neg]
      · exact this
      · intro e2; rw [e2, hn] at this; cases this
    · have e : i = ns.length := by rw [hl] at hi; omega
      subst e
      rw [nth_last, if_pos rfl]
  · rcases st_mem hx with e | hx
    · rw [e, hl]; omega
    · have := h.at_ x hx
      rw [hl]; omega
  · by_cases e : i < ns.length
    · rw [nth_push e]; exact child _ (h.par i e)
    · have e : i = ns.length := by rw [hl] at hi; omega
      subst e
      rw [nth_last]; exact child _ hc
  · by_cases e : i < ns.length
    · rw [nth_push e]; exact h.ok i e
    · have e : i = ns.length := by rw [hl] at hi; omega
      subst e
      rw [nth_last]; exact hm

/-- A node whose parent is told. -/
theorem FInv.at' {ids : List (List Int × Int)} {ats : List (Int × Int)} {ns : List Nd} {N : Nat} (h : FInv ids ats ns N) {who i : Int} (hi : 0 ≤ i ∧ i < ns.length) : FInv ids (st who i ats) ns N :=
  ⟨h.len, h.id1, h.id2, fun x hx => by
    rcases st_mem hx with e | hx
    · rw [e]; exact hi
    · exact h.at_ x hx, h.par, h.ok⟩
theorem FInv.set {ids : List (List Int × Int)} {ats : List (Int × Int)} {ns : List Nd} {N : Nat} (h : FInv ids ats ns N) {i : Nat} {p : Int} (hi : i < ns.length) (hc : Child ns { nth ns i with fparent := p }) :
    FInv ids ats (ns.set i { nth ns i with fparent := p }) N := by
  have hl : (ns.set i { nth ns i with fparent := p }).length = ns.length := List.length_set ..
  have hmark : ∀ j, (nth (ns.set i { nth ns i with fparent := p }) j).fMark = (nth ns j).fMark := by
    intro j; rw [nth_set hi]; split
    · rename_i e; subst e; rfl
    · rfl
  have child : ∀ x, Child ns x → Child (ns.set i { nth ns i with fparent := p }) x := by
    rintro x (hx | ⟨h1, h2, h3, h4⟩)
    · exact .inl hx
    · exact .inr ⟨h1, by rw [hl]; exact h2, by rw [hmark]; exact h3, by rw [hmark]; exact h4⟩
  refine ⟨by rw [hl]; exact h.len, fun k j hk => ?_, fun j hj => ?_, fun x hx => by rw [hl]; exact h.at_ x hx, fun j hj => ?_, fun j hj => ?_⟩
  · obtain ⟨h1, h2, h3⟩ := h.id1 k j hk
    exact ⟨h1, by rw [hl]; exact h2, by rw [hmark]; exact h3⟩
  · rw [hmark]; exact h.id2 j (by rw [hl] at hj; exact hj)
  · rw [nth_set hi]
    split
    · exact child _ hc
    · exact child _ (h.par j (by rw [hl] at hj; exact hj))
  · rw [hmark]; exact h.ok j (by rw [hl] at hj; exact hj)

theorem room_ok (n : Nat) (x : T_forest_node) (h : n ≤ 100) : ((n : Int) + (List.length [x])) * 208 ≤ 140737488355328 := by
  simp only [List.length_cons, List.length_nil]; omega
/-- What See answers. -/
def SeeOK (ids : List (List Int × Int)) (N : Nat) : ((Int × (List T_forest_node) × (List (Int × Int))) ⊕ ((Int × (List ((List Int) × Int)) × (List (Int × Int)) × (List T_forest_node)) ⊕ Nat)) → Prop
  | .inl (_, ns', ats') => FInv ids ats' ns' (N + 1)
  | .inr (.inl (_, ids', ats', ns')) => FInv ids' ats' ns' (N + 1)
  | .inr (.inr _) => True
theorem see_ok {ids : List (List Int × Int)} {ats : List (Int × Int)} {ns : List Nd} {N : Nat} (h : FInv ids ats ns N) (hN : N ≤ 100) {who : Int} {m : T_forest_Mark} (hm : MOK m) :
    ∃ r, forest_Forest_See_2 who m ns ids ats = some r ∧ SeeOK ids N r := by
  have h1 : FInv ids ats ns (N + 1) := { h with len := by have := h.len; omega }
  -- where somebody is
  obtain ⟨p, hp, hp1⟩ : ∃ p, forest_Forest_At_2 who ns ids ats = some p ∧ (p = -1 ∨ 0 ≤ p ∧ p < ns.length) := by
    unfold forest_Forest_At_2
    cases hl : lk who ats with
    | none => exact ⟨-1, rfl, .inl rfl⟩
    | some i => obtain ⟨j, hj⟩ := lk_mem hl; exact ⟨i, rfl, .inr (h.at_ _ hj)⟩
  unfold forest_Forest_See_2
  rw [hp, Option.bind_some]
  -- the rest, where the mark may follow
  have rest : ∀ (R : (Unit ⊕ (Unit ⊕ Unit)) → Option ((Int × (List T_forest_node) × (List (Int × Int))) ⊕ ((Int × (List ((List Int) × Int)) × (List (Int × Int)) × (List T_forest_node)) ⊕ Nat))),
      ((p = -1 ∨ (0 ≤ p ∧ p < ns.length ∧ m.fGroup = (nth ns p.toNat).fMark.fGroup ∧ m.fEpoch = (nth ns p.toNat).fMark.fEpoch + 1)) → ∃ r, R (.inl ()) = some r ∧ SeeOK ids N r) →
      (∃ r, R (.inr (.inl ())) = some r ∧ SeeOK ids N r) → (∃ r, R (.inr (.inr ())) = some r ∧ SeeOK ids N r) →
      ∃ r, (((cond (!(p == (-1)))
      (if 0 ≤ p ∧ p < ((List.length ns) : Int) then
        cond (T_forest_Mark.same ((List.getD ns (Int.toNat p) T_forest_node.z).fMark) m)
          (some (Sum.inr (Sum.inl ())))
          ((forest_Mark_follows m ((List.getD ns (Int.toNat p) T_forest_node.z).fMark)).bind fun x21 =>
            cond (!x21)
              (some (Sum.inr (Sum.inr ())))
              (some (Sum.inl ())))
      else none)
      (some (Sum.inl ())) : Option ((Unit ⊕ (Unit ⊕ Unit))))).bind R) = some r ∧ SeeOK ids N r := by
    intro R h1 h2 h3
    rcases hp1 with e | ⟨h4, h5⟩
    · subst e; exact h1 (.inl rfl)
    · rw [show (!(p == -1)) = true from by simp; omega, cond_true, if_pos ⟨h4, h5⟩]
      cases hs : T_forest_Mark.same ((List.getD ns (Int.toNat p) T_forest_node.z).fMark) m with
      | true => exact h2
      | false =>
        simp only [cond_false]
        rw [show forest_Mark_follows m (ns.getD p.toNat T_forest_node.z).fMark = _ from follows_eq hm (h.ok p.toNat (by omega))]
        simp only [Option.bind_some]
        by_cases hf : m.fGroup = (nth ns p.toNat).fMark.fGroup ∧ m.fEpoch = (nth ns p.toNat).fMark.fEpoch + 1
        · have : (decide (m.fGroup = (List.getD ns p.toNat T_forest_node.z).fMark.fGroup ∧ m.fEpoch = (List.getD ns p.toNat T_forest_node.z).fMark.fEpoch + 1)) = true := decide_eq_true hf
          rw [this]; exact h1 (.inr ⟨h4, h5, hf⟩)
        · have : (decide (m.fGroup = (List.getD ns p.toNat T_forest_node.z).fMark.fGroup ∧ m.fEpoch = (List.getD ns p.toNat T_forest_node.z).fMark.fEpoch + 1)) = false := decide_eq_false hf
          rw [this]; exact h3
  refine rest _ (fun hf => ?_) ?_ ?_
  · simp only
    cases hl : lk m.fID ids with
    | none =>
      rw [optK_none]
      have hlen := h.len
      rw [if_pos (room_ok ns.length _ (by omega))]
      have hw : IntKind.i64.wrap (((ns ++ [({ fMark := m, fparent := p } : T_forest_node)]).length : Int) - 1) = ns.length := by
        rw [List.length_append, wrap_i64 (by simp only [List.length_cons, List.length_nil]; omega) (by simp only [List.length_cons, List.length_nil]; omega)]; simp only [List.length_cons, List.length_nil]; omega
      have hfin := h.push (who := who) hm hl (p := p) hf
      rw [hw, optK_none]
      cases lk who ats with
      | none => rw [optK_none]; exact ⟨_, rfl, hfin⟩
      | some _ => rw [optK_some]; exact ⟨_, rfl, hfin⟩
    | some i =>
      obtain ⟨g1, g2, g3⟩ := h.id1 _ _ hl
      simp only [optK]
      rw [if_pos ⟨g1, g2⟩]
      -- the ways
      cases hs : T_forest_Mark.same ((List.getD ns (Int.toNat i) T_forest_node.z).fMark) m with
      | false => exact ⟨_, rfl, trivial⟩
      | true =>
        have hmk := (same_iff _ _).1 hs
        have hset : FInv ids (st who i ats) (ns.set i.toNat { nth ns i.toNat with fparent := p }) (N + 1) := by
          refine FInv.set (h1.at' (who := who) ⟨g1, g2⟩) (by omega) ?_
          rcases hf with hf | ⟨h4, h5, h6, h7⟩
          · exact .inl hf
          · refine .inr ⟨h4, h5, ?_, ?_⟩
            · show (nth ns i.toNat).fMark.fGroup = _
              rw [show (nth ns i.toNat).fMark = m from hmk]; exact h6
            · show (nth ns i.toNat).fMark.fEpoch = _
              rw [show (nth ns i.toNat).fMark = m from hmk]; exact h7
        have hkeep := h1.at' (who := who) ⟨g1, g2⟩
        have fin : ∀ R2 : (List T_forest_node) ⊕ Nat → Option ((Int × (List T_forest_node) × (List (Int × Int))) ⊕ ((Int × (List ((List Int) × Int)) × (List (Int × Int)) × (List T_forest_node)) ⊕ Nat)),
            (∃ r, R2 (.inl (List.set ns (Int.toNat i) ({ (List.getD ns (Int.toNat i) T_forest_node.z) with fparent := p }))) = some r ∧ SeeOK ids N r) → (∃ r, R2 (.inl ns) = some r ∧ SeeOK ids N r) →
            ∃ r, ((((cond (((List.getD ns (Int.toNat i) T_forest_node.z).fparent == (-1)))
            (if (List.length ns) ≤ (List.length ns) then some (List.set ns (Int.toNat i) ({ (List.getD ns (Int.toNat i) T_forest_node.z) with fparent := p })) else none)
            (some ns) : Option ((List T_forest_node)))).bind fun x25 => some (Sum.inl x25) : Option ((List T_forest_node) ⊕ Nat)).bind R2) = some r ∧ SeeOK ids N r := by
          intro R2 hA hB
          cases ((List.getD ns (Int.toNat i) T_forest_node.z).fparent == (-1)) with
          | true => simp only [cond_true, if_pos (Nat.le_refl _)]; exact hA
          | false => exact hB
        simp only [Bool.not_true, cond_false]
        cases (!((List.getD ns (Int.toNat i) T_forest_node.z).fparent == (-1))) with
        | false => exact fin _ ⟨_, rfl, hset⟩ ⟨_, rfl, hkeep⟩
        | true =>
          simp only [cond_true]
          cases (!(p == (-1))) with
          | false => exact fin _ ⟨_, rfl, hset⟩ ⟨_, rfl, hkeep⟩
          | true =>
            simp only [cond_true]
            cases (!((List.getD ns (Int.toNat i) T_forest_node.z).fparent == p)) with
            | true => exact ⟨_, rfl, trivial⟩
            | false => exact fin _ ⟨_, rfl, hset⟩ ⟨_, rfl, hkeep⟩
  · exact ⟨_, rfl, h1⟩
  · exact ⟨_, rfl, trivial⟩

def AOK (a : T_fellowshiplaw31_Act) : Prop := MOK a.fMark
def actAt (l : List T_fellowshiplaw31_Act) (i : Nat) : T_fellowshiplaw31_Act := List.getD l i T_fellowshiplaw31_Act.z
/-- All acts are played. -/
theorem plays (l : List T_fellowshiplaw31_Act) (hok : ∀ i, i < l.length → AOK (actAt l i)) (hlen : l.length ≤ 60) : ∀ (d i n : Nat) ids ats ns, i + d = l.length → d < n → FInv ids ats ns i → ∃ ids' ats' ns', fellowshiplaw31_ForestMeets_l1 l n (i : Int) ids ats ns = some (ids', ats', ns') ∧ FInv ids' ats' ns' l.length
  | 0, i, n, ids, ats, ns, hd, hn, h => by
    obtain ⟨n, rfl⟩ : ∃ m, n = m + 1 := ⟨n - 1, by omega⟩
    rw [fellowshiplaw31_ForestMeets_l1.eq_2, show decide ((i : Int) < (l.length : Int)) = false from by simp; omega]
    exact ⟨_, _, _, rfl, by rw [← hd]; exact h⟩
  | d + 1, i, n, ids, ats, ns, hd, hn, h => by
    obtain ⟨n, rfl⟩ : ∃ m, n = m + 1 := ⟨n - 1, by omega⟩
    rw [fellowshiplaw31_ForestMeets_l1.eq_2, show decide ((i : Int) < (l.length : Int)) = true from by simp; omega]
    simp only [cond_true, Int.toNat_natCast]
    rw [if_pos ⟨by omega, by omega⟩, show IntKind.i64.wrap ((i : Int) + 1) = ((i + 1 : Nat) : Int) from by rw [wrap_i64 (by omega) (by omega)]; rfl]
    have hrec := fun ids ats ns h => plays l hok hlen d (i + 1) n ids ats ns (by omega) (by omega) h
    cases (List.getD l i T_fellowshiplaw31_Act.z).fLeaves with
    | true =>
      simp only [cond_true, forest_Forest_Leave_2, Option.bind_some]
      exact hrec ids (dl _ ats) ns ⟨by have := h.len; omega, h.id1, h.id2, fun x hx => h.at_ x (dl_mem hx), h.par, h.ok⟩
    | false =>
      simp only [cond_false]
      obtain ⟨r, hr, hs⟩ := see_ok h (by omega) (who := (List.getD l i T_fellowshiplaw31_Act.z).fWho) (m := (List.getD l i T_fellowshiplaw31_Act.z).fMark) (hok i (by omega))
      rw [hr, Option.bind_some]
      rcases r with ⟨x, ns', ats'⟩ | ⟨x, ids', ats', ns'⟩ | e
      · exact hrec _ _ _ hs
      · exact hrec _ _ _ hs
      · exact hrec ids ats ns { h with len := by have := h.len; omega }

/- ## Chains -/
abbrev Has (ns : List Nd) (i : Int) : Prop := 0 ≤ i ∧ i < ns.length
abbrev pare (ns : List Nd) (i : Int) : Int := (nth ns i.toNat).fparent
abbrev ep (ns : List Nd) (i : Int) : Int := (nth ns i.toNat).fMark.fEpoch
def rank (ns : List Nd) (i : Int) : Nat := if Has ns i then (ns.filter fun x => decide (x.fMark.fEpoch < ep ns i)).length + 1 else 0
theorem filter_lt {a b : Int} (hab : a ≤ b) : ∀ {l : List Nd}, (∃ x, x ∈ l ∧ ¬ x.fMark.fEpoch < a ∧ x.fMark.fEpoch < b) → (l.filter fun x => decide (x.fMark.fEpoch < a)).length < (l.filter fun x => decide (x.fMark.fEpoch < b)).length
  | [], h => by obtain ⟨x, hx, _⟩ := h; cases hx
  | y :: l, h => by
    have mono : ∀ l : List Nd, (l.filter fun x => decide (x.fMark.fEpoch < a)).length ≤ (l.filter fun x => decide (x.fMark.fEpoch < b)).length := by
      intro l
      induction l with
      | nil => exact Nat.le_refl _
      | cons z l ih =>
        simp only [List.filter_cons]
        by_cases h1 : z.fMark.fEpoch < a
        · have h2 : z.fMark.fEpoch < b := by omega
          simp [h1, h2, ih]
        · by_cases h2 : z.fMark.fEpoch < b
          · simp [h1, h2]; omega
          · simp [h1, h2, ih]
    obtain ⟨x, hx, h1, h2⟩ := h
    simp only [List.filter_cons]
    rcases List.mem_cons.1 hx with rfl | hx
    · have := mono l
      simp [h1, h2]; omega
    · have ih := filter_lt hab ⟨x, hx, h1, h2⟩
      by_cases h3 : y.fMark.fEpoch < a
      · have h4 : y.fMark.fEpoch < b := by omega
        simp [h3, h4, ih]
      · by_cases h4 : y.fMark.fEpoch < b
        · simp [h3, h4]; omega
        · simp [h3, h4, ih]
theorem nth_mem {ns : List Nd} {i : Nat} (h : i < ns.length) : nth ns i ∈ ns := by
  unfold nth; simp only [List.getD, List.getElem?_eq_getElem h, Option.getD_some]; exact List.getElem_mem h
theorem rank_le (ns : List Nd) (i : Int) : rank ns i ≤ ns.length + 1 := by
  unfold rank
  split
  · have := List.length_filter_le (fun x : Nd => decide (x.fMark.fEpoch < ep ns i)) ns; omega
  · omega
section
variable {ids : List (List Int × Int)} {ats : List (Int × Int)} {ns : List Nd} {N : Nat}
theorem pare_ok (h : FInv ids ats ns N) {i : Int} (hi : Has ns i) : ¬ Has ns (pare ns i) ∨ ep ns i = ep ns (pare ns i) + 1 := by
  rcases h.par i.toNat (by omega) with hp | ⟨h1, h2, h3, h4⟩
  · left; intro hh; have := hh.1; simp only [pare] at this; omega
  · right; exact h4
theorem rank_lt (h : FInv ids ats ns N) {i : Int} (hi : Has ns i) : rank ns (pare ns i) < rank ns i := by
  unfold rank
  rw [if_pos hi]
  split
  · rename_i hp
    rcases pare_ok h hi with h1 | h1
    · exact absurd hp h1
    · refine Nat.succ_lt_succ (filter_lt (by omega) ⟨nth ns (pare ns i).toNat, nth_mem (by omega), by simp, ?_⟩)
      show ep ns (pare ns i) < ep ns i
      omega
  · omega
def chain (ns : List Nd) : Nat → Int → List Int
  | 0, _ => []
  | n + 1, i => if Has ns i then i :: chain ns n (pare ns i) else []
def ch (ns : List Nd) (i : Int) : List Int := chain ns (ns.length + 1) i
theorem chain_same (h : FInv ids ats ns N) : ∀ (n m : Nat) (i : Int), rank ns i ≤ n → rank ns i ≤ m → chain ns n i = chain ns m i
  | 0, m, i, h1, _ => by
    have hn : ¬ Has ns i := fun hi => by unfold rank at h1; rw [if_pos hi] at h1; omega
    cases m with
    | zero => rfl
    | succ m => simp only [chain, if_neg hn]
  | n + 1, 0, i, _, h2 => by
    have hn : ¬ Has ns i := fun hi => by unfold rank at h2; rw [if_pos hi] at h2; omega
    simp only [chain, if_neg hn]
  | n + 1, m + 1, i, h1, h2 => by
    by_cases hi : Has ns i
    · have := rank_lt h hi
      simp only [chain, if_pos hi]
      rw [chain_same h n m _ (by omega) (by omega)]
    · simp only [chain, if_neg hi]
theorem ch_yes (h : FInv ids ats ns N) {i : Int} (hi : Has ns i) : ch ns i = i :: ch ns (pare ns i) := by
  have h1 := rank_lt h hi
  have h2 := rank_le ns i
  show chain ns (ns.length + 1) i = _
  simp only [chain, if_pos hi]
  rw [chain_same h ns.length (ns.length + 1) _ (by omega) (by omega)]
  rfl
theorem ch_no {i : Int} (hi : ¬ Has ns i) : ch ns i = [] := by
  show chain ns (ns.length + 1) i = _
  simp only [chain, if_neg hi]
theorem ch_has (h : FInv ids ats ns N) {x : Int} : ∀ (n : Nat) (i : Int), rank ns i ≤ n → x ∈ ch ns i → Has ns x ∧ ep ns x ≤ ep ns i
  | n, i, hn, hx => by
    by_cases hi : Has ns i
    · rw [ch_yes h hi] at hx
      rcases List.mem_cons.1 hx with rfl | hx
      · exact ⟨hi, Int.le_refl _⟩
      · have hr := rank_lt h hi
        cases n with
        | zero => omega
        | succ n =>
          obtain ⟨h1, h2⟩ := ch_has h n (pare ns i) (by omega) hx
          refine ⟨h1, ?_⟩
          rcases pare_ok h hi with h3 | h3
          · rw [ch_no h3] at hx; cases hx
          · omega
    · rw [ch_no hi] at hx; cases hx
theorem ch_len (h : FInv ids ats ns N) : ∀ (n : Nat) (i : Int), rank ns i ≤ n → (ch ns i).length ≤ n
  | n, i, hn => by
    by_cases hi : Has ns i
    · have hr := rank_lt h hi
      rw [ch_yes h hi]
      cases n with
      | zero => omega
      | succ n => simp only [List.length_cons]; have := ch_len h n (pare ns i) (by omega); omega
    · rw [ch_no hi]; exact Nat.zero_le _
theorem ch_self (h : FInv ids ats ns N) {i : Int} (hi : Has ns i) : i ∈ ch ns i := by rw [ch_yes h hi]; exact List.mem_cons_self ..
theorem ch_split (h : FInv ids ats ns N) {c : Int} : ∀ (n : Nat) (i : Int), rank ns i ≤ n → c ∈ ch ns i → ∃ p, ch ns i = p ++ ch ns c
  | n, i, hn, hc => by
    by_cases hi : Has ns i
    · have he := ch_yes h hi
      have hc' := hc
      rw [he] at hc'
      rcases List.mem_cons.1 hc' with rfl | hc'
      · exact ⟨[], rfl⟩
      · have hr := rank_lt h hi
        cases n with
        | zero => omega
        | succ n =>
          obtain ⟨p, hp⟩ := ch_split h n (pare ns i) (by omega) hc'
          exact ⟨i :: p, by rw [he, hp]; rfl⟩
    · rw [ch_no hi] at hc; cases hc
theorem ch_low (h : FInv ids ats ns N) {c x : Int} (hx : x ∈ ch ns c) (he : ep ns c ≤ ep ns x) : x = c := by
  by_cases hc : Has ns c
  · rw [ch_yes h hc] at hx
    rcases List.mem_cons.1 hx with rfl | hx
    · rfl
    · have h1 := ch_has h _ _ (Nat.le_refl _) hx
      rcases pare_ok h hc with h3 | h3
      · rw [ch_no h3] at hx; cases hx
      · omega
  · rw [ch_no hc] at hx; cases hx

/- ## What the code shows -/
theorem has_eq (i : Int) : forest_Forest_has i ns ids ats = some (decide (Has ns i)) := by
  unfold forest_Forest_has
  by_cases h1 : i ≥ 0
  · rw [decide_eq_true h1, cond_true]
    congr 1
    by_cases h2 : i < (ns.length : Int)
    · rw [decide_eq_true h2, decide_eq_true (show Has ns i from ⟨h1, h2⟩)]
    · rw [decide_eq_false h2, decide_eq_false (fun h : Has ns i => h2 h.2)]
  · rw [decide_eq_false h1, cond_false, decide_eq_false (fun h : Has ns i => h1 h.1)]
theorem collect (h : FInv ids ats ns N) : ∀ (n : Nat) (i : Int) (acc : List Int), rank ns i < n → acc.length + rank ns i ≤ 1000 → ∃ j, slices_AppendSeq_int_int_l1 ns ids ats n i acc = some (j, acc ++ ch ns i)
  | 0, i, acc, h1, _ => by omega
  | n + 1, i, acc, h1, h2 => by
    rw [slices_AppendSeq_int_int_l1.eq_2, has_eq, Option.bind_some]
    by_cases hi : Has ns i
    · have hr := rank_lt h hi
      rw [decide_eq_true hi, cond_true, if_pos (by simp only [List.length_cons, List.length_nil]; omega), if_pos hi]
      obtain ⟨j, hj⟩ := collect h n (pare ns i) (acc ++ [i]) (by omega) (by simp only [List.length_append, List.length_cons, List.length_nil]; omega)
      refine ⟨j, ?_⟩
      rw [ch_yes h hi]
      show slices_AppendSeq_int_int_l1 ns ids ats n (pare ns i) (acc ++ [i]) = _
      rw [hj, List.append_assoc]; rfl
    · rw [decide_eq_false hi, cond_false, ch_no hi, List.append_nil]
      exact ⟨_, rfl⟩
theorem chain_eq (h : FInv ids ats ns N) (hN : N ≤ 100) (i : Int) : forest_Forest_Chain i ns ids ats = some (ch ns i) := by
  have h1 := rank_le ns i
  have h2 := h.len
  obtain ⟨j, hj⟩ := collect h FUEL i [] (by unfold FUEL; omega) (by simp only [List.length_nil]; omega)
  unfold forest_Forest_Chain forest_Forest_up slices_Collect_int slices_AppendSeq_int_int
  rw [hj]
  rfl
theorem index_ok (l : List Int) (x : Int) (hl : l.length ≤ 1000) : ∀ (d k n : Nat), k + d = l.length → d < n →
    (x ∈ l.drop k → ∃ j : Int, 0 ≤ j ∧ slices_Index_int_int_l1 l x n (k : Int) = some (.inr j)) ∧ (x ∉ l.drop k → slices_Index_int_int_l1 l x n (k : Int) = some (.inl ()))
  | 0, k, n, hd, hn => by
    obtain ⟨n, rfl⟩ : ∃ m, n = m + 1 := ⟨n - 1, by omega⟩
    rw [slices_Index_int_int_l1.eq_2, show decide ((k : Int) < (l.length : Int)) = false from by simp; omega, cond_false, List.drop_eq_nil_of_le (by omega)]
    exact ⟨fun h => (by cases h), fun _ => rfl⟩
  | d + 1, k, n, hd, hn => by
    obtain ⟨n, rfl⟩ : ∃ m, n = m + 1 := ⟨n - 1, by omega⟩
    rw [slices_Index_int_int_l1.eq_2, show decide ((k : Int) < (l.length : Int)) = true from by simp; omega, cond_true, if_pos ⟨by omega, by omega⟩, show IntKind.i64.wrap ((k : Int) + 1) = ((k + 1 : Nat) : Int) from by rw [wrap_i64 (by omega) (by omega)]; rfl]
    have ih := index_ok l x hl d (k + 1) n (by omega) (by omega)
    have hk : k < l.length := by omega
    rw [List.drop_eq_getElem_cons hk, Int.toNat_natCast, show l.getD k 0 = l[k] from by simp [List.getD, hk]]
    by_cases e : x = l[k]
    · subst e
      simp only [beq_self_eq_true, cond_true]
      exact ⟨fun _ => ⟨_, by omega, rfl⟩, fun h => absurd (List.mem_cons_self ..) h⟩
    · rw [show (x == l[k]) = false from by simp [e], cond_false]
      refine ⟨fun h => ih.1 ((List.mem_cons.1 h).resolve_left e), fun h => ih.2 fun h' => h (List.mem_cons_of_mem _ h')⟩
theorem contains_eq (l : List Int) (x : Int) (hl : l.length ≤ 1000) : slices_Contains_int_int l x = some (decide (x ∈ l)) := by
  have h := index_ok l x hl l.length 0 FUEL (by omega) (by unfold FUEL; omega)
  rw [List.drop_zero] at h
  unfold slices_Contains_int_int slices_Index_int_int
  by_cases hx : x ∈ l
  · obtain ⟨j, hj, he⟩ := h.1 hx
    rw [show ((0 : Nat) : Int) = 0 from rfl] at he
    rw [he, decide_eq_true hx]
    simp [hj]
  · have he := h.2 hx
    rw [show ((0 : Nat) : Int) = 0 from rfl] at he
    rw [he, decide_eq_false hx]
    rfl
theorem in_ok (l : List Int) (x : Int) (hl : l.length ≤ 1000) (hx : x ∉ l) : fellowshipnum_In l x = some false := by
  have loop : ∀ (d k n : Nat), k + d = l.length → d < n → fellowshipnum_In_l1 l x n (k : Int) = some (.inl ()) := by
    intro d
    induction d with
    | zero =>
      intro k n hd hn
      obtain ⟨n, rfl⟩ : ∃ m, n = m + 1 := ⟨n - 1, by omega⟩
      rw [fellowshipnum_In_l1.eq_2, show decide ((k : Int) < (l.length : Int)) = false from by simp; omega]
      rfl
    | succ d ih =>
      intro k n hd hn
      obtain ⟨n, rfl⟩ : ∃ m, n = m + 1 := ⟨n - 1, by omega⟩
      have hk : k < l.length := by omega
      have e : ¬ l[k] = x := fun e => hx (e ▸ List.getElem_mem hk)
      rw [fellowshipnum_In_l1.eq_2, show decide ((k : Int) < (l.length : Int)) = true from by simp; omega, cond_true, if_pos ⟨by omega, by omega⟩, show IntKind.i64.wrap ((k : Int) + 1) = ((k + 1 : Nat) : Int) from by rw [wrap_i64 (by omega) (by omega)]; rfl,
        Int.toNat_natCast, show l.getD k 0 = l[k] from by simp [List.getD, hk], show (l[k] == x) = false from by simp [e], cond_false]
      exact ih (k + 1) n (by omega) (by omega)
  have := loop l.length 0 FUEL (by omega) (by unfold FUEL; omega)
  rw [show ((0 : Nat) : Int) = 0 from rfl] at this
  unfold fellowshipnum_In
  rw [this]; rfl
theorem same_ok (l : List Int) (hl : l.length ≤ 1000) : fellowshipnum_SameInts l l = some true := by
  have loop : ∀ (d k n : Nat), k + d = l.length → d < n → fellowshipnum_SameInts_l1 l l n (k : Int) = some (.inl ()) := by
    intro d
    induction d with
    | zero =>
      intro k n hd hn
      obtain ⟨n, rfl⟩ : ∃ m, n = m + 1 := ⟨n - 1, by omega⟩
      rw [fellowshipnum_SameInts_l1.eq_2, show decide ((k : Int) < (l.length : Int)) = false from by simp; omega]
      rfl
    | succ d ih =>
      intro k n hd hn
      obtain ⟨n, rfl⟩ : ∃ m, n = m + 1 := ⟨n - 1, by omega⟩
      rw [fellowshipnum_SameInts_l1.eq_2, show decide ((k : Int) < (l.length : Int)) = true from by simp; omega, cond_true, if_pos ⟨by omega, by omega⟩, if_pos ⟨by omega, by omega⟩, show IntKind.i64.wrap ((k : Int) + 1) = ((k + 1 : Nat) : Int) from by rw [wrap_i64 (by omega) (by omega)]; rfl]
      simp only [beq_self_eq_true, Bool.not_true, cond_false]
      exact ih (k + 1) n (by omega) (by omega)
  have := loop l.length 0 FUEL (by omega) (by unfold FUEL; omega)
  rw [show ((0 : Nat) : Int) = 0 from rfl] at this
  unfold fellowshipnum_SameInts
  rw [this]; simp
theorem common_ok (h : FInv ids ats ns N) (l : List Int) (hl : l.length ≤ 1000) : ∀ (n : Nat) (i : Int), rank ns i < n →
    (∃ p c, ch ns i = p ++ ch ns c ∧ Has ns c ∧ c ∈ l ∧ (∀ x, x ∈ p → x ∉ l) ∧ forest_Forest_Common_l1 ns ids ats l n i = some (.inl (c, c))) ∨
    ((∀ x, x ∈ ch ns i → x ∉ l) ∧ ∃ j, forest_Forest_Common_l1 ns ids ats l n i = some (.inr j))
  | 0, i, h1 => by omega
  | n + 1, i, h1 => by
    rw [forest_Forest_Common_l1.eq_2, has_eq, Option.bind_some]
    by_cases hi : Has ns i
    · have hr := rank_lt h hi
      rw [decide_eq_true hi, cond_true, contains_eq l i hl, Option.bind_some]
      by_cases hx : i ∈ l
      · rw [decide_eq_true hx, cond_true]
        exact .inl ⟨[], i, rfl, hi, hx, fun x hx => (by cases hx), rfl⟩
      · rw [decide_eq_false hx, cond_false, if_pos hi]
        rcases common_ok h l hl n (pare ns i) (by omega) with ⟨p, c, h2, h3, h4, h5, h6⟩ | ⟨h2, j, h3⟩
        · refine .inl ⟨i :: p, c, by rw [ch_yes h hi, h2]; rfl, h3, h4, fun x hx' => ?_, h6⟩
          rcases List.mem_cons.1 hx' with rfl | hx'
          · exact hx
          · exact h5 x hx'
        · refine .inr ⟨fun x hx' => ?_, j, h3⟩
          rw [ch_yes h hi] at hx'
          rcases List.mem_cons.1 hx' with rfl | hx'
          · exact hx
          · exact h2 x hx'
    · rw [decide_eq_false hi, cond_false, ch_no hi]
      exact .inr ⟨fun x hx => (by cases hx), _, rfl⟩
/-- The first node of one chain that another one has. -/
theorem common_eq (h : FInv ids ats ns N) (hN : N ≤ 100) (i j : Int) :
    (∃ p c, ch ns i = p ++ ch ns c ∧ Has ns c ∧ c ∈ ch ns j ∧ (∀ x, x ∈ p → x ∉ ch ns j) ∧ forest_Forest_Common i j ns ids ats = some c) ∨
    ((∀ x, x ∈ ch ns i → x ∉ ch ns j) ∧ forest_Forest_Common i j ns ids ats = some (-1)) := by
  have h1 := rank_le ns i
  have h2 := h.len
  have hl : (ch ns j).length ≤ 1000 := by have := ch_len h _ j (Nat.le_refl _); have := rank_le ns j; omega
  unfold forest_Forest_Common forest_Forest_up
  rw [chain_eq h hN]
  simp only [Option.bind_some]
  rcases common_ok h (ch ns j) hl FUEL i (by unfold FUEL; omega) with ⟨p, c, g1, g2, g3, g4, g5⟩ | ⟨g1, k, g2⟩
  · rw [g5]; exact .inl ⟨p, c, g1, g2, g3, g4, rfl⟩
  · rw [g2]; exact .inr ⟨g1, rfl⟩
theorem back_of {p l : List Int} (hp : (p ++ l).length ≤ 1000) : 0 ≤ IntKind.i64.wrap (((p ++ l).length : Int) - (l.length : Int)) ∧ IntKind.i64.wrap (((p ++ l).length : Int) - (l.length : Int)) ≤ ((p ++ l).length : Int) ∧
    List.take (Int.toNat (((p ++ l).length : Int) - IntKind.i64.wrap (((p ++ l).length : Int) - (l.length : Int)))) (List.drop (Int.toNat (IntKind.i64.wrap (((p ++ l).length : Int) - (l.length : Int)))) (p ++ l)) = l := by
  rw [List.length_append] at hp
  have e : IntKind.i64.wrap (((p ++ l).length : Int) - (l.length : Int)) = (p.length : Int) := by
    rw [List.length_append, wrap_i64 (by omega) (by omega)]; omega
  rw [e]
  refine ⟨by omega, by rw [List.length_append]; omega, ?_⟩
  rw [Int.toNat_natCast, List.drop_left, show Int.toNat (((p ++ l).length : Int) - (p.length : Int)) = l.length from by rw [List.length_append]; omega, List.take_length]
theorem meets_true (h : FInv ids ats ns N) (hN : N ≤ 100) (i j : Int) :
    ((forest_Forest_Common i j ns ids ats).bind fun x23 =>
      cond (decide (x23 < 0))
        ((forest_Forest_Chain i ns ids ats).bind fun x24 =>
          ((fellowshiplaw31_ForestMeets_l2 j ids ats ns x24 FUEL 0 : Option ((Unit ⊕ Unit)))).bind fun r3_1_24 => match r3_1_24 with
          | (Sum.inl ()) => some true
          | (Sum.inr ()) => some false)
        ((forest_Forest_Chain i ns ids ats).bind fun x28 =>
          (forest_Forest_Chain j ns ids ats).bind fun x29 =>
            (forest_Forest_Chain x23 ns ids ats).bind fun x30 =>
              cond (decide (((List.length x28) : Int) ≥ ((List.length x30) : Int)))
                (cond (decide (((List.length x29) : Int) ≥ ((List.length x30) : Int)))
                  (if 0 ≤ (IntKind.wrap .i64 (((List.length x28) : Int) - ((List.length x30) : Int))) ∧ (IntKind.wrap .i64 (((List.length x28) : Int) - ((List.length x30) : Int))) ≤ ((List.length x28) : Int) then
                    (fellowshipnum_SameInts (List.take (Int.toNat (((List.length x28) : Int) - (IntKind.wrap .i64 (((List.length x28) : Int) - ((List.length x30) : Int))))) (List.drop (Int.toNat (IntKind.wrap .i64 (((List.length x28) : Int) - ((List.length x30) : Int)))) x28)) x30).bind fun x31 =>
                      cond x31
                        (if 0 ≤ (IntKind.wrap .i64 (((List.length x29) : Int) - ((List.length x30) : Int))) ∧ (IntKind.wrap .i64 (((List.length x29) : Int) - ((List.length x30) : Int))) ≤ ((List.length x29) : Int) then
                          (fellowshipnum_SameInts (List.take (Int.toNat (((List.length x29) : Int) - (IntKind.wrap .i64 (((List.length x29) : Int) - ((List.length x30) : Int))))) (List.drop (Int.toNat (IntKind.wrap .i64 (((List.length x29) : Int) - ((List.length x30) : Int)))) x29)) x30).bind fun x32 =>
                            cond x32
                              ((forest_Forest_Common j i ns ids ats).bind fun x33 =>
                                some (x23 == x33))
                              (some false)
                        else none)
                        (some false)
                  else none)
                  (some false))
                (some false))) = some true := by
  have hlen := h.len
  have hl : ∀ k, (ch ns k).length ≤ 1000 := fun k => by have := ch_len h _ k (Nat.le_refl _); have := rank_le ns k; omega
  rcases common_eq h hN i j with ⟨p, c, g1, g2, g3, g4, g5⟩ | ⟨g1, g2⟩
  · rw [g5, Option.bind_some, show decide (c < 0) = false from by simp; omega, cond_false]
    simp only [chain_eq h hN, Option.bind_some]
    obtain ⟨q, hq⟩ := ch_split h _ j (Nat.le_refl _) g3
    have hci : c ∈ ch ns i := by rw [g1]; exact List.mem_append_right _ (ch_self h g2)
    rw [g1, hq]
    have hp := back_of (p := p) (l := ch ns c) (by rw [← g1]; exact hl i)
    have hq' := back_of (p := q) (l := ch ns c) (by rw [← hq]; exact hl j)
    rw [show decide ((((p ++ ch ns c).length : Nat) : Int) ≥ (((ch ns c).length : Nat) : Int)) = true from decide_eq_true (by rw [List.length_append]; omega), show decide ((((q ++ ch ns c).length : Nat) : Int) ≥ (((ch ns c).length : Nat) : Int)) = true from decide_eq_true (by rw [List.length_append]; omega), cond_true, cond_true,
      if_pos ⟨hp.1, hp.2.1⟩, if_pos ⟨hq'.1, hq'.2.1⟩, hp.2.2, hq'.2.2, same_ok _ (hl c), Option.bind_some, cond_true, Option.bind_some, cond_true]
    rcases common_eq h hN j i with ⟨p', c', k1, k2, k3, k4, k5⟩ | ⟨k1, _⟩
    · rw [k5, Option.bind_some]
      have h1 : c ∈ ch ns c' := by
        have : c ∈ p' ++ ch ns c' := by rw [← k1]; exact g3
        rcases List.mem_append.1 this with h1 | h1
        · exact absurd hci (k4 c h1)
        · exact h1
      have hcj : c' ∈ ch ns j := by rw [k1]; exact List.mem_append_right _ (ch_self h k2)
      have h2 : c' ∈ ch ns c := by
        have : c' ∈ p ++ ch ns c := by rw [← g1]; exact k3
        rcases List.mem_append.1 this with h1 | h1
        · exact absurd hcj (g4 c' h1)
        · exact h1
      have := ch_low h h1 (ch_has h _ _ (Nat.le_refl _) h2).2
      rw [this]; simp
    · exact absurd hci (k1 c g3)
  · rw [g2, Option.bind_some, show decide ((-1 : Int) < 0) = true from rfl, cond_true, chain_eq h hN, Option.bind_some]
    have loop : ∀ (d k n : Nat), k + d = (ch ns i).length → d < n → fellowshiplaw31_ForestMeets_l2 j ids ats ns (ch ns i) n (k : Int) = some (.inl ()) := by
      intro d
      induction d with
      | zero =>
        intro k n hd hn
        obtain ⟨n, rfl⟩ : ∃ m, n = m + 1 := ⟨n - 1, by omega⟩
        rw [fellowshiplaw31_ForestMeets_l2.eq_2, show decide ((k : Int) < ((ch ns i).length : Int)) = false from by simp; omega]
        rfl
      | succ d ih =>
        intro k n hd hn
        obtain ⟨n, rfl⟩ : ∃ m, n = m + 1 := ⟨n - 1, by omega⟩
        have hk : k < (ch ns i).length := by omega
        have := hl i
        rw [fellowshiplaw31_ForestMeets_l2.eq_2, show decide ((k : Int) < ((ch ns i).length : Int)) = true from by simp; omega, cond_true, if_pos ⟨by omega, by omega⟩, show IntKind.i64.wrap ((k : Int) + 1) = ((k + 1 : Nat) : Int) from by rw [wrap_i64 (by omega) (by omega)]; rfl,
          chain_eq h hN, Option.bind_some, Int.toNat_natCast, show (ch ns i).getD k 0 = (ch ns i)[k] from by simp [List.getD, hk], in_ok _ _ (hl j) (g1 _ (List.getElem_mem hk)), Option.bind_some, cond_false]
        exact ih (k + 1) n (by omega) (by omega)
    have := loop (ch ns i).length 0 FUEL (by omega) (by have := hl i; unfold FUEL; omega)
    rw [show ((0 : Nat) : Int) = 0 from rfl] at this
    rw [this]; rfl
end
theorem alive_true : fellowshiplaw31_alive = some true := by decide +kernel
theorem forestMeets_true {N : Nat} (l : List T_fellowshiplaw31_Act) (h : okR N (T_fellowshiplaw31_Act.ok N) l) (i : Int) (_ : okI .i64 i) (j : Int) (_ : okI .i64 j) : fellowshiplaw31_ForestMeets l i j = some true := by
  have hok : ∀ k, k < l.length → AOK (actAt l k) := fun k hk => (getD_ok T_fellowshiplaw31_Act.z h.2 hk).2.1.2.1
  unfold fellowshiplaw31_ForestMeets
  rw [alive_true]
  simp only [Option.bind_some, Bool.not_true, cond_false]
  by_cases h : (l.length : Int) > 60
  · rw [decide_eq_true h]; rfl
  · rw [decide_eq_false h]
    simp only [cond_false, forest_New, Option.bind_some]
    obtain ⟨ids, ats, ns, h1, h2⟩ := plays l hok (by omega) l.length 0 FUEL [] [] [] (by omega) (by unfold FUEL; omega) ⟨by simp, fun k i h => by simp [lk] at h, fun i h => by simp at h, fun x h => by simp at h, fun i h => by simp at h, fun i h => by simp at h⟩
    rw [show ((0 : Nat) : Int) = 0 from rfl] at h1
    rw [h1]
    exact meets_true h2 (by omega) i j
end Go.Eng
