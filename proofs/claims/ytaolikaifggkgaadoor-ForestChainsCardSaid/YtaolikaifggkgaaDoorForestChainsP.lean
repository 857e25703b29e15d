/-
  Part of a proof: ForestChainsP.
-/
import Derived.Test.YtaolikaifggkgaaDoorForestChainsS
set_option linter.unusedVariables false
set_option linter.unusedSimpArgs false
namespace Go.Eng

theorem optK_none {α β : Type} (f : α → Option β) (d : Option β) : optK none f d = d := by cases d <;> rfl
theorem optK_some {α β : Type} (a : α) (f : α → Option β) (d : Option β) : optK (some a) f d = f a := by cases d <;> rfl
theorem wrap_i64 {n : Int} (h1 : -9223372036854775808 ≤ n) (h2 : n ≤ 9223372036854775807) : IntKind.i64.wrap n = n := by
  unfold IntKind.wrap; simp [IntKind.bits, IntKind.signed]; omega
theorem lk_st {κ α : Type} [BEq κ] [LawfulBEq κ] [DecidableEq κ] (k k' : κ) (v : α) : ∀ es : List (κ × α), lk k (st k' v es) = if k = k' then some v else lk k es
  | [] => by
    by_cases h : k = k'
    · subst h; simp [st, lk]
    · have : (k == k') = false := by simp [h]
      simp [st, lk, h, this]
  | x :: r => by
    by_cases h : k' = x.1
    · subst h
      by_cases h2 : k = x.1
      · subst h2; simp [st, lk]
      · have : (k == x.1) = false := by simp [h2]
        simp [st, lk, h2, this]
    · have h' : (k' == x.1) = false := by simp [h]
      simp only [st, h', lk]
      rw [lk_st k k' v r]
      by_cases h2 : k = x.1
      · subst h2
        have : ¬ x.1 = k' := fun e => h e.symm
        simp [this]
      · have : (k == x.1) = false := by simp [h2]
        simp [this]
theorem lk_dl {κ α : Type} [BEq κ] [LawfulBEq κ] (k k' : κ) {v : α} : ∀ es : List (κ × α), lk k (dl k' es) = some v → ∃ j, (j, v) ∈ es
  | [], h => by simp [dl, lk] at h
  | x :: r, h => by
    unfold dl at h
    have mem : ∀ {es : List (κ × α)}, lk k es = some v → ∃ j, (j, v) ∈ es := by
      intro es
      induction es with
      | nil => intro h; simp [lk] at h
      | cons y r ih =>
        intro h
        unfold lk at h
        split at h
        · cases h; exact ⟨y.1, .head _⟩
        · obtain ⟨j, hj⟩ := ih h; exact ⟨j, .tail _ hj⟩
    split at h
    · obtain ⟨j, hj⟩ := mem h; exact ⟨j, .tail _ hj⟩
    · unfold lk at h
      split at h
      · cases h; exact ⟨x.1, .head _⟩
      · obtain ⟨j, hj⟩ := lk_dl k k' r h; exact ⟨j, .tail _ hj⟩
theorem dl_mem {κ α : Type} [BEq κ] {k' : κ} {x : κ × α} : ∀ {es : List (κ × α)}, x ∈ dl k' es → x ∈ es
  | [], h => h
  | y :: r, h => by
    unfold dl at h
    split at h
    · exact .tail _ h
    · rcases List.mem_cons.1 h with rfl | h
      · exact .head _
      · exact .tail _ (dl_mem h)
theorem st_mem {κ α : Type} [BEq κ] {k : κ} {v : α} {x : κ × α} : ∀ {es : List (κ × α)}, x ∈ st k v es → x.2 = v ∨ x ∈ es
  | [], h => by simp [st] at h; subst h; exact .inl rfl
  | y :: r, h => by
    unfold st at h
    split at h
    · rcases List.mem_cons.1 h with rfl | h
      · exact .inl rfl
      · exact .inr (.tail _ h)
    · rcases List.mem_cons.1 h with rfl | h
      · exact .inr (.head _)
      · exact (st_mem h).imp id (.tail _)
theorem lk_mem {κ α : Type} [BEq κ] {k : κ} {v : α} : ∀ {es : List (κ × α)}, lk k es = some v → ∃ j, (j, v) ∈ es
  | [], h => by simp [lk] at h
  | y :: r, h => by
    unfold lk at h
    split at h
    · cases h; exact ⟨y.1, .head _⟩
    · obtain ⟨j, hj⟩ := lk_mem h; exact ⟨j, .tail _ hj⟩

abbrev Nd := T_forest_node
def nth (ns : List Nd) (i : Nat) : Nd := List.getD ns i T_forest_node.z
def MOK (m : T_forest_Mark) : Prop := -9223372036854775808 ≤ m.fEpoch ∧ m.fEpoch ≤ 9223372036854775807
def Child (ns : List Nd) (x : Nd) : Prop := x.fparent = -1 ∨ (0 ≤ x.fparent ∧ x.fparent < ns.length ∧ x.fMark.fGroup = (nth ns x.fparent.toNat).fMark.fGroup ∧ x.fMark.fEpoch = (nth ns x.fparent.toNat).fMark.fEpoch + 1)
structure FInv (ids : List (List Int × Int)) (ats : List (Int × Int)) (ns : List Nd) (N : Nat) : Prop where
  len : ns.length ≤ N
  id1 : ∀ k i, lk k ids = some i → 0 ≤ i ∧ i < ns.length ∧ (nth ns i.toNat).fMark.fID = k
  id2 : ∀ i : Nat, i < ns.length → lk (nth ns i).fMark.fID ids = some (i : Int)
  at_ : ∀ x, x ∈ ats → 0 ≤ x.2 ∧ x.2 < ns.length
  par : ∀ i : Nat, i < ns.length → Child ns (nth ns i)
  ok : ∀ i : Nat, i < ns.length → MOK (nth ns i).fMark

theorem same_iff (a b : T_forest_Mark) : T_forest_Mark.same a b = true ↔ a = b := by
  unfold T_forest_Mark.same
  cases a; cases b
  simp
theorem follows_eq {m q : T_forest_Mark} (hm : MOK m) (hq : MOK q) : forest_Mark_follows m q = some (decide (m.fGroup = q.fGroup ∧ m.fEpoch = q.fEpoch + 1)) := by
  unfold forest_Mark_follows
  obtain ⟨h1, h2⟩ := hm
  obtain ⟨h3, h4⟩ := hq
  by_cases hg : m.fGroup = q.fGroup
  · rw [show (m.fGroup == q.fGroup) = true from by simp [hg]]
    simp only [cond_true, hg, true_and]
    by_cases he : m.fEpoch > q.fEpoch
    · rw [show decide (m.fEpoch > q.fEpoch) = true from by simp [he]]
      simp only [cond_true]
      congr 1
      by_cases h5 : m.fEpoch = q.fEpoch + 1
      · rw [h5, show q.fEpoch + 1 - q.fEpoch = 1 from by omega, wrap_i64 (by omega) (by omega)]; simp
      · simp only [h5, decide_false, beq_eq_false_iff_ne, ne_eq]
        unfold IntKind.wrap; simp [IntKind.bits, IntKind.signed]; omega
    · rw [show decide (m.fEpoch > q.fEpoch) = false from by simp [he]]
      simp only [cond_false]
      congr 1
      simp; omega
  · rw [show (m.fGroup == q.fGroup) = false from by simp [hg]]
    simp [hg]

theorem nth_push {ns : List Nd} {x : Nd} {i : Nat} (h : i < ns.length) : nth (ns ++ [x]) i = nth ns i := by
  unfold nth; simp [List.getD, List.getElem?_append_left h]
theorem nth_last {ns : List Nd} {x : Nd} : nth (ns ++ [x]) ns.length = x := by
  unfold nth; simp [List.getD]
theorem nth_set {ns : List Nd} {x : Nd} {i j : Nat} (h : i < ns.length) : nth (ns.set i x) j = if j = i then x else nth ns j := by
  unfold nth
  by_cases e : j = i
  · subst e; simp [List.getD, h]
  · simp [List.getD, List.getElem?_set_ne (Ne.symm e), e]

/-- A node that is seen first. -/
theorem FInv.push {ids : List (List Int × Int)} {ats : List (Int × Int)} {ns : List Nd} {N : Nat} (h : FInv ids ats ns N) {m : T_forest_Mark} {p who : Int} (hm : MOK m) (hn : lk m.fID ids = none) (hc : Child ns { fMark := m, fparent := p }) :
    FInv (st m.fID (ns.length : Int) ids) (st who (ns.length : Int) ats) (ns ++ [({ fMark := m, fparent := p } : Nd)]) (N + 1) := by
  have hl : (ns ++ [({ fMark := m, fparent := p } : Nd)]).length = ns.length + 1 := by simp
  have child : ∀ x, Child ns x → Child (ns ++ [({ fMark := m, fparent := p } : Nd)]) x := by
    rintro x (hx | ⟨h1, h2, h3, h4⟩)
    · exact .inl hx
    · refine .inr ⟨h1, by rw [hl]; omega, ?_, ?_⟩
      · rw [nth_push (by omega)]; exact h3
      · rw [nth_push (by omega)]; exact h4
  refine ⟨by rw [hl]; have := h.len; omega, fun k i hk => ?_, fun i hi => ?_, fun x hx => ?_, fun i hi => ?_, fun i hi => ?_⟩
  · rw [lk_st] at hk
    split at hk
    · rename_i e; cases hk; subst e
      refine ⟨by omega, by rw [hl]; omega, ?_⟩
      rw [Int.toNat_natCast, nth_last]
    · obtain ⟨h1, h2, h3⟩ := h.id1 k i hk
      exact ⟨h1, by rw [hl]; omega, by rw [nth_push (by omega)]; exact h3⟩
  · rw [lk_st]
    by_cases e : i < ns.length
    · rw [nth_push e]
      have := h.id2 i e
      rw [if_neg]
      · exact this
      · intro e2; rw [e2, hn] at this; cases this
    · have e : i = ns.length := by rw [hl] at hi; omega
      subst e
      rw [nth_last, if_pos rfl]
  · rcases st_mem hx with e | hx
    · rw [e, hl]; omega
    · have := h.at_ x hx
      rw [hl]; omega
  · by_cases e : i < ns.length
    · rw [nth_push e]; exact child _ (h.par i e)
    · have e : i = ns.length := by rw [hl] at hi; omega
      subst e
      rw [nth_last]; exact child _ hc
  · by_cases e : i < ns.length
    · rw [nth_push e]; exact h.ok i e
    · have e : i = ns.length := by rw [hl] at hi; omega
      subst e
      rw [nth_last]; exact hm

/-- A node whose parent is told. -/
theorem FInv.at' {ids : List (List Int × Int)} {ats : List (Int × Int)} {ns : List Nd} {N : Nat} (h : FInv ids ats ns N) {who i : Int} (hi : 0 ≤ i ∧ i < ns.length) : FInv ids (st who i ats) ns N :=
  ⟨h.len, h.id1, h.id2, fun x hx => by
    rcases st_mem hx with e | hx
    · rw [e]; exact hi
    · exact h.at_ x hx, h.par, h.ok⟩
theorem FInv.set {ids : List (List Int × Int)} {ats : List (Int × Int)} {ns : List Nd} {N : Nat} (h : FInv ids ats ns N) {i : Nat} {p : Int} (hi : i < ns.length) (hc : Child ns { nth ns i with fparent := p }) :
    FInv ids ats (ns.set i { nth ns i with fparent := p }) N := by
  have hl : (ns.set i { nth ns i with fparent := p }).length = ns.length := List.length_set ..
  have hmark : ∀ j, (nth (ns.set i { nth ns i with fparent := p }) j).fMark = (nth ns j).fMark := by
    intro j; rw [nth_set hi]; split
    · rename_i e; subst e; rfl
    · rfl
  have child : ∀ x, Child ns x → Child (ns.set i { nth ns i with fparent := p }) x := by
    rintro x (hx | ⟨h1, h2, h3, h4⟩)
    · exact .inl hx
    · exact .inr ⟨h1, by rw [hl]; exact h2, by rw [hmark]; exact h3, by rw [hmark]; exact h4⟩
  refine ⟨by rw [hl]; exact h.len, fun k j hk => ?_, fun j hj => ?_, fun x hx => by rw [hl]; exact h.at_ x hx, fun j hj => ?_, fun j hj => ?_⟩
  · obtain ⟨h1, h2, h3⟩ := h.id1 k j hk
    exact ⟨h1, by rw [hl]; exact h2, by rw [hmark]; exact h3⟩
  · rw [hmark]; exact h.id2 j (by rw [hl] at hj; exact hj)
  · rw [nth_set hi]
    split
    · exact child _ hc
    · exact child _ (h.par j (by rw [hl] at hj; exact hj))
  · rw [hmark]; exact h.ok j (by rw [hl] at hj; exact hj)

theorem room_ok (n : Nat) (x : T_forest_node) (h : n ≤ 100) : ((n : Int) + (List.length [x])) * 208 ≤ 140737488355328 := by
  simp only [List.length_cons, List.length_nil]; omega
/-- What See answers. -/
def SeeOK (ids : List (List Int × Int)) (N : Nat) : ((Int × (List T_forest_node) × (List (Int × Int))) ⊕ ((Int × (List ((List Int) × Int)) × (List (Int × Int)) × (List T_forest_node)) ⊕ Nat)) → Prop
  | .inl (_, ns', ats') => FInv ids ats' ns' (N + 1)
  | .inr (.inl (_, ids', ats', ns')) => FInv ids' ats' ns' (N + 1)
  | .inr (.inr _) => True
theorem see_ok {ids : List (List Int × Int)} {ats : List (Int × Int)} {ns : List Nd} {N : Nat} (h : FInv ids ats ns N) (hN : N ≤ 100) {who : Int} {m : T_forest_Mark} (hm : MOK m) :
    ∃ r, forest_Forest_See_2 who m ns ids ats = some r ∧ SeeOK ids N r := by
  have h1 : FInv ids ats ns (N + 1) := { h with len := by have := h.len; omega }
  -- where somebody is
  obtain ⟨p, hp, hp1⟩ : ∃ p, forest_Forest_At_2 who ns ids ats = some p ∧ (p = -1 ∨ 0 ≤ p ∧ p < ns.length) := by
    unfold forest_Forest_At_2
    cases hl : lk who ats with
    | none => exact ⟨-1, rfl, .inl rfl⟩
    | some i => obtain ⟨j, hj⟩ := lk_mem hl; exact ⟨i, rfl, .inr (h.at_ _ hj)⟩
  unfold forest_Forest_See_2
  rw [hp, Option.bind_some]
  -- the rest, where the mark may follow
  have rest : ∀ (R : (Unit ⊕ (Unit ⊕ Unit)) → Option ((Int × (List T_forest_node) × (List (Int × Int))) ⊕ ((Int × (List ((List Int) × Int)) × (List (Int × Int)) × (List T_forest_node)) ⊕ Nat))),
      ((p = -1 ∨ (0 ≤ p ∧ p < ns.length ∧ m.fGroup = (nth ns p.toNat).fMark.fGroup ∧ m.fEpoch = (nth ns p.toNat).fMark.fEpoch + 1)) → ∃ r, R (.inl ()) = some r ∧ SeeOK ids N r) →
      (∃ r, R (.inr (.inl ())) = some r ∧ SeeOK ids N r) → (∃ r, R (.inr (.inr ())) = some r ∧ SeeOK ids N r) →
      ∃ r, (((cond (!(p == (-1)))
      (if 0 ≤ p ∧ p < ((List.length ns) : Int) then
        cond (T_forest_Mark.same ((List.getD ns (Int.toNat p) T_forest_node.z).fMark) m)
          (some (Sum.inr (Sum.inl ())))
          ((forest_Mark_follows m ((List.getD ns (Int.toNat p) T_forest_node.z).fMark)).bind fun x21 =>
            cond (!x21)
              (some (Sum.inr (Sum.inr ())))
              (some (Sum.inl ())))
      else none)
      (some (Sum.inl ())) : Option ((Unit ⊕ (Unit ⊕ Unit))))).bind R) = some r ∧ SeeOK ids N r := by
    intro R h1 h2 h3
    rcases hp1 with e | ⟨h4, h5⟩
    · subst e; exact h1 (.inl rfl)
    · rw [show (!(p == -1)) = true from by simp; omega, cond_true, if_pos ⟨h4, h5⟩]
      cases hs : T_forest_Mark.same ((List.getD ns (Int.toNat p) T_forest_node.z).fMark) m with
      | true => exact h2
      | false =>
        simp only [cond_false]
        rw [show forest_Mark_follows m (ns.getD p.toNat T_forest_node.z).fMark = _ from follows_eq hm (h.ok p.toNat (by omega))]
        simp only [Option.bind_some]
        by_cases hf : m.fGroup = (nth ns p.toNat).fMark.fGroup ∧ m.fEpoch = (nth ns p.toNat).fMark.fEpoch + 1
        · have : (decide (m.fGroup = (List.getD ns p.toNat T_forest_node.z).fMark.fGroup ∧ m.fEpoch = (List.getD ns p.toNat T_forest_node.z).fMark.fEpoch + 1)) = true := decide_eq_true hf
          rw [this]; exact h1 (.inr ⟨h4, h5, hf⟩)
        · have : (decide (m.fGroup = (List.getD ns p.toNat T_forest_node.z).fMark.fGroup ∧ m.fEpoch = (List.getD ns p.toNat T_forest_node.z).fMark.fEpoch + 1)) = false := decide_eq_false hf
          rw [this]; exact h3
  refine rest _ (fun hf => ?_) ?_ ?_
  · simp only
    cases hl : lk m.fID ids with
    | none =>
      rw [optK_none]
      have hlen := h.len
      rw [if_pos (room_ok ns.length _ (by omega))]
      have hw : IntKind.i64.wrap (((ns ++ [({ fMark := m, fparent := p } : T_forest_node)]).length : Int) - 1) = ns.length := by
        rw [List.length_append, wrap_i64 (by simp only [List.length_cons, List.length_nil]; omega) (by simp only [List.length_cons, List.length_nil]; omega)]; simp only [List.length_cons, List.length_nil]; omega
      have hfin := h.push (who := who) hm hl (p := p) hf
      rw [hw, optK_none]
      cases lk who ats with
      | none => rw [optK_none]; exact ⟨_, rfl, hfin⟩
      | some _ => rw [optK_some]; exact ⟨_, rfl, hfin⟩
    | some i =>
      obtain ⟨g1, g2, g3⟩ := h.id1 _ _ hl
      simp only [optK]
      rw [if_pos ⟨g1, g2⟩]
      -- the ways
      cases hs : T_forest_Mark.same ((List.getD ns (Int.toNat i) T_forest_node.z).fMark) m with
      | false => exact ⟨_, rfl, trivial⟩
      | true =>
        have hmk := (same_iff _ _).1 hs
        have hset : FInv ids (st who i ats) (ns.set i.toNat { nth ns i.toNat with fparent := p }) (N + 1) := by
          refine FInv.set (h1.at' (who := who) ⟨g1, g2⟩) (by omega) ?_
          rcases hf with hf | ⟨h4, h5, h6, h7⟩
          · exact .inl hf
          · refine .inr ⟨h4, h5, ?_, ?_⟩
            · show (nth ns i.toNat).fMark.fGroup = _
              rw [show (nth ns i.toNat).fMark = m from hmk]; exact h6
            · show (nth ns i.toNat).fMark.fEpoch = _
              rw [show (nth ns i.toNat).fMark = m from hmk]; exact h7
        have hkeep := h1.at' (who := who) ⟨g1, g2⟩
        have fin : ∀ R2 : (List T_forest_node) ⊕ Nat → Option ((Int × (List T_forest_node) × (List (Int × Int))) ⊕ ((Int × (List ((List Int) × Int)) × (List (Int × Int)) × (List T_forest_node)) ⊕ Nat)),
            (∃ r, R2 (.inl (List.set ns (Int.toNat i) ({ (List.getD ns (Int.toNat i) T_forest_node.z) with fparent := p }))) = some r ∧ SeeOK ids N r) → (∃ r, R2 (.inl ns) = some r ∧ SeeOK ids N r) →
            ∃ r, ((((cond (((List.getD ns (Int.toNat i) T_forest_node.z).fparent == (-1)))
            (if (List.length ns) ≤ (List.length ns) then some (List.set ns (Int.toNat i) ({ (List.getD ns (Int.toNat i) T_forest_node.z) with fparent := p })) else none)
            (some ns) : Option ((List T_forest_node)))).bind fun x25 => some (Sum.inl x25) : Option ((List T_forest_node) ⊕ Nat)).bind R2) = some r ∧ SeeOK ids N r := by
          intro R2 hA hB
          cases ((List.getD ns (Int.toNat i) T_forest_node.z).fparent == (-1)) with
          | true => simp only [cond_true, if_pos (Nat.le_refl _)]; exact hA
          | false => exact hB
        simp only [Bool.not_true, cond_false]
        cases (!((List.getD ns (Int.toNat i) T_forest_node.z).fparent == (-1))) with
        | false => exact fin _ ⟨_, rfl, hset⟩ ⟨_, rfl, hkeep⟩
        | true =>
          simp only [cond_true]
          cases (!(p == (-1))) with
          | false => exact fin _ ⟨_, rfl, hset⟩ ⟨_, rfl, hkeep⟩
          | true =>
            simp only [cond_true]
            cases (!((List.getD ns (Int.toNat i) T_forest_node.z).fparent == p)) with
            | true => exact ⟨_, rfl, trivial⟩
            | false => exact fin _ ⟨_, rfl, hset⟩ ⟨_, rfl, hkeep⟩
  · exact ⟨_, rfl, h1⟩
  · exact ⟨_, rfl, trivial⟩

def AOK (a : T_fellowshiplaw31_Act) : Prop := MOK a.fMark
def actAt (l : List T_fellowshiplaw31_Act) (i : Nat) : T_fellowshiplaw31_Act := List.getD l i T_fellowshiplaw31_Act.z
/-- All acts are played. -/
theorem plays (l : List T_fellowshiplaw31_Act) (hok : ∀ i, i < l.length → AOK (actAt l i)) (hlen : l.length ≤ 60) : ∀ (d i n : Nat) ids ats ns, i + d = l.length → d < n → FInv ids ats ns i → ∃ ids' ats' ns', fellowshiplaw31_ForestChains_l1 l n (i : Int) ids ats ns = some (ids', ats', ns') ∧ FInv ids' ats' ns' l.length
  | 0, i, n, ids, ats, ns, hd, hn, h => by
    obtain ⟨n, rfl⟩ : ∃ m, n = m + 1 := ⟨n - 1, by omega⟩
    rw [fellowshiplaw31_ForestChains_l1.eq_2, show decide ((i : Int) < (l.length : Int)) = false from by simp; omega]
    exact ⟨_, _, _, rfl, by rw [← hd]; exact h⟩
  | d + 1, i, n, ids, ats, ns, hd, hn, h => by
    obtain ⟨n, rfl⟩ : ∃ m, n = m + 1 := ⟨n - 1, by omega⟩
    rw [fellowshiplaw31_ForestChains_l1.eq_2, show decide ((i : Int) < (l.length : Int)) = true from by simp; omega]
    simp only [cond_true, Int.toNat_natCast]
    rw [if_pos ⟨by omega, by omega⟩, show IntKind.i64.wrap ((i : Int) + 1) = ((i + 1 : Nat) : Int) from by rw [wrap_i64 (by omega) (by omega)]; rfl]
    have hrec := fun ids ats ns h => plays l hok hlen d (i + 1) n ids ats ns (by omega) (by omega) h
    cases (List.getD l i T_fellowshiplaw31_Act.z).fLeaves with
    | true =>
      simp only [cond_true, forest_Forest_Leave_2, Option.bind_some]
      exact hrec ids (dl _ ats) ns ⟨by have := h.len; omega, h.id1, h.id2, fun x hx => h.at_ x (dl_mem hx), h.par, h.ok⟩
    | false =>
      simp only [cond_false]
      obtain ⟨r, hr, hs⟩ := see_ok h (by omega) (who := (List.getD l i T_fellowshiplaw31_Act.z).fWho) (m := (List.getD l i T_fellowshiplaw31_Act.z).fMark) (hok i (by omega))
      rw [hr, Option.bind_some]
      rcases r with ⟨x, ns', ats'⟩ | ⟨x, ids', ats', ns'⟩ | e
      · exact hrec _ _ _ hs
      · exact hrec _ _ _ hs
      · exact hrec ids ats ns { h with len := by have := h.len; omega }

/-- The nodes are looked at. -/
theorem looks {ids : List (List Int × Int)} {ats : List (Int × Int)} {ns : List Nd} {N : Nat} (h : FInv ids ats ns N) (hN : N ≤ 100) : ∀ (d i n : Nat) (seen : List (List Int × Bool)), i + d = ns.length → d < n → (∀ k b, lk k seen = some b → ∃ j, j < i ∧ (nth ns j).fMark.fID = k) → ∃ s, fellowshiplaw31_ForestChains_l2 ids ats ns n (i : Int) seen = some (.inl s)
  | 0, i, n, seen, hd, hn, hs => by
    obtain ⟨n, rfl⟩ : ∃ m, n = m + 1 := ⟨n - 1, by omega⟩
    rw [fellowshiplaw31_ForestChains_l2.eq_2, show decide ((i : Int) < (ns.length : Int)) = false from by simp; omega]
    exact ⟨_, rfl⟩
  | d + 1, i, n, seen, hd, hn, hs => by
    obtain ⟨n, rfl⟩ : ∃ m, n = m + 1 := ⟨n - 1, by omega⟩
    have hlen := h.len
    have hmark : ∀ j : Int, 0 ≤ j → j < ns.length → forest_Forest_Mark j ns ids ats = some (.inl ()) := by
      intro j h1 h2
      simp [forest_Forest_Mark, forest_Forest_has, h1, h2]
    have hpar : ∀ j : Int, 0 ≤ j → j < ns.length → forest_Forest_Parent j ns ids ats = some (nth ns j.toNat).fparent := by
      intro j h1 h2
      simp [forest_Forest_Parent, forest_Forest_has, h1, h2, nth]
    rw [fellowshiplaw31_ForestChains_l2.eq_2, show decide ((i : Int) < (ns.length : Int)) = true from by simp; omega, cond_true, hmark i (by omega) (by omega), Option.bind_some, hpar i (by omega) (by omega)]
    simp only [Int.toNat_natCast, Option.bind_some]
    have hnone : lk (List.getD ns i T_forest_node.z).fMark.fID seen = none := by
      cases hl : lk (List.getD ns i T_forest_node.z).fMark.fID seen with
      | none => rfl
      | some b =>
        obtain ⟨j, hj, e⟩ := hs _ _ hl
        have h1 := h.id2 j (by omega)
        have h2 := h.id2 i (by omega)
        rw [e] at h1
        rw [show (nth ns i).fMark.fID = (List.getD ns i T_forest_node.z).fMark.fID from rfl, h1] at h2
        injection h2 with h2; omega
    rw [hnone]
    simp only [optK]
    have hnext : ∃ s, fellowshiplaw31_ForestChains_l2 ids ats ns n (IntKind.i64.wrap ((i : Int) + 1)) (st (List.getD ns i T_forest_node.z).fMark.fID true seen) = some (.inl s) := by
      rw [show IntKind.i64.wrap ((i : Int) + 1) = ((i + 1 : Nat) : Int) from by rw [wrap_i64 (by omega) (by omega)]; rfl]
      refine looks h hN d (i + 1) n _ (by omega) (by omega) fun k b hk => ?_
      rw [lk_st] at hk
      split at hk
      · rename_i e; exact ⟨i, by omega, e.symm⟩
      · obtain ⟨j, hj, e⟩ := hs k b hk; exact ⟨j, by omega, e⟩
    rcases h.par i (by omega) with hp | ⟨h1, h2, h3, h4⟩
    · rw [hp, show decide ((-1 : Int) ≥ 0) = false from by decide]
      exact hnext
    · rw [show decide ((nth ns i).fparent ≥ 0) = true from by simp; omega, cond_true, hmark _ h1 h2, Option.bind_some]
      have hok := h.ok i (by omega)
      have e1 : ((List.getD ns (nth ns i).fparent.toNat T_forest_node.z).fMark.fGroup == (List.getD ns i T_forest_node.z).fMark.fGroup) = true := by
        simp only [beq_iff_eq]; exact h3.symm
      have e2 : ((List.getD ns (nth ns i).fparent.toNat T_forest_node.z).fMark.fEpoch == IntKind.i64.wrap ((List.getD ns i T_forest_node.z).fMark.fEpoch - 1)) = true := by
        simp only [beq_iff_eq]
        obtain ⟨g1, g2⟩ := h.ok (nth ns i).fparent.toNat (by omega)
        have g3 : (List.getD ns i T_forest_node.z).fMark.fEpoch = (nth ns (nth ns i).fparent.toNat).fMark.fEpoch + 1 := h4
        rw [g3, wrap_i64 (by omega) (by omega)]
        show (nth ns (nth ns i).fparent.toNat).fMark.fEpoch = _
        omega
      simp only [e1, e2, Bool.not_true, cond_false, Option.bind_some]
      exact hnext

theorem alive_true : fellowshiplaw31_alive = some true := by decide +kernel
theorem chains_true (l : List T_fellowshiplaw31_Act) (hok : ∀ i, i < l.length → AOK (actAt l i)) : fellowshiplaw31_ForestChains l = some true := by
  unfold fellowshiplaw31_ForestChains
  rw [alive_true]
  simp only [Option.bind_some, Bool.not_true, cond_false]
  by_cases h : (l.length : Int) > 60
  · rw [decide_eq_true h]; rfl
  · rw [decide_eq_false h]
    simp only [cond_false, forest_New, Option.bind_some]
    obtain ⟨ids, ats, ns, h1, h2⟩ := plays l hok (by omega) l.length 0 FUEL [] [] [] (by omega) (by unfold FUEL; omega) ⟨by simp, fun k i h => by simp [lk] at h, fun i h => by simp at h, fun x h => by simp at h, fun i h => by simp at h, fun i h => by simp at h⟩
    rw [show ((0 : Nat) : Int) = 0 from rfl] at h1
    rw [h1]
    simp only [Option.bind_some, forest_Forest_Len]
    obtain ⟨s, hs⟩ := looks h2 (by omega) ns.length 0 FUEL [] (by omega) (by have := h2.len; unfold FUEL; omega) (fun k b h => by simp [lk] at h)
    rw [show ((0 : Nat) : Int) = 0 from rfl] at hs
    rw [hs]
    rfl
theorem forestChains_true {N : Nat} (l : List T_fellowshiplaw31_Act) (h : okR N (T_fellowshiplaw31_Act.ok N) l) : fellowshiplaw31_ForestChains l = some true :=
  chains_true l fun i hi => by
    have := getD_ok T_fellowshiplaw31_Act.z h.2 hi
    exact this.2.1.2.1
end Go.Eng
