/-
  What See does.
-/
import Derived.Test.YtaolikaifggkgaaDoorFn
namespace Go.Eng
open Go.Proofs

/- ## Plain facts -/
def Mk.same (m q : Mk) : Bool := m.g == q.g && (m.e == q.e && (m.i == q.i && (m.a == q.a && (m.s == q.s && (m.p == q.p && (m.t == q.t && true))))))
def nth (ns : List (Mk × Int)) (i : Nat) : Mk × Int := ns.getD i (Mk.zero, 0)
def gate (ns : List (Mk × Int)) (p : Int) (m : Mk) : Nat :=
  if p = -1 then 0 else if (nth ns p.toNat).1.same m then 1 else if m.follows (nth ns p.toNat).1 then 0 else 2
def st {α : Type} [BEq α] (k : α) (v : Int) : List (α × Int) → List (α × Int)
  | [] => [(k, v)]
  | x :: r => match k == x.1 with
    | true => (k, v) :: r
    | false => x :: st k v r
theorem aset_at_eq (k v : Int) : ∀ es : List (Int × Int), aset (.sc (.int .i64 k)) (.sc (.int .i64 v)) (atD es) = atD (st k v es)
  | [] => rfl
  | x :: r => by
    show (match k == x.1 with | true => _ | false => _) = _
    unfold st
    cases k == x.1
    · exact congrArg (List.cons _) (aset_at_eq k v r)
    · rfl
theorem aset_id_eq (k : List Int) (v : Int) : ∀ es : List (List Int × Int), aset (.ints .u8 32 k) (.sc (.int .i64 v)) (idD es) = idD (st k v es)
  | [] => rfl
  | x :: r => by
    show (match k == x.1 with | true => _ | false => _) = _
    unfold st
    cases k == x.1
    · exact congrArg (List.cons _) (aset_id_eq k v r)
    · rfl
theorem st_st {α : Type} [BEq α] [LawfulBEq α] (k : α) (v u : Int) : ∀ es : List (α × Int), st k v (st k u es) = st k v es
  | [] => by simp [st]
  | x :: r => by
    cases h : k == x.1 with
    | true => simp [st, h]
    | false => simp [st, h, st_st k v u r]
theorem alook_id (k : List Int) : ∀ es : List (List Int × Int), alook (.ints .u8 32 k) (idD es) = (lk k es).map fun v => .sc (.int .i64 v)
  | [] => rfl
  | x :: r => by
    show (match k == x.1 with | true => _ | false => _) = _
    unfold lk
    cases k == x.1
    · exact alook_id k r
    · rfl
theorem lki_some {ids : List (List Int × Int)} {k : List Int} {v : DV} (hv : alook (.ints .u8 32 k) (idD ids) = some v) : ∃ i, lk k ids = some i ∧ v = .sc (.int .i64 i) := by
  rw [alook_id] at hv
  cases h : lk k ids with
  | none => rw [h] at hv; cases hv
  | some i => rw [h] at hv; cases hv; exact ⟨i, rfl, rfl⟩
theorem lki_none {ids : List (List Int × Int)} {k : List Int} (hv : alook (.ints .u8 32 k) (idD ids) = none) : lk k ids = none := by
  rw [alook_id] at hv
  cases h : lk k ids with
  | none => rfl
  | some i => rw [h] at hv; cases hv
theorem rowf_set (ns : List (Mk × Int)) (i : Nat) (p : Int) (hi : i < ns.length) :
    (fun j => if j = 0 + (i : Int).toNat then DV.cons (nth ns (0 + (i : Int).toNat)).1.dv (.cons (.sc (.int .i64 p)) .nil) else rowf ns j) = rowf (ns.set i ((nth ns i).1, p)) := by
  funext j
  simp only [Nat.zero_add, Int.toNat_natCast]
  unfold rowf
  by_cases h : j = i
  · subst h
    rw [if_pos rfl]
    simp [nodeD, List.getD, hi]
  · rw [if_neg h]
    simp [List.getD, List.getElem?_set, Ne.symm h]
theorem rowf_push (ns : List (Mk × Int)) (x : Mk × Int) :
    (fun j => if j < ns.length then rowf ns (0 + j) else putParts (fun _ => zr68) [(0, nodeD x)] (0 + (j - ns.length))) = rowf (ns ++ [x]) := by
  funext j
  simp only [Nat.zero_add]
  unfold rowf
  by_cases h : j < ns.length
  · rw [if_pos h]
    simp [List.getD, List.getElem?_append_left h]
  · rw [if_neg h]
    by_cases h2 : j = ns.length
    · subst h2
      simp [putParts, List.getD]
    · have h3 : j - ns.length = (j - ns.length - 1) + 1 := by omega
      rw [h3]
      simp only [putParts, Nat.beq]
      rw [List.getD_eq_getElem?_getD, List.getElem?_eq_none (by simp; omega)]
      rfl
theorem wrap_i64 {n : Int} (h1 : -9223372036854775808 ≤ n) (h2 : n ≤ 9223372036854775807) : IntKind.i64.wrap n = n := by
  unfold IntKind.wrap; simp [IntKind.bits, IntKind.signed]; omega
theorem gate0_follows {ns : List (Mk × Int)} {p : Int} {m : Mk} (hg : gate ns p m = 0) (h : (!p == -1) = true) : (nth ns p.toNat).1.same m = false ∧ m.follows (nth ns p.toNat).1 = true := by
  unfold gate at hg
  have : p ≠ -1 := by simpa using h
  rw [if_neg this] at hg
  cases h1 : (nth ns p.toNat).1.same m
  · rw [h1] at hg
    cases h2 : m.follows (nth ns p.toNat).1
    · rw [h2] at hg; cases hg
    · exact ⟨rfl, rfl⟩
  · rw [h1] at hg; cases hg

set_option maxRecDepth 10000
set_option maxHeartbeats 1000000
section
variable (e0 e1 e2 : ErrV) (e3 : Option ErrV)
theorem seeA_fn (b e c d : Nat) (hn : [b, e, c, d].Nodup) (ns : List (Mk × Int)) (ids : List (List Int × Int)) (ats : List (Int × Int)) (who : Int) (m : Mk) (p : Int) (hp : (lk who ats).getD (-1) = p) (hp1 : p = -1 ∨ 0 ≤ p ∧ p < ns.length) (hg : gate ns p m = 1) :
    Fn Tryd.prog (GE e0 e1 e2 e3) 10 [.ptr b [] ly66, .int .i64 who, .dv m.dv] (S4 b e c d ns ids ats) (.tup [.int .i64 p, .dv (.sc .nilIface)]) [(b, .var (foV e ns.length c d)), (e, .row ly68 ns.length (rowf (ns))), (c, .mp KH (idD ids)), (d, .mp KI (atD (ats)))] := by
  refine Fn.bodyN (fn := Tryd.f10) (c := _) tabOK mixed (GE_plain e0 e1 e2 e3) rfl rfl rfl [(0, b), (1, e), (2, c), (3, d)] [.ptr 0 [] ly66, .int .i64 who, .dv m.dv] ((S4 0 1 2 3 ns ids ats).map Prod.snd) [] (.tup [.int .i64 p, .dv (.sc .nilIface)]) [.var (foV 1 ns.length 2 3), .row ly68 ns.length (rowf (ns)), .mp KH (idD ids), .mp KI (atD (ats))] rfl rfl hn ?_
  refine ⟨[], _, _, _, ⟨at_fn e0 e1 e2 e3 0 1 2 3 (by decide) ns ids ats who (p : Int) hp.symm, ⟨⟨rfl, rfl⟩, ⟨rfl, rfl⟩, ⟨rfl, rfl⟩, ⟨rfl, rfl⟩, trivial⟩, rfl⟩, ?_⟩
  have hq : p ≠ -1 ∧ (nth ns p.toNat).1.same m = true := by
    unfold gate at hg
    by_cases h1 : p = -1
    · rw [if_pos h1] at hg; cases hg
    · rw [if_neg h1] at hg
      refine ⟨h1, ?_⟩
      cases h2 : (nth ns p.toNat).1.same m
      · rw [h2] at hg
        cases h3 : m.follows (nth ns p.toNat).1 <;> rw [h3] at hg <;> cases hg
      · rfl
  refine And.intro (fun h => And.intro ?_ (And.intro (fun h2 => ?_) (fun h2 => ?_))) (fun h => ?_)
  · exact ⟨by omega, by show p < ns.length; omega⟩
  · exact ⟨rfl, rfl, rfl, rfl, rfl, trivial⟩
  · exfalso
    have h2 : (nth ns (0 + p.toNat)).1.same m = false := h2
    rw [Nat.zero_add, hq.2] at h2; cases h2
  · exfalso
    have h : (!p == -1) = false := h
    exact hq.1 (by simpa using h)

theorem seeB_fn (b e c d : Nat) (hn : [b, e, c, d].Nodup) (ns : List (Mk × Int)) (ids : List (List Int × Int)) (ats : List (Int × Int)) (who : Int) (m : Mk) (p : Int) (hp : (lk who ats).getD (-1) = p) (hp1 : p = -1 ∨ 0 ≤ p ∧ p < ns.length) (hg : gate ns p m = 2) :
    Fn Tryd.prog (GE e0 e1 e2 e3) 10 [.ptr b [] ly66, .int .i64 who, .dv m.dv] (S4 b e c d ns ids ats) (.tup [.int .i64 (-1), errA e0]) [(b, .var (foV e ns.length c d)), (e, .row ly68 ns.length (rowf (ns))), (c, .mp KH (idD ids)), (d, .mp KI (atD (ats)))] := by
  refine Fn.bodyN (fn := Tryd.f10) (c := _) tabOK mixed (GE_plain e0 e1 e2 e3) rfl rfl rfl [(0, b), (1, e), (2, c), (3, d)] [.ptr 0 [] ly66, .int .i64 who, .dv m.dv] ((S4 0 1 2 3 ns ids ats).map Prod.snd) [] (.tup [.int .i64 (-1), errA e0]) [.var (foV 1 ns.length 2 3), .row ly68 ns.length (rowf (ns)), .mp KH (idD ids), .mp KI (atD (ats))] rfl rfl hn ?_
  refine ⟨[], _, _, _, ⟨at_fn e0 e1 e2 e3 0 1 2 3 (by decide) ns ids ats who (p : Int) hp.symm, ⟨⟨rfl, rfl⟩, ⟨rfl, rfl⟩, ⟨rfl, rfl⟩, ⟨rfl, rfl⟩, trivial⟩, rfl⟩, ?_⟩
  have hq : p ≠ -1 ∧ (nth ns p.toNat).1.same m = false ∧ m.follows (nth ns p.toNat).1 = false := by
    unfold gate at hg
    by_cases h1 : p = -1
    · rw [if_pos h1] at hg; cases hg
    · rw [if_neg h1] at hg
      refine ⟨h1, ?_⟩
      cases h2 : (nth ns p.toNat).1.same m
      · rw [h2] at hg
        cases h3 : m.follows (nth ns p.toNat).1
        · exact ⟨rfl, rfl⟩
        · rw [h3] at hg; cases hg
      · rw [h2] at hg; cases hg
  refine And.intro (fun h => And.intro ?_ (And.intro (fun h2 => ?_) (fun h2 => ?_))) (fun h => ?_)
  · exact ⟨by omega, by show p < ns.length; omega⟩
  · exfalso
    have h2 : (nth ns (0 + p.toNat)).1.same m = true := h2
    rw [Nat.zero_add, hq.2.1] at h2; cases h2
  · refine ⟨[], _, _, _, ⟨follows_fn e0 e1 e2 e3 _ _, trivial, rfl⟩, ?_⟩
    refine And.intro (fun h3 => ?_) (fun h3 => ?_)
    · exact ⟨rfl, rfl, rfl, rfl, rfl, trivial⟩
    · exfalso
      have h3 : (!m.follows (nth ns (0 + p.toNat)).1) = false := h3
      rw [Nat.zero_add, hq.2.2] at h3; cases h3
  · exfalso
    have h : (!p == -1) = false := h
    exact hq.1 (by simpa using h)

theorem seeC1_fn (b e c d : Nat) (hn : [b, e, c, d].Nodup) (ns : List (Mk × Int)) (ids : List (List Int × Int)) (ats : List (Int × Int)) (who : Int) (m : Mk) (p : Int) (hp : (lk who ats).getD (-1) = p) (hp1 : p = -1 ∨ 0 ≤ p ∧ p < ns.length) (hg : gate ns p m = 0) (i : Nat) (hi : lk m.i ids = some (i : Int)) (hin : i < ns.length) (hx : (nth ns i).1.same m = false) :
    Fn Tryd.prog (GE e0 e1 e2 e3) 10 [.ptr b [] ly66, .int .i64 who, .dv m.dv] (S4 b e c d ns ids ats) (.tup [.int .i64 (-1), errA e1]) [(b, .var (foV e ns.length c d)), (e, .row ly68 ns.length (rowf (ns))), (c, .mp KH (idD ids)), (d, .mp KI (atD (ats)))] := by
  refine Fn.bodyN (fn := Tryd.f10) (c := _) tabOK mixed (GE_plain e0 e1 e2 e3) rfl rfl rfl [(0, b), (1, e), (2, c), (3, d)] [.ptr 0 [] ly66, .int .i64 who, .dv m.dv] ((S4 0 1 2 3 ns ids ats).map Prod.snd) [] (.tup [.int .i64 (-1), errA e1]) [.var (foV 1 ns.length 2 3), .row ly68 ns.length (rowf (ns)), .mp KH (idD ids), .mp KI (atD (ats))] rfl rfl hn ?_
  refine ⟨[], _, _, _, ⟨at_fn e0 e1 e2 e3 0 1 2 3 (by decide) ns ids ats who (p : Int) hp.symm, ⟨⟨rfl, rfl⟩, ⟨rfl, rfl⟩, ⟨rfl, rfl⟩, ⟨rfl, rfl⟩, trivial⟩, rfl⟩, ?_⟩
  refine And.intro (fun h => And.intro ?_ (And.intro (fun h2 => ?_) (fun h2 => ?_))) (fun h => And.intro (fun v hv => ?_) (fun hv => ?_))
  · have h : (!p == -1) = true := h
    have : p ≠ -1 := by simpa using h
    exact ⟨by omega, by show p < ns.length; omega⟩
  · exfalso
    have h2 : (nth ns (0 + p.toNat)).1.same m = true := h2
    rw [Nat.zero_add, (gate0_follows hg h).1] at h2; cases h2
  · refine ⟨[], _, _, _, ⟨follows_fn e0 e1 e2 e3 _ _, trivial, rfl⟩, ?_⟩
    refine And.intro (fun h3 => ?_) (fun h3 => And.intro (fun v hv => ?_) (fun hv => ?_))
    · exfalso
      have h3 : (!m.follows (nth ns (0 + p.toNat)).1) = true := h3
      rw [Nat.zero_add, (gate0_follows hg h).2] at h3; cases h3
    · 
      obtain ⟨i', hi', rfl⟩ := lki_some hv
      obtain rfl : (i : Int) = i' := by rw [hi] at hi'; exact Option.some.inj hi'
      refine And.intro ⟨by omega, by show (i : Int) < ns.length; omega⟩ ?_
      refine And.intro (fun h5 => ?_) (fun h5 => ?_)
      · have h5 : (nth ns i).1.same m = false := by
          have h6 : (!(nth ns (0 + (i : Int).toNat)).1.same m) = true := h5
          rw [Nat.zero_add, Int.toNat_natCast] at h6
          simpa using h6
        exact ⟨rfl, rfl, rfl, rfl, rfl, trivial⟩
      · have h5 : (nth ns i).1.same m = true := by
          have h6 : (!(nth ns (0 + (i : Int).toNat)).1.same m) = false := h5
          rw [Nat.zero_add, Int.toNat_natCast] at h6
          simpa using h6
        have ez : 0 + (i : Int).toNat = i := by omega
        refine And.intro (fun h6 => ?_) (fun h6 => ?_)
        · have h6 : (!(nth ns i).2 == -1) = true := ez ▸ h6
          refine And.intro (fun h7 => ?_) (fun h7 => ?_)
          · have h7 : (!p == -1) = true := h7
            refine And.intro (fun h8 => ?_) (fun h8 => ?_)
            · have h8 : (!(nth ns i).2 == p) = true := ez ▸ h8
              exfalso; rw [hx] at h5; cases h5
            · have h8 : (!(nth ns i).2 == p) = false := ez ▸ h8
              refine And.intro (fun h9 => ?_) (fun h9 => ?_)
              · exfalso
                have h9 : ((nth ns i).2 == -1) = true := ez ▸ h9
                rw [h9] at h6; cases h6
              · have h9 : ((nth ns i).2 == -1) = false := ez ▸ h9
                exfalso; rw [hx] at h5; cases h5
          · have h7 : (!p == -1) = false := h7
            refine And.intro (fun h9 => ?_) (fun h9 => ?_)
            · exfalso
              have h9 : ((nth ns i).2 == -1) = true := ez ▸ h9
              rw [h9] at h6; cases h6
            · have h9 : ((nth ns i).2 == -1) = false := ez ▸ h9
              exfalso; rw [hx] at h5; cases h5
        · have h6 : (!(nth ns i).2 == -1) = false := ez ▸ h6
          refine And.intro (fun h9 => ?_) (fun h9 => ?_)
          · have h9 : ((nth ns i).2 == -1) = true := ez ▸ h9
            exfalso; rw [hx] at h5; cases h5
          · exfalso
            have h9 : ((nth ns i).2 == -1) = false := ez ▸ h9
            rw [h9] at h6; cases h6
    · have := lki_none hv
      rw [hi] at this; cases this
  · 
    obtain ⟨i', hi', rfl⟩ := lki_some hv
    obtain rfl : (i : Int) = i' := by rw [hi] at hi'; exact Option.some.inj hi'
    refine And.intro ⟨by omega, by show (i : Int) < ns.length; omega⟩ ?_
    refine And.intro (fun h5 => ?_) (fun h5 => ?_)
    · have h5 : (nth ns i).1.same m = false := by
        have h6 : (!(nth ns (0 + (i : Int).toNat)).1.same m) = true := h5
        rw [Nat.zero_add, Int.toNat_natCast] at h6
        simpa using h6
      exact ⟨rfl, rfl, rfl, rfl, rfl, trivial⟩
    · have h5 : (nth ns i).1.same m = true := by
        have h6 : (!(nth ns (0 + (i : Int).toNat)).1.same m) = false := h5
        rw [Nat.zero_add, Int.toNat_natCast] at h6
        simpa using h6
      have ez : 0 + (i : Int).toNat = i := by omega
      refine And.intro (fun h6 => ?_) (fun h6 => ?_)
      · have h6 : (!(nth ns i).2 == -1) = true := ez ▸ h6
        refine And.intro (fun h7 => ?_) (fun h7 => ?_)
        · have h7 : (!p == -1) = true := h7
          refine And.intro (fun h8 => ?_) (fun h8 => ?_)
          · have h8 : (!(nth ns i).2 == p) = true := ez ▸ h8
            exfalso; rw [hx] at h5; cases h5
          · have h8 : (!(nth ns i).2 == p) = false := ez ▸ h8
            refine And.intro (fun h9 => ?_) (fun h9 => ?_)
            · exfalso
              have h9 : ((nth ns i).2 == -1) = true := ez ▸ h9
              rw [h9] at h6; cases h6
            · have h9 : ((nth ns i).2 == -1) = false := ez ▸ h9
              exfalso; rw [hx] at h5; cases h5
        · have h7 : (!p == -1) = false := h7
          refine And.intro (fun h9 => ?_) (fun h9 => ?_)
          · exfalso
            have h9 : ((nth ns i).2 == -1) = true := ez ▸ h9
            rw [h9] at h6; cases h6
          · have h9 : ((nth ns i).2 == -1) = false := ez ▸ h9
            exfalso; rw [hx] at h5; cases h5
      · have h6 : (!(nth ns i).2 == -1) = false := ez ▸ h6
        refine And.intro (fun h9 => ?_) (fun h9 => ?_)
        · have h9 : ((nth ns i).2 == -1) = true := ez ▸ h9
          exfalso; rw [hx] at h5; cases h5
        · exfalso
          have h9 : ((nth ns i).2 == -1) = false := ez ▸ h9
          rw [h9] at h6; cases h6
  · have := lki_none hv
    rw [hi] at this; cases this

theorem seeC2_fn (b e c d : Nat) (hn : [b, e, c, d].Nodup) (ns : List (Mk × Int)) (ids : List (List Int × Int)) (ats : List (Int × Int)) (who : Int) (m : Mk) (p : Int) (hp : (lk who ats).getD (-1) = p) (hp1 : p = -1 ∨ 0 ≤ p ∧ p < ns.length) (hg : gate ns p m = 0) (i : Nat) (hi : lk m.i ids = some (i : Int)) (hin : i < ns.length) (hx : (nth ns i).1.same m = true ∧ (nth ns i).2 ≠ -1 ∧ p ≠ -1 ∧ (nth ns i).2 ≠ p) :
    Fn Tryd.prog (GE e0 e1 e2 e3) 10 [.ptr b [] ly66, .int .i64 who, .dv m.dv] (S4 b e c d ns ids ats) (.tup [.int .i64 (-1), errA e2]) [(b, .var (foV e ns.length c d)), (e, .row ly68 ns.length (rowf (ns))), (c, .mp KH (idD ids)), (d, .mp KI (atD (ats)))] := by
  refine Fn.bodyN (fn := Tryd.f10) (c := _) tabOK mixed (GE_plain e0 e1 e2 e3) rfl rfl rfl [(0, b), (1, e), (2, c), (3, d)] [.ptr 0 [] ly66, .int .i64 who, .dv m.dv] ((S4 0 1 2 3 ns ids ats).map Prod.snd) [] (.tup [.int .i64 (-1), errA e2]) [.var (foV 1 ns.length 2 3), .row ly68 ns.length (rowf (ns)), .mp KH (idD ids), .mp KI (atD (ats))] rfl rfl hn ?_
  refine ⟨[], _, _, _, ⟨at_fn e0 e1 e2 e3 0 1 2 3 (by decide) ns ids ats who (p : Int) hp.symm, ⟨⟨rfl, rfl⟩, ⟨rfl, rfl⟩, ⟨rfl, rfl⟩, ⟨rfl, rfl⟩, trivial⟩, rfl⟩, ?_⟩
  refine And.intro (fun h => And.intro ?_ (And.intro (fun h2 => ?_) (fun h2 => ?_))) (fun h => And.intro (fun v hv => ?_) (fun hv => ?_))
  · have h : (!p == -1) = true := h
    have : p ≠ -1 := by simpa using h
    exact ⟨by omega, by show p < ns.length; omega⟩
  · exfalso
    have h2 : (nth ns (0 + p.toNat)).1.same m = true := h2
    rw [Nat.zero_add, (gate0_follows hg h).1] at h2; cases h2
  · refine ⟨[], _, _, _, ⟨follows_fn e0 e1 e2 e3 _ _, trivial, rfl⟩, ?_⟩
    refine And.intro (fun h3 => ?_) (fun h3 => And.intro (fun v hv => ?_) (fun hv => ?_))
    · exfalso
      have h3 : (!m.follows (nth ns (0 + p.toNat)).1) = true := h3
      rw [Nat.zero_add, (gate0_follows hg h).2] at h3; cases h3
    · 
      obtain ⟨i', hi', rfl⟩ := lki_some hv
      obtain rfl : (i : Int) = i' := by rw [hi] at hi'; exact Option.some.inj hi'
      refine And.intro ⟨by omega, by show (i : Int) < ns.length; omega⟩ ?_
      refine And.intro (fun h5 => ?_) (fun h5 => ?_)
      · have h5 : (nth ns i).1.same m = false := by
          have h6 : (!(nth ns (0 + (i : Int).toNat)).1.same m) = true := h5
          rw [Nat.zero_add, Int.toNat_natCast] at h6
          simpa using h6
        exfalso; rw [hx.1] at h5; cases h5
      · have h5 : (nth ns i).1.same m = true := by
          have h6 : (!(nth ns (0 + (i : Int).toNat)).1.same m) = false := h5
          rw [Nat.zero_add, Int.toNat_natCast] at h6
          simpa using h6
        have ez : 0 + (i : Int).toNat = i := by omega
        refine And.intro (fun h6 => ?_) (fun h6 => ?_)
        · have h6 : (!(nth ns i).2 == -1) = true := ez ▸ h6
          refine And.intro (fun h7 => ?_) (fun h7 => ?_)
          · have h7 : (!p == -1) = true := h7
            refine And.intro (fun h8 => ?_) (fun h8 => ?_)
            · have h8 : (!(nth ns i).2 == p) = true := ez ▸ h8
              exact ⟨rfl, rfl, rfl, rfl, rfl, trivial⟩
            · have h8 : (!(nth ns i).2 == p) = false := ez ▸ h8
              refine And.intro (fun h9 => ?_) (fun h9 => ?_)
              · exfalso
                have h9 : ((nth ns i).2 == -1) = true := ez ▸ h9
                rw [h9] at h6; cases h6
              · have h9 : ((nth ns i).2 == -1) = false := ez ▸ h9
                exfalso
                obtain ⟨_, x1, x2, x3⟩ := hx
                first | (simp at h8; exact x3 h8) | (simp at h7; exact x2 h7)
          · have h7 : (!p == -1) = false := h7
            refine And.intro (fun h9 => ?_) (fun h9 => ?_)
            · exfalso
              have h9 : ((nth ns i).2 == -1) = true := ez ▸ h9
              rw [h9] at h6; cases h6
            · have h9 : ((nth ns i).2 == -1) = false := ez ▸ h9
              exfalso
              obtain ⟨_, x1, x2, x3⟩ := hx
              first | (simp at h8; exact x3 h8) | (simp at h7; exact x2 h7)
        · have h6 : (!(nth ns i).2 == -1) = false := ez ▸ h6
          refine And.intro (fun h9 => ?_) (fun h9 => ?_)
          · have h9 : ((nth ns i).2 == -1) = true := ez ▸ h9
            exfalso
            obtain ⟨_, x1, x2, x3⟩ := hx
            simp at h6; exact x1 h6
          · exfalso
            have h9 : ((nth ns i).2 == -1) = false := ez ▸ h9
            rw [h9] at h6; cases h6
    · have := lki_none hv
      rw [hi] at this; cases this
  · 
    obtain ⟨i', hi', rfl⟩ := lki_some hv
    obtain rfl : (i : Int) = i' := by rw [hi] at hi'; exact Option.some.inj hi'
    refine And.intro ⟨by omega, by show (i : Int) < ns.length; omega⟩ ?_
    refine And.intro (fun h5 => ?_) (fun h5 => ?_)
    · have h5 : (nth ns i).1.same m = false := by
        have h6 : (!(nth ns (0 + (i : Int).toNat)).1.same m) = true := h5
        rw [Nat.zero_add, Int.toNat_natCast] at h6
        simpa using h6
      exfalso; rw [hx.1] at h5; cases h5
    · have h5 : (nth ns i).1.same m = true := by
        have h6 : (!(nth ns (0 + (i : Int).toNat)).1.same m) = false := h5
        rw [Nat.zero_add, Int.toNat_natCast] at h6
        simpa using h6
      have ez : 0 + (i : Int).toNat = i := by omega
      refine And.intro (fun h6 => ?_) (fun h6 => ?_)
      · have h6 : (!(nth ns i).2 == -1) = true := ez ▸ h6
        refine And.intro (fun h7 => ?_) (fun h7 => ?_)
        · have h7 : (!p == -1) = true := h7
          refine And.intro (fun h8 => ?_) (fun h8 => ?_)
          · have h8 : (!(nth ns i).2 == p) = true := ez ▸ h8
            exact ⟨rfl, rfl, rfl, rfl, rfl, trivial⟩
          · have h8 : (!(nth ns i).2 == p) = false := ez ▸ h8
            refine And.intro (fun h9 => ?_) (fun h9 => ?_)
            · exfalso
              have h9 : ((nth ns i).2 == -1) = true := ez ▸ h9
              rw [h9] at h6; cases h6
            · have h9 : ((nth ns i).2 == -1) = false := ez ▸ h9
              exfalso
              obtain ⟨_, x1, x2, x3⟩ := hx
              first | (simp at h8; exact x3 h8) | (simp at h7; exact x2 h7)
        · have h7 : (!p == -1) = false := h7
          refine And.intro (fun h9 => ?_) (fun h9 => ?_)
          · exfalso
            have h9 : ((nth ns i).2 == -1) = true := ez ▸ h9
            rw [h9] at h6; cases h6
          · have h9 : ((nth ns i).2 == -1) = false := ez ▸ h9
            exfalso
            obtain ⟨_, x1, x2, x3⟩ := hx
            first | (simp at h8; exact x3 h8) | (simp at h7; exact x2 h7)
      · have h6 : (!(nth ns i).2 == -1) = false := ez ▸ h6
        refine And.intro (fun h9 => ?_) (fun h9 => ?_)
        · have h9 : ((nth ns i).2 == -1) = true := ez ▸ h9
          exfalso
          obtain ⟨_, x1, x2, x3⟩ := hx
          simp at h6; exact x1 h6
        · exfalso
          have h9 : ((nth ns i).2 == -1) = false := ez ▸ h9
          rw [h9] at h6; cases h6
  · have := lki_none hv
    rw [hi] at this; cases this

theorem seeC3_fn (b e c d : Nat) (hn : [b, e, c, d].Nodup) (ns : List (Mk × Int)) (ids : List (List Int × Int)) (ats : List (Int × Int)) (who : Int) (m : Mk) (p : Int) (hp : (lk who ats).getD (-1) = p) (hp1 : p = -1 ∨ 0 ≤ p ∧ p < ns.length) (hg : gate ns p m = 0) (i : Nat) (hi : lk m.i ids = some (i : Int)) (hin : i < ns.length) (hx : (nth ns i).1.same m = true ∧ (nth ns i).2 ≠ -1 ∧ (p = -1 ∨ (nth ns i).2 = p)) :
    Fn Tryd.prog (GE e0 e1 e2 e3) 10 [.ptr b [] ly66, .int .i64 who, .dv m.dv] (S4 b e c d ns ids ats) (.tup [.int .i64 i, .dv (.sc .nilIface)]) [(b, .var (foV e ns.length c d)), (e, .row ly68 ns.length (rowf (ns))), (c, .mp KH (idD ids)), (d, .mp KI (atD (st who i ats)))] := by
  refine Fn.bodyN (fn := Tryd.f10) (c := _) tabOK mixed (GE_plain e0 e1 e2 e3) rfl rfl rfl [(0, b), (1, e), (2, c), (3, d)] [.ptr 0 [] ly66, .int .i64 who, .dv m.dv] ((S4 0 1 2 3 ns ids ats).map Prod.snd) [] (.tup [.int .i64 i, .dv (.sc .nilIface)]) [.var (foV 1 ns.length 2 3), .row ly68 ns.length (rowf (ns)), .mp KH (idD ids), .mp KI (atD (st who i ats))] rfl rfl hn ?_
  refine ⟨[], _, _, _, ⟨at_fn e0 e1 e2 e3 0 1 2 3 (by decide) ns ids ats who (p : Int) hp.symm, ⟨⟨rfl, rfl⟩, ⟨rfl, rfl⟩, ⟨rfl, rfl⟩, ⟨rfl, rfl⟩, trivial⟩, rfl⟩, ?_⟩
  refine And.intro (fun h => And.intro ?_ (And.intro (fun h2 => ?_) (fun h2 => ?_))) (fun h => And.intro (fun v hv => ?_) (fun hv => ?_))
  · have h : (!p == -1) = true := h
    have : p ≠ -1 := by simpa using h
    exact ⟨by omega, by show p < ns.length; omega⟩
  · exfalso
    have h2 : (nth ns (0 + p.toNat)).1.same m = true := h2
    rw [Nat.zero_add, (gate0_follows hg h).1] at h2; cases h2
  · refine ⟨[], _, _, _, ⟨follows_fn e0 e1 e2 e3 _ _, trivial, rfl⟩, ?_⟩
    refine And.intro (fun h3 => ?_) (fun h3 => And.intro (fun v hv => ?_) (fun hv => ?_))
    · exfalso
      have h3 : (!m.follows (nth ns (0 + p.toNat)).1) = true := h3
      rw [Nat.zero_add, (gate0_follows hg h).2] at h3; cases h3
    · 
      obtain ⟨i', hi', rfl⟩ := lki_some hv
      obtain rfl : (i : Int) = i' := by rw [hi] at hi'; exact Option.some.inj hi'
      refine And.intro ⟨by omega, by show (i : Int) < ns.length; omega⟩ ?_
      refine And.intro (fun h5 => ?_) (fun h5 => ?_)
      · have h5 : (nth ns i).1.same m = false := by
          have h6 : (!(nth ns (0 + (i : Int).toNat)).1.same m) = true := h5
          rw [Nat.zero_add, Int.toNat_natCast] at h6
          simpa using h6
        exfalso; rw [hx.1] at h5; cases h5
      · have h5 : (nth ns i).1.same m = true := by
          have h6 : (!(nth ns (0 + (i : Int).toNat)).1.same m) = false := h5
          rw [Nat.zero_add, Int.toNat_natCast] at h6
          simpa using h6
        have ez : 0 + (i : Int).toNat = i := by omega
        refine And.intro (fun h6 => ?_) (fun h6 => ?_)
        · have h6 : (!(nth ns i).2 == -1) = true := ez ▸ h6
          refine And.intro (fun h7 => ?_) (fun h7 => ?_)
          · have h7 : (!p == -1) = true := h7
            refine And.intro (fun h8 => ?_) (fun h8 => ?_)
            · have h8 : (!(nth ns i).2 == p) = true := ez ▸ h8
              exfalso
              obtain ⟨_, x1, x2 | x2⟩ := hx
              · simp at h7; exact h7 x2
              · simp at h8; exact h8 x2
            · have h8 : (!(nth ns i).2 == p) = false := ez ▸ h8
              refine And.intro (fun h9 => ?_) (fun h9 => ?_)
              · exfalso
                have h9 : ((nth ns i).2 == -1) = true := ez ▸ h9
                rw [h9] at h6; cases h6
              · have h9 : ((nth ns i).2 == -1) = false := ez ▸ h9
                refine ⟨rfl, rfl, rfl, rfl, ?_, trivial⟩
                exact congrArg (Blk.mp KI) (aset_at_eq who i ats)
          · have h7 : (!p == -1) = false := h7
            refine And.intro (fun h9 => ?_) (fun h9 => ?_)
            · exfalso
              have h9 : ((nth ns i).2 == -1) = true := ez ▸ h9
              rw [h9] at h6; cases h6
            · have h9 : ((nth ns i).2 == -1) = false := ez ▸ h9
              refine ⟨rfl, rfl, rfl, rfl, ?_, trivial⟩
              exact congrArg (Blk.mp KI) (aset_at_eq who i ats)
        · have h6 : (!(nth ns i).2 == -1) = false := ez ▸ h6
          refine And.intro (fun h9 => ?_) (fun h9 => ?_)
          · have h9 : ((nth ns i).2 == -1) = true := ez ▸ h9
            exfalso
            obtain ⟨_, x1, x2⟩ := hx
            simp at h6; exact x1 h6
          · exfalso
            have h9 : ((nth ns i).2 == -1) = false := ez ▸ h9
            rw [h9] at h6; cases h6
    · have := lki_none hv
      rw [hi] at this; cases this
  · 
    obtain ⟨i', hi', rfl⟩ := lki_some hv
    obtain rfl : (i : Int) = i' := by rw [hi] at hi'; exact Option.some.inj hi'
    refine And.intro ⟨by omega, by show (i : Int) < ns.length; omega⟩ ?_
    refine And.intro (fun h5 => ?_) (fun h5 => ?_)
    · have h5 : (nth ns i).1.same m = false := by
        have h6 : (!(nth ns (0 + (i : Int).toNat)).1.same m) = true := h5
        rw [Nat.zero_add, Int.toNat_natCast] at h6
        simpa using h6
      exfalso; rw [hx.1] at h5; cases h5
    · have h5 : (nth ns i).1.same m = true := by
        have h6 : (!(nth ns (0 + (i : Int).toNat)).1.same m) = false := h5
        rw [Nat.zero_add, Int.toNat_natCast] at h6
        simpa using h6
      have ez : 0 + (i : Int).toNat = i := by omega
      refine And.intro (fun h6 => ?_) (fun h6 => ?_)
      · have h6 : (!(nth ns i).2 == -1) = true := ez ▸ h6
        refine And.intro (fun h7 => ?_) (fun h7 => ?_)
        · have h7 : (!p == -1) = true := h7
          refine And.intro (fun h8 => ?_) (fun h8 => ?_)
          · have h8 : (!(nth ns i).2 == p) = true := ez ▸ h8
            exfalso
            obtain ⟨_, x1, x2 | x2⟩ := hx
            · simp at h7; exact h7 x2
            · simp at h8; exact h8 x2
          · have h8 : (!(nth ns i).2 == p) = false := ez ▸ h8
            refine And.intro (fun h9 => ?_) (fun h9 => ?_)
            · exfalso
              have h9 : ((nth ns i).2 == -1) = true := ez ▸ h9
              rw [h9] at h6; cases h6
            · have h9 : ((nth ns i).2 == -1) = false := ez ▸ h9
              refine ⟨rfl, rfl, rfl, rfl, ?_, trivial⟩
              exact congrArg (Blk.mp KI) (aset_at_eq who i ats)
        · have h7 : (!p == -1) = false := h7
          refine And.intro (fun h9 => ?_) (fun h9 => ?_)
          · exfalso
            have h9 : ((nth ns i).2 == -1) = true := ez ▸ h9
            rw [h9] at h6; cases h6
          · have h9 : ((nth ns i).2 == -1) = false := ez ▸ h9
            refine ⟨rfl, rfl, rfl, rfl, ?_, trivial⟩
            exact congrArg (Blk.mp KI) (aset_at_eq who i ats)
      · have h6 : (!(nth ns i).2 == -1) = false := ez ▸ h6
        refine And.intro (fun h9 => ?_) (fun h9 => ?_)
        · have h9 : ((nth ns i).2 == -1) = true := ez ▸ h9
          exfalso
          obtain ⟨_, x1, x2⟩ := hx
          simp at h6; exact x1 h6
        · exfalso
          have h9 : ((nth ns i).2 == -1) = false := ez ▸ h9
          rw [h9] at h6; cases h6
  · have := lki_none hv
    rw [hi] at this; cases this

theorem seeC4_fn (b e c d : Nat) (hn : [b, e, c, d].Nodup) (ns : List (Mk × Int)) (ids : List (List Int × Int)) (ats : List (Int × Int)) (who : Int) (m : Mk) (p : Int) (hp : (lk who ats).getD (-1) = p) (hp1 : p = -1 ∨ 0 ≤ p ∧ p < ns.length) (hg : gate ns p m = 0) (i : Nat) (hi : lk m.i ids = some (i : Int)) (hin : i < ns.length) (hx : (nth ns i).1.same m = true ∧ (nth ns i).2 = -1) :
    Fn Tryd.prog (GE e0 e1 e2 e3) 10 [.ptr b [] ly66, .int .i64 who, .dv m.dv] (S4 b e c d ns ids ats) (.tup [.int .i64 i, .dv (.sc .nilIface)]) [(b, .var (foV e ns.length c d)), (e, .row ly68 ns.length (rowf (ns.set i ((nth ns i).1, p)))), (c, .mp KH (idD ids)), (d, .mp KI (atD (st who i ats)))] := by
  refine Fn.bodyN (fn := Tryd.f10) (c := _) tabOK mixed (GE_plain e0 e1 e2 e3) rfl rfl rfl [(0, b), (1, e), (2, c), (3, d)] [.ptr 0 [] ly66, .int .i64 who, .dv m.dv] ((S4 0 1 2 3 ns ids ats).map Prod.snd) [] (.tup [.int .i64 i, .dv (.sc .nilIface)]) [.var (foV 1 ns.length 2 3), .row ly68 ns.length (rowf (ns.set i ((nth ns i).1, p))), .mp KH (idD ids), .mp KI (atD (st who i ats))] rfl rfl hn ?_
  refine ⟨[], _, _, _, ⟨at_fn e0 e1 e2 e3 0 1 2 3 (by decide) ns ids ats who (p : Int) hp.symm, ⟨⟨rfl, rfl⟩, ⟨rfl, rfl⟩, ⟨rfl, rfl⟩, ⟨rfl, rfl⟩, trivial⟩, rfl⟩, ?_⟩
  refine And.intro (fun h => And.intro ?_ (And.intro (fun h2 => ?_) (fun h2 => ?_))) (fun h => And.intro (fun v hv => ?_) (fun hv => ?_))
  · have h : (!p == -1) = true := h
    have : p ≠ -1 := by simpa using h
    exact ⟨by omega, by show p < ns.length; omega⟩
  · exfalso
    have h2 : (nth ns (0 + p.toNat)).1.same m = true := h2
    rw [Nat.zero_add, (gate0_follows hg h).1] at h2; cases h2
  · refine ⟨[], _, _, _, ⟨follows_fn e0 e1 e2 e3 _ _, trivial, rfl⟩, ?_⟩
    refine And.intro (fun h3 => ?_) (fun h3 => And.intro (fun v hv => ?_) (fun hv => ?_))
    · exfalso
      have h3 : (!m.follows (nth ns (0 + p.toNat)).1) = true := h3
      rw [Nat.zero_add, (gate0_follows hg h).2] at h3; cases h3
    · 
      obtain ⟨i', hi', rfl⟩ := lki_some hv
      obtain rfl : (i : Int) = i' := by rw [hi] at hi'; exact Option.some.inj hi'
      refine And.intro ⟨by omega, by show (i : Int) < ns.length; omega⟩ ?_
      refine And.intro (fun h5 => ?_) (fun h5 => ?_)
      · have h5 : (nth ns i).1.same m = false := by
          have h6 : (!(nth ns (0 + (i : Int).toNat)).1.same m) = true := h5
          rw [Nat.zero_add, Int.toNat_natCast] at h6
          simpa using h6
        exfalso; rw [hx.1] at h5; cases h5
      · have h5 : (nth ns i).1.same m = true := by
          have h6 : (!(nth ns (0 + (i : Int).toNat)).1.same m) = false := h5
          rw [Nat.zero_add, Int.toNat_natCast] at h6
          simpa using h6
        have ez : 0 + (i : Int).toNat = i := by omega
        refine And.intro (fun h6 => ?_) (fun h6 => ?_)
        · have h6 : (!(nth ns i).2 == -1) = true := ez ▸ h6
          refine And.intro (fun h7 => ?_) (fun h7 => ?_)
          · have h7 : (!p == -1) = true := h7
            refine And.intro (fun h8 => ?_) (fun h8 => ?_)
            · have h8 : (!(nth ns i).2 == p) = true := ez ▸ h8
              exfalso
              obtain ⟨_, x1⟩ := hx
              simp at h6; exact h6 x1
            · have h8 : (!(nth ns i).2 == p) = false := ez ▸ h8
              refine And.intro (fun h9 => ?_) (fun h9 => ?_)
              · exfalso
                have h9 : ((nth ns i).2 == -1) = true := ez ▸ h9
                rw [h9] at h6; cases h6
              · have h9 : ((nth ns i).2 == -1) = false := ez ▸ h9
                exfalso
                obtain ⟨_, x1⟩ := hx
                simp at h6; exact h6 x1
          · have h7 : (!p == -1) = false := h7
            refine And.intro (fun h9 => ?_) (fun h9 => ?_)
            · exfalso
              have h9 : ((nth ns i).2 == -1) = true := ez ▸ h9
              rw [h9] at h6; cases h6
            · have h9 : ((nth ns i).2 == -1) = false := ez ▸ h9
              exfalso
              obtain ⟨_, x1⟩ := hx
              simp at h6; exact h6 x1
        · have h6 : (!(nth ns i).2 == -1) = false := ez ▸ h6
          refine And.intro (fun h9 => ?_) (fun h9 => ?_)
          · have h9 : ((nth ns i).2 == -1) = true := ez ▸ h9
            refine ⟨rfl, rfl, ?_, rfl, ?_, trivial⟩
            · exact congrArg (Blk.row ly68 ns.length) (rowf_set ns i p hin)
            · exact congrArg (Blk.mp KI) (aset_at_eq who i ats)
          · exfalso
            have h9 : ((nth ns i).2 == -1) = false := ez ▸ h9
            rw [h9] at h6; cases h6
    · have := lki_none hv
      rw [hi] at this; cases this
  · 
    obtain ⟨i', hi', rfl⟩ := lki_some hv
    obtain rfl : (i : Int) = i' := by rw [hi] at hi'; exact Option.some.inj hi'
    refine And.intro ⟨by omega, by show (i : Int) < ns.length; omega⟩ ?_
    refine And.intro (fun h5 => ?_) (fun h5 => ?_)
    · have h5 : (nth ns i).1.same m = false := by
        have h6 : (!(nth ns (0 + (i : Int).toNat)).1.same m) = true := h5
        rw [Nat.zero_add, Int.toNat_natCast] at h6
        simpa using h6
      exfalso; rw [hx.1] at h5; cases h5
    · have h5 : (nth ns i).1.same m = true := by
        have h6 : (!(nth ns (0 + (i : Int).toNat)).1.same m) = false := h5
        rw [Nat.zero_add, Int.toNat_natCast] at h6
        simpa using h6
      have ez : 0 + (i : Int).toNat = i := by omega
      refine And.intro (fun h6 => ?_) (fun h6 => ?_)
      · have h6 : (!(nth ns i).2 == -1) = true := ez ▸ h6
        refine And.intro (fun h7 => ?_) (fun h7 => ?_)
        · have h7 : (!p == -1) = true := h7
          refine And.intro (fun h8 => ?_) (fun h8 => ?_)
          · have h8 : (!(nth ns i).2 == p) = true := ez ▸ h8
            exfalso
            obtain ⟨_, x1⟩ := hx
            simp at h6; exact h6 x1
          · have h8 : (!(nth ns i).2 == p) = false := ez ▸ h8
            refine And.intro (fun h9 => ?_) (fun h9 => ?_)
            · exfalso
              have h9 : ((nth ns i).2 == -1) = true := ez ▸ h9
              rw [h9] at h6; cases h6
            · have h9 : ((nth ns i).2 == -1) = false := ez ▸ h9
              exfalso
              obtain ⟨_, x1⟩ := hx
              simp at h6; exact h6 x1
        · have h7 : (!p == -1) = false := h7
          refine And.intro (fun h9 => ?_) (fun h9 => ?_)
          · exfalso
            have h9 : ((nth ns i).2 == -1) = true := ez ▸ h9
            rw [h9] at h6; cases h6
          · have h9 : ((nth ns i).2 == -1) = false := ez ▸ h9
            exfalso
            obtain ⟨_, x1⟩ := hx
            simp at h6; exact h6 x1
      · have h6 : (!(nth ns i).2 == -1) = false := ez ▸ h6
        refine And.intro (fun h9 => ?_) (fun h9 => ?_)
        · have h9 : ((nth ns i).2 == -1) = true := ez ▸ h9
          refine ⟨rfl, rfl, ?_, rfl, ?_, trivial⟩
          · exact congrArg (Blk.row ly68 ns.length) (rowf_set ns i p hin)
          · exact congrArg (Blk.mp KI) (aset_at_eq who i ats)
        · exfalso
          have h9 : ((nth ns i).2 == -1) = false := ez ▸ h9
          rw [h9] at h6; cases h6
  · have := lki_none hv
    rw [hi] at this; cases this

theorem seeD1_fn (b e c d k : Nat) (hn : [b, e, c, d, k].Nodup) (ns : List (Mk × Int)) (ids : List (List Int × Int)) (ats : List (Int × Int)) (who : Int) (m : Mk) (p : Int) (hp : (lk who ats).getD (-1) = p) (hp1 : p = -1 ∨ 0 ≤ p ∧ p < ns.length) (hg : gate ns p m = 0) (hi : lk m.i ids = none) (hl : ns.length ≤ 1000000) (h1 : p = -1) :
    Fn Tryd.prog (GE e0 e1 e2 e3) 10 [.ptr b [] ly66, .int .i64 who, .dv m.dv] (S4 b e c d ns ids ats) (.tup [.int .i64 ns.length, .dv (.sc .nilIface)]) [(b, .var (foV k (ns.length + 1) c d)), (e, .dead), (c, .mp KH (idD (st m.i ns.length ids))), (d, .mp KI (atD (st who ns.length ats))), (k, .row ly68 (ns.length + 1) (rowf (ns ++ [(m, p)])))] := by
  refine Fn.bodyN (fn := Tryd.f10) (c := _) tabOK mixed (GE_plain e0 e1 e2 e3) rfl rfl rfl [(0, b), (1, e), (2, c), (3, d), (6, k)] [.ptr 0 [] ly66, .int .i64 who, .dv m.dv] ((S4 0 1 2 3 ns ids ats).map Prod.snd) [6] (.tup [.int .i64 ns.length, .dv (.sc .nilIface)]) [.var (foV 6 (ns.length + 1) 2 3), .dead, .mp KH (idD (st m.i ns.length ids)), .mp KI (atD (st who ns.length ats)), .row ly68 (ns.length + 1) (rowf (ns ++ [(m, p)]))] rfl rfl hn ?_
  refine ⟨[], _, _, _, ⟨at_fn e0 e1 e2 e3 0 1 2 3 (by decide) ns ids ats who (p : Int) hp.symm, ⟨⟨rfl, rfl⟩, ⟨rfl, rfl⟩, ⟨rfl, rfl⟩, ⟨rfl, rfl⟩, trivial⟩, rfl⟩, ?_⟩
  have ew : IntKind.i64.wrap (((ns.length + 1 : Nat) : Int) - 1) = ns.length := by
    rw [wrap_i64 (by omega) (by omega)]; omega
  refine And.intro (fun h => ?_) (fun h => And.intro (fun v hv => ?_) (fun hv => ?_))
  · exfalso
    have h : (!p == -1) = true := h
    rw [h1] at h; cases h
  · exfalso
    obtain ⟨i', hi', _⟩ := lki_some hv
    rw [hi] at hi'; cases hi'
  · 
    refine And.intro ?_ (And.intro (fun w hw => ?_) (fun hw => ?_))
    · show ((ns.length : Int) + (1 : Nat)) * (208 : Nat) ≤ 140737488355328
      omega
    · exfalso
      obtain ⟨i', hi', _⟩ := lki_some hw
      rw [hi] at hi'; cases hi'
    · have ar : AV.tup [.int .i64 (IntKind.i64.wrap (((ns.length + 1 : Nat) : Int) - 1)), .dv (.sc .nilIface)] = .tup [.int .i64 ns.length, .dv (.sc .nilIface)] := by rw [ew]
      have b2 : ∀ es, es = idD ids → Blk.mp KH (aset (.ints .u8 32 m.i) (.sc (.int .i64 (IntKind.i64.wrap (((ns.length + 1 : Nat) : Int) - 1)))) (aset (.ints .u8 32 m.i) (.sc (.int .i64 0)) es)) = .mp KH (idD (st m.i ns.length ids)) := by
        rintro es rfl
        rw [ew, aset_id_eq, aset_id_eq, st_st]
      have b4 : Blk.row ly68 (ns.length + 1) (fun j => if j < ns.length then rowf ns (0 + j) else putParts (fun _ => zr68) [(0, nodeD (m, p))] (0 + (j - ns.length))) = .row ly68 (ns.length + 1) (rowf (ns ++ [(m, p)])) := by rw [rowf_push]
      refine And.intro (fun u hu => ?_) (fun hu => ?_)
      · refine ⟨ar, rfl, rfl, b2 _ rfl, ?_, b4, trivial⟩
        show Blk.mp KI (aset (.sc (.int .i64 who)) (.sc (.int .i64 (IntKind.i64.wrap (((ns.length + 1 : Nat) : Int) - 1)))) (atD ats)) = _
        rw [ew, aset_at_eq]
      · refine ⟨ar, rfl, rfl, b2 _ rfl, ?_, b4, trivial⟩
        show Blk.mp KI (aset (.sc (.int .i64 who)) (.sc (.int .i64 (IntKind.i64.wrap (((ns.length + 1 : Nat) : Int) - 1)))) (aset (.sc (.int .i64 who)) (.sc (.int .i64 0)) (atD ats))) = _
        rw [ew, aset_at_eq, aset_at_eq, st_st]

theorem seeD2_fn (b e c d k : Nat) (hn : [b, e, c, d, k].Nodup) (ns : List (Mk × Int)) (ids : List (List Int × Int)) (ats : List (Int × Int)) (who : Int) (m : Mk) (p : Int) (hp : (lk who ats).getD (-1) = p) (hp1 : p = -1 ∨ 0 ≤ p ∧ p < ns.length) (hg : gate ns p m = 0) (hi : lk m.i ids = none) (hl : ns.length ≤ 1000000) (h1 : p ≠ -1) :
    Fn Tryd.prog (GE e0 e1 e2 e3) 10 [.ptr b [] ly66, .int .i64 who, .dv m.dv] (S4 b e c d ns ids ats) (.tup [.int .i64 ns.length, .dv (.sc .nilIface)]) [(b, .var (foV k (ns.length + 1) c d)), (e, .dead), (c, .mp KH (idD (st m.i ns.length ids))), (d, .mp KI (atD (st who ns.length ats))), (k, .row ly68 (ns.length + 1) (rowf (ns ++ [(m, p)])))] := by
  refine Fn.bodyN (fn := Tryd.f10) (c := _) tabOK mixed (GE_plain e0 e1 e2 e3) rfl rfl rfl [(0, b), (1, e), (2, c), (3, d), (7, k)] [.ptr 0 [] ly66, .int .i64 who, .dv m.dv] ((S4 0 1 2 3 ns ids ats).map Prod.snd) [7] (.tup [.int .i64 ns.length, .dv (.sc .nilIface)]) [.var (foV 7 (ns.length + 1) 2 3), .dead, .mp KH (idD (st m.i ns.length ids)), .mp KI (atD (st who ns.length ats)), .row ly68 (ns.length + 1) (rowf (ns ++ [(m, p)]))] rfl rfl hn ?_
  refine ⟨[], _, _, _, ⟨at_fn e0 e1 e2 e3 0 1 2 3 (by decide) ns ids ats who (p : Int) hp.symm, ⟨⟨rfl, rfl⟩, ⟨rfl, rfl⟩, ⟨rfl, rfl⟩, ⟨rfl, rfl⟩, trivial⟩, rfl⟩, ?_⟩
  have ew : IntKind.i64.wrap (((ns.length + 1 : Nat) : Int) - 1) = ns.length := by
    rw [wrap_i64 (by omega) (by omega)]; omega
  refine And.intro (fun h => And.intro ?_ (And.intro (fun h2 => ?_) (fun h2 => ?_))) (fun h => ?_)
  · exact ⟨by omega, by show p < ns.length; omega⟩
  · exfalso
    have h2 : (nth ns (0 + p.toNat)).1.same m = true := h2
    rw [Nat.zero_add, (gate0_follows hg h).1] at h2; cases h2
  · refine ⟨[], _, _, _, ⟨follows_fn e0 e1 e2 e3 _ _, trivial, rfl⟩, ?_⟩
    refine And.intro (fun h3 => ?_) (fun h3 => And.intro (fun v hv => ?_) (fun hv => ?_))
    · exfalso
      have h3 : (!m.follows (nth ns (0 + p.toNat)).1) = true := h3
      rw [Nat.zero_add, (gate0_follows hg h).2] at h3; cases h3
    · exfalso
      obtain ⟨i', hi', _⟩ := lki_some hv
      rw [hi] at hi'; cases hi'
    · 
      refine And.intro ?_ (And.intro (fun w hw => ?_) (fun hw => ?_))
      · show ((ns.length : Int) + (1 : Nat)) * (208 : Nat) ≤ 140737488355328
        omega
      · exfalso
        obtain ⟨i', hi', _⟩ := lki_some hw
        rw [hi] at hi'; cases hi'
      · have ar : AV.tup [.int .i64 (IntKind.i64.wrap (((ns.length + 1 : Nat) : Int) - 1)), .dv (.sc .nilIface)] = .tup [.int .i64 ns.length, .dv (.sc .nilIface)] := by rw [ew]
        have b2 : ∀ es, es = idD ids → Blk.mp KH (aset (.ints .u8 32 m.i) (.sc (.int .i64 (IntKind.i64.wrap (((ns.length + 1 : Nat) : Int) - 1)))) (aset (.ints .u8 32 m.i) (.sc (.int .i64 0)) es)) = .mp KH (idD (st m.i ns.length ids)) := by
          rintro es rfl
          rw [ew, aset_id_eq, aset_id_eq, st_st]
        have b4 : Blk.row ly68 (ns.length + 1) (fun j => if j < ns.length then rowf ns (0 + j) else putParts (fun _ => zr68) [(0, nodeD (m, p))] (0 + (j - ns.length))) = .row ly68 (ns.length + 1) (rowf (ns ++ [(m, p)])) := by rw [rowf_push]
        refine And.intro (fun u hu => ?_) (fun hu => ?_)
        · refine ⟨ar, rfl, rfl, b2 _ rfl, ?_, b4, trivial⟩
          show Blk.mp KI (aset (.sc (.int .i64 who)) (.sc (.int .i64 (IntKind.i64.wrap (((ns.length + 1 : Nat) : Int) - 1)))) (atD ats)) = _
          rw [ew, aset_at_eq]
        · refine ⟨ar, rfl, rfl, b2 _ rfl, ?_, b4, trivial⟩
          show Blk.mp KI (aset (.sc (.int .i64 who)) (.sc (.int .i64 (IntKind.i64.wrap (((ns.length + 1 : Nat) : Int) - 1)))) (aset (.sc (.int .i64 who)) (.sc (.int .i64 0)) (atD ats))) = _
          rw [ew, aset_at_eq, aset_at_eq, st_st]
  · exfalso
    have h : (!p == -1) = false := h
    exact h1 (by simpa using h)
end
end Go.Eng
