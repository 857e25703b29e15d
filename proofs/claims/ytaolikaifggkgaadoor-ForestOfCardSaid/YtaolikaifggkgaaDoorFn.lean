/-
  What the forest's functions do.
-/
import Derived.Test.YtaolikaifggkgaaDoorTab
namespace Go.Eng
open Go.Proofs

/-- A mark, a node, a forest. -/
structure Mk where
  g : List Int
  e : Int
  i : List Int
  a : List Int
  s : List Int
  p : List Int
  t : List Int
  deriving DecidableEq
def Mk.zero : Mk := ⟨List.replicate 32 0, 0, List.replicate 32 0, List.replicate 32 0, List.replicate 32 0, List.replicate 32 0, List.replicate 32 0⟩
def Mk.dv (m : Mk) : DV := .cons (.ints .u8 32 m.g) (.cons (.sc (.int .i64 m.e)) (.cons (.ints .u8 32 m.i) (.cons (.ints .u8 32 m.a) (.cons (.ints .u8 32 m.s) (.cons (.ints .u8 32 m.p) (.cons (.ints .u8 32 m.t) .nil))))))
def nodeD (x : Mk × Int) : DV := .cons x.1.dv (.cons (.sc (.int .i64 x.2)) .nil)
def rowf (ns : List (Mk × Int)) : Nat → DV := fun j => nodeD (ns.getD j (Mk.zero, 0))
def atD (es : List (Int × Int)) : List (DV × DV) := es.map fun x => (.sc (.int .i64 x.1), .sc (.int .i64 x.2))
def idD (es : List (List Int × Int)) : List (DV × DV) := es.map fun x => (.ints .u8 32 x.1, .sc (.int .i64 x.2))
def foV (e n c d : Nat) : AV := .cons (.sl e [] ly68 0 n) (.cons (.mp c) (.cons (.mp d) (.dv .nil)))
def KH : KF := .ints .u8 32
def KI : KF := .int .i64

def lk {α : Type} [BEq α] (k : α) : List (α × Int) → Option Int
  | [] => none
  | x :: r => match k == x.1 with
    | true => some x.2
    | false => lk k r
theorem alook_at (k : Int) : ∀ es : List (Int × Int), alook (.sc (.int .i64 k)) (atD es) = (lk k es).map fun v => .sc (.int .i64 v)
  | [] => rfl
  | x :: r => by
    show (match k == x.1 with | true => _ | false => _) = _
    unfold lk
    cases k == x.1
    · exact alook_at k r
    · rfl

theorem lk_some {ats : List (Int × Int)} {who : Int} {v : DV} (hv : alook (.sc (.int .i64 who)) (atD ats) = some v) : ∃ i, lk who ats = some i ∧ v = .sc (.int .i64 i) := by
  rw [alook_at] at hv
  cases h : lk who ats with
  | none => rw [h] at hv; cases hv
  | some i => rw [h] at hv; cases hv; exact ⟨i, rfl, rfl⟩
theorem lk_none {ats : List (Int × Int)} {who : Int} (hv : alook (.sc (.int .i64 who)) (atD ats) = none) : lk who ats = none := by
  rw [alook_at] at hv
  cases h : lk who ats with
  | none => rfl
  | some i => rw [h] at hv; cases hv

/-- The package-level errors: ErrState, ErrTwice, ErrPath; ErrRange, where it is named. -/
abbrev ErrV : Type := TypeId × Value
def errA (e : ErrV) : AV := .dv (.sc (.iface e.1 e.2))
def GE (e0 e1 e2 : ErrV) (e3 : Option ErrV) : Nat → AV
  | 0 => .rp (.sc (.iface e0.1 e0.2))
  | 1 => .rp (.sc (.iface e1.1 e1.2))
  | 2 => .rp (.sc (.iface e2.1 e2.2))
  | 3 => match e3 with
    | some e => .rp (.sc (.iface e.1 e.2))
    | none => .any
  | _ => .any
theorem GE_plain (e0 e1 e2 : ErrV) (e3 : Option ErrV) : GPlain (GE e0 e1 e2 e3) := fun g => by
  match g with
  | 0 => rfl
  | 1 => rfl
  | 2 => rfl
  | 3 => cases e3 <;> rfl
  | _ + 4 => rfl

set_option maxRecDepth 10000
set_option maxHeartbeats 1000000
section
variable (e0 e1 e2 : ErrV) (e3 : Option ErrV)

def S4 (b e c d : Nat) (ns : List (Mk × Int)) (ids : List (List Int × Int)) (ats : List (Int × Int)) : List (Nat × Blk) :=
  [(b, .var (foV e ns.length c d)), (e, .row ly68 ns.length (rowf ns)), (c, .mp KH (idD ids)), (d, .mp KI (atD ats))]

theorem at_fn (b e c d : Nat) (hn : [b, e, c, d].Nodup) (ns : List (Mk × Int)) (ids : List (List Int × Int)) (ats : List (Int × Int)) (who : Int) (r : Int) (hr : r = (lk who ats).getD (-1)) :
    Fn Tryd.prog (GE e0 e1 e2 e3) 18 [.ptr b [] ly66, .int .i64 who] (S4 b e c d ns ids ats) (.int .i64 r) (S4 b e c d ns ids ats) := by
  refine Fn.bodyN (fn := Tryd.f18) (c := _) tabOK mixed (GE_plain e0 e1 e2 e3) rfl rfl rfl [(0, b), (1, e), (2, c), (3, d)] [.ptr 0 [] ly66, .int .i64 who] ((S4 0 1 2 3 ns ids ats).map Prod.snd) [] (.int .i64 r) ((S4 0 1 2 3 ns ids ats).map Prod.snd) rfl rfl hn ?_
  refine And.intro ?_ ?_
  · intro v hv
    obtain ⟨i, hi, rfl⟩ := lk_some hv
    refine ⟨?_, rfl, rfl, rfl, rfl, trivial⟩
    rw [hr, hi]; rfl
  · intro hv
    have hi := lk_none hv
    refine ⟨?_, rfl, rfl, rfl, rfl, trivial⟩
    rw [hr, hi]; rfl

theorem has_fn (b e c d : Nat) (hn : [b, e, c, d].Nodup) (ns : List (Mk × Int)) (ids : List (List Int × Int)) (ats : List (Int × Int)) (i : Int) (r : Bool) (hr : r = (decide (0 ≤ i) && decide (i < ns.length))) :
    Fn Tryd.prog (GE e0 e1 e2 e3) 20 [.ptr b [] ly66, .int .i64 i] (S4 b e c d ns ids ats) (.bl r) (S4 b e c d ns ids ats) := by
  refine Fn.bodyN (fn := Tryd.f20) (c := _) tabOK mixed (GE_plain e0 e1 e2 e3) rfl rfl rfl [(0, b), (1, e), (2, c), (3, d)] [.ptr 0 [] ly66, .int .i64 i] ((S4 0 1 2 3 ns ids ats).map Prod.snd) [] (.bl r) ((S4 0 1 2 3 ns ids ats).map Prod.snd) rfl rfl hn ?_
  refine And.intro ?_ ?_
  · intro h
    have h : 0 ≤ i := of_decide_eq_true h
    refine ⟨?_, rfl, rfl, rfl, rfl, trivial⟩
    rw [hr, decide_eq_true h, Bool.true_and]; rfl
  · intro h
    have h : ¬ (0 ≤ i) := of_decide_eq_false h
    refine ⟨?_, rfl, rfl, rfl, rfl, trivial⟩
    rw [hr, decide_eq_false h]; rfl

theorem len_fn (b e c d : Nat) (hn : [b, e, c, d].Nodup) (ns : List (Mk × Int)) (ids : List (List Int × Int)) (ats : List (Int × Int)) :
    Fn Tryd.prog (GE e0 e1 e2 e3) 11 [.ptr b [] ly66] (S4 b e c d ns ids ats) (.int .i64 ns.length) (S4 b e c d ns ids ats) := by
  refine Fn.bodyN (fn := Tryd.f11) (c := _) tabOK mixed (GE_plain e0 e1 e2 e3) rfl rfl rfl [(0, b), (1, e), (2, c), (3, d)] [.ptr 0 [] ly66] ((S4 0 1 2 3 ns ids ats).map Prod.snd) [] (.int .i64 ns.length) ((S4 0 1 2 3 ns ids ats).map Prod.snd) rfl rfl hn ?_
  exact ⟨rfl, rfl, rfl, rfl, rfl, trivial⟩

def Mk.follows (m q : Mk) : Bool := m.g == q.g && decide (m.e > q.e) && (IntKind.i64.wrap (m.e - q.e) == 1)
theorem follows_fn (m q : Mk) : Fn Tryd.prog (GE e0 e1 e2 e3) 19 [.dv m.dv, .dv q.dv] [] (.bl (m.follows q)) [] := by
  refine Fn.bodyN (fn := Tryd.f19) (c := _) tabOK mixed (GE_plain e0 e1 e2 e3) rfl rfl rfl [] [.dv m.dv, .dv q.dv] [] [] (.bl (m.follows q)) [] rfl rfl (by simp) ?_
  refine And.intro ?_ ?_
  · intro h
    have h : (m.g == q.g) = true := h
    refine And.intro ?_ ?_
    · intro h1
      have h1 : decide (m.e > q.e) = true := h1
      refine ⟨?_, trivial⟩
      show AV.bl _ = AV.bl _
      unfold Mk.follows
      rw [h, h1]; rfl
    · intro h1
      have h1 : decide (m.e > q.e) = false := h1
      refine ⟨?_, trivial⟩
      show AV.bl _ = AV.bl _
      unfold Mk.follows
      rw [h, h1]; rfl
  · intro h
    have h : (m.g == q.g) = false := h
    refine ⟨?_, trivial⟩
    show AV.bl _ = AV.bl _
    unfold Mk.follows
    rw [h]; rfl

/-- A forest without nodes. -/
theorem new_fn (b e c d : Nat) (hn : [c, d, b, e].Nodup) :
    Fn Tryd.prog (GE e0 e1 e2 e3) 8 [] [] (.ptr b [] ly66) [(c, .mp KH []), (d, .mp KI []), (b, .var (.cons (.dv (.sc (.slice none 0 0))) (.cons (.mp c) (.cons (.mp d) (.dv .nil))))), (e, .row ly68 0 (rowf [])), (b, .var (foV e 0 c d))] := by
  have h : Fn Tryd.prog (GE e0 e1 e2 e3) 8 [] [] (.ptr b [] ly66) [(c, .mp KH []), (d, .mp KI []), (b, .var (.cons (.dv (.sc (.slice none 0 0))) (.cons (.mp c) (.cons (.mp d) (.dv .nil)))))] := by
    refine Fn.bodyN (fn := Tryd.f8) (c := _) tabOK mixed (GE_plain e0 e1 e2 e3) rfl rfl rfl [(0, c), (1, d), (2, b)] [] [] [0, 1, 2] (.ptr 2 [] ly66) [.mp KH [], .mp KI [], .var (.cons (.dv (.sc (.slice none 0 0))) (.cons (.mp 0) (.cons (.mp 1) (.dv .nil))))] rfl rfl ?_ ?_
    · simp only [List.nodup_cons, List.mem_cons, List.not_mem_nil, or_false, not_or, List.map_cons, List.map_nil] at hn ⊢
      exact ⟨⟨hn.1.1, hn.1.2.1⟩, hn.2.1.1, fun h => h, List.nodup_nil⟩
    · exact ⟨rfl, rfl, rfl, rfl, trivial⟩
  refine Fn.nilv (l := ly68) (o := 0) (p := [0]) (key := e) (y := .row ly68 0 (rowf [])) (x := .cons (.dv (.sc (.slice none 0 0))) (.cons (.mp c) (.cons (.mp d) (.dv .nil)))) h (fun H => ?_) (by simp) rfl rfl (.inr ⟨_, rfl⟩) rfl (by simp) ?_
  · exact if_pos rfl
  · simp only [List.nodup_cons, List.mem_cons, List.not_mem_nil, or_false, not_or, List.map_cons, List.map_nil] at hn ⊢
    exact ⟨fun h => hn.1.2.2 h.symm, fun h => hn.2.1.2 h.symm, fun h => hn.2.2.1 h.symm⟩
end
end Go.Eng
