/-
  What alive and ForestOf do.
-/
import Derived.Test.YtaolikaifggkgaaDoorSee
namespace Go.Eng
open Go.Proofs
def m0 : Mk := ⟨List.replicate 32 0, 0, 1 :: List.replicate 31 0, List.replicate 32 0, List.replicate 32 0, List.replicate 32 0, List.replicate 32 0⟩
set_option maxRecDepth 10000
set_option maxHeartbeats 1000000
section
variable (e0 e1 e2 : ErrV) (e3 : Option ErrV)
theorem alive_fn : Fn Tryd.prog (GE e0 e1 e2 e3) 6 [] [] (.bl true) [] := by
  refine Fn.bodyN (fn := Tryd.f6) (c := _) tabOK mixed (GE_plain e0 e1 e2 e3) rfl rfl rfl [] [] [] [] (.bl true) [] rfl rfl (by simp) ?_
  refine ⟨[], _, _, _, ⟨new_fn e0 e1 e2 e3 2 3 0 1 (by decide), trivial, rfl⟩, ?_⟩
  refine And.intro (fun h => ?_) (fun h => ?_)
  · cases h
  refine ⟨[], _, _, _, ⟨seeD1_fn e0 e1 e2 e3 2 3 0 1 5 (by decide) [] [] [] 1 m0 (-1) rfl (.inl rfl) rfl rfl (by decide) rfl, ⟨⟨rfl, rfl⟩, ⟨rfl, rfl⟩, ⟨rfl, rfl⟩, ⟨rfl, rfl⟩, trivial⟩, rfl⟩, ?_⟩
  refine ⟨[], _, _, _, ⟨seeC4_fn e0 e1 e2 e3 2 5 0 1 (by decide) [(m0, -1)] [(m0.i, 0)] [(1, 0)] 2 m0 (-1) rfl (.inl rfl) rfl 0 rfl (by decide) ⟨rfl, rfl⟩, ⟨⟨rfl, rfl⟩, ⟨rfl, rfl⟩, ⟨rfl, rfl⟩, ⟨rfl, rfl⟩, trivial⟩, rfl⟩, ?_⟩
  refine And.intro (fun _ => ?_) (fun h => by cases h)
  refine And.intro (fun _ => ?_) (fun h => by cases h)
  refine And.intro (fun _ => ?_) (fun h => by cases h)
  refine And.intro (fun _ => ?_) (fun h => by cases h)
  refine ⟨[], _, _, _, ⟨len_fn e0 e1 e2 e3 2 5 0 1 (by decide) [(m0, -1)] [(m0.i, 0)] [(1, 0), (2, 0)], ⟨⟨rfl, rfl⟩, ⟨rfl, rfl⟩, ⟨rfl, rfl⟩, ⟨rfl, rfl⟩, trivial⟩, rfl⟩, ?_⟩
  refine And.intro (fun _ => ?_) (fun h => by cases h)
  refine ⟨[], _, _, _, ⟨at_fn e0 e1 e2 e3 2 5 0 1 (by decide) [(m0, -1)] [(m0.i, 0)] [(1, 0), (2, 0)] 3 (-1) rfl, ⟨⟨rfl, rfl⟩, ⟨rfl, rfl⟩, ⟨rfl, rfl⟩, ⟨rfl, rfl⟩, trivial⟩, rfl⟩, ?_⟩
  exact ⟨rfl, trivial⟩

end

/-- A context, an epoch: as values. -/
structure Cx where
  g : List Int
  e : Int
  t : List Int
  s : List Int
structure Ep where
  j : List Int
  w : List Int
  s : List Int
  c : List Int
  x : List Int
  a : List Int
  i : List Int
  n : List Int
def Cx.dv (c : Cx) : DV := .cons (.ints .u8 32 c.g) (.cons (.sc (.int .i64 c.e)) (.cons (.ints .u8 32 c.t) (.cons (.ints .u8 32 c.s) .nil)))
def Ep.dv (e : Ep) : DV := .cons (.ints .u8 32 e.j) (.cons (.ints .u8 32 e.w) (.cons (.ints .u8 32 e.s) (.cons (.ints .u8 32 e.c) (.cons (.ints .u8 32 e.x) (.cons (.ints .u8 32 e.a) (.cons (.ints .u8 32 e.i) (.cons (.ints .u8 32 e.n) .nil)))))))
def grpD (c : Cx) (e : Ep) : DV := .cons c.dv (.cons zr23 (.cons zr32 (.cons zr3 (.cons zr33 (.cons zr36 (.cons e.dv .nil))))))
def markOf (c : Cx) (e : Ep) : Mk := ⟨c.g, c.e, e.i, e.a, e.s, c.t, c.s⟩
theorem same_self (m : Mk) : m.same m = true := by simp [Mk.same]

section
variable (e0 e1 e2 : ErrV) (e3 : Option ErrV)
theorem of_fn (c : Cx) (e : Ep) : Fn Tryd.prog (GE e0 e1 e2 e3) 7 [.dv (grpD c e)] [] (.dv (markOf c e).dv) [] := by
  refine Fn.bodyN (fn := Tryd.f7) (c := _) tabOK mixed (GE_plain e0 e1 e2 e3) rfl rfl rfl [] [.dv (grpD c e)] [] [] (.dv (markOf c e).dv) [] rfl rfl (by simp) ?_
  exact ⟨rfl, trivial⟩
theorem forestOf_fn (c : Cx) (e : Ep) : Fn Tryd.prog (GE e0 e1 e2 e3) 3 [.dv c.dv, .dv e.dv] [] (.bl true) [] := by
  refine Fn.bodyN (fn := Tryd.f3) (c := _) tabOK mixed (GE_plain e0 e1 e2 e3) rfl rfl rfl [] [.dv c.dv, .dv e.dv] [] [] (.bl true) [] rfl rfl (by simp) ?_
  refine ⟨[], _, _, _, ⟨alive_fn e0 e1 e2 e3, trivial, rfl⟩, ?_⟩
  refine And.intro (fun h => by cases h) (fun _ => ?_)
  refine ⟨[], _, _, _, ⟨of_fn e0 e1 e2 e3 c e, trivial, rfl⟩, ?_⟩
  refine ⟨?_, trivial⟩
  exact congrArg AV.bl (same_self (markOf c e))
end
end Go.Eng
