/-
  Part of a proof: ForestChainsC.
-/
import Derived.Test.YtaolikaifggkgaaDoorTabN
set_option linter.unusedVariables false
set_option linter.unusedSimpArgs false
namespace Go.Eng
open Go.Proofs
set_option maxRecDepth 100000
set_option maxHeartbeats 4000000
/-- The package-level errors, by their numbers. -/
def GE (er : Nat → ErrV) : Nat → AV
  | 0 => .rp (.sc (.iface (er 18).1 (er 18).2))
  | 1 => .rp (.sc (.iface (er 19).1 (er 19).2))
  | 2 => .rp (.sc (.iface (er 13).1 (er 13).2))
  | 3 => .rp (.sc (.iface (er 1).1 (er 1).2))
  | _ => .any
theorem GE_plain (er : Nat → ErrV) : GPlain (GE er) := fun g => by unfold GE; split <;> rfl
section
variable (er : Nat → ErrV)
structure T_forest_Mark where
  fGroup : List Int
  fEpoch : Int
  fID : List Int
  fAuthenticator : List Int
  fSecret : List Int
  fPrint : List Int
  fTranscript : List Int
  deriving DecidableEq
def T_forest_Mark.dv (x : T_forest_Mark) : DV := (.cons (.ints .u8 32 x.fGroup) (.cons (.sc (.int .i64 x.fEpoch)) (.cons (.ints .u8 32 x.fID) (.cons (.ints .u8 32 x.fAuthenticator) (.cons (.ints .u8 32 x.fSecret) (.cons (.ints .u8 32 x.fPrint) (.cons (.ints .u8 32 x.fTranscript) .nil)))))))
def T_forest_Mark.z : T_forest_Mark := ⟨(List.replicate 32 0), 0, (List.replicate 32 0), (List.replicate 32 0), (List.replicate 32 0), (List.replicate 32 0), (List.replicate 32 0)⟩
def T_forest_Mark.same (x y : T_forest_Mark) : Bool := ((x.fGroup == y.fGroup) && ((x.fEpoch == y.fEpoch) && ((x.fID == y.fID) && ((x.fAuthenticator == y.fAuthenticator) && ((x.fSecret == y.fSecret) && ((x.fPrint == y.fPrint) && ((x.fTranscript == y.fTranscript) && true)))))))
structure T_fellowshiplaw31_Act where
  fWho : Int
  fMark : T_forest_Mark
  fLeaves : Bool
  deriving DecidableEq
def T_fellowshiplaw31_Act.dv (x : T_fellowshiplaw31_Act) : DV := (.cons (.sc (.int .i64 x.fWho)) (.cons (T_forest_Mark.dv x.fMark) (.cons (.bl x.fLeaves) .nil)))
def T_fellowshiplaw31_Act.z : T_fellowshiplaw31_Act := ⟨0, T_forest_Mark.z, false⟩
def T_fellowshiplaw31_Act.same (x y : T_fellowshiplaw31_Act) : Bool := ((x.fWho == y.fWho) && (T_forest_Mark.same x.fMark y.fMark && ((x.fLeaves == y.fLeaves) && true)))
structure T_forest_node where
  fMark : T_forest_Mark
  fparent : Int
  deriving DecidableEq
def T_forest_node.dv (x : T_forest_node) : DV := (.cons (T_forest_Mark.dv x.fMark) (.cons (.sc (.int .i64 x.fparent)) .nil))
def T_forest_node.z : T_forest_node := ⟨T_forest_Mark.z, 0⟩
def T_forest_node.same (x y : T_forest_node) : Bool := (T_forest_Mark.same x.fMark y.fMark && ((x.fparent == y.fparent) && true))
/- fellowship/forest.New -/
def forest_New : Option Unit :=
  some ()
theorem forest_New_c (k0 k1 k2 : Nat) (hn : [k0, k1, k2].Nodup) (res : Unit) (h : forest_New = some res) :
    Fn Tryd.prog (GE er) 8 [] [] (.ptr k0 [] ly66) [(k0, (.var (.cons (.dv (.sc (.slice none 0 0))) (.cons (.mp k1) (.cons (.mp k2) (.dv .nil)))))), (k1, (.mp (.ints .u8 32) (mpD (fun q => .ints .u8 32 q) (fun q => .sc (.int .i64 q)) []))), (k2, (.mp (.int .i64) (mpD (fun q => .sc (.int .i64 q)) (fun q => .sc (.int .i64 q)) [])))] := by
  refine Fn.bodyE (fn := Tryd.f8) (c := _) tabOK mixed (GE_plain er) Tryd.func8 rfl rfl [(2, k0), (0, k1), (1, k2)] [] [] [2, 0, 1] (.ptr 2 [] ly66) [(.var (.cons (.dv (.sc (.slice none 0 0))) (.cons (.mp 0) (.cons (.mp 1) (.dv .nil))))), (.mp (.ints .u8 32) (mpD (fun q => .ints .u8 32 q) (fun q => .sc (.int .i64 q)) [])), (.mp (.int .i64) (mpD (fun q => .sc (.int .i64 q)) (fun q => .sc (.int .i64 q)) []))] rfl rfl rfl rfl rfl rfl hn 3 ?_
  replace h := (show forest_New = _ from h)
  unfold forest_New at h
  obtain rfl := some_in h
  exact ⟨rfl, rfl, rfl, rfl, trivial⟩
/- (*fellowship/forest.Forest).At -/
def forest_Forest_At (x6 : Int) (x7 : List ((List Int) × Int)) (x8 : List (Int × Int)) : Option Int :=
  optK (lk x6 x8)
    (fun x9 =>
      some x9)
    (some (-1))
theorem forest_Forest_At_c (b0 b1 b2 : Nat) (hn : [b0, b1, b2].Nodup) (x6 : Int) (x7 : List ((List Int) × Int)) (x8 : List (Int × Int)) (res : Int) (h : forest_Forest_At x6 x7 x8 = some res) :
    Fn Tryd.prog (GE er) 18 [(.ptr b0 [] ly66), (.int .i64 x6)] [(b0, (.var (.cons (.dv (.sc (.slice none 0 0))) (.cons (.mp b1) (.cons (.mp b2) (.dv .nil)))))), (b1, (.mp (.ints .u8 32) (mpD (fun q => .ints .u8 32 q) (fun q => .sc (.int .i64 q)) x7))), (b2, (.mp (.int .i64) (mpD (fun q => .sc (.int .i64 q)) (fun q => .sc (.int .i64 q)) x8)))] (.int .i64 res) [(b0, (.var (.cons (.dv (.sc (.slice none 0 0))) (.cons (.mp b1) (.cons (.mp b2) (.dv .nil)))))), (b1, (.mp (.ints .u8 32) (mpD (fun q => .ints .u8 32 q) (fun q => .sc (.int .i64 q)) x7))), (b2, (.mp (.int .i64) (mpD (fun q => .sc (.int .i64 q)) (fun q => .sc (.int .i64 q)) x8)))] := by
  refine Fn.bodyE (fn := Tryd.f18) (c := _) tabOK mixed (GE_plain er) Tryd.func18 rfl rfl [(0, b0), (1, b1), (2, b2)] [(.ptr 0 [] ly66), (.int .i64 x6)] [(.var (.cons (.dv (.sc (.slice none 0 0))) (.cons (.mp 1) (.cons (.mp 2) (.dv .nil))))), (.mp (.ints .u8 32) (mpD (fun q => .ints .u8 32 q) (fun q => .sc (.int .i64 q)) x7)), (.mp (.int .i64) (mpD (fun q => .sc (.int .i64 q)) (fun q => .sc (.int .i64 q)) x8))] [] (.int .i64 res) [(.var (.cons (.dv (.sc (.slice none 0 0))) (.cons (.mp 1) (.cons (.mp 2) (.dv .nil))))), (.mp (.ints .u8 32) (mpD (fun q => .ints .u8 32 q) (fun q => .sc (.int .i64 q)) x7)), (.mp (.int .i64) (mpD (fun q => .sc (.int .i64 q)) (fun q => .sc (.int .i64 q)) x8))] rfl rfl rfl rfl rfl rfl hn 3 ?_
  replace h := (show forest_Forest_At x6 x7 x8 = _ from h)
  unfold forest_Forest_At at h
  refine And.intro ?_ ?_
  · intro v hv
    obtain ⟨x9, hx, rfl⟩ := lk_some (kf := (fun q => .sc (.int .i64 q))) (vf := (fun q => .sc (.int .i64 q))) (fun _ _ => rfl) (k := x6) (es := x8) hv
    replace h := optK_s h hx
    obtain rfl := some_in h
    exact ⟨rfl, rfl, rfl, rfl, trivial⟩
  · intro hv
    have hx := lk_none (kf := (fun q => .sc (.int .i64 q))) (vf := (fun q => .sc (.int .i64 q))) (fun _ _ => rfl) (k := x6) (es := x8) hv
    replace h := optK_n h hx
    obtain rfl := some_in h
    exact ⟨rfl, rfl, rfl, rfl, trivial⟩
/- (*fellowship/forest.Forest).See ; not told: index of nil -/
def forest_Forest_See (x2 : Int) (x3 : T_forest_Mark) (x4 : List ((List Int) × Int)) (x5 : List (Int × Int)) : Option (Int × (List ((List Int) × Int)) × (List (Int × Int)) × (List T_forest_node)) :=
  (forest_Forest_At x2 x4 x5).bind fun x6 =>
    cond (!(x6 == (-1)))
      (none)
      (optK (lk x3.fID x4)
        (fun x7 =>
          none)
        (if ((List.length [({ fMark := x3, fparent := x6 } : T_forest_node)]) : Int) * 208 ≤ 140737488355328 then
          optK (lk x3.fID x4)
            (fun x8 =>
              optK (lk x2 x5)
                (fun x9 =>
                  some ((IntKind.wrap .i64 (((List.length [({ fMark := x3, fparent := x6 } : T_forest_node)]) : Int) - 1)), (st x3.fID (IntKind.wrap .i64 (((List.length [({ fMark := x3, fparent := x6 } : T_forest_node)]) : Int) - 1)) x4), (st x2 (IntKind.wrap .i64 (((List.length [({ fMark := x3, fparent := x6 } : T_forest_node)]) : Int) - 1)) x5), [({ fMark := x3, fparent := x6 } : T_forest_node)]))
                (some ((IntKind.wrap .i64 (((List.length [({ fMark := x3, fparent := x6 } : T_forest_node)]) : Int) - 1)), (st x3.fID (IntKind.wrap .i64 (((List.length [({ fMark := x3, fparent := x6 } : T_forest_node)]) : Int) - 1)) x4), (st x2 (IntKind.wrap .i64 (((List.length [({ fMark := x3, fparent := x6 } : T_forest_node)]) : Int) - 1)) x5), [({ fMark := x3, fparent := x6 } : T_forest_node)])))
            (optK (lk x2 x5)
              (fun x10 =>
                some ((IntKind.wrap .i64 (((List.length [({ fMark := x3, fparent := x6 } : T_forest_node)]) : Int) - 1)), (st x3.fID (IntKind.wrap .i64 (((List.length [({ fMark := x3, fparent := x6 } : T_forest_node)]) : Int) - 1)) x4), (st x2 (IntKind.wrap .i64 (((List.length [({ fMark := x3, fparent := x6 } : T_forest_node)]) : Int) - 1)) x5), [({ fMark := x3, fparent := x6 } : T_forest_node)]))
              (some ((IntKind.wrap .i64 (((List.length [({ fMark := x3, fparent := x6 } : T_forest_node)]) : Int) - 1)), (st x3.fID (IntKind.wrap .i64 (((List.length [({ fMark := x3, fparent := x6 } : T_forest_node)]) : Int) - 1)) x4), (st x2 (IntKind.wrap .i64 (((List.length [({ fMark := x3, fparent := x6 } : T_forest_node)]) : Int) - 1)) x5), [({ fMark := x3, fparent := x6 } : T_forest_node)])))
        else none))
theorem forest_Forest_See_c (b0 b1 b2 k0 : Nat) (hn : [b0, b1, b2, k0].Nodup) (x2 : Int) (x3 : T_forest_Mark) (x4 : List ((List Int) × Int)) (x5 : List (Int × Int)) (res : Int × (List ((List Int) × Int)) × (List (Int × Int)) × (List T_forest_node)) (h : forest_Forest_See x2 x3 x4 x5 = some res) :
    Fn Tryd.prog (GE er) 10 [(.ptr b0 [] ly66), (.int .i64 x2), (.dv (T_forest_Mark.dv x3))] [(b0, (.var (.cons (.dv (.sc (.slice none 0 0))) (.cons (.mp b1) (.cons (.mp b2) (.dv .nil)))))), (b1, (.mp (.ints .u8 32) (mpD (fun q => .ints .u8 32 q) (fun q => .sc (.int .i64 q)) x4))), (b2, (.mp (.int .i64) (mpD (fun q => .sc (.int .i64 q)) (fun q => .sc (.int .i64 q)) x5)))] (.tup [(.int .i64 res.1), (.dv (.sc .nilIface))]) [(b0, (.var (.cons (.sl k0 [] ly68 0 (List.length res.2.2.2)) (.cons (.mp b1) (.cons (.mp b2) (.dv .nil)))))), (b1, (.mp (.ints .u8 32) (mpD (fun q => .ints .u8 32 q) (fun q => .sc (.int .i64 q)) res.2.1))), (b2, (.mp (.int .i64) (mpD (fun q => .sc (.int .i64 q)) (fun q => .sc (.int .i64 q)) res.2.2.1))), (k0, (.row ly68 (List.length res.2.2.2) (rw_ T_forest_node.dv T_forest_node.z res.2.2.2)))] := by
  refine Fn.bodyE (fn := Tryd.f10) (c := _) tabOK mixed (GE_plain er) Tryd.func10 rfl rfl [(0, b0), (1, b1), (2, b2), (5, k0)] [(.ptr 0 [] ly66), (.int .i64 x2), (.dv (T_forest_Mark.dv x3))] [(.var (.cons (.dv (.sc (.slice none 0 0))) (.cons (.mp 1) (.cons (.mp 2) (.dv .nil))))), (.mp (.ints .u8 32) (mpD (fun q => .ints .u8 32 q) (fun q => .sc (.int .i64 q)) x4)), (.mp (.int .i64) (mpD (fun q => .sc (.int .i64 q)) (fun q => .sc (.int .i64 q)) x5))] [5] (.tup [(.int .i64 res.1), (.dv (.sc .nilIface))]) [(.var (.cons (.sl 5 [] ly68 0 (List.length res.2.2.2)) (.cons (.mp 1) (.cons (.mp 2) (.dv .nil))))), (.mp (.ints .u8 32) (mpD (fun q => .ints .u8 32 q) (fun q => .sc (.int .i64 q)) res.2.1)), (.mp (.int .i64) (mpD (fun q => .sc (.int .i64 q)) (fun q => .sc (.int .i64 q)) res.2.2.1)), (.row ly68 (List.length res.2.2.2) (rw_ T_forest_node.dv T_forest_node.z res.2.2.2))] rfl rfl rfl rfl rfl rfl hn 3 ?_
  replace h := (show forest_Forest_See x2 x3 x4 x5 = _ from h)
  unfold forest_Forest_See at h
  obtain ⟨x6, hc10, h⟩ := bnd h
  refine ⟨[], _, _, _, ⟨⟨_, forest_Forest_At_c er 0 1 2 (by decide) x2 x4 x5 x6 hc10, ⟨.inl rfl, .inl rfl, trivial⟩⟩, ⟨⟨rfl, rfl⟩, ⟨rfl, rfl⟩, ⟨rfl, rfl⟩, trivial⟩, rfl⟩, ?_⟩
  refine Or.inl ?_
  refine And.intro (fun hb => ?_) (fun hb => ?_)
  · replace h := cond_t h hb
    exact no_none h
  · replace h := cond_f h hb
    refine And.intro ?_ ?_
    · intro v hv
      obtain ⟨x7, hx, rfl⟩ := lk_some (kf := (fun q => .ints .u8 32 q)) (vf := (fun q => .sc (.int .i64 q))) (fun _ _ => rfl) (k := x3.fID) (es := x4) hv
      replace h := optK_s h hx
      exact no_none h
    · intro hv
      have hx := lk_none (kf := (fun q => .ints .u8 32 q)) (vf := (fun q => .sc (.int .i64 q))) (fun _ _ => rfl) (k := x3.fID) (es := x4) hv
      replace h := optK_n h hx
      refine ⟨(List.length [({ fMark := x3, fparent := x6 } : T_forest_node)]), (rw_ T_forest_node.dv T_forest_node.z [({ fMark := x3, fparent := x6 } : T_forest_node)]), ⟨rfl, fun j hj => match j, hj with | 0, _ => rfl | _ + 1, hj => absurd hj (by omega)⟩, ?_⟩
      obtain ⟨hg, h⟩ := gd h
      refine And.intro hg ?_
      refine ⟨(List.length [({ fMark := x3, fparent := x6 } : T_forest_node)]), (rw_ T_forest_node.dv T_forest_node.z [({ fMark := x3, fparent := x6 } : T_forest_node)]), ⟨rfl, fun j _ => rfl⟩, 0, (List.length [({ fMark := x3, fparent := x6 } : T_forest_node)]), ⟨rfl, rfl⟩, ?_⟩
      refine And.intro ?_ ?_
      · intro v hv
        obtain ⟨x8, hx, rfl⟩ := lk_some (kf := (fun q => .ints .u8 32 q)) (vf := (fun q => .sc (.int .i64 q))) (fun _ _ => rfl) (k := x3.fID) (es := x4) hv
        replace h := optK_s h hx
        refine ⟨_, rfl, ?_⟩
        refine ⟨(mpD (fun q => .ints .u8 32 q) (fun q => .sc (.int .i64 q)) (st x3.fID (IntKind.wrap .i64 (((List.length [({ fMark := x3, fparent := x6 } : T_forest_node)]) : Int) - 1)) x4)), st_mp (fun _ _ => rfl) _ _ _, ?_⟩
        refine And.intro ?_ ?_
        · intro v hv
          obtain ⟨x9, hx, rfl⟩ := lk_some (kf := (fun q => .sc (.int .i64 q))) (vf := (fun q => .sc (.int .i64 q))) (fun _ _ => rfl) (k := x2) (es := x5) hv
          replace h := optK_s h hx
          refine ⟨_, rfl, ?_⟩
          refine ⟨(mpD (fun q => .sc (.int .i64 q)) (fun q => .sc (.int .i64 q)) (st x2 (IntKind.wrap .i64 (((List.length [({ fMark := x3, fparent := x6 } : T_forest_node)]) : Int) - 1)) x5)), st_mp (fun _ _ => rfl) _ _ _, ?_⟩
          obtain rfl := some_in h
          exact ⟨rfl, rfl, rfl, rfl, rfl, trivial⟩
        · intro hv
          have hx := lk_none (kf := (fun q => .sc (.int .i64 q))) (vf := (fun q => .sc (.int .i64 q))) (fun _ _ => rfl) (k := x2) (es := x5) hv
          replace h := optK_n h hx
          refine ⟨(mpD (fun q => .sc (.int .i64 q)) (fun q => .sc (.int .i64 q)) (st x2 0 x5)), st_mp (fun _ _ => rfl) _ _ _, ?_⟩
          refine ⟨(mpD (fun q => .sc (.int .i64 q)) (fun q => .sc (.int .i64 q)) (st x2 (IntKind.wrap .i64 (((List.length [({ fMark := x3, fparent := x6 } : T_forest_node)]) : Int) - 1)) x5)), st_mp2 (fun _ _ => rfl) _ _ 0 _, ?_⟩
          obtain rfl := some_in h
          exact ⟨rfl, rfl, rfl, rfl, rfl, trivial⟩
      · intro hv
        have hx := lk_none (kf := (fun q => .ints .u8 32 q)) (vf := (fun q => .sc (.int .i64 q))) (fun _ _ => rfl) (k := x3.fID) (es := x4) hv
        replace h := optK_n h hx
        refine ⟨(mpD (fun q => .ints .u8 32 q) (fun q => .sc (.int .i64 q)) (st x3.fID 0 x4)), st_mp (fun _ _ => rfl) _ _ _, ?_⟩
        refine ⟨(mpD (fun q => .ints .u8 32 q) (fun q => .sc (.int .i64 q)) (st x3.fID (IntKind.wrap .i64 (((List.length [({ fMark := x3, fparent := x6 } : T_forest_node)]) : Int) - 1)) x4)), st_mp2 (fun _ _ => rfl) _ _ 0 _, ?_⟩
        refine And.intro ?_ ?_
        · intro v hv
          obtain ⟨x10, hx, rfl⟩ := lk_some (kf := (fun q => .sc (.int .i64 q))) (vf := (fun q => .sc (.int .i64 q))) (fun _ _ => rfl) (k := x2) (es := x5) hv
          replace h := optK_s h hx
          refine ⟨_, rfl, ?_⟩
          refine ⟨(mpD (fun q => .sc (.int .i64 q)) (fun q => .sc (.int .i64 q)) (st x2 (IntKind.wrap .i64 (((List.length [({ fMark := x3, fparent := x6 } : T_forest_node)]) : Int) - 1)) x5)), st_mp (fun _ _ => rfl) _ _ _, ?_⟩
          obtain rfl := some_in h
          exact ⟨rfl, rfl, rfl, rfl, rfl, trivial⟩
        · intro hv
          have hx := lk_none (kf := (fun q => .sc (.int .i64 q))) (vf := (fun q => .sc (.int .i64 q))) (fun _ _ => rfl) (k := x2) (es := x5) hv
          replace h := optK_n h hx
          refine ⟨(mpD (fun q => .sc (.int .i64 q)) (fun q => .sc (.int .i64 q)) (st x2 0 x5)), st_mp (fun _ _ => rfl) _ _ _, ?_⟩
          refine ⟨(mpD (fun q => .sc (.int .i64 q)) (fun q => .sc (.int .i64 q)) (st x2 (IntKind.wrap .i64 (((List.length [({ fMark := x3, fparent := x6 } : T_forest_node)]) : Int) - 1)) x5)), st_mp2 (fun _ _ => rfl) _ _ 0 _, ?_⟩
          obtain rfl := some_in h
          exact ⟨rfl, rfl, rfl, rfl, rfl, trivial⟩
/- (*fellowship/forest.Forest).At -/
def forest_Forest_At_2 (x20 : Int) (x21 : List T_forest_node) (x22 : List ((List Int) × Int)) (x23 : List (Int × Int)) : Option Int :=
  optK (lk x20 x23)
    (fun x24 =>
      some x24)
    (some (-1))
theorem forest_Forest_At_2_c (b0 b1 b2 b3 : Nat) (hn : [b0, b1, b2, b3].Nodup) (x20 : Int) (x21 : List T_forest_node) (x22 : List ((List Int) × Int)) (x23 : List (Int × Int)) (res : Int) (h : forest_Forest_At_2 x20 x21 x22 x23 = some res) :
    Fn Tryd.prog (GE er) 18 [(.ptr b0 [] ly66), (.int .i64 x20)] [(b0, (.var (.cons (.sl b1 [] ly68 0 (List.length x21)) (.cons (.mp b2) (.cons (.mp b3) (.dv .nil)))))), (b1, (.row ly68 (List.length x21) (rw_ T_forest_node.dv T_forest_node.z x21))), (b2, (.mp (.ints .u8 32) (mpD (fun q => .ints .u8 32 q) (fun q => .sc (.int .i64 q)) x22))), (b3, (.mp (.int .i64) (mpD (fun q => .sc (.int .i64 q)) (fun q => .sc (.int .i64 q)) x23)))] (.int .i64 res) [(b0, (.var (.cons (.sl b1 [] ly68 0 (List.length x21)) (.cons (.mp b2) (.cons (.mp b3) (.dv .nil)))))), (b1, (.row ly68 (List.length x21) (rw_ T_forest_node.dv T_forest_node.z x21))), (b2, (.mp (.ints .u8 32) (mpD (fun q => .ints .u8 32 q) (fun q => .sc (.int .i64 q)) x22))), (b3, (.mp (.int .i64) (mpD (fun q => .sc (.int .i64 q)) (fun q => .sc (.int .i64 q)) x23)))] := by
  refine Fn.bodyE (fn := Tryd.f18) (c := _) tabOK mixed (GE_plain er) Tryd.func18 rfl rfl [(0, b0), (1, b1), (2, b2), (3, b3)] [(.ptr 0 [] ly66), (.int .i64 x20)] [(.var (.cons (.sl 1 [] ly68 0 (List.length x21)) (.cons (.mp 2) (.cons (.mp 3) (.dv .nil))))), (.row ly68 (List.length x21) (rw_ T_forest_node.dv T_forest_node.z x21)), (.mp (.ints .u8 32) (mpD (fun q => .ints .u8 32 q) (fun q => .sc (.int .i64 q)) x22)), (.mp (.int .i64) (mpD (fun q => .sc (.int .i64 q)) (fun q => .sc (.int .i64 q)) x23))] [] (.int .i64 res) [(.var (.cons (.sl 1 [] ly68 0 (List.length x21)) (.cons (.mp 2) (.cons (.mp 3) (.dv .nil))))), (.row ly68 (List.length x21) (rw_ T_forest_node.dv T_forest_node.z x21)), (.mp (.ints .u8 32) (mpD (fun q => .ints .u8 32 q) (fun q => .sc (.int .i64 q)) x22)), (.mp (.int .i64) (mpD (fun q => .sc (.int .i64 q)) (fun q => .sc (.int .i64 q)) x23))] rfl rfl rfl rfl rfl rfl hn 3 ?_
  replace h := (show forest_Forest_At_2 x20 x21 x22 x23 = _ from h)
  unfold forest_Forest_At_2 at h
  refine And.intro ?_ ?_
  · intro v hv
    obtain ⟨x24, hx, rfl⟩ := lk_some (kf := (fun q => .sc (.int .i64 q))) (vf := (fun q => .sc (.int .i64 q))) (fun _ _ => rfl) (k := x20) (es := x23) hv
    replace h := optK_s h hx
    obtain rfl := some_in h
    exact ⟨rfl, rfl, rfl, rfl, rfl, trivial⟩
  · intro hv
    have hx := lk_none (kf := (fun q => .sc (.int .i64 q))) (vf := (fun q => .sc (.int .i64 q))) (fun _ _ => rfl) (k := x20) (es := x23) hv
    replace h := optK_n h hx
    obtain rfl := some_in h
    exact ⟨rfl, rfl, rfl, rfl, rfl, trivial⟩
/- (fellowship/forest.Mark).follows -/
def forest_Mark_follows (x26 : T_forest_Mark) (x27 : T_forest_Mark) : Option Bool :=
  cond (x26.fGroup == x27.fGroup)
    (cond (decide (x26.fEpoch > x27.fEpoch))
      (some ((IntKind.wrap .i64 (x26.fEpoch - x27.fEpoch)) == 1))
      (some false))
    (some false)
theorem forest_Mark_follows_c (x26 : T_forest_Mark) (x27 : T_forest_Mark) (res : Bool) (h : forest_Mark_follows x26 x27 = some res) :
    Fn Tryd.prog (GE er) 19 [(.dv (T_forest_Mark.dv x26)), (.dv (T_forest_Mark.dv x27))] [] (.bl res) [] := by
  refine Fn.bodyE (fn := Tryd.f19) (c := _) tabOK mixed (GE_plain er) Tryd.func19 rfl rfl [] [(.dv (T_forest_Mark.dv x26)), (.dv (T_forest_Mark.dv x27))] [] [] (.bl res) [] rfl rfl rfl rfl rfl rfl .nil 3 ?_
  replace h := (show forest_Mark_follows x26 x27 = _ from h)
  unfold forest_Mark_follows at h
  refine And.intro (fun hb => ?_) (fun hb => ?_)
  · replace h := cond_t h hb
    refine And.intro (fun hb => ?_) (fun hb => ?_)
    · replace h := cond_t h hb
      obtain rfl := some_in h
      exact ⟨rfl, trivial⟩
    · replace h := cond_f h hb
      obtain rfl := some_in h
      exact ⟨rfl, trivial⟩
  · replace h := cond_f h hb
    obtain rfl := some_in h
    exact ⟨rfl, trivial⟩
/- (*fellowship/forest.Forest).See -/
def forest_Forest_See_2 (x15 : Int) (x16 : T_forest_Mark) (x17 : List T_forest_node) (x18 : List ((List Int) × Int)) (x19 : List (Int × Int)) : Option (((Int × (List T_forest_node) × (List (Int × Int))) ⊕ ((Int × (List ((List Int) × Int)) × (List (Int × Int)) × (List T_forest_node)) ⊕ Nat))) :=
  (forest_Forest_At_2 x15 x17 x18 x19).bind fun x20 =>
    ((cond (!(x20 == (-1)))
      (if 0 ≤ x20 ∧ x20 < ((List.length x17) : Int) then
        cond (T_forest_Mark.same ((List.getD x17 (Int.toNat x20) T_forest_node.z).fMark) x16)
          (some (Sum.inr (Sum.inl ())))
          ((forest_Mark_follows x16 ((List.getD x17 (Int.toNat x20) T_forest_node.z).fMark)).bind fun x21 =>
            cond (!x21)
              (some (Sum.inr (Sum.inr ())))
              (some (Sum.inl ())))
      else none)
      (some (Sum.inl ())) : Option ((Unit ⊕ (Unit ⊕ Unit))))).bind fun r1_0_20 => match r1_0_20 with
    | (Sum.inl ()) =>
        optK (lk x16.fID x18)
          (fun x22 =>
            if 0 ≤ x22 ∧ x22 < ((List.length x17) : Int) then
              ((cond (!(T_forest_Mark.same ((List.getD x17 (Int.toNat x22) T_forest_node.z).fMark) x16))
                (some (Sum.inr 19))
                (cond (!((List.getD x17 (Int.toNat x22) T_forest_node.z).fparent == (-1)))
                  (cond (!(x20 == (-1)))
                    (cond (!((List.getD x17 (Int.toNat x22) T_forest_node.z).fparent == x20))
                      (some (Sum.inr 13))
                      (((cond ((List.getD x17 (Int.toNat x22) T_forest_node.z).fparent == (-1))
                        (if (List.length x17) ≤ (List.length x17) then
                          some (List.set x17 (Int.toNat x22) ({ (List.getD x17 (Int.toNat x22) T_forest_node.z) with fparent := x20 }))
                        else none)
                        (some x17) : Option ((List T_forest_node)))).bind fun x25 =>
                        some (Sum.inl x25)))
                    (((cond ((List.getD x17 (Int.toNat x22) T_forest_node.z).fparent == (-1))
                      (if (List.length x17) ≤ (List.length x17) then
                        some (List.set x17 (Int.toNat x22) ({ (List.getD x17 (Int.toNat x22) T_forest_node.z) with fparent := x20 }))
                      else none)
                      (some x17) : Option ((List T_forest_node)))).bind fun x26 =>
                      some (Sum.inl x26)))
                  (((cond ((List.getD x17 (Int.toNat x22) T_forest_node.z).fparent == (-1))
                    (if (List.length x17) ≤ (List.length x17) then
                      some (List.set x17 (Int.toNat x22) ({ (List.getD x17 (Int.toNat x22) T_forest_node.z) with fparent := x20 }))
                    else none)
                    (some x17) : Option ((List T_forest_node)))).bind fun x27 =>
                    some (Sum.inl x27))) : Option ((((List T_forest_node)) ⊕ Nat)))).bind fun r2_0_24 => match r2_0_24 with
              | (Sum.inl x23) =>
                  some (Sum.inl (x22, x23, (st x15 x22 x19)))
              | (Sum.inr x24) =>
                  some (Sum.inr (Sum.inr x24))
            else none)
          (if (((List.length x17) : Int) + (List.length [({ fMark := x16, fparent := x20 } : T_forest_node)])) * 208 ≤ 140737488355328 then
            optK (lk x16.fID x18)
              (fun x28 =>
                optK (lk x15 x19)
                  (fun x29 =>
                    some (Sum.inr (Sum.inl ((IntKind.wrap .i64 (((List.length (x17 ++ [({ fMark := x16, fparent := x20 } : T_forest_node)])) : Int) - 1)), (st x16.fID (IntKind.wrap .i64 (((List.length (x17 ++ [({ fMark := x16, fparent := x20 } : T_forest_node)])) : Int) - 1)) x18), (st x15 (IntKind.wrap .i64 (((List.length (x17 ++ [({ fMark := x16, fparent := x20 } : T_forest_node)])) : Int) - 1)) x19), (x17 ++ [({ fMark := x16, fparent := x20 } : T_forest_node)])))))
                  (some (Sum.inr (Sum.inl ((IntKind.wrap .i64 (((List.length (x17 ++ [({ fMark := x16, fparent := x20 } : T_forest_node)])) : Int) - 1)), (st x16.fID (IntKind.wrap .i64 (((List.length (x17 ++ [({ fMark := x16, fparent := x20 } : T_forest_node)])) : Int) - 1)) x18), (st x15 (IntKind.wrap .i64 (((List.length (x17 ++ [({ fMark := x16, fparent := x20 } : T_forest_node)])) : Int) - 1)) x19), (x17 ++ [({ fMark := x16, fparent := x20 } : T_forest_node)]))))))
              (optK (lk x15 x19)
                (fun x30 =>
                  some (Sum.inr (Sum.inl ((IntKind.wrap .i64 (((List.length (x17 ++ [({ fMark := x16, fparent := x20 } : T_forest_node)])) : Int) - 1)), (st x16.fID (IntKind.wrap .i64 (((List.length (x17 ++ [({ fMark := x16, fparent := x20 } : T_forest_node)])) : Int) - 1)) x18), (st x15 (IntKind.wrap .i64 (((List.length (x17 ++ [({ fMark := x16, fparent := x20 } : T_forest_node)])) : Int) - 1)) x19), (x17 ++ [({ fMark := x16, fparent := x20 } : T_forest_node)])))))
                (some (Sum.inr (Sum.inl ((IntKind.wrap .i64 (((List.length (x17 ++ [({ fMark := x16, fparent := x20 } : T_forest_node)])) : Int) - 1)), (st x16.fID (IntKind.wrap .i64 (((List.length (x17 ++ [({ fMark := x16, fparent := x20 } : T_forest_node)])) : Int) - 1)) x18), (st x15 (IntKind.wrap .i64 (((List.length (x17 ++ [({ fMark := x16, fparent := x20 } : T_forest_node)])) : Int) - 1)) x19), (x17 ++ [({ fMark := x16, fparent := x20 } : T_forest_node)]))))))
          else none)
    | (Sum.inr (Sum.inl ())) =>
        some (Sum.inl (x20, x17, x19))
    | (Sum.inr (Sum.inr ())) =>
        some (Sum.inr (Sum.inr 18))
theorem forest_Forest_See_2_c (b0 b1 b2 b3 k0 : Nat) (hn : [b0, b1, b2, b3, k0].Nodup) (x15 : Int) (x16 : T_forest_Mark) (x17 : List T_forest_node) (x18 : List ((List Int) × Int)) (x19 : List (Int × Int)) (res : ((Int × (List T_forest_node) × (List (Int × Int))) ⊕ ((Int × (List ((List Int) × Int)) × (List (Int × Int)) × (List T_forest_node)) ⊕ Nat))) (h : forest_Forest_See_2 x15 x16 x17 x18 x19 = some res) :
    Fn Tryd.prog (GE er) 10 [(.ptr b0 [] ly66), (.int .i64 x15), (.dv (T_forest_Mark.dv x16))] [(b0, (.var (.cons (.sl b1 [] ly68 0 (List.length x17)) (.cons (.mp b2) (.cons (.mp b3) (.dv .nil)))))), (b1, (.row ly68 (List.length x17) (rw_ T_forest_node.dv T_forest_node.z x17))), (b2, (.mp (.ints .u8 32) (mpD (fun q => .ints .u8 32 q) (fun q => .sc (.int .i64 q)) x18))), (b3, (.mp (.int .i64) (mpD (fun q => .sc (.int .i64 q)) (fun q => .sc (.int .i64 q)) x19)))] (match res with | (Sum.inl (p0, p1, p2)) => (.tup [(.int .i64 p0), (.dv (.sc .nilIface))]) | (Sum.inr (Sum.inl (p0, p1, p2, p3))) => (.tup [(.int .i64 p0), (.dv (.sc .nilIface))]) | (Sum.inr (Sum.inr p0)) => (.tup [(.int .i64 (-1)), (errA er p0)])) (match res with | (Sum.inl (p0, p1, p2)) => [(b0, (.var (.cons (.sl b1 [] ly68 0 (List.length p1)) (.cons (.mp b2) (.cons (.mp b3) (.dv .nil)))))), (b1, (.row ly68 (List.length p1) (rw_ T_forest_node.dv T_forest_node.z p1))), (b2, (.mp (.ints .u8 32) (mpD (fun q => .ints .u8 32 q) (fun q => .sc (.int .i64 q)) x18))), (b3, (.mp (.int .i64) (mpD (fun q => .sc (.int .i64 q)) (fun q => .sc (.int .i64 q)) p2)))] | (Sum.inr (Sum.inl (p0, p1, p2, p3))) => [(b0, (.var (.cons (.sl k0 [] ly68 0 (List.length p3)) (.cons (.mp b2) (.cons (.mp b3) (.dv .nil)))))), (b1, .dead), (b2, (.mp (.ints .u8 32) (mpD (fun q => .ints .u8 32 q) (fun q => .sc (.int .i64 q)) p1))), (b3, (.mp (.int .i64) (mpD (fun q => .sc (.int .i64 q)) (fun q => .sc (.int .i64 q)) p2))), (k0, (.row ly68 (List.length p3) (rw_ T_forest_node.dv T_forest_node.z p3)))] | (Sum.inr (Sum.inr p0)) => [(b0, (.var (.cons (.sl b1 [] ly68 0 (List.length x17)) (.cons (.mp b2) (.cons (.mp b3) (.dv .nil)))))), (b1, (.row ly68 (List.length x17) (rw_ T_forest_node.dv T_forest_node.z x17))), (b2, (.mp (.ints .u8 32) (mpD (fun q => .ints .u8 32 q) (fun q => .sc (.int .i64 q)) x18))), (b3, (.mp (.int .i64) (mpD (fun q => .sc (.int .i64 q)) (fun q => .sc (.int .i64 q)) x19)))]) := by
  refine Fn.bodyE (fn := Tryd.f10) (c := _) tabOK mixed (GE_plain er) Tryd.func10 rfl rfl ((0, b0) :: (1, b1) :: (2, b2) :: (3, b3) :: (match res with | (Sum.inl (p0, p1, p2)) => [] | (Sum.inr (Sum.inl (p0, p1, p2, p3))) => [(6, k0)] | (Sum.inr (Sum.inr p0)) => [])) [(.ptr 0 [] ly66), (.int .i64 x15), (.dv (T_forest_Mark.dv x16))] [(.var (.cons (.sl 1 [] ly68 0 (List.length x17)) (.cons (.mp 2) (.cons (.mp 3) (.dv .nil))))), (.row ly68 (List.length x17) (rw_ T_forest_node.dv T_forest_node.z x17)), (.mp (.ints .u8 32) (mpD (fun q => .ints .u8 32 q) (fun q => .sc (.int .i64 q)) x18)), (.mp (.int .i64) (mpD (fun q => .sc (.int .i64 q)) (fun q => .sc (.int .i64 q)) x19))] (match res with | (Sum.inl (p0, p1, p2)) => [] | (Sum.inr (Sum.inl (p0, p1, p2, p3))) => [6] | (Sum.inr (Sum.inr p0)) => []) (match res with | (Sum.inl (p0, p1, p2)) => (.tup [(.int .i64 p0), (.dv (.sc .nilIface))]) | (Sum.inr (Sum.inl (p0, p1, p2, p3))) => (.tup [(.int .i64 p0), (.dv (.sc .nilIface))]) | (Sum.inr (Sum.inr p0)) => (.tup [(.int .i64 (-1)), (errA er p0)])) (match res with | (Sum.inl (p0, p1, p2)) => [(.var (.cons (.sl 1 [] ly68 0 (List.length p1)) (.cons (.mp 2) (.cons (.mp 3) (.dv .nil))))), (.row ly68 (List.length p1) (rw_ T_forest_node.dv T_forest_node.z p1)), (.mp (.ints .u8 32) (mpD (fun q => .ints .u8 32 q) (fun q => .sc (.int .i64 q)) x18)), (.mp (.int .i64) (mpD (fun q => .sc (.int .i64 q)) (fun q => .sc (.int .i64 q)) p2))] | (Sum.inr (Sum.inl (p0, p1, p2, p3))) => [(.var (.cons (.sl 6 [] ly68 0 (List.length p3)) (.cons (.mp 2) (.cons (.mp 3) (.dv .nil))))), .dead, (.mp (.ints .u8 32) (mpD (fun q => .ints .u8 32 q) (fun q => .sc (.int .i64 q)) p1)), (.mp (.int .i64) (mpD (fun q => .sc (.int .i64 q)) (fun q => .sc (.int .i64 q)) p2)), (.row ly68 (List.length p3) (rw_ T_forest_node.dv T_forest_node.z p3))] | (Sum.inr (Sum.inr p0)) => [(.var (.cons (.sl 1 [] ly68 0 (List.length x17)) (.cons (.mp 2) (.cons (.mp 3) (.dv .nil))))), (.row ly68 (List.length x17) (rw_ T_forest_node.dv T_forest_node.z x17)), (.mp (.ints .u8 32) (mpD (fun q => .ints .u8 32 q) (fun q => .sc (.int .i64 q)) x18)), (.mp (.int .i64) (mpD (fun q => .sc (.int .i64 q)) (fun q => .sc (.int .i64 q)) x19))]) rfl rfl (by rcases res with _ | _ | _ <;> rfl) (by rcases res with _ | _ | _ <;> rfl) (by rcases res with _ | _ | _ <;> rfl) (by rcases res with _ | _ | _ <;> rfl) (by rcases res with _ | _ | _ <;> first | exact hn.sublist (.cons_cons _ (.cons_cons _ (.cons_cons _ (.cons_cons _ (.cons _ .slnil))))) | exact hn.sublist (.cons_cons _ (.cons_cons _ (.cons_cons _ (.cons_cons _ (.cons_cons _ .slnil))))) | exact hn.sublist (.cons_cons _ (.cons_cons _ (.cons_cons _ (.cons_cons _ (.cons _ .slnil)))))) 3 ?_
  replace h := (show forest_Forest_See_2 x15 x16 x17 x18 x19 = _ from h)
  unfold forest_Forest_See_2 at h
  obtain ⟨x20, hc30, h⟩ := bnd h
  refine ⟨[], _, _, _, ⟨⟨_, forest_Forest_At_2_c er 0 1 2 3 (by decide) x15 x17 x18 x19 x20 hc30, ⟨.inl rfl, .inl rfl, trivial⟩⟩, ⟨⟨rfl, rfl⟩, ⟨rfl, rfl⟩, ⟨rfl, rfl⟩, ⟨rfl, rfl⟩, trivial⟩, rfl⟩, ?_⟩
  obtain ⟨r1_0_20, hl1_20, hr1_20⟩ := bnd h
  refine Or.inr ⟨{p : Unit // (Sum.inl p) = r1_0_20}, ⟨fun | ⟨(), _⟩ => [(6, (.int .i64 0)), (7, (.dv (.sc .nilIface)))], fun | ⟨(), _⟩ => [], fun _ => 0⟩, 0, ?_, ?_⟩
  · rintro ⟨⟨⟩, hp⟩
    subst hp
    replace h := hr1_20
    refine And.intro ?_ ?_
    · intro v hv
      obtain ⟨x22, hx, rfl⟩ := lk_some (kf := (fun q => .ints .u8 32 q)) (vf := (fun q => .sc (.int .i64 q))) (fun _ _ => rfl) (k := x16.fID) (es := x18) hv
      replace h := optK_s h hx
      obtain ⟨hg, h⟩ := gd h
      refine And.intro hg ?_
      obtain ⟨r2_0_24, hl2_24, hr2_24⟩ := bnd h
      refine Or.inr ⟨{p : (List T_forest_node) // (Sum.inl p) = r2_0_24}, ⟨fun | ⟨x23, _⟩ => [(6, (.int .i64 0)), (7, (.dv (.sc .nilIface)))], fun | ⟨x23, _⟩ => [(0, (.var (.cons (.sl 1 [] ly68 0 (List.length x23)) (.cons (.mp 2) (.cons (.mp 3) (.dv .nil)))))), (1, (.row ly68 (List.length x23) (rw_ T_forest_node.dv T_forest_node.z x23)))], fun _ => 0⟩, 0, ?_, ?_⟩
      · rintro ⟨x23, hp⟩
        subst hp
        replace h := hr2_24
        refine ⟨(mpD (fun q => .sc (.int .i64 q)) (fun q => .sc (.int .i64 q)) (st x15 x22 x19)), st_mp (fun _ _ => rfl) _ _ _, ?_⟩
        obtain rfl := some_in h
        exact ⟨rfl, rfl, rfl, rfl, rfl, trivial⟩
      · replace h := hl2_24
        refine And.intro (fun hb => ?_) (fun hb => ?_)
        · replace h := cond_t h hb
          obtain rfl := some_in h
          replace h := hr2_24
          obtain rfl := some_in h
          exact ⟨rfl, rfl, rfl, rfl, rfl, trivial⟩
        · replace h := cond_f h hb
          refine And.intro (fun hb => ?_) (fun hb => ?_)
          · replace h := cond_t h hb
            refine And.intro (fun hb => ?_) (fun hb => ?_)
            · replace h := cond_t h hb
              refine And.intro (fun hb => ?_) (fun hb => ?_)
              · replace h := cond_t h hb
                obtain rfl := some_in h
                replace h := hr2_24
                obtain rfl := some_in h
                exact ⟨rfl, rfl, rfl, rfl, rfl, trivial⟩
              · replace h := cond_f h hb
                obtain ⟨r3_0_25, hl3_25, hr3_25⟩ := bnd h
                refine Or.inr ⟨{p : (List T_forest_node) // p = r3_0_25}, ⟨fun | ⟨x25, _⟩ => [], fun | ⟨x25, _⟩ => [(0, (.var (.cons (.sl 1 [] ly68 0 (List.length x25)) (.cons (.mp 2) (.cons (.mp 3) (.dv .nil)))))), (1, (.row ly68 (List.length x25) (rw_ T_forest_node.dv T_forest_node.z x25)))], fun _ => 0⟩, 0, ?_, ?_⟩
                · rintro ⟨x25, hp⟩
                  subst hp
                  replace h := hr3_25
                  exact ⟨[], [], ⟨x25, some_in h⟩, [], rfl, ⟨rfl, rfl, trivial⟩, ⟨rfl, rfl, rfl, rfl, rfl, trivial⟩, rfl⟩
                · replace h := hl3_25
                  refine And.intro (fun hb => ?_) (fun hb => ?_)
                  · replace h := cond_t h hb
                    obtain ⟨hg, h⟩ := gd h
                    refine ⟨_, (rw_ T_forest_node.dv T_forest_node.z (List.set x17 (Int.toNat x22) ({ (List.getD x17 (Int.toNat x22) T_forest_node.z) with fparent := x20 }))), ⟨rfl, rw_set T_forest_node.dv T_forest_node.z x17 ({ (List.getD x17 (Int.toNat x22) T_forest_node.z) with fparent := x20 }) hg rfl⟩, ?_⟩
                    exact ⟨[], [], ⟨(List.set x17 (Int.toNat x22) ({ (List.getD x17 (Int.toNat x22) T_forest_node.z) with fparent := x20 })), some_in h⟩, [], rfl, trivial, ⟨(show ((.var (.cons (.sl 1 [] ly68 0 (List.length x17)) (.cons (.mp 2) (.cons (.mp 3) (.dv .nil))))) : Blk) = ((.var (.cons (.sl 1 [] ly68 0 (List.length (List.set x17 (Int.toNat x22) ({ (List.getD x17 (Int.toNat x22) T_forest_node.z) with fparent := x20 })))) (.cons (.mp 2) (.cons (.mp 3) (.dv .nil))))) : Blk) by simp only [List.length_set]), (show ((.row ly68 (List.length x17) (rw_ T_forest_node.dv T_forest_node.z (List.set x17 (Int.toNat x22) ({ (List.getD x17 (Int.toNat x22) T_forest_node.z) with fparent := x20 })))) : Blk) = ((.row ly68 (List.length (List.set x17 (Int.toNat x22) ({ (List.getD x17 (Int.toNat x22) T_forest_node.z) with fparent := x20 }))) (rw_ T_forest_node.dv T_forest_node.z (List.set x17 (Int.toNat x22) ({ (List.getD x17 (Int.toNat x22) T_forest_node.z) with fparent := x20 })))) : Blk) by simp only [List.length_set]), rfl, rfl, rfl, trivial⟩, rfl⟩
                  · replace h := cond_f h hb
                    exact ⟨[], [], ⟨x17, some_in h⟩, [], rfl, trivial, ⟨rfl, rfl, rfl, rfl, rfl, trivial⟩, rfl⟩
            · replace h := cond_f h hb
              obtain ⟨r4_0_26, hl4_26, hr4_26⟩ := bnd h
              refine Or.inr ⟨{p : (List T_forest_node) // p = r4_0_26}, ⟨fun | ⟨x26, _⟩ => [], fun | ⟨x26, _⟩ => [(0, (.var (.cons (.sl 1 [] ly68 0 (List.length x26)) (.cons (.mp 2) (.cons (.mp 3) (.dv .nil)))))), (1, (.row ly68 (List.length x26) (rw_ T_forest_node.dv T_forest_node.z x26)))], fun _ => 0⟩, 0, ?_, ?_⟩
              · rintro ⟨x26, hp⟩
                subst hp
                replace h := hr4_26
                exact ⟨[], [], ⟨x26, some_in h⟩, [], rfl, ⟨rfl, rfl, trivial⟩, ⟨rfl, rfl, rfl, rfl, rfl, trivial⟩, rfl⟩
              · replace h := hl4_26
                refine And.intro (fun hb => ?_) (fun hb => ?_)
                · replace h := cond_t h hb
                  obtain ⟨hg, h⟩ := gd h
                  refine ⟨_, (rw_ T_forest_node.dv T_forest_node.z (List.set x17 (Int.toNat x22) ({ (List.getD x17 (Int.toNat x22) T_forest_node.z) with fparent := x20 }))), ⟨rfl, rw_set T_forest_node.dv T_forest_node.z x17 ({ (List.getD x17 (Int.toNat x22) T_forest_node.z) with fparent := x20 }) hg rfl⟩, ?_⟩
                  exact ⟨[], [], ⟨(List.set x17 (Int.toNat x22) ({ (List.getD x17 (Int.toNat x22) T_forest_node.z) with fparent := x20 })), some_in h⟩, [], rfl, trivial, ⟨(show ((.var (.cons (.sl 1 [] ly68 0 (List.length x17)) (.cons (.mp 2) (.cons (.mp 3) (.dv .nil))))) : Blk) = ((.var (.cons (.sl 1 [] ly68 0 (List.length (List.set x17 (Int.toNat x22) ({ (List.getD x17 (Int.toNat x22) T_forest_node.z) with fparent := x20 })))) (.cons (.mp 2) (.cons (.mp 3) (.dv .nil))))) : Blk) by simp only [List.length_set]), (show ((.row ly68 (List.length x17) (rw_ T_forest_node.dv T_forest_node.z (List.set x17 (Int.toNat x22) ({ (List.getD x17 (Int.toNat x22) T_forest_node.z) with fparent := x20 })))) : Blk) = ((.row ly68 (List.length (List.set x17 (Int.toNat x22) ({ (List.getD x17 (Int.toNat x22) T_forest_node.z) with fparent := x20 }))) (rw_ T_forest_node.dv T_forest_node.z (List.set x17 (Int.toNat x22) ({ (List.getD x17 (Int.toNat x22) T_forest_node.z) with fparent := x20 })))) : Blk) by simp only [List.length_set]), rfl, rfl, rfl, trivial⟩, rfl⟩
                · replace h := cond_f h hb
                  exact ⟨[], [], ⟨x17, some_in h⟩, [], rfl, trivial, ⟨rfl, rfl, rfl, rfl, rfl, trivial⟩, rfl⟩
          · replace h := cond_f h hb
            obtain ⟨r5_0_27, hl5_27, hr5_27⟩ := bnd h
            refine Or.inr ⟨{p : (List T_forest_node) // p = r5_0_27}, ⟨fun | ⟨x27, _⟩ => [], fun | ⟨x27, _⟩ => [(0, (.var (.cons (.sl 1 [] ly68 0 (List.length x27)) (.cons (.mp 2) (.cons (.mp 3) (.dv .nil)))))), (1, (.row ly68 (List.length x27) (rw_ T_forest_node.dv T_forest_node.z x27)))], fun _ => 0⟩, 0, ?_, ?_⟩
            · rintro ⟨x27, hp⟩
              subst hp
              replace h := hr5_27
              exact ⟨[], [], ⟨x27, some_in h⟩, [], rfl, ⟨rfl, rfl, trivial⟩, ⟨rfl, rfl, rfl, rfl, rfl, trivial⟩, rfl⟩
            · replace h := hl5_27
              refine And.intro (fun hb => ?_) (fun hb => ?_)
              · replace h := cond_t h hb
                obtain ⟨hg, h⟩ := gd h
                refine ⟨_, (rw_ T_forest_node.dv T_forest_node.z (List.set x17 (Int.toNat x22) ({ (List.getD x17 (Int.toNat x22) T_forest_node.z) with fparent := x20 }))), ⟨rfl, rw_set T_forest_node.dv T_forest_node.z x17 ({ (List.getD x17 (Int.toNat x22) T_forest_node.z) with fparent := x20 }) hg rfl⟩, ?_⟩
                exact ⟨[], [], ⟨(List.set x17 (Int.toNat x22) ({ (List.getD x17 (Int.toNat x22) T_forest_node.z) with fparent := x20 })), some_in h⟩, [], rfl, trivial, ⟨(show ((.var (.cons (.sl 1 [] ly68 0 (List.length x17)) (.cons (.mp 2) (.cons (.mp 3) (.dv .nil))))) : Blk) = ((.var (.cons (.sl 1 [] ly68 0 (List.length (List.set x17 (Int.toNat x22) ({ (List.getD x17 (Int.toNat x22) T_forest_node.z) with fparent := x20 })))) (.cons (.mp 2) (.cons (.mp 3) (.dv .nil))))) : Blk) by simp only [List.length_set]), (show ((.row ly68 (List.length x17) (rw_ T_forest_node.dv T_forest_node.z (List.set x17 (Int.toNat x22) ({ (List.getD x17 (Int.toNat x22) T_forest_node.z) with fparent := x20 })))) : Blk) = ((.row ly68 (List.length (List.set x17 (Int.toNat x22) ({ (List.getD x17 (Int.toNat x22) T_forest_node.z) with fparent := x20 }))) (rw_ T_forest_node.dv T_forest_node.z (List.set x17 (Int.toNat x22) ({ (List.getD x17 (Int.toNat x22) T_forest_node.z) with fparent := x20 })))) : Blk) by simp only [List.length_set]), rfl, rfl, rfl, trivial⟩, rfl⟩
              · replace h := cond_f h hb
                exact ⟨[], [], ⟨x17, some_in h⟩, [], rfl, trivial, ⟨rfl, rfl, rfl, rfl, rfl, trivial⟩, rfl⟩
    · intro hv
      have hx := lk_none (kf := (fun q => .ints .u8 32 q)) (vf := (fun q => .sc (.int .i64 q))) (fun _ _ => rfl) (k := x16.fID) (es := x18) hv
      replace h := optK_n h hx
      refine ⟨(List.length [({ fMark := x16, fparent := x20 } : T_forest_node)]), (rw_ T_forest_node.dv T_forest_node.z [({ fMark := x16, fparent := x20 } : T_forest_node)]), ⟨rfl, fun j hj => match j, hj with | 0, _ => rfl | _ + 1, hj => absurd hj (by omega)⟩, ?_⟩
      obtain ⟨hg, h⟩ := gd h
      refine And.intro hg ?_
      refine ⟨(List.length (x17 ++ [({ fMark := x16, fparent := x20 } : T_forest_node)])), (rw_ T_forest_node.dv T_forest_node.z (x17 ++ [({ fMark := x16, fparent := x20 } : T_forest_node)])), ⟨by simp, rw_push' T_forest_node.dv T_forest_node.z x17 [({ fMark := x16, fparent := x20 } : T_forest_node)] (by simp) (by simp) (fun _ _ => rfl) (fun j hj => by first | rfl | simp [rw_, addO_eq])⟩, 0, (List.length (x17 ++ [({ fMark := x16, fparent := x20 } : T_forest_node)])), ⟨rfl, by simp⟩, ?_⟩
      refine And.intro ?_ ?_
      · intro v hv
        obtain ⟨x28, hx, rfl⟩ := lk_some (kf := (fun q => .ints .u8 32 q)) (vf := (fun q => .sc (.int .i64 q))) (fun _ _ => rfl) (k := x16.fID) (es := x18) hv
        replace h := optK_s h hx
        refine ⟨_, rfl, ?_⟩
        refine ⟨(mpD (fun q => .ints .u8 32 q) (fun q => .sc (.int .i64 q)) (st x16.fID (IntKind.wrap .i64 (((List.length (x17 ++ [({ fMark := x16, fparent := x20 } : T_forest_node)])) : Int) - 1)) x18)), st_mp (fun _ _ => rfl) _ _ _, ?_⟩
        refine And.intro ?_ ?_
        · intro v hv
          obtain ⟨x29, hx, rfl⟩ := lk_some (kf := (fun q => .sc (.int .i64 q))) (vf := (fun q => .sc (.int .i64 q))) (fun _ _ => rfl) (k := x15) (es := x19) hv
          replace h := optK_s h hx
          refine ⟨_, rfl, ?_⟩
          refine ⟨(mpD (fun q => .sc (.int .i64 q)) (fun q => .sc (.int .i64 q)) (st x15 (IntKind.wrap .i64 (((List.length (x17 ++ [({ fMark := x16, fparent := x20 } : T_forest_node)])) : Int) - 1)) x19)), st_mp (fun _ _ => rfl) _ _ _, ?_⟩
          obtain rfl := some_in h
          exact ⟨rfl, rfl, rfl, rfl, rfl, rfl, trivial⟩
        · intro hv
          have hx := lk_none (kf := (fun q => .sc (.int .i64 q))) (vf := (fun q => .sc (.int .i64 q))) (fun _ _ => rfl) (k := x15) (es := x19) hv
          replace h := optK_n h hx
          refine ⟨(mpD (fun q => .sc (.int .i64 q)) (fun q => .sc (.int .i64 q)) (st x15 0 x19)), st_mp (fun _ _ => rfl) _ _ _, ?_⟩
          refine ⟨(mpD (fun q => .sc (.int .i64 q)) (fun q => .sc (.int .i64 q)) (st x15 (IntKind.wrap .i64 (((List.length (x17 ++ [({ fMark := x16, fparent := x20 } : T_forest_node)])) : Int) - 1)) x19)), st_mp2 (fun _ _ => rfl) _ _ 0 _, ?_⟩
          obtain rfl := some_in h
          exact ⟨rfl, rfl, rfl, rfl, rfl, rfl, trivial⟩
      · intro hv
        have hx := lk_none (kf := (fun q => .ints .u8 32 q)) (vf := (fun q => .sc (.int .i64 q))) (fun _ _ => rfl) (k := x16.fID) (es := x18) hv
        replace h := optK_n h hx
        refine ⟨(mpD (fun q => .ints .u8 32 q) (fun q => .sc (.int .i64 q)) (st x16.fID 0 x18)), st_mp (fun _ _ => rfl) _ _ _, ?_⟩
        refine ⟨(mpD (fun q => .ints .u8 32 q) (fun q => .sc (.int .i64 q)) (st x16.fID (IntKind.wrap .i64 (((List.length (x17 ++ [({ fMark := x16, fparent := x20 } : T_forest_node)])) : Int) - 1)) x18)), st_mp2 (fun _ _ => rfl) _ _ 0 _, ?_⟩
        refine And.intro ?_ ?_
        · intro v hv
          obtain ⟨x30, hx, rfl⟩ := lk_some (kf := (fun q => .sc (.int .i64 q))) (vf := (fun q => .sc (.int .i64 q))) (fun _ _ => rfl) (k := x15) (es := x19) hv
          replace h := optK_s h hx
          refine ⟨_, rfl, ?_⟩
          refine ⟨(mpD (fun q => .sc (.int .i64 q)) (fun q => .sc (.int .i64 q)) (st x15 (IntKind.wrap .i64 (((List.length (x17 ++ [({ fMark := x16, fparent := x20 } : T_forest_node)])) : Int) - 1)) x19)), st_mp (fun _ _ => rfl) _ _ _, ?_⟩
          obtain rfl := some_in h
          exact ⟨rfl, rfl, rfl, rfl, rfl, rfl, trivial⟩
        · intro hv
          have hx := lk_none (kf := (fun q => .sc (.int .i64 q))) (vf := (fun q => .sc (.int .i64 q))) (fun _ _ => rfl) (k := x15) (es := x19) hv
          replace h := optK_n h hx
          refine ⟨(mpD (fun q => .sc (.int .i64 q)) (fun q => .sc (.int .i64 q)) (st x15 0 x19)), st_mp (fun _ _ => rfl) _ _ _, ?_⟩
          refine ⟨(mpD (fun q => .sc (.int .i64 q)) (fun q => .sc (.int .i64 q)) (st x15 (IntKind.wrap .i64 (((List.length (x17 ++ [({ fMark := x16, fparent := x20 } : T_forest_node)])) : Int) - 1)) x19)), st_mp2 (fun _ _ => rfl) _ _ 0 _, ?_⟩
          obtain rfl := some_in h
          exact ⟨rfl, rfl, rfl, rfl, rfl, rfl, trivial⟩
  · replace h := hl1_20
    refine And.intro (fun hb => ?_) (fun hb => ?_)
    · replace h := cond_t h hb
      obtain ⟨hg, h⟩ := gd h
      refine And.intro hg ?_
      refine Or.inl ?_
      refine And.intro (fun hb => ?_) (fun hb => ?_)
      · replace h := cond_t h hb
        obtain rfl := some_in h
        replace h := hr1_20
        obtain rfl := some_in h
        exact ⟨rfl, rfl, rfl, rfl, rfl, trivial⟩
      · replace h := cond_f h hb
        obtain ⟨x21, hc21, h⟩ := bnd h
        refine ⟨[], _, _, _, ⟨⟨_, forest_Mark_follows_c er x16 ((List.getD x17 (Int.toNat x20) T_forest_node.z).fMark) x21 hc21, ⟨.inl rfl, .inl rfl, trivial⟩⟩, trivial, rfl⟩, ?_⟩
        refine And.intro (fun hb => ?_) (fun hb => ?_)
        · replace h := cond_t h hb
          obtain rfl := some_in h
          replace h := hr1_20
          obtain rfl := some_in h
          exact ⟨rfl, rfl, rfl, rfl, rfl, trivial⟩
        · replace h := cond_f h hb
          exact ⟨[], [], ⟨(), some_in h⟩, [], rfl, ⟨rfl, rfl, trivial⟩, ⟨rfl, rfl, rfl, rfl, rfl, trivial⟩, rfl⟩
    · replace h := cond_f h hb
      exact ⟨[], [], ⟨(), some_in h⟩, [], rfl, ⟨rfl, rfl, trivial⟩, ⟨rfl, rfl, rfl, rfl, rfl, trivial⟩, rfl⟩
/- (*fellowship/forest.Forest).Len -/
def forest_Forest_Len (x34 : List T_forest_node) (x35 : List ((List Int) × Int)) (x36 : List (Int × Int)) : Option Unit :=
  some ()
theorem forest_Forest_Len_c (b0 b1 b2 b3 : Nat) (hn : [b0, b1, b2, b3].Nodup) (x34 : List T_forest_node) (x35 : List ((List Int) × Int)) (x36 : List (Int × Int)) (res : Unit) (h : forest_Forest_Len x34 x35 x36 = some res) :
    Fn Tryd.prog (GE er) 11 [(.ptr b0 [] ly66)] [(b0, (.var (.cons (.sl b1 [] ly68 0 (List.length x34)) (.cons (.mp b2) (.cons (.mp b3) (.dv .nil)))))), (b1, (.row ly68 (List.length x34) (rw_ T_forest_node.dv T_forest_node.z x34))), (b2, (.mp (.ints .u8 32) (mpD (fun q => .ints .u8 32 q) (fun q => .sc (.int .i64 q)) x35))), (b3, (.mp (.int .i64) (mpD (fun q => .sc (.int .i64 q)) (fun q => .sc (.int .i64 q)) x36)))] (.int .i64 ((List.length x34) : Int)) [(b0, (.var (.cons (.sl b1 [] ly68 0 (List.length x34)) (.cons (.mp b2) (.cons (.mp b3) (.dv .nil)))))), (b1, (.row ly68 (List.length x34) (rw_ T_forest_node.dv T_forest_node.z x34))), (b2, (.mp (.ints .u8 32) (mpD (fun q => .ints .u8 32 q) (fun q => .sc (.int .i64 q)) x35))), (b3, (.mp (.int .i64) (mpD (fun q => .sc (.int .i64 q)) (fun q => .sc (.int .i64 q)) x36)))] := by
  refine Fn.bodyE (fn := Tryd.f11) (c := _) tabOK mixed (GE_plain er) Tryd.func11 rfl rfl [(0, b0), (1, b1), (2, b2), (3, b3)] [(.ptr 0 [] ly66)] [(.var (.cons (.sl 1 [] ly68 0 (List.length x34)) (.cons (.mp 2) (.cons (.mp 3) (.dv .nil))))), (.row ly68 (List.length x34) (rw_ T_forest_node.dv T_forest_node.z x34)), (.mp (.ints .u8 32) (mpD (fun q => .ints .u8 32 q) (fun q => .sc (.int .i64 q)) x35)), (.mp (.int .i64) (mpD (fun q => .sc (.int .i64 q)) (fun q => .sc (.int .i64 q)) x36))] [] (.int .i64 ((List.length x34) : Int)) [(.var (.cons (.sl 1 [] ly68 0 (List.length x34)) (.cons (.mp 2) (.cons (.mp 3) (.dv .nil))))), (.row ly68 (List.length x34) (rw_ T_forest_node.dv T_forest_node.z x34)), (.mp (.ints .u8 32) (mpD (fun q => .ints .u8 32 q) (fun q => .sc (.int .i64 q)) x35)), (.mp (.int .i64) (mpD (fun q => .sc (.int .i64 q)) (fun q => .sc (.int .i64 q)) x36))] rfl rfl rfl rfl rfl rfl hn 3 ?_
  replace h := (show forest_Forest_Len x34 x35 x36 = _ from h)
  unfold forest_Forest_Len at h
  obtain rfl := some_in h
  exact ⟨rfl, rfl, rfl, rfl, rfl, trivial⟩
/- fellowship/fellowshiplaw31.alive -/
def fellowshiplaw31_alive : Option Bool :=
  (forest_New).bind fun _ =>
    (forest_Forest_See 1 ({ fGroup := (List.replicate 32 0), fEpoch := 0, fID := (List.set (List.replicate 32 0) 0 1), fAuthenticator := (List.replicate 32 0), fSecret := (List.replicate 32 0), fPrint := (List.replicate 32 0), fTranscript := (List.replicate 32 0) } : T_forest_Mark) [] []).bind fun r15 => match r15 with
    | (x2, x3, x4, x5) =>
        (forest_Forest_See_2 2 ({ fGroup := (List.replicate 32 0), fEpoch := 0, fID := (List.set (List.replicate 32 0) 0 1), fAuthenticator := (List.replicate 32 0), fSecret := (List.replicate 32 0), fPrint := (List.replicate 32 0), fTranscript := (List.replicate 32 0) } : T_forest_Mark) x5 x3 x4).bind fun r15 => match r15 with
        | (Sum.inl (x6, x7, x8)) =>
            cond (x2 == 0)
              (cond (x6 == 0)
                ((forest_Forest_Len x7 x3 x8).bind fun _ =>
                  cond (((List.length x7) : Int) == 1)
                    ((forest_Forest_At_2 3 x7 x3 x8).bind fun x9 =>
                      some (x9 == (-1)))
                    (some false))
                (some false))
              (some false)
        | (Sum.inr (Sum.inl (x10, x11, x12, x13))) =>
            cond (x2 == 0)
              (cond (x10 == 0)
                ((forest_Forest_Len x13 x11 x12).bind fun _ =>
                  cond (((List.length x13) : Int) == 1)
                    ((forest_Forest_At_2 3 x13 x11 x12).bind fun x14 =>
                      some (x14 == (-1)))
                    (some false))
                (some false))
              (some false)
        | (Sum.inr (Sum.inr x15)) =>
            some false
theorem fellowshiplaw31_alive_c (res : Bool) (h : fellowshiplaw31_alive = some res) :
    Fn Tryd.prog (GE er) 6 [] [] (.bl res) [] := by
  refine Fn.bodyE (fn := Tryd.f6) (c := _) tabOK mixed (GE_plain er) Tryd.func6 rfl rfl [] [] [] [] (.bl res) [] rfl rfl rfl rfl rfl rfl .nil 3 ?_
  replace h := (show fellowshiplaw31_alive = _ from h)
  unfold fellowshiplaw31_alive at h
  obtain ⟨r15, hc15, h⟩ := bnd h
  refine ⟨[], _, _, _, ⟨⟨_, forest_New_c er 0 1 2 (by decide) r15 hc15, trivial⟩, trivial, rfl⟩, ?_⟩
  refine And.intro (fun h0 => Bool.noConfusion h0) (fun _ => ?_)
  obtain ⟨r15, hc15, h⟩ := bnd h
  obtain ⟨x2, x3, x4, x5⟩ := r15
  refine ⟨[], _, _, _, ⟨⟨_, forest_Forest_See_c er 0 1 2 4 (by decide) 1 ({ fGroup := (List.replicate 32 0), fEpoch := 0, fID := (List.set (List.replicate 32 0) 0 1), fAuthenticator := (List.replicate 32 0), fSecret := (List.replicate 32 0), fPrint := (List.replicate 32 0), fTranscript := (List.replicate 32 0) } : T_forest_Mark) [] [] (x2, x3, x4, x5) hc15, ⟨.inl rfl, .inl rfl, .inl rfl, trivial⟩⟩, ⟨⟨rfl, rfl⟩, ⟨rfl, rfl⟩, ⟨rfl, rfl⟩, trivial⟩, rfl⟩, ?_⟩
  obtain ⟨r15, hc15, h⟩ := bnd h
  rcases r15 with ⟨x6, x7, x8⟩ | ⟨x10, x11, x12, x13⟩ | x15
  · refine ⟨[], _, _, _, ⟨⟨_, forest_Forest_See_2_c er 0 4 1 2 5 (by decide) 2 ({ fGroup := (List.replicate 32 0), fEpoch := 0, fID := (List.set (List.replicate 32 0) 0 1), fAuthenticator := (List.replicate 32 0), fSecret := (List.replicate 32 0), fPrint := (List.replicate 32 0), fTranscript := (List.replicate 32 0) } : T_forest_Mark) x5 x3 x4 (Sum.inl (x6, x7, x8)) hc15, ⟨.inl rfl, .inl rfl, .inl rfl, trivial⟩⟩, ⟨⟨rfl, rfl⟩, ⟨rfl, rfl⟩, ⟨rfl, rfl⟩, ⟨rfl, rfl⟩, trivial⟩, rfl⟩, ?_⟩
    refine And.intro (fun _ => ?_) (fun h0 => Bool.noConfusion h0)
    refine And.intro (fun _ => ?_) (fun h0 => Bool.noConfusion h0)
    refine And.intro (fun hb => ?_) (fun hb => ?_)
    · replace h := cond_t h hb
      refine And.intro (fun hb => ?_) (fun hb => ?_)
      · replace h := cond_t h hb
        obtain ⟨r9, hc9, h⟩ := bnd h
        refine ⟨[], _, _, _, ⟨⟨_, forest_Forest_Len_c er 0 4 1 2 (by decide) x7 x3 x8 r9 hc9, ⟨.inl rfl, trivial⟩⟩, ⟨⟨rfl, rfl⟩, ⟨rfl, rfl⟩, ⟨rfl, rfl⟩, ⟨rfl, rfl⟩, trivial⟩, rfl⟩, ?_⟩
        refine And.intro (fun hb => ?_) (fun hb => ?_)
        · replace h := cond_t h hb
          obtain ⟨x9, hc9, h⟩ := bnd h
          refine ⟨[], _, _, _, ⟨⟨_, forest_Forest_At_2_c er 0 4 1 2 (by decide) 3 x7 x3 x8 x9 hc9, ⟨.inl rfl, .inl rfl, trivial⟩⟩, ⟨⟨rfl, rfl⟩, ⟨rfl, rfl⟩, ⟨rfl, rfl⟩, ⟨rfl, rfl⟩, trivial⟩, rfl⟩, ?_⟩
          obtain rfl := some_in h
          exact ⟨rfl, trivial⟩
        · replace h := cond_f h hb
          obtain rfl := some_in h
          exact ⟨rfl, trivial⟩
      · replace h := cond_f h hb
        obtain rfl := some_in h
        exact ⟨rfl, trivial⟩
    · replace h := cond_f h hb
      obtain rfl := some_in h
      exact ⟨rfl, trivial⟩
  · refine ⟨[], _, _, _, ⟨⟨_, forest_Forest_See_2_c er 0 4 1 2 5 (by decide) 2 ({ fGroup := (List.replicate 32 0), fEpoch := 0, fID := (List.set (List.replicate 32 0) 0 1), fAuthenticator := (List.replicate 32 0), fSecret := (List.replicate 32 0), fPrint := (List.replicate 32 0), fTranscript := (List.replicate 32 0) } : T_forest_Mark) x5 x3 x4 (Sum.inr (Sum.inl (x10, x11, x12, x13))) hc15, ⟨.inl rfl, .inl rfl, .inl rfl, trivial⟩⟩, ⟨⟨rfl, rfl⟩, ⟨rfl, rfl⟩, ⟨rfl, rfl⟩, ⟨rfl, rfl⟩, trivial⟩, rfl⟩, ?_⟩
    refine And.intro (fun _ => ?_) (fun h0 => Bool.noConfusion h0)
    refine And.intro (fun _ => ?_) (fun h0 => Bool.noConfusion h0)
    refine And.intro (fun hb => ?_) (fun hb => ?_)
    · replace h := cond_t h hb
      refine And.intro (fun hb => ?_) (fun hb => ?_)
      · replace h := cond_t h hb
        obtain ⟨r14, hc14, h⟩ := bnd h
        refine ⟨[], _, _, _, ⟨⟨_, forest_Forest_Len_c er 0 5 1 2 (by decide) x13 x11 x12 r14 hc14, ⟨.inl rfl, trivial⟩⟩, ⟨⟨rfl, rfl⟩, ⟨rfl, rfl⟩, ⟨rfl, rfl⟩, ⟨rfl, rfl⟩, trivial⟩, rfl⟩, ?_⟩
        refine And.intro (fun hb => ?_) (fun hb => ?_)
        · replace h := cond_t h hb
          obtain ⟨x14, hc14, h⟩ := bnd h
          refine ⟨[], _, _, _, ⟨⟨_, forest_Forest_At_2_c er 0 5 1 2 (by decide) 3 x13 x11 x12 x14 hc14, ⟨.inl rfl, .inl rfl, trivial⟩⟩, ⟨⟨rfl, rfl⟩, ⟨rfl, rfl⟩, ⟨rfl, rfl⟩, ⟨rfl, rfl⟩, trivial⟩, rfl⟩, ?_⟩
          obtain rfl := some_in h
          exact ⟨rfl, trivial⟩
        · replace h := cond_f h hb
          obtain rfl := some_in h
          exact ⟨rfl, trivial⟩
      · replace h := cond_f h hb
        obtain rfl := some_in h
        exact ⟨rfl, trivial⟩
    · replace h := cond_f h hb
      obtain rfl := some_in h
      exact ⟨rfl, trivial⟩
  · refine ⟨[], _, _, _, ⟨⟨_, forest_Forest_See_2_c er 0 4 1 2 5 (by decide) 2 ({ fGroup := (List.replicate 32 0), fEpoch := 0, fID := (List.set (List.replicate 32 0) 0 1), fAuthenticator := (List.replicate 32 0), fSecret := (List.replicate 32 0), fPrint := (List.replicate 32 0), fTranscript := (List.replicate 32 0) } : T_forest_Mark) x5 x3 x4 (Sum.inr (Sum.inr x15)) hc15, ⟨.inl rfl, .inl rfl, .inl rfl, trivial⟩⟩, ⟨⟨rfl, rfl⟩, ⟨rfl, rfl⟩, ⟨rfl, rfl⟩, ⟨rfl, rfl⟩, trivial⟩, rfl⟩, ?_⟩
    refine And.intro (fun _ => ?_) (fun h0 => Bool.noConfusion h0)
    refine And.intro (fun h0 => Bool.noConfusion h0) (fun _ => ?_)
    obtain rfl := some_in h
    exact ⟨rfl, trivial⟩
/- (*fellowship/forest.Forest).Leave -/
def forest_Forest_Leave (x17 : Int) (x18 : List ((List Int) × Int)) (x19 : List (Int × Int)) : Option Unit :=
  some ()
theorem forest_Forest_Leave_c (b0 b1 b2 : Nat) (hn : [b0, b1, b2].Nodup) (x17 : Int) (x18 : List ((List Int) × Int)) (x19 : List (Int × Int)) (res : Unit) (h : forest_Forest_Leave x17 x18 x19 = some res) :
    Fn Tryd.prog (GE er) 9 [(.ptr b0 [] ly66), (.int .i64 x17)] [(b0, (.var (.cons (.dv (.sc (.slice none 0 0))) (.cons (.mp b1) (.cons (.mp b2) (.dv .nil)))))), (b1, (.mp (.ints .u8 32) (mpD (fun q => .ints .u8 32 q) (fun q => .sc (.int .i64 q)) x18))), (b2, (.mp (.int .i64) (mpD (fun q => .sc (.int .i64 q)) (fun q => .sc (.int .i64 q)) x19)))] (.tup []) [(b0, (.var (.cons (.dv (.sc (.slice none 0 0))) (.cons (.mp b1) (.cons (.mp b2) (.dv .nil)))))), (b1, (.mp (.ints .u8 32) (mpD (fun q => .ints .u8 32 q) (fun q => .sc (.int .i64 q)) x18))), (b2, (.mp (.int .i64) (mpD (fun q => .sc (.int .i64 q)) (fun q => .sc (.int .i64 q)) (dl x17 x19))))] := by
  refine Fn.bodyE (fn := Tryd.f9) (c := _) tabOK mixed (GE_plain er) Tryd.func9 rfl rfl [(0, b0), (1, b1), (2, b2)] [(.ptr 0 [] ly66), (.int .i64 x17)] [(.var (.cons (.dv (.sc (.slice none 0 0))) (.cons (.mp 1) (.cons (.mp 2) (.dv .nil))))), (.mp (.ints .u8 32) (mpD (fun q => .ints .u8 32 q) (fun q => .sc (.int .i64 q)) x18)), (.mp (.int .i64) (mpD (fun q => .sc (.int .i64 q)) (fun q => .sc (.int .i64 q)) x19))] [] (.tup []) [(.var (.cons (.dv (.sc (.slice none 0 0))) (.cons (.mp 1) (.cons (.mp 2) (.dv .nil))))), (.mp (.ints .u8 32) (mpD (fun q => .ints .u8 32 q) (fun q => .sc (.int .i64 q)) x18)), (.mp (.int .i64) (mpD (fun q => .sc (.int .i64 q)) (fun q => .sc (.int .i64 q)) (dl x17 x19)))] rfl rfl rfl rfl rfl rfl hn 3 ?_
  replace h := (show forest_Forest_Leave x17 x18 x19 = _ from h)
  unfold forest_Forest_Leave at h
  refine ⟨(mpD (fun q => .sc (.int .i64 q)) (fun q => .sc (.int .i64 q)) (dl x17 x19)), dl_mp (fun _ _ => rfl) _ _, ?_⟩
  obtain rfl := some_in h
  exact ⟨rfl, rfl, rfl, rfl, trivial⟩
/- (*fellowship/forest.Forest).Leave -/
def forest_Forest_Leave_2 (x17 : Int) (x18 : List T_forest_node) (x19 : List ((List Int) × Int)) (x20 : List (Int × Int)) : Option Unit :=
  some ()
theorem forest_Forest_Leave_2_c (b0 b1 b2 b3 : Nat) (hn : [b0, b1, b2, b3].Nodup) (x17 : Int) (x18 : List T_forest_node) (x19 : List ((List Int) × Int)) (x20 : List (Int × Int)) (res : Unit) (h : forest_Forest_Leave_2 x17 x18 x19 x20 = some res) :
    Fn Tryd.prog (GE er) 9 [(.ptr b0 [] ly66), (.int .i64 x17)] [(b0, (.var (.cons (.sl b1 [] ly68 0 (List.length x18)) (.cons (.mp b2) (.cons (.mp b3) (.dv .nil)))))), (b1, (.row ly68 (List.length x18) (rw_ T_forest_node.dv T_forest_node.z x18))), (b2, (.mp (.ints .u8 32) (mpD (fun q => .ints .u8 32 q) (fun q => .sc (.int .i64 q)) x19))), (b3, (.mp (.int .i64) (mpD (fun q => .sc (.int .i64 q)) (fun q => .sc (.int .i64 q)) x20)))] (.tup []) [(b0, (.var (.cons (.sl b1 [] ly68 0 (List.length x18)) (.cons (.mp b2) (.cons (.mp b3) (.dv .nil)))))), (b1, (.row ly68 (List.length x18) (rw_ T_forest_node.dv T_forest_node.z x18))), (b2, (.mp (.ints .u8 32) (mpD (fun q => .ints .u8 32 q) (fun q => .sc (.int .i64 q)) x19))), (b3, (.mp (.int .i64) (mpD (fun q => .sc (.int .i64 q)) (fun q => .sc (.int .i64 q)) (dl x17 x20))))] := by
  refine Fn.bodyE (fn := Tryd.f9) (c := _) tabOK mixed (GE_plain er) Tryd.func9 rfl rfl [(0, b0), (1, b1), (2, b2), (3, b3)] [(.ptr 0 [] ly66), (.int .i64 x17)] [(.var (.cons (.sl 1 [] ly68 0 (List.length x18)) (.cons (.mp 2) (.cons (.mp 3) (.dv .nil))))), (.row ly68 (List.length x18) (rw_ T_forest_node.dv T_forest_node.z x18)), (.mp (.ints .u8 32) (mpD (fun q => .ints .u8 32 q) (fun q => .sc (.int .i64 q)) x19)), (.mp (.int .i64) (mpD (fun q => .sc (.int .i64 q)) (fun q => .sc (.int .i64 q)) x20))] [] (.tup []) [(.var (.cons (.sl 1 [] ly68 0 (List.length x18)) (.cons (.mp 2) (.cons (.mp 3) (.dv .nil))))), (.row ly68 (List.length x18) (rw_ T_forest_node.dv T_forest_node.z x18)), (.mp (.ints .u8 32) (mpD (fun q => .ints .u8 32 q) (fun q => .sc (.int .i64 q)) x19)), (.mp (.int .i64) (mpD (fun q => .sc (.int .i64 q)) (fun q => .sc (.int .i64 q)) (dl x17 x20)))] rfl rfl rfl rfl rfl rfl hn 3 ?_
  replace h := (show forest_Forest_Leave_2 x17 x18 x19 x20 = _ from h)
  unfold forest_Forest_Leave_2 at h
  refine ⟨(mpD (fun q => .sc (.int .i64 q)) (fun q => .sc (.int .i64 q)) (dl x17 x20)), dl_mp (fun _ _ => rfl) _ _, ?_⟩
  obtain rfl := some_in h
  exact ⟨rfl, rfl, rfl, rfl, rfl, trivial⟩
/- (*fellowship/forest.Forest).has -/
def forest_Forest_has (x24 : Int) (x25 : List T_forest_node) (x26 : List ((List Int) × Int)) (x27 : List (Int × Int)) : Option Bool :=
  cond (decide (x24 ≥ 0))
    (some (decide (x24 < ((List.length x25) : Int))))
    (some false)
theorem forest_Forest_has_c (b0 b1 b2 b3 : Nat) (hn : [b0, b1, b2, b3].Nodup) (x24 : Int) (x25 : List T_forest_node) (x26 : List ((List Int) × Int)) (x27 : List (Int × Int)) (res : Bool) (h : forest_Forest_has x24 x25 x26 x27 = some res) :
    Fn Tryd.prog (GE er) 20 [(.ptr b0 [] ly66), (.int .i64 x24)] [(b0, (.var (.cons (.sl b1 [] ly68 0 (List.length x25)) (.cons (.mp b2) (.cons (.mp b3) (.dv .nil)))))), (b1, (.row ly68 (List.length x25) (rw_ T_forest_node.dv T_forest_node.z x25))), (b2, (.mp (.ints .u8 32) (mpD (fun q => .ints .u8 32 q) (fun q => .sc (.int .i64 q)) x26))), (b3, (.mp (.int .i64) (mpD (fun q => .sc (.int .i64 q)) (fun q => .sc (.int .i64 q)) x27)))] (.bl res) [(b0, (.var (.cons (.sl b1 [] ly68 0 (List.length x25)) (.cons (.mp b2) (.cons (.mp b3) (.dv .nil)))))), (b1, (.row ly68 (List.length x25) (rw_ T_forest_node.dv T_forest_node.z x25))), (b2, (.mp (.ints .u8 32) (mpD (fun q => .ints .u8 32 q) (fun q => .sc (.int .i64 q)) x26))), (b3, (.mp (.int .i64) (mpD (fun q => .sc (.int .i64 q)) (fun q => .sc (.int .i64 q)) x27)))] := by
  refine Fn.bodyE (fn := Tryd.f20) (c := _) tabOK mixed (GE_plain er) Tryd.func20 rfl rfl [(0, b0), (1, b1), (2, b2), (3, b3)] [(.ptr 0 [] ly66), (.int .i64 x24)] [(.var (.cons (.sl 1 [] ly68 0 (List.length x25)) (.cons (.mp 2) (.cons (.mp 3) (.dv .nil))))), (.row ly68 (List.length x25) (rw_ T_forest_node.dv T_forest_node.z x25)), (.mp (.ints .u8 32) (mpD (fun q => .ints .u8 32 q) (fun q => .sc (.int .i64 q)) x26)), (.mp (.int .i64) (mpD (fun q => .sc (.int .i64 q)) (fun q => .sc (.int .i64 q)) x27))] [] (.bl res) [(.var (.cons (.sl 1 [] ly68 0 (List.length x25)) (.cons (.mp 2) (.cons (.mp 3) (.dv .nil))))), (.row ly68 (List.length x25) (rw_ T_forest_node.dv T_forest_node.z x25)), (.mp (.ints .u8 32) (mpD (fun q => .ints .u8 32 q) (fun q => .sc (.int .i64 q)) x26)), (.mp (.int .i64) (mpD (fun q => .sc (.int .i64 q)) (fun q => .sc (.int .i64 q)) x27))] rfl rfl rfl rfl rfl rfl hn 3 ?_
  replace h := (show forest_Forest_has x24 x25 x26 x27 = _ from h)
  unfold forest_Forest_has at h
  refine And.intro (fun hb => ?_) (fun hb => ?_)
  · replace h := cond_t h hb
    obtain rfl := some_in h
    exact ⟨rfl, rfl, rfl, rfl, rfl, trivial⟩
  · replace h := cond_f h hb
    obtain rfl := some_in h
    exact ⟨rfl, rfl, rfl, rfl, rfl, trivial⟩
/- (*fellowship/forest.Forest).Mark -/
def forest_Forest_Mark (x20 : Int) (x21 : List T_forest_node) (x22 : List ((List Int) × Int)) (x23 : List (Int × Int)) : Option ((Unit ⊕ Unit)) :=
  (forest_Forest_has x20 x21 x22 x23).bind fun x24 =>
    cond (!x24)
      (some (Sum.inr ()))
      (if 0 ≤ x20 ∧ x20 < ((List.length x21) : Int) then
        some (Sum.inl ())
      else none)
theorem forest_Forest_Mark_c (b0 b1 b2 b3 : Nat) (hn : [b0, b1, b2, b3].Nodup) (x20 : Int) (x21 : List T_forest_node) (x22 : List ((List Int) × Int)) (x23 : List (Int × Int)) (res : (Unit ⊕ Unit)) (h : forest_Forest_Mark x20 x21 x22 x23 = some res) :
    Fn Tryd.prog (GE er) 12 [(.ptr b0 [] ly66), (.int .i64 x20)] [(b0, (.var (.cons (.sl b1 [] ly68 0 (List.length x21)) (.cons (.mp b2) (.cons (.mp b3) (.dv .nil)))))), (b1, (.row ly68 (List.length x21) (rw_ T_forest_node.dv T_forest_node.z x21))), (b2, (.mp (.ints .u8 32) (mpD (fun q => .ints .u8 32 q) (fun q => .sc (.int .i64 q)) x22))), (b3, (.mp (.int .i64) (mpD (fun q => .sc (.int .i64 q)) (fun q => .sc (.int .i64 q)) x23)))] (match res with | (Sum.inl _) => (.tup [(.dv (T_forest_Mark.dv ((List.getD x21 (Int.toNat x20) T_forest_node.z).fMark))), (.dv (.sc .nilIface))]) | (Sum.inr _) => (.tup [(.dv (.cons (.ints .u8 32 (List.replicate 32 0)) (.cons (.sc (.int .i64 0)) (.cons (.ints .u8 32 (List.replicate 32 0)) (.cons (.ints .u8 32 (List.replicate 32 0)) (.cons (.ints .u8 32 (List.replicate 32 0)) (.cons (.ints .u8 32 (List.replicate 32 0)) (.cons (.ints .u8 32 (List.replicate 32 0)) .nil)))))))), (errA er 1)])) (match res with | (Sum.inl _) => [(b0, (.var (.cons (.sl b1 [] ly68 0 (List.length x21)) (.cons (.mp b2) (.cons (.mp b3) (.dv .nil)))))), (b1, (.row ly68 (List.length x21) (rw_ T_forest_node.dv T_forest_node.z x21))), (b2, (.mp (.ints .u8 32) (mpD (fun q => .ints .u8 32 q) (fun q => .sc (.int .i64 q)) x22))), (b3, (.mp (.int .i64) (mpD (fun q => .sc (.int .i64 q)) (fun q => .sc (.int .i64 q)) x23)))] | (Sum.inr _) => [(b0, (.var (.cons (.sl b1 [] ly68 0 (List.length x21)) (.cons (.mp b2) (.cons (.mp b3) (.dv .nil)))))), (b1, (.row ly68 (List.length x21) (rw_ T_forest_node.dv T_forest_node.z x21))), (b2, (.mp (.ints .u8 32) (mpD (fun q => .ints .u8 32 q) (fun q => .sc (.int .i64 q)) x22))), (b3, (.mp (.int .i64) (mpD (fun q => .sc (.int .i64 q)) (fun q => .sc (.int .i64 q)) x23)))]) := by
  refine Fn.bodyE (fn := Tryd.f12) (c := _) tabOK mixed (GE_plain er) Tryd.func12 rfl rfl [(0, b0), (1, b1), (2, b2), (3, b3)] [(.ptr 0 [] ly66), (.int .i64 x20)] [(.var (.cons (.sl 1 [] ly68 0 (List.length x21)) (.cons (.mp 2) (.cons (.mp 3) (.dv .nil))))), (.row ly68 (List.length x21) (rw_ T_forest_node.dv T_forest_node.z x21)), (.mp (.ints .u8 32) (mpD (fun q => .ints .u8 32 q) (fun q => .sc (.int .i64 q)) x22)), (.mp (.int .i64) (mpD (fun q => .sc (.int .i64 q)) (fun q => .sc (.int .i64 q)) x23))] [] (match res with | (Sum.inl _) => (.tup [(.dv (T_forest_Mark.dv ((List.getD x21 (Int.toNat x20) T_forest_node.z).fMark))), (.dv (.sc .nilIface))]) | (Sum.inr _) => (.tup [(.dv (.cons (.ints .u8 32 (List.replicate 32 0)) (.cons (.sc (.int .i64 0)) (.cons (.ints .u8 32 (List.replicate 32 0)) (.cons (.ints .u8 32 (List.replicate 32 0)) (.cons (.ints .u8 32 (List.replicate 32 0)) (.cons (.ints .u8 32 (List.replicate 32 0)) (.cons (.ints .u8 32 (List.replicate 32 0)) .nil)))))))), (errA er 1)])) (match res with | (Sum.inl _) => [(.var (.cons (.sl 1 [] ly68 0 (List.length x21)) (.cons (.mp 2) (.cons (.mp 3) (.dv .nil))))), (.row ly68 (List.length x21) (rw_ T_forest_node.dv T_forest_node.z x21)), (.mp (.ints .u8 32) (mpD (fun q => .ints .u8 32 q) (fun q => .sc (.int .i64 q)) x22)), (.mp (.int .i64) (mpD (fun q => .sc (.int .i64 q)) (fun q => .sc (.int .i64 q)) x23))] | (Sum.inr _) => [(.var (.cons (.sl 1 [] ly68 0 (List.length x21)) (.cons (.mp 2) (.cons (.mp 3) (.dv .nil))))), (.row ly68 (List.length x21) (rw_ T_forest_node.dv T_forest_node.z x21)), (.mp (.ints .u8 32) (mpD (fun q => .ints .u8 32 q) (fun q => .sc (.int .i64 q)) x22)), (.mp (.int .i64) (mpD (fun q => .sc (.int .i64 q)) (fun q => .sc (.int .i64 q)) x23))]) rfl rfl (by rcases res with _ | _ <;> rfl) (by rcases res with _ | _ <;> rfl) (by rcases res with _ | _ <;> rfl) (by rcases res with _ | _ <;> rfl) (by rcases res with _ | _ <;> exact hn) 3 ?_
  replace h := (show forest_Forest_Mark x20 x21 x22 x23 = _ from h)
  unfold forest_Forest_Mark at h
  obtain ⟨x24, hc24, h⟩ := bnd h
  refine ⟨[], _, _, _, ⟨⟨_, forest_Forest_has_c er 0 1 2 3 (by decide) x20 x21 x22 x23 x24 hc24, ⟨.inl rfl, .inl rfl, trivial⟩⟩, ⟨⟨rfl, rfl⟩, ⟨rfl, rfl⟩, ⟨rfl, rfl⟩, ⟨rfl, rfl⟩, trivial⟩, rfl⟩, ?_⟩
  refine And.intro (fun hb => ?_) (fun hb => ?_)
  · replace h := cond_t h hb
    obtain rfl := some_in h
    exact ⟨rfl, rfl, rfl, rfl, rfl, trivial⟩
  · replace h := cond_f h hb
    obtain ⟨hg, h⟩ := gd h
    refine And.intro hg ?_
    obtain rfl := some_in h
    exact ⟨rfl, rfl, rfl, rfl, rfl, trivial⟩
/- (*fellowship/forest.Forest).Parent -/
def forest_Forest_Parent (x26 : Int) (x27 : List T_forest_node) (x28 : List ((List Int) × Int)) (x29 : List (Int × Int)) : Option Int :=
  (forest_Forest_has x26 x27 x28 x29).bind fun x30 =>
    cond (!x30)
      (some (-1))
      (if 0 ≤ x26 ∧ x26 < ((List.length x27) : Int) then
        some ((List.getD x27 (Int.toNat x26) T_forest_node.z).fparent)
      else none)
theorem forest_Forest_Parent_c (b0 b1 b2 b3 : Nat) (hn : [b0, b1, b2, b3].Nodup) (x26 : Int) (x27 : List T_forest_node) (x28 : List ((List Int) × Int)) (x29 : List (Int × Int)) (res : Int) (h : forest_Forest_Parent x26 x27 x28 x29 = some res) :
    Fn Tryd.prog (GE er) 13 [(.ptr b0 [] ly66), (.int .i64 x26)] [(b0, (.var (.cons (.sl b1 [] ly68 0 (List.length x27)) (.cons (.mp b2) (.cons (.mp b3) (.dv .nil)))))), (b1, (.row ly68 (List.length x27) (rw_ T_forest_node.dv T_forest_node.z x27))), (b2, (.mp (.ints .u8 32) (mpD (fun q => .ints .u8 32 q) (fun q => .sc (.int .i64 q)) x28))), (b3, (.mp (.int .i64) (mpD (fun q => .sc (.int .i64 q)) (fun q => .sc (.int .i64 q)) x29)))] (.int .i64 res) [(b0, (.var (.cons (.sl b1 [] ly68 0 (List.length x27)) (.cons (.mp b2) (.cons (.mp b3) (.dv .nil)))))), (b1, (.row ly68 (List.length x27) (rw_ T_forest_node.dv T_forest_node.z x27))), (b2, (.mp (.ints .u8 32) (mpD (fun q => .ints .u8 32 q) (fun q => .sc (.int .i64 q)) x28))), (b3, (.mp (.int .i64) (mpD (fun q => .sc (.int .i64 q)) (fun q => .sc (.int .i64 q)) x29)))] := by
  refine Fn.bodyE (fn := Tryd.f13) (c := _) tabOK mixed (GE_plain er) Tryd.func13 rfl rfl [(0, b0), (1, b1), (2, b2), (3, b3)] [(.ptr 0 [] ly66), (.int .i64 x26)] [(.var (.cons (.sl 1 [] ly68 0 (List.length x27)) (.cons (.mp 2) (.cons (.mp 3) (.dv .nil))))), (.row ly68 (List.length x27) (rw_ T_forest_node.dv T_forest_node.z x27)), (.mp (.ints .u8 32) (mpD (fun q => .ints .u8 32 q) (fun q => .sc (.int .i64 q)) x28)), (.mp (.int .i64) (mpD (fun q => .sc (.int .i64 q)) (fun q => .sc (.int .i64 q)) x29))] [] (.int .i64 res) [(.var (.cons (.sl 1 [] ly68 0 (List.length x27)) (.cons (.mp 2) (.cons (.mp 3) (.dv .nil))))), (.row ly68 (List.length x27) (rw_ T_forest_node.dv T_forest_node.z x27)), (.mp (.ints .u8 32) (mpD (fun q => .ints .u8 32 q) (fun q => .sc (.int .i64 q)) x28)), (.mp (.int .i64) (mpD (fun q => .sc (.int .i64 q)) (fun q => .sc (.int .i64 q)) x29))] rfl rfl rfl rfl rfl rfl hn 3 ?_
  replace h := (show forest_Forest_Parent x26 x27 x28 x29 = _ from h)
  unfold forest_Forest_Parent at h
  obtain ⟨x30, hc30, h⟩ := bnd h
  refine ⟨[], _, _, _, ⟨⟨_, forest_Forest_has_c er 0 1 2 3 (by decide) x26 x27 x28 x29 x30 hc30, ⟨.inl rfl, .inl rfl, trivial⟩⟩, ⟨⟨rfl, rfl⟩, ⟨rfl, rfl⟩, ⟨rfl, rfl⟩, ⟨rfl, rfl⟩, trivial⟩, rfl⟩, ?_⟩
  refine And.intro (fun hb => ?_) (fun hb => ?_)
  · replace h := cond_t h hb
    obtain rfl := some_in h
    exact ⟨rfl, rfl, rfl, rfl, rfl, trivial⟩
  · replace h := cond_f h hb
    obtain ⟨hg, h⟩ := gd h
    refine And.intro hg ?_
    obtain rfl := some_in h
    exact ⟨rfl, rfl, rfl, rfl, rfl, trivial⟩
/- fellowship/fellowshiplaw31.ForestChains -/
def fellowshiplaw31_ForestChains_l1 (x1 : List T_fellowshiplaw31_Act) : Nat → Int → (List ((List Int) × Int)) → (List (Int × Int)) → (List T_forest_node) → Option ((List ((List Int) × Int)) × (List (Int × Int)) × (List T_forest_node))
  | 0, _, _, _, _ => none
  | n1 + 1, x6, x7, x8, x9 =>
    cond (decide (x6 < (List.length x1 : Int)))
      (if 0 ≤ x6 ∧ x6 < (List.length x1 : Int) then
        ((cond ((List.getD x1 (Int.toNat x6) T_fellowshiplaw31_Act.z).fLeaves)
          ((forest_Forest_Leave_2 ((List.getD x1 (Int.toNat x6) T_fellowshiplaw31_Act.z).fWho) x9 x7 x8).bind fun _ =>
            some (x7, (dl ((List.getD x1 (Int.toNat x6) T_fellowshiplaw31_Act.z).fWho) x8), x9))
          ((forest_Forest_See_2 ((List.getD x1 (Int.toNat x6) T_fellowshiplaw31_Act.z).fWho) ((List.getD x1 (Int.toNat x6) T_fellowshiplaw31_Act.z).fMark) x9 x7 x8).bind fun r20 => match r20 with
          | (Sum.inl (x13, x14, x15)) =>
              some (x7, x15, x14)
          | (Sum.inr (Sum.inl (x16, x17, x18, x19))) =>
              some (x17, x18, x19)
          | (Sum.inr (Sum.inr x20)) =>
              some (x7, x8, x9)) : Option ((List ((List Int) × Int)) × (List (Int × Int)) × (List T_forest_node)))).bind fun r2_0_12 => match r2_0_12 with
        | (x10, x11, x12) =>
            fellowshiplaw31_ForestChains_l1 x1 n1 (IntKind.wrap .i64 (x6 + 1)) x10 x11 x12
      else none)
      (some (x7, x8, x9))
def fellowshiplaw31_ForestChains_l2 (x3 : List ((List Int) × Int)) (x4 : List (Int × Int)) (x5 : List T_forest_node) : Nat → Int → (List ((List Int) × Bool)) → Option ((((List ((List Int) × Bool))) ⊕ (List ((List Int) × Bool))))
  | 0, _, _ => none
  | n2 + 1, x23, x24 =>
    cond (decide (x23 < ((List.length x5) : Int)))
      ((((forest_Forest_Mark x23 x5 x3 x4).bind fun r28 => match r28 with
      | (Sum.inl ()) =>
          optK (lk (((List.getD x5 (Int.toNat x23) T_forest_node.z).fMark).fID) x24)
            (fun x26 =>
              cond x26
                (some (Sum.inr x24))
                ((forest_Forest_Parent x23 x5 x3 x4).bind fun x27 =>
                  ((cond (decide (x27 ≥ 0))
                    ((forest_Forest_Mark x27 x5 x3 x4).bind fun r27 => match r27 with
                    | (Sum.inl ()) =>
                        cond (!(((List.getD x5 (Int.toNat x27) T_forest_node.z).fMark).fGroup == ((List.getD x5 (Int.toNat x23) T_forest_node.z).fMark).fGroup))
                          (some (Sum.inr ()))
                          (cond (!(((List.getD x5 (Int.toNat x27) T_forest_node.z).fMark).fEpoch == (IntKind.wrap .i64 ((((List.getD x5 (Int.toNat x23) T_forest_node.z).fMark).fEpoch) - 1))))
                            (some (Sum.inr ()))
                            (some (Sum.inl ())))
                    | (Sum.inr ()) =>
                        some (Sum.inr ()))
                    (some (Sum.inl ())) : Option ((Unit ⊕ Unit)))).bind fun r5_1_27 => match r5_1_27 with
                  | (Sum.inl ()) =>
                      some (Sum.inl ())
                  | (Sum.inr ()) =>
                      some (Sum.inr (st (((List.getD x5 (Int.toNat x23) T_forest_node.z).fMark).fID) true x24))))
            ((forest_Forest_Parent x23 x5 x3 x4).bind fun x28 =>
              ((cond (decide (x28 ≥ 0))
                ((forest_Forest_Mark x28 x5 x3 x4).bind fun r28 => match r28 with
                | (Sum.inl ()) =>
                    cond (!(((List.getD x5 (Int.toNat x28) T_forest_node.z).fMark).fGroup == ((List.getD x5 (Int.toNat x23) T_forest_node.z).fMark).fGroup))
                      (some (Sum.inr ()))
                      (cond (!(((List.getD x5 (Int.toNat x28) T_forest_node.z).fMark).fEpoch == (IntKind.wrap .i64 ((((List.getD x5 (Int.toNat x23) T_forest_node.z).fMark).fEpoch) - 1))))
                        (some (Sum.inr ()))
                        (some (Sum.inl ())))
                | (Sum.inr ()) =>
                    some (Sum.inr ()))
                (some (Sum.inl ())) : Option ((Unit ⊕ Unit)))).bind fun r6_1_28 => match r6_1_28 with
              | (Sum.inl ()) =>
                  some (Sum.inl ())
              | (Sum.inr ()) =>
                  some (Sum.inr (st (((List.getD x5 (Int.toNat x23) T_forest_node.z).fMark).fID) true x24)))
      | (Sum.inr ()) =>
          some (Sum.inr x24) : Option ((Unit ⊕ (List ((List Int) × Bool)))))).bind fun r4_1_25 => match r4_1_25 with
      | (Sum.inl ()) =>
          fellowshiplaw31_ForestChains_l2 x3 x4 x5 n2 (IntKind.wrap .i64 (x23 + 1)) (st (((List.getD x5 (Int.toNat x23) T_forest_node.z).fMark).fID) true x24)
      | (Sum.inr x25) =>
          some (Sum.inr x25))
      (some (Sum.inl x24))
def fellowshiplaw31_ForestChains (x1 : List T_fellowshiplaw31_Act) : Option Bool :=
  (fellowshiplaw31_alive).bind fun x2 =>
    cond (!x2)
      (some false)
      (cond (decide ((List.length x1 : Int) > 60))
        (some true)
        ((forest_New).bind fun _ =>
          ((fellowshiplaw31_ForestChains_l1 x1 FUEL 0 [] [] [] : Option ((List ((List Int) × Int)) × (List (Int × Int)) × (List T_forest_node)))).bind fun r1_0_5 => match r1_0_5 with
          | (x3, x4, x5) =>
              (forest_Forest_Len x5 x3 x4).bind fun _ =>
                ((fellowshiplaw31_ForestChains_l2 x3 x4 x5 FUEL 0 [] : Option ((((List ((List Int) × Bool))) ⊕ (List ((List Int) × Bool)))))).bind fun r3_1_22 => match r3_1_22 with
                | (Sum.inl x21) =>
                    some true
                | (Sum.inr x22) =>
                    some false))
theorem fellowshiplaw31_ForestChains_c (x1 : List T_fellowshiplaw31_Act) (res : Bool) (h : fellowshiplaw31_ForestChains x1 = some res) :
    Fn Tryd.prog (GE er) 4 [(.dv (.ro ly44 (List.length x1) (rw_ T_fellowshiplaw31_Act.dv T_fellowshiplaw31_Act.z x1)))] [] (.bl res) [] := by
  refine Fn.bodyE (fn := Tryd.f4) (c := _) tabOK mixed (GE_plain er) Tryd.func4 rfl rfl [] [(.dv (.ro ly44 (List.length x1) (rw_ T_fellowshiplaw31_Act.dv T_fellowshiplaw31_Act.z x1)))] [] [] (.bl res) [] rfl rfl rfl rfl rfl rfl .nil 3 ?_
  replace h := (show fellowshiplaw31_ForestChains x1 = _ from h)
  unfold fellowshiplaw31_ForestChains at h
  obtain ⟨x2, hc28, h⟩ := bnd h
  refine ⟨[], _, _, _, ⟨⟨_, fellowshiplaw31_alive_c er x2 hc28, trivial⟩, trivial, rfl⟩, ?_⟩
  refine And.intro (fun hb => ?_) (fun hb => ?_)
  · replace h := cond_t h hb
    obtain rfl := some_in h
    exact ⟨rfl, trivial⟩
  · replace h := cond_f h hb
    refine And.intro (fun hb => ?_) (fun hb => ?_)
    · replace h := cond_t h hb
      obtain rfl := some_in h
      exact ⟨rfl, trivial⟩
    · replace h := cond_f h hb
      obtain ⟨r28, hc28, h⟩ := bnd h
      refine ⟨[], _, _, _, ⟨⟨_, forest_New_c er 0 1 2 (by decide) r28 hc28, trivial⟩, trivial, rfl⟩, ?_⟩
      obtain ⟨r1_0_5, hl1_5, hr1_5⟩ := bnd h
      refine Or.inr ⟨{p : (List ((List Int) × Int)) × (List (Int × Int)) × (List T_forest_node) // p = r1_0_5}, ⟨fun | ⟨(x3, x4, x5), _⟩ => [], fun | ⟨(x3, x4, x5), _⟩ => [(0, (.var (.cons (.sl 3 [] ly68 0 (List.length x5)) (.cons (.mp 1) (.cons (.mp 2) (.dv .nil)))))), (1, (.mp (.ints .u8 32) (mpD (fun q => .ints .u8 32 q) (fun q => .sc (.int .i64 q)) x3))), (2, (.mp (.int .i64) (mpD (fun q => .sc (.int .i64 q)) (fun q => .sc (.int .i64 q)) x4))), (3, (.row ly68 (List.length x5) (rw_ T_forest_node.dv T_forest_node.z x5)))], fun _ => 0⟩, 1, ?_, ?_⟩
      · rintro ⟨⟨x3, x4, x5⟩, hp⟩
        subst hp
        replace h := hr1_5
        obtain ⟨r28, hc28, h⟩ := bnd h
        refine ⟨[], _, _, _, ⟨⟨_, forest_Forest_Len_c er 0 3 1 2 (by decide) x5 x3 x4 r28 hc28, ⟨.inl rfl, trivial⟩⟩, ⟨⟨rfl, rfl⟩, ⟨rfl, rfl⟩, ⟨rfl, rfl⟩, ⟨rfl, rfl⟩, trivial⟩, rfl⟩, ?_⟩
        obtain ⟨r3_1_22, hl3_22, hr3_22⟩ := bnd h
        refine Or.inr ⟨{p : (List ((List Int) × Bool)) // (Sum.inl p) = r3_1_22}, ⟨fun | ⟨x21, _⟩ => [(2, (.dv (.sc (.bool false))))], fun | ⟨x21, _⟩ => [(4, (.mp (.ints .u8 32) (mpD (fun q => .ints .u8 32 q) (fun q => .bl q) x21)))], fun _ => 0⟩, 0, ?_, ?_⟩
        · rintro ⟨x21, hp⟩
          subst hp
          replace h := hr3_22
          obtain rfl := some_in h
          exact ⟨rfl, trivial⟩
        · replace h := hl3_22
          refine ⟨{x : Nat × Int × (List ((List Int) × Bool)) // fellowshiplaw31_ForestChains_l2 x3 x4 x5 x.1 x.2.1 x.2.2 = some r3_1_22}, ⟨fun | ⟨(n2, x23, x24), _⟩ => [(2, (.dv (.sc (.bool false)))), (44, (.int .i64 x23))], fun | ⟨(n2, x23, x24), _⟩ => [(4, (.mp (.ints .u8 32) (mpD (fun q => .ints .u8 32 q) (fun q => .bl q) x24)))], fun | ⟨(n2, x23, x24), _⟩ => n2⟩, [], [], ⟨(FUEL, 0, []), h⟩, ⟨rfl, ⟨rfl, rfl, trivial⟩, ⟨rfl, rfl, rfl, rfl, rfl, trivial⟩, rfl⟩, ?_⟩
          rintro ⟨⟨n2, x23, x24⟩, h⟩
          cases n2 with
          | zero => exact no_none h
          | succ n2 =>
            replace h := (fellowshiplaw31_ForestChains_l2.eq_2 .. ).symm.trans h
            refine And.intro (fun hb => ?_) (fun hb => ?_)
            · replace h := cond_t h hb
              obtain ⟨r4_1_25, hl4_25, hr4_25⟩ := bnd h
              refine Or.inr ⟨{p : Unit // (Sum.inl p) = r4_1_25}, ⟨fun | ⟨(), _⟩ => [(2, (.dv (.sc (.bool false))))], fun | ⟨(), _⟩ => [(4, (.mp (.ints .u8 32) (mpD (fun q => .ints .u8 32 q) (fun q => .bl q) (st (((List.getD x5 (Int.toNat x23) T_forest_node.z).fMark).fID) true x24))))], fun _ => 0⟩, 0, ?_, ?_⟩
              · rintro ⟨⟨⟩, hp⟩
                subst hp
                replace h := hr4_25
                exact ⟨⟨(n2, (IntKind.wrap .i64 (x23 + 1)), (st (((List.getD x5 (Int.toNat x23) T_forest_node.z).fMark).fID) true x24)), h⟩, [], ⟨rfl, ⟨rfl, rfl, trivial⟩, ⟨rfl, rfl, rfl, rfl, rfl, trivial⟩, rfl⟩, Nat.lt_succ_self _⟩
              · replace h := hl4_25
                obtain ⟨r28, hc28, h⟩ := bnd h
                rcases r28 with ⟨⟩ | ⟨⟩
                · refine ⟨[], _, _, _, ⟨⟨_, forest_Forest_Mark_c er 0 3 1 2 (by decide) x23 x5 x3 x4 (Sum.inl ()) hc28, ⟨.inl rfl, .inl rfl, trivial⟩⟩, ⟨⟨rfl, rfl⟩, ⟨rfl, rfl⟩, ⟨rfl, rfl⟩, ⟨rfl, rfl⟩, trivial⟩, rfl⟩, ?_⟩
                  refine And.intro (fun h0 => Bool.noConfusion h0) (fun _ => ?_)
                  refine And.intro ?_ ?_
                  · intro v hv
                    obtain ⟨x26, hx, rfl⟩ := lk_some (kf := (fun q => .ints .u8 32 q)) (vf := (fun q => .bl q)) (fun _ _ => rfl) (k := ((List.getD x5 (Int.toNat x23) T_forest_node.z).fMark).fID) (es := x24) hv
                    replace h := optK_s h hx
                    refine And.intro (fun hb => ?_) (fun hb => ?_)
                    · replace h := cond_t h hb
                      obtain rfl := some_in h
                      replace h := hr4_25
                      obtain rfl := some_in h
                      replace h := hr3_22
                      obtain rfl := some_in h
                      exact ⟨rfl, trivial⟩
                    · replace h := cond_f h hb
                      refine ⟨(mpD (fun q => .ints .u8 32 q) (fun q => .bl q) (st (((List.getD x5 (Int.toNat x23) T_forest_node.z).fMark).fID) true x24)), st_mp (fun _ _ => rfl) _ _ _, ?_⟩
                      obtain ⟨x27, hc27, h⟩ := bnd h
                      refine ⟨[], _, _, _, ⟨⟨_, forest_Forest_Parent_c er 0 3 1 2 (by decide) x23 x5 x3 x4 x27 hc27, ⟨.inl rfl, .inl rfl, trivial⟩⟩, ⟨⟨rfl, rfl⟩, ⟨rfl, rfl⟩, ⟨rfl, rfl⟩, ⟨rfl, rfl⟩, trivial⟩, rfl⟩, ?_⟩
                      obtain ⟨r5_1_27, hl5_27, hr5_27⟩ := bnd h
                      refine Or.inr ⟨{p : Unit // (Sum.inl p) = r5_1_27}, ⟨fun | ⟨(), _⟩ => [(2, (.dv (.sc (.bool false))))], fun | ⟨(), _⟩ => [], fun _ => 0⟩, 0, ?_, ?_⟩
                      · rintro ⟨⟨⟩, hp⟩
                        subst hp
                        replace h := hr5_27
                        exact ⟨[], [], ⟨(), some_in h⟩, [], rfl, ⟨rfl, trivial⟩, ⟨rfl, rfl, rfl, rfl, rfl, trivial⟩, rfl⟩
                      · replace h := hl5_27
                        refine And.intro (fun hb => ?_) (fun hb => ?_)
                        · replace h := cond_t h hb
                          obtain ⟨r27, hc27, h⟩ := bnd h
                          rcases r27 with ⟨⟩ | ⟨⟩
                          · refine ⟨[], _, _, _, ⟨⟨_, forest_Forest_Mark_c er 0 3 1 2 (by decide) x27 x5 x3 x4 (Sum.inl ()) hc27, ⟨.inl rfl, .inl rfl, trivial⟩⟩, ⟨⟨rfl, rfl⟩, ⟨rfl, rfl⟩, ⟨rfl, rfl⟩, ⟨rfl, rfl⟩, trivial⟩, rfl⟩, ?_⟩
                            refine And.intro (fun h0 => Bool.noConfusion h0) (fun _ => ?_)
                            refine And.intro (fun hb => ?_) (fun hb => ?_)
                            · replace h := cond_t h hb
                              obtain rfl := some_in h
                              replace h := hr5_27
                              obtain rfl := some_in h
                              replace h := hr4_25
                              obtain rfl := some_in h
                              replace h := hr3_22
                              obtain rfl := some_in h
                              exact ⟨rfl, trivial⟩
                            · replace h := cond_f h hb
                              refine And.intro (fun hb => ?_) (fun hb => ?_)
                              · replace h := cond_t h hb
                                obtain rfl := some_in h
                                replace h := hr5_27
                                obtain rfl := some_in h
                                replace h := hr4_25
                                obtain rfl := some_in h
                                replace h := hr3_22
                                obtain rfl := some_in h
                                exact ⟨rfl, trivial⟩
                              · replace h := cond_f h hb
                                exact ⟨[], [], ⟨(), some_in h⟩, [], rfl, ⟨rfl, trivial⟩, ⟨rfl, rfl, rfl, rfl, rfl, rfl, trivial⟩, rfl⟩
                          · refine ⟨[], _, _, _, ⟨⟨_, forest_Forest_Mark_c er 0 3 1 2 (by decide) x27 x5 x3 x4 (Sum.inr ()) hc27, ⟨.inl rfl, .inl rfl, trivial⟩⟩, ⟨⟨rfl, rfl⟩, ⟨rfl, rfl⟩, ⟨rfl, rfl⟩, ⟨rfl, rfl⟩, trivial⟩, rfl⟩, ?_⟩
                            refine And.intro (fun _ => ?_) (fun h0 => Bool.noConfusion h0)
                            obtain rfl := some_in h
                            replace h := hr5_27
                            obtain rfl := some_in h
                            replace h := hr4_25
                            obtain rfl := some_in h
                            replace h := hr3_22
                            obtain rfl := some_in h
                            exact ⟨rfl, trivial⟩
                        · replace h := cond_f h hb
                          exact ⟨[], [], ⟨(), some_in h⟩, [], rfl, ⟨rfl, trivial⟩, ⟨rfl, rfl, rfl, rfl, rfl, rfl, trivial⟩, rfl⟩
                  · intro hv
                    have hx := lk_none (kf := (fun q => .ints .u8 32 q)) (vf := (fun q => .bl q)) (fun _ _ => rfl) (k := ((List.getD x5 (Int.toNat x23) T_forest_node.z).fMark).fID) (es := x24) hv
                    replace h := optK_n h hx
                    refine ⟨(mpD (fun q => .ints .u8 32 q) (fun q => .bl q) (st (((List.getD x5 (Int.toNat x23) T_forest_node.z).fMark).fID) true x24)), st_mp (fun _ _ => rfl) _ _ _, ?_⟩
                    obtain ⟨x28, hc28, h⟩ := bnd h
                    refine ⟨[], _, _, _, ⟨⟨_, forest_Forest_Parent_c er 0 3 1 2 (by decide) x23 x5 x3 x4 x28 hc28, ⟨.inl rfl, .inl rfl, trivial⟩⟩, ⟨⟨rfl, rfl⟩, ⟨rfl, rfl⟩, ⟨rfl, rfl⟩, ⟨rfl, rfl⟩, trivial⟩, rfl⟩, ?_⟩
                    obtain ⟨r6_1_28, hl6_28, hr6_28⟩ := bnd h
                    refine Or.inr ⟨{p : Unit // (Sum.inl p) = r6_1_28}, ⟨fun | ⟨(), _⟩ => [(2, (.dv (.sc (.bool false))))], fun | ⟨(), _⟩ => [], fun _ => 0⟩, 0, ?_, ?_⟩
                    · rintro ⟨⟨⟩, hp⟩
                      subst hp
                      replace h := hr6_28
                      exact ⟨[], [], ⟨(), some_in h⟩, [], rfl, ⟨rfl, trivial⟩, ⟨rfl, rfl, rfl, rfl, rfl, trivial⟩, rfl⟩
                    · replace h := hl6_28
                      refine And.intro (fun hb => ?_) (fun hb => ?_)
                      · replace h := cond_t h hb
                        obtain ⟨r28, hc28, h⟩ := bnd h
                        rcases r28 with ⟨⟩ | ⟨⟩
                        · refine ⟨[], _, _, _, ⟨⟨_, forest_Forest_Mark_c er 0 3 1 2 (by decide) x28 x5 x3 x4 (Sum.inl ()) hc28, ⟨.inl rfl, .inl rfl, trivial⟩⟩, ⟨⟨rfl, rfl⟩, ⟨rfl, rfl⟩, ⟨rfl, rfl⟩, ⟨rfl, rfl⟩, trivial⟩, rfl⟩, ?_⟩
                          refine And.intro (fun h0 => Bool.noConfusion h0) (fun _ => ?_)
                          refine And.intro (fun hb => ?_) (fun hb => ?_)
                          · replace h := cond_t h hb
                            obtain rfl := some_in h
                            replace h := hr6_28
                            obtain rfl := some_in h
                            replace h := hr4_25
                            obtain rfl := some_in h
                            replace h := hr3_22
                            obtain rfl := some_in h
                            exact ⟨rfl, trivial⟩
                          · replace h := cond_f h hb
                            refine And.intro (fun hb => ?_) (fun hb => ?_)
                            · replace h := cond_t h hb
                              obtain rfl := some_in h
                              replace h := hr6_28
                              obtain rfl := some_in h
                              replace h := hr4_25
                              obtain rfl := some_in h
                              replace h := hr3_22
                              obtain rfl := some_in h
                              exact ⟨rfl, trivial⟩
                            · replace h := cond_f h hb
                              exact ⟨[], [], ⟨(), some_in h⟩, [], rfl, ⟨rfl, trivial⟩, ⟨rfl, rfl, rfl, rfl, rfl, rfl, trivial⟩, rfl⟩
                        · refine ⟨[], _, _, _, ⟨⟨_, forest_Forest_Mark_c er 0 3 1 2 (by decide) x28 x5 x3 x4 (Sum.inr ()) hc28, ⟨.inl rfl, .inl rfl, trivial⟩⟩, ⟨⟨rfl, rfl⟩, ⟨rfl, rfl⟩, ⟨rfl, rfl⟩, ⟨rfl, rfl⟩, trivial⟩, rfl⟩, ?_⟩
                          refine And.intro (fun _ => ?_) (fun h0 => Bool.noConfusion h0)
                          obtain rfl := some_in h
                          replace h := hr6_28
                          obtain rfl := some_in h
                          replace h := hr4_25
                          obtain rfl := some_in h
                          replace h := hr3_22
                          obtain rfl := some_in h
                          exact ⟨rfl, trivial⟩
                      · replace h := cond_f h hb
                        exact ⟨[], [], ⟨(), some_in h⟩, [], rfl, ⟨rfl, trivial⟩, ⟨rfl, rfl, rfl, rfl, rfl, rfl, trivial⟩, rfl⟩
                · refine ⟨[], _, _, _, ⟨⟨_, forest_Forest_Mark_c er 0 3 1 2 (by decide) x23 x5 x3 x4 (Sum.inr ()) hc28, ⟨.inl rfl, .inl rfl, trivial⟩⟩, ⟨⟨rfl, rfl⟩, ⟨rfl, rfl⟩, ⟨rfl, rfl⟩, ⟨rfl, rfl⟩, trivial⟩, rfl⟩, ?_⟩
                  refine And.intro (fun _ => ?_) (fun h0 => Bool.noConfusion h0)
                  obtain rfl := some_in h
                  replace h := hr4_25
                  obtain rfl := some_in h
                  replace h := hr3_22
                  obtain rfl := some_in h
                  exact ⟨rfl, trivial⟩
            · replace h := cond_f h hb
              exact ⟨[], [], ⟨x24, some_in h⟩, [], rfl, ⟨rfl, trivial⟩, ⟨rfl, rfl, rfl, rfl, rfl, trivial⟩, rfl⟩
      · replace h := hl1_5
        refine ⟨{x : Nat × Int × (List ((List Int) × Int)) × (List (Int × Int)) × (List T_forest_node) // fellowshiplaw31_ForestChains_l1 x1 x.1 x.2.1 x.2.2.1 x.2.2.2.1 x.2.2.2.2 = some r1_0_5}, ⟨fun | ⟨(n1, x6, x7, x8, x9), _⟩ => [(21, (.int .i64 x6))], fun | ⟨(n1, x6, x7, x8, x9), _⟩ => [(0, (.var (.cons (.sl 3 [] ly68 0 (List.length x9)) (.cons (.mp 1) (.cons (.mp 2) (.dv .nil)))))), (1, (.mp (.ints .u8 32) (mpD (fun q => .ints .u8 32 q) (fun q => .sc (.int .i64 q)) x7))), (2, (.mp (.int .i64) (mpD (fun q => .sc (.int .i64 q)) (fun q => .sc (.int .i64 q)) x8))), (3, (.row ly68 (List.length x9) (rw_ T_forest_node.dv T_forest_node.z x9)))], fun | ⟨(n1, x6, x7, x8, x9), _⟩ => n1⟩, [], [(0, [0], .row ly68 0 (rw_ T_forest_node.dv T_forest_node.z []))], ⟨(FUEL, 0, [], [], []), h⟩, ⟨rfl, ⟨rfl, trivial⟩, ⟨rfl, rfl, rfl, rfl, trivial⟩, rfl⟩, ?_⟩
        rintro ⟨⟨n1, x6, x7, x8, x9⟩, h⟩
        cases n1 with
        | zero => exact no_none h
        | succ n1 =>
          replace h := (fellowshiplaw31_ForestChains_l1.eq_2 .. ).symm.trans h
          refine And.intro (fun hb => ?_) (fun hb => ?_)
          · replace h := cond_t h hb
            refine Or.inl ?_
            obtain ⟨hg, h⟩ := gd h
            refine And.intro hg ?_
            obtain ⟨r2_0_12, hl2_12, hr2_12⟩ := bnd h
            refine Or.inr ⟨{p : (List ((List Int) × Int)) × (List (Int × Int)) × (List T_forest_node) // p = r2_0_12}, ⟨fun | ⟨(x10, x11, x12), _⟩ => [], fun | ⟨(x10, x11, x12), _⟩ => [(0, (.var (.cons (.sl 5 [] ly68 0 (List.length x12)) (.cons (.mp 1) (.cons (.mp 2) (.dv .nil)))))), (1, (.mp (.ints .u8 32) (mpD (fun q => .ints .u8 32 q) (fun q => .sc (.int .i64 q)) x10))), (2, (.mp (.int .i64) (mpD (fun q => .sc (.int .i64 q)) (fun q => .sc (.int .i64 q)) x11))), (3, .dead), (5, (.row ly68 (List.length x12) (rw_ T_forest_node.dv T_forest_node.z x12)))], fun _ => 0⟩, 1, ?_, ?_⟩
            · rintro ⟨⟨x10, x11, x12⟩, hp⟩
              subst hp
              replace h := hr2_12
              exact ⟨⟨(n1, (IntKind.wrap .i64 (x6 + 1)), x10, x11, x12), h⟩, [(3, 5)], ⟨rfl, ⟨rfl, trivial⟩, ⟨rfl, rfl, rfl, rfl, trivial⟩, rfl⟩, Nat.lt_succ_self _⟩
            · replace h := hl2_12
              refine And.intro (fun hb => ?_) (fun hb => ?_)
              · replace h := cond_t h hb
                obtain ⟨r12, hc12, h⟩ := bnd h
                refine ⟨[], _, _, _, ⟨⟨_, forest_Forest_Leave_2_c er 0 3 1 2 (by decide) ((List.getD x1 (Int.toNat x6) T_fellowshiplaw31_Act.z).fWho) x9 x7 x8 r12 hc12, ⟨.inl rfl, .inl rfl, trivial⟩⟩, ⟨⟨rfl, rfl⟩, ⟨rfl, rfl⟩, ⟨rfl, rfl⟩, ⟨rfl, rfl⟩, trivial⟩, rfl⟩, ?_⟩
                exact ⟨[], [], ⟨(x7, (dl ((List.getD x1 (Int.toNat x6) T_fellowshiplaw31_Act.z).fWho) x8), x9), some_in h⟩, [(5, 3), (3, 10003)], rfl, trivial, ⟨rfl, rfl, rfl, trivial, rfl, rfl, trivial⟩, rfl⟩
              · replace h := cond_f h hb
                obtain ⟨r20, hc20, h⟩ := bnd h
                rcases r20 with ⟨x13, x14, x15⟩ | ⟨x16, x17, x18, x19⟩ | x20
                · refine ⟨[], _, _, _, ⟨⟨_, forest_Forest_See_2_c er 0 3 1 2 5 (by decide) ((List.getD x1 (Int.toNat x6) T_fellowshiplaw31_Act.z).fWho) ((List.getD x1 (Int.toNat x6) T_fellowshiplaw31_Act.z).fMark) x9 x7 x8 (Sum.inl (x13, x14, x15)) hc20, ⟨.inl rfl, .inl rfl, .inl rfl, trivial⟩⟩, ⟨⟨rfl, rfl⟩, ⟨rfl, rfl⟩, ⟨rfl, rfl⟩, ⟨rfl, rfl⟩, trivial⟩, rfl⟩, ?_⟩
                  exact ⟨[], [], ⟨(x7, x15, x14), some_in h⟩, [(5, 3), (3, 10003)], rfl, trivial, ⟨rfl, rfl, rfl, trivial, rfl, rfl, trivial⟩, rfl⟩
                · refine ⟨[], _, _, _, ⟨⟨_, forest_Forest_See_2_c er 0 3 1 2 5 (by decide) ((List.getD x1 (Int.toNat x6) T_fellowshiplaw31_Act.z).fWho) ((List.getD x1 (Int.toNat x6) T_fellowshiplaw31_Act.z).fMark) x9 x7 x8 (Sum.inr (Sum.inl (x16, x17, x18, x19))) hc20, ⟨.inl rfl, .inl rfl, .inl rfl, trivial⟩⟩, ⟨⟨rfl, rfl⟩, ⟨rfl, rfl⟩, ⟨rfl, rfl⟩, ⟨rfl, rfl⟩, trivial⟩, rfl⟩, ?_⟩
                  exact ⟨[], [], ⟨(x17, x18, x19), some_in h⟩, [], rfl, trivial, ⟨rfl, rfl, rfl, trivial, rfl, rfl, trivial⟩, rfl⟩
                · refine ⟨[], _, _, _, ⟨⟨_, forest_Forest_See_2_c er 0 3 1 2 5 (by decide) ((List.getD x1 (Int.toNat x6) T_fellowshiplaw31_Act.z).fWho) ((List.getD x1 (Int.toNat x6) T_fellowshiplaw31_Act.z).fMark) x9 x7 x8 (Sum.inr (Sum.inr x20)) hc20, ⟨.inl rfl, .inl rfl, .inl rfl, trivial⟩⟩, ⟨⟨rfl, rfl⟩, ⟨rfl, rfl⟩, ⟨rfl, rfl⟩, ⟨rfl, rfl⟩, trivial⟩, rfl⟩, ?_⟩
                  exact ⟨[], [], ⟨(x7, x8, x9), some_in h⟩, [(5, 3), (3, 10003)], rfl, trivial, ⟨rfl, rfl, rfl, trivial, rfl, rfl, trivial⟩, rfl⟩
          · replace h := cond_f h hb
            exact ⟨[], [], ⟨(x7, x8, x9), some_in h⟩, [], rfl, trivial, ⟨rfl, rfl, rfl, rfl, trivial⟩, rfl⟩
end
end Go.Eng
