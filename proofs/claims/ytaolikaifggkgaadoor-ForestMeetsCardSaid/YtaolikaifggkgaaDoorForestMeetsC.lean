/-
  Part of a proof: ForestMeetsC.
-/
import Derived.Test.YtaolikaifggkgaaDoorTabN
set_option linter.unusedVariables false
set_option linter.unusedSimpArgs false
namespace Go.Eng
open Go.Proofs
set_option maxRecDepth 100000
set_option maxHeartbeats 4000000
/-- The package-level errors, by their numbers. -/
def GEv (er : Nat → ErrV) : Nat → AV
  | 0 => .rp (.sc (.iface (er 18).1 (er 18).2))
  | 1 => .rp (.sc (.iface (er 19).1 (er 19).2))
  | 2 => .rp (.sc (.iface (er 13).1 (er 13).2))
  | _ => .any
def GE (er : Nat → ErrV) : Glob := ⟨GEv er, ErrsOK 79 er [18, 19, 13]⟩
theorem GE_plain (er : Nat → ErrV) : GPlain (GE er) := fun g => by show (GEv er g).inB _ = true; unfold GEv; split <;> rfl
section
variable (er : Nat → ErrV)
structure T_forest_Mark where
  fGroup : List Int
  fEpoch : Int
  fID : List Int
  fAuthenticator : List Int
  fSecret : List Int
  fPrint : List Int
  fTranscript : List Int
  deriving DecidableEq
def T_forest_Mark.dv (x : T_forest_Mark) : DV := (.cons (.ints .u8 32 x.fGroup) (.cons (.sc (.int .i64 x.fEpoch)) (.cons (.ints .u8 32 x.fID) (.cons (.ints .u8 32 x.fAuthenticator) (.cons (.ints .u8 32 x.fSecret) (.cons (.ints .u8 32 x.fPrint) (.cons (.ints .u8 32 x.fTranscript) .nil)))))))
def T_forest_Mark.z : T_forest_Mark := ⟨(List.replicate 32 0), 0, (List.replicate 32 0), (List.replicate 32 0), (List.replicate 32 0), (List.replicate 32 0), (List.replicate 32 0)⟩
def T_forest_Mark.same (x y : T_forest_Mark) : Bool := ((x.fGroup == y.fGroup) && ((x.fEpoch == y.fEpoch) && ((x.fID == y.fID) && ((x.fAuthenticator == y.fAuthenticator) && ((x.fSecret == y.fSecret) && ((x.fPrint == y.fPrint) && ((x.fTranscript == y.fTranscript) && true)))))))
structure T_fellowshiplaw31_Act where
  fWho : Int
  fMark : T_forest_Mark
  fLeaves : Bool
  deriving DecidableEq
def T_fellowshiplaw31_Act.dv (x : T_fellowshiplaw31_Act) : DV := (.cons (.sc (.int .i64 x.fWho)) (.cons (T_forest_Mark.dv x.fMark) (.cons (.bl x.fLeaves) .nil)))
def T_fellowshiplaw31_Act.z : T_fellowshiplaw31_Act := ⟨0, T_forest_Mark.z, false⟩
def T_fellowshiplaw31_Act.same (x y : T_fellowshiplaw31_Act) : Bool := ((x.fWho == y.fWho) && (T_forest_Mark.same x.fMark y.fMark && ((x.fLeaves == y.fLeaves) && true)))
structure T_forest_node where
  fMark : T_forest_Mark
  fparent : Int
  deriving DecidableEq
def T_forest_node.dv (x : T_forest_node) : DV := (.cons (T_forest_Mark.dv x.fMark) (.cons (.sc (.int .i64 x.fparent)) .nil))
def T_forest_node.z : T_forest_node := ⟨T_forest_Mark.z, 0⟩
def T_forest_node.same (x y : T_forest_node) : Bool := (T_forest_Mark.same x.fMark y.fMark && ((x.fparent == y.fparent) && true))
/- fellowship/forest.New -/
def forest_New : Option Unit :=
  some ()
theorem forest_New_c (k0 k1 k2 : Nat) (hn : [k0, k1, k2].Nodup) (res : Unit) (h : forest_New = some res) :
    Fn Tryd.prog (GE er) 8 [] [] (.ptr k0 [] ly66) [(k0, (.var (.cons (.dv (.sc (.slice none 0 0))) (.cons (.mp k1) (.cons (.mp k2) (.dv .nil)))))), (k1, (.mp (.ints .u8 32) (mpD (fun q => .ints .u8 32 q) (fun q => .sc (.int .i64 q)) []))), (k2, (.mp (.int .i64) (mpD (fun q => .sc (.int .i64 q)) (fun q => .sc (.int .i64 q)) [])))] := by
  refine Fn.bodyE (fn := Tryd.f8) (c := _) tabOK mixed (GE_plain er) Tryd.func8 rfl rfl [(2, k0), (0, k1), (1, k2)] [] [] [2, 0, 1] (.ptr 2 [] ly66) [(.var (.cons (.dv (.sc (.slice none 0 0))) (.cons (.mp 0) (.cons (.mp 1) (.dv .nil))))), (.mp (.ints .u8 32) (mpD (fun q => .ints .u8 32 q) (fun q => .sc (.int .i64 q)) [])), (.mp (.int .i64) (mpD (fun q => .sc (.int .i64 q)) (fun q => .sc (.int .i64 q)) []))] rfl rfl rfl rfl rfl rfl hn 3 ?_
  replace h := (show forest_New = _ from h)
  unfold forest_New at h
  obtain rfl := some_in h
  exact ⟨rfl, rfl, rfl, rfl, trivial⟩
/- (*fellowship/forest.Forest).At -/
def forest_Forest_At (x8 : Int) (x9 : List ((List Int) × Int)) (x10 : List (Int × Int)) : Option Int :=
  optK (lk x8 x10)
    (fun x11 =>
      some x11)
    (some (-1))
theorem forest_Forest_At_c (b0 b1 b2 : Nat) (hn : [b0, b1, b2].Nodup) (x8 : Int) (x9 : List ((List Int) × Int)) (x10 : List (Int × Int)) (res : Int) (h : forest_Forest_At x8 x9 x10 = some res) :
    Fn Tryd.prog (GE er) 18 [(.ptr b0 [] ly66), (.int .i64 x8)] [(b0, (.var (.cons (.dv (.sc (.slice none 0 0))) (.cons (.mp b1) (.cons (.mp b2) (.dv .nil)))))), (b1, (.mp (.ints .u8 32) (mpD (fun q => .ints .u8 32 q) (fun q => .sc (.int .i64 q)) x9))), (b2, (.mp (.int .i64) (mpD (fun q => .sc (.int .i64 q)) (fun q => .sc (.int .i64 q)) x10)))] (.int .i64 res) [(b0, (.var (.cons (.dv (.sc (.slice none 0 0))) (.cons (.mp b1) (.cons (.mp b2) (.dv .nil)))))), (b1, (.mp (.ints .u8 32) (mpD (fun q => .ints .u8 32 q) (fun q => .sc (.int .i64 q)) x9))), (b2, (.mp (.int .i64) (mpD (fun q => .sc (.int .i64 q)) (fun q => .sc (.int .i64 q)) x10)))] := by
  refine Fn.bodyE (fn := Tryd.f18) (c := _) tabOK mixed (GE_plain er) Tryd.func18 rfl rfl [(0, b0), (1, b1), (2, b2)] [(.ptr 0 [] ly66), (.int .i64 x8)] [(.var (.cons (.dv (.sc (.slice none 0 0))) (.cons (.mp 1) (.cons (.mp 2) (.dv .nil))))), (.mp (.ints .u8 32) (mpD (fun q => .ints .u8 32 q) (fun q => .sc (.int .i64 q)) x9)), (.mp (.int .i64) (mpD (fun q => .sc (.int .i64 q)) (fun q => .sc (.int .i64 q)) x10))] [] (.int .i64 res) [(.var (.cons (.dv (.sc (.slice none 0 0))) (.cons (.mp 1) (.cons (.mp 2) (.dv .nil))))), (.mp (.ints .u8 32) (mpD (fun q => .ints .u8 32 q) (fun q => .sc (.int .i64 q)) x9)), (.mp (.int .i64) (mpD (fun q => .sc (.int .i64 q)) (fun q => .sc (.int .i64 q)) x10))] rfl rfl rfl rfl rfl rfl hn 3 ?_
  replace h := (show forest_Forest_At x8 x9 x10 = _ from h)
  unfold forest_Forest_At at h
  refine And.intro ?_ ?_
  · intro v hv
    obtain ⟨x11, hx, rfl⟩ := lk_some (kf := (fun q => .sc (.int .i64 q))) (vf := (fun q => .sc (.int .i64 q))) (fun _ _ => rfl) (k := x8) (es := x10) hv
    replace h := optK_s h hx
    obtain rfl := some_in h
    exact ⟨rfl, rfl, rfl, rfl, trivial⟩
  · intro hv
    have hx := lk_none (kf := (fun q => .sc (.int .i64 q))) (vf := (fun q => .sc (.int .i64 q))) (fun _ _ => rfl) (k := x8) (es := x10) hv
    replace h := optK_n h hx
    obtain rfl := some_in h
    exact ⟨rfl, rfl, rfl, rfl, trivial⟩
/- (*fellowship/forest.Forest).See ; not told: index of nil -/
def forest_Forest_See (x4 : Int) (x5 : T_forest_Mark) (x6 : List ((List Int) × Int)) (x7 : List (Int × Int)) : Option (Int × (List ((List Int) × Int)) × (List (Int × Int)) × (List T_forest_node)) :=
  (forest_Forest_At x4 x6 x7).bind fun x8 =>
    cond (!(x8 == (-1)))
      (none)
      (optK (lk x5.fID x6)
        (fun x9 =>
          none)
        (if ((List.length [({ fMark := x5, fparent := x8 } : T_forest_node)]) : Int) * 208 ≤ 140737488355328 then
          optK (lk x5.fID x6)
            (fun x10 =>
              optK (lk x4 x7)
                (fun x11 =>
                  some ((IntKind.wrap .i64 (((List.length [({ fMark := x5, fparent := x8 } : T_forest_node)]) : Int) - 1)), (st x5.fID (IntKind.wrap .i64 (((List.length [({ fMark := x5, fparent := x8 } : T_forest_node)]) : Int) - 1)) x6), (st x4 (IntKind.wrap .i64 (((List.length [({ fMark := x5, fparent := x8 } : T_forest_node)]) : Int) - 1)) x7), [({ fMark := x5, fparent := x8 } : T_forest_node)]))
                (some ((IntKind.wrap .i64 (((List.length [({ fMark := x5, fparent := x8 } : T_forest_node)]) : Int) - 1)), (st x5.fID (IntKind.wrap .i64 (((List.length [({ fMark := x5, fparent := x8 } : T_forest_node)]) : Int) - 1)) x6), (st x4 (IntKind.wrap .i64 (((List.length [({ fMark := x5, fparent := x8 } : T_forest_node)]) : Int) - 1)) x7), [({ fMark := x5, fparent := x8 } : T_forest_node)])))
            (optK (lk x4 x7)
              (fun x12 =>
                some ((IntKind.wrap .i64 (((List.length [({ fMark := x5, fparent := x8 } : T_forest_node)]) : Int) - 1)), (st x5.fID (IntKind.wrap .i64 (((List.length [({ fMark := x5, fparent := x8 } : T_forest_node)]) : Int) - 1)) x6), (st x4 (IntKind.wrap .i64 (((List.length [({ fMark := x5, fparent := x8 } : T_forest_node)]) : Int) - 1)) x7), [({ fMark := x5, fparent := x8 } : T_forest_node)]))
              (some ((IntKind.wrap .i64 (((List.length [({ fMark := x5, fparent := x8 } : T_forest_node)]) : Int) - 1)), (st x5.fID (IntKind.wrap .i64 (((List.length [({ fMark := x5, fparent := x8 } : T_forest_node)]) : Int) - 1)) x6), (st x4 (IntKind.wrap .i64 (((List.length [({ fMark := x5, fparent := x8 } : T_forest_node)]) : Int) - 1)) x7), [({ fMark := x5, fparent := x8 } : T_forest_node)])))
        else none))
theorem forest_Forest_See_c (b0 b1 b2 k0 : Nat) (hn : [b0, b1, b2, k0].Nodup) (x4 : Int) (x5 : T_forest_Mark) (x6 : List ((List Int) × Int)) (x7 : List (Int × Int)) (res : Int × (List ((List Int) × Int)) × (List (Int × Int)) × (List T_forest_node)) (h : forest_Forest_See x4 x5 x6 x7 = some res) :
    Fn Tryd.prog (GE er) 10 [(.ptr b0 [] ly66), (.int .i64 x4), (.dv (T_forest_Mark.dv x5))] [(b0, (.var (.cons (.dv (.sc (.slice none 0 0))) (.cons (.mp b1) (.cons (.mp b2) (.dv .nil)))))), (b1, (.mp (.ints .u8 32) (mpD (fun q => .ints .u8 32 q) (fun q => .sc (.int .i64 q)) x6))), (b2, (.mp (.int .i64) (mpD (fun q => .sc (.int .i64 q)) (fun q => .sc (.int .i64 q)) x7)))] (.tup [(.int .i64 res.1), (.dv (.sc .nilIface))]) [(b0, (.var (.cons (.sl k0 [] ly68 0 (List.length res.2.2.2)) (.cons (.mp b1) (.cons (.mp b2) (.dv .nil)))))), (b1, (.mp (.ints .u8 32) (mpD (fun q => .ints .u8 32 q) (fun q => .sc (.int .i64 q)) res.2.1))), (b2, (.mp (.int .i64) (mpD (fun q => .sc (.int .i64 q)) (fun q => .sc (.int .i64 q)) res.2.2.1))), (k0, (.row ly68 (List.length res.2.2.2) (rw_ T_forest_node.dv T_forest_node.z res.2.2.2)))] := by
  refine Fn.bodyE (fn := Tryd.f10) (c := _) tabOK mixed (GE_plain er) Tryd.func10 rfl rfl [(0, b0), (1, b1), (2, b2), (5, k0)] [(.ptr 0 [] ly66), (.int .i64 x4), (.dv (T_forest_Mark.dv x5))] [(.var (.cons (.dv (.sc (.slice none 0 0))) (.cons (.mp 1) (.cons (.mp 2) (.dv .nil))))), (.mp (.ints .u8 32) (mpD (fun q => .ints .u8 32 q) (fun q => .sc (.int .i64 q)) x6)), (.mp (.int .i64) (mpD (fun q => .sc (.int .i64 q)) (fun q => .sc (.int .i64 q)) x7))] [5] (.tup [(.int .i64 res.1), (.dv (.sc .nilIface))]) [(.var (.cons (.sl 5 [] ly68 0 (List.length res.2.2.2)) (.cons (.mp 1) (.cons (.mp 2) (.dv .nil))))), (.mp (.ints .u8 32) (mpD (fun q => .ints .u8 32 q) (fun q => .sc (.int .i64 q)) res.2.1)), (.mp (.int .i64) (mpD (fun q => .sc (.int .i64 q)) (fun q => .sc (.int .i64 q)) res.2.2.1)), (.row ly68 (List.length res.2.2.2) (rw_ T_forest_node.dv T_forest_node.z res.2.2.2))] rfl rfl rfl rfl rfl rfl hn 3 ?_
  replace h := (show forest_Forest_See x4 x5 x6 x7 = _ from h)
  unfold forest_Forest_See at h
  obtain ⟨x8, hc12, h⟩ := bnd h
  refine ⟨[], _, _, _, ⟨⟨_, forest_Forest_At_c er 0 1 2 (by decide) x4 x6 x7 x8 hc12, ⟨.inl rfl, .inl rfl, trivial⟩⟩, ⟨⟨rfl, rfl⟩, ⟨rfl, rfl⟩, ⟨rfl, rfl⟩, trivial⟩, rfl⟩, ?_⟩
  refine Or.inl ?_
  refine And.intro (fun hb => ?_) (fun hb => ?_)
  · replace h := cond_t h hb
    exact no_none h
  · replace h := cond_f h hb
    refine And.intro ?_ ?_
    · intro v hv
      obtain ⟨x9, hx, rfl⟩ := lk_some (kf := (fun q => .ints .u8 32 q)) (vf := (fun q => .sc (.int .i64 q))) (fun _ _ => rfl) (k := x5.fID) (es := x6) hv
      replace h := optK_s h hx
      exact no_none h
    · intro hv
      have hx := lk_none (kf := (fun q => .ints .u8 32 q)) (vf := (fun q => .sc (.int .i64 q))) (fun _ _ => rfl) (k := x5.fID) (es := x6) hv
      replace h := optK_n h hx
      refine ⟨(List.length [({ fMark := x5, fparent := x8 } : T_forest_node)]), (rw_ T_forest_node.dv T_forest_node.z [({ fMark := x5, fparent := x8 } : T_forest_node)]), ⟨rfl, fun j hj => match j, hj with | 0, _ => rfl | _ + 1, hj => absurd hj (by omega)⟩, ?_⟩
      obtain ⟨hg, h⟩ := gd h
      refine And.intro hg ?_
      refine ⟨(List.length [({ fMark := x5, fparent := x8 } : T_forest_node)]), (rw_ T_forest_node.dv T_forest_node.z [({ fMark := x5, fparent := x8 } : T_forest_node)]), ⟨rfl, fun j _ => rfl⟩, 0, (List.length [({ fMark := x5, fparent := x8 } : T_forest_node)]), ⟨rfl, rfl⟩, ?_⟩
      refine And.intro ?_ ?_
      · intro v hv
        obtain ⟨x10, hx, rfl⟩ := lk_some (kf := (fun q => .ints .u8 32 q)) (vf := (fun q => .sc (.int .i64 q))) (fun _ _ => rfl) (k := x5.fID) (es := x6) hv
        replace h := optK_s h hx
        refine ⟨_, rfl, ?_⟩
        refine ⟨(mpD (fun q => .ints .u8 32 q) (fun q => .sc (.int .i64 q)) (st x5.fID (IntKind.wrap .i64 (((List.length [({ fMark := x5, fparent := x8 } : T_forest_node)]) : Int) - 1)) x6)), st_mp (fun _ _ => rfl) _ _ _, ?_⟩
        refine And.intro ?_ ?_
        · intro v hv
          obtain ⟨x11, hx, rfl⟩ := lk_some (kf := (fun q => .sc (.int .i64 q))) (vf := (fun q => .sc (.int .i64 q))) (fun _ _ => rfl) (k := x4) (es := x7) hv
          replace h := optK_s h hx
          refine ⟨_, rfl, ?_⟩
          refine ⟨(mpD (fun q => .sc (.int .i64 q)) (fun q => .sc (.int .i64 q)) (st x4 (IntKind.wrap .i64 (((List.length [({ fMark := x5, fparent := x8 } : T_forest_node)]) : Int) - 1)) x7)), st_mp (fun _ _ => rfl) _ _ _, ?_⟩
          obtain rfl := some_in h
          exact ⟨rfl, rfl, rfl, rfl, rfl, trivial⟩
        · intro hv
          have hx := lk_none (kf := (fun q => .sc (.int .i64 q))) (vf := (fun q => .sc (.int .i64 q))) (fun _ _ => rfl) (k := x4) (es := x7) hv
          replace h := optK_n h hx
          refine ⟨(mpD (fun q => .sc (.int .i64 q)) (fun q => .sc (.int .i64 q)) (st x4 0 x7)), st_mp (fun _ _ => rfl) _ _ _, ?_⟩
          refine ⟨(mpD (fun q => .sc (.int .i64 q)) (fun q => .sc (.int .i64 q)) (st x4 (IntKind.wrap .i64 (((List.length [({ fMark := x5, fparent := x8 } : T_forest_node)]) : Int) - 1)) x7)), st_mp2 (fun _ _ => rfl) _ _ 0 _, ?_⟩
          obtain rfl := some_in h
          exact ⟨rfl, rfl, rfl, rfl, rfl, trivial⟩
      · intro hv
        have hx := lk_none (kf := (fun q => .ints .u8 32 q)) (vf := (fun q => .sc (.int .i64 q))) (fun _ _ => rfl) (k := x5.fID) (es := x6) hv
        replace h := optK_n h hx
        refine ⟨(mpD (fun q => .ints .u8 32 q) (fun q => .sc (.int .i64 q)) (st x5.fID 0 x6)), st_mp (fun _ _ => rfl) _ _ _, ?_⟩
        refine ⟨(mpD (fun q => .ints .u8 32 q) (fun q => .sc (.int .i64 q)) (st x5.fID (IntKind.wrap .i64 (((List.length [({ fMark := x5, fparent := x8 } : T_forest_node)]) : Int) - 1)) x6)), st_mp2 (fun _ _ => rfl) _ _ 0 _, ?_⟩
        refine And.intro ?_ ?_
        · intro v hv
          obtain ⟨x12, hx, rfl⟩ := lk_some (kf := (fun q => .sc (.int .i64 q))) (vf := (fun q => .sc (.int .i64 q))) (fun _ _ => rfl) (k := x4) (es := x7) hv
          replace h := optK_s h hx
          refine ⟨_, rfl, ?_⟩
          refine ⟨(mpD (fun q => .sc (.int .i64 q)) (fun q => .sc (.int .i64 q)) (st x4 (IntKind.wrap .i64 (((List.length [({ fMark := x5, fparent := x8 } : T_forest_node)]) : Int) - 1)) x7)), st_mp (fun _ _ => rfl) _ _ _, ?_⟩
          obtain rfl := some_in h
          exact ⟨rfl, rfl, rfl, rfl, rfl, trivial⟩
        · intro hv
          have hx := lk_none (kf := (fun q => .sc (.int .i64 q))) (vf := (fun q => .sc (.int .i64 q))) (fun _ _ => rfl) (k := x4) (es := x7) hv
          replace h := optK_n h hx
          refine ⟨(mpD (fun q => .sc (.int .i64 q)) (fun q => .sc (.int .i64 q)) (st x4 0 x7)), st_mp (fun _ _ => rfl) _ _ _, ?_⟩
          refine ⟨(mpD (fun q => .sc (.int .i64 q)) (fun q => .sc (.int .i64 q)) (st x4 (IntKind.wrap .i64 (((List.length [({ fMark := x5, fparent := x8 } : T_forest_node)]) : Int) - 1)) x7)), st_mp2 (fun _ _ => rfl) _ _ 0 _, ?_⟩
          obtain rfl := some_in h
          exact ⟨rfl, rfl, rfl, rfl, rfl, trivial⟩
/- (*fellowship/forest.Forest).At -/
def forest_Forest_At_2 (x22 : Int) (x23 : List T_forest_node) (x24 : List ((List Int) × Int)) (x25 : List (Int × Int)) : Option Int :=
  optK (lk x22 x25)
    (fun x26 =>
      some x26)
    (some (-1))
theorem forest_Forest_At_2_c (b0 b1 b2 b3 : Nat) (hn : [b0, b1, b2, b3].Nodup) (x22 : Int) (x23 : List T_forest_node) (x24 : List ((List Int) × Int)) (x25 : List (Int × Int)) (res : Int) (h : forest_Forest_At_2 x22 x23 x24 x25 = some res) :
    Fn Tryd.prog (GE er) 18 [(.ptr b0 [] ly66), (.int .i64 x22)] [(b0, (.var (.cons (.sl b1 [] ly68 0 (List.length x23)) (.cons (.mp b2) (.cons (.mp b3) (.dv .nil)))))), (b1, (.row ly68 (List.length x23) (rw_ T_forest_node.dv T_forest_node.z x23))), (b2, (.mp (.ints .u8 32) (mpD (fun q => .ints .u8 32 q) (fun q => .sc (.int .i64 q)) x24))), (b3, (.mp (.int .i64) (mpD (fun q => .sc (.int .i64 q)) (fun q => .sc (.int .i64 q)) x25)))] (.int .i64 res) [(b0, (.var (.cons (.sl b1 [] ly68 0 (List.length x23)) (.cons (.mp b2) (.cons (.mp b3) (.dv .nil)))))), (b1, (.row ly68 (List.length x23) (rw_ T_forest_node.dv T_forest_node.z x23))), (b2, (.mp (.ints .u8 32) (mpD (fun q => .ints .u8 32 q) (fun q => .sc (.int .i64 q)) x24))), (b3, (.mp (.int .i64) (mpD (fun q => .sc (.int .i64 q)) (fun q => .sc (.int .i64 q)) x25)))] := by
  refine Fn.bodyE (fn := Tryd.f18) (c := _) tabOK mixed (GE_plain er) Tryd.func18 rfl rfl [(0, b0), (1, b1), (2, b2), (3, b3)] [(.ptr 0 [] ly66), (.int .i64 x22)] [(.var (.cons (.sl 1 [] ly68 0 (List.length x23)) (.cons (.mp 2) (.cons (.mp 3) (.dv .nil))))), (.row ly68 (List.length x23) (rw_ T_forest_node.dv T_forest_node.z x23)), (.mp (.ints .u8 32) (mpD (fun q => .ints .u8 32 q) (fun q => .sc (.int .i64 q)) x24)), (.mp (.int .i64) (mpD (fun q => .sc (.int .i64 q)) (fun q => .sc (.int .i64 q)) x25))] [] (.int .i64 res) [(.var (.cons (.sl 1 [] ly68 0 (List.length x23)) (.cons (.mp 2) (.cons (.mp 3) (.dv .nil))))), (.row ly68 (List.length x23) (rw_ T_forest_node.dv T_forest_node.z x23)), (.mp (.ints .u8 32) (mpD (fun q => .ints .u8 32 q) (fun q => .sc (.int .i64 q)) x24)), (.mp (.int .i64) (mpD (fun q => .sc (.int .i64 q)) (fun q => .sc (.int .i64 q)) x25))] rfl rfl rfl rfl rfl rfl hn 3 ?_
  replace h := (show forest_Forest_At_2 x22 x23 x24 x25 = _ from h)
  unfold forest_Forest_At_2 at h
  refine And.intro ?_ ?_
  · intro v hv
    obtain ⟨x26, hx, rfl⟩ := lk_some (kf := (fun q => .sc (.int .i64 q))) (vf := (fun q => .sc (.int .i64 q))) (fun _ _ => rfl) (k := x22) (es := x25) hv
    replace h := optK_s h hx
    obtain rfl := some_in h
    exact ⟨rfl, rfl, rfl, rfl, rfl, trivial⟩
  · intro hv
    have hx := lk_none (kf := (fun q => .sc (.int .i64 q))) (vf := (fun q => .sc (.int .i64 q))) (fun _ _ => rfl) (k := x22) (es := x25) hv
    replace h := optK_n h hx
    obtain rfl := some_in h
    exact ⟨rfl, rfl, rfl, rfl, rfl, trivial⟩
/- (fellowship/forest.Mark).follows -/
def forest_Mark_follows (x28 : T_forest_Mark) (x29 : T_forest_Mark) : Option Bool :=
  cond (x28.fGroup == x29.fGroup)
    (cond (decide (x28.fEpoch > x29.fEpoch))
      (some ((IntKind.wrap .i64 (x28.fEpoch - x29.fEpoch)) == 1))
      (some false))
    (some false)
theorem forest_Mark_follows_c (x28 : T_forest_Mark) (x29 : T_forest_Mark) (res : Bool) (h : forest_Mark_follows x28 x29 = some res) :
    Fn Tryd.prog (GE er) 19 [(.dv (T_forest_Mark.dv x28)), (.dv (T_forest_Mark.dv x29))] [] (.bl res) [] := by
  refine Fn.bodyE (fn := Tryd.f19) (c := _) tabOK mixed (GE_plain er) Tryd.func19 rfl rfl [] [(.dv (T_forest_Mark.dv x28)), (.dv (T_forest_Mark.dv x29))] [] [] (.bl res) [] rfl rfl rfl rfl rfl rfl .nil 3 ?_
  replace h := (show forest_Mark_follows x28 x29 = _ from h)
  unfold forest_Mark_follows at h
  refine And.intro (fun hb => ?_) (fun hb => ?_)
  · replace h := cond_t h hb
    refine And.intro (fun hb => ?_) (fun hb => ?_)
    · replace h := cond_t h hb
      obtain rfl := some_in h
      exact ⟨rfl, trivial⟩
    · replace h := cond_f h hb
      obtain rfl := some_in h
      exact ⟨rfl, trivial⟩
  · replace h := cond_f h hb
    obtain rfl := some_in h
    exact ⟨rfl, trivial⟩
/- (*fellowship/forest.Forest).See -/
def forest_Forest_See_2 (x17 : Int) (x18 : T_forest_Mark) (x19 : List T_forest_node) (x20 : List ((List Int) × Int)) (x21 : List (Int × Int)) : Option (((Int × (List T_forest_node) × (List (Int × Int))) ⊕ ((Int × (List ((List Int) × Int)) × (List (Int × Int)) × (List T_forest_node)) ⊕ Nat))) :=
  (forest_Forest_At_2 x17 x19 x20 x21).bind fun x22 =>
    ((cond (!(x22 == (-1)))
      (if 0 ≤ x22 ∧ x22 < ((List.length x19) : Int) then
        cond (T_forest_Mark.same ((List.getD x19 (Int.toNat x22) T_forest_node.z).fMark) x18)
          (some (Sum.inr (Sum.inl ())))
          ((forest_Mark_follows x18 ((List.getD x19 (Int.toNat x22) T_forest_node.z).fMark)).bind fun x23 =>
            cond (!x23)
              (some (Sum.inr (Sum.inr ())))
              (some (Sum.inl ())))
      else none)
      (some (Sum.inl ())) : Option ((Unit ⊕ (Unit ⊕ Unit))))).bind fun r1_0_22 => match r1_0_22 with
    | (Sum.inl ()) =>
        optK (lk x18.fID x20)
          (fun x24 =>
            if 0 ≤ x24 ∧ x24 < ((List.length x19) : Int) then
              ((cond (!(T_forest_Mark.same ((List.getD x19 (Int.toNat x24) T_forest_node.z).fMark) x18))
                (some (Sum.inr 19))
                (cond (!((List.getD x19 (Int.toNat x24) T_forest_node.z).fparent == (-1)))
                  (cond (!(x22 == (-1)))
                    (cond (!((List.getD x19 (Int.toNat x24) T_forest_node.z).fparent == x22))
                      (some (Sum.inr 13))
                      (((cond ((List.getD x19 (Int.toNat x24) T_forest_node.z).fparent == (-1))
                        (if (List.length x19) ≤ (List.length x19) then
                          some (List.set x19 (Int.toNat x24) ({ (List.getD x19 (Int.toNat x24) T_forest_node.z) with fparent := x22 }))
                        else none)
                        (some x19) : Option ((List T_forest_node)))).bind fun x27 =>
                        some (Sum.inl x27)))
                    (((cond ((List.getD x19 (Int.toNat x24) T_forest_node.z).fparent == (-1))
                      (if (List.length x19) ≤ (List.length x19) then
                        some (List.set x19 (Int.toNat x24) ({ (List.getD x19 (Int.toNat x24) T_forest_node.z) with fparent := x22 }))
                      else none)
                      (some x19) : Option ((List T_forest_node)))).bind fun x28 =>
                      some (Sum.inl x28)))
                  (((cond ((List.getD x19 (Int.toNat x24) T_forest_node.z).fparent == (-1))
                    (if (List.length x19) ≤ (List.length x19) then
                      some (List.set x19 (Int.toNat x24) ({ (List.getD x19 (Int.toNat x24) T_forest_node.z) with fparent := x22 }))
                    else none)
                    (some x19) : Option ((List T_forest_node)))).bind fun x29 =>
                    some (Sum.inl x29))) : Option ((((List T_forest_node)) ⊕ Nat)))).bind fun r2_0_26 => match r2_0_26 with
              | (Sum.inl x25) =>
                  some (Sum.inl (x24, x25, (st x17 x24 x21)))
              | (Sum.inr x26) =>
                  some (Sum.inr (Sum.inr x26))
            else none)
          (if (((List.length x19) : Int) + (List.length [({ fMark := x18, fparent := x22 } : T_forest_node)])) * 208 ≤ 140737488355328 then
            optK (lk x18.fID x20)
              (fun x30 =>
                optK (lk x17 x21)
                  (fun x31 =>
                    some (Sum.inr (Sum.inl ((IntKind.wrap .i64 (((List.length (x19 ++ [({ fMark := x18, fparent := x22 } : T_forest_node)])) : Int) - 1)), (st x18.fID (IntKind.wrap .i64 (((List.length (x19 ++ [({ fMark := x18, fparent := x22 } : T_forest_node)])) : Int) - 1)) x20), (st x17 (IntKind.wrap .i64 (((List.length (x19 ++ [({ fMark := x18, fparent := x22 } : T_forest_node)])) : Int) - 1)) x21), (x19 ++ [({ fMark := x18, fparent := x22 } : T_forest_node)])))))
                  (some (Sum.inr (Sum.inl ((IntKind.wrap .i64 (((List.length (x19 ++ [({ fMark := x18, fparent := x22 } : T_forest_node)])) : Int) - 1)), (st x18.fID (IntKind.wrap .i64 (((List.length (x19 ++ [({ fMark := x18, fparent := x22 } : T_forest_node)])) : Int) - 1)) x20), (st x17 (IntKind.wrap .i64 (((List.length (x19 ++ [({ fMark := x18, fparent := x22 } : T_forest_node)])) : Int) - 1)) x21), (x19 ++ [({ fMark := x18, fparent := x22 } : T_forest_node)]))))))
              (optK (lk x17 x21)
                (fun x32 =>
                  some (Sum.inr (Sum.inl ((IntKind.wrap .i64 (((List.length (x19 ++ [({ fMark := x18, fparent := x22 } : T_forest_node)])) : Int) - 1)), (st x18.fID (IntKind.wrap .i64 (((List.length (x19 ++ [({ fMark := x18, fparent := x22 } : T_forest_node)])) : Int) - 1)) x20), (st x17 (IntKind.wrap .i64 (((List.length (x19 ++ [({ fMark := x18, fparent := x22 } : T_forest_node)])) : Int) - 1)) x21), (x19 ++ [({ fMark := x18, fparent := x22 } : T_forest_node)])))))
                (some (Sum.inr (Sum.inl ((IntKind.wrap .i64 (((List.length (x19 ++ [({ fMark := x18, fparent := x22 } : T_forest_node)])) : Int) - 1)), (st x18.fID (IntKind.wrap .i64 (((List.length (x19 ++ [({ fMark := x18, fparent := x22 } : T_forest_node)])) : Int) - 1)) x20), (st x17 (IntKind.wrap .i64 (((List.length (x19 ++ [({ fMark := x18, fparent := x22 } : T_forest_node)])) : Int) - 1)) x21), (x19 ++ [({ fMark := x18, fparent := x22 } : T_forest_node)]))))))
          else none)
    | (Sum.inr (Sum.inl ())) =>
        some (Sum.inl (x22, x19, x21))
    | (Sum.inr (Sum.inr ())) =>
        some (Sum.inr (Sum.inr 18))
theorem forest_Forest_See_2_c (b0 b1 b2 b3 k0 : Nat) (hn : [b0, b1, b2, b3, k0].Nodup) (x17 : Int) (x18 : T_forest_Mark) (x19 : List T_forest_node) (x20 : List ((List Int) × Int)) (x21 : List (Int × Int)) (res : ((Int × (List T_forest_node) × (List (Int × Int))) ⊕ ((Int × (List ((List Int) × Int)) × (List (Int × Int)) × (List T_forest_node)) ⊕ Nat))) (h : forest_Forest_See_2 x17 x18 x19 x20 x21 = some res) :
    Fn Tryd.prog (GE er) 10 [(.ptr b0 [] ly66), (.int .i64 x17), (.dv (T_forest_Mark.dv x18))] [(b0, (.var (.cons (.sl b1 [] ly68 0 (List.length x19)) (.cons (.mp b2) (.cons (.mp b3) (.dv .nil)))))), (b1, (.row ly68 (List.length x19) (rw_ T_forest_node.dv T_forest_node.z x19))), (b2, (.mp (.ints .u8 32) (mpD (fun q => .ints .u8 32 q) (fun q => .sc (.int .i64 q)) x20))), (b3, (.mp (.int .i64) (mpD (fun q => .sc (.int .i64 q)) (fun q => .sc (.int .i64 q)) x21)))] (match res with | (Sum.inl (p0, p1, p2)) => (.tup [(.int .i64 p0), (.dv (.sc .nilIface))]) | (Sum.inr (Sum.inl (p0, p1, p2, p3))) => (.tup [(.int .i64 p0), (.dv (.sc .nilIface))]) | (Sum.inr (Sum.inr p0)) => (.tup [(.int .i64 (-1)), (errA er p0)])) (match res with | (Sum.inl (p0, p1, p2)) => [(b0, (.var (.cons (.sl b1 [] ly68 0 (List.length p1)) (.cons (.mp b2) (.cons (.mp b3) (.dv .nil)))))), (b1, (.row ly68 (List.length p1) (rw_ T_forest_node.dv T_forest_node.z p1))), (b2, (.mp (.ints .u8 32) (mpD (fun q => .ints .u8 32 q) (fun q => .sc (.int .i64 q)) x20))), (b3, (.mp (.int .i64) (mpD (fun q => .sc (.int .i64 q)) (fun q => .sc (.int .i64 q)) p2)))] | (Sum.inr (Sum.inl (p0, p1, p2, p3))) => [(b0, (.var (.cons (.sl k0 [] ly68 0 (List.length p3)) (.cons (.mp b2) (.cons (.mp b3) (.dv .nil)))))), (b1, .dead), (b2, (.mp (.ints .u8 32) (mpD (fun q => .ints .u8 32 q) (fun q => .sc (.int .i64 q)) p1))), (b3, (.mp (.int .i64) (mpD (fun q => .sc (.int .i64 q)) (fun q => .sc (.int .i64 q)) p2))), (k0, (.row ly68 (List.length p3) (rw_ T_forest_node.dv T_forest_node.z p3)))] | (Sum.inr (Sum.inr p0)) => [(b0, (.var (.cons (.sl b1 [] ly68 0 (List.length x19)) (.cons (.mp b2) (.cons (.mp b3) (.dv .nil)))))), (b1, (.row ly68 (List.length x19) (rw_ T_forest_node.dv T_forest_node.z x19))), (b2, (.mp (.ints .u8 32) (mpD (fun q => .ints .u8 32 q) (fun q => .sc (.int .i64 q)) x20))), (b3, (.mp (.int .i64) (mpD (fun q => .sc (.int .i64 q)) (fun q => .sc (.int .i64 q)) x21)))]) := by
  refine Fn.bodyE (fn := Tryd.f10) (c := _) tabOK mixed (GE_plain er) Tryd.func10 rfl rfl ((0, b0) :: (1, b1) :: (2, b2) :: (3, b3) :: (match res with | (Sum.inl (p0, p1, p2)) => [] | (Sum.inr (Sum.inl (p0, p1, p2, p3))) => [(6, k0)] | (Sum.inr (Sum.inr p0)) => [])) [(.ptr 0 [] ly66), (.int .i64 x17), (.dv (T_forest_Mark.dv x18))] [(.var (.cons (.sl 1 [] ly68 0 (List.length x19)) (.cons (.mp 2) (.cons (.mp 3) (.dv .nil))))), (.row ly68 (List.length x19) (rw_ T_forest_node.dv T_forest_node.z x19)), (.mp (.ints .u8 32) (mpD (fun q => .ints .u8 32 q) (fun q => .sc (.int .i64 q)) x20)), (.mp (.int .i64) (mpD (fun q => .sc (.int .i64 q)) (fun q => .sc (.int .i64 q)) x21))] (match res with | (Sum.inl (p0, p1, p2)) => [] | (Sum.inr (Sum.inl (p0, p1, p2, p3))) => [6] | (Sum.inr (Sum.inr p0)) => []) (match res with | (Sum.inl (p0, p1, p2)) => (.tup [(.int .i64 p0), (.dv (.sc .nilIface))]) | (Sum.inr (Sum.inl (p0, p1, p2, p3))) => (.tup [(.int .i64 p0), (.dv (.sc .nilIface))]) | (Sum.inr (Sum.inr p0)) => (.tup [(.int .i64 (-1)), (errA er p0)])) (match res with | (Sum.inl (p0, p1, p2)) => [(.var (.cons (.sl 1 [] ly68 0 (List.length p1)) (.cons (.mp 2) (.cons (.mp 3) (.dv .nil))))), (.row ly68 (List.length p1) (rw_ T_forest_node.dv T_forest_node.z p1)), (.mp (.ints .u8 32) (mpD (fun q => .ints .u8 32 q) (fun q => .sc (.int .i64 q)) x20)), (.mp (.int .i64) (mpD (fun q => .sc (.int .i64 q)) (fun q => .sc (.int .i64 q)) p2))] | (Sum.inr (Sum.inl (p0, p1, p2, p3))) => [(.var (.cons (.sl 6 [] ly68 0 (List.length p3)) (.cons (.mp 2) (.cons (.mp 3) (.dv .nil))))), .dead, (.mp (.ints .u8 32) (mpD (fun q => .ints .u8 32 q) (fun q => .sc (.int .i64 q)) p1)), (.mp (.int .i64) (mpD (fun q => .sc (.int .i64 q)) (fun q => .sc (.int .i64 q)) p2)), (.row ly68 (List.length p3) (rw_ T_forest_node.dv T_forest_node.z p3))] | (Sum.inr (Sum.inr p0)) => [(.var (.cons (.sl 1 [] ly68 0 (List.length x19)) (.cons (.mp 2) (.cons (.mp 3) (.dv .nil))))), (.row ly68 (List.length x19) (rw_ T_forest_node.dv T_forest_node.z x19)), (.mp (.ints .u8 32) (mpD (fun q => .ints .u8 32 q) (fun q => .sc (.int .i64 q)) x20)), (.mp (.int .i64) (mpD (fun q => .sc (.int .i64 q)) (fun q => .sc (.int .i64 q)) x21))]) rfl rfl (by rcases res with _ | _ | _ <;> rfl) (by rcases res with _ | _ | _ <;> rfl) (by rcases res with _ | _ | _ <;> rfl) (by rcases res with _ | _ | _ <;> rfl) (by rcases res with _ | _ | _ <;> first | exact hn.sublist (.cons_cons _ (.cons_cons _ (.cons_cons _ (.cons_cons _ (.cons _ .slnil))))) | exact hn.sublist (.cons_cons _ (.cons_cons _ (.cons_cons _ (.cons_cons _ (.cons_cons _ .slnil))))) | exact hn.sublist (.cons_cons _ (.cons_cons _ (.cons_cons _ (.cons_cons _ (.cons _ .slnil)))))) 3 ?_
  replace h := (show forest_Forest_See_2 x17 x18 x19 x20 x21 = _ from h)
  unfold forest_Forest_See_2 at h
  obtain ⟨x22, hc32, h⟩ := bnd h
  refine ⟨[], _, _, _, ⟨⟨_, forest_Forest_At_2_c er 0 1 2 3 (by decide) x17 x19 x20 x21 x22 hc32, ⟨.inl rfl, .inl rfl, trivial⟩⟩, ⟨⟨rfl, rfl⟩, ⟨rfl, rfl⟩, ⟨rfl, rfl⟩, ⟨rfl, rfl⟩, trivial⟩, rfl⟩, ?_⟩
  obtain ⟨r1_0_22, hl1_22, hr1_22⟩ := bnd h
  refine Or.inr ⟨{p : Unit // (Sum.inl p) = r1_0_22}, ⟨fun | ⟨(), _⟩ => [(6, (.int .i64 0)), (7, (.dv (.sc .nilIface)))], fun | ⟨(), _⟩ => [], fun _ => 0⟩, 0, ?_, ?_⟩
  · rintro ⟨⟨⟩, hp⟩
    subst hp
    replace h := hr1_22
    refine And.intro ?_ ?_
    · intro v hv
      obtain ⟨x24, hx, rfl⟩ := lk_some (kf := (fun q => .ints .u8 32 q)) (vf := (fun q => .sc (.int .i64 q))) (fun _ _ => rfl) (k := x18.fID) (es := x20) hv
      replace h := optK_s h hx
      obtain ⟨hg, h⟩ := gd h
      refine And.intro hg ?_
      obtain ⟨r2_0_26, hl2_26, hr2_26⟩ := bnd h
      refine Or.inr ⟨{p : (List T_forest_node) // (Sum.inl p) = r2_0_26}, ⟨fun | ⟨x25, _⟩ => [(6, (.int .i64 0)), (7, (.dv (.sc .nilIface)))], fun | ⟨x25, _⟩ => [(0, (.var (.cons (.sl 1 [] ly68 0 (List.length x25)) (.cons (.mp 2) (.cons (.mp 3) (.dv .nil)))))), (1, (.row ly68 (List.length x25) (rw_ T_forest_node.dv T_forest_node.z x25)))], fun _ => 0⟩, 0, ?_, ?_⟩
      · rintro ⟨x25, hp⟩
        subst hp
        replace h := hr2_26
        refine ⟨(mpD (fun q => .sc (.int .i64 q)) (fun q => .sc (.int .i64 q)) (st x17 x24 x21)), st_mp (fun _ _ => rfl) _ _ _, ?_⟩
        obtain rfl := some_in h
        exact ⟨rfl, rfl, rfl, rfl, rfl, trivial⟩
      · replace h := hl2_26
        refine And.intro (fun hb => ?_) (fun hb => ?_)
        · replace h := cond_t h hb
          obtain rfl := some_in h
          replace h := hr2_26
          obtain rfl := some_in h
          exact ⟨rfl, rfl, rfl, rfl, rfl, trivial⟩
        · replace h := cond_f h hb
          refine And.intro (fun hb => ?_) (fun hb => ?_)
          · replace h := cond_t h hb
            refine And.intro (fun hb => ?_) (fun hb => ?_)
            · replace h := cond_t h hb
              refine And.intro (fun hb => ?_) (fun hb => ?_)
              · replace h := cond_t h hb
                obtain rfl := some_in h
                replace h := hr2_26
                obtain rfl := some_in h
                exact ⟨rfl, rfl, rfl, rfl, rfl, trivial⟩
              · replace h := cond_f h hb
                obtain ⟨r3_0_27, hl3_27, hr3_27⟩ := bnd h
                refine Or.inr ⟨{p : (List T_forest_node) // p = r3_0_27}, ⟨fun | ⟨x27, _⟩ => [], fun | ⟨x27, _⟩ => [(0, (.var (.cons (.sl 1 [] ly68 0 (List.length x27)) (.cons (.mp 2) (.cons (.mp 3) (.dv .nil)))))), (1, (.row ly68 (List.length x27) (rw_ T_forest_node.dv T_forest_node.z x27)))], fun _ => 0⟩, 0, ?_, ?_⟩
                · rintro ⟨x27, hp⟩
                  subst hp
                  replace h := hr3_27
                  exact ⟨[], [], ⟨x27, some_in h⟩, [], rfl, ⟨rfl, rfl, trivial⟩, ⟨rfl, rfl, rfl, rfl, rfl, trivial⟩, rfl⟩
                · replace h := hl3_27
                  refine And.intro (fun hb => ?_) (fun hb => ?_)
                  · replace h := cond_t h hb
                    obtain ⟨hg, h⟩ := gd h
                    refine ⟨_, (rw_ T_forest_node.dv T_forest_node.z (List.set x19 (Int.toNat x24) ({ (List.getD x19 (Int.toNat x24) T_forest_node.z) with fparent := x22 }))), ⟨rfl, rw_set T_forest_node.dv T_forest_node.z x19 ({ (List.getD x19 (Int.toNat x24) T_forest_node.z) with fparent := x22 }) hg rfl⟩, ?_⟩
                    exact ⟨[], [], ⟨(List.set x19 (Int.toNat x24) ({ (List.getD x19 (Int.toNat x24) T_forest_node.z) with fparent := x22 })), some_in h⟩, [], rfl, trivial, ⟨(show ((.var (.cons (.sl 1 [] ly68 0 (List.length x19)) (.cons (.mp 2) (.cons (.mp 3) (.dv .nil))))) : Blk) = ((.var (.cons (.sl 1 [] ly68 0 (List.length (List.set x19 (Int.toNat x24) ({ (List.getD x19 (Int.toNat x24) T_forest_node.z) with fparent := x22 })))) (.cons (.mp 2) (.cons (.mp 3) (.dv .nil))))) : Blk) by simp only [List.length_set]), (show ((.row ly68 (List.length x19) (rw_ T_forest_node.dv T_forest_node.z (List.set x19 (Int.toNat x24) ({ (List.getD x19 (Int.toNat x24) T_forest_node.z) with fparent := x22 })))) : Blk) = ((.row ly68 (List.length (List.set x19 (Int.toNat x24) ({ (List.getD x19 (Int.toNat x24) T_forest_node.z) with fparent := x22 }))) (rw_ T_forest_node.dv T_forest_node.z (List.set x19 (Int.toNat x24) ({ (List.getD x19 (Int.toNat x24) T_forest_node.z) with fparent := x22 })))) : Blk) by simp only [List.length_set]), rfl, rfl, rfl, trivial⟩, rfl⟩
                  · replace h := cond_f h hb
                    exact ⟨[], [], ⟨x19, some_in h⟩, [], rfl, trivial, ⟨rfl, rfl, rfl, rfl, rfl, trivial⟩, rfl⟩
            · replace h := cond_f h hb
              obtain ⟨r4_0_28, hl4_28, hr4_28⟩ := bnd h
              refine Or.inr ⟨{p : (List T_forest_node) // p = r4_0_28}, ⟨fun | ⟨x28, _⟩ => [], fun | ⟨x28, _⟩ => [(0, (.var (.cons (.sl 1 [] ly68 0 (List.length x28)) (.cons (.mp 2) (.cons (.mp 3) (.dv .nil)))))), (1, (.row ly68 (List.length x28) (rw_ T_forest_node.dv T_forest_node.z x28)))], fun _ => 0⟩, 0, ?_, ?_⟩
              · rintro ⟨x28, hp⟩
                subst hp
                replace h := hr4_28
                exact ⟨[], [], ⟨x28, some_in h⟩, [], rfl, ⟨rfl, rfl, trivial⟩, ⟨rfl, rfl, rfl, rfl, rfl, trivial⟩, rfl⟩
              · replace h := hl4_28
                refine And.intro (fun hb => ?_) (fun hb => ?_)
                · replace h := cond_t h hb
                  obtain ⟨hg, h⟩ := gd h
                  refine ⟨_, (rw_ T_forest_node.dv T_forest_node.z (List.set x19 (Int.toNat x24) ({ (List.getD x19 (Int.toNat x24) T_forest_node.z) with fparent := x22 }))), ⟨rfl, rw_set T_forest_node.dv T_forest_node.z x19 ({ (List.getD x19 (Int.toNat x24) T_forest_node.z) with fparent := x22 }) hg rfl⟩, ?_⟩
                  exact ⟨[], [], ⟨(List.set x19 (Int.toNat x24) ({ (List.getD x19 (Int.toNat x24) T_forest_node.z) with fparent := x22 })), some_in h⟩, [], rfl, trivial, ⟨(show ((.var (.cons (.sl 1 [] ly68 0 (List.length x19)) (.cons (.mp 2) (.cons (.mp 3) (.dv .nil))))) : Blk) = ((.var (.cons (.sl 1 [] ly68 0 (List.length (List.set x19 (Int.toNat x24) ({ (List.getD x19 (Int.toNat x24) T_forest_node.z) with fparent := x22 })))) (.cons (.mp 2) (.cons (.mp 3) (.dv .nil))))) : Blk) by simp only [List.length_set]), (show ((.row ly68 (List.length x19) (rw_ T_forest_node.dv T_forest_node.z (List.set x19 (Int.toNat x24) ({ (List.getD x19 (Int.toNat x24) T_forest_node.z) with fparent := x22 })))) : Blk) = ((.row ly68 (List.length (List.set x19 (Int.toNat x24) ({ (List.getD x19 (Int.toNat x24) T_forest_node.z) with fparent := x22 }))) (rw_ T_forest_node.dv T_forest_node.z (List.set x19 (Int.toNat x24) ({ (List.getD x19 (Int.toNat x24) T_forest_node.z) with fparent := x22 })))) : Blk) by simp only [List.length_set]), rfl, rfl, rfl, trivial⟩, rfl⟩
                · replace h := cond_f h hb
                  exact ⟨[], [], ⟨x19, some_in h⟩, [], rfl, trivial, ⟨rfl, rfl, rfl, rfl, rfl, trivial⟩, rfl⟩
          · replace h := cond_f h hb
            obtain ⟨r5_0_29, hl5_29, hr5_29⟩ := bnd h
            refine Or.inr ⟨{p : (List T_forest_node) // p = r5_0_29}, ⟨fun | ⟨x29, _⟩ => [], fun | ⟨x29, _⟩ => [(0, (.var (.cons (.sl 1 [] ly68 0 (List.length x29)) (.cons (.mp 2) (.cons (.mp 3) (.dv .nil)))))), (1, (.row ly68 (List.length x29) (rw_ T_forest_node.dv T_forest_node.z x29)))], fun _ => 0⟩, 0, ?_, ?_⟩
            · rintro ⟨x29, hp⟩
              subst hp
              replace h := hr5_29
              exact ⟨[], [], ⟨x29, some_in h⟩, [], rfl, ⟨rfl, rfl, trivial⟩, ⟨rfl, rfl, rfl, rfl, rfl, trivial⟩, rfl⟩
            · replace h := hl5_29
              refine And.intro (fun hb => ?_) (fun hb => ?_)
              · replace h := cond_t h hb
                obtain ⟨hg, h⟩ := gd h
                refine ⟨_, (rw_ T_forest_node.dv T_forest_node.z (List.set x19 (Int.toNat x24) ({ (List.getD x19 (Int.toNat x24) T_forest_node.z) with fparent := x22 }))), ⟨rfl, rw_set T_forest_node.dv T_forest_node.z x19 ({ (List.getD x19 (Int.toNat x24) T_forest_node.z) with fparent := x22 }) hg rfl⟩, ?_⟩
                exact ⟨[], [], ⟨(List.set x19 (Int.toNat x24) ({ (List.getD x19 (Int.toNat x24) T_forest_node.z) with fparent := x22 })), some_in h⟩, [], rfl, trivial, ⟨(show ((.var (.cons (.sl 1 [] ly68 0 (List.length x19)) (.cons (.mp 2) (.cons (.mp 3) (.dv .nil))))) : Blk) = ((.var (.cons (.sl 1 [] ly68 0 (List.length (List.set x19 (Int.toNat x24) ({ (List.getD x19 (Int.toNat x24) T_forest_node.z) with fparent := x22 })))) (.cons (.mp 2) (.cons (.mp 3) (.dv .nil))))) : Blk) by simp only [List.length_set]), (show ((.row ly68 (List.length x19) (rw_ T_forest_node.dv T_forest_node.z (List.set x19 (Int.toNat x24) ({ (List.getD x19 (Int.toNat x24) T_forest_node.z) with fparent := x22 })))) : Blk) = ((.row ly68 (List.length (List.set x19 (Int.toNat x24) ({ (List.getD x19 (Int.toNat x24) T_forest_node.z) with fparent := x22 }))) (rw_ T_forest_node.dv T_forest_node.z (List.set x19 (Int.toNat x24) ({ (List.getD x19 (Int.toNat x24) T_forest_node.z) with fparent := x22 })))) : Blk) by simp only [List.length_set]), rfl, rfl, rfl, trivial⟩, rfl⟩
              · replace h := cond_f h hb
                exact ⟨[], [], ⟨x19, some_in h⟩, [], rfl, trivial, ⟨rfl, rfl, rfl, rfl, rfl, trivial⟩, rfl⟩
    · intro hv
      have hx := lk_none (kf := (fun q => .ints .u8 32 q)) (vf := (fun q => .sc (.int .i64 q))) (fun _ _ => rfl) (k := x18.fID) (es := x20) hv
      replace h := optK_n h hx
      refine ⟨(List.length [({ fMark := x18, fparent := x22 } : T_forest_node)]), (rw_ T_forest_node.dv T_forest_node.z [({ fMark := x18, fparent := x22 } : T_forest_node)]), ⟨rfl, fun j hj => match j, hj with | 0, _ => rfl | _ + 1, hj => absurd hj (by omega)⟩, ?_⟩
      obtain ⟨hg, h⟩ := gd h
      refine And.intro hg ?_
      refine ⟨(List.length (x19 ++ [({ fMark := x18, fparent := x22 } : T_forest_node)])), (rw_ T_forest_node.dv T_forest_node.z (x19 ++ [({ fMark := x18, fparent := x22 } : T_forest_node)])), ⟨by simp, rw_push' T_forest_node.dv T_forest_node.z x19 [({ fMark := x18, fparent := x22 } : T_forest_node)] (by simp) (by simp) (fun _ _ => rfl) (fun j hj => by first | rfl | simp [rw_, addO_eq])⟩, 0, (List.length (x19 ++ [({ fMark := x18, fparent := x22 } : T_forest_node)])), ⟨rfl, by simp⟩, ?_⟩
      refine And.intro ?_ ?_
      · intro v hv
        obtain ⟨x30, hx, rfl⟩ := lk_some (kf := (fun q => .ints .u8 32 q)) (vf := (fun q => .sc (.int .i64 q))) (fun _ _ => rfl) (k := x18.fID) (es := x20) hv
        replace h := optK_s h hx
        refine ⟨_, rfl, ?_⟩
        refine ⟨(mpD (fun q => .ints .u8 32 q) (fun q => .sc (.int .i64 q)) (st x18.fID (IntKind.wrap .i64 (((List.length (x19 ++ [({ fMark := x18, fparent := x22 } : T_forest_node)])) : Int) - 1)) x20)), st_mp (fun _ _ => rfl) _ _ _, ?_⟩
        refine And.intro ?_ ?_
        · intro v hv
          obtain ⟨x31, hx, rfl⟩ := lk_some (kf := (fun q => .sc (.int .i64 q))) (vf := (fun q => .sc (.int .i64 q))) (fun _ _ => rfl) (k := x17) (es := x21) hv
          replace h := optK_s h hx
          refine ⟨_, rfl, ?_⟩
          refine ⟨(mpD (fun q => .sc (.int .i64 q)) (fun q => .sc (.int .i64 q)) (st x17 (IntKind.wrap .i64 (((List.length (x19 ++ [({ fMark := x18, fparent := x22 } : T_forest_node)])) : Int) - 1)) x21)), st_mp (fun _ _ => rfl) _ _ _, ?_⟩
          obtain rfl := some_in h
          exact ⟨rfl, rfl, rfl, rfl, rfl, rfl, trivial⟩
        · intro hv
          have hx := lk_none (kf := (fun q => .sc (.int .i64 q))) (vf := (fun q => .sc (.int .i64 q))) (fun _ _ => rfl) (k := x17) (es := x21) hv
          replace h := optK_n h hx
          refine ⟨(mpD (fun q => .sc (.int .i64 q)) (fun q => .sc (.int .i64 q)) (st x17 0 x21)), st_mp (fun _ _ => rfl) _ _ _, ?_⟩
          refine ⟨(mpD (fun q => .sc (.int .i64 q)) (fun q => .sc (.int .i64 q)) (st x17 (IntKind.wrap .i64 (((List.length (x19 ++ [({ fMark := x18, fparent := x22 } : T_forest_node)])) : Int) - 1)) x21)), st_mp2 (fun _ _ => rfl) _ _ 0 _, ?_⟩
          obtain rfl := some_in h
          exact ⟨rfl, rfl, rfl, rfl, rfl, rfl, trivial⟩
      · intro hv
        have hx := lk_none (kf := (fun q => .ints .u8 32 q)) (vf := (fun q => .sc (.int .i64 q))) (fun _ _ => rfl) (k := x18.fID) (es := x20) hv
        replace h := optK_n h hx
        refine ⟨(mpD (fun q => .ints .u8 32 q) (fun q => .sc (.int .i64 q)) (st x18.fID 0 x20)), st_mp (fun _ _ => rfl) _ _ _, ?_⟩
        refine ⟨(mpD (fun q => .ints .u8 32 q) (fun q => .sc (.int .i64 q)) (st x18.fID (IntKind.wrap .i64 (((List.length (x19 ++ [({ fMark := x18, fparent := x22 } : T_forest_node)])) : Int) - 1)) x20)), st_mp2 (fun _ _ => rfl) _ _ 0 _, ?_⟩
        refine And.intro ?_ ?_
        · intro v hv
          obtain ⟨x32, hx, rfl⟩ := lk_some (kf := (fun q => .sc (.int .i64 q))) (vf := (fun q => .sc (.int .i64 q))) (fun _ _ => rfl) (k := x17) (es := x21) hv
          replace h := optK_s h hx
          refine ⟨_, rfl, ?_⟩
          refine ⟨(mpD (fun q => .sc (.int .i64 q)) (fun q => .sc (.int .i64 q)) (st x17 (IntKind.wrap .i64 (((List.length (x19 ++ [({ fMark := x18, fparent := x22 } : T_forest_node)])) : Int) - 1)) x21)), st_mp (fun _ _ => rfl) _ _ _, ?_⟩
          obtain rfl := some_in h
          exact ⟨rfl, rfl, rfl, rfl, rfl, rfl, trivial⟩
        · intro hv
          have hx := lk_none (kf := (fun q => .sc (.int .i64 q))) (vf := (fun q => .sc (.int .i64 q))) (fun _ _ => rfl) (k := x17) (es := x21) hv
          replace h := optK_n h hx
          refine ⟨(mpD (fun q => .sc (.int .i64 q)) (fun q => .sc (.int .i64 q)) (st x17 0 x21)), st_mp (fun _ _ => rfl) _ _ _, ?_⟩
          refine ⟨(mpD (fun q => .sc (.int .i64 q)) (fun q => .sc (.int .i64 q)) (st x17 (IntKind.wrap .i64 (((List.length (x19 ++ [({ fMark := x18, fparent := x22 } : T_forest_node)])) : Int) - 1)) x21)), st_mp2 (fun _ _ => rfl) _ _ 0 _, ?_⟩
          obtain rfl := some_in h
          exact ⟨rfl, rfl, rfl, rfl, rfl, rfl, trivial⟩
  · replace h := hl1_22
    refine And.intro (fun hb => ?_) (fun hb => ?_)
    · replace h := cond_t h hb
      obtain ⟨hg, h⟩ := gd h
      refine And.intro hg ?_
      refine Or.inl ?_
      refine And.intro (fun hb => ?_) (fun hb => ?_)
      · replace h := cond_t h hb
        obtain rfl := some_in h
        replace h := hr1_22
        obtain rfl := some_in h
        exact ⟨rfl, rfl, rfl, rfl, rfl, trivial⟩
      · replace h := cond_f h hb
        obtain ⟨x23, hc23, h⟩ := bnd h
        refine ⟨[], _, _, _, ⟨⟨_, forest_Mark_follows_c er x18 ((List.getD x19 (Int.toNat x22) T_forest_node.z).fMark) x23 hc23, ⟨.inl rfl, .inl rfl, trivial⟩⟩, trivial, rfl⟩, ?_⟩
        refine And.intro (fun hb => ?_) (fun hb => ?_)
        · replace h := cond_t h hb
          obtain rfl := some_in h
          replace h := hr1_22
          obtain rfl := some_in h
          exact ⟨rfl, rfl, rfl, rfl, rfl, trivial⟩
        · replace h := cond_f h hb
          exact ⟨[], [], ⟨(), some_in h⟩, [], rfl, ⟨rfl, rfl, trivial⟩, ⟨rfl, rfl, rfl, rfl, rfl, trivial⟩, rfl⟩
    · replace h := cond_f h hb
      exact ⟨[], [], ⟨(), some_in h⟩, [], rfl, ⟨rfl, rfl, trivial⟩, ⟨rfl, rfl, rfl, rfl, rfl, trivial⟩, rfl⟩
/- (*fellowship/forest.Forest).Len -/
def forest_Forest_Len (x36 : List T_forest_node) (x37 : List ((List Int) × Int)) (x38 : List (Int × Int)) : Option Unit :=
  some ()
theorem forest_Forest_Len_c (b0 b1 b2 b3 : Nat) (hn : [b0, b1, b2, b3].Nodup) (x36 : List T_forest_node) (x37 : List ((List Int) × Int)) (x38 : List (Int × Int)) (res : Unit) (h : forest_Forest_Len x36 x37 x38 = some res) :
    Fn Tryd.prog (GE er) 11 [(.ptr b0 [] ly66)] [(b0, (.var (.cons (.sl b1 [] ly68 0 (List.length x36)) (.cons (.mp b2) (.cons (.mp b3) (.dv .nil)))))), (b1, (.row ly68 (List.length x36) (rw_ T_forest_node.dv T_forest_node.z x36))), (b2, (.mp (.ints .u8 32) (mpD (fun q => .ints .u8 32 q) (fun q => .sc (.int .i64 q)) x37))), (b3, (.mp (.int .i64) (mpD (fun q => .sc (.int .i64 q)) (fun q => .sc (.int .i64 q)) x38)))] (.int .i64 ((List.length x36) : Int)) [(b0, (.var (.cons (.sl b1 [] ly68 0 (List.length x36)) (.cons (.mp b2) (.cons (.mp b3) (.dv .nil)))))), (b1, (.row ly68 (List.length x36) (rw_ T_forest_node.dv T_forest_node.z x36))), (b2, (.mp (.ints .u8 32) (mpD (fun q => .ints .u8 32 q) (fun q => .sc (.int .i64 q)) x37))), (b3, (.mp (.int .i64) (mpD (fun q => .sc (.int .i64 q)) (fun q => .sc (.int .i64 q)) x38)))] := by
  refine Fn.bodyE (fn := Tryd.f11) (c := _) tabOK mixed (GE_plain er) Tryd.func11 rfl rfl [(0, b0), (1, b1), (2, b2), (3, b3)] [(.ptr 0 [] ly66)] [(.var (.cons (.sl 1 [] ly68 0 (List.length x36)) (.cons (.mp 2) (.cons (.mp 3) (.dv .nil))))), (.row ly68 (List.length x36) (rw_ T_forest_node.dv T_forest_node.z x36)), (.mp (.ints .u8 32) (mpD (fun q => .ints .u8 32 q) (fun q => .sc (.int .i64 q)) x37)), (.mp (.int .i64) (mpD (fun q => .sc (.int .i64 q)) (fun q => .sc (.int .i64 q)) x38))] [] (.int .i64 ((List.length x36) : Int)) [(.var (.cons (.sl 1 [] ly68 0 (List.length x36)) (.cons (.mp 2) (.cons (.mp 3) (.dv .nil))))), (.row ly68 (List.length x36) (rw_ T_forest_node.dv T_forest_node.z x36)), (.mp (.ints .u8 32) (mpD (fun q => .ints .u8 32 q) (fun q => .sc (.int .i64 q)) x37)), (.mp (.int .i64) (mpD (fun q => .sc (.int .i64 q)) (fun q => .sc (.int .i64 q)) x38))] rfl rfl rfl rfl rfl rfl hn 3 ?_
  replace h := (show forest_Forest_Len x36 x37 x38 = _ from h)
  unfold forest_Forest_Len at h
  obtain rfl := some_in h
  exact ⟨rfl, rfl, rfl, rfl, rfl, trivial⟩
/- fellowship/fellowshiplaw31.alive -/
def fellowshiplaw31_alive : Option Bool :=
  (forest_New).bind fun _ =>
    (forest_Forest_See 1 ({ fGroup := (List.replicate 32 0), fEpoch := 0, fID := (List.set (List.replicate 32 0) 0 1), fAuthenticator := (List.replicate 32 0), fSecret := (List.replicate 32 0), fPrint := (List.replicate 32 0), fTranscript := (List.replicate 32 0) } : T_forest_Mark) [] []).bind fun r17 => match r17 with
    | (x4, x5, x6, x7) =>
        (forest_Forest_See_2 2 ({ fGroup := (List.replicate 32 0), fEpoch := 0, fID := (List.set (List.replicate 32 0) 0 1), fAuthenticator := (List.replicate 32 0), fSecret := (List.replicate 32 0), fPrint := (List.replicate 32 0), fTranscript := (List.replicate 32 0) } : T_forest_Mark) x7 x5 x6).bind fun r17 => match r17 with
        | (Sum.inl (x8, x9, x10)) =>
            cond (x4 == 0)
              (cond (x8 == 0)
                ((forest_Forest_Len x9 x5 x10).bind fun _ =>
                  cond (((List.length x9) : Int) == 1)
                    ((forest_Forest_At_2 3 x9 x5 x10).bind fun x11 =>
                      some (x11 == (-1)))
                    (some false))
                (some false))
              (some false)
        | (Sum.inr (Sum.inl (x12, x13, x14, x15))) =>
            cond (x4 == 0)
              (cond (x12 == 0)
                ((forest_Forest_Len x15 x13 x14).bind fun _ =>
                  cond (((List.length x15) : Int) == 1)
                    ((forest_Forest_At_2 3 x15 x13 x14).bind fun x16 =>
                      some (x16 == (-1)))
                    (some false))
                (some false))
              (some false)
        | (Sum.inr (Sum.inr x17)) =>
            some false
theorem fellowshiplaw31_alive_c (res : Bool) (h : fellowshiplaw31_alive = some res) :
    Fn Tryd.prog (GE er) 6 [] [] (.bl res) [] := by
  refine Fn.bodyE (fn := Tryd.f6) (c := _) tabOK mixed (GE_plain er) Tryd.func6 rfl rfl [] [] [] [] (.bl res) [] rfl rfl rfl rfl rfl rfl .nil 3 ?_
  replace h := (show fellowshiplaw31_alive = _ from h)
  unfold fellowshiplaw31_alive at h
  obtain ⟨r17, hc17, h⟩ := bnd h
  refine ⟨[], _, _, _, ⟨⟨_, forest_New_c er 0 1 2 (by decide) r17 hc17, trivial⟩, trivial, rfl⟩, ?_⟩
  refine And.intro (fun h0 => Bool.noConfusion h0) (fun _ => ?_)
  obtain ⟨r17, hc17, h⟩ := bnd h
  obtain ⟨x4, x5, x6, x7⟩ := r17
  refine ⟨[], _, _, _, ⟨⟨_, forest_Forest_See_c er 0 1 2 4 (by decide) 1 ({ fGroup := (List.replicate 32 0), fEpoch := 0, fID := (List.set (List.replicate 32 0) 0 1), fAuthenticator := (List.replicate 32 0), fSecret := (List.replicate 32 0), fPrint := (List.replicate 32 0), fTranscript := (List.replicate 32 0) } : T_forest_Mark) [] [] (x4, x5, x6, x7) hc17, ⟨.inl rfl, .inl rfl, .inl rfl, trivial⟩⟩, ⟨⟨rfl, rfl⟩, ⟨rfl, rfl⟩, ⟨rfl, rfl⟩, trivial⟩, rfl⟩, ?_⟩
  obtain ⟨r17, hc17, h⟩ := bnd h
  rcases r17 with ⟨x8, x9, x10⟩ | ⟨x12, x13, x14, x15⟩ | x17
  · refine ⟨[], _, _, _, ⟨⟨_, forest_Forest_See_2_c er 0 4 1 2 5 (by decide) 2 ({ fGroup := (List.replicate 32 0), fEpoch := 0, fID := (List.set (List.replicate 32 0) 0 1), fAuthenticator := (List.replicate 32 0), fSecret := (List.replicate 32 0), fPrint := (List.replicate 32 0), fTranscript := (List.replicate 32 0) } : T_forest_Mark) x7 x5 x6 (Sum.inl (x8, x9, x10)) hc17, ⟨.inl rfl, .inl rfl, .inl rfl, trivial⟩⟩, ⟨⟨rfl, rfl⟩, ⟨rfl, rfl⟩, ⟨rfl, rfl⟩, ⟨rfl, rfl⟩, trivial⟩, rfl⟩, ?_⟩
    refine And.intro (fun _ => ?_) (fun h0 => Bool.noConfusion h0)
    refine And.intro (fun _ => ?_) (fun h0 => Bool.noConfusion h0)
    refine And.intro (fun hb => ?_) (fun hb => ?_)
    · replace h := cond_t h hb
      refine And.intro (fun hb => ?_) (fun hb => ?_)
      · replace h := cond_t h hb
        obtain ⟨r11, hc11, h⟩ := bnd h
        refine ⟨[], _, _, _, ⟨⟨_, forest_Forest_Len_c er 0 4 1 2 (by decide) x9 x5 x10 r11 hc11, ⟨.inl rfl, trivial⟩⟩, ⟨⟨rfl, rfl⟩, ⟨rfl, rfl⟩, ⟨rfl, rfl⟩, ⟨rfl, rfl⟩, trivial⟩, rfl⟩, ?_⟩
        refine And.intro (fun hb => ?_) (fun hb => ?_)
        · replace h := cond_t h hb
          obtain ⟨x11, hc11, h⟩ := bnd h
          refine ⟨[], _, _, _, ⟨⟨_, forest_Forest_At_2_c er 0 4 1 2 (by decide) 3 x9 x5 x10 x11 hc11, ⟨.inl rfl, .inl rfl, trivial⟩⟩, ⟨⟨rfl, rfl⟩, ⟨rfl, rfl⟩, ⟨rfl, rfl⟩, ⟨rfl, rfl⟩, trivial⟩, rfl⟩, ?_⟩
          obtain rfl := some_in h
          exact ⟨rfl, trivial⟩
        · replace h := cond_f h hb
          obtain rfl := some_in h
          exact ⟨rfl, trivial⟩
      · replace h := cond_f h hb
        obtain rfl := some_in h
        exact ⟨rfl, trivial⟩
    · replace h := cond_f h hb
      obtain rfl := some_in h
      exact ⟨rfl, trivial⟩
  · refine ⟨[], _, _, _, ⟨⟨_, forest_Forest_See_2_c er 0 4 1 2 5 (by decide) 2 ({ fGroup := (List.replicate 32 0), fEpoch := 0, fID := (List.set (List.replicate 32 0) 0 1), fAuthenticator := (List.replicate 32 0), fSecret := (List.replicate 32 0), fPrint := (List.replicate 32 0), fTranscript := (List.replicate 32 0) } : T_forest_Mark) x7 x5 x6 (Sum.inr (Sum.inl (x12, x13, x14, x15))) hc17, ⟨.inl rfl, .inl rfl, .inl rfl, trivial⟩⟩, ⟨⟨rfl, rfl⟩, ⟨rfl, rfl⟩, ⟨rfl, rfl⟩, ⟨rfl, rfl⟩, trivial⟩, rfl⟩, ?_⟩
    refine And.intro (fun _ => ?_) (fun h0 => Bool.noConfusion h0)
    refine And.intro (fun _ => ?_) (fun h0 => Bool.noConfusion h0)
    refine And.intro (fun hb => ?_) (fun hb => ?_)
    · replace h := cond_t h hb
      refine And.intro (fun hb => ?_) (fun hb => ?_)
      · replace h := cond_t h hb
        obtain ⟨r16, hc16, h⟩ := bnd h
        refine ⟨[], _, _, _, ⟨⟨_, forest_Forest_Len_c er 0 5 1 2 (by decide) x15 x13 x14 r16 hc16, ⟨.inl rfl, trivial⟩⟩, ⟨⟨rfl, rfl⟩, ⟨rfl, rfl⟩, ⟨rfl, rfl⟩, ⟨rfl, rfl⟩, trivial⟩, rfl⟩, ?_⟩
        refine And.intro (fun hb => ?_) (fun hb => ?_)
        · replace h := cond_t h hb
          obtain ⟨x16, hc16, h⟩ := bnd h
          refine ⟨[], _, _, _, ⟨⟨_, forest_Forest_At_2_c er 0 5 1 2 (by decide) 3 x15 x13 x14 x16 hc16, ⟨.inl rfl, .inl rfl, trivial⟩⟩, ⟨⟨rfl, rfl⟩, ⟨rfl, rfl⟩, ⟨rfl, rfl⟩, ⟨rfl, rfl⟩, trivial⟩, rfl⟩, ?_⟩
          obtain rfl := some_in h
          exact ⟨rfl, trivial⟩
        · replace h := cond_f h hb
          obtain rfl := some_in h
          exact ⟨rfl, trivial⟩
      · replace h := cond_f h hb
        obtain rfl := some_in h
        exact ⟨rfl, trivial⟩
    · replace h := cond_f h hb
      obtain rfl := some_in h
      exact ⟨rfl, trivial⟩
  · refine ⟨[], _, _, _, ⟨⟨_, forest_Forest_See_2_c er 0 4 1 2 5 (by decide) 2 ({ fGroup := (List.replicate 32 0), fEpoch := 0, fID := (List.set (List.replicate 32 0) 0 1), fAuthenticator := (List.replicate 32 0), fSecret := (List.replicate 32 0), fPrint := (List.replicate 32 0), fTranscript := (List.replicate 32 0) } : T_forest_Mark) x7 x5 x6 (Sum.inr (Sum.inr x17)) hc17, ⟨.inl rfl, .inl rfl, .inl rfl, trivial⟩⟩, ⟨⟨rfl, rfl⟩, ⟨rfl, rfl⟩, ⟨rfl, rfl⟩, ⟨rfl, rfl⟩, trivial⟩, rfl⟩, ?_⟩
    refine And.intro (fun _ => ?_) (fun h0 => Bool.noConfusion h0)
    refine And.intro (fun h0 => Bool.noConfusion h0) (fun _ => ?_)
    obtain rfl := some_in h
    exact ⟨rfl, trivial⟩
/- (*fellowship/forest.Forest).Leave -/
def forest_Forest_Leave (x19 : Int) (x20 : List ((List Int) × Int)) (x21 : List (Int × Int)) : Option Unit :=
  some ()
theorem forest_Forest_Leave_c (b0 b1 b2 : Nat) (hn : [b0, b1, b2].Nodup) (x19 : Int) (x20 : List ((List Int) × Int)) (x21 : List (Int × Int)) (res : Unit) (h : forest_Forest_Leave x19 x20 x21 = some res) :
    Fn Tryd.prog (GE er) 9 [(.ptr b0 [] ly66), (.int .i64 x19)] [(b0, (.var (.cons (.dv (.sc (.slice none 0 0))) (.cons (.mp b1) (.cons (.mp b2) (.dv .nil)))))), (b1, (.mp (.ints .u8 32) (mpD (fun q => .ints .u8 32 q) (fun q => .sc (.int .i64 q)) x20))), (b2, (.mp (.int .i64) (mpD (fun q => .sc (.int .i64 q)) (fun q => .sc (.int .i64 q)) x21)))] (.tup []) [(b0, (.var (.cons (.dv (.sc (.slice none 0 0))) (.cons (.mp b1) (.cons (.mp b2) (.dv .nil)))))), (b1, (.mp (.ints .u8 32) (mpD (fun q => .ints .u8 32 q) (fun q => .sc (.int .i64 q)) x20))), (b2, (.mp (.int .i64) (mpD (fun q => .sc (.int .i64 q)) (fun q => .sc (.int .i64 q)) (dl x19 x21))))] := by
  refine Fn.bodyE (fn := Tryd.f9) (c := _) tabOK mixed (GE_plain er) Tryd.func9 rfl rfl [(0, b0), (1, b1), (2, b2)] [(.ptr 0 [] ly66), (.int .i64 x19)] [(.var (.cons (.dv (.sc (.slice none 0 0))) (.cons (.mp 1) (.cons (.mp 2) (.dv .nil))))), (.mp (.ints .u8 32) (mpD (fun q => .ints .u8 32 q) (fun q => .sc (.int .i64 q)) x20)), (.mp (.int .i64) (mpD (fun q => .sc (.int .i64 q)) (fun q => .sc (.int .i64 q)) x21))] [] (.tup []) [(.var (.cons (.dv (.sc (.slice none 0 0))) (.cons (.mp 1) (.cons (.mp 2) (.dv .nil))))), (.mp (.ints .u8 32) (mpD (fun q => .ints .u8 32 q) (fun q => .sc (.int .i64 q)) x20)), (.mp (.int .i64) (mpD (fun q => .sc (.int .i64 q)) (fun q => .sc (.int .i64 q)) (dl x19 x21)))] rfl rfl rfl rfl rfl rfl hn 3 ?_
  replace h := (show forest_Forest_Leave x19 x20 x21 = _ from h)
  unfold forest_Forest_Leave at h
  refine ⟨(mpD (fun q => .sc (.int .i64 q)) (fun q => .sc (.int .i64 q)) (dl x19 x21)), dl_mp (fun _ _ => rfl) _ _, ?_⟩
  obtain rfl := some_in h
  exact ⟨rfl, rfl, rfl, rfl, trivial⟩
/- (*fellowship/forest.Forest).Leave -/
def forest_Forest_Leave_2 (x19 : Int) (x20 : List T_forest_node) (x21 : List ((List Int) × Int)) (x22 : List (Int × Int)) : Option Unit :=
  some ()
theorem forest_Forest_Leave_2_c (b0 b1 b2 b3 : Nat) (hn : [b0, b1, b2, b3].Nodup) (x19 : Int) (x20 : List T_forest_node) (x21 : List ((List Int) × Int)) (x22 : List (Int × Int)) (res : Unit) (h : forest_Forest_Leave_2 x19 x20 x21 x22 = some res) :
    Fn Tryd.prog (GE er) 9 [(.ptr b0 [] ly66), (.int .i64 x19)] [(b0, (.var (.cons (.sl b1 [] ly68 0 (List.length x20)) (.cons (.mp b2) (.cons (.mp b3) (.dv .nil)))))), (b1, (.row ly68 (List.length x20) (rw_ T_forest_node.dv T_forest_node.z x20))), (b2, (.mp (.ints .u8 32) (mpD (fun q => .ints .u8 32 q) (fun q => .sc (.int .i64 q)) x21))), (b3, (.mp (.int .i64) (mpD (fun q => .sc (.int .i64 q)) (fun q => .sc (.int .i64 q)) x22)))] (.tup []) [(b0, (.var (.cons (.sl b1 [] ly68 0 (List.length x20)) (.cons (.mp b2) (.cons (.mp b3) (.dv .nil)))))), (b1, (.row ly68 (List.length x20) (rw_ T_forest_node.dv T_forest_node.z x20))), (b2, (.mp (.ints .u8 32) (mpD (fun q => .ints .u8 32 q) (fun q => .sc (.int .i64 q)) x21))), (b3, (.mp (.int .i64) (mpD (fun q => .sc (.int .i64 q)) (fun q => .sc (.int .i64 q)) (dl x19 x22))))] := by
  refine Fn.bodyE (fn := Tryd.f9) (c := _) tabOK mixed (GE_plain er) Tryd.func9 rfl rfl [(0, b0), (1, b1), (2, b2), (3, b3)] [(.ptr 0 [] ly66), (.int .i64 x19)] [(.var (.cons (.sl 1 [] ly68 0 (List.length x20)) (.cons (.mp 2) (.cons (.mp 3) (.dv .nil))))), (.row ly68 (List.length x20) (rw_ T_forest_node.dv T_forest_node.z x20)), (.mp (.ints .u8 32) (mpD (fun q => .ints .u8 32 q) (fun q => .sc (.int .i64 q)) x21)), (.mp (.int .i64) (mpD (fun q => .sc (.int .i64 q)) (fun q => .sc (.int .i64 q)) x22))] [] (.tup []) [(.var (.cons (.sl 1 [] ly68 0 (List.length x20)) (.cons (.mp 2) (.cons (.mp 3) (.dv .nil))))), (.row ly68 (List.length x20) (rw_ T_forest_node.dv T_forest_node.z x20)), (.mp (.ints .u8 32) (mpD (fun q => .ints .u8 32 q) (fun q => .sc (.int .i64 q)) x21)), (.mp (.int .i64) (mpD (fun q => .sc (.int .i64 q)) (fun q => .sc (.int .i64 q)) (dl x19 x22)))] rfl rfl rfl rfl rfl rfl hn 3 ?_
  replace h := (show forest_Forest_Leave_2 x19 x20 x21 x22 = _ from h)
  unfold forest_Forest_Leave_2 at h
  refine ⟨(mpD (fun q => .sc (.int .i64 q)) (fun q => .sc (.int .i64 q)) (dl x19 x22)), dl_mp (fun _ _ => rfl) _ _, ?_⟩
  obtain rfl := some_in h
  exact ⟨rfl, rfl, rfl, rfl, rfl, trivial⟩
/- (*fellowship/forest.Forest).up -/
def forest_Forest_up (x31 : Int) (x32 : List T_forest_node) (x33 : List ((List Int) × Int)) (x34 : List (Int × Int)) : Option Unit :=
  some ()
theorem forest_Forest_up_c (b0 b1 b2 b3 k0 k1 : Nat) (hn : [b0, b1, b2, b3, k0, k1].Nodup) (x31 : Int) (x32 : List T_forest_node) (x33 : List ((List Int) × Int)) (x34 : List (Int × Int)) (res : Unit) (h : forest_Forest_up x31 x32 x33 x34 = some res) :
    Fn Tryd.prog (GE er) 21 [(.ptr b0 [] ly66), (.int .i64 x31)] [(b0, (.var (.cons (.sl b1 [] ly68 0 (List.length x32)) (.cons (.mp b2) (.cons (.mp b3) (.dv .nil)))))), (b1, (.row ly68 (List.length x32) (rw_ T_forest_node.dv T_forest_node.z x32))), (b2, (.mp (.ints .u8 32) (mpD (fun q => .ints .u8 32 q) (fun q => .sc (.int .i64 q)) x33))), (b3, (.mp (.int .i64) (mpD (fun q => .sc (.int .i64 q)) (fun q => .sc (.int .i64 q)) x34)))] (.fn 24 [(.ptr k0 [] ly41), (.ptr k1 [] ly3)]) [(b0, (.var (.cons (.sl b1 [] ly68 0 (List.length x32)) (.cons (.mp b2) (.cons (.mp b3) (.dv .nil)))))), (b1, (.row ly68 (List.length x32) (rw_ T_forest_node.dv T_forest_node.z x32))), (b2, (.mp (.ints .u8 32) (mpD (fun q => .ints .u8 32 q) (fun q => .sc (.int .i64 q)) x33))), (b3, (.mp (.int .i64) (mpD (fun q => .sc (.int .i64 q)) (fun q => .sc (.int .i64 q)) x34))), (k0, (.var (.ptr b0 [] ly66))), (k1, (.var (.int .i64 x31)))] := by
  refine Fn.bodyE (fn := Tryd.f21) (c := _) tabOK mixed (GE_plain er) Tryd.func21 rfl rfl [(0, b0), (1, b1), (2, b2), (3, b3), (4, k0), (5, k1)] [(.ptr 0 [] ly66), (.int .i64 x31)] [(.var (.cons (.sl 1 [] ly68 0 (List.length x32)) (.cons (.mp 2) (.cons (.mp 3) (.dv .nil))))), (.row ly68 (List.length x32) (rw_ T_forest_node.dv T_forest_node.z x32)), (.mp (.ints .u8 32) (mpD (fun q => .ints .u8 32 q) (fun q => .sc (.int .i64 q)) x33)), (.mp (.int .i64) (mpD (fun q => .sc (.int .i64 q)) (fun q => .sc (.int .i64 q)) x34))] [4, 5] (.fn 24 [(.ptr 4 [] ly41), (.ptr 5 [] ly3)]) [(.var (.cons (.sl 1 [] ly68 0 (List.length x32)) (.cons (.mp 2) (.cons (.mp 3) (.dv .nil))))), (.row ly68 (List.length x32) (rw_ T_forest_node.dv T_forest_node.z x32)), (.mp (.ints .u8 32) (mpD (fun q => .ints .u8 32 q) (fun q => .sc (.int .i64 q)) x33)), (.mp (.int .i64) (mpD (fun q => .sc (.int .i64 q)) (fun q => .sc (.int .i64 q)) x34)), (.var (.ptr 0 [] ly66)), (.var (.int .i64 x31))] rfl rfl rfl rfl rfl rfl hn 3 ?_
  replace h := (show forest_Forest_up x31 x32 x33 x34 = _ from h)
  unfold forest_Forest_up at h
  obtain rfl := some_in h
  exact ⟨rfl, rfl, rfl, rfl, rfl, rfl, rfl, trivial⟩
/- (*fellowship/forest.Forest).has -/
def forest_Forest_has (x43 : Int) (x44 : List T_forest_node) (x45 : List ((List Int) × Int)) (x46 : List (Int × Int)) : Option Bool :=
  cond (decide (x43 ≥ 0))
    (some (decide (x43 < ((List.length x44) : Int))))
    (some false)
theorem forest_Forest_has_c (b0 b1 b2 b3 : Nat) (hn : [b0, b1, b2, b3].Nodup) (x43 : Int) (x44 : List T_forest_node) (x45 : List ((List Int) × Int)) (x46 : List (Int × Int)) (res : Bool) (h : forest_Forest_has x43 x44 x45 x46 = some res) :
    Fn Tryd.prog (GE er) 20 [(.ptr b0 [] ly66), (.int .i64 x43)] [(b0, (.var (.cons (.sl b1 [] ly68 0 (List.length x44)) (.cons (.mp b2) (.cons (.mp b3) (.dv .nil)))))), (b1, (.row ly68 (List.length x44) (rw_ T_forest_node.dv T_forest_node.z x44))), (b2, (.mp (.ints .u8 32) (mpD (fun q => .ints .u8 32 q) (fun q => .sc (.int .i64 q)) x45))), (b3, (.mp (.int .i64) (mpD (fun q => .sc (.int .i64 q)) (fun q => .sc (.int .i64 q)) x46)))] (.bl res) [(b0, (.var (.cons (.sl b1 [] ly68 0 (List.length x44)) (.cons (.mp b2) (.cons (.mp b3) (.dv .nil)))))), (b1, (.row ly68 (List.length x44) (rw_ T_forest_node.dv T_forest_node.z x44))), (b2, (.mp (.ints .u8 32) (mpD (fun q => .ints .u8 32 q) (fun q => .sc (.int .i64 q)) x45))), (b3, (.mp (.int .i64) (mpD (fun q => .sc (.int .i64 q)) (fun q => .sc (.int .i64 q)) x46)))] := by
  refine Fn.bodyE (fn := Tryd.f20) (c := _) tabOK mixed (GE_plain er) Tryd.func20 rfl rfl [(0, b0), (1, b1), (2, b2), (3, b3)] [(.ptr 0 [] ly66), (.int .i64 x43)] [(.var (.cons (.sl 1 [] ly68 0 (List.length x44)) (.cons (.mp 2) (.cons (.mp 3) (.dv .nil))))), (.row ly68 (List.length x44) (rw_ T_forest_node.dv T_forest_node.z x44)), (.mp (.ints .u8 32) (mpD (fun q => .ints .u8 32 q) (fun q => .sc (.int .i64 q)) x45)), (.mp (.int .i64) (mpD (fun q => .sc (.int .i64 q)) (fun q => .sc (.int .i64 q)) x46))] [] (.bl res) [(.var (.cons (.sl 1 [] ly68 0 (List.length x44)) (.cons (.mp 2) (.cons (.mp 3) (.dv .nil))))), (.row ly68 (List.length x44) (rw_ T_forest_node.dv T_forest_node.z x44)), (.mp (.ints .u8 32) (mpD (fun q => .ints .u8 32 q) (fun q => .sc (.int .i64 q)) x45)), (.mp (.int .i64) (mpD (fun q => .sc (.int .i64 q)) (fun q => .sc (.int .i64 q)) x46))] rfl rfl rfl rfl rfl rfl hn 3 ?_
  replace h := (show forest_Forest_has x43 x44 x45 x46 = _ from h)
  unfold forest_Forest_has at h
  refine And.intro (fun hb => ?_) (fun hb => ?_)
  · replace h := cond_t h hb
    obtain rfl := some_in h
    exact ⟨rfl, rfl, rfl, rfl, rfl, trivial⟩
  · replace h := cond_f h hb
    obtain rfl := some_in h
    exact ⟨rfl, rfl, rfl, rfl, rfl, trivial⟩
/- slices.AppendSeq[[]int,int] -/
def slices_AppendSeq_int_int_l1 (x40 : List T_forest_node) (x41 : List ((List Int) × Int)) (x42 : List (Int × Int)) : Nat → Int → (List Int) → Option (Int × (List Int))
  | 0, _, _ => none
  | n1 + 1, x47, x48 =>
    (forest_Forest_has x47 x40 x41 x42).bind fun x49 =>
      cond x49
        (if (((List.length x48) : Int) + (List.length [x47])) * 8 ≤ 140737488355328 then
          if 0 ≤ x47 ∧ x47 < ((List.length x40) : Int) then
            slices_AppendSeq_int_int_l1 x40 x41 x42 n1 ((List.getD x40 (Int.toNat x47) T_forest_node.z).fparent) (x48 ++ [x47])
          else none
        else none)
        (some (x47, x48))
def slices_AppendSeq_int_int (x39 : Int) (x40 : List T_forest_node) (x41 : List ((List Int) × Int)) (x42 : List (Int × Int)) : Option (Int × (List Int)) :=
  ((((slices_AppendSeq_int_int_l1 x40 x41 x42 FUEL x39 [] : Option (Int × (List Int)))).bind fun r2_0_46 => match r2_0_46 with
  | (x45, x46) =>
      some (x45, x46) : Option (Int × (List Int)))).bind fun r1_0_44 => match r1_0_44 with
  | (x43, x44) =>
      some (x43, x44)
theorem slices_AppendSeq_int_int_c (b0 b1 b2 b3 b4 b5 k0 : Nat) (hn : [b0, b1, b2, b3, b4, b5, k0].Nodup) (x39 : Int) (x40 : List T_forest_node) (x41 : List ((List Int) × Int)) (x42 : List (Int × Int)) (res : Int × (List Int)) (h : slices_AppendSeq_int_int x39 x40 x41 x42 = some res) :
    Fn Tryd.prog (GE er) 26 [(.dv (.sc (.slice none 0 0))), (.fn 24 [(.ptr b0 [] ly41), (.ptr b1 [] ly3)])] [(b0, (.var (.ptr b2 [] ly66))), (b1, (.var (.int .i64 x39))), (b2, (.var (.cons (.sl b3 [] ly68 0 (List.length x40)) (.cons (.mp b4) (.cons (.mp b5) (.dv .nil)))))), (b3, (.row ly68 (List.length x40) (rw_ T_forest_node.dv T_forest_node.z x40))), (b4, (.mp (.ints .u8 32) (mpD (fun q => .ints .u8 32 q) (fun q => .sc (.int .i64 q)) x41))), (b5, (.mp (.int .i64) (mpD (fun q => .sc (.int .i64 q)) (fun q => .sc (.int .i64 q)) x42)))] (.sl k0 [] ly3 0 (List.length res.2)) [(b0, (.var (.ptr b2 [] ly66))), (b1, (.var (.int .i64 res.1))), (b2, (.var (.cons (.sl b3 [] ly68 0 (List.length x40)) (.cons (.mp b4) (.cons (.mp b5) (.dv .nil)))))), (b3, (.row ly68 (List.length x40) (rw_ T_forest_node.dv T_forest_node.z x40))), (b4, (.mp (.ints .u8 32) (mpD (fun q => .ints .u8 32 q) (fun q => .sc (.int .i64 q)) x41))), (b5, (.mp (.int .i64) (mpD (fun q => .sc (.int .i64 q)) (fun q => .sc (.int .i64 q)) x42))), (k0, (.rowI .i64 res.2))] := by
  refine Fn.bodyE (fn := Tryd.f26) (c := _) tabOK mixed (GE_plain er) Tryd.func26 rfl rfl [(0, b0), (1, b1), (2, b2), (3, b3), (4, b4), (5, b5), (7, k0)] [(.dv (.sc (.slice none 0 0))), (.fn 24 [(.ptr 0 [] ly41), (.ptr 1 [] ly3)])] [(.var (.ptr 2 [] ly66)), (.var (.int .i64 x39)), (.var (.cons (.sl 3 [] ly68 0 (List.length x40)) (.cons (.mp 4) (.cons (.mp 5) (.dv .nil))))), (.row ly68 (List.length x40) (rw_ T_forest_node.dv T_forest_node.z x40)), (.mp (.ints .u8 32) (mpD (fun q => .ints .u8 32 q) (fun q => .sc (.int .i64 q)) x41)), (.mp (.int .i64) (mpD (fun q => .sc (.int .i64 q)) (fun q => .sc (.int .i64 q)) x42))] [7] (.sl 7 [] ly3 0 (List.length res.2)) [(.var (.ptr 2 [] ly66)), (.var (.int .i64 res.1)), (.var (.cons (.sl 3 [] ly68 0 (List.length x40)) (.cons (.mp 4) (.cons (.mp 5) (.dv .nil))))), (.row ly68 (List.length x40) (rw_ T_forest_node.dv T_forest_node.z x40)), (.mp (.ints .u8 32) (mpD (fun q => .ints .u8 32 q) (fun q => .sc (.int .i64 q)) x41)), (.mp (.int .i64) (mpD (fun q => .sc (.int .i64 q)) (fun q => .sc (.int .i64 q)) x42)), (.rowI .i64 res.2)] rfl rfl rfl rfl rfl rfl hn 3 ?_
  replace h := (show slices_AppendSeq_int_int x39 x40 x41 x42 = _ from h)
  unfold slices_AppendSeq_int_int at h
  obtain ⟨r1_0_44, hl1_44, hr1_44⟩ := bnd h
  refine Or.inr ⟨{p : Int × (List Int) // p = r1_0_44}, ⟨fun | ⟨(x43, x44), _⟩ => [], fun | ⟨(x43, x44), _⟩ => [(1, (.var (.int .i64 x43))), (6, (.var (.sl 7 [] ly3 0 (List.length x44)))), (7, (.rowI .i64 x44))], fun _ => 0⟩, 1, ?_, ?_⟩
  · rintro ⟨⟨x43, x44⟩, hp⟩
    subst hp
    replace h := hr1_44
    obtain rfl := some_in h
    exact ⟨rfl, rfl, rfl, rfl, rfl, rfl, rfl, rfl, trivial⟩
  · replace h := hl1_44
    intro L3
    refine ⟨Tryd.f24, _, ⟨Tryd.func24, rfl, rfl, rfl⟩, ?_⟩
    obtain ⟨r2_0_46, hl2_46, hr2_46⟩ := bnd h
    refine Or.inr ⟨{p : Int × (List Int) // p = r2_0_46}, ⟨fun | ⟨(x45, x46), _⟩ => [], fun | ⟨(x45, x46), _⟩ => [(1, (.var (.int .i64 x45))), (6, (.var (.sl 9 [] ly3 0 (List.length x46)))), (9, (.rowI .i64 x46))], fun _ => 0⟩, 1, ?_, ?_⟩
    · rintro ⟨⟨x45, x46⟩, hp⟩
      subst hp
      replace h := hr2_46
      exact ⟨[], [], ⟨(x45, x46), some_in h⟩, [(7, 9)], rfl, trivial, ⟨rfl, rfl, rfl, rfl, rfl, rfl, rfl, rfl, trivial⟩, rfl⟩
    · replace h := hl2_46
      refine ⟨{x : Nat × Int × (List Int) // slices_AppendSeq_int_int_l1 x40 x41 x42 x.1 x.2.1 x.2.2 = some r2_0_46}, ⟨fun | ⟨(n1, x47, x48), _⟩ => [], fun | ⟨(n1, x47, x48), _⟩ => [(1, (.var (.int .i64 x47))), (6, (.var (.sl 9 [] ly3 0 (List.length x48)))), (9, (.rowI .i64 x48))], fun | ⟨(n1, x47, x48), _⟩ => n1⟩, [], [(6, [], .rowI .i64 [])], ⟨(FUEL, x39, []), h⟩, ⟨rfl, trivial, ⟨rfl, rfl, rfl, rfl, rfl, rfl, rfl, trivial, rfl, rfl, trivial⟩, rfl⟩, ?_⟩
      rintro ⟨⟨n1, x47, x48⟩, h⟩
      cases n1 with
      | zero => exact no_none h
      | succ n1 =>
        replace h := (slices_AppendSeq_int_int_l1.eq_2 .. ).symm.trans h
        obtain ⟨x49, hc49, h⟩ := bnd h
        refine ⟨[], _, _, _, ⟨⟨_, forest_Forest_has_c er 2 3 4 5 (by decide) x47 x40 x41 x42 x49 hc49, ⟨.inl rfl, .inl rfl, trivial⟩⟩, ⟨⟨rfl, rfl⟩, ⟨rfl, rfl⟩, ⟨rfl, rfl⟩, ⟨rfl, rfl⟩, trivial⟩, rfl⟩, ?_⟩
        refine And.intro (fun hb => ?_) (fun hb => ?_)
        · replace h := cond_t h hb
          refine ⟨rfl, ?_⟩
          refine Or.inl ?_
          obtain ⟨hg, h⟩ := gd h
          refine And.intro (show _ * (8 : Int) ≤ 140737488355328 by first | exact hg | simpa using hg) ?_
          refine ⟨(x48 ++ [x47]), by simp, 0, (List.length (x48 ++ [x47])), ⟨rfl, by simp⟩, ?_⟩
          refine Or.inl ?_
          obtain ⟨hg, h⟩ := gd h
          refine And.intro hg ?_
          exact ⟨⟨(n1, (List.getD x40 (Int.toNat x47) T_forest_node.z).fparent, (x48 ++ [x47])), h⟩, [(9, 11)], ⟨rfl, trivial, ⟨rfl, rfl, rfl, rfl, rfl, rfl, rfl, trivial, rfl, rfl, trivial⟩, rfl⟩, Nat.lt_succ_self _⟩
        · replace h := cond_f h hb
          exact ⟨[], [], ⟨(x47, x48), some_in h⟩, [], rfl, trivial, ⟨rfl, rfl, rfl, rfl, rfl, rfl, rfl, trivial, rfl, rfl, trivial⟩, rfl⟩
/- slices.Collect[int] -/
def slices_Collect_int (x35 : Int) (x36 : List T_forest_node) (x37 : List ((List Int) × Int)) (x38 : List (Int × Int)) : Option (Int × (List Int)) :=
  (slices_AppendSeq_int_int x35 x36 x37 x38).bind fun r40 => match r40 with
  | (x39, x40) =>
      some (x39, x40)
theorem slices_Collect_int_c (b0 b1 b2 b3 b4 b5 k0 : Nat) (hn : [b0, b1, b2, b3, b4, b5, k0].Nodup) (x35 : Int) (x36 : List T_forest_node) (x37 : List ((List Int) × Int)) (x38 : List (Int × Int)) (res : Int × (List Int)) (h : slices_Collect_int x35 x36 x37 x38 = some res) :
    Fn Tryd.prog (GE er) 23 [(.fn 24 [(.ptr b0 [] ly41), (.ptr b1 [] ly3)])] [(b0, (.var (.ptr b2 [] ly66))), (b1, (.var (.int .i64 x35))), (b2, (.var (.cons (.sl b3 [] ly68 0 (List.length x36)) (.cons (.mp b4) (.cons (.mp b5) (.dv .nil)))))), (b3, (.row ly68 (List.length x36) (rw_ T_forest_node.dv T_forest_node.z x36))), (b4, (.mp (.ints .u8 32) (mpD (fun q => .ints .u8 32 q) (fun q => .sc (.int .i64 q)) x37))), (b5, (.mp (.int .i64) (mpD (fun q => .sc (.int .i64 q)) (fun q => .sc (.int .i64 q)) x38)))] (.sl k0 [] ly3 0 (List.length res.2)) [(b0, (.var (.ptr b2 [] ly66))), (b1, (.var (.int .i64 res.1))), (b2, (.var (.cons (.sl b3 [] ly68 0 (List.length x36)) (.cons (.mp b4) (.cons (.mp b5) (.dv .nil)))))), (b3, (.row ly68 (List.length x36) (rw_ T_forest_node.dv T_forest_node.z x36))), (b4, (.mp (.ints .u8 32) (mpD (fun q => .ints .u8 32 q) (fun q => .sc (.int .i64 q)) x37))), (b5, (.mp (.int .i64) (mpD (fun q => .sc (.int .i64 q)) (fun q => .sc (.int .i64 q)) x38))), (k0, (.rowI .i64 res.2))] := by
  refine Fn.bodyE (fn := Tryd.f23) (c := _) tabOK mixed (GE_plain er) Tryd.func23 rfl rfl [(0, b0), (1, b1), (2, b2), (3, b3), (4, b4), (5, b5), (6, k0)] [(.fn 24 [(.ptr 0 [] ly41), (.ptr 1 [] ly3)])] [(.var (.ptr 2 [] ly66)), (.var (.int .i64 x35)), (.var (.cons (.sl 3 [] ly68 0 (List.length x36)) (.cons (.mp 4) (.cons (.mp 5) (.dv .nil))))), (.row ly68 (List.length x36) (rw_ T_forest_node.dv T_forest_node.z x36)), (.mp (.ints .u8 32) (mpD (fun q => .ints .u8 32 q) (fun q => .sc (.int .i64 q)) x37)), (.mp (.int .i64) (mpD (fun q => .sc (.int .i64 q)) (fun q => .sc (.int .i64 q)) x38))] [6] (.sl 6 [] ly3 0 (List.length res.2)) [(.var (.ptr 2 [] ly66)), (.var (.int .i64 res.1)), (.var (.cons (.sl 3 [] ly68 0 (List.length x36)) (.cons (.mp 4) (.cons (.mp 5) (.dv .nil))))), (.row ly68 (List.length x36) (rw_ T_forest_node.dv T_forest_node.z x36)), (.mp (.ints .u8 32) (mpD (fun q => .ints .u8 32 q) (fun q => .sc (.int .i64 q)) x37)), (.mp (.int .i64) (mpD (fun q => .sc (.int .i64 q)) (fun q => .sc (.int .i64 q)) x38)), (.rowI .i64 res.2)] rfl rfl rfl rfl rfl rfl hn 3 ?_
  replace h := (show slices_Collect_int x35 x36 x37 x38 = _ from h)
  unfold slices_Collect_int at h
  obtain ⟨r40, hc40, h⟩ := bnd h
  obtain ⟨x39, x40⟩ := r40
  refine ⟨[], _, _, _, ⟨⟨_, slices_AppendSeq_int_int_c er 0 1 2 3 4 5 6 (by decide) x35 x36 x37 x38 (x39, x40) hc40, ⟨.inl rfl, .inl rfl, trivial⟩⟩, ⟨⟨rfl, rfl⟩, ⟨rfl, rfl⟩, ⟨rfl, rfl⟩, ⟨rfl, rfl⟩, ⟨rfl, rfl⟩, ⟨rfl, rfl⟩, trivial⟩, rfl⟩, ?_⟩
  obtain rfl := some_in h
  exact ⟨rfl, rfl, rfl, rfl, rfl, rfl, rfl, rfl, trivial⟩
/- (*fellowship/forest.Forest).Chain -/
def forest_Forest_Chain (x27 : Int) (x28 : List T_forest_node) (x29 : List ((List Int) × Int)) (x30 : List (Int × Int)) : Option ((List Int)) :=
  (forest_Forest_up x27 x28 x29 x30).bind fun _ =>
    (slices_Collect_int x27 x28 x29 x30).bind fun r32 => match r32 with
    | (x31, x32) =>
        some x32
theorem forest_Forest_Chain_c (b0 b1 b2 b3 k0 : Nat) (hn : [b0, b1, b2, b3, k0].Nodup) (x27 : Int) (x28 : List T_forest_node) (x29 : List ((List Int) × Int)) (x30 : List (Int × Int)) (res : (List Int)) (h : forest_Forest_Chain x27 x28 x29 x30 = some res) :
    Fn Tryd.prog (GE er) 15 [(.ptr b0 [] ly66), (.int .i64 x27)] [(b0, (.var (.cons (.sl b1 [] ly68 0 (List.length x28)) (.cons (.mp b2) (.cons (.mp b3) (.dv .nil)))))), (b1, (.row ly68 (List.length x28) (rw_ T_forest_node.dv T_forest_node.z x28))), (b2, (.mp (.ints .u8 32) (mpD (fun q => .ints .u8 32 q) (fun q => .sc (.int .i64 q)) x29))), (b3, (.mp (.int .i64) (mpD (fun q => .sc (.int .i64 q)) (fun q => .sc (.int .i64 q)) x30)))] (.sl k0 [] ly3 0 (List.length res)) [(b0, (.var (.cons (.sl b1 [] ly68 0 (List.length x28)) (.cons (.mp b2) (.cons (.mp b3) (.dv .nil)))))), (b1, (.row ly68 (List.length x28) (rw_ T_forest_node.dv T_forest_node.z x28))), (b2, (.mp (.ints .u8 32) (mpD (fun q => .ints .u8 32 q) (fun q => .sc (.int .i64 q)) x29))), (b3, (.mp (.int .i64) (mpD (fun q => .sc (.int .i64 q)) (fun q => .sc (.int .i64 q)) x30))), (k0, (.rowI .i64 res))] := by
  refine Fn.bodyE (fn := Tryd.f15) (c := _) tabOK mixed (GE_plain er) Tryd.func15 rfl rfl [(0, b0), (1, b1), (2, b2), (3, b3), (6, k0)] [(.ptr 0 [] ly66), (.int .i64 x27)] [(.var (.cons (.sl 1 [] ly68 0 (List.length x28)) (.cons (.mp 2) (.cons (.mp 3) (.dv .nil))))), (.row ly68 (List.length x28) (rw_ T_forest_node.dv T_forest_node.z x28)), (.mp (.ints .u8 32) (mpD (fun q => .ints .u8 32 q) (fun q => .sc (.int .i64 q)) x29)), (.mp (.int .i64) (mpD (fun q => .sc (.int .i64 q)) (fun q => .sc (.int .i64 q)) x30))] [6] (.sl 6 [] ly3 0 (List.length res)) [(.var (.cons (.sl 1 [] ly68 0 (List.length x28)) (.cons (.mp 2) (.cons (.mp 3) (.dv .nil))))), (.row ly68 (List.length x28) (rw_ T_forest_node.dv T_forest_node.z x28)), (.mp (.ints .u8 32) (mpD (fun q => .ints .u8 32 q) (fun q => .sc (.int .i64 q)) x29)), (.mp (.int .i64) (mpD (fun q => .sc (.int .i64 q)) (fun q => .sc (.int .i64 q)) x30)), (.rowI .i64 res)] rfl rfl rfl rfl rfl rfl hn 3 ?_
  replace h := (show forest_Forest_Chain x27 x28 x29 x30 = _ from h)
  unfold forest_Forest_Chain at h
  obtain ⟨r32, hc32, h⟩ := bnd h
  refine ⟨[], _, _, _, ⟨⟨_, forest_Forest_up_c er 0 1 2 3 4 5 (by decide) x27 x28 x29 x30 r32 hc32, ⟨.inl rfl, .inl rfl, trivial⟩⟩, ⟨⟨rfl, rfl⟩, ⟨rfl, rfl⟩, ⟨rfl, rfl⟩, ⟨rfl, rfl⟩, trivial⟩, rfl⟩, ?_⟩
  obtain ⟨r32, hc32, h⟩ := bnd h
  obtain ⟨x31, x32⟩ := r32
  refine ⟨[], _, _, _, ⟨⟨_, slices_Collect_int_c er 4 5 0 1 2 3 6 (by decide) x27 x28 x29 x30 (x31, x32) hc32, ⟨.inl rfl, trivial⟩⟩, ⟨⟨rfl, rfl⟩, ⟨rfl, rfl⟩, ⟨rfl, rfl⟩, ⟨rfl, rfl⟩, ⟨rfl, rfl⟩, ⟨rfl, rfl⟩, trivial⟩, rfl⟩, ?_⟩
  obtain rfl := some_in h
  exact ⟨rfl, rfl, rfl, rfl, rfl, rfl, trivial⟩
/- slices.Index[[]int,int] -/
def slices_Index_int_int_l1 (x37 : List Int) (x38 : Int) : Nat → Int → Option ((Unit ⊕ Int))
  | 0, _ => none
  | n1 + 1, x40 =>
    cond (decide (x40 < (List.length x37 : Int)))
      (if 0 ≤ x40 ∧ x40 < (List.length x37 : Int) then
        cond (x38 == (List.getD x37 (Int.toNat x40) 0))
          (some (Sum.inr x40))
          (slices_Index_int_int_l1 x37 x38 n1 (IntKind.wrap .i64 (x40 + 1)))
      else none)
      (some (Sum.inl ()))
def slices_Index_int_int (x37 : List Int) (x38 : Int) : Option Int :=
  ((slices_Index_int_int_l1 x37 x38 FUEL 0 : Option ((Unit ⊕ Int)))).bind fun r1_0_39 => match r1_0_39 with
  | (Sum.inl ()) =>
      some (-1)
  | (Sum.inr x39) =>
      some x39
theorem slices_Index_int_int_c (x37 : List Int) (x38 : Int) (res : Int) (h : slices_Index_int_int x37 x38 = some res) :
    Fn Tryd.prog (GE er) 25 [(.dv (.roI .i64 x37)), (.int .i64 x38)] [] (.int .i64 res) [] := by
  refine Fn.bodyE (fn := Tryd.f25) (c := _) tabOK mixed (GE_plain er) Tryd.func25 rfl rfl [] [(.dv (.roI .i64 x37)), (.int .i64 x38)] [] [] (.int .i64 res) [] rfl rfl rfl rfl rfl rfl .nil 3 ?_
  replace h := (show slices_Index_int_int x37 x38 = _ from h)
  unfold slices_Index_int_int at h
  obtain ⟨r1_0_39, hl1_39, hr1_39⟩ := bnd h
  refine Or.inr ⟨{p : Unit // (Sum.inl p) = r1_0_39}, ⟨fun | ⟨(), _⟩ => [(4, (.int .i64 0))], fun | ⟨(), _⟩ => [], fun _ => 0⟩, 0, ?_, ?_⟩
  · rintro ⟨⟨⟩, hp⟩
    subst hp
    replace h := hr1_39
    obtain rfl := some_in h
    exact ⟨rfl, trivial⟩
  · replace h := hl1_39
    refine ⟨{x : Nat × Int // slices_Index_int_int_l1 x37 x38 x.1 x.2 = some r1_0_39}, ⟨fun | ⟨(n1, x40), _⟩ => [(4, (.int .i64 0)), (8, (.int .i64 x40))], fun | ⟨(n1, x40), _⟩ => [], fun | ⟨(n1, x40), _⟩ => n1⟩, [], [], ⟨(FUEL, 0), h⟩, ⟨rfl, ⟨rfl, rfl, trivial⟩, trivial, rfl⟩, ?_⟩
    rintro ⟨⟨n1, x40⟩, h⟩
    cases n1 with
    | zero => exact no_none h
    | succ n1 =>
      replace h := (slices_Index_int_int_l1.eq_2 .. ).symm.trans h
      refine And.intro (fun hb => ?_) (fun hb => ?_)
      · replace h := cond_t h hb
        refine Or.inl ?_
        obtain ⟨hg, h⟩ := gd h
        refine And.intro hg ?_
        refine And.intro (fun hb => ?_) (fun hb => ?_)
        · replace h := cond_t h hb
          obtain rfl := some_in h
          replace h := hr1_39
          obtain rfl := some_in h
          exact ⟨rfl, trivial⟩
        · replace h := cond_f h hb
          exact ⟨⟨(n1, (IntKind.wrap .i64 (x40 + 1))), h⟩, [], ⟨rfl, ⟨rfl, rfl, trivial⟩, trivial, rfl⟩, Nat.lt_succ_self _⟩
      · replace h := cond_f h hb
        exact ⟨[], [], ⟨(), some_in h⟩, [], rfl, ⟨rfl, trivial⟩, trivial, rfl⟩
/- slices.Contains[[]int,int] -/
def slices_Contains_int_int (x35 : List Int) (x36 : Int) : Option Bool :=
  (slices_Index_int_int x35 x36).bind fun x37 =>
    some (decide (x37 ≥ 0))
theorem slices_Contains_int_int_c (x35 : List Int) (x36 : Int) (res : Bool) (h : slices_Contains_int_int x35 x36 = some res) :
    Fn Tryd.prog (GE er) 22 [(.dv (.roI .i64 x35)), (.int .i64 x36)] [] (.bl res) [] := by
  refine Fn.bodyE (fn := Tryd.f22) (c := _) tabOK mixed (GE_plain er) Tryd.func22 rfl rfl [] [(.dv (.roI .i64 x35)), (.int .i64 x36)] [] [] (.bl res) [] rfl rfl rfl rfl rfl rfl .nil 3 ?_
  replace h := (show slices_Contains_int_int x35 x36 = _ from h)
  unfold slices_Contains_int_int at h
  obtain ⟨x37, hc37, h⟩ := bnd h
  refine ⟨[], _, _, _, ⟨⟨_, slices_Index_int_int_c er x35 x36 x37 hc37, ⟨.inl rfl, .inl rfl, trivial⟩⟩, trivial, rfl⟩, ?_⟩
  obtain rfl := some_in h
  exact ⟨rfl, trivial⟩
/- (*fellowship/forest.Forest).Common -/
def forest_Forest_Common_l1 (x24 : List T_forest_node) (x25 : List ((List Int) × Int)) (x26 : List (Int × Int)) (x27 : List Int) : Nat → Int → Option (((Int × Int) ⊕ Int))
  | 0, _ => none
  | n1 + 1, x34 =>
    (forest_Forest_has x34 x24 x25 x26).bind fun x35 =>
      cond x35
        ((slices_Contains_int_int x27 x34).bind fun x36 =>
          cond x36
            (some (Sum.inl (x34, x34)))
            (if 0 ≤ x34 ∧ x34 < ((List.length x24) : Int) then
              forest_Forest_Common_l1 x24 x25 x26 x27 n1 ((List.getD x24 (Int.toNat x34) T_forest_node.z).fparent)
            else none))
        (some (Sum.inr x34))
def forest_Forest_Common (x22 : Int) (x23 : Int) (x24 : List T_forest_node) (x25 : List ((List Int) × Int)) (x26 : List (Int × Int)) : Option Int :=
  (forest_Forest_Chain x23 x24 x25 x26).bind fun x27 =>
    (forest_Forest_up x22 x24 x25 x26).bind fun _ =>
      ((((forest_Forest_Common_l1 x24 x25 x26 x27 FUEL x22 : Option (((Int × Int) ⊕ Int)))).bind fun r2_0_33 => match r2_0_33 with
      | (Sum.inl (x31, x32)) =>
          some (Sum.inr (x31, x32))
      | (Sum.inr x33) =>
          some (Sum.inl x33) : Option ((Int ⊕ (Int × Int))))).bind fun r1_0_30 => match r1_0_30 with
      | (Sum.inl x28) =>
          some (-1)
      | (Sum.inr (x29, x30)) =>
          some x29
theorem forest_Forest_Common_c (b0 b1 b2 b3 : Nat) (hn : [b0, b1, b2, b3].Nodup) (x22 : Int) (x23 : Int) (x24 : List T_forest_node) (x25 : List ((List Int) × Int)) (x26 : List (Int × Int)) (res : Int) (h : forest_Forest_Common x22 x23 x24 x25 x26 = some res) :
    Fn Tryd.prog (GE er) 14 [(.ptr b0 [] ly66), (.int .i64 x22), (.int .i64 x23)] [(b0, (.var (.cons (.sl b1 [] ly68 0 (List.length x24)) (.cons (.mp b2) (.cons (.mp b3) (.dv .nil)))))), (b1, (.row ly68 (List.length x24) (rw_ T_forest_node.dv T_forest_node.z x24))), (b2, (.mp (.ints .u8 32) (mpD (fun q => .ints .u8 32 q) (fun q => .sc (.int .i64 q)) x25))), (b3, (.mp (.int .i64) (mpD (fun q => .sc (.int .i64 q)) (fun q => .sc (.int .i64 q)) x26)))] (.int .i64 res) [(b0, (.var (.cons (.sl b1 [] ly68 0 (List.length x24)) (.cons (.mp b2) (.cons (.mp b3) (.dv .nil)))))), (b1, (.row ly68 (List.length x24) (rw_ T_forest_node.dv T_forest_node.z x24))), (b2, (.mp (.ints .u8 32) (mpD (fun q => .ints .u8 32 q) (fun q => .sc (.int .i64 q)) x25))), (b3, (.mp (.int .i64) (mpD (fun q => .sc (.int .i64 q)) (fun q => .sc (.int .i64 q)) x26)))] := by
  refine Fn.bodyE (fn := Tryd.f14) (c := _) tabOK mixed (GE_plain er) Tryd.func14 rfl rfl [(0, b0), (1, b1), (2, b2), (3, b3)] [(.ptr 0 [] ly66), (.int .i64 x22), (.int .i64 x23)] [(.var (.cons (.sl 1 [] ly68 0 (List.length x24)) (.cons (.mp 2) (.cons (.mp 3) (.dv .nil))))), (.row ly68 (List.length x24) (rw_ T_forest_node.dv T_forest_node.z x24)), (.mp (.ints .u8 32) (mpD (fun q => .ints .u8 32 q) (fun q => .sc (.int .i64 q)) x25)), (.mp (.int .i64) (mpD (fun q => .sc (.int .i64 q)) (fun q => .sc (.int .i64 q)) x26))] [] (.int .i64 res) [(.var (.cons (.sl 1 [] ly68 0 (List.length x24)) (.cons (.mp 2) (.cons (.mp 3) (.dv .nil))))), (.row ly68 (List.length x24) (rw_ T_forest_node.dv T_forest_node.z x24)), (.mp (.ints .u8 32) (mpD (fun q => .ints .u8 32 q) (fun q => .sc (.int .i64 q)) x25)), (.mp (.int .i64) (mpD (fun q => .sc (.int .i64 q)) (fun q => .sc (.int .i64 q)) x26))] rfl rfl rfl rfl rfl rfl hn 3 ?_
  replace h := (show forest_Forest_Common x22 x23 x24 x25 x26 = _ from h)
  unfold forest_Forest_Common at h
  obtain ⟨x27, hc36, h⟩ := bnd h
  refine ⟨[], _, _, _, ⟨⟨_, forest_Forest_Chain_c er 0 1 2 3 5 (by decide) x23 x24 x25 x26 x27 hc36, ⟨.inl rfl, .inl rfl, trivial⟩⟩, ⟨⟨rfl, rfl⟩, ⟨rfl, rfl⟩, ⟨rfl, rfl⟩, ⟨rfl, rfl⟩, trivial⟩, rfl⟩, ?_⟩
  obtain ⟨r36, hc36, h⟩ := bnd h
  refine ⟨[], _, _, _, ⟨⟨_, forest_Forest_up_c er 0 1 2 3 7 8 (by decide) x22 x24 x25 x26 r36 hc36, ⟨.inl rfl, .inl rfl, trivial⟩⟩, ⟨⟨rfl, rfl⟩, ⟨rfl, rfl⟩, ⟨rfl, rfl⟩, ⟨rfl, rfl⟩, trivial⟩, rfl⟩, ?_⟩
  obtain ⟨r1_0_30, hl1_30, hr1_30⟩ := bnd h
  refine Or.inr ⟨{p : Int // (Sum.inl p) = r1_0_30}, ⟨fun | ⟨x28, _⟩ => [], fun | ⟨x28, _⟩ => [(8, (.var (.int .i64 x28)))], fun _ => 0⟩, 0, ?_, ?_⟩
  · rintro ⟨x28, hp⟩
    subst hp
    replace h := hr1_30
    obtain rfl := some_in h
    exact ⟨rfl, rfl, rfl, rfl, rfl, trivial⟩
  · replace h := hl1_30
    intro L3
    refine ⟨Tryd.f24, _, ⟨Tryd.func24, rfl, rfl, rfl⟩, ?_⟩
    obtain ⟨r2_0_33, hl2_33, hr2_33⟩ := bnd h
    refine Or.inr ⟨(({p : Int × Int // (Sum.inl p) = r2_0_33}) ⊕ ({p : Int // (Sum.inr p) = r2_0_33})), ⟨fun | (Sum.inl (⟨(x31, x32), _⟩)) => [] | (Sum.inr (⟨x33, _⟩)) => [], fun | (Sum.inl (⟨(x31, x32), _⟩)) => [(4, (.var (.int .i64 x31))), (8, (.var (.int .i64 x32))), (10, (.lp L3 (.done .ret)))] | (Sum.inr (⟨x33, _⟩)) => [(8, (.var (.int .i64 x33)))], fun _ => 0⟩, 0, ?_, ?_⟩
    · rintro (⟨⟨x31, x32⟩, hp⟩ | ⟨x33, hp⟩)
      · subst hp
        replace h := hr2_33
        obtain rfl := some_in h
        replace h := hr1_30
        obtain rfl := some_in h
        exact ⟨rfl, rfl, rfl, rfl, rfl, trivial⟩
      · subst hp
        replace h := hr2_33
        exact ⟨[], [], ⟨x33, some_in h⟩, [], rfl, trivial, ⟨rfl, rfl, rfl, rfl, rfl, rfl, rfl, rfl, rfl, trivial⟩, rfl⟩
    · replace h := hl2_33
      refine ⟨{x : Nat × Int // forest_Forest_Common_l1 x24 x25 x26 x27 x.1 x.2 = some r2_0_33}, ⟨fun | ⟨(n1, x34), _⟩ => [], fun | ⟨(n1, x34), _⟩ => [(8, (.var (.int .i64 x34)))], fun | ⟨(n1, x34), _⟩ => n1⟩, [], [], ⟨(FUEL, x22), h⟩, ⟨rfl, trivial, ⟨rfl, rfl, rfl, rfl, rfl, rfl, rfl, rfl, rfl, trivial, rfl, trivial⟩, rfl⟩, ?_⟩
      rintro ⟨⟨n1, x34⟩, h⟩
      cases n1 with
      | zero => exact no_none h
      | succ n1 =>
        replace h := (forest_Forest_Common_l1.eq_2 .. ).symm.trans h
        obtain ⟨x35, hc36, h⟩ := bnd h
        refine ⟨[], _, _, _, ⟨⟨_, forest_Forest_has_c er 0 1 2 3 (by decide) x34 x24 x25 x26 x35 hc36, ⟨.inl rfl, .inl rfl, trivial⟩⟩, ⟨⟨rfl, rfl⟩, ⟨rfl, rfl⟩, ⟨rfl, rfl⟩, ⟨rfl, rfl⟩, trivial⟩, rfl⟩, ?_⟩
        refine And.intro (fun hb => ?_) (fun hb => ?_)
        · replace h := cond_t h hb
          refine ⟨rfl, ?_⟩
          refine Or.inl ?_
          obtain ⟨x36, hc36, h⟩ := bnd h
          refine ⟨[true, false], _, _, _, ⟨⟨_, slices_Contains_int_int_c er x27 x34 x36 hc36, ⟨ve_full _ _, .inl rfl, trivial⟩⟩, trivial, rfl⟩, ?_⟩
          refine And.intro (fun hb => ?_) (fun hb => ?_)
          · replace h := cond_t h hb
            exact ⟨[], [], (Sum.inl (⟨(x34, x34), some_in h⟩)), [], rfl, trivial, ⟨rfl, rfl, rfl, rfl, rfl, rfl, rfl, rfl, rfl, trivial, rfl, trivial⟩, rfl⟩
          · replace h := cond_f h hb
            refine Or.inl ?_
            obtain ⟨hg, h⟩ := gd h
            refine And.intro hg ?_
            exact ⟨⟨(n1, (List.getD x24 (Int.toNat x34) T_forest_node.z).fparent), h⟩, [], ⟨rfl, trivial, ⟨rfl, rfl, rfl, rfl, rfl, rfl, rfl, rfl, rfl, trivial, rfl, trivial⟩, rfl⟩, Nat.lt_succ_self _⟩
        · replace h := cond_f h hb
          exact ⟨[], [], (Sum.inr (⟨x34, some_in h⟩)), [], rfl, trivial, ⟨rfl, rfl, rfl, rfl, rfl, rfl, rfl, rfl, rfl, trivial, rfl, trivial⟩, rfl⟩
/- fellowship/fellowshipnum.In -/
def fellowshipnum_In_l1 (x40 : List Int) (x41 : Int) : Nat → Int → Option ((Unit ⊕ Unit))
  | 0, _ => none
  | n1 + 1, x42 =>
    cond (decide (x42 < (List.length x40 : Int)))
      (if 0 ≤ x42 ∧ x42 < (List.length x40 : Int) then
        cond ((List.getD x40 (Int.toNat x42) 0) == x41)
          (some (Sum.inr ()))
          (fellowshipnum_In_l1 x40 x41 n1 (IntKind.wrap .i64 (x42 + 1)))
      else none)
      (some (Sum.inl ()))
def fellowshipnum_In (x40 : List Int) (x41 : Int) : Option Bool :=
  ((fellowshipnum_In_l1 x40 x41 FUEL 0 : Option ((Unit ⊕ Unit)))).bind fun r1_0_41 => match r1_0_41 with
  | (Sum.inl ()) =>
      some false
  | (Sum.inr ()) =>
      some true
theorem fellowshipnum_In_c (x40 : List Int) (x41 : Int) (res : Bool) (h : fellowshipnum_In x40 x41 = some res) :
    Fn Tryd.prog (GE er) 16 [(.dv (.roI .i64 x40)), (.int .i64 x41)] [] (.bl res) [] := by
  refine Fn.bodyE (fn := Tryd.f16) (c := _) tabOK mixed (GE_plain er) Tryd.func16 rfl rfl [] [(.dv (.roI .i64 x40)), (.int .i64 x41)] [] [] (.bl res) [] rfl rfl rfl rfl rfl rfl .nil 3 ?_
  replace h := (show fellowshipnum_In x40 x41 = _ from h)
  unfold fellowshipnum_In at h
  obtain ⟨r1_0_41, hl1_41, hr1_41⟩ := bnd h
  refine Or.inr ⟨{p : Unit // (Sum.inl p) = r1_0_41}, ⟨fun | ⟨(), _⟩ => [(4, (.dv (.sc (.bool false))))], fun | ⟨(), _⟩ => [], fun _ => 0⟩, 0, ?_, ?_⟩
  · rintro ⟨⟨⟩, hp⟩
    subst hp
    replace h := hr1_41
    obtain rfl := some_in h
    exact ⟨rfl, trivial⟩
  · replace h := hl1_41
    refine ⟨{x : Nat × Int // fellowshipnum_In_l1 x40 x41 x.1 x.2 = some r1_0_41}, ⟨fun | ⟨(n1, x42), _⟩ => [(4, (.dv (.sc (.bool false)))), (9, (.int .i64 x42))], fun | ⟨(n1, x42), _⟩ => [], fun | ⟨(n1, x42), _⟩ => n1⟩, [], [], ⟨(FUEL, 0), h⟩, ⟨rfl, ⟨rfl, rfl, trivial⟩, trivial, rfl⟩, ?_⟩
    rintro ⟨⟨n1, x42⟩, h⟩
    cases n1 with
    | zero => exact no_none h
    | succ n1 =>
      replace h := (fellowshipnum_In_l1.eq_2 .. ).symm.trans h
      refine And.intro (fun hb => ?_) (fun hb => ?_)
      · replace h := cond_t h hb
        refine Or.inl ?_
        obtain ⟨hg, h⟩ := gd h
        refine And.intro hg ?_
        refine And.intro (fun hb => ?_) (fun hb => ?_)
        · replace h := cond_t h hb
          obtain rfl := some_in h
          replace h := hr1_41
          obtain rfl := some_in h
          exact ⟨rfl, trivial⟩
        · replace h := cond_f h hb
          exact ⟨⟨(n1, (IntKind.wrap .i64 (x42 + 1))), h⟩, [], ⟨rfl, ⟨rfl, rfl, trivial⟩, trivial, rfl⟩, Nat.lt_succ_self _⟩
      · replace h := cond_f h hb
        exact ⟨[], [], ⟨(), some_in h⟩, [], rfl, ⟨rfl, trivial⟩, trivial, rfl⟩
/- fellowship/fellowshipnum.SameInts -/
def fellowshipnum_SameInts_l1 (x42 : List Int) (x43 : List Int) : Nat → Int → Option ((Unit ⊕ Unit))
  | 0, _ => none
  | n1 + 1, x44 =>
    cond (decide (x44 < (List.length x42 : Int)))
      (if 0 ≤ x44 ∧ x44 < (List.length x42 : Int) then
        if 0 ≤ x44 ∧ x44 < (List.length x43 : Int) then
          cond (!((List.getD x42 (Int.toNat x44) 0) == (List.getD x43 (Int.toNat x44) 0)))
            (some (Sum.inr ()))
            (fellowshipnum_SameInts_l1 x42 x43 n1 (IntKind.wrap .i64 (x44 + 1)))
        else none
      else none)
      (some (Sum.inl ()))
def fellowshipnum_SameInts (x42 : List Int) (x43 : List Int) : Option Bool :=
  cond (!((List.length x42 : Int) == (List.length x43 : Int)))
    (some false)
    (((fellowshipnum_SameInts_l1 x42 x43 FUEL 0 : Option ((Unit ⊕ Unit)))).bind fun r1_0_43 => match r1_0_43 with
    | (Sum.inl ()) =>
        some true
    | (Sum.inr ()) =>
        some false)
theorem fellowshipnum_SameInts_c (x42 : List Int) (x43 : List Int) (res : Bool) (h : fellowshipnum_SameInts x42 x43 = some res) :
    Fn Tryd.prog (GE er) 17 [(.dv (.roI .i64 x42)), (.dv (.roI .i64 x43))] [] (.bl res) [] := by
  refine Fn.bodyE (fn := Tryd.f17) (c := _) tabOK mixed (GE_plain er) Tryd.func17 rfl rfl [] [(.dv (.roI .i64 x42)), (.dv (.roI .i64 x43))] [] [] (.bl res) [] rfl rfl rfl rfl rfl rfl .nil 3 ?_
  replace h := (show fellowshipnum_SameInts x42 x43 = _ from h)
  unfold fellowshipnum_SameInts at h
  refine And.intro (fun hb => ?_) (fun hb => ?_)
  · replace h := cond_t h hb
    obtain rfl := some_in h
    exact ⟨rfl, trivial⟩
  · replace h := cond_f h hb
    obtain ⟨r1_0_43, hl1_43, hr1_43⟩ := bnd h
    refine Or.inr ⟨{p : Unit // (Sum.inl p) = r1_0_43}, ⟨fun | ⟨(), _⟩ => [(4, (.dv (.sc (.bool false))))], fun | ⟨(), _⟩ => [], fun _ => 0⟩, 0, ?_, ?_⟩
    · rintro ⟨⟨⟩, hp⟩
      subst hp
      replace h := hr1_43
      obtain rfl := some_in h
      exact ⟨rfl, trivial⟩
    · replace h := hl1_43
      refine ⟨{x : Nat × Int // fellowshipnum_SameInts_l1 x42 x43 x.1 x.2 = some r1_0_43}, ⟨fun | ⟨(n1, x44), _⟩ => [(4, (.dv (.sc (.bool false)))), (13, (.int .i64 x44))], fun | ⟨(n1, x44), _⟩ => [], fun | ⟨(n1, x44), _⟩ => n1⟩, [], [], ⟨(FUEL, 0), h⟩, ⟨rfl, ⟨rfl, rfl, trivial⟩, trivial, rfl⟩, ?_⟩
      rintro ⟨⟨n1, x44⟩, h⟩
      cases n1 with
      | zero => exact no_none h
      | succ n1 =>
        replace h := (fellowshipnum_SameInts_l1.eq_2 .. ).symm.trans h
        refine And.intro (fun hb => ?_) (fun hb => ?_)
        · replace h := cond_t h hb
          refine Or.inl ?_
          obtain ⟨hg, h⟩ := gd h
          refine And.intro hg ?_
          obtain ⟨hg, h⟩ := gd h
          refine And.intro hg ?_
          refine And.intro (fun hb => ?_) (fun hb => ?_)
          · replace h := cond_t h hb
            obtain rfl := some_in h
            replace h := hr1_43
            obtain rfl := some_in h
            exact ⟨rfl, trivial⟩
          · replace h := cond_f h hb
            exact ⟨⟨(n1, (IntKind.wrap .i64 (x44 + 1))), h⟩, [], ⟨rfl, ⟨rfl, rfl, trivial⟩, trivial, rfl⟩, Nat.lt_succ_self _⟩
        · replace h := cond_f h hb
          exact ⟨[], [], ⟨(), some_in h⟩, [], rfl, ⟨rfl, trivial⟩, trivial, rfl⟩
/- fellowship/fellowshiplaw31.ForestMeets -/
def fellowshiplaw31_ForestMeets_l1 (x1 : List T_fellowshiplaw31_Act) : Nat → Int → (List ((List Int) × Int)) → (List (Int × Int)) → (List T_forest_node) → Option ((List ((List Int) × Int)) × (List (Int × Int)) × (List T_forest_node))
  | 0, _, _, _, _ => none
  | n1 + 1, x8, x9, x10, x11 =>
    cond (decide (x8 < (List.length x1 : Int)))
      (if 0 ≤ x8 ∧ x8 < (List.length x1 : Int) then
        ((cond ((List.getD x1 (Int.toNat x8) T_fellowshiplaw31_Act.z).fLeaves)
          ((forest_Forest_Leave_2 ((List.getD x1 (Int.toNat x8) T_fellowshiplaw31_Act.z).fWho) x11 x9 x10).bind fun _ =>
            some (x9, (dl ((List.getD x1 (Int.toNat x8) T_fellowshiplaw31_Act.z).fWho) x10), x11))
          ((forest_Forest_See_2 ((List.getD x1 (Int.toNat x8) T_fellowshiplaw31_Act.z).fWho) ((List.getD x1 (Int.toNat x8) T_fellowshiplaw31_Act.z).fMark) x11 x9 x10).bind fun r22 => match r22 with
          | (Sum.inl (x15, x16, x17)) =>
              some (x9, x17, x16)
          | (Sum.inr (Sum.inl (x18, x19, x20, x21))) =>
              some (x19, x20, x21)
          | (Sum.inr (Sum.inr x22)) =>
              some (x9, x10, x11)) : Option ((List ((List Int) × Int)) × (List (Int × Int)) × (List T_forest_node)))).bind fun r2_0_14 => match r2_0_14 with
        | (x12, x13, x14) =>
            fellowshiplaw31_ForestMeets_l1 x1 n1 (IntKind.wrap .i64 (x8 + 1)) x12 x13 x14
      else none)
      (some (x9, x10, x11))
def fellowshiplaw31_ForestMeets_l2 (x3 : Int) (x5 : List ((List Int) × Int)) (x6 : List (Int × Int)) (x7 : List T_forest_node) (x24 : List Int) : Nat → Int → Option ((Unit ⊕ Unit))
  | 0, _ => none
  | n2 + 1, x25 =>
    cond (decide (x25 < ((List.length x24) : Int)))
      (if 0 ≤ x25 ∧ x25 < ((List.length x24) : Int) then
        (forest_Forest_Chain x3 x7 x5 x6).bind fun x26 =>
          (fellowshipnum_In x26 (List.getD x24 (Int.toNat x25) 0)).bind fun x27 =>
            cond x27
              (some (Sum.inr ()))
              (fellowshiplaw31_ForestMeets_l2 x3 x5 x6 x7 x24 n2 (IntKind.wrap .i64 (x25 + 1)))
      else none)
      (some (Sum.inl ()))
def fellowshiplaw31_ForestMeets (x1 : List T_fellowshiplaw31_Act) (x2 : Int) (x3 : Int) : Option Bool :=
  (fellowshiplaw31_alive).bind fun x4 =>
    cond (!x4)
      (some false)
      (cond (decide ((List.length x1 : Int) > 60))
        (some true)
        ((forest_New).bind fun _ =>
          ((fellowshiplaw31_ForestMeets_l1 x1 FUEL 0 [] [] [] : Option ((List ((List Int) × Int)) × (List (Int × Int)) × (List T_forest_node)))).bind fun r1_0_7 => match r1_0_7 with
          | (x5, x6, x7) =>
              (forest_Forest_Common x2 x3 x7 x5 x6).bind fun x23 =>
                cond (decide (x23 < 0))
                  ((forest_Forest_Chain x2 x7 x5 x6).bind fun x24 =>
                    ((fellowshiplaw31_ForestMeets_l2 x3 x5 x6 x7 x24 FUEL 0 : Option ((Unit ⊕ Unit)))).bind fun r3_1_24 => match r3_1_24 with
                    | (Sum.inl ()) =>
                        some true
                    | (Sum.inr ()) =>
                        some false)
                  ((forest_Forest_Chain x2 x7 x5 x6).bind fun x28 =>
                    (forest_Forest_Chain x3 x7 x5 x6).bind fun x29 =>
                      (forest_Forest_Chain x23 x7 x5 x6).bind fun x30 =>
                        cond (decide (((List.length x28) : Int) ≥ ((List.length x30) : Int)))
                          (cond (decide (((List.length x29) : Int) ≥ ((List.length x30) : Int)))
                            (if 0 ≤ (IntKind.wrap .i64 (((List.length x28) : Int) - ((List.length x30) : Int))) ∧ (IntKind.wrap .i64 (((List.length x28) : Int) - ((List.length x30) : Int))) ≤ ((List.length x28) : Int) then
                              (fellowshipnum_SameInts (List.take (Int.toNat (((List.length x28) : Int) - (IntKind.wrap .i64 (((List.length x28) : Int) - ((List.length x30) : Int))))) (List.drop (Int.toNat (IntKind.wrap .i64 (((List.length x28) : Int) - ((List.length x30) : Int)))) x28)) x30).bind fun x31 =>
                                cond x31
                                  (if 0 ≤ (IntKind.wrap .i64 (((List.length x29) : Int) - ((List.length x30) : Int))) ∧ (IntKind.wrap .i64 (((List.length x29) : Int) - ((List.length x30) : Int))) ≤ ((List.length x29) : Int) then
                                    (fellowshipnum_SameInts (List.take (Int.toNat (((List.length x29) : Int) - (IntKind.wrap .i64 (((List.length x29) : Int) - ((List.length x30) : Int))))) (List.drop (Int.toNat (IntKind.wrap .i64 (((List.length x29) : Int) - ((List.length x30) : Int)))) x29)) x30).bind fun x32 =>
                                      cond x32
                                        ((forest_Forest_Common x3 x2 x7 x5 x6).bind fun x33 =>
                                          some (x23 == x33))
                                        (some false)
                                  else none)
                                  (some false)
                            else none)
                            (some false))
                          (some false))))
theorem fellowshiplaw31_ForestMeets_c (x1 : List T_fellowshiplaw31_Act) (x2 : Int) (x3 : Int) (res : Bool) (h : fellowshiplaw31_ForestMeets x1 x2 x3 = some res) :
    Fn Tryd.prog (GE er) 5 [(.dv (.ro ly44 (List.length x1) (rw_ T_fellowshiplaw31_Act.dv T_fellowshiplaw31_Act.z x1))), (.int .i64 x2), (.int .i64 x3)] [] (.bl res) [] := by
  refine Fn.bodyE (fn := Tryd.f5) (c := _) tabOK mixed (GE_plain er) Tryd.func5 rfl rfl [] [(.dv (.ro ly44 (List.length x1) (rw_ T_fellowshiplaw31_Act.dv T_fellowshiplaw31_Act.z x1))), (.int .i64 x2), (.int .i64 x3)] [] [] (.bl res) [] rfl rfl rfl rfl rfl rfl .nil 3 ?_
  replace h := (show fellowshiplaw31_ForestMeets x1 x2 x3 = _ from h)
  unfold fellowshiplaw31_ForestMeets at h
  obtain ⟨x4, hc33, h⟩ := bnd h
  refine ⟨[], _, _, _, ⟨⟨_, fellowshiplaw31_alive_c er x4 hc33, trivial⟩, trivial, rfl⟩, ?_⟩
  refine And.intro (fun hb => ?_) (fun hb => ?_)
  · replace h := cond_t h hb
    obtain rfl := some_in h
    exact ⟨rfl, trivial⟩
  · replace h := cond_f h hb
    refine And.intro (fun hb => ?_) (fun hb => ?_)
    · replace h := cond_t h hb
      obtain rfl := some_in h
      exact ⟨rfl, trivial⟩
    · replace h := cond_f h hb
      obtain ⟨r33, hc33, h⟩ := bnd h
      refine ⟨[], _, _, _, ⟨⟨_, forest_New_c er 0 1 2 (by decide) r33 hc33, trivial⟩, trivial, rfl⟩, ?_⟩
      obtain ⟨r1_0_7, hl1_7, hr1_7⟩ := bnd h
      refine Or.inr ⟨{p : (List ((List Int) × Int)) × (List (Int × Int)) × (List T_forest_node) // p = r1_0_7}, ⟨fun | ⟨(x5, x6, x7), _⟩ => [], fun | ⟨(x5, x6, x7), _⟩ => [(0, (.var (.cons (.sl 3 [] ly68 0 (List.length x7)) (.cons (.mp 1) (.cons (.mp 2) (.dv .nil)))))), (1, (.mp (.ints .u8 32) (mpD (fun q => .ints .u8 32 q) (fun q => .sc (.int .i64 q)) x5))), (2, (.mp (.int .i64) (mpD (fun q => .sc (.int .i64 q)) (fun q => .sc (.int .i64 q)) x6))), (3, (.row ly68 (List.length x7) (rw_ T_forest_node.dv T_forest_node.z x7)))], fun _ => 0⟩, 1, ?_, ?_⟩
      · rintro ⟨⟨x5, x6, x7⟩, hp⟩
        subst hp
        replace h := hr1_7
        obtain ⟨x23, hc33, h⟩ := bnd h
        refine ⟨[], _, _, _, ⟨⟨_, forest_Forest_Common_c er 0 3 1 2 (by decide) x2 x3 x7 x5 x6 x23 hc33, ⟨.inl rfl, .inl rfl, .inl rfl, trivial⟩⟩, ⟨⟨rfl, rfl⟩, ⟨rfl, rfl⟩, ⟨rfl, rfl⟩, ⟨rfl, rfl⟩, trivial⟩, rfl⟩, ?_⟩
        refine And.intro (fun hb => ?_) (fun hb => ?_)
        · replace h := cond_t h hb
          obtain ⟨x24, hc27, h⟩ := bnd h
          refine ⟨[], _, _, _, ⟨⟨_, forest_Forest_Chain_c er 0 3 1 2 4 (by decide) x2 x7 x5 x6 x24 hc27, ⟨.inl rfl, .inl rfl, trivial⟩⟩, ⟨⟨rfl, rfl⟩, ⟨rfl, rfl⟩, ⟨rfl, rfl⟩, ⟨rfl, rfl⟩, trivial⟩, rfl⟩, ?_⟩
          obtain ⟨r3_1_24, hl3_24, hr3_24⟩ := bnd h
          refine Or.inr ⟨{p : Unit // (Sum.inl p) = r3_1_24}, ⟨fun | ⟨(), _⟩ => [(6, (.dv (.sc (.bool false))))], fun | ⟨(), _⟩ => [], fun _ => 0⟩, 0, ?_, ?_⟩
          · rintro ⟨⟨⟩, hp⟩
            subst hp
            replace h := hr3_24
            obtain rfl := some_in h
            exact ⟨rfl, trivial⟩
          · replace h := hl3_24
            refine ⟨{x : Nat × Int // fellowshiplaw31_ForestMeets_l2 x3 x5 x6 x7 x24 x.1 x.2 = some r3_1_24}, ⟨fun | ⟨(n2, x25), _⟩ => [(6, (.dv (.sc (.bool false)))), (54, (.int .i64 x25))], fun | ⟨(n2, x25), _⟩ => [], fun | ⟨(n2, x25), _⟩ => n2⟩, [], [], ⟨(FUEL, 0), h⟩, ⟨rfl, ⟨rfl, rfl, trivial⟩, ⟨rfl, rfl, rfl, rfl, rfl, trivial⟩, rfl⟩, ?_⟩
            rintro ⟨⟨n2, x25⟩, h⟩
            cases n2 with
            | zero => exact no_none h
            | succ n2 =>
              replace h := (fellowshiplaw31_ForestMeets_l2.eq_2 .. ).symm.trans h
              refine And.intro (fun hb => ?_) (fun hb => ?_)
              · replace h := cond_t h hb
                refine Or.inl ?_
                obtain ⟨hg, h⟩ := gd h
                refine And.intro hg ?_
                obtain ⟨x26, hc27, h⟩ := bnd h
                refine ⟨[], _, _, _, ⟨⟨_, forest_Forest_Chain_c er 0 3 1 2 5 (by decide) x3 x7 x5 x6 x26 hc27, ⟨.inl rfl, .inl rfl, trivial⟩⟩, ⟨⟨rfl, rfl⟩, ⟨rfl, rfl⟩, ⟨rfl, rfl⟩, ⟨rfl, rfl⟩, trivial⟩, rfl⟩, ?_⟩
                obtain ⟨x27, hc27, h⟩ := bnd h
                refine ⟨[true, false], _, _, _, ⟨⟨_, fellowshipnum_In_c er x26 (List.getD x24 (Int.toNat x25) 0) x27 hc27, ⟨ve_full _ _, .inl rfl, trivial⟩⟩, trivial, rfl⟩, ?_⟩
                refine And.intro (fun hb => ?_) (fun hb => ?_)
                · replace h := cond_t h hb
                  obtain rfl := some_in h
                  replace h := hr3_24
                  obtain rfl := some_in h
                  exact ⟨rfl, trivial⟩
                · replace h := cond_f h hb
                  exact ⟨⟨(n2, (IntKind.wrap .i64 (x25 + 1))), h⟩, [], ⟨rfl, ⟨rfl, rfl, trivial⟩, ⟨rfl, rfl, rfl, rfl, rfl, trivial⟩, rfl⟩, Nat.lt_succ_self _⟩
              · replace h := cond_f h hb
                exact ⟨[], [], ⟨(), some_in h⟩, [], rfl, ⟨rfl, trivial⟩, ⟨rfl, rfl, rfl, rfl, rfl, trivial⟩, rfl⟩
        · replace h := cond_f h hb
          obtain ⟨x28, hc33, h⟩ := bnd h
          refine ⟨[], _, _, _, ⟨⟨_, forest_Forest_Chain_c er 0 3 1 2 4 (by decide) x2 x7 x5 x6 x28 hc33, ⟨.inl rfl, .inl rfl, trivial⟩⟩, ⟨⟨rfl, rfl⟩, ⟨rfl, rfl⟩, ⟨rfl, rfl⟩, ⟨rfl, rfl⟩, trivial⟩, rfl⟩, ?_⟩
          obtain ⟨x29, hc33, h⟩ := bnd h
          refine ⟨[], _, _, _, ⟨⟨_, forest_Forest_Chain_c er 0 3 1 2 5 (by decide) x3 x7 x5 x6 x29 hc33, ⟨.inl rfl, .inl rfl, trivial⟩⟩, ⟨⟨rfl, rfl⟩, ⟨rfl, rfl⟩, ⟨rfl, rfl⟩, ⟨rfl, rfl⟩, trivial⟩, rfl⟩, ?_⟩
          obtain ⟨x30, hc33, h⟩ := bnd h
          refine ⟨[], _, _, _, ⟨⟨_, forest_Forest_Chain_c er 0 3 1 2 6 (by decide) x23 x7 x5 x6 x30 hc33, ⟨.inl rfl, .inl rfl, trivial⟩⟩, ⟨⟨rfl, rfl⟩, ⟨rfl, rfl⟩, ⟨rfl, rfl⟩, ⟨rfl, rfl⟩, trivial⟩, rfl⟩, ?_⟩
          refine And.intro (fun hb => ?_) (fun hb => ?_)
          · replace h := cond_t h hb
            refine And.intro (fun hb => ?_) (fun hb => ?_)
            · replace h := cond_t h hb
              obtain ⟨hg, h⟩ := gd h
              refine And.intro hg ?_
              refine ⟨(Int.toNat (IntKind.wrap .i64 (((List.length x28) : Int) - ((List.length x30) : Int)))), (Int.toNat (((List.length x28) : Int) - (IntKind.wrap .i64 (((List.length x28) : Int) - ((List.length x30) : Int))))), ⟨by simp, rfl⟩, ?_⟩
              obtain ⟨x31, hc33, h⟩ := bnd h
              refine ⟨[true, true], _, _, _, ⟨⟨_, fellowshipnum_SameInts_c er (List.take (Int.toNat (((List.length x28) : Int) - (IntKind.wrap .i64 (((List.length x28) : Int) - ((List.length x30) : Int))))) (List.drop (Int.toNat (IntKind.wrap .i64 (((List.length x28) : Int) - ((List.length x30) : Int)))) x28)) x30 x31 hc33, ⟨.inl rfl, ve_full _ _, trivial⟩⟩, trivial, rfl⟩, ?_⟩
              refine And.intro (fun hb => ?_) (fun hb => ?_)
              · replace h := cond_t h hb
                obtain ⟨hg, h⟩ := gd h
                refine And.intro hg ?_
                refine ⟨(Int.toNat (IntKind.wrap .i64 (((List.length x29) : Int) - ((List.length x30) : Int)))), (Int.toNat (((List.length x29) : Int) - (IntKind.wrap .i64 (((List.length x29) : Int) - ((List.length x30) : Int))))), ⟨by simp, rfl⟩, ?_⟩
                obtain ⟨x32, hc33, h⟩ := bnd h
                refine ⟨[true, true], _, _, _, ⟨⟨_, fellowshipnum_SameInts_c er (List.take (Int.toNat (((List.length x29) : Int) - (IntKind.wrap .i64 (((List.length x29) : Int) - ((List.length x30) : Int))))) (List.drop (Int.toNat (IntKind.wrap .i64 (((List.length x29) : Int) - ((List.length x30) : Int)))) x29)) x30 x32 hc33, ⟨.inl rfl, ve_full _ _, trivial⟩⟩, trivial, rfl⟩, ?_⟩
                refine And.intro (fun hb => ?_) (fun hb => ?_)
                · replace h := cond_t h hb
                  obtain ⟨x33, hc33, h⟩ := bnd h
                  refine ⟨[], _, _, _, ⟨⟨_, forest_Forest_Common_c er 0 3 1 2 (by decide) x3 x2 x7 x5 x6 x33 hc33, ⟨.inl rfl, .inl rfl, .inl rfl, trivial⟩⟩, ⟨⟨rfl, rfl⟩, ⟨rfl, rfl⟩, ⟨rfl, rfl⟩, ⟨rfl, rfl⟩, trivial⟩, rfl⟩, ?_⟩
                  obtain rfl := some_in h
                  exact ⟨rfl, trivial⟩
                · replace h := cond_f h hb
                  obtain rfl := some_in h
                  exact ⟨rfl, trivial⟩
              · replace h := cond_f h hb
                obtain rfl := some_in h
                exact ⟨rfl, trivial⟩
            · replace h := cond_f h hb
              obtain rfl := some_in h
              exact ⟨rfl, trivial⟩
          · replace h := cond_f h hb
            obtain rfl := some_in h
            exact ⟨rfl, trivial⟩
      · replace h := hl1_7
        refine ⟨{x : Nat × Int × (List ((List Int) × Int)) × (List (Int × Int)) × (List T_forest_node) // fellowshiplaw31_ForestMeets_l1 x1 x.1 x.2.1 x.2.2.1 x.2.2.2.1 x.2.2.2.2 = some r1_0_7}, ⟨fun | ⟨(n1, x8, x9, x10, x11), _⟩ => [(24, (.int .i64 x8))], fun | ⟨(n1, x8, x9, x10, x11), _⟩ => [(0, (.var (.cons (.sl 3 [] ly68 0 (List.length x11)) (.cons (.mp 1) (.cons (.mp 2) (.dv .nil)))))), (1, (.mp (.ints .u8 32) (mpD (fun q => .ints .u8 32 q) (fun q => .sc (.int .i64 q)) x9))), (2, (.mp (.int .i64) (mpD (fun q => .sc (.int .i64 q)) (fun q => .sc (.int .i64 q)) x10))), (3, (.row ly68 (List.length x11) (rw_ T_forest_node.dv T_forest_node.z x11)))], fun | ⟨(n1, x8, x9, x10, x11), _⟩ => n1⟩, [], [(0, [0], .row ly68 0 (rw_ T_forest_node.dv T_forest_node.z []))], ⟨(FUEL, 0, [], [], []), h⟩, ⟨rfl, ⟨rfl, trivial⟩, ⟨rfl, rfl, rfl, rfl, trivial⟩, rfl⟩, ?_⟩
        rintro ⟨⟨n1, x8, x9, x10, x11⟩, h⟩
        cases n1 with
        | zero => exact no_none h
        | succ n1 =>
          replace h := (fellowshiplaw31_ForestMeets_l1.eq_2 .. ).symm.trans h
          refine And.intro (fun hb => ?_) (fun hb => ?_)
          · replace h := cond_t h hb
            refine Or.inl ?_
            obtain ⟨hg, h⟩ := gd h
            refine And.intro hg ?_
            obtain ⟨r2_0_14, hl2_14, hr2_14⟩ := bnd h
            refine Or.inr ⟨{p : (List ((List Int) × Int)) × (List (Int × Int)) × (List T_forest_node) // p = r2_0_14}, ⟨fun | ⟨(x12, x13, x14), _⟩ => [], fun | ⟨(x12, x13, x14), _⟩ => [(0, (.var (.cons (.sl 5 [] ly68 0 (List.length x14)) (.cons (.mp 1) (.cons (.mp 2) (.dv .nil)))))), (1, (.mp (.ints .u8 32) (mpD (fun q => .ints .u8 32 q) (fun q => .sc (.int .i64 q)) x12))), (2, (.mp (.int .i64) (mpD (fun q => .sc (.int .i64 q)) (fun q => .sc (.int .i64 q)) x13))), (3, .dead), (5, (.row ly68 (List.length x14) (rw_ T_forest_node.dv T_forest_node.z x14)))], fun _ => 0⟩, 1, ?_, ?_⟩
            · rintro ⟨⟨x12, x13, x14⟩, hp⟩
              subst hp
              replace h := hr2_14
              exact ⟨⟨(n1, (IntKind.wrap .i64 (x8 + 1)), x12, x13, x14), h⟩, [(3, 5)], ⟨rfl, ⟨rfl, trivial⟩, ⟨rfl, rfl, rfl, rfl, trivial⟩, rfl⟩, Nat.lt_succ_self _⟩
            · replace h := hl2_14
              refine And.intro (fun hb => ?_) (fun hb => ?_)
              · replace h := cond_t h hb
                obtain ⟨r14, hc14, h⟩ := bnd h
                refine ⟨[], _, _, _, ⟨⟨_, forest_Forest_Leave_2_c er 0 3 1 2 (by decide) ((List.getD x1 (Int.toNat x8) T_fellowshiplaw31_Act.z).fWho) x11 x9 x10 r14 hc14, ⟨.inl rfl, .inl rfl, trivial⟩⟩, ⟨⟨rfl, rfl⟩, ⟨rfl, rfl⟩, ⟨rfl, rfl⟩, ⟨rfl, rfl⟩, trivial⟩, rfl⟩, ?_⟩
                exact ⟨[], [], ⟨(x9, (dl ((List.getD x1 (Int.toNat x8) T_fellowshiplaw31_Act.z).fWho) x10), x11), some_in h⟩, [(5, 3), (3, 10003)], rfl, trivial, ⟨rfl, rfl, rfl, trivial, rfl, rfl, trivial⟩, rfl⟩
              · replace h := cond_f h hb
                obtain ⟨r22, hc22, h⟩ := bnd h
                rcases r22 with ⟨x15, x16, x17⟩ | ⟨x18, x19, x20, x21⟩ | x22
                · refine ⟨[], _, _, _, ⟨⟨_, forest_Forest_See_2_c er 0 3 1 2 5 (by decide) ((List.getD x1 (Int.toNat x8) T_fellowshiplaw31_Act.z).fWho) ((List.getD x1 (Int.toNat x8) T_fellowshiplaw31_Act.z).fMark) x11 x9 x10 (Sum.inl (x15, x16, x17)) hc22, ⟨.inl rfl, .inl rfl, .inl rfl, trivial⟩⟩, ⟨⟨rfl, rfl⟩, ⟨rfl, rfl⟩, ⟨rfl, rfl⟩, ⟨rfl, rfl⟩, trivial⟩, rfl⟩, ?_⟩
                  exact ⟨[], [], ⟨(x9, x17, x16), some_in h⟩, [(5, 3), (3, 10003)], rfl, trivial, ⟨rfl, rfl, rfl, trivial, rfl, rfl, trivial⟩, rfl⟩
                · refine ⟨[], _, _, _, ⟨⟨_, forest_Forest_See_2_c er 0 3 1 2 5 (by decide) ((List.getD x1 (Int.toNat x8) T_fellowshiplaw31_Act.z).fWho) ((List.getD x1 (Int.toNat x8) T_fellowshiplaw31_Act.z).fMark) x11 x9 x10 (Sum.inr (Sum.inl (x18, x19, x20, x21))) hc22, ⟨.inl rfl, .inl rfl, .inl rfl, trivial⟩⟩, ⟨⟨rfl, rfl⟩, ⟨rfl, rfl⟩, ⟨rfl, rfl⟩, ⟨rfl, rfl⟩, trivial⟩, rfl⟩, ?_⟩
                  exact ⟨[], [], ⟨(x19, x20, x21), some_in h⟩, [], rfl, trivial, ⟨rfl, rfl, rfl, trivial, rfl, rfl, trivial⟩, rfl⟩
                · refine ⟨[], _, _, _, ⟨⟨_, forest_Forest_See_2_c er 0 3 1 2 5 (by decide) ((List.getD x1 (Int.toNat x8) T_fellowshiplaw31_Act.z).fWho) ((List.getD x1 (Int.toNat x8) T_fellowshiplaw31_Act.z).fMark) x11 x9 x10 (Sum.inr (Sum.inr x22)) hc22, ⟨.inl rfl, .inl rfl, .inl rfl, trivial⟩⟩, ⟨⟨rfl, rfl⟩, ⟨rfl, rfl⟩, ⟨rfl, rfl⟩, ⟨rfl, rfl⟩, trivial⟩, rfl⟩, ?_⟩
                  exact ⟨[], [], ⟨(x9, x10, x11), some_in h⟩, [(5, 3), (3, 10003)], rfl, trivial, ⟨rfl, rfl, rfl, trivial, rfl, rfl, trivial⟩, rfl⟩
          · replace h := cond_f h hb
            exact ⟨[], [], ⟨(x9, x10, x11), some_in h⟩, [], rfl, trivial, ⟨rfl, rfl, rfl, rfl, trivial⟩, rfl⟩
end
end Go.Eng
