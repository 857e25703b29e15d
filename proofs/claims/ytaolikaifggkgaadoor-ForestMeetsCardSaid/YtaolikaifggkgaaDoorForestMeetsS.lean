/-
  Part of a proof: ForestMeetsS.
-/
import Derived.Test.YtaolikaifggkgaaDoorEngD
import Derived.Test.YtaolikaifggkgaaDoorForestMeetsC
set_option linter.unusedVariables false
set_option linter.unusedSimpArgs false
namespace Go.Eng
set_option maxRecDepth 100000
/-- What stands behind the rows. -/
def dzs : Nat → DV
  | 44 => T_fellowshiplaw31_Act.dv T_fellowshiplaw31_Act.z
  | _ => .nil
def T_forest_Mark.ok (N : Nat) (x : T_forest_Mark) : Prop := okA .u8 32 x.fGroup ∧ okI .i64 x.fEpoch ∧ okA .u8 32 x.fID ∧ okA .u8 32 x.fAuthenticator ∧ okA .u8 32 x.fSecret ∧ okA .u8 32 x.fPrint ∧ okA .u8 32 x.fTranscript ∧ True
theorem T_forest_Mark.of_sh30 {N d : Nat} {x : DV} (h : Sh tab N dzs (d + 3) 30 x) : ∃ s : T_forest_Mark, x = s.dv ∧ s.ok N := by
  obtain ⟨_, _, rfl, h0, _, _, rfl, h1, _, _, rfl, h2, _, _, rfl, h3, _, _, rfl, h4, _, _, rfl, h5, _, _, rfl, h6, rfl⟩ := h
  obtain ⟨a0, rfl, ga0⟩ := h0
  obtain ⟨a1, rfl, ga1⟩ := h1
  obtain ⟨a2, rfl, ga2⟩ := h2
  obtain ⟨a3, rfl, ga3⟩ := h3
  obtain ⟨a4, rfl, ga4⟩ := h4
  obtain ⟨a5, rfl, ga5⟩ := h5
  obtain ⟨a6, rfl, ga6⟩ := h6
  exact ⟨⟨a0, a1, a2, a3, a4, a5, a6⟩, rfl, ga0, ga1, ga2, ga3, ga4, ga5, ga6, trivial⟩
def T_fellowshiplaw31_Act.ok (N : Nat) (x : T_fellowshiplaw31_Act) : Prop := okI .i64 x.fWho ∧ T_forest_Mark.ok N x.fMark ∧ True ∧ True
theorem T_fellowshiplaw31_Act.of_sh44 {N d : Nat} {x : DV} (h : Sh tab N dzs (d + 4) 44 x) : ∃ s : T_fellowshiplaw31_Act, x = s.dv ∧ s.ok N := by
  obtain ⟨_, _, rfl, h0, _, _, rfl, h1, _, _, rfl, h2, rfl⟩ := h
  obtain ⟨a0, rfl, ga0⟩ := h0
  obtain ⟨a1, rfl, ga1⟩ := T_forest_Mark.of_sh30 (d := d + 0) h1
  obtain ⟨a2, rfl⟩ := h2
  have ga2 : True := trivial
  exact ⟨⟨a0, a1, a2⟩, rfl, ga0, ga1, ga2, trivial⟩
theorem forestMeets_arg0 {N : Nat} {x : DV} (h : Sh tab N dzs 5 40 x) : ∃ a : List T_fellowshiplaw31_Act, x = .ro ly44 (List.length a) (rw_ T_fellowshiplaw31_Act.dv T_fellowshiplaw31_Act.z a) ∧ okR N (T_fellowshiplaw31_Act.ok N) a := by
  replace h : Sh tab N dzs (0 + 5) 40 x := h
  generalize hd : (0 : Nat) = d at h
  obtain ⟨na, fa, rfl, l0a, l1a, l2a⟩ := h
  obtain ⟨a, ea, rfl, ga⟩ := rows_of (dv := T_fellowshiplaw31_Act.dv) (z := T_fellowshiplaw31_Act.z) (ok := (T_fellowshiplaw31_Act.ok N)) (n := na) (f := fa) (zero := dzs 44) (fun i hi => by
    have h' := l1a i hi
    generalize fa i = y at h'
    obtain ⟨q, rfl, gq⟩ := T_fellowshiplaw31_Act.of_sh44 (d := d + 0) h'
    exact ⟨q, rfl, gq⟩) l2a rfl
  subst ea
  replace ga : okR N (T_fellowshiplaw31_Act.ok N) a := ⟨l0a, ga⟩
  exact ⟨a, rfl, ga⟩
theorem forestMeets_arg1 {N : Nat} {x : DV} (h : Sh tab N dzs 1 3 x) : ∃ a : Int, x = .sc (.int .i64 a) ∧ okI .i64 a := by
  replace h : Sh tab N dzs (0 + 1) 3 x := h
  generalize hd : (0 : Nat) = d at h
  obtain ⟨a, rfl, ga⟩ := h
  exact ⟨a, rfl, ga⟩
theorem forestMeets_arg2 {N : Nat} {x : DV} (h : Sh tab N dzs 1 3 x) : ∃ a : Int, x = .sc (.int .i64 a) ∧ okI .i64 a := by
  replace h : Sh tab N dzs (0 + 1) 3 x := h
  generalize hd : (0 : Nat) = d at h
  obtain ⟨a, rfl, ga⟩ := h
  exact ⟨a, rfl, ga⟩
end Go.Eng
