/-
  ForestChains: for every input the law answers true, and the input reads as it did. Conditions: the listed package-level variables start as the program's text lays them (the card ties them).
-/
import Derived.Test.YtaolikaifggkgaaDoorForestChainsP
import Derived.Test.YtaolikaifggkgaaDoorCards
import Derived.Test.YtaolikaifggkgaaDoorTie
set_option linter.unusedVariables false
set_option linter.unusedSimpArgs false
namespace Go.Proofs.YtaolikaifggkgaaDoor
open Go.ChangeShapes Go.WideShapes Go.RowKit
set_option maxRecDepth 100000
theorem own : ownKnob Tryd.prog.godebug = none := by kernel_rfl
theorem laidOut : laidOutB Tryd.prog = true := by kernel_rfl
theorem g3 : Tryd.prog.globalNamed "fellowship/api.ErrRange" = some 3 := by kernel_rfl
theorem gt3 : (Tryd.prog.globals[3]?).map (·.type) = some 47 := by kernel_rfl
theorem g2 : Tryd.prog.globalNamed "fellowship/api.ErrPath" = some 2 := by kernel_rfl
theorem gt2 : (Tryd.prog.globals[2]?).map (·.type) = some 47 := by kernel_rfl
theorem g0 : Tryd.prog.globalNamed "fellowship/api.ErrState" = some 0 := by kernel_rfl
theorem gt0 : (Tryd.prog.globals[0]?).map (·.type) = some 47 := by kernel_rfl
theorem g1 : Tryd.prog.globalNamed "fellowship/api.ErrTwice" = some 1 := by kernel_rfl
theorem gt1 : (Tryd.prog.globals[1]?).map (·.type) = some 47 := by kernel_rfl
/-- What the row's list gives: the errors' cells. -/
theorem gok {W : World} (h : laidMetH Tryd.prog Rows.forestChainsRow.laid W) : ∃ er, Eng.GOK (Eng.env0 W) (Eng.GE er) := by
  have h : laidMet Tryd.prog Rows.forestChainsRow.laid W := h
  obtain ⟨ps, hv, _⟩ := h
  obtain ⟨u3, v3, c3⟩ := Eng.laid_cell hv (n := "fellowship/api.ErrRange") (.head _) g3 gt3 Tryd.underlying47
  obtain ⟨u2, v2, c2⟩ := Eng.laid_cell hv (n := "fellowship/api.ErrPath") (.tail _ (.head _)) g2 gt2 Tryd.underlying47
  obtain ⟨u0, v0, c0⟩ := Eng.laid_cell hv (n := "fellowship/api.ErrState") (.tail _ (.tail _ (.head _))) g0 gt0 Tryd.underlying47
  obtain ⟨u1, v1, c1⟩ := Eng.laid_cell hv (n := "fellowship/api.ErrTwice") (.tail _ (.tail _ (.tail _ (.head _)))) g1 gt1 Tryd.underlying47
  have one : ∀ {g : Nat} {u : TypeId} {v : Value}, W.cell? ⟨g, 0, none⟩ = some (.iface u v) → Eng.RepV (Eng.env0 W) (.rp (.sc (.iface u v))) (.pointer (some ⟨g, 0, none⟩)) := fun {g u v} hc =>
    .one (.rp g 0 (.sc (.iface u v) trivial) (fun j hj => by
      obtain rfl : j = 0 := by simpa using hj
      exact hc)) rfl
  refine ⟨fun n => match n with | 1 => (u3, v3) | 13 => (u2, v2) | 18 => (u0, v0) | 19 => (u1, v1) | _ => (0, .nilIface), fun g => ?_⟩
  match g with
  | 0 => exact one c0
  | 1 => exact one c1
  | 2 => exact one c2
  | 3 => exact one c3
  | _ + 4 => exact .any _ _
theorem readable {t : TypeId} (h : t ∈ Tryd.f4.params.toList) : Tryd.prog.readableRec t = true ∧ t < Tryd.prog.types.size := by
  rw [Tryd.params4] at h
  have h : t ∈ ([40] : List Nat) := h
  have := List.all_eq_true.1 (by kernel_rfl : ([40] : List Nat).all (fun t => Tryd.prog.readableRec t && Nat.blt t Tryd.prog.types.size) = true) t h
  have := Bool.and_eq_true_iff.1 this
  exact ⟨this.1, Nat.le_of_ble_eq_true this.2⟩
theorem contract (H : Type) (enc : TypeId × Value → H) (W : World) (base : Nat) (args : Array Value) (ds gs : List (DataW H)) (before : List MemPlace)
    (hval : ∀ (j : Nat) t v, Tryd.f4.params[j]? = some t → args[j]? = some v → Value.okWide Tryd.prog W .any base t v)
    (hW : DataW.Whole enc Tryd.prog Tryd.f4.params.toList Rows.forestChainsSpec.vars false W args.toList ds gs before) (hL : laidMetH Tryd.prog Rows.forestChainsRow.laid W) :
    Calls Tryd.prog 4 args W fun e W' => ∃ v, e = .returned v ∧ Rows.forestChainsSpec.post enc Tryd.prog Tryd.f4 false true false false W args v W' := by
  have hW' := hW
  obtain ⟨p, q, hA0, hV, rfl, hfz, hnd⟩ := hW
  have hA : DataW.TrodAll enc Tryd.prog W 0 (fun _ => true) true Tryd.f4.params.toList args.toList ds p := hA0
  rw [Tryd.params4] at hA hval
  obtain ⟨x0, y0, p0, hargs, rfl, h0⟩ : ∃ x0 y0 p0, args.toList = [x0] ∧ ds = [y0] ∧ DataW.Trod enc Tryd.prog W 0 (fun _ => true) true 40 x0 y0 p0 := by
    obtain ⟨v0, vs0, d0, ds0, p0, q0, e0, f0, g0, r0, s0⟩ := trodAll_cons hA
    obtain ⟨ez, fz, gz⟩ := trodAll_nil s0
    exact ⟨v0, d0, p0, by rw [e0, ez], by rw [f0, fz], r0⟩
  obtain ⟨er, hG⟩ := gok hL
  have ha0 : args[0]? = some x0 := by rw [← Array.getElem?_toList, hargs]; rfl
  obtain ⟨c0, s0, r0⟩ := Eng.open_arg Eng.tabOK Eng.bnd_all (dz := Eng.dzs) (dep := 5) (by rfl) (hval 0 40 x0 rfl ha0) h0 trivial
  obtain ⟨a0, rfl, ga0⟩ := Eng.forestChains_arg0 s0
  have hF := Eng.fellowshiplaw31_ForestChains_c er a0 true (Eng.forestChains_true a0 ga0)
  refine Eng.law_post (gs := gs) laidOut (fun t ht => readable ht) rfl Tryd.underlying4 rfl ?_ hW' hF hG ?_
  · obtain ⟨rfl, rfl⟩ := trodVars_none hV
    rfl
  · rw [hargs]
    refine ⟨rfl, fun i h h' => ?_⟩
    match i, h, h' with
    | 0, _, _ => exact r0 _ rfl
abbrev txt (l : List UInt8) : ByteArray := ⟨⟨l⟩⟩
noncomputable def low : Nat := (World.holding Tryd.prog default ⟨#[], #[], []⟩).heap.size
/-- A world for the witness: the settled one, with the errors laid. -/
noncomputable def laidWorld (os : Os) : World :=
  let w0 := World.holding Tryd.prog os ⟨#[.cells #[.string (txt [102, 101, 108, 108, 111, 119, 115, 104, 105, 112, 58, 32, 114, 97, 110, 103, 101])] 110, .cells #[.string (txt [102, 101, 108, 108, 111, 119, 115, 104, 105, 112, 58, 32, 112, 97, 116, 104])] 110, .cells #[.string (txt [102, 101, 108, 108, 111, 119, 115, 104, 105, 112, 58, 32, 115, 116, 97, 116, 101])] 110, .cells #[.string (txt [102, 101, 108, 108, 111, 119, 115, 104, 105, 112, 58, 32, 116, 119, 105, 99, 101])] 110], #[], []⟩
  { w0 with heap := ((((w0.heap.modify 3 fun
      | .cells _ t frozen => .cells #[.iface 79 (.pointer (some ⟨low + 0, 0, none⟩))] t frozen
      | o => o).modify 2 fun
      | .cells _ t frozen => .cells #[.iface 79 (.pointer (some ⟨low + 1, 0, none⟩))] t frozen
      | o => o).modify 0 fun
      | .cells _ t frozen => .cells #[.iface 79 (.pointer (some ⟨low + 2, 0, none⟩))] t frozen
      | o => o).modify 1 fun
      | .cells _ t frozen => .cells #[.iface 79 (.pointer (some ⟨low + 3, 0, none⟩))] t frozen
      | o => o) }
noncomputable def wArgs : Array Value := #[Value.slice none 0 0]
theorem laid_met (os : Os) : laidMet Tryd.prog Rows.forestChainsRow.laid ((laidWorld os).forCall (fun _ _ => 0) ⟨#[], wArgs, []⟩).memory :=
  laidMet_of_run' 8 (by kernel_rfl) (by kernel_rfl)
theorem reads (os : Os) {H : Type} (enc : TypeId × Value → H) : ∃ ds places, DataW.whole enc Tryd.prog ((laidWorld os).forCall (fun _ _ => 0) ⟨#[], wArgs, []⟩).memory Tryd.f4.params.toList Rows.forestChainsSpec.vars false wArgs.toList 8 = some (ds, [], places) :=
  ⟨[.nil], [], by kernel_rfl⟩
theorem lifted (os : Os) (started : os.Started) (H : Type) (enc : TypeId × Value → H) (F : Stop.Interp) :
    ReturnsInHanded {} Tryd.checked os 4 .any ((OpenSpec.ofChange Rows.forestChainsSpec).preRow enc Tryd.prog Tryd.f4 Rows.forestChainsRow.domain false Rows.forestChainsRow.laid) (((OpenSpec.ofChange Rows.forestChainsSpec).at F).post enc Tryd.prog Tryd.f4 false true false false) := by
  obtain ⟨ds, places, hx⟩ := reads os enc
  refine returnsInHanded_of_row (C := Tryd.checked) (s := OpenSpec.ofChange Rows.forestChainsSpec) own started (by kernel_rfl) Tryd.func4
    (witness_row_at (enc := enc) (C := Tryd.checked) false (laidWorld os) wArgs rfl (by kernel_rfl) (by kernel_rfl) (by kernel_rfl)
      (OpenSpec.preRow_of_cond 8 hx (by kernel_rfl) (fun k hk => by cases hk) (by kernel_rfl) (laid_met os))) ?_
  intro W base args ds gs before hval hW _ _ _ hL _ _
  exact contract H enc W base args ds gs before hval hW hL

theorem said : Rows.ForestChainsSaid :=
  OpenClaim.holds_of_cond 4 Tryd.f4 rfl rfl rfl rfl rfl rfl rfl ⟨rfl, rfl, rfl, rfl, rfl⟩ rfl rfl rfl rfl rfl (by kernel_rfl) Tryd.func4 (by kernel_rfl)
    (of_decide_eq_true (by kernel_rfl)) (by unfold Func.isWrapper; first | (rw [if_pos (by decide +kernel)]; kernel_rfl) | (rw [if_neg (by decide +kernel)]; exact ⟨rfl, rfl⟩))
    (fun os started H enc _ F => by rw [OpenClaim.pre_eq_preRow]; exact lifted os started H enc F)

theorem plain (f : FuncId) (fn : Func) (hf : Tryd.pinned.checked.prog.funcNamed "fellowship/fellowshiplaw31.ForestChains" = some f) (hfn : Tryd.pinned.checked.prog.funcs[f]? = some fn) :
    false = Tryd.pinned.checked.prog.looks [] ∧ ∀ (j : Nat) t, fn.params[j]? = some t → Tryd.pinned.checked.prog.wantsStandIn t = false := by
  obtain rfl : f = 4 := Option.some.inj ((show Tryd.prog.funcNamed "fellowship/fellowshiplaw31.ForestChains" = some 4 by kernel_rfl).symm.trans hf) |>.symm
  obtain rfl : fn = Tryd.f4 := (Option.some.inj (Tryd.func4.symm.trans hfn)).symm
  refine ⟨by kernel_rfl, fun j t ht => ?_⟩
  rw [Tryd.params4] at ht
  have ht : t ∈ ([40] : List Nat) := by simpa using Array.mem_of_getElem? ht
  have := List.all_eq_true.1 (by kernel_rfl : ([40] : List Nat).all (fun t => !Tryd.prog.wantsStandIn t) = true) t ht
  show Tryd.prog.wantsStandIn t = false
  simpa using this

/-- THE CARD. -/
theorem card : Rows.ForestChainsCardSaid :=
  Claim7.holds_tied_plain_at .later [] _ _ _ _ said (fun _ h => by cases h) (by kernel_rfl) (fun _ h => by cases h) forestChains_row_tie rfl ⟨rfl, rfl⟩ (by kernel_rfl) rfl plain (by kernel_rfl)
#print axioms card
end Go.Proofs.YtaolikaifggkgaaDoor
