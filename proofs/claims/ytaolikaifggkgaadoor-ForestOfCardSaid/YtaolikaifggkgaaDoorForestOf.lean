/-
  ForestOf: every group's mark. For every context and every epoch the law answers true, and both read as they did. Conditions: the three package-level errors start as the program's text lays them (the card ties them).
-/
import Derived.Test.YtaolikaifggkgaaDoorOf
import Derived.Test.YtaolikaifggkgaaDoorEngL
import Derived.Test.YtaolikaifggkgaaDoorCards
import Derived.Test.YtaolikaifggkgaaDoorTie
namespace Go.Proofs.YtaolikaifggkgaaDoor
open Go.ChangeShapes Go.WideShapes Go.RowKit

theorem own : ownKnob Tryd.prog.godebug = none := by kernel_rfl
theorem laidOut : laidOutB Tryd.prog = true := by kernel_rfl
theorem g0 : Tryd.prog.globalNamed "fellowship/api.ErrState" = some 0 := by kernel_rfl
theorem g1 : Tryd.prog.globalNamed "fellowship/api.ErrTwice" = some 1 := by kernel_rfl
theorem g2 : Tryd.prog.globalNamed "fellowship/api.ErrPath" = some 2 := by kernel_rfl
theorem gt0 : (Tryd.prog.globals[0]?).map (·.type) = some 47 := by kernel_rfl
theorem gt1 : (Tryd.prog.globals[1]?).map (·.type) = some 47 := by kernel_rfl
theorem gt2 : (Tryd.prog.globals[2]?).map (·.type) = some 47 := by kernel_rfl

/-- What the row's list gives: the three errors' cells. -/
theorem gok {W : World} (h : laidMetH Tryd.prog Rows.forestOfRow.laid W) : ∃ e0 e1 e2, Eng.GOK (Eng.env0 W) (Eng.GE e0 e1 e2 none) := by
  have h : laidMet Tryd.prog Rows.forestOfRow.laid W := h
  obtain ⟨ps, hv, _⟩ := h
  obtain ⟨u0, v0, c0⟩ := Eng.laid_cell hv (n := "fellowship/api.ErrState") (.tail _ (.head _)) g0 gt0 Tryd.underlying47
  obtain ⟨u1, v1, c1⟩ := Eng.laid_cell hv (n := "fellowship/api.ErrTwice") (.tail _ (.tail _ (.head _))) g1 gt1 Tryd.underlying47
  obtain ⟨u2, v2, c2⟩ := Eng.laid_cell hv (n := "fellowship/api.ErrPath") (.head _) g2 gt2 Tryd.underlying47
  refine ⟨(u0, v0), (u1, v1), (u2, v2), fun g => ?_⟩
  have one : ∀ {g : Nat} {u : TypeId} {v : Value}, W.cell? ⟨g, 0, none⟩ = some (.iface u v) → Eng.RepV (Eng.env0 W) (.rp (.sc (.iface u v))) (.pointer (some ⟨g, 0, none⟩)) := fun {g u v} hc =>
    .one (.rp g 0 (.sc (.iface u v) trivial) (fun j hj => by
      obtain rfl : j = 0 := by simpa using hj
      exact hc)) rfl
  match g with
  | 0 => exact one c0
  | 1 => exact one c1
  | 2 => exact one c2
  | 3 => exact .any _ _
  | _ + 4 => exact .any _ _

theorem readable {t : TypeId} (h : t ∈ Tryd.f3.params.toList) : Tryd.prog.readableRec t = true ∧ t < Tryd.prog.types.size := by
  rw [Tryd.params3] at h
  rcases List.mem_cons.1 h with rfl | h
  · exact ⟨by kernel_rfl, of_decide_eq_true (by kernel_rfl)⟩
  · obtain rfl := List.mem_singleton.1 h
    exact ⟨by kernel_rfl, of_decide_eq_true (by kernel_rfl)⟩

theorem contract (H : Type) (enc : TypeId × Value → H) (W : World) (base : Nat) (args : Array Value) (ds gs : List (DataW H)) (before : List MemPlace)
    (hval : ∀ (j : Nat) t v, Tryd.f3.params[j]? = some t → args[j]? = some v → Value.okWide Tryd.prog W .any base t v)
    (hW : DataW.Whole enc Tryd.prog Tryd.f3.params.toList Rows.forestOfSpec.vars false W args.toList ds gs before) (hL : laidMetH Tryd.prog Rows.forestOfRow.laid W) :
    Calls Tryd.prog 3 args W fun e W' => ∃ v, e = .returned v ∧ Rows.forestOfSpec.post enc Tryd.prog Tryd.f3 false true false false W args v W' := by
  have hW' := hW
  obtain ⟨p, q, hA0, hV, rfl, hfz, hnd⟩ := hW
  have hA : DataW.TrodAll enc Tryd.prog W 0 (fun _ => true) true Tryd.f3.params.toList args.toList ds p := hA0
  rw [Tryd.params3] at hA hval
  obtain ⟨x0, x1, y0, y1, p0, p1, hargs, rfl, hp, h0, h1⟩ : ∃ x0 x1 y0 y1 p0 p1, args.toList = [x0, x1] ∧ ds = [y0, y1] ∧ p = p0 ++ p1 ∧ DataW.Trod enc Tryd.prog W 0 (fun _ => true) true 25 x0 y0 p0 ∧ DataW.Trod enc Tryd.prog W 0 (fun _ => true) true 27 x1 y1 p1 := by
    obtain ⟨v0, vs0, d0, ds0, p0, q0, e1, e2, e3, r0, r1⟩ := trodAll_cons hA
    obtain ⟨v1, vs1, d1, ds1, p1, q1, rfl, rfl, rfl, r2, r3⟩ := trodAll_cons r1
    obtain ⟨rfl, rfl, rfl⟩ := trodAll_nil r3
    exact ⟨v0, v1, d0, d1, p0, p1, e1, e2, by rw [e3, List.append_nil], r0, r2⟩
  obtain ⟨e0, e1, e2, hG⟩ := gok hL
  have ha0 : args[0]? = some x0 := by rw [← Array.getElem?_toList, hargs]; rfl
  have ha1 : args[1]? = some x1 := by rw [← Array.getElem?_toList, hargs]; rfl
  obtain ⟨c0, s0, r0⟩ := Eng.open_arg Eng.tabOK Eng.bnd_all (dep := 4) (by rfl) (hval 0 25 x0 rfl ha0) h0 trivial
  obtain ⟨c1, s1, r1⟩ := Eng.open_arg Eng.tabOK Eng.bnd_all (dep := 4) (by rfl) (hval 1 27 x1 rfl ha1) h1 trivial
  obtain ⟨_, _, rfl, ⟨a1, rfl, _, _⟩, _, _, rfl, ⟨a2, rfl, _, _⟩, _, _, rfl, ⟨a3, rfl, _, _⟩, _, _, rfl, ⟨a4, rfl, _, _⟩, rfl⟩ := s0
  obtain ⟨_, _, rfl, ⟨b1, rfl, _, _⟩, _, _, rfl, ⟨b2, rfl, _, _⟩, _, _, rfl, ⟨b3, rfl, _, _⟩, _, _, rfl, ⟨b4, rfl, _, _⟩, _, _, rfl, ⟨b5, rfl, _, _⟩, _, _, rfl, ⟨b6, rfl, _, _⟩, _, _, rfl, ⟨b7, rfl, _, _⟩, _, _, rfl, ⟨b8, rfl, _, _⟩, rfl⟩ := s1
  have hF := Eng.forestOf_fn e0 e1 e2 none ⟨a1, a2, a3, a4⟩ ⟨b1, b2, b3, b4, b5, b6, b7, b8⟩
  refine Eng.law_post (gs := gs) laidOut (fun t ht => readable ht) rfl Tryd.underlying4 rfl ?_ hW' hF hG ?_
  · obtain ⟨rfl, rfl⟩ := trodVars_none hV
    rfl
  · rw [hargs]
    refine ⟨rfl, fun i h h' => ?_⟩
    match i, h, h' with
    | 0, _, _ => exact r0 _ rfl
    | 1, _, _ => exact r1 _ rfl

abbrev txt (l : List UInt8) : ByteArray := ⟨⟨l⟩⟩
noncomputable def low : Nat := (World.holding Tryd.prog default ⟨#[], #[], []⟩).heap.size
/-- A world for the witness: the settled one, with the errors laid. -/
noncomputable def laidWorld (os : Os) : World :=
  let w0 := World.holding Tryd.prog os ⟨#[.cells #[.string (txt [102, 101, 108, 108, 111, 119, 115, 104, 105, 112, 58, 32, 115, 116, 97, 116, 101])] 110, .cells #[.string (txt [102, 101, 108, 108, 111, 119, 115, 104, 105, 112, 58, 32, 116, 119, 105, 99, 101])] 110, .cells #[.string (txt [102, 101, 108, 108, 111, 119, 115, 104, 105, 112, 58, 32, 112, 97, 116, 104])] 110], #[], []⟩
  { w0 with heap := ((w0.heap.modify 0 fun
      | .cells _ t frozen => .cells #[.iface 79 (.pointer (some ⟨low, 0, none⟩))] t frozen
      | o => o).modify 1 fun
      | .cells _ t frozen => .cells #[.iface 79 (.pointer (some ⟨low + 1, 0, none⟩))] t frozen
      | o => o).modify 2 fun
      | .cells _ t frozen => .cells #[.iface 79 (.pointer (some ⟨low + 2, 0, none⟩))] t frozen
      | o => o }
noncomputable def wArgs : Array Value := #[.agg ((List.replicate 32 (Value.int .u8 0) ++ [Value.int .i64 0] ++ List.replicate 64 (Value.int .u8 0)).toArray), .agg ((List.replicate 256 (Value.int .u8 0)).toArray)]
theorem laid_met (os : Os) : laidMet Tryd.prog Rows.forestOfRow.laid ((laidWorld os).forCall (fun _ _ => 0) ⟨#[], wArgs, []⟩).memory :=
  laidMet_of_run' 8 (by kernel_rfl) (by kernel_rfl)
theorem reads (os : Os) {H : Type} (enc : TypeId × Value → H) : ∃ ds places, DataW.whole enc Tryd.prog ((laidWorld os).forCall (fun _ _ => 0) ⟨#[], wArgs, []⟩).memory Tryd.f3.params.toList Rows.forestOfSpec.vars false wArgs.toList 8 = some (ds, [], places) :=
  ⟨[.agg [.agg (List.replicate 32 (.lit (.int .u8 0))), .lit (.int .i64 0), .agg (List.replicate 32 (.lit (.int .u8 0))), .agg (List.replicate 32 (.lit (.int .u8 0)))], .agg (List.replicate 8 (.agg (List.replicate 32 (.lit (.int .u8 0)))))], [], by kernel_rfl⟩

set_option maxRecDepth 100000 in
theorem lifted (os : Os) (started : os.Started) (H : Type) (enc : TypeId × Value → H) (F : Stop.Interp) :
    ReturnsInHanded {} Tryd.checked os 3 .any ((OpenSpec.ofChange Rows.forestOfSpec).preRow enc Tryd.prog Tryd.f3 Rows.forestOfRow.domain false Rows.forestOfRow.laid) (((OpenSpec.ofChange Rows.forestOfSpec).at F).post enc Tryd.prog Tryd.f3 false true false false) := by
  obtain ⟨ds, places, hx⟩ := reads os enc
  refine returnsInHanded_of_row (C := Tryd.checked) (s := OpenSpec.ofChange Rows.forestOfSpec) own started (by kernel_rfl) Tryd.func3
    (witness_row_at (enc := enc) (C := Tryd.checked) false (laidWorld os) wArgs rfl (by kernel_rfl) (by kernel_rfl) (by kernel_rfl)
      (OpenSpec.preRow_of_cond 8 hx (by kernel_rfl) (fun k hk => by cases hk) (by kernel_rfl) (laid_met os))) ?_
  intro W base args ds gs before hval hW _ _ _ hL _ _
  exact contract H enc W base args ds gs before hval hW hL

theorem said : Rows.ForestOfSaid :=
  OpenClaim.holds_of_cond 3 Tryd.f3 rfl rfl rfl rfl rfl rfl rfl ⟨rfl, rfl, rfl, rfl, rfl⟩ rfl rfl rfl rfl rfl (by kernel_rfl) Tryd.func3 (by kernel_rfl)
    (of_decide_eq_true (by kernel_rfl)) (by unfold Func.isWrapper; first | (rw [if_pos (by decide +kernel)]; kernel_rfl) | (rw [if_neg (by decide +kernel)]; exact ⟨rfl, rfl⟩))
    (fun os started H enc _ F => by rw [OpenClaim.pre_eq_preRow]; exact lifted os started H enc F)

theorem plain (f : FuncId) (fn : Func) (hf : Tryd.pinned.checked.prog.funcNamed "fellowship/fellowshiplaw31.ForestOf" = some f) (hfn : Tryd.pinned.checked.prog.funcs[f]? = some fn) :
    false = Tryd.pinned.checked.prog.looks [] ∧ ∀ (j : Nat) t, fn.params[j]? = some t → Tryd.pinned.checked.prog.wantsStandIn t = false := by
  obtain rfl : f = 3 := Option.some.inj ((show Tryd.prog.funcNamed "fellowship/fellowshiplaw31.ForestOf" = some 3 by kernel_rfl).symm.trans hf) |>.symm
  obtain rfl : fn = Tryd.f3 := (Option.some.inj (Tryd.func3.symm.trans hfn)).symm
  refine ⟨by kernel_rfl, fun j t ht => ?_⟩
  rw [Tryd.params3] at ht
  have : t = 25 ∨ t = 27 := by simpa using Array.mem_of_getElem? ht
  rcases this with rfl | rfl
  · exact (show Tryd.prog.wantsStandIn 25 = false by kernel_rfl)
  · exact (show Tryd.prog.wantsStandIn 27 = false by kernel_rfl)

/-- THE CARD. -/
theorem card : Rows.ForestOfCardSaid :=
  Claim7.holds_tied_plain_at .later [] _ _ _ _ said (fun _ h => by cases h) (by kernel_rfl) (fun _ h => by cases h) forestOf_row_tie rfl ⟨rfl, rfl⟩ (by kernel_rfl) rfl plain (by kernel_rfl)
#print axioms card
end Go.Proofs.YtaolikaifggkgaaDoor
