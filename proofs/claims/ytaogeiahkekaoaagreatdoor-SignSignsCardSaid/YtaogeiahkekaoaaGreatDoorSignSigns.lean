/-
  SignSigns: for every input the law answers true, and the input reads as it did. Conditions: the listed package-level variables start as the program's text lays them (the card ties them).
-/
import Derived.Test.YtaogeiahkekaoaaGreatDoorSignSignsP
import Derived.Test.YtaogeiahkekaoaaGreatDoorCards
import Derived.Test.YtaogeiahkekaoaaGreatDoorTie
set_option linter.unusedVariables false
set_option linter.unusedSimpArgs false
namespace Go.Proofs.YtaogeiahkekaoaaGreatDoor
open Go.ChangeShapes Go.WideShapes Go.RowKit
set_option maxRecDepth 100000
theorem own:ownKnob Tryz.prog.godebug=none:=by kernel_rfl
theorem laidOut:laidOutB Tryz.prog=true:=by kernel_rfl
theorem g0:Tryz.prog.globalNamed "fellowship/api.ErrForm" = some 0:=by kernel_rfl
theorem gt0:(Tryz.prog.globals[0]?).map (·.type)=some 57:=by kernel_rfl
theorem g1:Tryz.prog.globalNamed "fellowship/field.many" = some 1:=by kernel_rfl
theorem gt1:(Tryz.prog.globals[1]?).map (·.type)=some 40:=by kernel_rfl
theorem g2:Tryz.prog.globalNamed "fellowship/field.minus" = some 2:=by kernel_rfl
theorem gt2:(Tryz.prog.globals[2]?).map (·.type)=some 40:=by kernel_rfl
theorem g3:Tryz.prog.globalNamed "fellowship/shawide.constants" = some 3:=by kernel_rfl
theorem gt3:(Tryz.prog.globals[3]?).map (·.type)=some 133:=by kernel_rfl
theorem star : "*" ++ "errors.errorString" = "*errors.errorString" := by decide
theorem errType (u:TypeId) (h:Tryz.prog.typeName? 3 u=some "*errors.errorString"):u=139 :=
 typeName_ptr_named (nm := "errors.errorString") (by rw [star];kernel_rfl) (by kernel_rfl) (by decide) u (by rw [star];exact h)
theorem errCells:Tryz.prog.cellsOf 156=1:=by kernel_rfl
def errName:Nat->String
 |4 => "fellowship/api.ErrForm"
 |_ => ""
def errGlob:Nat->Nat
 |4=>0
 |_=>0
theorem gok {W:World} (h:laidMetH Tryz.prog Rows.signSignsRow.laid W):∃ er,Eng.GOK (Eng.env0 W) (Eng.GE er):=by
 have h:laidMet Tryz.prog Rows.signSignsRow.laid W:=h
 obtain ⟨er,hE,hc⟩:=Eng.errs_laid (I:=[4]) (nm:=errName) (gl:=errGlob) errType Tryz.underlying139 errCells h (fun i hi=>by
  simp only [List.mem_cons,List.not_mem_nil,or_false] at hi
  rcases hi with rfl
  ·exact ⟨⟨_,(.head _)⟩,g0,_,_,gt0,Tryz.underlying57⟩) (by decide)
 obtain ⟨ps,hv,_,_⟩:=h
 refine ⟨er,fun g => ?_,hE⟩
 match g with
 |0=>exact Eng.err_cell (hc 4 (by decide))
 |1=>exact Eng.table_cell rfl (Eng.laid_ints (n := "fellowship/field.many") (k := .u64) (ns:=Eng.tb_field_many) hv (.tail _ (.head _)) g1 gt1 Tryz.underlying40 Tryz.underlying39 (by kernel_rfl) (by kernel_rfl) rfl)
 |2=>exact Eng.table_cell rfl (Eng.laid_ints (n := "fellowship/field.minus") (k := .u64) (ns:=Eng.tb_field_minus) hv (.tail _ (.tail _ (.head _))) g2 gt2 Tryz.underlying40 Tryz.underlying39 (by kernel_rfl) (by kernel_rfl) rfl)
 |3=>exact Eng.table_cell rfl (Eng.laid_ints (n := "fellowship/shawide.constants") (k := .u64) (ns:=Eng.tb_shawide_constants) hv (.tail _ (.tail _ (.tail _ (.head _)))) g3 gt3 Tryz.underlying133 Tryz.underlying39 (by kernel_rfl) (by kernel_rfl) rfl)
 |_+4=>exact .any _ _
theorem readable {t:TypeId} (h:t∈Tryz.f3.params.toList):Tryz.prog.readableRec t=true/\t<Tryz.prog.types.size:=by
 rw [Tryz.params3] at h
 have h:t∈([23,24,24]:List Nat):=h
 have:=List.all_eq_true.1 (by kernel_rfl:([23,24,24]:List Nat).all (fun t=>Tryz.prog.readableRec t&&Nat.blt t Tryz.prog.types.size)=true) t h
 have:=Bool.and_eq_true_iff.1 this
 exact ⟨this.1,Nat.le_of_ble_eq_true this.2⟩
theorem contract (H:Type) (enc:TypeId×Value->H) (W:World) (base:Nat) (args:Array Value) (ds gs:List (DataW H)) (before:List MemPlace)
  (hval:∀ (j:Nat) t v,Tryz.f3.params[j]?=some t->args[j]?=some v->Value.okWide Tryz.prog W .any base t v)
  (hW:DataW.Whole enc Tryz.prog Tryz.f3.params.toList Rows.signSignsSpec.vars false W args.toList ds gs before) (hL:laidMetH Tryz.prog Rows.signSignsRow.laid W) :
  Calls Tryz.prog 3 args W fun e W'=>∃ v,e = .returned v/\Rows.signSignsSpec.post enc Tryz.prog Tryz.f3 false true false false W args v W':=by
 have hW':=hW
 obtain ⟨p,q,hA0,hV,rfl,hfz,hnd⟩:=hW
 have hA:DataW.TrodAll enc Tryz.prog W 0 (fun _=>true) true Tryz.f3.params.toList args.toList ds p:=hA0
 rw [Tryz.params3] at hA hval
 obtain ⟨x0,x1,x2,y0,y1,y2,p0,p1,p2,hargs,rfl,h0,h1,h2⟩:∃ x0 x1 x2 y0 y1 y2 p0 p1 p2,args.toList=[x0,x1,x2]/\ds=[y0,y1,y2]/\DataW.Trod enc Tryz.prog W 0 (fun _=>true) true 23 x0 y0 p0/\DataW.Trod enc Tryz.prog W 0 (fun _=>true) true 24 x1 y1 p1/\DataW.Trod enc Tryz.prog W 0 (fun _=>true) true 24 x2 y2 p2:=by
  obtain ⟨v0,vs0,d0,ds0,p0,q0,e0,f0,g0,r0,s0⟩:=trodAll_cons hA
  obtain ⟨v1,vs1,d1,ds1,p1,q1,e1,f1,g1,r1,s1⟩:=trodAll_cons s0
  obtain ⟨v2,vs2,d2,ds2,p2,q2,e2,f2,g2,r2,s2⟩:=trodAll_cons s1
  obtain ⟨ez,fz,gz⟩:=trodAll_nil s2
  exact ⟨v0,v1,v2,d0,d1,d2,p0,p1,p2,by rw [e0,e1,e2,ez],by rw [f0,f1,f2,fz],r0,r1,r2⟩
 obtain ⟨er,hG⟩:=gok hL
 have ha0:args[0]?=some x0:=by rw [←Array.getElem?_toList,hargs];rfl
 obtain ⟨c0,s0,r0⟩:=Eng.open_arg Eng.tabOK Eng.bnd_all (dz:=Eng.dzs) (dep:=2) (by rfl) (hval 0 23 x0 rfl ha0) h0 trivial
 obtain ⟨a0,rfl,ga0⟩:=Eng.signSigns_arg0 s0
 have ha1:args[1]?=some x1:=by rw [←Array.getElem?_toList,hargs];rfl
 obtain ⟨c1,s1,r1⟩:=Eng.open_arg Eng.tabOK Eng.bnd_all (dz:=Eng.dzs) (dep:=2) (by rfl) (hval 1 24 x1 rfl ha1) h1 trivial
 obtain ⟨a1,rfl,ga1⟩:=Eng.signSigns_arg1 s1
 have ha2:args[2]?=some x2:=by rw [←Array.getElem?_toList,hargs];rfl
 obtain ⟨c2,s2,r2⟩:=Eng.open_arg Eng.tabOK Eng.bnd_all (dz:=Eng.dzs) (dep:=2) (by rfl) (hval 2 24 x2 rfl ha2) h2 trivial
 obtain ⟨a2,rfl,ga2⟩:=Eng.signSigns_arg2 s2
 have hF:=(Eng.fl13_SignSigns_c (er:=er) (Eng.signSigns_true a0 ga0 a1 ga1 a2 ga2)).plain
 refine Eng.law_post (gs:=gs) laidOut (fun t ht=>readable ht) rfl Tryz.underlying4 rfl ?_ hW' hF hG ?_
 ·obtain ⟨rfl,rfl⟩:=trodVars_none hV
  rfl
 ·rw [hargs]
  refine ⟨rfl,fun i h h' => ?_⟩
  match i,h,h' with
  |0,_,_=>exact r0 _ rfl
  |1,_,_=>exact r1 _ rfl
  |2,_,_=>exact r2 _ rfl
abbrev txt (l:List UInt8):ByteArray:=⟨⟨l⟩⟩
noncomputable def low:Nat:=(World.holding Tryz.prog default ⟨#[],#[],[]⟩).heap.size
noncomputable def laidWorld (os:Os):World :=
 let w0:=World.holding Tryz.prog os ⟨#[.cells #[.string (txt [102,101,108,108,111,119,115,104,105,112,58,32,102,111,114,109])] 156],#[],[]⟩
 {w0 with heap:=((((w0.heap.modify 0 fun
   |.cells _ t frozen => .cells #[.iface 139 (.pointer (some ⟨low+0,0,none⟩))] t frozen
   |o=>o).modify 1 fun
   |.cells _ t frozen => .cells (Eng.tb_field_many.map (Value.int .u64)).toArray t frozen
   |o=>o).modify 2 fun
   |.cells _ t frozen => .cells (Eng.tb_field_minus.map (Value.int .u64)).toArray t frozen
   |o=>o).modify 3 fun
   |.cells _ t frozen => .cells (Eng.tb_shawide_constants.map (Value.int .u64)).toArray t frozen
   |o=>o) }
noncomputable def wArgs:Array Value := #[.agg (List.replicate 32 (Value.int .u8 0)).toArray,Value.slice none 0 0,Value.slice none 0 0]
theorem laid_met (os:Os):laidMet Tryz.prog Rows.signSignsRow.laid ((laidWorld os).forCall (fun _ _=>0) ⟨#[],wArgs,[]⟩).memory :=
 laidMet_of_run' 8 (by kernel_rfl) (by kernel_rfl)
theorem reads (os:Os) {H:Type} (enc:TypeId×Value->H):∃ ds places,DataW.whole enc Tryz.prog ((laidWorld os).forCall (fun _ _=>0) ⟨#[],wArgs,[]⟩).memory Tryz.f3.params.toList Rows.signSignsSpec.vars false wArgs.toList 8=some (ds,[],places) :=
 ⟨[.agg (List.replicate 32 (.lit (.int .u8 0))),.nil,.nil],[],by kernel_rfl⟩
theorem lifted (os:Os) (started:os.Started) (H:Type) (enc:TypeId×Value->H) (F:Stop.Interp) :
  ReturnsInHanded {} Tryz.checked os 3 .any ((OpenSpec.ofChange Rows.signSignsSpec).preRow enc Tryz.prog Tryz.f3 Rows.signSignsRow.domain false Rows.signSignsRow.laid) (((OpenSpec.ofChange Rows.signSignsSpec).at F).post enc Tryz.prog Tryz.f3 false true false false):=by
 obtain ⟨ds,places,hx⟩:=reads os enc
 refine returnsInHanded_of_row (C:=Tryz.checked) (s:=OpenSpec.ofChange Rows.signSignsSpec) own started (by kernel_rfl) Tryz.func3
  (witness_row_at (enc:=enc) (C:=Tryz.checked) false (laidWorld os) wArgs rfl (by kernel_rfl) (by kernel_rfl) (by kernel_rfl)
   (OpenSpec.preRow_of_cond 8 hx (by kernel_rfl) (fun k hk=>by cases hk) (by kernel_rfl) (laid_met os))) ?_
 intro W base args ds gs before hval hW _ _ _ hL _ _
 exact contract H enc W base args ds gs before hval hW hL
theorem said:Rows.SignSignsSaid :=
 OpenClaim.holds_of_cond 3 Tryz.f3 rfl rfl rfl rfl rfl rfl rfl ⟨rfl,rfl,rfl,rfl,rfl⟩ rfl rfl rfl rfl rfl (by kernel_rfl) Tryz.func3 (by kernel_rfl)
  (of_decide_eq_true (by kernel_rfl)) (by unfold Func.isWrapper;first|(rw [if_pos (by decide +kernel)];kernel_rfl)|(rw [if_neg (by decide +kernel)];exact ⟨rfl,rfl⟩))
  (fun os started H enc _ F=>by rw [OpenClaim.pre_eq_preRow];exact lifted os started H enc F)
theorem plain (f:FuncId) (fn:Func) (hf:Tryz.pinned.checked.prog.funcNamed "fellowship/fellowshiplaw13.SignSigns" = some f) (hfn:Tryz.pinned.checked.prog.funcs[f]?=some fn) :
  false=Tryz.pinned.checked.prog.looks []/\∀ (j:Nat) t,fn.params[j]?=some t->Tryz.pinned.checked.prog.wantsStandIn t=false:=by
 obtain rfl:f=3:=Option.some.inj ((show Tryz.prog.funcNamed "fellowship/fellowshiplaw13.SignSigns" = some 3 by kernel_rfl).symm.trans hf) |>.symm
 obtain rfl:fn=Tryz.f3:=(Option.some.inj (Tryz.func3.symm.trans hfn)).symm
 refine ⟨by kernel_rfl,fun j t ht => ?_⟩
 rw [Tryz.params3] at ht
 have ht:t∈([23,24,24]:List Nat):=by simpa using Array.mem_of_getElem? ht
 have:=List.all_eq_true.1 (by kernel_rfl:([23,24,24]:List Nat).all (fun t => !Tryz.prog.wantsStandIn t)=true) t ht
 show Tryz.prog.wantsStandIn t=false
 simpa using this
theorem card:Rows.SignSignsCardSaid :=
 Claim7.holds_tied_plain_at .later [] _ _ _ _ said (fun _ h=>by cases h) (by kernel_rfl) (fun _ h=>by cases h) signSigns_row_tie rfl ⟨rfl,rfl⟩ (by kernel_rfl) rfl plain (by kernel_rfl)
#print axioms card
end Go.Proofs.YtaogeiahkekaoaaGreatDoor
