/-
  WrapSeals: for every input the law answers true, and the input reads as it did. Conditions: the listed package-level variables start as the program's text lays them (the card ties them).
-/
import Derived.Test.YtonkmgaofdhbaaaGreatDoorWrapSealsP
import Derived.Test.YtonkmgaofdhbaaaGreatDoorCards
import Derived.Test.YtonkmgaofdhbaaaGreatDoorTie
set_option linter.unusedVariables false
set_option linter.unusedSimpArgs false
namespace Go.Proofs.YtonkmgaofdhbaaaGreatDoor
open Go.ChangeShapes Go.WideShapes Go.RowKit
set_option maxRecDepth 100000
theorem own:ownKnob Tryz.prog.godebug=none:=by kernel_rfl
theorem laidOut:laidOutB Tryz.prog=true:=by kernel_rfl
theorem g2:Tryz.prog.globalNamed "fellowship/api.ErrRange" = some 2:=by kernel_rfl
theorem gt2:(Tryz.prog.globals[2]?).map (·.type)=some 31:=by kernel_rfl
theorem g1:Tryz.prog.globalNamed "fellowship/api.ErrShort" = some 1:=by kernel_rfl
theorem gt1:(Tryz.prog.globals[1]?).map (·.type)=some 31:=by kernel_rfl
theorem g0:Tryz.prog.globalNamed "fellowship/api.ErrLong" = some 0:=by kernel_rfl
theorem gt0:(Tryz.prog.globals[0]?).map (·.type)=some 31:=by kernel_rfl
theorem g3:Tryz.prog.globalNamed "fellowship/api.ErrForm" = some 3:=by kernel_rfl
theorem gt3:(Tryz.prog.globals[3]?).map (·.type)=some 31:=by kernel_rfl
theorem g4:Tryz.prog.globalNamed "fellowship/api.ErrKey" = some 4:=by kernel_rfl
theorem gt4:(Tryz.prog.globals[4]?).map (·.type)=some 31:=by kernel_rfl
theorem g5:Tryz.prog.globalNamed "fellowship/api.ErrSign" = some 5:=by kernel_rfl
theorem gt5:(Tryz.prog.globals[5]?).map (·.type)=some 31:=by kernel_rfl
theorem g6:Tryz.prog.globalNamed "fellowship/api.ErrSeal" = some 6:=by kernel_rfl
theorem gt6:(Tryz.prog.globals[6]?).map (·.type)=some 31:=by kernel_rfl
theorem g7:Tryz.prog.globalNamed "fellowship/api.ErrEpoch" = some 7:=by kernel_rfl
theorem gt7:(Tryz.prog.globals[7]?).map (·.type)=some 31:=by kernel_rfl
theorem g8:Tryz.prog.globalNamed "fellowship/api.ErrGroup" = some 8:=by kernel_rfl
theorem gt8:(Tryz.prog.globals[8]?).map (·.type)=some 31:=by kernel_rfl
theorem g9:Tryz.prog.globalNamed "fellowship/api.ErrSender" = some 9:=by kernel_rfl
theorem gt9:(Tryz.prog.globals[9]?).map (·.type)=some 31:=by kernel_rfl
theorem g10:Tryz.prog.globalNamed "fellowship/api.ErrLeaf" = some 10:=by kernel_rfl
theorem gt10:(Tryz.prog.globals[10]?).map (·.type)=some 31:=by kernel_rfl
theorem g11:Tryz.prog.globalNamed "fellowship/api.ErrOffer" = some 11:=by kernel_rfl
theorem gt11:(Tryz.prog.globals[11]?).map (·.type)=some 31:=by kernel_rfl
theorem g12:Tryz.prog.globalNamed "fellowship/api.ErrPath" = some 12:=by kernel_rfl
theorem gt12:(Tryz.prog.globals[12]?).map (·.type)=some 31:=by kernel_rfl
theorem g13:Tryz.prog.globalNamed "fellowship/api.ErrTag" = some 13:=by kernel_rfl
theorem gt13:(Tryz.prog.globals[13]?).map (·.type)=some 31:=by kernel_rfl
theorem g14:Tryz.prog.globalNamed "fellowship/api.ErrNone" = some 14:=by kernel_rfl
theorem gt14:(Tryz.prog.globals[14]?).map (·.type)=some 31:=by kernel_rfl
theorem g15:Tryz.prog.globalNamed "fellowship/api.ErrRemoved" = some 15:=by kernel_rfl
theorem gt15:(Tryz.prog.globals[15]?).map (·.type)=some 31:=by kernel_rfl
theorem g16:Tryz.prog.globalNamed "fellowship/api.ErrFull" = some 16:=by kernel_rfl
theorem gt16:(Tryz.prog.globals[16]?).map (·.type)=some 31:=by kernel_rfl
theorem g17:Tryz.prog.globalNamed "fellowship/api.ErrState" = some 17:=by kernel_rfl
theorem gt17:(Tryz.prog.globals[17]?).map (·.type)=some 31:=by kernel_rfl
theorem g18:Tryz.prog.globalNamed "fellowship/api.ErrTwice" = some 18:=by kernel_rfl
theorem gt18:(Tryz.prog.globals[18]?).map (·.type)=some 31:=by kernel_rfl
theorem g19:Tryz.prog.globalNamed "fellowship/field.many" = some 19:=by kernel_rfl
theorem gt19:(Tryz.prog.globals[19]?).map (·.type)=some 96:=by kernel_rfl
theorem g20:Tryz.prog.globalNamed "fellowship/sha.constants" = some 20:=by kernel_rfl
theorem gt20:(Tryz.prog.globals[20]?).map (·.type)=some 181:=by kernel_rfl
theorem star : "*" ++ "errors.errorString" = "*errors.errorString" := by decide
theorem errType (u:TypeId) (h:Tryz.prog.typeName? 3 u=some "*errors.errorString"):u=186 :=
 typeName_ptr_named (nm := "errors.errorString") (by rw [star];kernel_rfl) (by kernel_rfl) (by decide) u (by rw [star];exact h)
theorem errCells:Tryz.prog.cellsOf 211=1:=by kernel_rfl
def errName:Nat->String
 |3 => "fellowship/api.ErrLong"
 |2 => "fellowship/api.ErrShort"
 |1 => "fellowship/api.ErrRange"
 |4 => "fellowship/api.ErrForm"
 |5 => "fellowship/api.ErrKey"
 |6 => "fellowship/api.ErrSign"
 |7 => "fellowship/api.ErrSeal"
 |8 => "fellowship/api.ErrEpoch"
 |9 => "fellowship/api.ErrGroup"
 |10 => "fellowship/api.ErrSender"
 |11 => "fellowship/api.ErrLeaf"
 |12 => "fellowship/api.ErrOffer"
 |13 => "fellowship/api.ErrPath"
 |14 => "fellowship/api.ErrTag"
 |15 => "fellowship/api.ErrNone"
 |16 => "fellowship/api.ErrRemoved"
 |17 => "fellowship/api.ErrFull"
 |18 => "fellowship/api.ErrState"
 |19 => "fellowship/api.ErrTwice"
 |_ => ""
def errGlob:Nat->Nat
 |3=>0
 |2=>1
 |1=>2
 |4=>3
 |5=>4
 |6=>5
 |7=>6
 |8=>7
 |9=>8
 |10=>9
 |11=>10
 |12=>11
 |13=>12
 |14=>13
 |15=>14
 |16=>15
 |17=>16
 |18=>17
 |19=>18
 |_=>0
theorem gok {W:World} (h:laidMetH Tryz.prog Rows.wrapSealsRow.laid W):∃ er,Eng.GOK (Eng.d90 W) (Eng.GE er):=by
 have h:laidMet Tryz.prog Rows.wrapSealsRow.laid W:=h
 obtain ⟨er,hE,hc⟩:=Eng.g64 (I:=[3,2,1,4,5,6,7,8,9,10,11,12,13,14,15,16,17,18,19]) (nm:=errName) (gl:=errGlob) errType Tryz.underlying186 errCells h (fun i hi=>by
  simp only [List.mem_cons,List.not_mem_nil,or_false] at hi
  rcases hi with rfl|rfl|rfl|rfl|rfl|rfl|rfl|rfl|rfl|rfl|rfl|rfl|rfl|rfl|rfl|rfl|rfl|rfl|rfl
  ·exact ⟨⟨_,(.tail _ (.tail _ (.head _)))⟩,g0,_,_,gt0,Tryz.underlying31⟩
  ·exact ⟨⟨_,(.tail _ (.head _))⟩,g1,_,_,gt1,Tryz.underlying31⟩
  ·exact ⟨⟨_,(.head _)⟩,g2,_,_,gt2,Tryz.underlying31⟩
  ·exact ⟨⟨_,(.tail _ (.tail _ (.tail _ (.head _))))⟩,g3,_,_,gt3,Tryz.underlying31⟩
  ·exact ⟨⟨_,(.tail _ (.tail _ (.tail _ (.tail _ (.head _)))))⟩,g4,_,_,gt4,Tryz.underlying31⟩
  ·exact ⟨⟨_,(.tail _ (.tail _ (.tail _ (.tail _ (.tail _ (.head _))))))⟩,g5,_,_,gt5,Tryz.underlying31⟩
  ·exact ⟨⟨_,(.tail _ (.tail _ (.tail _ (.tail _ (.tail _ (.tail _ (.head _)))))))⟩,g6,_,_,gt6,Tryz.underlying31⟩
  ·exact ⟨⟨_,(.tail _ (.tail _ (.tail _ (.tail _ (.tail _ (.tail _ (.tail _ (.head _))))))))⟩,g7,_,_,gt7,Tryz.underlying31⟩
  ·exact ⟨⟨_,(.tail _ (.tail _ (.tail _ (.tail _ (.tail _ (.tail _ (.tail _ (.tail _ (.head _)))))))))⟩,g8,_,_,gt8,Tryz.underlying31⟩
  ·exact ⟨⟨_,(.tail _ (.tail _ (.tail _ (.tail _ (.tail _ (.tail _ (.tail _ (.tail _ (.tail _ (.head _))))))))))⟩,g9,_,_,gt9,Tryz.underlying31⟩
  ·exact ⟨⟨_,(.tail _ (.tail _ (.tail _ (.tail _ (.tail _ (.tail _ (.tail _ (.tail _ (.tail _ (.tail _ (.head _)))))))))))⟩,g10,_,_,gt10,Tryz.underlying31⟩
  ·exact ⟨⟨_,(.tail _ (.tail _ (.tail _ (.tail _ (.tail _ (.tail _ (.tail _ (.tail _ (.tail _ (.tail _ (.tail _ (.head _))))))))))))⟩,g11,_,_,gt11,Tryz.underlying31⟩
  ·exact ⟨⟨_,(.tail _ (.tail _ (.tail _ (.tail _ (.tail _ (.tail _ (.tail _ (.tail _ (.tail _ (.tail _ (.tail _ (.tail _ (.head _)))))))))))))⟩,g12,_,_,gt12,Tryz.underlying31⟩
  ·exact ⟨⟨_,(.tail _ (.tail _ (.tail _ (.tail _ (.tail _ (.tail _ (.tail _ (.tail _ (.tail _ (.tail _ (.tail _ (.tail _ (.tail _ (.head _))))))))))))))⟩,g13,_,_,gt13,Tryz.underlying31⟩
  ·exact ⟨⟨_,(.tail _ (.tail _ (.tail _ (.tail _ (.tail _ (.tail _ (.tail _ (.tail _ (.tail _ (.tail _ (.tail _ (.tail _ (.tail _ (.tail _ (.head _)))))))))))))))⟩,g14,_,_,gt14,Tryz.underlying31⟩
  ·exact ⟨⟨_,(.tail _ (.tail _ (.tail _ (.tail _ (.tail _ (.tail _ (.tail _ (.tail _ (.tail _ (.tail _ (.tail _ (.tail _ (.tail _ (.tail _ (.tail _ (.head _))))))))))))))))⟩,g15,_,_,gt15,Tryz.underlying31⟩
  ·exact ⟨⟨_,(.tail _ (.tail _ (.tail _ (.tail _ (.tail _ (.tail _ (.tail _ (.tail _ (.tail _ (.tail _ (.tail _ (.tail _ (.tail _ (.tail _ (.tail _ (.tail _ (.head _)))))))))))))))))⟩,g16,_,_,gt16,Tryz.underlying31⟩
  ·exact ⟨⟨_,(.tail _ (.tail _ (.tail _ (.tail _ (.tail _ (.tail _ (.tail _ (.tail _ (.tail _ (.tail _ (.tail _ (.tail _ (.tail _ (.tail _ (.tail _ (.tail _ (.tail _ (.head _))))))))))))))))))⟩,g17,_,_,gt17,Tryz.underlying31⟩
  ·exact ⟨⟨_,(.tail _ (.tail _ (.tail _ (.tail _ (.tail _ (.tail _ (.tail _ (.tail _ (.tail _ (.tail _ (.tail _ (.tail _ (.tail _ (.tail _ (.tail _ (.tail _ (.tail _ (.tail _ (.head _)))))))))))))))))))⟩,g18,_,_,gt18,Tryz.underlying31⟩) (by decide)
 obtain ⟨ps,hv,_,_⟩:=h
 refine ⟨er,fun g => ?_,hE⟩
 match g with
 |0=>exact Eng.G6 (hc 3 (by decide))
 |1=>exact Eng.G6 (hc 2 (by decide))
 |2=>exact Eng.G6 (hc 1 (by decide))
 |3=>exact Eng.G6 (hc 4 (by decide))
 |4=>exact Eng.G6 (hc 5 (by decide))
 |5=>exact Eng.G6 (hc 6 (by decide))
 |6=>exact Eng.G6 (hc 7 (by decide))
 |7=>exact Eng.G6 (hc 8 (by decide))
 |8=>exact Eng.G6 (hc 9 (by decide))
 |9=>exact Eng.G6 (hc 10 (by decide))
 |10=>exact Eng.G6 (hc 11 (by decide))
 |11=>exact Eng.G6 (hc 12 (by decide))
 |12=>exact Eng.G6 (hc 13 (by decide))
 |13=>exact Eng.G6 (hc 14 (by decide))
 |14=>exact Eng.G6 (hc 15 (by decide))
 |15=>exact Eng.G6 (hc 16 (by decide))
 |16=>exact Eng.G6 (hc 17 (by decide))
 |17=>exact Eng.G6 (hc 18 (by decide))
 |18=>exact Eng.G6 (hc 19 (by decide))
 |19=>exact Eng.a90 rfl (Eng.Xg (n := "fellowship/field.many") (k := .u64) (ns:=Eng.E8) hv (.tail _ (.tail _ (.tail _ (.tail _ (.tail _ (.tail _ (.tail _ (.tail _ (.tail _ (.tail _ (.tail _ (.tail _ (.tail _ (.tail _ (.tail _ (.tail _ (.tail _ (.tail _ (.tail _ (.head _)))))))))))))))))))) g19 gt19 Tryz.underlying96 Tryz.underlying95 (by kernel_rfl) (by kernel_rfl) rfl)
 |20=>exact Eng.a90 rfl (Eng.Xg (n := "fellowship/sha.constants") (k := .u32) (ns:=Eng.y5) hv (.tail _ (.tail _ (.tail _ (.tail _ (.tail _ (.tail _ (.tail _ (.tail _ (.tail _ (.tail _ (.tail _ (.tail _ (.tail _ (.tail _ (.tail _ (.tail _ (.tail _ (.tail _ (.tail _ (.tail _ (.head _))))))))))))))))))))) g20 gt20 Tryz.underlying181 Tryz.underlying77 (by kernel_rfl) (by kernel_rfl) rfl)
 |_+21=>exact .any _ _
theorem readable {t:TypeId} (h:t∈Tryz.f4.params.toList):Tryz.prog.readableRec t=true/\t<Tryz.prog.types.size:=by
 rw [Tryz.params4] at h
 have h:t∈([27,24,22]:List Nat):=h
 have:=List.all_eq_true.1 (by kernel_rfl:([27,24,22]:List Nat).all (fun t=>Tryz.prog.readableRec t&&Nat.blt t Tryz.prog.types.size)=true) t h
 have:=Bool.and_eq_true_iff.1 this
 exact ⟨this.1,Nat.le_of_ble_eq_true this.2⟩
theorem contract (H:Type) (enc:TypeId×Value->H) (W:World) (base:Nat) (args:Array Value) (ds gs:List (DataW H)) (before:List MemPlace)
  (hval:∀ (j:Nat) t v,Tryz.f4.params[j]?=some t->args[j]?=some v->Value.okWide Tryz.prog W .any base t v)
  (hW:DataW.Whole enc Tryz.prog Tryz.f4.params.toList Rows.wrapSealsSpec.vars false W args.toList ds gs before) (hL:laidMetH Tryz.prog Rows.wrapSealsRow.laid W) :
  Calls Tryz.prog 4 args W fun e W'=>∃ v,e = .returned v/\Rows.wrapSealsSpec.post enc Tryz.prog Tryz.f4 false true false false W args v W':=by
 have hW':=hW
 obtain ⟨p,q,hA0,hV,rfl,hfz,hnd⟩:=hW
 have hA:DataW.TrodAll enc Tryz.prog W 0 (fun _=>true) true Tryz.f4.params.toList args.toList ds p:=hA0
 rw [Tryz.params4] at hA hval
 obtain ⟨x0,x1,x2,y0,y1,y2,p0,p1,p2,hargs,rfl,h0,h1,h2⟩:∃ x0 x1 x2 y0 y1 y2 p0 p1 p2,args.toList=[x0,x1,x2]/\ds=[y0,y1,y2]/\DataW.Trod enc Tryz.prog W 0 (fun _=>true) true 27 x0 y0 p0/\DataW.Trod enc Tryz.prog W 0 (fun _=>true) true 24 x1 y1 p1/\DataW.Trod enc Tryz.prog W 0 (fun _=>true) true 22 x2 y2 p2:=by
  obtain ⟨v0,vs0,d0,ds0,p0,q0,e0,f0,g0,r0,s0⟩:=trodAll_cons hA
  obtain ⟨v1,vs1,d1,ds1,p1,q1,e1,f1,g1,r1,s1⟩:=trodAll_cons s0
  obtain ⟨v2,vs2,d2,ds2,p2,q2,e2,f2,g2,r2,s2⟩:=trodAll_cons s1
  obtain ⟨ez,fz,gz⟩:=trodAll_nil s2
  exact ⟨v0,v1,v2,d0,d1,d2,p0,p1,p2,by rw [e0,e1,e2,ez],by rw [f0,f1,f2,fz],r0,r1,r2⟩
 obtain ⟨er,hG⟩:=gok hL
 have ha0:args[0]?=some x0:=by rw [←Array.getElem?_toList,hargs];rfl
 obtain ⟨c0,s0,r0⟩:=Eng.a86 Eng.f57 Eng.d10 (dz:=Eng.dzs) (dep:=2) (by rfl) (hval 0 27 x0 rfl ha0) h0 trivial
 obtain ⟨a0,rfl,ga0⟩:=Eng.b75 s0
 have ha1:args[1]?=some x1:=by rw [←Array.getElem?_toList,hargs];rfl
 obtain ⟨c1,s1,r1⟩:=Eng.a86 Eng.f57 Eng.d10 (dz:=Eng.dzs) (dep:=3) (by rfl) (hval 1 24 x1 rfl ha1) h1 trivial
 obtain ⟨a1,rfl,ga1⟩:=Eng.b76 s1
 have ha2:args[2]?=some x2:=by rw [←Array.getElem?_toList,hargs];rfl
 obtain ⟨c2,s2,r2⟩:=Eng.a86 Eng.f57 Eng.d10 (dz:=Eng.dzs) (dep:=2) (by rfl) (hval 2 22 x2 rfl ha2) h2 trivial
 obtain ⟨a2,rfl,ga2⟩:=Eng.b77 s2
 have hF:=(Eng.Xz (er:=er) (Eng.b74 a0 ga0 a1 ga1 a2 ga2)).plain
 refine Eng.h65 (gs:=gs) laidOut (fun t ht=>readable ht) rfl Tryz.underlying4 rfl ?_ hW' hF hG ?_
 ·obtain ⟨rfl,rfl⟩:=trodVars_none hV
  rfl
 ·rw [hargs]
  refine ⟨rfl,fun i h h' => ?_⟩
  match i,h,h' with
  |0,_,_=>exact r0 _ rfl
  |1,_,_=>exact r1 _ rfl
  |2,_,_=>exact r2 _ rfl
abbrev txt (l:List UInt8):ByteArray:=⟨⟨l⟩⟩
noncomputable def low:Nat:=(World.holding Tryz.prog default ⟨#[],#[],[]⟩).heap.size
noncomputable def laidWorld (os:Os):World :=
 let w0:=World.holding Tryz.prog os ⟨#[.cells #[.string (txt [102,101,108,108,111,119,115,104,105,112,58,32,114,97,110,103,101])] 211,.cells #[.string (txt [102,101,108,108,111,119,115,104,105,112,58,32,115,104,111,114,116])] 211,.cells #[.string (txt [102,101,108,108,111,119,115,104,105,112,58,32,108,111,110,103])] 211,.cells #[.string (txt [102,101,108,108,111,119,115,104,105,112,58,32,102,111,114,109])] 211,.cells #[.string (txt [102,101,108,108,111,119,115,104,105,112,58,32,107,101,121])] 211,.cells #[.string (txt [102,101,108,108,111,119,115,104,105,112,58,32,115,105,103,110])] 211,.cells #[.string (txt [102,101,108,108,111,119,115,104,105,112,58,32,115,101,97,108])] 211,.cells #[.string (txt [102,101,108,108,111,119,115,104,105,112,58,32,101,112,111,99,104])] 211,.cells #[.string (txt [102,101,108,108,111,119,115,104,105,112,58,32,103,114,111,117,112])] 211,.cells #[.string (txt [102,101,108,108,111,119,115,104,105,112,58,32,115,101,110,100,101,114])] 211,.cells #[.string (txt [102,101,108,108,111,119,115,104,105,112,58,32,108,101,97,102])] 211,.cells #[.string (txt [102,101,108,108,111,119,115,104,105,112,58,32,111,102,102,101,114])] 211,.cells #[.string (txt [102,101,108,108,111,119,115,104,105,112,58,32,112,97,116,104])] 211,.cells #[.string (txt [102,101,108,108,111,119,115,104,105,112,58,32,116,97,103])] 211,.cells #[.string (txt [102,101,108,108,111,119,115,104,105,112,58,32,110,111,110,101])] 211,.cells #[.string (txt [102,101,108,108,111,119,115,104,105,112,58,32,114,101,109,111,118,101,100])] 211,.cells #[.string (txt [102,101,108,108,111,119,115,104,105,112,58,32,102,117,108,108])] 211,.cells #[.string (txt [102,101,108,108,111,119,115,104,105,112,58,32,115,116,97,116,101])] 211,.cells #[.string (txt [102,101,108,108,111,119,115,104,105,112,58,32,116,119,105,99,101])] 211],#[],[]⟩
 {w0 with heap:=(((((((((((((((((((((w0.heap.modify 2 fun
   |.cells _ t frozen => .cells #[.iface 186 (.pointer (some ⟨low+0,0,none⟩))] t frozen
   |o=>o).modify 1 fun
   |.cells _ t frozen => .cells #[.iface 186 (.pointer (some ⟨low+1,0,none⟩))] t frozen
   |o=>o).modify 0 fun
   |.cells _ t frozen => .cells #[.iface 186 (.pointer (some ⟨low+2,0,none⟩))] t frozen
   |o=>o).modify 3 fun
   |.cells _ t frozen => .cells #[.iface 186 (.pointer (some ⟨low+3,0,none⟩))] t frozen
   |o=>o).modify 4 fun
   |.cells _ t frozen => .cells #[.iface 186 (.pointer (some ⟨low+4,0,none⟩))] t frozen
   |o=>o).modify 5 fun
   |.cells _ t frozen => .cells #[.iface 186 (.pointer (some ⟨low+5,0,none⟩))] t frozen
   |o=>o).modify 6 fun
   |.cells _ t frozen => .cells #[.iface 186 (.pointer (some ⟨low+6,0,none⟩))] t frozen
   |o=>o).modify 7 fun
   |.cells _ t frozen => .cells #[.iface 186 (.pointer (some ⟨low+7,0,none⟩))] t frozen
   |o=>o).modify 8 fun
   |.cells _ t frozen => .cells #[.iface 186 (.pointer (some ⟨low+8,0,none⟩))] t frozen
   |o=>o).modify 9 fun
   |.cells _ t frozen => .cells #[.iface 186 (.pointer (some ⟨low+9,0,none⟩))] t frozen
   |o=>o).modify 10 fun
   |.cells _ t frozen => .cells #[.iface 186 (.pointer (some ⟨low+10,0,none⟩))] t frozen
   |o=>o).modify 11 fun
   |.cells _ t frozen => .cells #[.iface 186 (.pointer (some ⟨low+11,0,none⟩))] t frozen
   |o=>o).modify 12 fun
   |.cells _ t frozen => .cells #[.iface 186 (.pointer (some ⟨low+12,0,none⟩))] t frozen
   |o=>o).modify 13 fun
   |.cells _ t frozen => .cells #[.iface 186 (.pointer (some ⟨low+13,0,none⟩))] t frozen
   |o=>o).modify 14 fun
   |.cells _ t frozen => .cells #[.iface 186 (.pointer (some ⟨low+14,0,none⟩))] t frozen
   |o=>o).modify 15 fun
   |.cells _ t frozen => .cells #[.iface 186 (.pointer (some ⟨low+15,0,none⟩))] t frozen
   |o=>o).modify 16 fun
   |.cells _ t frozen => .cells #[.iface 186 (.pointer (some ⟨low+16,0,none⟩))] t frozen
   |o=>o).modify 17 fun
   |.cells _ t frozen => .cells #[.iface 186 (.pointer (some ⟨low+17,0,none⟩))] t frozen
   |o=>o).modify 18 fun
   |.cells _ t frozen => .cells #[.iface 186 (.pointer (some ⟨low+18,0,none⟩))] t frozen
   |o=>o).modify 19 fun
   |.cells _ t frozen => .cells (Eng.E8.map (Value.int .u64)).toArray t frozen
   |o=>o).modify 20 fun
   |.cells _ t frozen => .cells (Eng.y5.map (Value.int .u32)).toArray t frozen
   |o=>o) }
noncomputable def wArgs:Array Value := #[.agg (List.replicate 32 (Value.int .u8 0)).toArray,.agg ([Value.slice none 0 0]++[Value.slice none 0 0]++[Value.slice none 0 0]).toArray,Value.slice none 0 0]
theorem laid_met (os:Os):laidMet Tryz.prog Rows.wrapSealsRow.laid ((laidWorld os).forCall (fun _ _=>0) ⟨#[],wArgs,[]⟩).memory :=
 laidMet_of_run' 8 (by kernel_rfl) (by kernel_rfl)
theorem reads (os:Os) {H:Type} (enc:TypeId×Value->H):∃ ds places,DataW.whole enc Tryz.prog ((laidWorld os).forCall (fun _ _=>0) ⟨#[],wArgs,[]⟩).memory Tryz.f4.params.toList Rows.wrapSealsSpec.vars false wArgs.toList 8=some (ds,[],places) :=
 ⟨[.agg (List.replicate 32 (.lit (.int .u8 0))),.agg [.nil,.nil,.nil],.nil],[],by kernel_rfl⟩
theorem lifted (os:Os) (started:os.Started) (H:Type) (enc:TypeId×Value->H) (F:Stop.Interp) :
  ReturnsInHanded {} Tryz.checked os 4 .any ((OpenSpec.ofChange Rows.wrapSealsSpec).preRow enc Tryz.prog Tryz.f4 Rows.wrapSealsRow.domain false Rows.wrapSealsRow.laid) (((OpenSpec.ofChange Rows.wrapSealsSpec).at F).post enc Tryz.prog Tryz.f4 false true false false):=by
 obtain ⟨ds,places,hx⟩:=reads os enc
 refine returnsInHanded_of_row (C:=Tryz.checked) (s:=OpenSpec.ofChange Rows.wrapSealsSpec) own started (by kernel_rfl) Tryz.func4
  (witness_row_at (enc:=enc) (C:=Tryz.checked) false (laidWorld os) wArgs rfl (by kernel_rfl) (by kernel_rfl) (by kernel_rfl)
   (OpenSpec.preRow_of_cond 8 hx (by kernel_rfl) (fun k hk=>by cases hk) (by kernel_rfl) (laid_met os))) ?_
 intro W base args ds gs before hval hW _ _ _ hL _ _
 exact contract H enc W base args ds gs before hval hW hL
theorem said:Rows.WrapSealsSaid :=
 OpenClaim.holds_of_cond 4 Tryz.f4 rfl rfl rfl rfl rfl rfl rfl ⟨rfl,rfl,rfl,rfl,rfl⟩ rfl rfl rfl rfl rfl (by kernel_rfl) Tryz.func4 (by kernel_rfl)
  (of_decide_eq_true (by kernel_rfl)) (by unfold Func.isWrapper;first|(rw [if_pos (by decide +kernel)];kernel_rfl)|(rw [if_neg (by decide +kernel)];exact ⟨rfl,rfl⟩))
  (fun os started H enc _ F=>by rw [OpenClaim.pre_eq_preRow];exact lifted os started H enc F)
theorem plain (f:FuncId) (fn:Func) (hf:Tryz.pinned.checked.prog.funcNamed "fellowship/fellowshiplaw15.WrapSeals" = some f) (hfn:Tryz.pinned.checked.prog.funcs[f]?=some fn) :
  true=Tryz.pinned.checked.prog.looks []/\∀ (j:Nat) t,fn.params[j]?=some t->Tryz.pinned.checked.prog.wantsStandIn t=false:=by
 obtain rfl:f=4:=Option.some.inj ((show Tryz.prog.funcNamed "fellowship/fellowshiplaw15.WrapSeals" = some 4 by kernel_rfl).symm.trans hf) |>.symm
 obtain rfl:fn=Tryz.f4:=(Option.some.inj (Tryz.func4.symm.trans hfn)).symm
 refine ⟨by kernel_rfl,fun j t ht => ?_⟩
 rw [Tryz.params4] at ht
 have ht:t∈([27,24,22]:List Nat):=by simpa using Array.mem_of_getElem? ht
 have:=List.all_eq_true.1 (by kernel_rfl:([27,24,22]:List Nat).all (fun t => !Tryz.prog.wantsStandIn t)=true) t ht
 show Tryz.prog.wantsStandIn t=false
 simpa using this
theorem card:Rows.WrapSealsCardSaid :=
 Claim7.holds_tied_plain_at .later [] _ _ _ _ said (fun _ h=>by cases h) (by kernel_rfl) (fun _ h=>by cases h) wrapSeals_row_tie rfl ⟨rfl,rfl⟩ (by kernel_rfl) rfl plain (by kernel_rfl)
#print axioms card
end Go.Proofs.YtonkmgaofdhbaaaGreatDoor
