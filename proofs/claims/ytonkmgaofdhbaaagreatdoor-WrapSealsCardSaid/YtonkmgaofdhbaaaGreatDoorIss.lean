/-
  Part of a proof: Iss.
-/
import Derived.Test.YtonkmgaofdhbaaaGreatDoorTabN
import Derived.Test.YtonkmgaofdhbaaaGreatDoorRows
import Derived.WalkKit
import Derived.LaidEql
import Derived.Stop.Asserts
import Derived.RowKitTokens
set_option linter.unusedVariables false
set_option linter.unusedSimpArgs false
namespace Go.Eng
set_option maxRecDepth 100000
set_option maxHeartbeats 2000000
open Go.Proofs Go.RowKit Go.Extern.Stop Go.Stop Go.Extern Go.Extern.Rtype
theorem d47 (v:Value) (w:World):(Extern.ReflectliteType.typeOf #[.iface 186 v]).run Tryz.prog w = .ok (.iface 136 (.agg #[.pointer (some ⟨21,186,none⟩)])) w:=by kernel_rfl
theorem Tz (w:World):((Extern.ReflectliteType.method fun t=>do noPackHeld "Comparable" t;(fun a=>Value.bool a.comparable) <$> typeInfo t) #[.agg #[.pointer (some ⟨21,186,none⟩)]]).run Tryz.prog w = .ok (.bool true) w:=by kernel_rfl
theorem Iw (v:Value) (w:World):(Go.method 323 136 v "Comparable").run Tryz.prog w = .ok (158,v) w:=by kernel_rfl
theorem h04:(Tryz.prog.info? 186).map (·.comparable)=some true:=by kernel_rfl
theorem h05:(Tryz.prog.info? 211).map (·.size)=some 1:=by kernel_rfl
theorem k34 (v:Value) (xT:TypeId) (w:World):(Instr.typeAssert (.iface 186 v) xT 138 true).run Tryz.prog w = .ok (.tuple #[.nilIface,.bool false]) w:=run_typeAssert_lacksB Tryz.underlying138 (by kernel_rfl) (by kernel_rfl) v xT w
theorem g38 (v:Value) (xT:TypeId) (w:World):(Instr.typeAssert (.iface 186 v) xT 141 true).run Tryz.prog w = .ok (.tuple #[.nilIface,.bool false]) w:=run_typeAssert_lacksB Tryz.underlying141 (by kernel_rfl) (by kernel_rfl) v xT w
theorem e94 (v:Value) (xT:TypeId) (w:World):(Instr.typeAssert (.iface 186 v) xT 143 true).run Tryz.prog w = .ok (.tuple #[.nilIface,.bool false]) w:=run_typeAssert_lacksB Tryz.underlying143 (by kernel_rfl) (by kernel_rfl) v xT w
theorem i49 (a:Addr) (w:World) :
  Calls Tryz.prog 34 #[.iface 186 (.pointer (some a)),.iface 186 (.pointer (some a))] w fun e w'=>e = .returned (.bool true)/\w'=w:=by
 obtain ⟨i,hi,hcmp⟩:=Option.map_eq_some_iff.1 h04
 obtain ⟨j,hj,hjs⟩:=Option.map_eq_some_iff.1 h05
 have h8 := @run_callFunc_extern Tryz.prog 53 _ Extern.ReflectliteType.typeOf Tryz.func53 (by kernel_rfl) (by kernel_rfl) (by kernel_rfl) (by kernel_rfl)
 have h32 := @run_callFunc_extern Tryz.prog 158 _ (Extern.ReflectliteType.method fun t=>do noPackHeld "Comparable" t;pure (.bool (←typeInfo t).comparable)) Tryz.func158 (by kernel_rfl) (by kernel_rfl) (by kernel_rfl) (by kernel_rfl)
 have tT:=d47
 have cT:=Tz
 have mR:=Iw
 have heq:=run_eql_iface_ptr_same (P:=Tryz.prog) w a Tryz.underlying31 Tryz.underlying186 hi hcmp hj
 go_enter Tryz.func34,Tryz.ntmps34
 go_wp2
 refine wp_loop_rounds 1 ?_
 rw [rounds_succ]
 go_wp2
 go_ret
 exact ⟨rfl,rfl⟩
theorem h06 (a b:Addr) (ca cb:Array Value) (ta tb:TypeId) (w:World) (hne:a≠b) (ha:w.heap[a.block]?=some (.cells ca ta (0,0))) (hb:w.heap[b.block]?=some (.cells cb tb (0,0))) :
  Calls Tryz.prog 34 #[.iface 186 (.pointer (some a)),.iface 186 (.pointer (some b))] w fun e w'=>e = .returned (.bool false)/\w'=w:=by
 obtain ⟨i,hi,hcmp⟩:=Option.map_eq_some_iff.1 h04
 obtain ⟨j,hj,hjs⟩:=Option.map_eq_some_iff.1 h05
 have h8 := @run_callFunc_extern Tryz.prog 53 _ Extern.ReflectliteType.typeOf Tryz.func53 (by kernel_rfl) (by kernel_rfl) (by kernel_rfl) (by kernel_rfl)
 have h32 := @run_callFunc_extern Tryz.prog 158 _ (Extern.ReflectliteType.method fun t=>do noPackHeld "Comparable" t;pure (.bool (←typeInfo t).comparable)) Tryz.func158 (by kernel_rfl) (by kernel_rfl) (by kernel_rfl) (by kernel_rfl)
 have tT:=d47
 have cT:=Tz
 have mR:=Iw
 have nE:=k34
 have uE:=g38
 have vE:=e94
 have heq:=run_eql_iface_ptr_other (P:=Tryz.prog) w Tryz.underlying31 Tryz.underlying186 hi hcmp hj (by rw [hjs];decide) hne ha hb
 go_enter Tryz.func34,Tryz.ntmps34
 go_wp2
 refine wp_loop_rounds 1 ?_
 rw [rounds_succ]
 go_wp2
 go_ret
 exact ⟨rfl,rfl⟩
theorem k35 {G:G1} {er:Nat->TypeId×Value} {I:List Nat} (hG:∀ fx,G.fact fx->f22 186 er I fx) (a b:Nat) (i9:Bool) (h:isM I a b=some i9) :
  Fn Tryz.prog G 34 [.dv (.sc (.iface (er a).1 (er a).2)),.dv (.sc (.iface (er b).1 (er b).2))] [] (.bl i9) []:=by
 obtain ⟨ha,hb,rfl⟩:=i69 h
 refine ⟨d91 Tryz.func34 rfl rfl,fun E H w vs hR hGk _ _ hvs => ?_⟩
 have hE:=hG _ hGk.2
 obtain ⟨aa,ca,ta,ea,fa⟩:=hE.1 a ha
 obtain ⟨ab,cb,tb,eb,fb⟩:=hE.1 b hb
 obtain ⟨v0,v1,rfl⟩:∃ v0 v1,vs=[v0,v1]:=by
  have:=hvs.1
  match vs,this with
  |[v0,v1],_=>exact ⟨v0,v1,rfl⟩
 have e0:=O8 (hvs.2 0 (by simp) (by simp))
 have e1:=O8 (hvs.2 1 (by simp) (by simp))
 simp only [List.getElem_cons_zero,List.getElem_cons_succ] at e0 e1
 subst e0;subst e1
 rw [ea,eb]
 by_cases hab:a=b
 ·subst hab
  rw [ea] at eb
  obtain rfl:aa=ab:=by injection eb with _ eb;injection eb with eb;injection eb
  refine (i49 aa w).mono fun e w' => ?_
  rintro ⟨rfl,rfl⟩
  exact ⟨_,E,rfl,.pure hR (by rw [decide_eq_true rfl];exact Nt _ _)⟩
 ·have hne:aa≠ab:=fun e=>hE.2 a b ha hb hab (by rw [ea,eb,e])
  refine (h06 aa ab ca cb ta tb w hne (hR.fx _ _ fa) (hR.fx _ _ fb)).mono fun e w' => ?_
  rintro ⟨rfl,rfl⟩
  exact ⟨_,E,rfl,.pure hR (by rw [decide_eq_false hab];exact Nt _ _)⟩
end Go.Eng
