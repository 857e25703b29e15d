/-
  Part of a proof: Iss.
-/
import Derived.Test.YtmgnanajcnnlgaaDoorTabN
import Derived.Test.YtmgnanajcnnlgaaDoorRows
import Derived.WalkKit
import Derived.LaidEql
import Derived.Stop.Asserts
import Derived.RowKitTokens
set_option linter.unusedVariables false
set_option linter.unusedSimpArgs false
namespace Go.Eng
set_option maxRecDepth 100000
set_option maxHeartbeats 2000000
open Go.Proofs Go.RowKit Go.Extern.Stop Go.Stop Go.Extern Go.Extern.Rtype
theorem isTypeOf (v : Value) (w : World) : (Extern.ReflectliteType.typeOf #[.iface 133 v]).run Tryd.prog w = .ok (.iface 98 (.agg #[.pointer (some ⟨21, 133, none⟩)])) w := by kernel_rfl
theorem isComparable (w : World) : ((Extern.ReflectliteType.method fun t => do noPackHeld "Comparable" t; (fun a => Value.bool a.comparable) <$> typeInfo t) #[.agg #[.pointer (some ⟨21, 133, none⟩)]]).run Tryd.prog w = .ok (.bool true) w := by kernel_rfl
theorem isMethodComparable (v : Value) (w : World) : (Go.method 270 98 v "Comparable").run Tryd.prog w = .ok (106, v) w := by kernel_rfl
theorem isComp : (Tryd.prog.info? 133).map (·.comparable) = some true := by kernel_rfl
theorem isSize : (Tryd.prog.info? 158).map (·.size) = some 1 := by kernel_rfl
theorem noIsE (v : Value) (xT : TypeId) (w : World) : (Instr.typeAssert (.iface 133 v) xT 100 true).run Tryd.prog w = .ok (.tuple #[.nilIface, .bool false]) w := run_typeAssert_lacksB Tryd.underlying100 (by kernel_rfl) (by kernel_rfl) v xT w
theorem noUnwrapE (v : Value) (xT : TypeId) (w : World) : (Instr.typeAssert (.iface 133 v) xT 103 true).run Tryd.prog w = .ok (.tuple #[.nilIface, .bool false]) w := run_typeAssert_lacksB Tryd.underlying103 (by kernel_rfl) (by kernel_rfl) v xT w
theorem noUnwrapsE (v : Value) (xT : TypeId) (w : World) : (Instr.typeAssert (.iface 133 v) xT 105 true).run Tryd.prog w = .ok (.tuple #[.nilIface, .bool false]) w := run_typeAssert_lacksB Tryd.underlying105 (by kernel_rfl) (by kernel_rfl) v xT w
theorem is_same (a : Addr) (w : World) :
  Calls Tryd.prog 25 #[.iface 133 (.pointer (some a)), .iface 133 (.pointer (some a))] w fun e w' => e = .returned (.bool true) /\ w' = w := by
 obtain ⟨i, hi, hcmp⟩ := Option.map_eq_some_iff.1 isComp
 obtain ⟨j, hj, hjs⟩ := Option.map_eq_some_iff.1 isSize
 have h8 := @run_callFunc_extern Tryd.prog 40 _ Extern.ReflectliteType.typeOf Tryd.func40 (by kernel_rfl) (by kernel_rfl) (by kernel_rfl) (by kernel_rfl)
 have h32 := @run_callFunc_extern Tryd.prog 106 _ (Extern.ReflectliteType.method fun t => do noPackHeld "Comparable" t; pure (.bool (← typeInfo t).comparable)) Tryd.func106 (by kernel_rfl) (by kernel_rfl) (by kernel_rfl) (by kernel_rfl)
 have tT := isTypeOf
 have cT := isComparable
 have mR := isMethodComparable
 have heq := run_eql_iface_ptr_same (P := Tryd.prog) w a Tryd.underlying33 Tryd.underlying133 hi hcmp hj
 go_enter Tryd.func25, Tryd.ntmps25
 go_wp2
 refine wp_loop_rounds 1 ?_
 rw [rounds_succ]
 go_wp2
 go_ret
 exact ⟨rfl, rfl⟩
theorem is_other (a b : Addr) (ca cb : Array Value) (ta tb : TypeId) (w : World) (hne : a ≠ b) (ha : w.heap[a.block]? = some (.cells ca ta (0, 0))) (hb : w.heap[b.block]? = some (.cells cb tb (0, 0))) :
  Calls Tryd.prog 25 #[.iface 133 (.pointer (some a)), .iface 133 (.pointer (some b))] w fun e w' => e = .returned (.bool false) /\ w' = w := by
 obtain ⟨i, hi, hcmp⟩ := Option.map_eq_some_iff.1 isComp
 obtain ⟨j, hj, hjs⟩ := Option.map_eq_some_iff.1 isSize
 have h8 := @run_callFunc_extern Tryd.prog 40 _ Extern.ReflectliteType.typeOf Tryd.func40 (by kernel_rfl) (by kernel_rfl) (by kernel_rfl) (by kernel_rfl)
 have h32 := @run_callFunc_extern Tryd.prog 106 _ (Extern.ReflectliteType.method fun t => do noPackHeld "Comparable" t; pure (.bool (← typeInfo t).comparable)) Tryd.func106 (by kernel_rfl) (by kernel_rfl) (by kernel_rfl) (by kernel_rfl)
 have tT := isTypeOf
 have cT := isComparable
 have mR := isMethodComparable
 have nE := noIsE
 have uE := noUnwrapE
 have vE := noUnwrapsE
 have heq := run_eql_iface_ptr_other (P := Tryd.prog) w Tryd.underlying33 Tryd.underlying133 hi hcmp hj (by rw [hjs]; decide) hne ha hb
 go_enter Tryd.func25, Tryd.ntmps25
 go_wp2
 refine wp_loop_rounds 1 ?_
 rw [rounds_succ]
 go_wp2
 go_ret
 exact ⟨rfl, rfl⟩
theorem is_fn {G : Glob} {er : Nat -> TypeId × Value} {I : List Nat} (hG : ∀ fx, G.fact fx -> ErrsOK 133 er I fx) (a b : Nat) (res : Bool) (h : isM I a b = some res) :
  Fn Tryd.prog G 25 [.dv (.sc (.iface (er a).1 (er a).2)), .dv (.sc (.iface (er b).1 (er b).2))] [] (.bl res) [] := by
 obtain ⟨ha, hb, rfl⟩ := isM_inv h
 refine ⟨callable_of Tryd.func25 rfl rfl, fun E H w vs hR hGk _ _ hvs => ?_⟩
 have hE := hG _ hGk.2
 obtain ⟨aa, ca, ta, ea, fa⟩ := hE.1 a ha
 obtain ⟨ab, cb, tb, eb, fb⟩ := hE.1 b hb
 obtain ⟨v0, v1, rfl⟩ : ∃ v0 v1, vs = [v0, v1] := by
  have := hvs.1
  match vs, this with
  | [v0, v1], _ => exact ⟨v0, v1, rfl⟩
 have e0 := rep_sc (hvs.2 0 (by simp) (by simp))
 have e1 := rep_sc (hvs.2 1 (by simp) (by simp))
 simp only [List.getElem_cons_zero, List.getElem_cons_succ] at e0 e1
 subst e0; subst e1
 rw [ea, eb]
 by_cases hab : a = b
 ·subst hab
  rw [ea] at eb
  obtain rfl : aa = ab := by injection eb with _ eb; injection eb with eb; injection eb
  refine (is_same aa w).mono fun e w' => ?_
  rintro ⟨rfl, rfl⟩
  exact ⟨_, E, rfl, .pure hR (by rw [decide_eq_true rfl]; exact bl_rep _ _)⟩
 ·have hne : aa ≠ ab := fun e => hE.2 a b ha hb hab (by rw [ea, eb, e])
  refine (is_other aa ab ca cb ta tb w hne (hR.fx _ _ fa) (hR.fx _ _ fb)).mono fun e w' => ?_
  rintro ⟨rfl, rfl⟩
  exact ⟨_, E, rfl, .pure hR (by rw [decide_eq_false hab]; exact bl_rep _ _)⟩
end Go.Eng
