/-
  Part of a proof: KemP0.
-/
import Derived.Test.YtmgnanajcnnlgaaDoorKemM
import Derived.KernelRfl
set_option linter.unusedVariables false
set_option linter.unusedSimpArgs false
namespace Go.Eng
set_option maxRecDepth 100000
set_option maxHeartbeats 1000000
theorem wrap_i64 {n : Int} (h1 : -9223372036854775808 ≤ n) (h2 : n ≤ 9223372036854775807) : IntKind.i64.wrap n = n := by
 unfold IntKind.wrap; simp [IntKind.bits, IntKind.signed]; omega
theorem nm_eq {α β : Type} (a : α) (f : α -> β) : nm a f = f a := rfl
theorem cond_tt {α : Type} {b : Bool} {x y : α} (h : b = true) : cond b x y = x := by rw [h]; rfl
theorem cond_ff {α : Type} {b : Bool} {x y : α} (h : b = false) : cond b x y = y := by rw [h]; rfl
theorem FUEL_pos (n : Nat) (h : n < 18446744073709551616) : ∃ m, FUEL = m + 1 /\ n ≤ m := ⟨18446744073709551615, rfl, by omega⟩
end Go.Eng
