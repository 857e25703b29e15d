/-
  Part of a proof: KemR5.
-/
import Derived.Test.YtmgnanajcnnlgaaDoorKemR4
set_option linter.unusedVariables false
set_option linter.unusedSimpArgs false
namespace Go.Eng
set_option maxRecDepth 100000
set_option maxHeartbeats 400000
abbrev PM2 : Nat := 57896044618658097711785492504343953926634992332820282019728792003956564819947
theorem Invert_some {a : T_field_Elem} (ha : EOk a) : ∃ r, field_Elem_Invert a = some r /\ EOk r /\ res r = powP (res a) PM2 := by
 obtain ⟨r0, r1⟩ := res_range a
 have h1 : IsP (res a) 1 a := ⟨ha, (powP_one r0 r1).symm⟩
 unfold field_Elem_Invert field_Elem_power
 obtain ⟨a2, e, h2⟩ := Square_pow h1; rw [e, Option.bind_some]
 obtain ⟨b1, e, k1⟩ := squares_pow 2 (by decide) (by decide) h2; rw [show (2 : Int) = ((2 : Nat) : Int) from rfl, e, Option.bind_some]
 obtain ⟨b2, e, k2⟩ := Times_pow k1 h1; rw [e, Option.bind_some]
 obtain ⟨b3, e, k3⟩ := Times_pow k2 h2; rw [e, Option.bind_some]
 obtain ⟨b4, e, k4⟩ := Square_pow k3; rw [e, Option.bind_some]
 obtain ⟨b5, e, k5⟩ := Times_pow k4 k2; rw [e, Option.bind_some]
 obtain ⟨b6, e, k6⟩ := squares_pow 5 (by decide) (by decide) k5; rw [show (5 : Int) = ((5 : Nat) : Int) from rfl, e, Option.bind_some]
 obtain ⟨b7, e, k7⟩ := Times_pow k6 k5; rw [e, Option.bind_some]
 obtain ⟨b8, e, k8⟩ := squares_pow 10 (by decide) (by decide) k7; rw [show (10 : Int) = ((10 : Nat) : Int) from rfl, e, Option.bind_some]
 obtain ⟨b9, e, k9⟩ := Times_pow k8 k7; rw [e, Option.bind_some]
 obtain ⟨c1, e, l1⟩ := squares_pow 20 (by decide) (by decide) k9; rw [show (20 : Int) = ((20 : Nat) : Int) from rfl, e, Option.bind_some]
 obtain ⟨c2, e, l2⟩ := Times_pow l1 k9; rw [e, Option.bind_some]
 obtain ⟨c3, e, l3⟩ := squares_pow 10 (by decide) (by decide) l2; rw [e, Option.bind_some]
 obtain ⟨c4, e, l4⟩ := Times_pow l3 k7; rw [e, Option.bind_some]
 obtain ⟨c5, e, l5⟩ := squares_pow 50 (by decide) (by decide) l4; rw [show (50 : Int) = ((50 : Nat) : Int) from rfl, e, Option.bind_some]
 obtain ⟨c6, e, l6⟩ := Times_pow l5 l4; rw [e, Option.bind_some]
 obtain ⟨c7, e, l7⟩ := squares_pow 100 (by decide) (by decide) l6; rw [show (100 : Int) = ((100 : Nat) : Int) from rfl, e, Option.bind_some]
 obtain ⟨c8, e, l8⟩ := Times_pow l7 l6; rw [e, Option.bind_some]
 obtain ⟨c9, e, l9⟩ := squares_pow 50 (by decide) (by decide) l8; rw [e, Option.bind_some]
 obtain ⟨d1, e, m1⟩ := Times_pow l9 l4; rw [e, Option.bind_some]
 obtain ⟨d2, e, m2⟩ := squares_pow 5 (by decide) (by decide) m1
 simp only [Option.bind_some]
 rw [e, Option.bind_some]
 obtain ⟨d3, e, m3⟩ := Times_pow m2 k3; rw [e, Option.bind_some]
 refine ⟨d3, rfl, m3.ok, ?_⟩
 rw [m3.val]
end Go.Eng
