/-
  Part of a proof: SealP7.
-/
import Derived.Test.YtedebbmgijcpfaaDoorSealP6
set_option linter.unusedVariables false
set_option linter.unusedSimpArgs false
namespace Go.Eng
set_option maxRecDepth 100000
set_option maxHeartbeats 1000000
theorem Open_Seal {k n w p : List Int} (hk : k.length = 32) (hn : n.length = 12) (hw : w.length ≤ 16384) (hp : p.length ≤ 16384) (hb : byt p) :
  seal_Open k n w (turnS k n 1 p ++ tagL k n w (turnS k n 1 p)) = some (.inl p) := by
 have hl := turnS_len hk hn (c := 1) (b := p) (by omega)
 obtain ⟨_, h2, h3⟩ := tag_is hk hn hw (t := turnS k n 1 p) (by omega)
 have hlen : (turnS k n 1 p ++ tagL k n w (turnS k n 1 p)).length = p.length + 16 := by rw [List.length_append]; omega
 have hbs : byt (turnS k n 1 p ++ tagL k n w (turnS k n 1 p)) := fun y hy => by
  rcases List.mem_append.1 hy with hy | hy
  ·exact turnL_byt _ _ _ y hy
  ·exact h3 y hy
 rw [Open_is hk hn hw (by omega) (by omega) hbs, hlen, show p.length + 16 - 16 = (turnS k n 1 p).length from by omega, List.drop_left, List.take_left, if_pos rfl]
 unfold turnS
 rw [turnL_turnL hk hn _ _ _ (by omega) hb]
theorem alive_is : fl08_alive = some true := by
 unfold fl08_alive
 have hk : (List.set (List.replicate 32 (0 : Int)) 0 1).length = 32 := rfl
 have hn : (List.replicate 12 (0 : Int)).length = 12 := rfl
 generalize (List.set (List.replicate 32 (0 : Int)) 0 1) = K at hk
 generalize (List.replicate 12 (0 : Int)) = N at hn
 have hb : byt [116, 101, 120, 116] := fun y hy => by
  simp only [List.mem_cons, List.not_mem_nil, or_false] at hy
  omega
 have l1 := turnS_len hk hn (c := 1) (b := []) (by simp)
 have l2 := turnS_len hk hn (c := 1) (b := [116, 101, 120, 116]) (by simp)
 have t1 := (tag_is hk hn (w := []) (t := turnS K N 1 []) (by simp) (by rw [l1]; simp)).2.1
 have t2 := (tag_is hk hn (w := [119]) (t := turnS K N 1 [116, 101, 120, 116]) (by simp) (by rw [l2]; simp)).2.1
 rw [Seal_is hk hn (by simp) (by simp), Option.bind_some]
 dsimp only
 rw [Seal_is hk hn (by simp) (by simp), Option.bind_some]
 dsimp only
 rw [cond_ff (by rw [List.length_append, l1, t1]; rfl), cond_ff (by rw [List.length_append, l2, t2]; rfl), Open_Seal hk hn (by simp) (by simp) hb, Option.bind_some]
 rfl
theorem Open_long {k n w s : List Int} (hn : n.length = 12) (hw : w.length ≤ 16384) (hs : 16400 < s.length) (hs2 : s.length ≤ 1000000) : seal_Open k n w s = some (.inr 3) := by
 have e16 : IntKind.wrap .i64 ((s.length : Int) - 16) = ((s.length - 16 : Nat) : Int) := by rw [wrap_i64 (by omega) (by omega)]; omega
 unfold seal_Open
 simp only [nm_eq, e16]
 rw [cond_ff (by simp [hn]), cond_ff (by simp <;> omega), cond_ff (by simp <;> omega), cond_tt (by simp <;> omega)]
theorem Num4 : fnum_Num_2 4 = some 4 := by kernel_rfl
theorem Num2 : fnum_Num_2 2 = some 2 := by kernel_rfl
theorem Num3 : fnum_Num_2 3 = some 3 := by kernel_rfl
theorem Num7 : fnum_Num_2 7 = some 7 := by kernel_rfl
end Go.Eng
