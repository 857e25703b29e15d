/-
  Part of a proof: SelQ1.
-/
import Derived.Test.YtedebbmgijcpfaaDoorSelO4
import Derived.Test.YtedebbmgijcpfaaDoorSelP6
import Derived.Test.YtedebbmgijcpfaaDoorSealP7
set_option linter.unusedVariables false
set_option linter.unusedSimpArgs false
set_option linter.unusedVariables false
set_option linter.unusedSimpArgs false
namespace Go.Eng
set_option maxRecDepth 100000
set_option maxHeartbeats 1000000
theorem byt_zl {l : List Int} (h : byt l) : ∃ m, l = zl m /\ m.length = l.length /\ Dig m := by
 obtain ⟨m, h1, h2, h3⟩ := lim_zl (n := 256) (lim_of h)
 exact ⟨m, h1, h2, h3⟩
theorem byt_app {a b : List Int} (ha : byt a) (hb : byt b) : byt (a ++ b) := fun y hy => by
 rcases List.mem_append.1 hy with hy | hy
 ·exact ha y hy
 ·exact hb y hy
theorem onceL_eq {k n : List Int} (hk : k.length = 32) (hn : n.length = 12) : onceL k n = (blockL k 0 n).take 32 := by
 have h := (Block_is 0 hk hn).2
 unfold onceL over
 rw [List.take_length, List.take_zero, List.nil_append, Nat.zero_add, List.length_take, h, List.drop_replicate]
 exact List.append_nil _
theorem once_byt {k n : List Int} (hk : k.length = 32) (hn : n.length = 12) (kb : byt k) (nb : byt n) : byt (onceL k n) := by
 rw [onceL_eq hk hn]
 exact fun y hy => Block_byt 0 hk hn kb nb y (List.mem_of_mem_take hy)
theorem fill_byt (b : List Int) : byt (fillL b) := fun y hy => by
 unfold fillL at hy; rw [List.eq_of_mem_replicate hy]; omega
theorem count_byt (b : List Int) : byt (countL b) := fun y hy => by
 have hw : ∀ z : Int, 0 ≤ IntKind.wrap .u8 z /\ IntKind.wrap .u8 z < 256 := fun z => by rw [wrap_u8]; omega
 unfold countL at hy
 rw [Put_is] at hy
 simp only [List.mem_cons, List.not_mem_nil, or_false] at hy
 rcases hy with rfl | rfl | rfl | rfl | rfl | rfl | rfl | rfl <;> exact hw _
theorem msg_byt {w t : List Int} (hw : byt w) (ht : byt t) : byt (msgL w t) := byt_app (byt_app (byt_app (byt_app (byt_app hw (fill_byt w)) ht) (fill_byt t)) (count_byt w)) (count_byt t)
theorem code_ref {k n w t : List Int} (hk : k.length = 32) (hn : n.length = 12) (kb : byt k) (nb : byt n) (wb : byt w) (tb : byt t) (hw : w.length ≤ 16384) (ht : t.length ≤ 16384) : fr08_code k n w t = some (tagL k n w t) := by
 have hm := msg_len (w := w) (t := t)
 obtain ⟨kn, e1, l1, d1⟩ := byt_zl (once_byt hk hn kb nb)
 obtain ⟨mn, e2, l2, d2⟩ := byt_zl (msg_byt wb tb)
 have hk1 : kn.length = 32 := by rw [l1]; exact once_len hk hn
 have hmac : tagL k n w t = zl (macN kn mn) := by
  unfold tagL
  rw [e1, e2, macM_is hk1 d1 d2 (by omega)]; rfl
 have hsum : fr07_Sum (onceL k n) (msgL w t) = some (tagL k n w t) := by
  rw [hmac, e1, e2]; exact Sum_ref hk1 d1 d2 (by omega)
 have f1 := (filled_is (b := w)).2
 have f2 := (filled_is (b := t)).2
 have g1 := (count_is w).2
 have g2 := (count_is t).2
 have hcat : ((w ++ fillL w) ++ (t ++ fillL t)) ++ countL w ++ countL t = msgL w t := by
  unfold msgL; simp only [List.append_assoc]
 unfold fr08_code
 rw [Block_ref 0 hk hn kb nb, Option.bind_some, once_is hk hn, Option.bind_some, fill_is (by omega), Option.bind_some, fill_is (by omega), Option.bind_some, if_pos (by simp only [List.length_append]; omega), Little_is, Option.bind_some, if_pos (by simp only [List.length_append]; omega), Little_is, Option.bind_some, if_pos (by simp only [List.length_append]; omega), hcat, hsum]
 rfl
theorem turnS_byt (k n : List Int) (c : Int) (b : List Int) : byt (turnS k n c b) := turnL_byt _ _ _
theorem Seal_ref {k n w p : List Int} (hk : k.length = 32) (hn : n.length = 12) (kb : byt k) (nb : byt n) (wb : byt w) (pb : byt p) (hw : w.length ≤ 16384) (hp : p.length ≤ 16384) :
  fr08_Seal k n w p = some (0, turnS k n 1 p ++ tagL k n w (turnS k n 1 p)) := by
 have hl := turnS_len hk hn (c := 1) (b := p) (by omega)
 obtain ⟨_, h2, h3⟩ := tag_is hk hn hw (t := turnS k n 1 p) (by omega)
 unfold fr08_Seal
 rw [cond_ff (by simp [hn]), cond_ff (by simp <;> omega), cond_ff (by simp <;> omega), Turn_ref hk hn kb nb (by omega), Option.bind_some, code_ref hk hn kb nb wb (turnS_byt _ _ _ _) hw (by omega), Option.bind_some, List.take_of_length_le (by omega), if_pos (by rw [hl, h2]; omega)]
end Go.Eng
