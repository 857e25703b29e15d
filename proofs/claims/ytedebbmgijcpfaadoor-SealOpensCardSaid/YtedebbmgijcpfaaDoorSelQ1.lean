/-
  Part of a proof: SelQ1.
-/
import Derived.Test.YtedebbmgijcpfaaDoorSelO4
import Derived.Test.YtedebbmgijcpfaaDoorSelP6
import Derived.Test.YtedebbmgijcpfaaDoorSealP7
set_option linter.unusedVariables false
set_option linter.unusedSimpArgs false
set_option linter.unusedVariables false
set_option linter.unusedSimpArgs false
namespace Go.Eng
set_option maxRecDepth 100000
set_option maxHeartbeats 1000000
theorem byt_zl {l : List Int} (h : byt l) : ∃ m, l = zl m /\ m.length = l.length /\ Dig m := by
 obtain ⟨m, h1, h2, h3⟩ := lim_zl (n := 256) (lim_of h)
 exact ⟨m, h1, h2, h3⟩
theorem byt_app {a b : List Int} (ha : byt a) (hb : byt b) : byt (a ++ b) := fun y hy => by
 rcases List.mem_append.1 hy with hy | hy
 ·exact ha y hy
 ·exact hb y hy
theorem onceL_eq {k n : List Int} (hk : k.length = 32) (hn : n.length = 12) : onceL k n = (blockL k 0 n).take 32 := by
 have h := (Block_is 0 hk hn).2
 unfold onceL over
 rw [List.take_length, List.take_zero, List.nil_append, Nat.zero_add, List.length_take, h, List.drop_replicate]
 exact List.append_nil _
theorem once_byt {k n : List Int} (hk : k.length = 32) (hn : n.length = 12) (kb : byt k) (nb : byt n) : byt (onceL k n) := by
 rw [onceL_eq hk hn]
 exact fun y hy => Block_byt 0 hk hn kb nb y (List.mem_of_mem_take hy)
theorem fill_byt (b : List Int) : byt (fillL b) := fun y hy => by
 unfold fillL at hy; rw [List.eq_of_mem_replicate hy]; omega
theorem count_byt (b : List Int) : byt (countL b) := fun y hy => by
 have hw : ∀ z : Int, 0 ≤ IntKind.wrap .u8 z /\ IntKind.wrap .u8 z < 256 := fun z => by rw [wrap_u8]; omega
 unfold countL at hy
 rw [Put_is] at hy
 simp only [List.mem_cons, List.not_mem_nil, or_false] at hy
 rcases hy with rfl | rfl | rfl | rfl | rfl | rfl | rfl | rfl <;> exact hw _
theorem msg_byt {w t : List Int} (hw : byt w) (ht : byt t) : byt (msgL w t) := byt_app (byt_app (byt_app (byt_app (byt_app hw (fill_byt w)) ht) (fill_byt t)) (count_byt w)) (count_byt t)
theorem code_ref {k n w t : List Int} (hk : k.length = 32) (hn : n.length = 12) (kb : byt k) (nb : byt n) (wb : byt w) (tb : byt t) (hw : w.length ≤ 16384) (ht : t.length ≤ 16384) : fr08_code k n w t = some (tagL k n w t) := by
 have hm := msg_len (w := w) (t := t)
 obtain ⟨kn, e1, l1, d1⟩ := byt_zl (once_byt hk hn kb nb)
 obtain ⟨mn, e2, l2, d2⟩ := byt_zl (msg_byt wb tb)
 have hk1 : kn.length = 32 := by rw [l1]; exact once_len hk hn
 have hmac : tagL k n w t = zl (macN kn mn) := by
  unfold tagL
  rw [e1, e2, macM_is hk1 d1 d2 (by omega)]; rfl
 have hsum : fr07_Sum (onceL k n) (msgL w t) = some (tagL k n w t) := by
  rw [hmac, e1, e2]; exact Sum_ref hk1 d1 d2 (by omega)
 have f1 := (filled_is (b := w)).2
 have f2 := (filled_is (b := t)).2
 have g1 := (count_is w).2
 have g2 := (count_is t).2
 have hcat : ((w ++ fillL w) ++ (t ++ fillL t)) ++ countL w ++ countL t = msgL w t := by
  unfold msgL; simp only [List.append_assoc]
 unfold fr08_code
 rw [Block_ref 0 hk hn kb nb, Option.bind_some, once_is hk hn, Option.bind_some, fill_is (by omega), Option.bind_some, fill_is (by omega), Option.bind_some, if_pos (by simp only [List.length_append]; omega), Little_is, Option.bind_some, if_pos (by simp only [List.length_append]; omega), Little_is, Option.bind_some, if_pos (by simp only [List.length_append]; omega), hcat, hsum]
 rfl
theorem map_byt : ∀ {a b : List Int}, byt a -> byt b -> ((List.map (fun q : Int => UInt8.ofNat q.toNat) a == List.map (fun q : Int => UInt8.ofNat q.toNat) b) = decide (a = b)) := by
 intro a b ha hb
 by_cases h : a = b
 ·subst h; simp
 ·rw [decide_eq_false h, beq_eq_false_iff_ne]
  intro e
  apply h
  clear h
  induction a generalizing b with
  | nil => cases b with
   | nil => rfl
   | cons y ys => cases e
  | cons x xs ih =>
   cases b with
   | nil => cases e
   | cons y ys =>
    have hx := ha x (List.mem_cons_self ..)
    have hy := hb y (List.mem_cons_self ..)
    simp only [List.map_cons, List.cons.injEq] at e
    have := congrArg UInt8.toNat e.1
    rw [UInt8.toNat_ofNat', UInt8.toNat_ofNat'] at this
    have hxy : x = y := by omega
    rw [hxy, ih (fun z hz => ha z (List.mem_cons_of_mem _ hz)) (fun z hz => hb z (List.mem_cons_of_mem _ hz)) e.2]
theorem Open_ref {k n w s : List Int} (hk : k.length = 32) (hn : n.length = 12) (kb : byt k) (nb : byt n) (wb : byt w) (sb : byt s) (hw : w.length ≤ 16384) (hs : 16 ≤ s.length) (hs2 : s.length ≤ 16400) :
  fr08_Open k n w s = some (if s.drop (s.length - 16) = tagL k n w (s.take (s.length - 16)) then (0, turnS k n 1 (s.take (s.length - 16))) else (7, [])) := by
 have e16 : IntKind.wrap .i64 ((s.length : Int) - 16) = ((s.length - 16 : Nat) : Int) := by rw [wrap_i64 (by omega) (by omega)]; omega
 have htl : (s.take (s.length - 16)).length = s.length - 16 := by rw [List.length_take]; omega
 have tb : byt (s.take (s.length - 16)) := fun y hy => sb y (List.mem_of_mem_take hy)
 obtain ⟨h1, h2, h3⟩ := tag_is hk hn hw (t := s.take (s.length - 16)) (by omega)
 have e0 : ((((s.length - 16 : Nat) : Int) - 0).toNat) = s.length - 16 := by omega
 have e1 : (((s.length : Int) - ((s.length - 16 : Nat) : Int)).toNat) = 16 := by omega
 have hd : List.take 16 (List.drop (s.length - 16) s) = s.drop (s.length - 16) := List.take_of_length_le (by rw [List.length_drop]; omega)
 unfold fr08_Open
 rw [e16, cond_ff (by simp [hn]), cond_ff (by simp <;> omega), cond_ff (by simp <;> omega), cond_ff (by simp <;> omega), if_pos (by omega), if_pos (by omega), nm_eq, e0, code_ref hk hn kb nb wb tb hw (by omega), Option.bind_some, nm_eq, if_pos ⟨by omega, by omega⟩, nm_eq, e1, Int.toNat_natCast, hd, List.take_of_length_le (by omega), map_byt h3 (fun y hy => sb y (List.mem_of_mem_drop hy)), nm_eq]
 by_cases ht : s.drop (s.length - 16) = tagL k n w (s.take (s.length - 16))
 ·rw [if_pos ht, decide_eq_true ht.symm, cond_ff (by rfl), if_pos (by omega), if_pos (by omega), nm_eq, Turn_ref hk hn kb nb (by omega)]; rfl
 ·rw [if_neg ht, decide_eq_false (fun e => ht e.symm)]; rfl
end Go.Eng
