/-
  Part of a proof: SelP5.
-/
import Derived.Test.YtedebbmgijcpfaaDoorSelP4
import Derived.Test.YtedebbmgijcpfaaDoorSealP4
set_option linter.unusedVariables false
set_option linter.unusedSimpArgs false
set_option linter.unusedVariables false
set_option linter.unusedSimpArgs false
namespace Go.Eng
open Go.Proofs
set_option maxRecDepth 100000
set_option maxHeartbeats 1000000
theorem outL_byt : ∀ x s : List Int, byt (outL x s)
 | [], _ => fun y hy => by cases hy
 | _ :: _, [] => fun y hy => by cases hy
 | x :: xs, s :: ss => fun y hy => by
  have hw : ∀ z : Int, 0 ≤ IntKind.wrap .u8 z /\ IntKind.wrap .u8 z < 256 := fun z => by rw [wrap_u8]; omega
  rcases List.mem_append.1 hy with hy | hy
  ·simp only [by4, List.mem_cons, List.not_mem_nil, or_false] at hy
   rcases hy with rfl | rfl | rfl | rfl <;> exact hw _
  ·exact outL_byt xs ss y hy
theorem Block_both {k n : List Int} (c : Int) (hk : k.length = 32) (hn : n.length = 12) (kb : byt k) (nb : byt n) : ∃ b, stream_Block k c n = some (.inl b) /\ fr06_Block k c n = some b /\ byt b := by
 obtain ⟨k0, k1, k2, k3, k4, k5, k6, k7, k8, k9, k10, k11, k12, k13, k14, k15, k16, k17, k18, k19, k20, k21, k22, k23, k24, k25, k26, k27, k28, k29, k30, k31, rfl⟩ := list32 hk
 obtain ⟨n0, n1, n2, n3, n4, n5, n6, n7, n8, n9, n10, n11, rfl⟩ := list12 hn
 have q : ∀ a b d e, a ∈ [k0, k1, k2, k3, k4, k5, k6, k7, k8, k9, k10, k11, k12, k13, k14, k15, k16, k17, k18, k19, k20, k21, k22, k23, k24, k25, k26, k27, k28, k29, k30, k31] -> b ∈ [k0, k1, k2, k3, k4, k5, k6, k7, k8, k9, k10, k11, k12, k13, k14, k15, k16, k17, k18, k19, k20, k21, k22, k23, k24, k25, k26, k27, k28, k29, k30, k31] -> d ∈ [k0, k1, k2, k3, k4, k5, k6, k7, k8, k9, k10, k11, k12, k13, k14, k15, k16, k17, k18, k19, k20, k21, k22, k23, k24, k25, k26, k27, k28, k29, k30, k31] -> e ∈ [k0, k1, k2, k3, k4, k5, k6, k7, k8, k9, k10, k11, k12, k13, k14, k15, k16, k17, k18, k19, k20, k21, k22, k23, k24, k25, k26, k27, k28, k29, k30, k31] -> orW a b d e = suW a b d e :=
  fun a b d e h1 h2 h3 h4 => orW_eq (kb _ h1) (kb _ h2) (kb _ h3) (kb _ h4)
 have r : ∀ a b d e, a ∈ [n0, n1, n2, n3, n4, n5, n6, n7, n8, n9, n10, n11] -> b ∈ [n0, n1, n2, n3, n4, n5, n6, n7, n8, n9, n10, n11] -> d ∈ [n0, n1, n2, n3, n4, n5, n6, n7, n8, n9, n10, n11] -> e ∈ [n0, n1, n2, n3, n4, n5, n6, n7, n8, n9, n10, n11] -> orW a b d e = suW a b d e :=
  fun a b d e h1 h2 h3 h4 => orW_eq (nb _ h1) (nb _ h2) (nb _ h3) (nb _ h4)
 have hb := begin_is c k0 k1 k2 k3 k4 k5 k6 k7 k8 k9 k10 k11 k12 k13 k14 k15 k16 k17 k18 k19 k20 k21 k22 k23 k24 k25 k26 k27 k28 k29 k30 k31 n0 n1 n2 n3 n4 n5 n6 n7 n8 n9 n10 n11
 rw [q k0 k1 k2 k3 (by simp) (by simp) (by simp) (by simp), q k4 k5 k6 k7 (by simp) (by simp) (by simp) (by simp), q k8 k9 k10 k11 (by simp) (by simp) (by simp) (by simp), q k12 k13 k14 k15 (by simp) (by simp) (by simp) (by simp), q k16 k17 k18 k19 (by simp) (by simp) (by simp) (by simp), q k20 k21 k22 k23 (by simp) (by simp) (by simp) (by simp), q k24 k25 k26 k27 (by simp) (by simp) (by simp) (by simp), q k28 k29 k30 k31 (by simp) (by simp) (by simp) (by simp), r n0 n1 n2 n3 (by simp) (by simp) (by simp) (by simp), r n4 n5 n6 n7 (by simp) (by simp) (by simp) (by simp), r n8 n9 n10 n11 (by simp) (by simp) (by simp) (by simp)] at hb
 have hw := words_is k0 k1 k2 k3 k4 k5 k6 k7 k8 k9 k10 k11 k12 k13 k14 k15 k16 k17 k18 k19 k20 k21 k22 k23 k24 k25 k26 k27 k28 k29 k30 k31
 generalize hs : ([1634760805, 857760878, 2036477234, 1797285236, suW k0 k1 k2 k3, suW k4 k5 k6 k7, suW k8 k9 k10 k11, suW k12 k13 k14 k15, suW k16 k17 k18 k19, suW k20 k21 k22 k23, suW k24 k25 k26 k27, suW k28 k29 k30 k31] : List Int) = s at hw
 have hsl : s.length = 12 := by rw [← hs]; rfl
 have hb' : stream_begin [k0, k1, k2, k3, k4, k5, k6, k7, k8, k9, k10, k11, k12, k13, k14, k15, k16, k17, k18, k19, k20, k21, k22, k23, k24, k25, k26, k27, k28, k29, k30, k31] c [n0, n1, n2, n3, n4, n5, n6, n7, n8, n9, n10, n11] = some (s ++ [c, suW n0 n1 n2 n3, suW n4 n5 n6 n7, suW n8 n9 n10 n11]) := by rw [hb, ← hs]; rfl
 have hl : (s ++ [c, suW n0 n1 n2 n3, suW n4 n5 n6 n7, suW n8 n9 n10 n11]).length = 16 := by simp [hsl]
 refine ⟨outL (dblN 10 (s ++ [c, suW n0 n1 n2 n3, suW n4 n5 n6 n7, suW n8 n9 n10 n11])) (s ++ [c, suW n0 n1 n2 n3, suW n4 n5 n6 n7, suW n8 n9 n10 n11]), ?_, ?_, outL_byt _ _⟩
 ·unfold stream_Block
  rw [cond_ff (by rfl), hb', Option.bind_some, double_is hl, Option.bind_some]
  exact pro_rounds _ hl 9 FUEL 1 _ (by omega) (by decide) (dbl_len hl)
 ·unfold fr06_Block
  rw [hw, Option.bind_some, word_0, Option.bind_some, word_1, Option.bind_some, word_2, Option.bind_some, if_pos (by simp [hsl]), if_pos (by simp [hsl]), List.nil_append]
  have h10 := ref_rounds (c := c) (a := suW n0 n1 n2 n3) (b := suW n4 n5 n6 n7) (d := suW n8 n9 n10 n11) hsl 10 FUEL 0 _ (by omega) (by decide) hl
  rw [show ((0 : Nat) : Int) = 0 from rfl] at h10
  rw [h10, Option.bind_some, ref_out hsl (dblN_len 10 hl), Option.bind_some]
theorem Block_ref {k n : List Int} (c : Int) (hk : k.length = 32) (hn : n.length = 12) (kb : byt k) (nb : byt n) : fr06_Block k c n = some (blockL k c n) := by
 obtain ⟨b, h1, h2, _⟩ := Block_both c hk hn kb nb
 rw [h2]; unfold blockL; rw [h1]
theorem Block_byt {k n : List Int} (c : Int) (hk : k.length = 32) (hn : n.length = 12) (kb : byt k) (nb : byt n) : byt (blockL k c n) := by
 obtain ⟨b, h1, h2, h3⟩ := Block_both c hk hn kb nb
 unfold blockL; rw [h1]; exact h3
theorem turnL_get {k n : List Int} (hk : k.length = 32) (hn : n.length = 12) : ∀ (m : Nat) (c j : Nat) (b : List Int) (i : Nat), c = 1 + j -> j + m < 4000000 -> b.length ≤ 64 * m -> i < b.length ->
  (turnL k n m (c : Int) b).getD i 0 = xr (b.getD i 0) ((blockL k ((c + i / 64 : Nat) : Int) n).getD (i % 64) 0)
 | 0, c, j, b, i, _, _, h, h' => by omega
 | m + 1, c, j, b, i, hc, hj, h, h' => by
  have hbl := (Block_is (c : Int) hk hn).2
  show (xorL (b.take 64) (blockL k c n) ++ turnL k n m (IntKind.wrap .u32 ((c : Int) + 1)) (b.drop 64)).getD i 0 = _
  have hxl : (xorL (b.take 64) (blockL k c n)).length = min 64 b.length := by rw [xorL_len (by rw [hbl, List.length_take]; omega), List.length_take]
  by_cases hi : i < 64
  ·rw [show i / 64 = 0 by omega, show i % 64 = i by omega, Nat.add_zero]
   simp only [List.getD]
   rw [List.getElem?_append_left (by omega)]
   unfold xorL
   rw [List.getElem?_zipWith, List.getElem?_take_of_lt hi, List.getElem?_eq_getElem h', List.getElem?_eq_getElem (by omega)]
   rfl
  ·have e : IntKind.wrap .u32 ((c : Int) + 1) = ((c + 1 : Nat) : Int) := by rw [wrap_u32, Int.emod_eq_of_lt (by omega) (by omega)]; rfl
   have ih := turnL_get hk hn m (c + 1) (j + 1) (b.drop 64) (i - 64) (by omega) (by omega) (by rw [List.length_drop]; omega) (by rw [List.length_drop]; omega)
   rw [e]
   rw [show c + 1 + (i - 64) / 64 = c + i / 64 by omega, show (i - 64) % 64 = i % 64 by omega] at ih
   simp only [List.getD] at ih ⊢
   rw [List.getElem?_append_right (by omega), show (xorL (b.take 64) (blockL k c n)).length = 64 by omega, ih, List.getElem?_drop, show 64 + (i - 64) = i by omega]
theorem ref_Turn_l1 {k nn b : List Int} (hk : k.length = 32) (hn : nn.length = 12) (kb : byt k) (nb : byt nn) (hb : b.length ≤ 65536) : ∀ (n i : Nat) (o by_ : List Int), i ≤ b.length -> b.length < i + n -> o = (turnS k nn 1 b).take i -> (i % 64 ≠ 0 -> by_ = blockL k ((1 + i / 64 : Nat) : Int) nn) ->
  ∃ z, fr06_Turn_l1 k 1 nn b n (i : Int) o by_ = some (.inr (.inr (turnS k nn 1 b, z)))
 | 0, i, o, by_, h, h', _, _ => by omega
 | n + 1, i, o, by_, h, h', ho, hy => by
  have hTl : (turnS k nn 1 b).length = b.length := turnL_len hk hn _ _ _ (by omega)
  rw [fr06_Turn_l1.eq_2]
  by_cases hi : i < b.length
  ·have hg := turnL_get hk hn 1025 1 0 b i rfl (by omega) (by omega) hi
   have hbl := (Block_is ((1 + i / 64 : Nat) : Int) hk hn).2
   have hstep : (turnS k nn 1 b).take i ++ [bits .u8 .xor (List.getD b i 0) (List.getD (blockL k ((1 + i / 64 : Nat) : Int) nn) (i % 64) 0)] = (turnS k nn 1 b).take (i + 1) := by
    rw [List.take_add_one]
    congr 1
    have : (turnS k nn 1 b).getD i 0 = xr (b.getD i 0) ((blockL k ((1 + i / 64 : Nat) : Int) nn).getD (i % 64) 0) := hg
    rw [List.getD, List.getElem?_eq_getElem (by omega)] at this
    rw [List.getElem?_eq_getElem (by omega)]
    simp only [Option.getD_some] at this
    rw [this]; rfl
   have hol : o.length ≤ 65536 := by rw [ho, List.length_take]; omega
   have em : Int.tmod (i : Int) 64 = ((i % 64 : Nat) : Int) := rfl
   have ed : Int.tdiv (i : Int) 64 = ((i / 64 : Nat) : Int) := rfl
   rw [cond_tt (by simp <;> omega), if_pos ⟨by omega, by omega⟩]
   rw [em, ed]
   have ec : IntKind.wrap .u32 (1 + IntKind.wrap .u32 (IntKind.wrap .i64 ((i / 64 : Nat) : Int))) = ((1 + i / 64 : Nat) : Int) := by
    rw [wrap_i64 (by omega) (by omega), wrap_u32, wrap_u32]; omega
   rw [wrap_i64 (n := (i : Int) + 1) (by omega) (by omega), show (i : Int) + 1 = ((i + 1 : Nat) : Int) from rfl]
   by_cases h0 : i % 64 = 0
   ·rw [cond_tt (by rw [h0]; rfl), nm_eq, ec, Block_ref _ hk hn kb nb, Option.bind_some, Option.bind_some]
    dsimp only
    rw [if_pos ⟨by omega, by rw [hbl]; omega⟩, nm_eq, if_pos (by simp <;> omega), Option.bind_some]
    dsimp only
    rw [Int.toNat_natCast, Int.toNat_natCast, ho, hstep]
    exact ref_Turn_l1 hk hn kb nb hb n (i + 1) _ _ (by omega) (by omega) rfl (fun hne => by rw [show (i + 1) / 64 = i / 64 by omega])
   ·have hyy := hy h0
    rw [cond_ff (by simp <;> omega), Option.bind_some]
    dsimp only
    rw [hyy, if_pos ⟨by omega, by rw [hbl]; omega⟩, nm_eq, if_pos (by simp <;> omega), Option.bind_some]
    dsimp only
    rw [Int.toNat_natCast, Int.toNat_natCast, ho, hstep]
    exact ref_Turn_l1 hk hn kb nb hb n (i + 1) _ _ (by omega) (by omega) rfl (fun hne => by rw [show (i + 1) / 64 = i / 64 by omega])
  ·have : i = b.length := by omega
   rw [cond_ff (by simp <;> omega), ho, List.take_of_length_le (by omega)]
   exact ⟨_, rfl⟩
theorem Turn_ref {k nn b : List Int} (hk : k.length = 32) (hn : nn.length = 12) (kb : byt k) (nb : byt nn) (hb : b.length ≤ 65536) : fr06_Turn k 1 nn b = some (turnS k nn 1 b) := by
 have hF : (1000000 : Nat) < FUEL := by decide
 obtain ⟨z, h⟩ := ref_Turn_l1 hk hn kb nb hb FUEL 0 [] [] (by omega) (by rw [Nat.zero_add]; exact Nat.lt_trans (Nat.lt_of_le_of_lt hb (by decide)) hF) (by simp) (by simp)
 rw [show ((0 : Nat) : Int) = 0 from rfl] at h
 unfold fr06_Turn
 rw [h]; rfl
end Go.Eng
