/-
  Part of a proof: KemS4.
-/
import Derived.Test.YtbccddolgoepjaaDoorKemS3
set_option linter.unusedVariables false
set_option linter.unusedSimpArgs false
namespace Go.Eng
set_option maxRecDepth 100000
set_option maxHeartbeats 1000000
theorem getD_block {m : List Int} {off i : Nat} (h : i < 64) : m.getD (off + i) 0 = ((m.drop off).take 64).getD i 0 := by
 simp [List.getD, h]
theorem word_add {a b c d : Int} (ha : 0 ≤ a /\ a < 256) (hb : 0 ≤ b /\ b < 256) (hc : 0 ≤ c /\ c < 256) (hd : 0 ≤ d /\ d < 256) :
  IntKind.wrap .u32 (IntKind.wrap .u32 (IntKind.wrap .u32 (IntKind.wrap .u32 (IntKind.wrap .u32 a * 16777216) + IntKind.wrap .u32 (IntKind.wrap .u32 b * 65536)) + IntKind.wrap .u32 (IntKind.wrap .u32 c * 256)) + IntKind.wrap .u32 d) = a * 16777216 + b * 65536 + c * 256 + d := by
 simp only [wu32]; omega
theorem wrap3' (a b c d : Int) : IntKind.wrap .u32 (IntKind.wrap .u32 (IntKind.wrap .u32 (d + c) + b) + a) = (a + b + c + d) % 4294967296 := by
 rw [wu32, wu32, wu32]; omega
theorem set_rep' {W : List Int} {n : Nat} (x : Int) {i : Nat} (h : i = W.length) : (W ++ List.replicate (n + 1) 0).set i x = (W ++ [x]) ++ List.replicate n 0 := by
 subst h; exact set_rep x
theorem schedR2 (m : List Int) (at_ : Int) : ∀ (n f : Nat) (W : List Int), n ≤ 48 -> W.length = 64 - n -> n < f ->
  fr02_Sum_l2 m at_ f ((64 - n : Nat) : Int) (W ++ List.replicate n 0) = some (extP n W)
 | _, 0, _, _, _, h => by omega
 | 0, f + 1, W, _, _, _ => by rw [fr02_Sum_l2.eq_2, cond_ff (by decide)]; simp [extP]
 | n + 1, f + 1, W, h, h', h'' => by
  have hl : (W ++ List.replicate (n + 1) 0).length = 64 := by rw [List.length_append, List.length_replicate]; omega
  rw [fr02_Sum_l2.eq_2, cond_tt (by simp; omega), cond_ff (by simp; omega)]
  have e0 : ((64 - (n + 1) : Nat) : Int) - 15 = ((63 - n - 15 : Nat) : Int) := by omega
  have e1 : ((64 - (n + 1) : Nat) : Int) - 2 = ((63 - n - 2 : Nat) : Int) := by omega
  have e2 : ((64 - (n + 1) : Nat) : Int) - 16 = ((63 - n - 16 : Nat) : Int) := by omega
  have e3 : ((64 - (n + 1) : Nat) : Int) - 7 = ((63 - n - 7 : Nat) : Int) := by omega
  simp only [nm_eq, hl, e0, e1, e2, e3, i64n (n := 63 - n - 15) (by omega), i64n (n := 63 - n - 2) (by omega), i64n (n := 63 - n - 16) (by omega), i64n (n := 63 - n - 7) (by omega), Int.toNat_natCast,
   turn_7, turn_18, turn_17, turn_19, Option.bind_some, getD_app (W := W) (i := 63 - n - 15) (by omega), getD_app (W := W) (i := 63 - n - 2) (by omega), getD_app (W := W) (i := 63 - n - 16) (by omega), getD_app (W := W) (i := 63 - n - 7) (by omega)]
  rw [if_pos (by omega), if_pos (by omega), if_pos (by omega), if_pos (by omega), if_pos (by omega), Option.bind_some, wrap3']
  rw [set_rep' _ (show 64 - (n + 1) = W.length from h'.symm), show ((64 - (n + 1) : Nat) : Int) + 1 = ((64 - n : Nat) : Int) by omega, i64n (by omega)]
  exact schedR2 m at_ n f (W ++ [nextP W (63 - n)]) (by omega) (by simp; omega) (by omega)
theorem schedR1 {m : List Int} (hm : Lim 256 m) (off : Nat) (ho : off + 64 ≤ m.length) (hs : m.length < 9000000000000000) : ∀ (n f : Nat) (W : List Int), n ≤ 16 -> W.length = 16 - n -> n + 48 < f ->
  fr02_Sum_l2 m off f ((16 - n : Nat) : Int) (W ++ List.replicate (48 + n) 0) = some (extP 48 (wordsP ((m.drop off).take 64) n W))
 | _, 0, _, _, _, h => by omega
 | 0, f + 1, W, h, h', h'' => schedR2 m off 48 (f + 1) W (by decide) (by omega) (by omega)
 | n + 1, f + 1, W, h, h', h'' => by
  have hl : (W ++ List.replicate (48 + (n + 1)) 0).length = 64 := by rw [List.length_append, List.length_replicate]; omega
  rw [fr02_Sum_l2.eq_2, cond_tt (by simp; omega), cond_tt (by simp; omega)]
  have e0 : 4 * ((16 - (n + 1) : Nat) : Int) = ((4 * (15 - n) : Nat) : Int) := by omega
  have e1 : (off : Int) + ((4 * (15 - n) : Nat) : Int) = ((off + 4 * (15 - n) : Nat) : Int) := rfl
  have e2 : ((off + 4 * (15 - n) : Nat) : Int) + 1 = ((off + (4 * (15 - n) + 1) : Nat) : Int) := rfl
  have e3 : ((off + 4 * (15 - n) : Nat) : Int) + 2 = ((off + (4 * (15 - n) + 2) : Nat) : Int) := rfl
  have e4 : ((off + 4 * (15 - n) : Nat) : Int) + 3 = ((off + (4 * (15 - n) + 3) : Nat) : Int) := rfl
  simp only [nm_eq, hl, e0, i64n (n := 4 * (15 - n)) (by omega), e1, i64n (n := off + 4 * (15 - n)) (by omega), e2, e3, e4, i64n (n := off + (4 * (15 - n) + 1)) (by omega), i64n (n := off + (4 * (15 - n) + 2)) (by omega), i64n (n := off + (4 * (15 - n) + 3)) (by omega), Int.toNat_natCast]
  rw [if_pos (by omega), if_pos (by omega), if_pos (by omega), if_pos (by omega), if_pos (by omega), Option.bind_some]
  rw [word_add (lim_getD (by decide) _ hm) (lim_getD (by decide) _ hm) (lim_getD (by decide) _ hm) (lim_getD (by decide) _ hm)]
  rw [show 48 + (n + 1) = (48 + n) + 1 from rfl, set_rep' _ (show 16 - (n + 1) = W.length from h'.symm), show ((16 - (n + 1) : Nat) : Int) + 1 = ((16 - n : Nat) : Int) by omega, i64n (by omega)]
  rw [getD_block (i := 4 * (15 - n)) (by omega), getD_block (i := 4 * (15 - n) + 1) (by omega), getD_block (i := 4 * (15 - n) + 2) (by omega), getD_block (i := 4 * (15 - n) + 3) (by omega)]
  exact schedR1 hm off ho hs n f (W ++ [wordP ((m.drop off).take 64) (15 - n)]) (by omega) (by simp; omega) (by omega)
theorem roundsR (W : List Int) (hW : W.length = 64) : ∀ (n f : Nat) (s : S8), n ≤ 64 -> n < f ->
  fr02_Sum_l3 tb_sha_constants W f s.a s.b s.c s.d s.e s.f s.g s.h ((64 - n : Nat) : Int) =
   some ((roundsP W n s).a, (roundsP W n s).b, (roundsP W n s).c, (roundsP W n s).d, (roundsP W n s).e, (roundsP W n s).f, (roundsP W n s).g, (roundsP W n s).h)
 | _, 0, _, _, h => by omega
 | 0, f + 1, s, _, _ => by rw [fr02_Sum_l3.eq_2, cond_ff (by decide)]; rfl
 | n + 1, f + 1, s, h, h' => by
  have hk : tb_sha_constants.length = 64 := rfl
  rw [fr02_Sum_l3.eq_2, cond_tt (by simp; omega)]
  have e0 : ((64 - (n + 1) : Nat) : Int) = ((63 - n : Nat) : Int) := by omega
  rw [e0]
  simp only [nm_eq, Int.toNat_natCast, turn_6, turn_11, turn_25, turn_2, turn_13, turn_22, Option.bind_some, hW, hk]
  rw [if_pos (by omega), if_pos (by omega)]
  rw [show ((63 - n : Nat) : Int) + 1 = ((64 - n : Nat) : Int) by omega, i64n (by omega)]
  exact roundsR W hW n f (roundP (tb_sha_constants.getD (63 - n) 0) (W.getD (63 - n) 0) s) (by omega) (by omega)
theorem addsR (s v : S8) : fr02_Sum_l4 h0P.l v.a v.b v.c v.d v.e v.f v.g v.h 8 FUEL 0 s.l = some (addS s v).l := by
 obtain ⟨a0, a1, a2, a3, a4, a5, a6, a7⟩ := s
 obtain ⟨b0, b1, b2, b3, b4, b5, b6, b7⟩ := v
 kernel_rfl
theorem blocksR {m : List Int} (hm : Lim 256 m) (hs : m.length < 9000000000000000) : ∀ (n f off : Nat) (s : S8), off + 64 * n = m.length -> n < f ->
  fr02_Sum_l1 tb_sha_constants h0P.l m f (off : Int) s.l = some (blkP n s (m.drop off)).l
 | _, 0, _, _, _, h => by omega
 | 0, f + 1, off, s, h, _ => by rw [fr02_Sum_l1.eq_2, cond_ff (by simp; omega)]; rfl
 | n + 1, f + 1, off, s, h, h' => by
  rw [fr02_Sum_l1.eq_2, cond_tt (by simp; omega)]
  have h1 := schedR1 hm off (by omega) hs 16 FUEL [] (by decide) rfl (by unfold FUEL; omega)
  have h1 : fr02_Sum_l2 m off FUEL 0 (List.replicate 64 0) = some (schedP ((m.drop off).take 64)) := h1
  rw [h1, Option.bind_some]
  have hl : h0P.l.length = 8 := rfl
  simp only [hl]
  rw [if_pos (by decide), if_pos (by decide), if_pos (by decide), if_pos (by decide), if_pos (by decide), if_pos (by decide), if_pos (by decide), if_pos (by decide)]
  have h2 := roundsR (schedP ((m.drop off).take 64)) (schedP_len _) 64 FUEL s (by decide) (by unfold FUEL; omega)
  have h2 : fr02_Sum_l3 tb_sha_constants (schedP ((m.drop off).take 64)) FUEL (s.l.getD 0 0) (s.l.getD 1 0) (s.l.getD 2 0) (s.l.getD 3 0) (s.l.getD 4 0) (s.l.getD 5 0) (s.l.getD 6 0) (s.l.getD 7 0) 0 = _ := h2
  rw [h2, Option.bind_some]
  simp only [nm_eq]
  have h3 := addsR s (roundsP (schedP ((m.drop off).take 64)) 64 s)
  have h4 : ∀ x : S8, ((List.length [x.a, x.b, x.c, x.d, x.e, x.f, x.g, x.h] : Nat) : Int) = 8 := fun _ => rfl
  rw [h4, h3, Option.bind_some, show (off : Int) + 64 = ((off + 64 : Nat) : Int) from rfl, i64n (by omega)]
  have ih := blocksR hm hs n f (off + 64) (compP s ((m.drop off).take 64)) (by omega) (by omega)
  rw [blkP, List.drop_drop]
  exact ih
theorem outR (s : S8) : fr02_Sum_l5 h0P.l s.l FUEL 0 (List.replicate 32 0) = some (outP s) := by
 obtain ⟨a0, a1, a2, a3, a4, a5, a6, a7⟩ := s
 kernel_rfl
theorem Padded_l1 : ∀ (k f : Nat) (l : List Int), k = (56 + 64 - l.length % 64) % 64 -> k < f -> l.length + k < 1000000000000 -> fr02_Padded_l1 f l = some (.inr (l ++ List.replicate k 0))
 | _, 0, _, _, h, _ => by omega
 | 0, f + 1, l, h, _, _ => by
  have e : Int.tmod ((l.length : Nat) : Int) 64 = ((l.length % 64 : Nat) : Int) := rfl
  rw [fr02_Padded_l1.eq_2, e, cond_ff (by simp; omega)]; simp
 | k + 1, f + 1, l, h, h', h'' => by
  have e : Int.tmod ((l.length : Nat) : Int) 64 = ((l.length % 64 : Nat) : Int) := rfl
  rw [fr02_Padded_l1.eq_2, e, cond_tt (by simp; omega), if_pos (by simp only [List.length_cons, List.length_nil]; omega)]
  rw [Padded_l1 k f (l ++ [0]) (by rw [List.length_append, List.length_cons, List.length_nil]; omega) (by omega) (by rw [List.length_append, List.length_cons, List.length_nil]; omega), List.append_assoc]; rfl
def beB (x : Nat) : Nat -> List Int
 | 0 => []
 | i + 1 => ((x / 2 ^ (8 * i) % 256 : Nat) : Int) :: beB x i
theorem Padded_l3 (x : Nat) : ∀ (i f : Nat) (l : List Int), i < f -> i ≤ 8 -> l.length + i < 1000000000100 -> fr02_Padded_l3 (x : Int) f ((i : Int) - 1) l = some (l ++ beB x i)
 | i, 0, _, h, _, _ => by omega
 | 0, f + 1, l, _, _, _ => by rw [fr02_Padded_l3.eq_2, cond_ff (by decide), beB, List.append_nil]
 | i + 1, f + 1, l, h, h', h'' => by
  have e0 : 8 * (i : Int) = ((8 * i : Nat) : Int) := by omega
  have m2 : min (8 * i) (IntKind.bits .u64) = 8 * i := by show min _ 64 = _; omega
  rw [fr02_Padded_l3.eq_2, show ((i + 1 : Nat) : Int) - 1 = i by omega, cond_tt (by simp), e0, i64n (by omega), u64n, Nat.mod_eq_of_lt (a := 8 * i) (by omega), Int.toNat_natCast, m2, fdivn]
  rw [if_pos (by omega), nm_eq, u8n, if_pos (by rw [List.length_cons, List.length_nil]; omega)]
  rw [wrap_i64 (n := (i : Int) - 1) (by omega) (by omega), Padded_l3 x i f _ (by omega) (by omega) (by rw [List.length_append, List.length_cons, List.length_nil]; omega), List.append_assoc]; rfl
theorem beB_8 (x : Nat) : beB x 8 = be8 x := by simp [beB, be8]
theorem Padded_some {M : List Int} (hs : M.length < 100000000000) : fr02_Padded M = some (M ++ padP M.length) := by
 unfold fr02_Padded
 rw [List.nil_append, List.length_nil, if_pos (by omega), if_pos (by simp only [List.length_cons, List.length_nil]; omega)]
 have hl : (M ++ [(128 : Int)]).length = M.length + 1 := by rw [List.length_append]; rfl
 rw [Padded_l1 ((119 - M.length % 64) % 64) FUEL (M ++ [128]) (by rw [hl]; omega) (by unfold FUEL; omega) (by rw [hl]; omega), Option.bind_some]
 simp only
 have e : IntKind.wrap .u64 (IntKind.wrap .u64 (M.length : Int) * 8) = ((8 * M.length : Nat) : Int) := by
  rw [u64n, Nat.mod_eq_of_lt (by omega), show (M.length : Int) * 8 = ((8 * M.length : Nat) : Int) by omega, u64n, Nat.mod_eq_of_lt (by omega)]
 rw [nm_eq, e, show (7 : Int) = ((8 : Nat) : Int) - 1 from rfl, Padded_l3 _ 8 FUEL _ (by unfold FUEL; omega) (by decide) (by rw [List.length_append, hl, List.length_replicate]; omega), Option.bind_some, beB_8, padP, List.append_assoc, List.append_assoc]; rfl
theorem padP_lim (n : Nat) : Lim 256 (padP n) := ⟨by decide, lim_append (rep_lim _) (be8_lim _)⟩
theorem padP_len (n : Nat) : (padP n).length = 1 + (119 - n % 64) % 64 + 8 := by simp [padP, be8]; omega
theorem constants_eq : fr02_constants = some tb_sha_constants := by kernel_rfl
theorem SumR_some {M : List Int} (hM : Lim 256 M) (hs : M.length < 100000000000) : fr02_Sum M = some (shaP M) := by
 have hl : (M ++ padP M.length).length = M.length + (1 + (119 - M.length % 64) % 64 + 8) := by rw [List.length_append, padP_len]
 unfold fr02_Sum
 rw [constants_eq, Option.bind_some, nm_eq, Padded_some hs, Option.bind_some]
 have h := blocksR (lim_append hM (padP_lim M.length)) (by rw [hl]; omega) ((M ++ padP M.length).length / 64) FUEL 0 h0P (by rw [hl]; omega) (by rw [hl]; unfold FUEL; omega)
 have h : fr02_Sum_l1 tb_sha_constants [1779033703, 3144134277, 1013904242, 2773480762, 1359893119, 2600822924, 528734635, 1541459225] (M ++ padP M.length) FUEL 0 [1779033703, 3144134277, 1013904242, 2773480762, 1359893119, 2600822924, 528734635, 1541459225] = _ := h
 rw [h, Option.bind_some]
 have h2 := outR (blkP ((M ++ padP M.length).length / 64) h0P ((M ++ padP M.length).drop 0))
 have h2 : fr02_Sum_l5 [1779033703, 3144134277, 1013904242, 2773480762, 1359893119, 2600822924, 528734635, 1541459225] (blkP ((M ++ padP M.length).length / 64) h0P ((M ++ padP M.length).drop 0)).l FUEL 0 (List.replicate 32 0) = _ := h2
 rw [h2, List.drop_zero]; rfl
end Go.Eng
