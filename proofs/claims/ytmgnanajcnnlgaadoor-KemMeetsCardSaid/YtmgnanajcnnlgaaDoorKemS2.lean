/-
  Part of a proof: KemS2.
-/
import Derived.Test.YtmgnanajcnnlgaaDoorKemS1
set_option linter.unusedVariables false
set_option linter.unusedSimpArgs false
namespace Go.Eng
set_option maxRecDepth 100000
set_option maxHeartbeats 1000000
def blkP : Nat -> S8 -> List Int -> S8
 | 0, s, _ => s
 | n + 1, s, l => blkP n (compP s (l.take 64)) (l.drop 64)
theorem blkP_add : ∀ (m n : Nat) (s : S8) (l : List Int), blkP (m + n) s l = blkP n (blkP m s l) (l.drop (64 * m))
 | 0, n, s, l => by simp [blkP]
 | m + 1, n, s, l => by
  rw [show m + 1 + n = (m + n) + 1 by omega, blkP, blkP_add m n, blkP, List.drop_drop]
  rw [show 64 + 64 * m = 64 * (m + 1) by omega]
theorem blkP_app : ∀ (n : Nat) (s : S8) (l l' : List Int), 64 * n ≤ l.length -> blkP n s (l ++ l') = blkP n s l
 | 0, _, _, _, _ => rfl
 | n + 1, s, l, l', h => by
  rw [blkP, blkP, List.take_append_of_le_length (by omega), List.drop_append_of_le_length (by omega), blkP_app n _ _ _ (by rw [List.length_drop]; omega)]
def loopW (rows : List Int) (c : Int) : Nat -> List Int -> Nat -> Nat -> Option (List Int × Nat × Nat)
 | 0, _, _, _ => none
 | n + 1, s, off, len =>
  cond (decide ((len : Int) ≥ 64))
   (if 64 ≤ (len : Int) then
    (sha_state_take_4 off 64 s off len c rows).bind fun x40 =>
     if (0 : Int) ≤ 64 /\ 64 ≤ (len : Int) then
      loopW rows c n x40 (off + 64) (Int.toNat ((len : Int) - 64))
     else none
   else none)
   (some (s, off, len))
theorem Write_l1 (b : List Int) (c : Int) : ∀ f s off len, sha_Hash_Write_l1 b c f s off len = loopW b c f s off len
 | 0, _, _, _ => rfl
 | f + 1, s, off, len => by rw [sha_Hash_Write_l1.eq_2, loopW]; simp only [Write_l1 b c f]
theorem Write_2_l1 (b r : List Int) (c : Int) : ∀ f s off len, sha_Hash_Write_2_l1 b r c f s off len = loopW (r ++ b) c f s off len
 | 0, _, _, _ => rfl
 | f + 1, s, off, len => by rw [sha_Hash_Write_2_l1.eq_2, loopW]; simp only [Write_2_l1 b r c f]
theorem Write_3_l1 (b : List Int) (o n : Nat) (r : List Int) (c : Int) : ∀ f s off len, sha_Hash_Write_3_l1 b o n r c f s off len = loopW ((r.drop o).take n ++ b) c f s off len
 | 0, _, _, _ => rfl
 | f + 1, s, off, len => by rw [sha_Hash_Write_3_l1.eq_2, loopW]; simp only [Write_3_l1 b o n r c f]
theorem lim_drop {n : Int} : ∀ {l : List Int} (k : Nat), Lim n l -> Lim n (l.drop k)
 | [], _, h => by simpa using h
 | _ :: _, 0, h => h
 | _ :: _, k + 1, ⟨_, h⟩ => lim_drop k h
theorem lim_take {n : Int} : ∀ {l : List Int} (k : Nat), Lim n l -> Lim n (l.take k)
 | [], _, h => by simpa using h
 | _ :: _, 0, _ => trivial
 | _ :: _, k + 1, ⟨h, h'⟩ => ⟨h, lim_take k h'⟩
theorem loopW_some {rows : List Int} (hr : Lim 256 rows) (c : Int) : ∀ (n f : Nat) (s : S8) (off len : Nat), len / 64 = n -> off + len = rows.length -> n < f ->
  loopW rows c f s.l off len = some ((blkP n s (rows.drop off)).l, off + 64 * n, len - 64 * n)
 | _, 0, _, _, _, _, _, h => by omega
 | 0, f + 1, s, off, len, h1, h2, _ => by rw [loopW, cond_ff (by simp; omega)]; simp [blkP]
 | n + 1, f + 1, s, off, len, h1, h2, h3 => by
  have e : Int.toNat ((len : Int) - 64) = len - 64 := by omega
  rw [loopW, cond_tt (by simp; omega), if_pos (by omega), take_some s off len c (lim_take _ (lim_drop _ hr)) (by rw [List.length_take, List.length_drop]; omega), Option.bind_some, if_pos (by omega), e]
  rw [loopW_some hr c n f _ (off + 64) (len - 64) (by omega) (by omega) (by omega), blkP, List.drop_drop]
  rw [show off + 64 + 64 * n = off + 64 * (n + 1) by omega, show len - 64 - 64 * n = len - 64 * (n + 1) by omega]
def h0P : S8 := ⟨1779033703, 3144134277, 1013904242, 2773480762, 1359893119, 2600822924, 528734635, 1541459225⟩
structure Got (M : List Int) (s : List Int) (off len : Nat) (c : Int) (rows : List Int) : Prop where
 st : s = (blkP (M.length / 64) h0P M).l
 hl : len = M.length % 64
 ol : off + len = rows.length
 rd : rows.drop off = M.drop (64 * (M.length / 64))
 ct : c = M.length
 lim : Lim 256 M
 small : M.length < 1099511627776
theorem Got.rest {M s : List Int} {off len : Nat} {c : Int} {rows : List Int} (h : Got M s off len c rows) : (rows.drop off).take len = M.drop (64 * (M.length / 64)) := by
 have h1 := h.hl
 rw [h.rd, List.take_of_length_le]
 rw [List.length_drop]; omega
theorem Got.put {M b : List Int} (hM : Lim 256 M) (hb : Lim 256 b) (hs : M.length + b.length < 1099511627776) :
  loopW (M.drop (64 * (M.length / 64)) ++ b) (M.length + b.length : Nat) FUEL (blkP (M.length / 64) h0P M).l 0 (M.drop (64 * (M.length / 64)) ++ b).length =
   some ((blkP ((M ++ b).length / 64) h0P (M ++ b)).l, 64 * ((M.length % 64 + b.length) / 64), (M ++ b).length % 64) /\
  Got (M ++ b) (blkP ((M ++ b).length / 64) h0P (M ++ b)).l (64 * ((M.length % 64 + b.length) / 64)) ((M ++ b).length % 64) (M.length + b.length : Nat) (M.drop (64 * (M.length / 64)) ++ b) := by
 have hlen : (M.drop (64 * (M.length / 64)) ++ b).length = M.length % 64 + b.length := by rw [List.length_append, List.length_drop]; omega
 have hd : (M ++ b).drop (64 * (M.length / 64)) = M.drop (64 * (M.length / 64)) ++ b := List.drop_append_of_le_length (by omega)
 have hk : (M ++ b).length / 64 = M.length / 64 + (M.length % 64 + b.length) / 64 := by rw [List.length_append]; omega
 refine ⟨?_, rfl, rfl, by rw [hlen, List.length_append]; omega, ?_, by rw [List.length_append], lim_append hM hb, by rw [List.length_append]; exact hs⟩
 ·rw [loopW_some (lim_append (lim_drop _ hM) hb) _ ((M.length % 64 + b.length) / 64) FUEL _ 0 _ (by rw [hlen]) (by omega) (by unfold FUEL; omega)]
  rw [hk, blkP_add, blkP_app _ _ _ _ (by omega), hd, List.drop_zero, hlen, List.length_append, Nat.zero_add]
  congr 3
  omega
 ·rw [hk, ← hd, List.drop_drop]; congr 1; omega
theorem Write_3_some {M s b : List Int} {off len : Nat} {c : Int} {rows : List Int} (h : Got M s off len c rows) (hb : Lim 256 b) (hs : M.length + b.length < 1099511627776) :
  ∃ s' off' len' c', sha_Hash_Write_3 b s off len c rows = some (s', off', len', c') /\ Got (M ++ b) s' off' len' c' ((rows.drop off).take len ++ b) := by
 obtain ⟨p, g⟩ := Got.put h.lim hb hs
 have hl := h.hl
 have ol := h.ol
 refine ⟨_, _, _, _, ?_, by rw [h.rest]; exact g⟩
 unfold sha_Hash_Write_3
 have e : IntKind.wrap .u64 (c + IntKind.wrap .u64 (b.length : Int)) = ((M.length + b.length : Nat) : Int) := by
  rw [h.ct, u64n, Nat.mod_eq_of_lt (by omega), ← Int.natCast_add, u64n, Nat.mod_eq_of_lt (by omega)]
 rw [nm_eq, e, if_pos (by omega), if_pos (by omega), Write_3_l1, h.rest, h.st, p]; rfl
theorem Write_2_some {M s b r : List Int} {c : Int} (hst : s = (blkP (M.length / 64) h0P M).l) (hct : c = M.length) (hM : Lim 256 M) (hr : r = M.drop (64 * (M.length / 64))) (hb : Lim 256 b) (hs : M.length + b.length < 1099511627776) :
  ∃ s' off' len' c', sha_Hash_Write_2 b s c r = some (s', off', len', c') /\ Got (M ++ b) s' off' len' c' (r ++ b) := by
 obtain ⟨p, g⟩ := Got.put hM hb hs
 refine ⟨_, _, _, _, ?_, by rw [hr]; exact g⟩
 unfold sha_Hash_Write_2
 have e : IntKind.wrap .u64 (c + IntKind.wrap .u64 (b.length : Int)) = ((M.length + b.length : Nat) : Int) := by
  rw [hct, u64n, Nat.mod_eq_of_lt (by omega), ← Int.natCast_add, u64n, Nat.mod_eq_of_lt (by omega)]
 have hl : r.length ≤ M.length := by rw [hr, List.length_drop]; omega
 rw [nm_eq, e, if_pos (by omega), Write_2_l1, hr, hst, p]; rfl
theorem Write_some {b : List Int} (hb : Lim 256 b) (hs : b.length < 1099511627776) :
  ∃ s' off' len' c', sha_Hash_Write b h0P.l 0 = some (s', off', len', c') /\ Got b s' off' len' c' b := by
 obtain ⟨p, g⟩ := Got.put (M := []) trivial hb (by simpa using hs)
 refine ⟨_, _, _, _, ?_, g⟩
 unfold sha_Hash_Write
 have e : IntKind.wrap .u64 (0 + IntKind.wrap .u64 (b.length : Int)) = ((([] : List Int).length + b.length : Nat) : Int) := by
  rw [u64n, Nat.mod_eq_of_lt (by omega), Int.zero_add, u64n, Nat.mod_eq_of_lt (by omega), List.length_nil, Nat.zero_add]
 rw [nm_eq, e, if_pos (by omega), Write_l1]
 rw [show h0P.l = (blkP (([] : List Int).length / 64) h0P []).l from rfl]
 have p : loopW b _ FUEL (blkP (([] : List Int).length / 64) h0P []).l 0 b.length = _ := p
 rw [p]; rfl
theorem Got.nil : Got [] h0P.l 0 0 0 [] := ⟨rfl, rfl, rfl, rfl, rfl, trivial, by decide⟩
def be8 (x : Nat) : List Int := [((x / 2 ^ 56 % 256 : Nat) : Int), ((x / 2 ^ 48 % 256 : Nat) : Int), ((x / 2 ^ 40 % 256 : Nat) : Int), ((x / 2 ^ 32 % 256 : Nat) : Int), ((x / 2 ^ 24 % 256 : Nat) : Int), ((x / 2 ^ 16 % 256 : Nat) : Int), ((x / 2 ^ 8 % 256 : Nat) : Int), ((x % 256 : Nat) : Int)]
theorem be8_lim (x : Nat) : Lim 256 (be8 x) := by simp only [be8, Lim]; refine ⟨?_, ?_, ?_, ?_, ?_, ?_, ?_, ?_, trivial⟩ <;> omega
def padP (n : Nat) : List Int := 128 :: List.replicate ((119 - n % 64) % 64) 0 ++ be8 (8 * n)
theorem PutBig_8 (x : Int) : words_PutBig x 8 = some (.inl [IntKind.wrap .u8 (Int.fdiv (Int.fdiv (Int.fdiv (Int.fdiv (Int.fdiv (Int.fdiv (Int.fdiv x (2 ^ 8)) (2 ^ 8)) (2 ^ 8)) (2 ^ 8)) (2 ^ 8)) (2 ^ 8)) (2 ^ 8)),
  IntKind.wrap .u8 (Int.fdiv (Int.fdiv (Int.fdiv (Int.fdiv (Int.fdiv (Int.fdiv x (2 ^ 8)) (2 ^ 8)) (2 ^ 8)) (2 ^ 8)) (2 ^ 8)) (2 ^ 8)), IntKind.wrap .u8 (Int.fdiv (Int.fdiv (Int.fdiv (Int.fdiv (Int.fdiv x (2 ^ 8)) (2 ^ 8)) (2 ^ 8)) (2 ^ 8)) (2 ^ 8)),
  IntKind.wrap .u8 (Int.fdiv (Int.fdiv (Int.fdiv (Int.fdiv x (2 ^ 8)) (2 ^ 8)) (2 ^ 8)) (2 ^ 8)), IntKind.wrap .u8 (Int.fdiv (Int.fdiv (Int.fdiv x (2 ^ 8)) (2 ^ 8)) (2 ^ 8)), IntKind.wrap .u8 (Int.fdiv (Int.fdiv x (2 ^ 8)) (2 ^ 8)), IntKind.wrap .u8 (Int.fdiv x (2 ^ 8)), IntKind.wrap .u8 x]) := by kernel_rfl
theorem PutBig_be8 (n : Nat) : words_PutBig (n : Int) 8 = some (.inl (be8 n)) := by
 rw [PutBig_8]
 simp only [fdivn, u8n, Nat.div_div_eq_div_mul, be8]
theorem zeros_l1 : ∀ (k f : Nat) {M s : List Int} {off len : Nat} {c : Int} {rows : List Int}, Got M s off len c rows -> k = (56 + 64 - M.length % 64) % 64 -> M.length + k < 1099511627776 -> k < f ->
  ∃ s' off' len' c' rows', sha_Hash_Sum_l1 f s off len c rows = some (s', off', len', c', rows') /\ Got (M ++ List.replicate k 0) s' off' len' c' rows'
 | _, 0, _, _, _, _, _, _, _, _, _, h => by omega
 | 0, f + 1, M, s, off, len, c, rows, g, h, _, _ => by
  have := g.hl
  rw [sha_Hash_Sum_l1.eq_2, cond_ff (by simp; omega)]
  exact ⟨_, _, _, _, _, rfl, by simpa using g⟩
 | k + 1, f + 1, M, s, off, len, c, rows, g, h, h', h'' => by
  have := g.hl
  rw [sha_Hash_Sum_l1.eq_2, cond_tt (by simp; omega)]
  obtain ⟨s1, o1, l1, c1, e, g1⟩ := Write_3_some (b := [0]) g (by simp [Lim]) (by simp only [List.length_cons, List.length_nil]; omega)
  rw [e, Option.bind_some]
  simp only
  obtain ⟨s2, o2, l2, c2, r2, e2, g2⟩ := zeros_l1 k f g1 (by rw [List.length_append, List.length_cons, List.length_nil]; omega) (by rw [List.length_append, List.length_cons, List.length_nil]; omega) (by omega)
  refine ⟨s2, o2, l2, c2, r2, e2, ?_⟩
  rw [List.append_assoc] at g2
  exact g2
def outW (x : Int) : List Int := [IntKind.wrap .u8 (Int.fdiv x (2 ^ 24)), IntKind.wrap .u8 (Int.fdiv x (2 ^ 16)), IntKind.wrap .u8 (Int.fdiv x (2 ^ 8)), IntKind.wrap .u8 x]
def outP (s : S8) : List Int := outW s.a ++ (outW s.b ++ (outW s.c ++ (outW s.d ++ (outW s.e ++ (outW s.f ++ (outW s.g ++ outW s.h))))))
theorem outW_lim (x : Int) : Lim 256 (outW x) := by simp only [outW, Lim, wu8]; refine ⟨?_, ?_, ?_, ?_, trivial⟩ <;> omega
theorem outP_lim (s : S8) : Lim 256 (outP s) := lim_append (outW_lim _) (lim_append (outW_lim _) (lim_append (outW_lim _) (lim_append (outW_lim _) (lim_append (outW_lim _) (lim_append (outW_lim _) (lim_append (outW_lim _) (outW_lim _)))))))
theorem outP_len (s : S8) : (outP s).length = 32 := rfl
theorem Sum_l2 (s : S8) : sha_Hash_Sum_l2 s.l FUEL 0 (List.replicate 32 0) = some (outP s) := by
 obtain ⟨a0, a1, a2, a3, a4, a5, a6, a7⟩ := s
 kernel_rfl
def shaP (M : List Int) : List Int := outP (blkP ((M ++ padP M.length).length / 64) h0P (M ++ padP M.length))
theorem shaP_lim (M : List Int) : Lim 256 (shaP M) := outP_lim _
theorem shaP_len (M : List Int) : (shaP M).length = 32 := outP_len _
theorem Sum_some {M s : List Int} {off len : Nat} {c : Int} {rows : List Int} (h : Got M s off len c rows) (hs : M.length < 1000000000000) : sha_Hash_Sum s off len c rows = some (shaP M) := by
 have hr := h.rest
 have hlr : (M.drop (64 * (M.length / 64))).length ≤ M.length := by rw [List.length_drop]; omega
 unfold sha_Hash_Sum sha_Hash_Copy slices_Clone_byte_byte
 rw [hr, List.length_nil, if_pos (by omega), Option.bind_some, Option.bind_some, List.nil_append]
 have e : IntKind.wrap .u64 (8 * c) = ((8 * M.length : Nat) : Int) := by
  rw [h.ct, show 8 * (M.length : Int) = ((8 * M.length : Nat) : Int) by omega, u64n, Nat.mod_eq_of_lt (by omega)]
 rw [e, PutBig_be8, Option.bind_some]
 simp only
 obtain ⟨s1, o1, l1, c1, e1, g1⟩ := Write_2_some (b := [128]) h.st h.ct h.lim rfl (by simp [Lim]) (by simp only [List.length_cons, List.length_nil]; omega)
 rw [e1, Option.bind_some]
 simp only
 obtain ⟨s2, o2, l2, c2, r2, e2, g2⟩ := zeros_l1 ((119 - M.length % 64) % 64) FUEL g1 (by rw [List.length_append, List.length_cons, List.length_nil]; omega) (by rw [List.length_append, List.length_cons, List.length_nil]; omega) (by unfold FUEL; omega)
 rw [e2, Option.bind_some]
 simp only
 obtain ⟨s3, o3, l3, c3, e3, g3⟩ := Write_3_some (b := be8 (8 * M.length)) g2 (be8_lim _) (by simp only [List.length_append, List.length_cons, List.length_nil, List.length_replicate, be8]; omega)
 have hbe : (be8 (8 * M.length)).take (List.replicate (Int.toNat 8) (0 : Int)).length = be8 (8 * M.length) := rfl
 rw [hbe, e3, Option.bind_some]
 simp only
 have hm : M ++ [128] ++ List.replicate ((119 - M.length % 64) % 64) 0 ++ be8 (8 * M.length) = M ++ padP M.length := by
  rw [padP, List.append_assoc, List.append_assoc]; rfl
 rw [nm_eq, g3.st, Sum_l2, Option.bind_some, hm]; rfl
end Go.Eng
