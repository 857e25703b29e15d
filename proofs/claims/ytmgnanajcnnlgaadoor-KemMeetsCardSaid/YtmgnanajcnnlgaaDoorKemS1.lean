/-
  Part of a proof: KemS1.
-/
import Derived.Test.YtmgnanajcnnlgaaDoorKemR8
set_option linter.unusedVariables false
set_option linter.unusedSimpArgs false
namespace Go.Eng
set_option maxRecDepth 100000
set_option maxHeartbeats 1000000
def rr (x : Int) (n : Nat) : Int := bits .u32 .or (Int.fdiv x (2 ^ n)) (IntKind.wrap .u32 (x * 2 ^ (32 - n)))
theorem Right_7 (x : Int) : words_Right x 7 = some (rr x 7) := rfl
theorem Right_18 (x : Int) : words_Right x 18 = some (rr x 18) := rfl
theorem Right_17 (x : Int) : words_Right x 17 = some (rr x 17) := rfl
theorem Right_19 (x : Int) : words_Right x 19 = some (rr x 19) := rfl
theorem Right_6 (x : Int) : words_Right x 6 = some (rr x 6) := rfl
theorem Right_11 (x : Int) : words_Right x 11 = some (rr x 11) := rfl
theorem Right_25 (x : Int) : words_Right x 25 = some (rr x 25) := rfl
theorem Right_2 (x : Int) : words_Right x 2 = some (rr x 2) := rfl
theorem Right_13 (x : Int) : words_Right x 13 = some (rr x 13) := rfl
theorem Right_22 (x : Int) : words_Right x 22 = some (rr x 22) := rfl
abbrev xor32 (a b : Int) : Int := bits .u32 .xor a b
abbrev and32 (a b : Int) : Int := bits .u32 .and a b
def wordP (b : List Int) (t : Nat) : Int := b.getD (4 * t) 0 * 16777216 + b.getD (4 * t + 1) 0 * 65536 + b.getD (4 * t + 2) 0 * 256 + b.getD (4 * t + 3) 0
def nextP (W : List Int) (t : Nat) : Int :=
 (W.getD (t - 16) 0 + xor32 (xor32 (rr (W.getD (t - 15) 0) 7) (rr (W.getD (t - 15) 0) 18)) (Int.fdiv (W.getD (t - 15) 0) (2 ^ 3)) + W.getD (t - 7) 0 +
  xor32 (xor32 (rr (W.getD (t - 2) 0) 17) (rr (W.getD (t - 2) 0) 19)) (Int.fdiv (W.getD (t - 2) 0) (2 ^ 10))) % 4294967296
def extP : Nat -> List Int -> List Int
 | 0, W => W
 | n + 1, W => extP n (W ++ [nextP W (63 - n)])
def wordsP (b : List Int) : Nat -> List Int -> List Int
 | 0, W => W
 | n + 1, W => wordsP b n (W ++ [wordP b (15 - n)])
def schedP (b : List Int) : List Int := extP 48 (wordsP b 16 [])
theorem wordsP_len (b : List Int) : ∀ n W, (wordsP b n W).length = W.length + n
 | 0, _ => rfl
 | n + 1, W => by rw [wordsP, wordsP_len b n]; simp; omega
structure S8 where
 a : Int
 b : Int
 c : Int
 d : Int
 e : Int
 f : Int
 g : Int
 h : Int
def S8.l (s : S8) : List Int := [s.a, s.b, s.c, s.d, s.e, s.f, s.g, s.h]
def t1P (k w : Int) (s : S8) : Int :=
 IntKind.wrap .u32 (IntKind.wrap .u32 (IntKind.wrap .u32 (IntKind.wrap .u32 (s.h + xor32 (xor32 (rr s.e 6) (rr s.e 11)) (rr s.e 25)) + xor32 (and32 s.e s.f) (and32 (xor32 (IntKind.max .u32) s.e) s.g)) + k) + w)
def t2P (s : S8) : Int :=
 IntKind.wrap .u32 (xor32 (xor32 (rr s.a 2) (rr s.a 13)) (rr s.a 22) + xor32 (xor32 (and32 s.a s.b) (and32 s.a s.c)) (and32 s.b s.c))
def roundP (k w : Int) (s : S8) : S8 := ⟨IntKind.wrap .u32 (t1P k w s + t2P s), s.a, s.b, s.c, IntKind.wrap .u32 (s.d + t1P k w s), s.e, s.f, s.g⟩
def roundsP (W : List Int) : Nat -> S8 -> S8
 | 0, s => s
 | n + 1, s => roundsP W n (roundP (tb_sha_constants.getD (63 - n) 0) (W.getD (63 - n) 0) s)
def addS (s v : S8) : S8 := ⟨IntKind.wrap .u32 (s.a + v.a), IntKind.wrap .u32 (s.b + v.b), IntKind.wrap .u32 (s.c + v.c), IntKind.wrap .u32 (s.d + v.d), IntKind.wrap .u32 (s.e + v.e), IntKind.wrap .u32 (s.f + v.f), IntKind.wrap .u32 (s.g + v.g), IntKind.wrap .u32 (s.h + v.h)⟩
def compP (s : S8) (b : List Int) : S8 := addS s (roundsP (schedP b) 64 s)
theorem or32 {a b : Nat} (r : Nat) (h : a < 2 ^ r) (hr : r ≤ 32) (hb : b * 2 ^ r < 4294967296) : bits .u32 .or (((b * 2 ^ r : Nat)) : Int) (a : Int) = ((b * 2 ^ r + a : Nat) : Int) := by
 have ha : a < 4294967296 := Nat.lt_of_lt_of_le h (Nat.pow_le_pow_right (by decide) hr)
 show IntKind.u32.wrap (((BitVec.ofInt 32 ((b * 2 ^ r : Nat) : Int) ||| BitVec.ofInt 32 (a : Int) : BitVec 32).toNat : Nat) : Int) = _
 rw [BitVec.ofInt_natCast, BitVec.ofInt_natCast, BitVec.toNat_or, BitVec.toNat_ofNat, BitVec.toNat_ofNat]
 simp only [Nat.reducePow]
 rw [Nat.mod_eq_of_lt ha, Nat.mod_eq_of_lt hb, Nat.or_comm, or_add h, Nat.mul_comm, Nat.add_comm, u32n, Nat.mod_eq_of_lt]
 have := Nat.or_lt_two_pow (n := 32) ha hb
 rw [or_add h, Nat.mul_comm] at this
 omega
theorem word_or {a b c d : Int} (ha : 0 ≤ a /\ a < 256) (hb : 0 ≤ b /\ b < 256) (hc : 0 ≤ c /\ c < 256) (hd : 0 ≤ d /\ d < 256) :
  bits .u32 .or (bits .u32 .or (bits .u32 .or (IntKind.wrap .u32 (IntKind.wrap .u32 a * 2 ^ 24)) (IntKind.wrap .u32 (IntKind.wrap .u32 b * 2 ^ 16))) (IntKind.wrap .u32 (IntKind.wrap .u32 c * 2 ^ 8))) (IntKind.wrap .u32 d) = a * 16777216 + b * 65536 + c * 256 + d := by
 obtain ⟨a, rfl⟩ := Int.eq_ofNat_of_zero_le ha.1
 obtain ⟨b, rfl⟩ := Int.eq_ofNat_of_zero_le hb.1
 obtain ⟨c, rfl⟩ := Int.eq_ofNat_of_zero_le hc.1
 obtain ⟨d, rfl⟩ := Int.eq_ofNat_of_zero_le hd.1
 have ha := Int.ofNat_lt.1 ha.2
 have hb := Int.ofNat_lt.1 hb.2
 have hc := Int.ofNat_lt.1 hc.2
 have hd := Int.ofNat_lt.1 hd.2
 have w1 : IntKind.wrap .u32 (IntKind.wrap .u32 (a : Int) * 2 ^ 24) = ((a * 2 ^ 24 : Nat) : Int) := by rw [u32n, Nat.mod_eq_of_lt (by omega), muln, u32n, Nat.mod_eq_of_lt (by omega)]
 have w2 : IntKind.wrap .u32 (IntKind.wrap .u32 (b : Int) * 2 ^ 16) = ((b * 2 ^ 16 : Nat) : Int) := by rw [u32n, Nat.mod_eq_of_lt (by omega), muln, u32n, Nat.mod_eq_of_lt (by omega)]
 have w3 : IntKind.wrap .u32 (IntKind.wrap .u32 (c : Int) * 2 ^ 8) = ((c * 2 ^ 8 : Nat) : Int) := by rw [u32n, Nat.mod_eq_of_lt (by omega), muln, u32n, Nat.mod_eq_of_lt (by omega)]
 have w4 : IntKind.wrap .u32 (d : Int) = ((d : Nat) : Int) := by rw [u32n, Nat.mod_eq_of_lt (by omega)]
 rw [w1, w2, w3, w4]
 rw [or32 24 (by omega) (by decide) (by omega)]
 rw [show a * 2 ^ 24 + b * 2 ^ 16 = (a * 256 + b) * 2 ^ 16 by omega]
 rw [or32 16 (by omega) (by decide) (by omega)]
 rw [show (a * 256 + b) * 2 ^ 16 + c * 2 ^ 8 = (a * 65536 + b * 256 + c) * 2 ^ 8 by omega]
 rw [or32 8 (by omega) (by decide) (by omega)]
 omega
theorem set_rep {W : List Int} {n : Nat} (x : Int) : (W ++ List.replicate (n + 1) 0).set W.length x = (W ++ [x]) ++ List.replicate n 0 := by
 rw [List.set_append_right _ _ (Nat.le_refl _), Nat.sub_self, List.replicate_succ, List.set_cons_zero, List.append_assoc]; rfl
theorem getD_app {W Z : List Int} {i : Nat} (h : i < W.length) : (W ++ Z).getD i 0 = W.getD i 0 := by
 simp [List.getD, List.getElem?_append_left h]
theorem sched_l1 {b : List Int} (hb : Lim 256 b) (hn : b.length = 64) : ∀ (n f : Nat) (W : List Int), n ≤ 16 -> W.length = 16 - n -> n < f ->
  sha_schedule_l1 b f ((16 - n : Nat) : Int) (W ++ List.replicate (48 + n) 0) = some (wordsP b n W ++ List.replicate 48 0)
 | _, 0, _, _, _, h => by omega
 | 0, f + 1, W, _, _, _ => by rw [sha_schedule_l1.eq_2, cond_ff (by decide)]; rfl
 | n + 1, f + 1, W, h, h', h'' => by
  rw [sha_schedule_l1.eq_2, cond_tt (by simp; omega)]
  have e0 : 4 * ((16 - (n + 1) : Nat) : Int) = ((4 * (15 - n) : Nat) : Int) := by omega
  have e1 : ((4 * (15 - n) : Nat) : Int) + 1 = ((4 * (15 - n) + 1 : Nat) : Int) := rfl
  have e2 : ((4 * (15 - n) : Nat) : Int) + 2 = ((4 * (15 - n) + 2 : Nat) : Int) := rfl
  have e3 : ((4 * (15 - n) : Nat) : Int) + 3 = ((4 * (15 - n) + 3 : Nat) : Int) := rfl
  simp only [nm_eq, e0, i64n (n := 4 * (15 - n)) (by omega), e1, e2, e3, i64n (n := 4 * (15 - n) + 1) (by omega), i64n (n := 4 * (15 - n) + 2) (by omega), i64n (n := 4 * (15 - n) + 3) (by omega), Int.toNat_natCast, hn]
  rw [if_pos (by omega), if_pos (by omega), if_pos (by omega), if_pos (by omega), if_pos (by omega)]
  rw [word_or (lim_getD (by decide) _ hb) (lim_getD (by decide) _ hb) (lim_getD (by decide) _ hb) (lim_getD (by decide) _ hb)]
  rw [show 16 - (n + 1) = W.length from h'.symm, show 48 + (n + 1) = (48 + n) + 1 from rfl, set_rep, show ((W.length : Nat) : Int) + 1 = ((16 - n : Nat) : Int) by omega, i64n (by omega)]
  have ih := sched_l1 hb hn n f (W ++ [wordP b (15 - n)]) (by omega) (by simp; omega) (by omega)
  exact ih
theorem wrap3 (a b c d : Int) : IntKind.wrap .u32 (IntKind.wrap .u32 (IntKind.wrap .u32 (a + b) + c) + d) = (a + b + c + d) % 4294967296 := by
 rw [wu32, wu32, wu32]; omega
theorem sched_l2 : ∀ (n f : Nat) (W : List Int), n ≤ 48 -> W.length = 64 - n -> n < f ->
  sha_schedule_l2 f ((64 - n : Nat) : Int) (W ++ List.replicate n 0) = some (extP n W)
 | _, 0, _, _, _, h => by omega
 | 0, f + 1, W, _, _, _ => by rw [sha_schedule_l2.eq_2, cond_ff (by decide)]; simp [extP]
 | n + 1, f + 1, W, h, h', h'' => by
  rw [sha_schedule_l2.eq_2, cond_tt (by simp; omega)]
  have e0 : ((64 - (n + 1) : Nat) : Int) - 15 = ((63 - n - 15 : Nat) : Int) := by omega
  have e1 : ((64 - (n + 1) : Nat) : Int) - 2 = ((63 - n - 2 : Nat) : Int) := by omega
  have e2 : ((64 - (n + 1) : Nat) : Int) - 16 = ((63 - n - 16 : Nat) : Int) := by omega
  have e3 : ((64 - (n + 1) : Nat) : Int) - 7 = ((63 - n - 7 : Nat) : Int) := by omega
  simp only [nm_eq, e0, e1, e2, e3, i64n (n := 63 - n - 15) (by omega), i64n (n := 63 - n - 2) (by omega), i64n (n := 63 - n - 16) (by omega), i64n (n := 63 - n - 7) (by omega), Int.toNat_natCast,
   Right_7, Right_18, Right_17, Right_19, Option.bind_some, getD_app (W := W) (i := 63 - n - 15) (by omega), getD_app (W := W) (i := 63 - n - 2) (by omega), getD_app (W := W) (i := 63 - n - 16) (by omega), getD_app (W := W) (i := 63 - n - 7) (by omega)]
  rw [if_pos (by omega), if_pos (by omega), if_pos (by omega), if_pos (by omega), if_pos (by omega), wrap3]
  rw [show 64 - (n + 1) = W.length from h'.symm, set_rep, show ((W.length : Nat) : Int) + 1 = ((64 - n : Nat) : Int) by omega, i64n (by omega)]
  exact sched_l2 n f (W ++ [nextP W (63 - n)]) (by omega) (by simp; omega) (by omega)
theorem schedule_some {b : List Int} (hb : Lim 256 b) (hn : b.length = 64) : sha_schedule b = some (schedP b) := by
 unfold sha_schedule
 have h1 := sched_l1 hb hn 16 FUEL [] (by decide) rfl (by unfold FUEL; omega)
 rw [List.nil_append] at h1
 rw [show (0 : Int) = ((16 - 16 : Nat) : Int) from rfl]
 have h1 : sha_schedule_l1 b FUEL ((16 - 16 : Nat) : Int) (List.replicate 64 ((16 - 16 : Nat) : Int)) = _ := h1
 rw [h1, Option.bind_some]
 have h2 := sched_l2 48 FUEL (wordsP b 16 []) (by decide) (by rw [wordsP_len]; rfl) (by unfold FUEL; omega)
 have h2 : sha_schedule_l2 FUEL 16 (wordsP b 16 [] ++ List.replicate 48 0) = _ := h2
 rw [h2]; rfl
theorem rounds_l1 (W : List Int) : ∀ (n f : Nat) (s : S8), n ≤ 64 -> n < f -> sha_state_take_4_l1 W f ((64 - n : Nat) : Int) s.l = some (roundsP W n s).l
 | _, 0, _, _, h => by omega
 | 0, f + 1, s, _, _ => by rw [sha_state_take_4_l1.eq_2, cond_ff (by decide)]; rfl
 | n + 1, f + 1, s, h, h' => by
  rw [sha_state_take_4_l1.eq_2, cond_tt (by simp; omega), if_pos (by omega)]
  have e0 : ((64 - (n + 1) : Nat) : Int) = ((63 - n : Nat) : Int) := by omega
  rw [e0]
  obtain ⟨a, b, c, d, e, f', g, h⟩ := s
  simp only [S8.l, nm_eq, Int.toNat_natCast, List.getD_cons_zero, List.getD_cons_succ, Right_6, Right_11, Right_25, Right_2, Right_13, Right_22, Option.bind_some]
  rw [if_pos (by omega)]
  rw [show ((63 - n : Nat) : Int) + 1 = ((64 - n : Nat) : Int) by omega, i64n (by omega)]
  exact rounds_l1 W n f (roundP (tb_sha_constants.getD (63 - n) 0) (W.getD (63 - n) 0) ⟨a, b, c, d, e, f', g, h⟩) (by omega) (by omega)
theorem adds_l2 (s v : S8) : sha_state_take_4_l2 v.l FUEL 0 s.l = some (addS s v).l := by
 obtain ⟨a0, a1, a2, a3, a4, a5, a6, a7⟩ := s
 obtain ⟨b0, b1, b2, b3, b4, b5, b6, b7⟩ := v
 kernel_rfl
theorem take_some (s : S8) (off n : Nat) (c : Int) {rows : List Int} (hr : Lim 256 ((rows.drop off).take 64)) (hl : ((rows.drop off).take 64).length = 64) :
  sha_state_take_4 off 64 s.l off n c rows = some (compP s ((rows.drop off).take 64)).l := by
 unfold sha_state_take_4
 rw [schedule_some hr hl, Option.bind_some]
 have h := rounds_l1 (schedP ((rows.drop off).take 64)) 64 FUEL s (by decide) (by unfold FUEL; omega)
 have h : sha_state_take_4_l1 (schedP ((rows.drop off).take 64)) FUEL 0 s.l = _ := h
 rw [h, Option.bind_some, adds_l2]; rfl
end Go.Eng
