/-
  Part of a proof: SealP6.
-/
import Derived.Test.YtedebbmgijcpfaaDoorSealP5
set_option linter.unusedVariables false
set_option linter.unusedSimpArgs false
namespace Go.Eng
set_option maxRecDepth 100000
set_option maxHeartbeats 1000000
theorem xr_zero {x y : Int} (hx : 0 ≤ x /\ x < 256) (hy : 0 ≤ y /\ y < 256) : xr x y = 0 ↔ x = y := by
 constructor
 ·intro h
  have h1 := xr_xr (x := y) x hy
  have h2 : xr y x = xr x y := by unfold xr bits; simp only [BitVec.xor_comm]
  rw [h2, h] at h1
  have h3 := xr_xr (x := x) x hx
  have h4 : xr x x = 0 := by unfold xr bits; simp only [BitVec.xor_self]; rfl
  rw [h4] at h3
  omega
 ·rintro rfl
  unfold xr bits; simp only [BitVec.xor_self]; rfl
def or8 (x y : Int) : Int := bits .u8 .or x y
theorem or8_byt (x y : Int) : 0 ≤ or8 x y /\ or8 x y < 256 := by
 unfold or8 bits; simp only [wrap_u8]; omega
theorem or8_zero {x y : Int} (hx : 0 ≤ x /\ x < 256) (hy : 0 ≤ y /\ y < 256) : or8 x y = 0 ↔ x = 0 /\ y = 0 := by
 obtain ⟨a, rfl⟩ := Int.eq_ofNat_of_zero_le hx.1
 obtain ⟨b, rfl⟩ := Int.eq_ofNat_of_zero_le hy.1
 have ha : a < 256 := by omega
 have hb : b < 256 := by omega
 unfold or8 bits
 simp only [wrap_u8]
 have h8 : IntKind.u8.bits = 8 := rfl
 rw [h8, BitVec.ofInt_natCast, BitVec.ofInt_natCast, BitVec.toNat_or, BitVec.toNat_ofNat, BitVec.toNat_ofNat, Nat.mod_eq_of_lt (by omega), Nat.mod_eq_of_lt (by omega)]
 have hlt : a ||| b < 2 ^ 8 := Nat.or_lt_two_pow ha hb
 constructor
 ·intro h
  have h0 : a ||| b = 0 := by omega
  have := Nat.or_eq_zero_iff.1 h0
  omega
 ·rintro ⟨h1, h2⟩
  have h1 : a = 0 := by omega
  have h2 : b = 0 := by omega
  subst h1; subst h2; rfl
theorem Equal_l1 {a b : List Int} (ha : byt a) (hb : byt b) (hl : a.length = b.length) (hle : a.length ≤ 1000000) : ∀ (n i : Nat) (c : Int), i ≤ a.length -> a.length < i + n -> (0 ≤ c /\ c < 256) ->
  ∃ r, words_Equal_l1 a b n c (i : Int) = some r /\ (r = 0 ↔ c = 0 /\ a.drop i = b.drop i)
 | 0, i, c, h1, h2, hc => by omega
 | n + 1, i, c, h1, h2, hc => by
  rw [words_Equal_l1.eq_2]
  by_cases hlt : i < a.length
  ·rw [cond_tt (by simp <;> omega), if_pos ⟨by omega, by omega⟩, if_pos ⟨by omega, by omega⟩, nm_eq, wrap_i64 (by omega) (by omega)]
   have e1 : a.drop i = a.getD i 0 :: a.drop (i + 1) := by
    rw [List.drop_eq_getElem_cons hlt]; simp [List.getD, List.getElem?_eq_getElem hlt]
   have e2 : b.drop i = b.getD i 0 :: b.drop (i + 1) := by
    rw [List.drop_eq_getElem_cons (by omega)]; simp [List.getD, List.getElem?_eq_getElem (show i < b.length by omega)]
   have hai : 0 ≤ a.getD i 0 /\ a.getD i 0 < 256 := ha _ (by simp [List.getD, List.getElem?_eq_getElem hlt])
   have hbi : 0 ≤ b.getD i 0 /\ b.getD i 0 < 256 := hb _ (by simp [List.getD, List.getElem?_eq_getElem (show i < b.length by omega)])
   obtain ⟨r, hr, hz⟩ := Equal_l1 ha hb hl hle n (i + 1) (or8 c (xr (a.getD i 0) (b.getD i 0))) (by omega) (by omega) (or8_byt _ _)
   refine ⟨r, hr, hz.trans ?_⟩
   rw [or8_zero hc (xr_byt _ _), xr_zero hai hbi, e1, e2]
   constructor
   ·rintro ⟨⟨h1, h2⟩, h3⟩; exact ⟨h1, by rw [h2, h3]⟩
   ·rintro ⟨h1, h2⟩; injection h2 with h2 h3; exact ⟨⟨h1, h2⟩, h3⟩
  ·rw [cond_ff (by simp <;> omega)]
   refine ⟨c, rfl, ?_⟩
   rw [List.drop_eq_nil_of_le (by omega), List.drop_eq_nil_of_le (by omega)]
   simp
theorem Equal_is {a b : List Int} (ha : byt a) (hb : byt b) (hle : a.length ≤ 1000000) : words_Equal a b = some (decide (a = b)) := by
 unfold words_Equal
 by_cases hl : a.length = b.length
 ·rw [cond_ff (by simp [hl])]
  obtain ⟨f, e, hf⟩ := FUEL_pos 1000001 (by decide)
  obtain ⟨r, hr, hz⟩ := Equal_l1 ha hb hl hle FUEL 0 0 (by omega) (by rw [e]; omega) (by omega)
  rw [show ((0 : Nat) : Int) = 0 from rfl] at hr
  rw [hr, Option.bind_some]
  congr 1
  rw [List.drop_zero, List.drop_zero] at hz
  by_cases hab : a = b
  ·rw [decide_eq_true hab, hz.2 ⟨rfl, hab⟩]; rfl
  ·rw [decide_eq_false hab]
   have : r ≠ 0 := fun h => hab (hz.1 h).2
   simpa using this
 ·rw [cond_tt (by simp; omega), decide_eq_false fun h => hl (by rw [h])]
def msgL (w t : List Int) : List Int := w ++ fillL w ++ t ++ fillL t ++ countL w ++ countL t
theorem msg_len {w t : List Int} : (msgL w t).length ≤ w.length + t.length + 46 := by
 unfold msgL
 have h1 := (filled_is (b := w)).2
 have h2 := (filled_is (b := t)).2
 have h3 := (count_is w).2
 have h4 := (count_is t).2
 simp only [List.length_append]; omega
def tagL (k n w t : List Int) : List Int := (macM (onceL k n) (msgL w t)).getD []
theorem tag_is {k n w t : List Int} (hk : k.length = 32) (hn : n.length = 12) (hw : w.length ≤ 16384) (ht : t.length ≤ 16384) : macM (onceL k n) (msgL w t) = some (tagL k n w t) /\ (tagL k n w t).length = 16 /\ byt (tagL k n w t) := by
 have := msg_len (w := w) (t := t)
 obtain ⟨g, h1, h2, h3⟩ := mac_some (once_len hk hn) (m := msgL w t) (by omega)
 unfold tagL
 rw [h1]
 exact ⟨rfl, h2, h3⟩
theorem tot {w t : List Int} (hw : w.length ≤ 16384) (ht : t.length ≤ 16384) : w.length + (fillL w).length + t.length + (fillL t).length + (countL w).length + (countL t).length ≤ 1000000 := by
 have h1 := (filled_is (b := w)).2
 have h2 := (filled_is (b := t)).2
 have h3 := (count_is w).2
 have h4 := (count_is t).2
 omega
theorem turnS_len {k n : List Int} (hk : k.length = 32) (hn : n.length = 12) {c : Int} {b : List Int} (hb : b.length ≤ 65536) : (turnS k n c b).length = b.length := turnL_len hk hn _ _ _ (by omega)
theorem Seal_is {k n w p : List Int} (hk : k.length = 32) (hn : n.length = 12) (hw : w.length ≤ 16384) (hp : p.length ≤ 16384) :
  seal_Seal k n w p = some (.inl (turnS k n 1 p ++ tagL k n w (turnS k n 1 p))) := by
 have hl := turnS_len hk hn (c := 1) (b := p) (by omega)
 obtain ⟨h1, h2, h3⟩ := tag_is hk hn hw (t := turnS k n 1 p) (by omega)
 unfold seal_Seal
 rw [cond_ff (by simp [hn]), cond_ff (by simp <;> omega), cond_ff (by simp <;> omega), Turn_is hk hn 1 (by omega), Option.bind_some]
 dsimp only
 rw [code_2_is hk hn, Option.bind_some]
 dsimp only
 have hs := Sum_is (onceL k n) w (fillL w) (turnS k n 1 p) (fillL (turnS k n 1 p)) (countL w) (countL (turnS k n 1 p)) (tot hw (by omega))
 rw [(count_is w).2, (count_is (turnS k n 1 p)).2] at hs
 rw [hs]
 show (macM (onceL k n) (msgL w (turnS k n 1 p))).bind _ = _
 rw [h1, Option.bind_some, List.take_of_length_le (by omega), if_pos (by rw [hl, h2]; omega)]
theorem Open_is {k n w s : List Int} (hk : k.length = 32) (hn : n.length = 12) (hw : w.length ≤ 16384) (hs : 16 ≤ s.length) (hs2 : s.length ≤ 16400) (hb : byt s) :
  seal_Open k n w s = some (if s.drop (s.length - 16) = tagL k n w (s.take (s.length - 16)) then .inl (turnS k n 1 (s.take (s.length - 16))) else .inr 7) := by
 have e16 : IntKind.wrap .i64 ((s.length : Int) - 16) = ((s.length - 16 : Nat) : Int) := by rw [wrap_i64 (by omega) (by omega)]; omega
 have htl : (s.take (s.length - 16)).length = s.length - 16 := by rw [List.length_take]; omega
 obtain ⟨h1, h2, h3⟩ := tag_is hk hn hw (t := s.take (s.length - 16)) (by omega)
 unfold seal_Open
 simp only [nm_eq, e16]
 have e0 : ((((s.length - 16 : Nat) : Int) - 0).toNat) = s.length - 16 := by omega
 have e1 : (((s.length : Int) - ((s.length - 16 : Nat) : Int)).toNat) = 16 := by omega
 have e2 : (((s.length - 16 : Nat) : Int).toNat) = s.length - 16 := by omega
 rw [e0, e1, e2]
 rw [cond_ff (by simp [hn]), cond_ff (by simp <;> omega), cond_ff (by simp <;> omega), cond_ff (by simp <;> omega), if_pos (by omega), if_pos (by omega), code_is hk hn, Option.bind_some]
 dsimp only
 rw [if_pos ⟨by omega, by omega⟩]
 have hd : List.take 16 (List.drop (s.length - 16) s) = s.drop (s.length - 16) := List.take_of_length_le (by rw [List.length_drop]; omega)
 have hsum := Sum_2_is (onceL k n) w (fillL w) (s.take (s.length - 16)) (fillL (s.take (s.length - 16))) (countL w) (countL (s.take (s.length - 16))) (tot hw (by omega))
 rw [(count_is w).2, (count_is (s.take (s.length - 16))).2] at hsum
 have hr : onetime_Right (onceL k n) (s.drop (s.length - 16)) w (fillL w).length (s.take (s.length - 16)) (fillL (s.take (s.length - 16))).length 8 8 (fillL w) (fillL (s.take (s.length - 16))) (countL w) (countL (s.take (s.length - 16))) = some (decide (s.drop (s.length - 16) = tagL k n w (s.take (s.length - 16)))) := by
  unfold onetime_Right
  rw [hsum]
  show (macM (onceL k n) (msgL w (s.take (s.length - 16)))).bind _ = _
  rw [h1, Option.bind_some, List.take_of_length_le (by omega), Equal_is (fun y hy => hb y (List.mem_of_mem_drop hy)) h3 (by rw [List.length_drop]; omega)]
  rfl
 rw [hd, hr, Option.bind_some]
 by_cases ht : s.drop (s.length - 16) = tagL k n w (s.take (s.length - 16))
 ·rw [decide_eq_true ht, if_pos ht, cond_ff (by rfl), if_pos (by omega), if_pos (by omega), Turn_is hk hn 1 (by omega)]
  rfl
 ·rw [decide_eq_false ht, if_neg ht]; rfl
end Go.Eng
