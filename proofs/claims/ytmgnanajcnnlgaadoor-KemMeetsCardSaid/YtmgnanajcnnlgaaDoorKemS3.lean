/-
  Part of a proof: KemS3.
-/
import Derived.Test.YtmgnanajcnnlgaaDoorKemS2
set_option linter.unusedVariables false
set_option linter.unusedSimpArgs false
namespace Go.Eng
set_option maxRecDepth 100000
set_option maxHeartbeats 1000000
def Lims (l : List (List Int)) : Prop := ∀ x ∈ l, Lim 256 x
theorem drop_cons_getD {α : Type} (l : List α) (d : α) (i : Nat) (h : i < l.length) : l.drop i = l.getD i d :: l.drop (i + 1) := by
 rw [List.drop_eq_getElem_cons h]; simp [List.getD, h]
theorem parts_l1 (parts : List (List Int)) (hp : Lims parts) (hn : parts.length < 1000000) : ∀ (n f i : Nat) {M s : List Int} {off len : Nat} {c : Int} {rows : List Int}, i + n = parts.length -> n < f -> Got M s off len c rows -> M.length + (parts.drop i).flatten.length < 1000000000000 ->
  ∃ s' off' len' c' rows', sha_Sum_l1 parts f (i : Int) s off len c rows = some (s', off', len', c', rows') /\ Got (M ++ (parts.drop i).flatten) s' off' len' c' rows'
 | _, 0, _, _, _, _, _, _, _, _, h, _, _ => by omega
 | 0, f + 1, i, M, s, off, len, c, rows, h, _, g, _ => by
  rw [sha_Sum_l1.eq_2, cond_ff (by simp; omega)]
  exact ⟨_, _, _, _, _, rfl, by rw [List.drop_of_length_le (by omega), List.flatten_nil, List.append_nil]; exact g⟩
 | n + 1, f + 1, i, M, s, off, len, c, rows, h, h', g, hs => by
  rw [sha_Sum_l1.eq_2, cond_tt (by simp; omega), if_pos (by omega), Int.toNat_natCast]
  have hd := drop_cons_getD parts [] i (by omega)
  rw [hd, List.flatten_cons, List.length_append] at hs
  have hb : Lim 256 (parts.getD i []) := hp _ (List.mem_of_mem_drop (i := i) (by rw [hd]; exact List.mem_cons_self ..))
  obtain ⟨s1, o1, l1, c1, e, g1⟩ := Write_3_some g hb (by omega)
  rw [e, Option.bind_some]
  simp only [nm_eq]
  rw [show (i : Int) + 1 = ((i + 1 : Nat) : Int) from rfl, i64n (by omega)]
  obtain ⟨s2, o2, l2, c2, r2, e2, g2⟩ := parts_l1 parts hp hn n f (i + 1) (by omega) (by omega) g1 (by rw [List.length_append]; omega)
  refine ⟨s2, o2, l2, c2, r2, e2, ?_⟩
  rw [hd, List.flatten_cons, ← List.append_assoc]
  exact g2
theorem New_eq : sha_New = some h0P.l := rfl
theorem Sum_parts {parts : List (List Int)} (hp : Lims parts) (hn : parts.length < 1000000) (hs : parts.flatten.length < 1000000000000) : sha_Sum parts = some (shaP parts.flatten) := by
 unfold sha_Sum
 rw [New_eq, Option.bind_some]
 obtain ⟨s2, o2, l2, c2, r2, e2, g2⟩ := parts_l1 parts hp hn parts.length FUEL 0 (by omega) (by unfold FUEL; omega) Got.nil (by simpa using hs)
 have e2 : sha_Sum_l1 parts FUEL 0 h0P.l 0 (List.length ([] : List Int)) 0 [] = _ := e2
 rw [e2, Option.bind_some]
 simp only
 rw [List.drop_zero, List.nil_append] at g2
 rw [Sum_some g2 hs]; rfl
def keyP (key : List Int) : List Int := let k := if key.length > 64 then shaP key else key; k ++ List.replicate (64 - k.length) 0
def xorP (by_ : Int) (l : List Int) : List Int := l.map fun x => bits .u8 .xor x by_
def hmacP (key M : List Int) : List Int := shaP (xorP 92 (keyP key) ++ shaP (xorP 54 (keyP key) ++ M))
theorem keyP_len (key : List Int) : (keyP key).length = 64 := by
 unfold keyP
 split
 ·simp [shaP_len]
 ·simp; omega
theorem rep_lim (n : Nat) : Lim 256 (List.replicate n (0 : Int)) := lim_of fun x hx => by rw [List.eq_of_mem_replicate hx]; omega
theorem xor_lim (x y : Int) : 0 ≤ bits .u8 .xor x y /\ bits .u8 .xor x y < 256 := by
 show 0 ≤ IntKind.u8.wrap _ /\ IntKind.u8.wrap _ < 256
 rw [wu8]; omega
theorem xorP_lim (by_ : Int) (l : List Int) : Lim 256 (xorP by_ l) := lim_of fun x hx => by
 obtain ⟨y, _, rfl⟩ := List.mem_map.1 hx
 exact xor_lim y by_
theorem xorP_len (by_ : Int) (l : List Int) : (xorP by_ l).length = l.length := List.length_map ..
theorem set_mid {A B : List Int} (x y : Int) : (A ++ x :: B).set A.length y = (A ++ [y]) ++ B := by
 rw [List.set_append_right _ _ (Nat.le_refl _), Nat.sub_self, List.set_cons_zero, List.append_assoc]; rfl
theorem getD_mid {A B : List Int} (x : Int) : (A ++ x :: B).getD A.length 0 = x := by simp [List.getD]
theorem padded_l1 (by_ : Int) : ∀ (B A : List Int) (f : Nat), A.length + B.length = 64 -> B.length < f -> mac_padded_l1 by_ f (A.length : Int) (A ++ B) = some (A ++ xorP by_ B)
 | _, _, 0, _, h => by omega
 | [], A, f + 1, h, _ => by
  rw [mac_padded_l1.eq_2, nm_eq, cond_ff (by simp at h ⊢; omega)]; rfl
 | x :: B, A, f + 1, h, h' => by
  simp only [List.length_cons] at h h'
  have hc : (A.length : Int) < (((List.replicate 64 (0 : Int)).length : Nat) : Int) := by rw [List.length_replicate]; omega
  rw [mac_padded_l1.eq_2, nm_eq, cond_tt (by simpa using hc), if_pos ⟨by omega, hc⟩, if_pos ⟨by omega, hc⟩, nm_eq, Int.toNat_natCast, set_mid, getD_mid]
  rw [show (A.length : Int) + 1 = ((A ++ [bits .u8 .xor x by_]).length : Int) by rw [List.length_append]; rfl, i64n (by rw [List.length_append, List.length_cons, List.length_nil]; omega)]
  rw [padded_l1 by_ B (A ++ [bits .u8 .xor x by_]) f (by rw [List.length_append, List.length_cons, List.length_nil]; omega) (by omega)]
  rw [List.append_assoc]; rfl
theorem padded_l2 (by_ : Int) : ∀ (B A : List Int) (f : Nat), A.length + B.length = 64 -> B.length < f -> mac_padded_l2 by_ f (A.length : Int) (A ++ B) = some (A ++ xorP by_ B)
 | _, _, 0, _, h => by omega
 | [], A, f + 1, h, _ => by
  rw [mac_padded_l2.eq_2, nm_eq, cond_ff (by simp at h ⊢; omega)]; rfl
 | x :: B, A, f + 1, h, h' => by
  simp only [List.length_cons] at h h'
  have hc : (A.length : Int) < (((List.replicate 64 (0 : Int)).length : Nat) : Int) := by rw [List.length_replicate]; omega
  rw [mac_padded_l2.eq_2, nm_eq, cond_tt (by simpa using hc), if_pos ⟨by omega, hc⟩, if_pos ⟨by omega, hc⟩, nm_eq, Int.toNat_natCast, set_mid, getD_mid]
  rw [show (A.length : Int) + 1 = ((A ++ [bits .u8 .xor x by_]).length : Int) by rw [List.length_append]; rfl, i64n (by rw [List.length_append, List.length_cons, List.length_nil]; omega)]
  rw [padded_l2 by_ B (A ++ [bits .u8 .xor x by_]) f (by rw [List.length_append, List.length_cons, List.length_nil]; omega) (by omega)]
  rw [List.append_assoc]; rfl
theorem over_rep {m : List Int} (h : m.length ≤ 64) : over (List.replicate 64 0) 0 m = m ++ List.replicate (64 - m.length) 0 := by
 unfold over
 rw [List.take_zero, List.nil_append, List.drop_replicate, Nat.zero_add]
theorem padded_some {key : List Int} (hk : Lim 256 key) (hs : key.length < 100000000000) (by_ : Int) : mac_padded key by_ = some (xorP by_ (keyP key)) := by
 have l64 : (List.replicate 64 (0 : Int)).length = 64 := rfl
 unfold mac_padded
 by_cases h : key.length > 64
 ·rw [cond_tt (by simp; omega), Sum_parts (parts := [key]) (fun x hx => by rw [List.mem_singleton.1 hx]; exact hk) (by simp) (by simp; omega), Option.bind_some, Option.bind_some]
  simp only [List.flatten_cons, List.flatten_nil, List.append_nil]
  have e1 : (shaP key).take 32 = shaP key := List.take_of_length_le (by rw [shaP_len]; decide)
  have e2 : (shaP key).take 64 = shaP key := List.take_of_length_le (by rw [shaP_len]; decide)
  have ek : keyP key = shaP key ++ List.replicate (64 - (shaP key).length) 0 := by unfold keyP; rw [if_pos h]
  rw [nm_eq, nm_eq, e1, l64, e2, over_rep (by rw [shaP_len]; decide), ← ek]
  have := padded_l1 by_ (keyP key) [] FUEL (by rw [keyP_len]; rfl) (by rw [keyP_len]; unfold FUEL; omega)
  have this : mac_padded_l1 by_ FUEL 0 (keyP key) = _ := this
  rw [this]; rfl
 ·rw [cond_ff (by simp; omega), Option.bind_some]
  simp only
  have e2 : key.take 64 = key := List.take_of_length_le (by omega)
  have ek : keyP key = key ++ List.replicate (64 - key.length) 0 := by unfold keyP; rw [if_neg h]
  rw [nm_eq, nm_eq, l64, e2, over_rep (by omega), ← ek]
  have := padded_l2 by_ (keyP key) [] FUEL (by rw [keyP_len]; rfl) (by rw [keyP_len]; unfold FUEL; omega)
  have this : mac_padded_l2 by_ FUEL 0 (keyP key) = _ := this
  rw [this]; rfl
theorem Sum_2_some {a b : List Int} (ha : Lim 256 a) (hb : Lim 256 b) (la : a.length = 64) (lb : b.length = 32) : sha_Sum_2 64 32 a b = some (shaP (a ++ b)) := by
 unfold sha_Sum_2
 have e1 : a.take 64 = a := List.take_of_length_le (by omega)
 have e2 : b.take 32 = b := List.take_of_length_le (by omega)
 rw [New_eq, Option.bind_some, e1, e2]
 obtain ⟨s1, o1, l1, c1, e, g1⟩ := Write_some ha (by omega)
 rw [e, Option.bind_some]
 simp only
 obtain ⟨s2, o2, l2, c2, e, g2⟩ := Write_3_some g1 hb (by omega)
 rw [e, Option.bind_some]
 simp only [nm_eq, Option.bind_some]
 rw [Sum_some g2 (by rw [List.length_append]; omega)]; rfl
theorem mac_end {key M : List Int} (hk : Lim 256 key) (hs : key.length < 100000000000) :
  ((mac_padded key 92).bind fun x44 => (sha_Sum_2 (List.length (List.replicate 64 (0 : Int))) 32 x44 (shaP (xorP 54 (keyP key) ++ M))).bind fun x45 => some x45) = some (hmacP key M) := by
 rw [padded_some hk hs, Option.bind_some]
 have := Sum_2_some (xorP_lim 92 (keyP key)) (shaP_lim (xorP 54 (keyP key) ++ M)) (by rw [xorP_len, keyP_len]) (shaP_len _)
 have this : sha_Sum_2 (List.length (List.replicate 64 (0 : Int))) 32 (xorP 92 (keyP key)) (shaP (xorP 54 (keyP key) ++ M)) = _ := this
 rw [this]; rfl
theorem mac_l1 (parts : List (List Int)) : ∀ f i s off len c rows, mac_Sum_l1 parts f i s off len c rows = sha_Sum_l1 parts f i s off len c rows
 | 0, _, _, _, _, _, _ => rfl
 | f + 1, i, s, off, len, c, rows => by rw [mac_Sum_l1.eq_2, sha_Sum_l1.eq_2]; simp only [mac_l1 parts f]
theorem mac_Sum_some {key : List Int} {parts : List (List Int)} (hk : Lim 256 key) (hs : key.length < 100000000000) (hp : Lims parts) (hn : parts.length < 1000000) (hm : parts.flatten.length < 100000000000) :
  mac_Sum key parts = some (hmacP key parts.flatten) := by
 have lk : (xorP 54 (keyP key)).length = 64 := by rw [xorP_len, keyP_len]
 have e1 : (xorP 54 (keyP key)).take (List.length (List.replicate 64 (0 : Int))) = xorP 54 (keyP key) := List.take_of_length_le (by rw [lk]; decide)
 obtain ⟨s1, o1, l1, c1, e, g1⟩ := Write_some (xorP_lim 54 (keyP key)) (by omega)
 unfold mac_Sum
 rw [New_eq, Option.bind_some, padded_some hk hs, Option.bind_some, e1, e, Option.bind_some]
 simp only
 rw [mac_l1]
 obtain ⟨s2, o2, l2, c2, r2, e2, g2⟩ := parts_l1 parts hp hn parts.length FUEL 0 (by omega) (by unfold FUEL; omega) g1 (by rw [List.drop_zero, lk]; omega)
 have e2 : sha_Sum_l1 parts FUEL 0 s1 o1 l1 c1 (xorP 54 (keyP key)) = _ := e2
 rw [e2, Option.bind_some]
 simp only
 rw [List.drop_zero] at g2
 rw [Sum_some g2 (by rw [List.length_append]; omega), Option.bind_some]
 exact mac_end hk hs
theorem mac_Sum_2_some {key a b : List Int} (n : Nat) (hk : Lim 256 key) (hs : key.length < 100000000000) (ha : Lim 256 a) (hb : Lim 256 b) (la : a.length < 100000000000) (lb : b.length ≤ n) (hn : n < 1000) :
  mac_Sum_2 key a n b = some (hmacP key (a ++ b)) := by
 have lk : (xorP 54 (keyP key)).length = 64 := by rw [xorP_len, keyP_len]
 have e1 : (xorP 54 (keyP key)).take (List.length (List.replicate 64 (0 : Int))) = xorP 54 (keyP key) := List.take_of_length_le (by rw [lk]; decide)
 have e2 : b.take n = b := List.take_of_length_le lb
 obtain ⟨s1, o1, l1, c1, e, g1⟩ := Write_some (xorP_lim 54 (keyP key)) (by omega)
 unfold mac_Sum_2
 rw [New_eq, Option.bind_some, padded_some hk hs, Option.bind_some, e1, e2, e, Option.bind_some]
 simp only
 obtain ⟨s2, o2, l2, c2, e, g2⟩ := Write_3_some (b := []) g1 trivial (by rw [lk]; simp)
 rw [e, Option.bind_some]
 simp only [nm_eq]
 obtain ⟨s3, o3, l3, c3, e, g3⟩ := Write_3_some g2 ha (by simp only [List.length_append, lk, List.length_nil]; omega)
 rw [e, Option.bind_some]
 simp only
 obtain ⟨s4, o4, l4, c4, e, g4⟩ := Write_3_some g3 hb (by simp only [List.length_append, lk, List.length_nil]; omega)
 rw [e, Option.bind_some]
 simp only [Option.bind_some]
 rw [Sum_some g4 (by simp only [List.length_append, lk, List.length_nil]; omega), Option.bind_some, List.append_nil, List.append_assoc]
 exact mac_end hk hs
theorem hmacP_lim (key M : List Int) : Lim 256 (hmacP key M) := shaP_lim _
theorem hmacP_len (key M : List Int) : (hmacP key M).length = 32 := shaP_len _
end Go.Eng
