/-
  Part of a proof: SealP7.
-/
import Derived.Test.YtbccddolgoepjaaDoorSealP6
set_option linter.unusedVariables false
set_option linter.unusedSimpArgs false
namespace Go.Eng
set_option maxRecDepth 100000
set_option maxHeartbeats 1000000
theorem Open_Seal {k n w p : List Int} (hk : k.length = 32) (hn : n.length = 12) (hw : w.length ≤ 16384) (hp : p.length ≤ 16384) (hb : byt p) :
    seal_Open k n w (turnS k n 1 p ++ tagL k n w (turnS k n 1 p)) = some (.inl p) := by
  have hl := turnS_len hk hn (c := 1) (b := p) (by omega)
  obtain ⟨_, h2, h3⟩ := tag_is hk hn hw (t := turnS k n 1 p) (by omega)
  have hlen : (turnS k n 1 p ++ tagL k n w (turnS k n 1 p)).length = p.length + 16 := by rw [List.length_append]; omega
  have hbs : byt (turnS k n 1 p ++ tagL k n w (turnS k n 1 p)) := fun y hy => by
    rcases List.mem_append.1 hy with hy | hy
    · exact turnL_byt _ _ _ y hy
    · exact h3 y hy
  rw [Open_is hk hn hw (by omega) (by omega) hbs, hlen, show p.length + 16 - 16 = (turnS k n 1 p).length from by omega, List.drop_left, List.take_left, if_pos rfl]
  unfold turnS
  rw [turnL_turnL hk hn _ _ _ (by omega) hb]
theorem alive_is : fellowshiplaw08_alive = some true := by
  unfold fellowshiplaw08_alive
  have hk : (List.set (List.replicate 32 (0 : Int)) 0 1).length = 32 := rfl
  have hn : (List.replicate 12 (0 : Int)).length = 12 := rfl
  generalize (List.set (List.replicate 32 (0 : Int)) 0 1) = K at hk
  generalize (List.replicate 12 (0 : Int)) = N at hn
  have hb : byt [116, 101, 120, 116] := fun y hy => by
    simp only [List.mem_cons, List.not_mem_nil, or_false] at hy
    omega
  have l1 := turnS_len hk hn (c := 1) (b := []) (by simp)
  have l2 := turnS_len hk hn (c := 1) (b := [116, 101, 120, 116]) (by simp)
  have t1 := (tag_is hk hn (w := []) (t := turnS K N 1 []) (by simp) (by rw [l1]; simp)).2.1
  have t2 := (tag_is hk hn (w := [119]) (t := turnS K N 1 [116, 101, 120, 116]) (by simp) (by rw [l2]; simp)).2.1
  rw [Seal_is hk hn (by simp) (by simp), Option.bind_some]
  dsimp only
  rw [Seal_is hk hn (by simp) (by simp), Option.bind_some]
  dsimp only
  rw [cond_ff (by rw [List.length_append, l1, t1]; rfl), cond_ff (by rw [List.length_append, l2, t2]; rfl), Open_Seal hk hn (by simp) (by simp) hb, Option.bind_some]
  rfl
theorem Open_long {k n w s : List Int} (hn : n.length = 12) (hw : w.length ≤ 16384) (hs : 16400 < s.length) (hs2 : s.length ≤ 1000000) : seal_Open k n w s = some (.inr 3) := by
  have e16 : IntKind.wrap .i64 ((s.length : Int) - 16) = ((s.length - 16 : Nat) : Int) := by rw [wrap_i64 (by omega) (by omega)]; omega
  unfold seal_Open
  simp only [nm_eq, e16]
  rw [cond_ff (by simp [hn]), cond_ff (by simp <;> omega), cond_ff (by simp <;> omega), cond_tt (by simp <;> omega)]
theorem Num3 : fellowshipnum_Num_2 3 = some 3 := by kernel_rfl
theorem Num7 : fellowshipnum_Num_2 7 = some 7 := by kernel_rfl
theorem byt_zero (n : Nat) : byt (List.replicate n (0 : Int)) := fun y hy => by rw [List.eq_of_mem_replicate hy]; omega
theorem Bounds_is {k : List Int} (hk : k.length = 32) (x : Int) : fellowshiplaw08_SealBounds k x = some true := by
  unfold fellowshiplaw08_SealBounds
  rw [alive_is, Option.bind_some, cond_ff (by rfl)]
  have h0 : 0 ≤ IntKind.wrap .u64 x := by rw [wrap_u64]; omega
  have h1 : 0 ≤ Int.tmod (IntKind.wrap .u64 x) 5 := Int.tmod_nonneg _ h0
  have h2 : Int.tmod (IntKind.wrap .u64 x) 5 < 5 := Int.tmod_lt_of_pos _ (by omega)
  obtain ⟨m, hm⟩ := Int.eq_ofNat_of_zero_le h1
  rw [hm] at h2
  have e1 : IntKind.wrap .i64 (16382 + IntKind.wrap .i64 (Int.tmod (IntKind.wrap .u64 x) 5)) = ((16382 + m : Nat) : Int) := by
    rw [hm, wrap_i64 (n := (m : Int)) (by omega) (by omega), wrap_i64 (by omega) (by omega)]; omega
  have e2 : IntKind.wrap .i64 (((16382 + m : Nat) : Int) + 16) = ((16398 + m : Nat) : Int) := by rw [wrap_i64 (by omega) (by omega)]; omega
  simp only [nm_eq, e1, e2, Int.toNat_natCast]
  have hn : (List.replicate 12 (0 : Int)).length = 12 := rfl
  generalize (List.replicate 12 (0 : Int)) = N at hn
  rw [if_pos ⟨by omega, by omega, by omega, by omega⟩]
  by_cases hlt : m ≤ 2
  · have l1 := turnS_len hk hn (c := 1) (b := List.replicate (16382 + m) 0) (by rw [List.length_replicate]; omega)
    rw [List.length_replicate] at l1
    have t1 := (tag_is hk hn (w := []) (t := turnS k N 1 (List.replicate (16382 + m) 0)) (by simp) (by omega)).2.1
    rw [Seal_is hk hn (by simp) (by rw [List.length_replicate]; omega), Option.bind_some]
    dsimp only
    rw [if_pos ⟨by omega, by omega, by omega, by omega⟩, Seal_is hk hn (by rw [List.length_replicate]; omega) (by simp), Option.bind_some]
    dsimp only
    rw [if_pos ⟨by omega, by omega, by omega, by omega⟩, Open_is hk hn (by simp) (by rw [List.length_replicate]; omega) (by rw [List.length_replicate]; omega) (byt_zero _), Option.bind_some]
    have hL : ((((turnS k N 1 (List.replicate (16382 + m) 0) ++ tagL k N [] (turnS k N 1 (List.replicate (16382 + m) 0))).length : Nat) : Int) == ((16398 + m : Nat) : Int)) = true := by
      rw [List.length_append, l1, t1]; simp <;> omega
    split
    · rename_i heq
      rw [cond_ff (by simp <;> omega), hL]
      rfl
    · rename_i q heq
      rw [cond_ff (by simp <;> omega), hL]
      split at heq
      · cases heq
      · cases heq
        rw [cond_tt (by rfl), Num7]; rfl
  · rw [Seal_long hn (.inr (by rw [List.length_replicate]; omega)), Option.bind_some]
    dsimp only
    rw [if_pos ⟨by omega, by omega, by omega, by omega⟩, Seal_long hn (.inl (by rw [List.length_replicate]; omega)), Option.bind_some]
    dsimp only
    rw [if_pos ⟨by omega, by omega, by omega, by omega⟩, Open_long hn (by simp) (by rw [List.length_replicate]; omega) (by rw [List.length_replicate]; omega), Option.bind_some]
    dsimp only
    rw [cond_tt (by simp <;> omega), Num3]
    rfl

theorem xr_0 {x : Int} (h : 0 ≤ x ∧ x < 256) : xr x 0 = x := by
  have h1 := xr_xr (x := x) x h
  have h2 : xr x x = 0 := (xr_zero h h).2 rfl
  have h3 : xr 0 x = xr x 0 := by unfold xr bits; simp only [BitVec.xor_comm]
  rw [h2, h3] at h1; exact h1
theorem xr_ne {x y : Int} (h : 0 ≤ x ∧ x < 256) (hy : 0 ≤ y ∧ y < 256) (hy0 : y ≠ 0) : xr x y ≠ x := by
  intro e
  have h1 := xr_xr (x := y) x hy
  have h3 : xr y x = xr x y := by unfold xr bits; simp only [BitVec.xor_comm]
  rw [h3, e, (xr_zero h h).2 rfl] at h1
  exact hy0 h1.symm
/-- Sealed bytes with another byte in the code. -/
theorem Open_bent {k n w p : List Int} (hk : k.length = 32) (hn : n.length = 12) (hw : w.length ≤ 16384) (hp : p.length ≤ 16384) (hb : byt p) {by_ : Int} (hby : 0 ≤ by_ ∧ by_ < 256) {j : Nat} (hj : j < 16) {X : List Int} (hX : X = turnS k n 1 p ++ tagL k n w (turnS k n 1 p)) :
    seal_Open k n w (X.set (p.length + j) (xr (X.getD (p.length + j) 0) by_)) = some (if by_ = 0 then .inl p else .inr 7) := by
  have hl := turnS_len hk hn (c := 1) (b := p) (by omega)
  obtain ⟨_, h2, h3⟩ := tag_is hk hn hw (t := turnS k n 1 p) (by omega)
  have hlen : X.length = p.length + 16 := by rw [hX, List.length_append]; omega
  have hbs : byt X := fun y hy => by
    rw [hX] at hy
    rcases List.mem_append.1 hy with hy | hy
    · exact turnL_byt _ _ _ y hy
    · exact h3 y hy
  have hxj : 0 ≤ X.getD (p.length + j) 0 ∧ X.getD (p.length + j) 0 < 256 := hbs _ (by simp [List.getD, List.getElem?_eq_getElem (show p.length + j < X.length by omega)])
  by_cases h0 : by_ = 0
  · rw [if_pos h0, h0, xr_0 hxj]
    have e : X.set (p.length + j) (X.getD (p.length + j) 0) = X := by
      have : X.getD (p.length + j) 0 = X[p.length + j]'(by omega) := by simp [List.getD, List.getElem?_eq_getElem (show p.length + j < X.length by omega)]
      rw [this, List.set_getElem_self]
    rw [e, hX]
    exact Open_Seal hk hn hw hp hb
  · rw [if_neg h0]
    have hg : X.getD (p.length + j) 0 = (tagL k n w (turnS k n 1 p)).getD j 0 := by
      rw [hX]; simp only [List.getD]; rw [List.getElem?_append_right (by omega), hl, Nat.add_sub_cancel_left]
    have hset : X.set (p.length + j) (xr (X.getD (p.length + j) 0) by_) = turnS k n 1 p ++ (tagL k n w (turnS k n 1 p)).set j (xr ((tagL k n w (turnS k n 1 p)).getD j 0) by_) := by
      rw [hg, hX, List.set_append_right _ _ (by omega), hl, Nat.add_sub_cancel_left]
    have hne : (tagL k n w (turnS k n 1 p)).set j (xr ((tagL k n w (turnS k n 1 p)).getD j 0) by_) ≠ tagL k n w (turnS k n 1 p) := by
      intro e
      have h5 : ((tagL k n w (turnS k n 1 p)).set j (xr ((tagL k n w (turnS k n 1 p)).getD j 0) by_)).getD j 0 = (tagL k n w (turnS k n 1 p)).getD j 0 := by rw [e]
      have h6 : ((tagL k n w (turnS k n 1 p)).set j (xr ((tagL k n w (turnS k n 1 p)).getD j 0) by_)).getD j 0 = xr ((tagL k n w (turnS k n 1 p)).getD j 0) by_ := by
        simp only [List.getD]; rw [List.getElem?_set_self (by omega)]; rfl
      rw [h6] at h5
      rw [hg] at hxj
      exact xr_ne hxj hby h0 h5
    have hbs2 : byt (X.set (p.length + j) (xr (X.getD (p.length + j) 0) by_)) := fun y hy => by
      rcases List.mem_or_eq_of_mem_set hy with hy | rfl
      · exact hbs y hy
      · exact xr_byt _ _
    rw [Open_is hk hn hw (by rw [List.length_set]; omega) (by rw [List.length_set]; omega) hbs2, List.length_set, hlen, hset, show p.length + 16 - 16 = (turnS k n 1 p).length from by omega, List.drop_left, List.take_left, if_neg hne]
theorem Tags_is {x : T_fellowshiplaw08_Case} {s : List Int} {y : Int} (hk : x.fKey.length = 32) (hs : byt s) (hy : 0 ≤ y ∧ y < 256) : fellowshiplaw08_SealTags x s y = some true := by
  unfold fellowshiplaw08_SealTags
  rw [alive_is, Option.bind_some, cond_ff (by rfl)]
  by_cases hn : x.fNonce.length = 12
  · rw [cond_ff (by simp [hn])]
    by_cases hw : 500 < x.fWith.length
    · rw [cond_tt (by simp <;> omega)]
    rw [cond_ff (by simp <;> omega)]
    by_cases h1 : s.length < 16
    · rw [cond_tt (by simp <;> omega)]
    rw [cond_ff (by simp <;> omega)]
    by_cases h2 : 500 < s.length
    · rw [cond_tt (by simp <;> omega)]
    rw [cond_ff (by simp <;> omega)]
    have e16 : IntKind.wrap .i64 ((s.length : Int) - 16) = ((s.length - 16 : Nat) : Int) := by rw [wrap_i64 (by omega) (by omega)]; omega
    have e0 : ((((s.length - 16 : Nat) : Int) - 0).toNat) = s.length - 16 := by omega
    simp only [nm_eq, e16, e0]
    have hT : (s.take (s.length - 16)).length = s.length - 16 := by rw [List.length_take]; omega
    have hTb : byt (s.take (s.length - 16)) := fun z hz => hs z (List.mem_of_mem_take hz)
    generalize hTT : s.take (s.length - 16) = T at hT hTb
    obtain ⟨X, hX⟩ : ∃ X, X = turnS x.fKey x.fNonce 1 T ++ tagL x.fKey x.fNonce x.fWith (turnS x.fKey x.fNonce 1 T) := ⟨_, rfl⟩
    have hSeal : seal_Seal x.fKey x.fNonce x.fWith T = some (.inl X) := by rw [Seal_is hk hn (by omega) (by omega), hX]
    have hl := turnS_len hk hn (c := 1) (b := T) (by omega)
    have ht := (tag_is hk hn (w := x.fWith) (by omega) (t := turnS x.fKey x.fNonce 1 T) (by omega)).2.1
    have hXl : X.length = s.length := by rw [hX, List.length_append]; omega
    have m1 : 0 ≤ Int.tmod y 16 := Int.tmod_nonneg _ hy.1
    have m2 : Int.tmod y 16 < 16 := Int.tmod_lt_of_pos _ (by omega)
    obtain ⟨q, hq⟩ := Int.eq_ofNat_of_zero_le m1
    have ei : IntKind.wrap .i64 ((IntKind.wrap .i64 ((X.length : Int) - 1)) - IntKind.wrap .i64 (Int.tmod y 16)) = ((T.length + (15 - q) : Nat) : Int) := by
      rw [hq, wrap_i64 (n := (q : Int)) (by omega) (by omega), wrap_i64 (n := (X.length : Int) - 1) (by omega) (by omega), wrap_i64 (by omega) (by omega)]; omega
    have hbent := Open_bent hk hn (w := x.fWith) (by omega) (p := T) (by omega) hTb hy (j := 15 - q) (by omega) hX
    have hopen := Open_is hk hn (w := x.fWith) (by omega) (s := s) (by omega) (by omega) hs
    rw [hTT] at hopen
    have key : ((seal_Open x.fKey x.fNonce x.fWith (List.take X.length (X.set (T.length + (15 - q)) (xr (X.getD (T.length + (15 - q)) 0) y))))) = some (if y = 0 then .inl T else .inr 7) := by
      rw [List.take_of_length_le (by rw [List.length_set]; exact Nat.le_refl _)]; exact hbent
    rw [hopen, Option.bind_some]
    by_cases htag : s.drop (s.length - 16) = tagL x.fKey x.fNonce x.fWith T
    · rw [if_pos htag]
      dsimp only
      have hTT2 : turnS x.fKey x.fNonce 1 (turnS x.fKey x.fNonce 1 T) = T := turnL_turnL hk hn _ _ _ (by omega) hTb
      rw [Seal_is hk hn (by omega) (by omega), Option.bind_some]
      dsimp only
      rw [hTT2, ← htag]
      have hs2 : T ++ s.drop (s.length - 16) = s := by rw [← hTT, List.take_append_drop]
      rw [hs2, cond_ff (by simp), if_pos (by omega), if_pos (by omega), hSeal, Option.bind_some]
      dsimp only
      rw [ei, if_pos ⟨by omega, by omega⟩, if_pos ⟨by omega, by omega⟩, Int.toNat_natCast]
      show (seal_Open x.fKey x.fNonce x.fWith (List.take X.length (X.set (T.length + (15 - q)) (xr (X.getD (T.length + (15 - q)) 0) y)))).bind _ = _
      rw [key, Option.bind_some]
      by_cases h0 : y = 0
      · rw [if_pos h0, h0]
        dsimp only
        rw [cond_tt (by rfl), if_pos (by omega), if_pos (by omega)]
        simp
      · rw [if_neg h0]
        dsimp only
        rw [cond_ff (by simpa using h0), Num7]
        rfl
    · rw [if_neg htag]
      dsimp only
      rw [if_pos (by omega), if_pos (by omega), hSeal, Option.bind_some]
      dsimp only
      rw [ei, if_pos ⟨by omega, by omega⟩, if_pos ⟨by omega, by omega⟩, Int.toNat_natCast]
      show (seal_Open x.fKey x.fNonce x.fWith (List.take X.length (X.set (T.length + (15 - q)) (xr (X.getD (T.length + (15 - q)) 0) y)))).bind _ = _
      rw [key, Option.bind_some]
      by_cases h0 : y = 0
      · rw [if_pos h0, h0]
        dsimp only
        rw [cond_tt (by rfl), if_pos (by omega), if_pos (by omega)]
        simp
      · rw [if_neg h0]
        dsimp only
        rw [cond_ff (by simpa using h0), Num7]
        rfl
  · rw [cond_tt (by simp; omega)]
end Go.Eng
