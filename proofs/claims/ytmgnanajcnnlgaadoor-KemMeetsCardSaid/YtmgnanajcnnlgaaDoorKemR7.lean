/-
  Part of a proof: KemR7.
-/
import Derived.Test.YtmgnanajcnnlgaaDoorKemR6
set_option linter.unusedVariables false
set_option linter.unusedSimpArgs false
namespace Go.Eng
set_option maxRecDepth 100000
set_option maxHeartbeats 1000000
theorem bytes32 {l : List Int} (h : Lim 256 l) (hn : l.length = 32) : ∃ N : Nat, l = zl (limbsN 8 32 N) /\ N < 2 ^ 256 := by
 obtain ⟨m, rfl, h1, h2⟩ := lim_zl (n := 256) h
 have h3 := valN_lt 8 m h2
 refine ⟨valN 8 m, ?_, ?_⟩
 ·rw [← hn, ← h1, limbsN_val 8 m h2]
 ·rw [h1, hn] at h3; exact h3
theorem limbs8_lim (n N : Nat) : Lim 256 (zl (limbsN 8 n N)) := zl_lim (n := 256) (limbsN_lt 8 n N)
theorem lim_set {n : Int} : ∀ {l : List Int} {i : Nat} {x : Int}, Lim n l -> 0 ≤ x -> x < n -> Lim n (l.set i x)
 | [], _, _, _, _, _ => trivial
 | _ :: _, 0, _, ⟨_, c⟩, h, h' => ⟨⟨h, h'⟩, c⟩
 | _ :: _, _ + 1, _, ⟨a, c⟩, h, h' => ⟨a, lim_set c h h'⟩
theorem lim_getD {n : Int} (hn : 0 < n) : ∀ {l : List Int} (i : Nat), Lim n l -> 0 ≤ l.getD i 0 /\ l.getD i 0 < n
 | [], _, _ => ⟨Int.le_refl 0, hn⟩
 | _ :: _, 0, ⟨a, _⟩ => a
 | _ :: _, i + 1, ⟨_, c⟩ => by rw [List.getD_cons_succ]; exact lim_getD hn i c
theorem clamp0 : ∀ n : Fin 256, bits .u8 .and (n.val : Int) 248 = IntKind.wrap .u8 ((IntKind.wrap .u8 (Int.tdiv (n.val : Int) 8)) * 8) /\ 0 ≤ bits .u8 .and (n.val : Int) 248 /\ bits .u8 .and (n.val : Int) 248 < 256 := by decide +kernel
theorem clamp31 : ∀ n : Fin 256, bits .u8 .or (bits .u8 .and (n.val : Int) 127) 64 = IntKind.wrap .u8 ((Int.tmod (n.val : Int) 64) + 64) /\ 0 ≤ bits .u8 .or (bits .u8 .and (n.val : Int) 127) 64 /\ bits .u8 .or (bits .u8 .and (n.val : Int) 127) 64 < 256 := by decide +kernel
def clampP (k : List Int) : List Int := (k.set 0 (bits .u8 .and (k.getD 0 0) 248)).set 31 (bits .u8 .or (bits .u8 .and (k.getD 31 0) 127) 64)
theorem clamp_ok {k : List Int} (h : Lim 256 k) (hn : k.length = 32) : ladder_Clamp k = some (clampP k) /\ fr10_Clamp k = some (clampP k) /\ Lim 256 (clampP k) /\ (clampP k).length = 32 := by
 obtain ⟨a1, a2⟩ := lim_getD (by decide) 0 h
 obtain ⟨b1, b2⟩ := lim_getD (by decide) 31 h
 obtain ⟨n0, e0⟩ := Int.eq_ofNat_of_zero_le a1
 obtain ⟨n1, e1⟩ := Int.eq_ofNat_of_zero_le b1
 obtain ⟨c1, c2, c3⟩ := clamp0 ⟨n0, by omega⟩
 obtain ⟨d1, d2, d3⟩ := clamp31 ⟨n1, by omega⟩
 simp only at c1 c2 c3 d1 d2 d3
 rw [← e0] at c1 c2 c3
 rw [← e1] at d1 d2 d3
 have g31 : ∀ v, (k.set 0 v).getD 31 0 = k.getD 31 0 := fun v => by simp [List.getD, List.getElem?_set_ne]
 refine ⟨?_, ?_, lim_set (lim_set h c2 c3) d2 d3, by simp [clampP, hn]⟩
 ·unfold ladder_Clamp
  simp only [nm_eq, g31]
  have g : ∀ v u, ((k.set 0 v).set 31 u).getD 31 0 = u := fun v u => by simp [List.getD, hn]
  rw [g, List.set_set]; rfl
 ·unfold fr10_Clamp
  simp only [nm_eq, g31]
  rw [← c1, ← d1]; rfl
structure L4 where
 x2 : Int
 z2 : Int
 x3 : Int
 z3 : Int
def stepP (u : Int) (s : L4) : L4 :=
 let a := addP s.x2 s.z2
 let b := subP s.x2 s.z2
 let aa := mulP a a
 let bb := mulP b b
 let e := subP aa bb
 let da := mulP (subP s.x3 s.z3) a
 let cb := mulP (addP s.x3 s.z3) b
 ⟨mulP aa bb, mulP e (addP aa (mulP e 121665)), mulP (addP da cb) (addP da cb), mulP (mulP (subP da cb) (subP da cb)) u⟩
def swapP (b : Bool) (s : L4) : L4 := cond b ⟨s.x3, s.z3, s.x2, s.z2⟩ s
def ladP (K : Nat) (u : Int) : Nat -> L4 -> L4
 | 0, s => s
 | i + 1, s => ladP K u i (swapP (K / 2 ^ i % 2 == 1) (stepP u (swapP (K / 2 ^ i % 2 == 1) s)))
def multP (K : Nat) (u : Int) : Int := mulP (ladP K u 255 ⟨1, 0, u, 1⟩).x2 (powP (ladP K u 255 ⟨1, 0, u, 1⟩).z2 PM2)
structure SRel (s : T_ladder_step) (l : L4) : Prop where
 o1 : EOk s.fx2
 o2 : EOk s.fz2
 o3 : EOk s.fx3
 o4 : EOk s.fz3
 e1 : res s.fx2 = l.x2
 e2 : res s.fz2 = l.z2
 e3 : res s.fx3 = l.x3
 e4 : res s.fz3 = l.z3
theorem swapped_some {s : T_ladder_step} {l : L4} (h : SRel s l) (b : Bool) : ∃ r, ladder_step_swapped s b = some r /\ SRel r (swapP b l) := by
 unfold ladder_step_swapped
 rw [Pick_some b h.o3 h.o1, Option.bind_some, Pick_some b h.o4 h.o2, Option.bind_some, Pick_some b h.o1 h.o3, Option.bind_some, Pick_some b h.o2 h.o4, Option.bind_some]
 refine ⟨_, rfl, ?_⟩
 cases b
 ·exact ⟨h.o1, h.o2, h.o3, h.o4, h.e1, h.e2, h.e3, h.e4⟩
 ·exact ⟨h.o3, h.o4, h.o1, h.o2, h.e3, h.e4, h.e1, h.e2⟩
theorem Small_1 : field_Small 1 = some ⟨[1, 0, 0, 0, 0, 0, 0, 0, 0, 0]⟩ := by kernel_rfl
theorem Small_a : field_Small 121665 = some ⟨[121665, 0, 0, 0, 0, 0, 0, 0, 0, 0]⟩ := by kernel_rfl
theorem one_ok : EOk ⟨[1, 0, 0, 0, 0, 0, 0, 0, 0, 0]⟩ := ⟨by simp [Lim], rfl⟩
theorem one_res : res ⟨[1, 0, 0, 0, 0, 0, 0, 0, 0, 0]⟩ = 1 := by decide
theorem zero_ok : EOk ⟨List.replicate 10 0⟩ := ⟨by simp [Lim], rfl⟩
theorem zero_res : res ⟨List.replicate 10 0⟩ = 0 := by decide
theorem a24_ok : EOk ⟨[121665, 0, 0, 0, 0, 0, 0, 0, 0, 0]⟩ := ⟨by simp [Lim], rfl⟩
theorem a24_res : res ⟨[121665, 0, 0, 0, 0, 0, 0, 0, 0, 0]⟩ = 121665 := by decide
theorem next_some {s : T_ladder_step} {l : L4} {u : T_field_Elem} (h : SRel s l) (hu : EOk u) : ∃ r, ladder_step_next s u = some r /\ SRel r (stepP (res u) l) := by
 unfold ladder_step_next
 obtain ⟨a, e, oa, ra⟩ := Add_some h.o1 h.o2; rw [e, Option.bind_some]
 obtain ⟨b, e, ob, rb⟩ := Sub_some h.o1 h.o2; rw [e, Option.bind_some]
 obtain ⟨aa, e, oaa, raa⟩ := Square_some oa; rw [e, Option.bind_some]
 obtain ⟨bb, e, obb, rbb⟩ := Square_some ob; rw [e, Option.bind_some]
 obtain ⟨ee, e, oe, re⟩ := Sub_some oaa obb; rw [e, Option.bind_some]
 obtain ⟨d, e, od, rd⟩ := Sub_some h.o3 h.o4; rw [e, Option.bind_some]
 obtain ⟨da, e, oda, rda⟩ := Times_some od oa; rw [e, Option.bind_some]
 obtain ⟨c, e, oc, rc⟩ := Add_some h.o3 h.o4; rw [e, Option.bind_some]
 obtain ⟨cb, e, ocb, rcb⟩ := Times_some oc ob; rw [e, Option.bind_some]
 obtain ⟨x2, e, ox2, rx2⟩ := Times_some oaa obb; rw [e, Option.bind_some]
 rw [Small_a, Option.bind_some]
 obtain ⟨t, e, ot, rt⟩ := Times_some oe a24_ok; rw [e, Option.bind_some]
 obtain ⟨t2, e, ot2, rt2⟩ := Add_some oaa ot; rw [e, Option.bind_some]
 obtain ⟨z2, e, oz2, rz2⟩ := Times_some oe ot2; rw [e, Option.bind_some]
 obtain ⟨p, e, op, rp⟩ := Add_some oda ocb; rw [e, Option.bind_some]
 obtain ⟨x3, e, ox3, rx3⟩ := Square_some op; rw [e, Option.bind_some]
 obtain ⟨m, e, om, rm⟩ := Sub_some oda ocb; rw [e, Option.bind_some]
 obtain ⟨mm, e, omm, rmm⟩ := Square_some om; rw [e, Option.bind_some]
 obtain ⟨z3, e, oz3, rz3⟩ := Times_some omm hu; rw [e, Option.bind_some]
 refine ⟨_, rfl, ox2, oz2, ox3, oz3, ?_, ?_, ?_, ?_⟩
 ·simp only [stepP, rx2, raa, rbb, ra, rb, h.e1, h.e2]
 ·simp only [stepP, rz2, rt2, rt, re, raa, rbb, ra, rb, h.e1, h.e2, a24_res]
 ·simp only [stepP, rx3, rp, rda, rcb, rd, rc, ra, rb, h.e1, h.e2, h.e3, h.e4]
 ·simp only [stepP, rz3, rmm, rm, rda, rcb, rd, rc, ra, rb, h.e1, h.e2, h.e3, h.e4]
theorem bit_eq (K i : Nat) (hi : i < 256) : (bits .u8 .and (((limbsN 8 32 K).getD (i / 8) 0 / 2 ^ (i % 8) : Nat) : Int) 1 : Int) = ((K / 2 ^ i % 2 : Nat) : Int) := by
 have hb : (limbsN 8 32 K).getD (i / 8) 0 < 256 := getD_lt (limbsN_lt 8 32 K) (by decide) _
 have hb' : (limbsN 8 32 K).getD (i / 8) 0 / 2 ^ (i % 8) < 256 := Nat.lt_of_le_of_lt (Nat.div_le_self _ _) hb
 rw [and1_8 hb', limbsN_bit 8 (by decide) 32 K i (by omega)]
theorem beq1 (m : Nat) : (((m : Nat) : Int) == 1) = (m == 1) := by
 cases h : m == 1
 ·simp at h ⊢; omega
 ·simp at h ⊢; omega
theorem Mult_l1 (K : Nat) {u : T_field_Elem} (hu : EOk u) : ∀ (i n : Nat) (s : T_ladder_step) (l : L4), SRel s l -> i < n -> i ≤ 255 ->
  ladder_Mult_l1 (zl (limbsN 8 32 K)) u n ((i : Int) - 1) s = some (bytesP (mulP (ladP K (res u) i l).x2 (powP (ladP K (res u) i l).z2 PM2)))
 | i, 0, _, _, _, h, _ => by omega
 | 0, n + 1, s, l, hs, _, _ => by
  rw [ladder_Mult_l1.eq_2, cond_ff (by decide)]
  obtain ⟨z, e, oz, rz⟩ := Invert_some hs.o2; rw [e, Option.bind_some]
  obtain ⟨x, e, ox, rx⟩ := Times_some hs.o1 oz; rw [e, Option.bind_some]
  rw [Bytes_some ox, Option.bind_some, rx, rz, hs.e1, hs.e2]; rfl
 | i + 1, n + 1, s, l, hs, h, h' => by
  rw [ladder_Mult_l1.eq_2, show ((i + 1 : Nat) : Int) - 1 = i by omega, cond_tt (by simp)]
  have e1 : Int.tdiv (i : Int) 8 = ((i / 8 : Nat) : Int) := rfl
  have e3 : Int.tmod (i : Int) 8 = ((i % 8 : Nat) : Int) := rfl
  have m2 : min (i % 8) (IntKind.bits .u8) = i % 8 := by show min _ 8 = _; omega
  simp only [nm_eq, e1, e3, i64n (n := i / 8) (by omega), Int.toNat_natCast, m2, zl_getD, fdivn]
  rw [if_pos (by omega), if_pos (by omega), bit_eq K i (by omega), beq1]
  obtain ⟨a, e, ha⟩ := swapped_some hs (K / 2 ^ i % 2 == 1); rw [e, Option.bind_some]
  obtain ⟨b, e, hb⟩ := next_some ha hu; rw [e, Option.bind_some]
  obtain ⟨c, e, hc⟩ := swapped_some hb (K / 2 ^ i % 2 == 1); rw [e, Option.bind_some]
  rw [fellowship_pred i (by omega)]
  exact Mult_l1 K hu i n c _ hc (by omega) (by omega)
where
 fellowship_pred (i : Nat) (h : i < 1000) : IntKind.wrap .i64 ((i : Int) - 1) = (i : Int) - 1 := wrap_i64 (by omega) (by omega)
def leN (l : List Int) : Nat := valN 8 (l.map Int.toNat)
theorem leN_zl (N : Nat) (h : N < 2 ^ 256) : leN (zl (limbsN 8 32 N)) = N := by
 unfold leN zl
 rw [List.map_map, show (Int.toNat ∘ fun (n : Nat) => (n : Int)) = id from funext fun n => Int.toNat_natCast n, List.map_id, valN_limbs]
 exact Nat.mod_eq_of_lt h
def x25519 (k u : List Int) : List Int := bytesP (multP (leN (clampP k)) (((leN u % 2 ^ 255 : Nat) : Int) % PP))
theorem mod_le (x a b : Nat) (h : a ≤ b) (hx : x < 2 ^ a) : x % 2 ^ b = x := Nat.mod_eq_of_lt (Nat.lt_of_lt_of_le hx (Nat.pow_le_pow_right (by decide) h))
theorem val26_limbs (X : Nat) (h : X < 2 ^ 255) : val26 (zl (limbsN 26 10 X)) = (X : Int) := by
 have e := mod_le X 255 (26 * 10) (by decide) h
 have h := valN_limbs 26 10 X
 rw [e] at h
 rw [val26_zl, h]
theorem Mult_some {k u : List Int} (hk : Lim 256 k) (lk : k.length = 32) (hu : Lim 256 u) (lu : u.length = 32) : ladder_Mult k u = some (x25519 k u) := by
 obtain ⟨c1, _, c2, c3⟩ := clamp_ok hk lk
 obtain ⟨K, e, hK⟩ := bytes32 c2 c3
 obtain ⟨U, rfl, hU⟩ := bytes32 hu lu
 unfold ladder_Mult x25519
 rw [c1, Option.bind_some, e, Read_eq, Option.bind_some, Small_1, Option.bind_some, leN_zl K hK, leN_zl U hU]
 simp only [Option.bind_some]
 have hb : (bits .u8 .and (Int.fdiv ((zl (limbsN 8 32 K)).getD 31 0) (2 ^ 6)) 1 == 1) = (K / 2 ^ 254 % 2 == 1) := by
  rw [zl_getD, fdivn]
  have := bit_eq K 254 (by decide)
  rw [this, beq1]
 rw [nm_eq, hb]
 have ou : EOk ⟨zl (limbsN 26 10 (U % 2 ^ 255))⟩ := ⟨zl_lim (n := 67108864) (limbsN_lt 26 10 _), by simp [zl_len, limbsN_len]⟩
 have ru : res ⟨zl (limbsN 26 10 (U % 2 ^ 255))⟩ = ((U % 2 ^ 255 : Nat) : Int) % PP := by
  show val26 (zl _) % PP = _
  rw [val26_limbs _ (Nat.mod_lt _ (Nat.two_pow_pos _))]
 have h0 : SRel { fx2 := ⟨[1, 0, 0, 0, 0, 0, 0, 0, 0, 0]⟩, fz2 := ⟨List.replicate 10 0⟩, fx3 := ⟨zl (limbsN 26 10 (U % 2 ^ 255))⟩, fz3 := ⟨[1, 0, 0, 0, 0, 0, 0, 0, 0, 0]⟩ } ⟨1, 0, ((U % 2 ^ 255 : Nat) : Int) % PP, 1⟩ :=
  ⟨one_ok, zero_ok, ou, one_ok, one_res, zero_res, ru, one_res⟩
 obtain ⟨a, e, ha⟩ := swapped_some h0 (K / 2 ^ 254 % 2 == 1); rw [e, Option.bind_some]
 obtain ⟨b, e, hb⟩ := next_some ha ou; rw [e, Option.bind_some]
 obtain ⟨c, e, hc⟩ := swapped_some hb (K / 2 ^ 254 % 2 == 1); rw [e, Option.bind_some]
 have := Mult_l1 K ou 254 FUEL c _ hc (by unfold FUEL; omega) (by decide)
 rw [ru] at this
 exact this
end Go.Eng
