/-
  Part of a proof: SelO1.
-/
import Derived.Test.YtedebbmgijcpfaaDoorSelN5
import Derived.KernelRfl
set_option linter.unusedVariables false
set_option linter.unusedSimpArgs false
set_option linter.unusedVariables false
set_option linter.unusedSimpArgs false
namespace Go.Eng
set_option maxRecDepth 100000
set_option maxHeartbeats 1000000
def oW (x w : Int) : Int := bits .u64 .or (IntKind.wrap .u64 (x * 2 ^ 8)) (IntKind.wrap .u64 w)
def x5 (a b c d e : Int) : Int := oW (oW (oW (oW (oW 0 e) d) c) b) a
def lm (x : Int) (r : Nat) : Int := bits .u64 .and (Int.fdiv x (2 ^ r)) 67108863
theorem read_raw (w0 w1 w2 w3 w4 w5 w6 w7 w8 w9 w10 w11 w12 w13 w14 w15 w16 w17 w18 w19 w20 w21 w22 w23 w24 w25 w26 w27 w28 w29 w30 w31 : Int) :
  onetime_read_l1 [w0, w1, w2, w3, w4, w5, w6, w7, w8, w9, w10, w11, w12, w13, w14, w15, w16, w17, w18, w19, w20, w21, w22, w23, w24, w25, w26, w27, w28, w29, w30, w31] FUEL 0 (List.replicate 5 0) = some [lm (x5 w0 w1 w2 w3 w4) 0, lm (x5 w3 w4 w5 w6 w7) 2, lm (x5 w6 w7 w8 w9 w10) 4, lm (x5 w9 w10 w11 w12 w13) 6, lm (x5 w13 w14 w15 w16 w17) 0] := by kernel_rfl
theorem oW_eq {x w : Nat} (hx : x < 4294967296) (hw : w < 256) : oW (x : Int) (w : Int) = ((x * 256 + w : Nat) : Int) := by
 unfold oW
 rw [muln, u64n, u64n, Nat.mod_eq_of_lt (by omega), Nat.mod_eq_of_lt (by omega), bits_or64 (by omega) (by omega), Nat.or_comm, or_add (by simpa using hw)]
 congr 1; omega
theorem x5_eq {a b c d e : Nat} (ha : a < 256) (hb : b < 256) (hc : c < 256) (hd : d < 256) (he : e < 256) : x5 a b c d e = ((a + 256 * b + 65536 * c + 16777216 * d + 4294967296 * e : Nat) : Int) := by
 unfold x5
 rw [show (0 : Int) = ((0 : Nat) : Int) from rfl, oW_eq (by omega) he, oW_eq (by omega) hd, oW_eq (by omega) hc, oW_eq (by omega) hb, oW_eq (by omega) ha]
 congr 1; omega
theorem lm_eq {x : Nat} (r : Nat) (h : x < 18446744073709551616) : lm (x : Int) r = ((x / 2 ^ r % 67108864 : Nat) : Int) := by
 unfold lm
 have : x / 2 ^ r < 18446744073709551616 := Nat.lt_of_le_of_lt (Nat.div_le_self _ _) h
 rw [fdivn, mask26 (Int.natCast_nonneg _) (Int.ofNat_lt.2 this)]; rfl
theorem over_zeros (m : List Int) (h : m.length ≤ 32) : over (List.replicate 32 (0 : Int)) 0 (m.take 32) = m ++ List.replicate (32 - m.length) 0 := by
 unfold over
 rw [List.take_of_length_le h, List.take_zero, List.nil_append, Nat.zero_add, List.drop_replicate]
theorem V_pad (b : List Nat) (n : Nat) : V8 (b ++ List.replicate n 0) = V8 b := by rw [V_append, V_zeros]; omega
def limR (w0 w1 w2 w3 w4 w5 w6 w7 w8 w9 w10 w11 w12 w13 w14 w15 w16 : Nat) : List Nat := [w0 + 256 * w1 + 65536 * w2 + 16777216 * (w3 % 4), w3 / 4 + 64 * w4 + 16384 * w5 + 4194304 * (w6 % 16), w6 / 16 + 16 * w7 + 4096 * w8 + 1048576 * (w9 % 64), w9 / 64 + 4 * w10 + 1024 * w11 + 262144 * w12, w13 + 256 * w14 + 65536 * w15 + 16777216 * w16]
theorem read_core {w0 w1 w2 w3 w4 w5 w6 w7 w8 w9 w10 w11 w12 w13 w14 w15 w16 : Nat} (h0 : w0 < 256) (h1 : w1 < 256) (h2 : w2 < 256) (h3 : w3 < 256) (h4 : w4 < 256) (h5 : w5 < 256) (h6 : w6 < 256) (h7 : w7 < 256) (h8 : w8 < 256) (h9 : w9 < 256) (h10 : w10 < 256) (h11 : w11 < 256) (h12 : w12 < 256) (h13 : w13 < 256) (h14 : w14 < 256) (h15 : w15 < 256) (h16 : w16 < 4) : onetime_read_l1 (zl [w0, w1, w2, w3, w4, w5, w6, w7, w8, w9, w10, w11, w12, w13, w14, w15, w16, 0, 0, 0, 0, 0, 0, 0, 0, 0, 0, 0, 0, 0, 0, 0]) FUEL 0 (List.replicate 5 0) = some (zl (limR w0 w1 w2 w3 w4 w5 w6 w7 w8 w9 w10 w11 w12 w13 w14 w15 w16)) := by
 have l0 : (w0 + 256 * w1 + 65536 * w2 + 16777216 * w3 + 4294967296 * w4) / 2 ^ 0 % 67108864 = w0 + 256 * w1 + 65536 * w2 + 16777216 * (w3 % 4) := by omega
 have l1 : (w3 + 256 * w4 + 65536 * w5 + 16777216 * w6 + 4294967296 * w7) / 2 ^ 2 % 67108864 = w3 / 4 + 64 * w4 + 16384 * w5 + 4194304 * (w6 % 16) := by omega
 have l2 : (w6 + 256 * w7 + 65536 * w8 + 16777216 * w9 + 4294967296 * w10) / 2 ^ 4 % 67108864 = w6 / 16 + 16 * w7 + 4096 * w8 + 1048576 * (w9 % 64) := by omega
 have l3 : (w9 + 256 * w10 + 65536 * w11 + 16777216 * w12 + 4294967296 * w13) / 2 ^ 6 % 67108864 = w9 / 64 + 4 * w10 + 1024 * w11 + 262144 * w12 := by omega
 have l4 : (w13 + 256 * w14 + 65536 * w15 + 16777216 * w16 + 4294967296 * 0) / 2 ^ 0 % 67108864 = w13 + 256 * w14 + 65536 * w15 + 16777216 * w16 := by omega
 have e0 : lm (x5 w0 w1 w2 w3 w4) 0 = ((w0 + 256 * w1 + 65536 * w2 + 16777216 * (w3 % 4) : Nat) : Int) := by rw [x5_eq h0 h1 h2 h3 h4, lm_eq 0 (by omega), l0]
 have e1 : lm (x5 w3 w4 w5 w6 w7) 2 = ((w3 / 4 + 64 * w4 + 16384 * w5 + 4194304 * (w6 % 16) : Nat) : Int) := by rw [x5_eq h3 h4 h5 h6 h7, lm_eq 2 (by omega), l1]
 have e2 : lm (x5 w6 w7 w8 w9 w10) 4 = ((w6 / 16 + 16 * w7 + 4096 * w8 + 1048576 * (w9 % 64) : Nat) : Int) := by rw [x5_eq h6 h7 h8 h9 h10, lm_eq 4 (by omega), l2]
 have e3 : lm (x5 w9 w10 w11 w12 w13) 6 = ((w9 / 64 + 4 * w10 + 1024 * w11 + 262144 * w12 : Nat) : Int) := by rw [x5_eq h9 h10 h11 h12 h13, lm_eq 6 (by omega), l3]
 have e4 : lm (x5 w13 w14 w15 w16 0) 0 = ((w13 + 256 * w14 + 65536 * w15 + 16777216 * w16 : Nat) : Int) := by
  have := x5_eq h13 h14 h15 (show w16 < 256 by omega) (show 0 < 256 by decide)
  rw [show ((0 : Nat) : Int) = 0 from rfl] at this
  rw [this, lm_eq 0 (by omega), l4]
 have hr := read_raw w0 w1 w2 w3 w4 w5 w6 w7 w8 w9 w10 w11 w12 w13 w14 w15 w16 0 0 0 0 0 0 0 0 0 0 0 0 0 0 0
 rw [e0, e1, e2, e3, e4] at hr
 exact hr
theorem limR_val {w0 w1 w2 w3 w4 w5 w6 w7 w8 w9 w10 w11 w12 w13 w14 w15 w16 : Nat} : valN 26 (limR w0 w1 w2 w3 w4 w5 w6 w7 w8 w9 w10 w11 w12 w13 w14 w15 w16) = V8 [w0, w1, w2, w3, w4, w5, w6, w7, w8, w9, w10, w11, w12, w13, w14, w15, w16, 0, 0, 0, 0, 0, 0, 0, 0, 0, 0, 0, 0, 0, 0, 0] := by
 simp only [limR, V8, valN, two8, show (2 : Nat) ^ 26 = 67108864 from rfl]
 omega
theorem limR_lt {w0 w1 w2 w3 w4 w5 w6 w7 w8 w9 w10 w11 w12 w13 w14 w15 w16 : Nat} (h0 : w0 < 256) (h1 : w1 < 256) (h2 : w2 < 256) (h3 : w3 < 256) (h4 : w4 < 256) (h5 : w5 < 256) (h6 : w6 < 256) (h7 : w7 < 256) (h8 : w8 < 256) (h9 : w9 < 256) (h10 : w10 < 256) (h11 : w11 < 256) (h12 : w12 < 256) (h13 : w13 < 256) (h14 : w14 < 256) (h15 : w15 < 256) (h16 : w16 < 4) : ∀ x ∈ limR w0 w1 w2 w3 w4 w5 w6 w7 w8 w9 w10 w11 w12 w13 w14 w15 w16, x < 67108864 := by
 intro x hx
 simp only [limR, List.mem_cons, List.not_mem_nil, or_false] at hx
 rcases hx with rfl | rfl | rfl | rfl | rfl <;> omega
theorem V_ge (l : List Nat) (i : Nat) : 256 ^ i * l.getD i 0 ≤ V8 l := by
 have h := V_append (l.take (i + 1)) (l.drop (i + 1))
 rw [List.take_append_drop, V_take_succ] at h
 omega
theorem read_is {b : List Nat} (hb : Dig b) (hl : b.length ≤ 17) (hv : V8 b < T130) : ∃ l, onetime_read (zl b) = some l /\ Lim 67108864 l /\ l.length = 5 /\ val26 l = (V8 b : Int) := by
 have hlen : (b ++ List.replicate (32 - b.length) 0).length = 32 := by rw [List.length_append, List.length_replicate]; omega
 have hz : ∀ j, b.length ≤ j -> (b ++ List.replicate (32 - b.length) 0).getD j 0 = 0 := fun j hj => by
  simp only [List.getD]; rw [List.getElem?_append_right hj, List.getElem?_replicate]; split <;> rfl
 have hd : Dig (b ++ List.replicate (32 - b.length) 0) := fun x hx => by
  rcases List.mem_append.1 hx with hx | hx
  ·exact hb x hx
  ·rw [List.eq_of_mem_replicate hx]; decide
 have hov : over (List.replicate 32 (0 : Int)) 0 (List.take (List.length (List.replicate 32 (0 : Int))) (zl b)) = zl (b ++ List.replicate (32 - b.length) 0) := by
  rw [List.length_replicate, over_zeros _ (by rw [zl_len]; omega), zl_append, zl_rep, zl_len]; rfl
 have hV := V_pad b (32 - b.length)
 have key : ∃ m : List Nat, onetime_read_l1 (zl (b ++ List.replicate (32 - b.length) 0)) FUEL 0 (List.replicate 5 0) = some (zl m) /\ m.length = 5 /\ (∀ x ∈ m, x < 67108864) /\ valN 26 m = V8 b := by
  rw [← hV] at hv ⊢
  have hg := V_ge (b ++ List.replicate (32 - b.length) 0) 16
  generalize b ++ List.replicate (32 - b.length) 0 = w at *
  obtain ⟨w0, w1, w2, w3, w4, w5, w6, w7, w8, w9, w10, w11, w12, w13, w14, w15, w16, w17, w18, w19, w20, w21, w22, w23, w24, w25, w26, w27, w28, w29, w30, w31, rfl⟩ := list32 hlen
  have z17 : w17 = 0 := hz 17 (by omega)
  have z18 : w18 = 0 := hz 18 (by omega)
  have z19 : w19 = 0 := hz 19 (by omega)
  have z20 : w20 = 0 := hz 20 (by omega)
  have z21 : w21 = 0 := hz 21 (by omega)
  have z22 : w22 = 0 := hz 22 (by omega)
  have z23 : w23 = 0 := hz 23 (by omega)
  have z24 : w24 = 0 := hz 24 (by omega)
  have z25 : w25 = 0 := hz 25 (by omega)
  have z26 : w26 = 0 := hz 26 (by omega)
  have z27 : w27 = 0 := hz 27 (by omega)
  have z28 : w28 = 0 := hz 28 (by omega)
  have z29 : w29 = 0 := hz 29 (by omega)
  have z30 : w30 = 0 := hz 30 (by omega)
  have z31 : w31 = 0 := hz 31 (by omega)
  subst z17 z18 z19 z20 z21 z22 z23 z24 z25 z26 z27 z28 z29 z30 z31
  have h0 : w0 < 256 := hd w0 (by simp)
  have h1 : w1 < 256 := hd w1 (by simp)
  have h2 : w2 < 256 := hd w2 (by simp)
  have h3 : w3 < 256 := hd w3 (by simp)
  have h4 : w4 < 256 := hd w4 (by simp)
  have h5 : w5 < 256 := hd w5 (by simp)
  have h6 : w6 < 256 := hd w6 (by simp)
  have h7 : w7 < 256 := hd w7 (by simp)
  have h8 : w8 < 256 := hd w8 (by simp)
  have h9 : w9 < 256 := hd w9 (by simp)
  have h10 : w10 < 256 := hd w10 (by simp)
  have h11 : w11 < 256 := hd w11 (by simp)
  have h12 : w12 < 256 := hd w12 (by simp)
  have h13 : w13 < 256 := hd w13 (by simp)
  have h14 : w14 < 256 := hd w14 (by simp)
  have h15 : w15 < 256 := hd w15 (by simp)
  have h16 : w16 < 4 := by
   have c16 : (256 : Nat) ^ 16 = 340282366920938463463374607431768211456 := by decide
   rw [c16, show ([w0, w1, w2, w3, w4, w5, w6, w7, w8, w9, w10, w11, w12, w13, w14, w15, w16, 0, 0, 0, 0, 0, 0, 0, 0, 0, 0, 0, 0, 0, 0, 0] : List Nat).getD 16 0 = w16 from rfl] at hg
   have := Nat.lt_of_le_of_lt hg hv
   clear hg hv
   simp only [T130] at this
   omega
  exact ⟨limR w0 w1 w2 w3 w4 w5 w6 w7 w8 w9 w10 w11 w12 w13 w14 w15 w16, read_core h0 h1 h2 h3 h4 h5 h6 h7 h8 h9 h10 h11 h12 h13 h14 h15 h16, rfl, limR_lt h0 h1 h2 h3 h4 h5 h6 h7 h8 h9 h10 h11 h12 h13 h14 h15 h16, limR_val⟩
 obtain ⟨m, k1, k2, k3, k4⟩ := key
 refine ⟨zl m, ?_, zl_lim k3, by rw [zl_len, k2], by rw [val26_zl, k4]⟩
 unfold onetime_read
 rw [nm_eq, nm_eq, hov, k1]; rfl
end Go.Eng
