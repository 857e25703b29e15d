/-
  Part of a proof: KemP2.
-/
import Derived.Test.YtbccddolgoepjaaDoorKemP1
set_option linter.unusedVariables false
set_option linter.unusedSimpArgs false
namespace Go.Eng
set_option maxRecDepth 100000
set_option maxHeartbeats 1000000
theorem list8 {α : Type} {l : List α} (h : l.length = 8) : ∃ a0 a1 a2 a3 a4 a5 a6 a7, l = [a0, a1, a2, a3, a4, a5, a6, a7] := by
 match l, h with
 | [a0, a1, a2, a3, a4, a5, a6, a7], _ => exact ⟨a0, a1, a2, a3, a4, a5, a6, a7, rfl⟩
def lessR : List Int -> List Int -> Bool
 | x :: xs, y :: ys => cond (x == y) (lessR xs ys) (decide (x < y))
 | _, _ => false
theorem ref_less (a0 a1 a2 a3 a4 a5 a6 a7 b0 b1 b2 b3 b4 b5 b6 b7 : Int) : fr09_less [a0, a1, a2, a3, a4, a5, a6, a7] [b0, b1, b2, b3, b4, b5, b6, b7] = some (lessR [a7, a6, a5, a4, a3, a2, a1, a0] [b7, b6, b5, b4, b3, b2, b1, b0]) := by
 unfold fr09_less
 have h : fr09_less_l1 [a0, a1, a2, a3, a4, a5, a6, a7] [b0, b1, b2, b3, b4, b5, b6, b7] FUEL 7 = cond (!(a7 == b7)) (some (.inr (decide (a7 < b7)))) (cond (!(a6 == b6)) (some (.inr (decide (a6 < b6)))) (cond (!(a5 == b5)) (some (.inr (decide (a5 < b5)))) (cond (!(a4 == b4)) (some (.inr (decide (a4 < b4)))) (cond (!(a3 == b3)) (some (.inr (decide (a3 < b3)))) (cond (!(a2 == b2)) (some (.inr (decide (a2 < b2)))) (cond (!(a1 == b1)) (some (.inr (decide (a1 < b1)))) (cond (!(a0 == b0)) (some (.inr (decide (a0 < b0)))) (some (.inl ()))))))))) := by kernel_rfl
 rw [h]
 simp only [lessR]
 cases a7 == b7 <;> cases a6 == b6 <;> cases a5 == b5 <;> cases a4 == b4 <;> cases a3 == b3 <;> cases a2 == b2 <;> cases a1 == b1 <;> cases a0 == b0 <;> rfl
def mpass : Int -> List Int -> List Int -> List Int
 | o, x :: xs, y :: ys => IntKind.wrap .u32 (IntKind.wrap .u64 (IntKind.wrap .u64 (IntKind.wrap .u64 (IntKind.wrap .u64 x + 4294967296) - IntKind.wrap .u64 y) - o)) :: mpass (IntKind.wrap .u64 (1 - Int.fdiv (IntKind.wrap .u64 (IntKind.wrap .u64 (IntKind.wrap .u64 (IntKind.wrap .u64 x + 4294967296) - IntKind.wrap .u64 y) - o)) (2 ^ 32))) xs ys
 | _, _, _ => []
theorem ref_minus (a0 a1 a2 a3 a4 a5 a6 a7 b0 b1 b2 b3 b4 b5 b6 b7 : Int) : fr09_minus [a0, a1, a2, a3, a4, a5, a6, a7] [b0, b1, b2, b3, b4, b5, b6, b7] = some (mpass 0 [a0, a1, a2, a3, a4, a5, a6, a7] [b0, b1, b2, b3, b4, b5, b6, b7]) := by kernel_rfl
def fpass : Int -> List Int -> List Int -> Int × List Int
 | c, x :: xs, y :: ys => ((fpass (Int.fdiv (IntKind.wrap .u64 (IntKind.wrap .u64 (IntKind.wrap .u64 x + IntKind.wrap .u64 (38 * IntKind.wrap .u64 y)) + c)) (2 ^ 32)) xs ys).1, IntKind.wrap .u32 (IntKind.wrap .u64 (IntKind.wrap .u64 (IntKind.wrap .u64 x + IntKind.wrap .u64 (38 * IntKind.wrap .u64 y)) + c)) :: (fpass (Int.fdiv (IntKind.wrap .u64 (IntKind.wrap .u64 (IntKind.wrap .u64 x + IntKind.wrap .u64 (38 * IntKind.wrap .u64 y)) + c)) (2 ^ 32)) xs ys).2)
 | c, _, _ => (c, [])
theorem ref_fold_l1 (a0 a1 a2 a3 a4 a5 a6 a7 b0 b1 b2 b3 b4 b5 b6 b7 : Int) : fr09_fold_l1 ([a0, a1, a2, a3, a4, a5, a6, a7] ++ [b0, b1, b2, b3, b4, b5, b6, b7]) FUEL 0 0 (List.replicate 8 0) = some (fpass 0 [a0, a1, a2, a3, a4, a5, a6, a7] [b0, b1, b2, b3, b4, b5, b6, b7]) := by kernel_rfl
def gpass : Int -> List Int -> Int × List Int
 | c, x :: xs => ((gpass (Int.fdiv (IntKind.wrap .u64 (c + IntKind.wrap .u64 x)) (2 ^ 32)) xs).1, IntKind.wrap .u32 (IntKind.wrap .u64 (c + IntKind.wrap .u64 x)) :: (gpass (Int.fdiv (IntKind.wrap .u64 (c + IntKind.wrap .u64 x)) (2 ^ 32)) xs).2)
 | c, [] => (c, [])
theorem ref_fold_l3 (c : Int) (a0 a1 a2 a3 a4 a5 a6 a7 : Int) : fr09_fold_l3 FUEL c 0 [a0, a1, a2, a3, a4, a5, a6, a7] = some (gpass c [a0, a1, a2, a3, a4, a5, a6, a7]) := by kernel_rfl
def apass : Int -> List Int -> List Int -> Int × List Int
 | c, x :: xs, y :: ys => ((apass (Int.fdiv (IntKind.wrap .u64 (IntKind.wrap .u64 (IntKind.wrap .u64 x + IntKind.wrap .u64 y) + c)) (2 ^ 32)) xs ys).1, IntKind.wrap .u32 (IntKind.wrap .u64 (IntKind.wrap .u64 (IntKind.wrap .u64 x + IntKind.wrap .u64 y) + c)) :: (apass (Int.fdiv (IntKind.wrap .u64 (IntKind.wrap .u64 (IntKind.wrap .u64 x + IntKind.wrap .u64 y) + c)) (2 ^ 32)) xs ys).2)
 | c, _, _ => (c, [])
theorem ref_add_l1 (a0 a1 a2 a3 a4 a5 a6 a7 b0 b1 b2 b3 b4 b5 b6 b7 : Int) : fr09_Add_l1 [a0, a1, a2, a3, a4, a5, a6, a7] [b0, b1, b2, b3, b4, b5, b6, b7] FUEL 0 0 (List.replicate 16 0) = some ((apass 0 [a0, a1, a2, a3, a4, a5, a6, a7] [b0, b1, b2, b3, b4, b5, b6, b7]).1, (apass 0 [a0, a1, a2, a3, a4, a5, a6, a7] [b0, b1, b2, b3, b4, b5, b6, b7]).2 ++ List.replicate 8 0) := by kernel_rfl
def rowp (x : Int) : Int -> List Int -> List Int -> List Int
 | _, _, [] => []
 | c, [], _ :: ws => IntKind.wrap .u32 c :: ws
 | c, y :: ys, w :: ws => IntKind.wrap .u32 (IntKind.wrap .u64 (IntKind.wrap .u64 (IntKind.wrap .u64 (IntKind.wrap .u64 x * IntKind.wrap .u64 y) + IntKind.wrap .u64 w) + c)) :: rowp x (Int.fdiv (IntKind.wrap .u64 (IntKind.wrap .u64 (IntKind.wrap .u64 (IntKind.wrap .u64 x * IntKind.wrap .u64 y) + IntKind.wrap .u64 w) + c)) (2 ^ 32)) ys ws
def rows32 (ys : List Int) : List Int -> List Int -> List Int
 | [], ws => ws
 | x :: xs, ws => match rowp x 0 ys ws with
  | [] => []
  | r :: rs => r :: rows32 ys xs rs
theorem ref_times_l1 (a0 a1 a2 a3 a4 a5 a6 a7 b0 b1 b2 b3 b4 b5 b6 b7 : Int) : fr09_Times_l1 [a0, a1, a2, a3, a4, a5, a6, a7] [b0, b1, b2, b3, b4, b5, b6, b7] FUEL 0 (List.replicate 16 0) = some (rows32 [b0, b1, b2, b3, b4, b5, b6, b7] [a0, a1, a2, a3, a4, a5, a6, a7] (List.replicate 16 0)) := by kernel_rfl
end Go.Eng
