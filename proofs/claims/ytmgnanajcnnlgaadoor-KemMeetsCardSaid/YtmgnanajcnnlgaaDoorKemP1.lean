/-
  Part of a proof: KemP1.
-/
import Derived.Test.YtmgnanajcnnlgaaDoorKemP0
set_option linter.unusedVariables false
set_option linter.unusedSimpArgs false
namespace Go.Eng
set_option maxRecDepth 100000
set_option maxHeartbeats 1000000
theorem list10 {α : Type} {l : List α} (h : l.length = 10) : ∃ a0 a1 a2 a3 a4 a5 a6 a7 a8 a9, l = [a0, a1, a2, a3, a4, a5, a6, a7, a8, a9] := by
 match l, h with
 | [a0, a1, a2, a3, a4, a5, a6, a7, a8, a9], _ => exact ⟨a0, a1, a2, a3, a4, a5, a6, a7, a8, a9, rfl⟩
theorem list20 {α : Type} {l : List α} (h : l.length = 20) : ∃ a0 a1 a2 a3 a4 a5 a6 a7 a8 a9 b0 b1 b2 b3 b4 b5 b6 b7 b8 b9, l = [a0, a1, a2, a3, a4, a5, a6, a7, a8, a9, b0, b1, b2, b3, b4, b5, b6, b7, b8, b9] := by
 match l, h with
 | [a0, a1, a2, a3, a4, a5, a6, a7, a8, a9, b0, b1, b2, b3, b4, b5, b6, b7, b8, b9], _ => exact ⟨a0, a1, a2, a3, a4, a5, a6, a7, a8, a9, b0, b1, b2, b3, b4, b5, b6, b7, b8, b9, rfl⟩
def cpass : Int -> List Int -> Int × List Int
 | c, [] => (c, [])
 | c, x :: xs => ((cpass (Int.fdiv (IntKind.wrap .u64 (x + c)) (2 ^ 26)) xs).1, bits .u64 .and (IntKind.wrap .u64 (x + c)) 67108863 :: (cpass (Int.fdiv (IntKind.wrap .u64 (x + c)) (2 ^ 26)) xs).2)
def addRow (x : Int) : List Int -> List Int -> List Int
 | [], ws => ws
 | _ :: _, [] => []
 | y :: ys, w :: ws => IntKind.wrap .u64 (w + IntKind.wrap .u64 (x * y)) :: addRow x ys ws
def mulAll (ys : List Int) : List Int -> List Int -> List Int
 | [], ws => ws
 | _ :: _, [] => []
 | x :: xs, w :: ws => match addRow x ys (w :: ws) with
  | [] => []
  | r :: rs => r :: mulAll ys xs rs
theorem mul_l1 (a0 a1 a2 a3 a4 a5 a6 a7 a8 a9 b0 b1 b2 b3 b4 b5 b6 b7 b8 b9 : Int) : field_Elem_Times_l1 ⟨[a0, a1, a2, a3, a4, a5, a6, a7, a8, a9]⟩ ⟨[b0, b1, b2, b3, b4, b5, b6, b7, b8, b9]⟩ FUEL 0 (List.replicate 20 0) = some (mulAll [b0, b1, b2, b3, b4, b5, b6, b7, b8, b9] [a0, a1, a2, a3, a4, a5, a6, a7, a8, a9] (List.replicate 20 0)) := by kernel_rfl
def wpass : Int -> List Int -> List Int
 | _, [] => []
 | c, [x] => [IntKind.wrap .u64 (x + c)]
 | c, x :: y :: xs => bits .u64 .and (IntKind.wrap .u64 (x + c)) 67108863 :: wpass (Int.fdiv (IntKind.wrap .u64 (x + c)) (2 ^ 26)) (y :: xs)
def wpass0 : List Int -> List Int
 | [] => []
 | [x] => [x]
 | x :: y :: xs => bits .u64 .and x 67108863 :: wpass (Int.fdiv x (2 ^ 26)) (y :: xs)
theorem mul_l3 (a0 a1 a2 a3 a4 a5 a6 a7 a8 a9 b0 b1 b2 b3 b4 b5 b6 b7 b8 b9 : Int) : field_Elem_Times_l3 FUEL 0 ([a0, a1, a2, a3, a4, a5, a6, a7, a8, a9] ++ [b0, b1, b2, b3, b4, b5, b6, b7, b8, b9]) = some (wpass0 ([a0, a1, a2, a3, a4, a5, a6, a7, a8, a9] ++ [b0, b1, b2, b3, b4, b5, b6, b7, b8, b9])) := by kernel_rfl
def down608 : List Int -> List Int -> List Int
 | x :: xs, y :: ys => IntKind.wrap .u64 (x + IntKind.wrap .u64 (608 * y)) :: down608 xs ys
 | _, _ => []
theorem mul_l4 (a0 a1 a2 a3 a4 a5 a6 a7 a8 a9 b0 b1 b2 b3 b4 b5 b6 b7 b8 b9 : Int) : field_Elem_Times_l4 ([a0, a1, a2, a3, a4, a5, a6, a7, a8, a9] ++ [b0, b1, b2, b3, b4, b5, b6, b7, b8, b9]) FUEL 0 (List.replicate 10 0) = some (down608 [a0, a1, a2, a3, a4, a5, a6, a7, a8, a9] [b0, b1, b2, b3, b4, b5, b6, b7, b8, b9]) := by kernel_rfl
def addL : List Int -> List Int -> List Int
 | x :: xs, y :: ys => IntKind.wrap .u64 (x + y) :: addL xs ys
 | _, _ => []
theorem add_l1 (a0 a1 a2 a3 a4 a5 a6 a7 a8 a9 b0 b1 b2 b3 b4 b5 b6 b7 b8 b9 : Int) : field_Elem_Add_l1 ⟨[b0, b1, b2, b3, b4, b5, b6, b7, b8, b9]⟩ FUEL 0 [a0, a1, a2, a3, a4, a5, a6, a7, a8, a9] = some (addL [a0, a1, a2, a3, a4, a5, a6, a7, a8, a9] [b0, b1, b2, b3, b4, b5, b6, b7, b8, b9]) := by kernel_rfl
def subL : List Int -> List Int -> List Int -> List Int
 | x :: xs, y :: ys, m :: ms => IntKind.wrap .u64 (x + IntKind.wrap .u64 (m - y)) :: subL xs ys ms
 | _, _, _ => []
theorem sub_l1 (a0 a1 a2 a3 a4 a5 a6 a7 a8 a9 b0 b1 b2 b3 b4 b5 b6 b7 b8 b9 : Int) : field_Elem_Sub_l1 ⟨[b0, b1, b2, b3, b4, b5, b6, b7, b8, b9]⟩ FUEL 0 [a0, a1, a2, a3, a4, a5, a6, a7, a8, a9] = some (subL [a0, a1, a2, a3, a4, a5, a6, a7, a8, a9] [b0, b1, b2, b3, b4, b5, b6, b7, b8, b9] tb_field_many) := by kernel_rfl
theorem fold_l1 (a0 a1 a2 a3 a4 a5 a6 a7 a8 a9 : Int) : field_Elem_fold_2_l1 FUEL 0 [a0, a1, a2, a3, a4, a5, a6, a7, a8, a9] = some (wpass0 [a0, a1, a2, a3, a4, a5, a6, a7, a8, a9]) := by kernel_rfl
theorem least_l1 (a0 a1 a2 a3 a4 a5 a6 a7 a8 a9 : Int) : field_Elem_least_l1 FUEL 0 [a0, a1, a2, a3, a4, a5, a6, a7, a8, a9] = some (wpass0 [a0, a1, a2, a3, a4, a5, a6, a7, a8, a9]) := by kernel_rfl
theorem pick_tt (a0 a1 a2 a3 a4 a5 a6 a7 a8 a9 b0 b1 b2 b3 b4 b5 b6 b7 b8 b9 : Int) : field_Pick_l1 true ⟨[b0, b1, b2, b3, b4, b5, b6, b7, b8, b9]⟩ FUEL 0 [a0, a1, a2, a3, a4, a5, a6, a7, a8, a9] = some (([a0, a1, a2, a3, a4, a5, a6, a7, a8, a9]).zipWith (fun x y => bits .u64 .or (bits .u64 .and x 18446744073709551615) (bits .u64 .andNot y 18446744073709551615)) [b0, b1, b2, b3, b4, b5, b6, b7, b8, b9]) := by kernel_rfl
theorem pick_ff (a0 a1 a2 a3 a4 a5 a6 a7 a8 a9 b0 b1 b2 b3 b4 b5 b6 b7 b8 b9 : Int) : field_Pick_l1 false ⟨[b0, b1, b2, b3, b4, b5, b6, b7, b8, b9]⟩ FUEL 0 [a0, a1, a2, a3, a4, a5, a6, a7, a8, a9] = some (([a0, a1, a2, a3, a4, a5, a6, a7, a8, a9]).zipWith (fun x y => bits .u64 .or (bits .u64 .and x 0) (bits .u64 .andNot y 0)) [b0, b1, b2, b3, b4, b5, b6, b7, b8, b9]) := by kernel_rfl
end Go.Eng
