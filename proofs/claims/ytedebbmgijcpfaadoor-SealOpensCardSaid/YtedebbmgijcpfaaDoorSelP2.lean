/-
  Part of a proof: SelP2.
-/
import Derived.Test.YtedebbmgijcpfaaDoorSelP1
import Derived.KernelRfl
set_option linter.unusedVariables false
set_option linter.unusedSimpArgs false
set_option linter.unusedVariables false
namespace Go.Eng
open Go.Proofs
set_option maxRecDepth 100000
set_option maxHeartbeats 1000000
def qs0 : List Int -> List Int
 | [a0, a1, a2, a3, a4, a5, a6, a7, a8, a9, a10, a11, a12, a13, a14, a15] => [(qr a0 a4 a8 a12).1, a1, a2, a3, (qr a0 a4 a8 a12).2.1, a5, a6, a7, (qr a0 a4 a8 a12).2.2.1, a9, a10, a11, (qr a0 a4 a8 a12).2.2.2, a13, a14, a15]
 | l => l
theorem ref_q0 (a0 a1 a2 a3 a4 a5 a6 a7 a8 a9 a10 a11 a12 a13 a14 a15 : Int) : fr06_Quarter_3 16 0 4 8 12 [a0, a1, a2, a3, a4, a5, a6, a7, a8, a9, a10, a11, a12, a13, a14, a15] = some (qs0 [a0, a1, a2, a3, a4, a5, a6, a7, a8, a9, a10, a11, a12, a13, a14, a15]) := by kernel_rfl
theorem pro_q0 (a0 a1 a2 a3 a4 a5 a6 a7 a8 a9 a10 a11 a12 a13 a14 a15 : Int) : stream_state_quarter_2 0 4 8 12 [a0, a1, a2, a3, a4, a5, a6, a7, a8, a9, a10, a11, a12, a13, a14, a15] = some (qs0 [a0, a1, a2, a3, a4, a5, a6, a7, a8, a9, a10, a11, a12, a13, a14, a15]) := by kernel_rfl
def qs1 : List Int -> List Int
 | [a0, a1, a2, a3, a4, a5, a6, a7, a8, a9, a10, a11, a12, a13, a14, a15] => [a0, (qr a1 a5 a9 a13).1, a2, a3, a4, (qr a1 a5 a9 a13).2.1, a6, a7, a8, (qr a1 a5 a9 a13).2.2.1, a10, a11, a12, (qr a1 a5 a9 a13).2.2.2, a14, a15]
 | l => l
theorem ref_q1 (a0 a1 a2 a3 a4 a5 a6 a7 a8 a9 a10 a11 a12 a13 a14 a15 : Int) : fr06_Quarter_3 16 1 5 9 13 [a0, a1, a2, a3, a4, a5, a6, a7, a8, a9, a10, a11, a12, a13, a14, a15] = some (qs1 [a0, a1, a2, a3, a4, a5, a6, a7, a8, a9, a10, a11, a12, a13, a14, a15]) := by kernel_rfl
theorem pro_q1 (a0 a1 a2 a3 a4 a5 a6 a7 a8 a9 a10 a11 a12 a13 a14 a15 : Int) : stream_state_quarter_2 1 5 9 13 [a0, a1, a2, a3, a4, a5, a6, a7, a8, a9, a10, a11, a12, a13, a14, a15] = some (qs1 [a0, a1, a2, a3, a4, a5, a6, a7, a8, a9, a10, a11, a12, a13, a14, a15]) := by kernel_rfl
def qs2 : List Int -> List Int
 | [a0, a1, a2, a3, a4, a5, a6, a7, a8, a9, a10, a11, a12, a13, a14, a15] => [a0, a1, (qr a2 a6 a10 a14).1, a3, a4, a5, (qr a2 a6 a10 a14).2.1, a7, a8, a9, (qr a2 a6 a10 a14).2.2.1, a11, a12, a13, (qr a2 a6 a10 a14).2.2.2, a15]
 | l => l
theorem ref_q2 (a0 a1 a2 a3 a4 a5 a6 a7 a8 a9 a10 a11 a12 a13 a14 a15 : Int) : fr06_Quarter_3 16 2 6 10 14 [a0, a1, a2, a3, a4, a5, a6, a7, a8, a9, a10, a11, a12, a13, a14, a15] = some (qs2 [a0, a1, a2, a3, a4, a5, a6, a7, a8, a9, a10, a11, a12, a13, a14, a15]) := by kernel_rfl
theorem pro_q2 (a0 a1 a2 a3 a4 a5 a6 a7 a8 a9 a10 a11 a12 a13 a14 a15 : Int) : stream_state_quarter_2 2 6 10 14 [a0, a1, a2, a3, a4, a5, a6, a7, a8, a9, a10, a11, a12, a13, a14, a15] = some (qs2 [a0, a1, a2, a3, a4, a5, a6, a7, a8, a9, a10, a11, a12, a13, a14, a15]) := by kernel_rfl
def qs3 : List Int -> List Int
 | [a0, a1, a2, a3, a4, a5, a6, a7, a8, a9, a10, a11, a12, a13, a14, a15] => [a0, a1, a2, (qr a3 a7 a11 a15).1, a4, a5, a6, (qr a3 a7 a11 a15).2.1, a8, a9, a10, (qr a3 a7 a11 a15).2.2.1, a12, a13, a14, (qr a3 a7 a11 a15).2.2.2]
 | l => l
theorem ref_q3 (a0 a1 a2 a3 a4 a5 a6 a7 a8 a9 a10 a11 a12 a13 a14 a15 : Int) : fr06_Quarter_3 16 3 7 11 15 [a0, a1, a2, a3, a4, a5, a6, a7, a8, a9, a10, a11, a12, a13, a14, a15] = some (qs3 [a0, a1, a2, a3, a4, a5, a6, a7, a8, a9, a10, a11, a12, a13, a14, a15]) := by kernel_rfl
theorem pro_q3 (a0 a1 a2 a3 a4 a5 a6 a7 a8 a9 a10 a11 a12 a13 a14 a15 : Int) : stream_state_quarter_2 3 7 11 15 [a0, a1, a2, a3, a4, a5, a6, a7, a8, a9, a10, a11, a12, a13, a14, a15] = some (qs3 [a0, a1, a2, a3, a4, a5, a6, a7, a8, a9, a10, a11, a12, a13, a14, a15]) := by kernel_rfl
def qs4 : List Int -> List Int
 | [a0, a1, a2, a3, a4, a5, a6, a7, a8, a9, a10, a11, a12, a13, a14, a15] => [(qr a0 a5 a10 a15).1, a1, a2, a3, a4, (qr a0 a5 a10 a15).2.1, a6, a7, a8, a9, (qr a0 a5 a10 a15).2.2.1, a11, a12, a13, a14, (qr a0 a5 a10 a15).2.2.2]
 | l => l
theorem ref_q4 (a0 a1 a2 a3 a4 a5 a6 a7 a8 a9 a10 a11 a12 a13 a14 a15 : Int) : fr06_Quarter_3 16 0 5 10 15 [a0, a1, a2, a3, a4, a5, a6, a7, a8, a9, a10, a11, a12, a13, a14, a15] = some (qs4 [a0, a1, a2, a3, a4, a5, a6, a7, a8, a9, a10, a11, a12, a13, a14, a15]) := by kernel_rfl
theorem pro_q4 (a0 a1 a2 a3 a4 a5 a6 a7 a8 a9 a10 a11 a12 a13 a14 a15 : Int) : stream_state_quarter_2 0 5 10 15 [a0, a1, a2, a3, a4, a5, a6, a7, a8, a9, a10, a11, a12, a13, a14, a15] = some (qs4 [a0, a1, a2, a3, a4, a5, a6, a7, a8, a9, a10, a11, a12, a13, a14, a15]) := by kernel_rfl
def qs5 : List Int -> List Int
 | [a0, a1, a2, a3, a4, a5, a6, a7, a8, a9, a10, a11, a12, a13, a14, a15] => [a0, (qr a1 a6 a11 a12).1, a2, a3, a4, a5, (qr a1 a6 a11 a12).2.1, a7, a8, a9, a10, (qr a1 a6 a11 a12).2.2.1, (qr a1 a6 a11 a12).2.2.2, a13, a14, a15]
 | l => l
theorem ref_q5 (a0 a1 a2 a3 a4 a5 a6 a7 a8 a9 a10 a11 a12 a13 a14 a15 : Int) : fr06_Quarter_3 16 1 6 11 12 [a0, a1, a2, a3, a4, a5, a6, a7, a8, a9, a10, a11, a12, a13, a14, a15] = some (qs5 [a0, a1, a2, a3, a4, a5, a6, a7, a8, a9, a10, a11, a12, a13, a14, a15]) := by kernel_rfl
theorem pro_q5 (a0 a1 a2 a3 a4 a5 a6 a7 a8 a9 a10 a11 a12 a13 a14 a15 : Int) : stream_state_quarter_2 1 6 11 12 [a0, a1, a2, a3, a4, a5, a6, a7, a8, a9, a10, a11, a12, a13, a14, a15] = some (qs5 [a0, a1, a2, a3, a4, a5, a6, a7, a8, a9, a10, a11, a12, a13, a14, a15]) := by kernel_rfl
def qs6 : List Int -> List Int
 | [a0, a1, a2, a3, a4, a5, a6, a7, a8, a9, a10, a11, a12, a13, a14, a15] => [a0, a1, (qr a2 a7 a8 a13).1, a3, a4, a5, a6, (qr a2 a7 a8 a13).2.1, (qr a2 a7 a8 a13).2.2.1, a9, a10, a11, a12, (qr a2 a7 a8 a13).2.2.2, a14, a15]
 | l => l
theorem ref_q6 (a0 a1 a2 a3 a4 a5 a6 a7 a8 a9 a10 a11 a12 a13 a14 a15 : Int) : fr06_Quarter_3 16 2 7 8 13 [a0, a1, a2, a3, a4, a5, a6, a7, a8, a9, a10, a11, a12, a13, a14, a15] = some (qs6 [a0, a1, a2, a3, a4, a5, a6, a7, a8, a9, a10, a11, a12, a13, a14, a15]) := by kernel_rfl
theorem pro_q6 (a0 a1 a2 a3 a4 a5 a6 a7 a8 a9 a10 a11 a12 a13 a14 a15 : Int) : stream_state_quarter_2 2 7 8 13 [a0, a1, a2, a3, a4, a5, a6, a7, a8, a9, a10, a11, a12, a13, a14, a15] = some (qs6 [a0, a1, a2, a3, a4, a5, a6, a7, a8, a9, a10, a11, a12, a13, a14, a15]) := by kernel_rfl
def qs7 : List Int -> List Int
 | [a0, a1, a2, a3, a4, a5, a6, a7, a8, a9, a10, a11, a12, a13, a14, a15] => [a0, a1, a2, (qr a3 a4 a9 a14).1, (qr a3 a4 a9 a14).2.1, a5, a6, a7, a8, (qr a3 a4 a9 a14).2.2.1, a10, a11, a12, a13, (qr a3 a4 a9 a14).2.2.2, a15]
 | l => l
theorem ref_q7 (a0 a1 a2 a3 a4 a5 a6 a7 a8 a9 a10 a11 a12 a13 a14 a15 : Int) : fr06_Quarter_3 16 3 4 9 14 [a0, a1, a2, a3, a4, a5, a6, a7, a8, a9, a10, a11, a12, a13, a14, a15] = some (qs7 [a0, a1, a2, a3, a4, a5, a6, a7, a8, a9, a10, a11, a12, a13, a14, a15]) := by kernel_rfl
theorem pro_q7 (a0 a1 a2 a3 a4 a5 a6 a7 a8 a9 a10 a11 a12 a13 a14 a15 : Int) : stream_state_quarter_2 3 4 9 14 [a0, a1, a2, a3, a4, a5, a6, a7, a8, a9, a10, a11, a12, a13, a14, a15] = some (qs7 [a0, a1, a2, a3, a4, a5, a6, a7, a8, a9, a10, a11, a12, a13, a14, a15]) := by kernel_rfl
end Go.Eng
