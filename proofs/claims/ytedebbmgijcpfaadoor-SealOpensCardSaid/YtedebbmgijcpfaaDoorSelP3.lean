/-
  Part of a proof: SelP3.
-/
import Derived.Test.YtedebbmgijcpfaaDoorSelP2
import Derived.KernelRfl
set_option linter.unusedVariables false
set_option linter.unusedSimpArgs false
set_option linter.unusedVariables false
set_option linter.unusedSimpArgs false
namespace Go.Eng
open Go.Proofs
set_option maxRecDepth 100000
set_option maxHeartbeats 1000000
theorem l16 {α : Type} {l : List α} (h : l.length = 16) : ∃ a0 a1 a2 a3 a4 a5 a6 a7 a8 a9 a10 a11 a12 a13 a14 a15, l = [a0, a1, a2, a3, a4, a5, a6, a7, a8, a9, a10, a11, a12, a13, a14, a15] := by
 match l, h with
 | [a0, a1, a2, a3, a4, a5, a6, a7, a8, a9, a10, a11, a12, a13, a14, a15], _ => exact ⟨_, _, _, _, _, _, _, _, _, _, _, _, _, _, _, _, rfl⟩
theorem rq0 {l : List Int} (h : l.length = 16) : fr06_Quarter_3 16 0 4 8 12 l = some (qs0 l) /\ stream_state_quarter_2 0 4 8 12 l = some (qs0 l) /\ (qs0 l).length = 16 := by
 obtain ⟨a0, a1, a2, a3, a4, a5, a6, a7, a8, a9, a10, a11, a12, a13, a14, a15, rfl⟩ := l16 h
 exact ⟨ref_q0 .., pro_q0 .., rfl⟩
theorem rq1 {l : List Int} (h : l.length = 16) : fr06_Quarter_3 16 1 5 9 13 l = some (qs1 l) /\ stream_state_quarter_2 1 5 9 13 l = some (qs1 l) /\ (qs1 l).length = 16 := by
 obtain ⟨a0, a1, a2, a3, a4, a5, a6, a7, a8, a9, a10, a11, a12, a13, a14, a15, rfl⟩ := l16 h
 exact ⟨ref_q1 .., pro_q1 .., rfl⟩
theorem rq2 {l : List Int} (h : l.length = 16) : fr06_Quarter_3 16 2 6 10 14 l = some (qs2 l) /\ stream_state_quarter_2 2 6 10 14 l = some (qs2 l) /\ (qs2 l).length = 16 := by
 obtain ⟨a0, a1, a2, a3, a4, a5, a6, a7, a8, a9, a10, a11, a12, a13, a14, a15, rfl⟩ := l16 h
 exact ⟨ref_q2 .., pro_q2 .., rfl⟩
theorem rq3 {l : List Int} (h : l.length = 16) : fr06_Quarter_3 16 3 7 11 15 l = some (qs3 l) /\ stream_state_quarter_2 3 7 11 15 l = some (qs3 l) /\ (qs3 l).length = 16 := by
 obtain ⟨a0, a1, a2, a3, a4, a5, a6, a7, a8, a9, a10, a11, a12, a13, a14, a15, rfl⟩ := l16 h
 exact ⟨ref_q3 .., pro_q3 .., rfl⟩
theorem rq4 {l : List Int} (h : l.length = 16) : fr06_Quarter_3 16 0 5 10 15 l = some (qs4 l) /\ stream_state_quarter_2 0 5 10 15 l = some (qs4 l) /\ (qs4 l).length = 16 := by
 obtain ⟨a0, a1, a2, a3, a4, a5, a6, a7, a8, a9, a10, a11, a12, a13, a14, a15, rfl⟩ := l16 h
 exact ⟨ref_q4 .., pro_q4 .., rfl⟩
theorem rq5 {l : List Int} (h : l.length = 16) : fr06_Quarter_3 16 1 6 11 12 l = some (qs5 l) /\ stream_state_quarter_2 1 6 11 12 l = some (qs5 l) /\ (qs5 l).length = 16 := by
 obtain ⟨a0, a1, a2, a3, a4, a5, a6, a7, a8, a9, a10, a11, a12, a13, a14, a15, rfl⟩ := l16 h
 exact ⟨ref_q5 .., pro_q5 .., rfl⟩
theorem rq6 {l : List Int} (h : l.length = 16) : fr06_Quarter_3 16 2 7 8 13 l = some (qs6 l) /\ stream_state_quarter_2 2 7 8 13 l = some (qs6 l) /\ (qs6 l).length = 16 := by
 obtain ⟨a0, a1, a2, a3, a4, a5, a6, a7, a8, a9, a10, a11, a12, a13, a14, a15, rfl⟩ := l16 h
 exact ⟨ref_q6 .., pro_q6 .., rfl⟩
theorem rq7 {l : List Int} (h : l.length = 16) : fr06_Quarter_3 16 3 4 9 14 l = some (qs7 l) /\ stream_state_quarter_2 3 4 9 14 l = some (qs7 l) /\ (qs7 l).length = 16 := by
 obtain ⟨a0, a1, a2, a3, a4, a5, a6, a7, a8, a9, a10, a11, a12, a13, a14, a15, rfl⟩ := l16 h
 exact ⟨ref_q7 .., pro_q7 .., rfl⟩
def dblL (l : List Int) : List Int := qs7 (qs6 (qs5 (qs4 (qs3 (qs2 (qs1 (qs0 l)))))))
theorem dbl_len {l : List Int} (h : l.length = 16) : (dblL l).length = 16 := (rq7 (rq6 (rq5 (rq4 (rq3 (rq2 (rq1 (rq0 h).2.2).2.2).2.2).2.2).2.2).2.2).2.2).2.2
theorem dbl_l1 (l : List Int) : stream_state_double_2_l1 FUEL 0 l = (stream_state_quarter_2 0 4 8 12 l).bind fun l => (stream_state_quarter_2 1 5 9 13 l).bind fun l => (stream_state_quarter_2 2 6 10 14 l).bind fun l => (stream_state_quarter_2 3 7 11 15 l).bind fun l => some l := by kernel_rfl
theorem dbl_l2 (l : List Int) : stream_state_double_2_l2 FUEL 0 l = (stream_state_quarter_2 0 5 10 15 l).bind fun l => (stream_state_quarter_2 1 6 11 12 l).bind fun l => (stream_state_quarter_2 2 7 8 13 l).bind fun l => (stream_state_quarter_2 3 4 9 14 l).bind fun l => some l := by kernel_rfl
theorem double_is {l : List Int} (h : l.length = 16) : stream_state_double_2 l = some (dblL l) := by
 have h1 := (rq0 h).2.2
 have h2 := (rq1 h1).2.2
 have h3 := (rq2 h2).2.2
 have h4 := (rq3 h3).2.2
 have h5 := (rq4 h4).2.2
 have h6 := (rq5 h5).2.2
 have h7 := (rq6 h6).2.2
 unfold stream_state_double_2
 rw [dbl_l1, (rq0 h).2.1, Option.bind_some, (rq1 h1).2.1, Option.bind_some, (rq2 h2).2.1, Option.bind_some, (rq3 h3).2.1, Option.bind_some, Option.bind_some, dbl_l2, (rq4 h4).2.1, Option.bind_some, (rq5 h5).2.1, Option.bind_some, (rq6 h6).2.1, Option.bind_some, (rq7 h7).2.1, Option.bind_some, Option.bind_some]
 rfl
end Go.Eng
