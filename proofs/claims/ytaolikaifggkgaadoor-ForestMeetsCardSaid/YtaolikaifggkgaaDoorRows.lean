/-
  NARROWER THAN 'FOR EVERY INPUT', by the rows' own cells (each row's printed sentence says how): ForestOf: laid · ForestChains: laid · ForestMeets: laid.
  DERIVED. THE GIVEN ROWS OF THIS SEAT. 3 by the template 'for every input the law returns true; each argument reads behind the call as it read before'; 0 by the template 'total and deterministic' (their statements: YtaolikaifggkgaaDoorTotals.lean).
  GIVEN WITH THE SEED: the statements are not yours to turn. If you find one false, say at which input.
  Laid BY PROGRAM, IN A SANDBOX (cutbox-rows.mjs): the forced cells as the released guide's own fill.sh prints them over the translation 63bc3562993083bb… (all of the seat's roots in one cut). By AI agents, Wed Nov 11 2026. No macro, syntax, notation, axiom, sorry.
-/
import Derived.Test.YtaolikaifggkgaaDoorChecked
import GoSem.Claim
import GoSem.ClaimJoined
import GoSem.ClaimMapViews
import Derived.JoinedTies
import Derived.KernelRfl
namespace Go.Proofs.YtaolikaifggkgaaDoor
/- THE CELL 'sum', in the pinned program and in every row, IS THE sha256 OF THE DUMP (.gsa) THAT YtaolikaifggkgaaDoorProg.lean LOADS. Nothing in Lean hashes anything: it is a label: what it is worth is what the hold of that sum in a sandbox is worth. -/
noncomputable def Tryd.pinned : Pinned := { name := "ytaolikaifggkgaadoor", sum := "63bc3562993083bb17ba7a15177861ffb083d4afa6b6a63785b8c6c595bd4caa", checked := Tryd.checked }
namespace Rows
def none {H : Type} : Left H := { results := [], args := [] }

/- WHAT THE LISTED PACKAGE-LEVEL VARIABLES READ AS WHEN THE CALL BEGINS. Each datum BY PROGRAM (the guide's laid-datum.mjs) off the statement by which the dump's own 'gosem.cut.vars' lays the variable. In a bare row this is a premise. The card (YtaolikaifggkgaaDoorCards.lean) ties it to the program's text. -/
def laid_fellowship_api_ErrPath {H : Type} : DataW H := .iface "*errors.errorString" (.ptr (.agg [.lit (.string [102, 101, 108, 108, 111, 119, 115, 104, 105, 112, 58, 32, 112, 97, 116, 104])]))
def laid_fellowship_api_ErrState {H : Type} : DataW H := .iface "*errors.errorString" (.ptr (.agg [.lit (.string [102, 101, 108, 108, 111, 119, 115, 104, 105, 112, 58, 32, 115, 116, 97, 116, 101])]))
def laid_fellowship_api_ErrTwice {H : Type} : DataW H := .iface "*errors.errorString" (.ptr (.agg [.lit (.string [102, 101, 108, 108, 111, 119, 115, 104, 105, 112, 58, 32, 116, 119, 105, 99, 101])]))
def laid_fellowship_api_ErrRange {H : Type} : DataW H := .iface "*errors.errorString" (.ptr (.agg [.lit (.string [102, 101, 108, 108, 111, 119, 115, 104, 105, 112, 58, 32, 114, 97, 110, 103, 101])]))

/-- 'fellowshiplaw31.ForestOf': WHATEVER THE INPUT: true; the input reads as it did. -/
def forestOfSpec : ChangeSpec := { name := "forestOf", fn := fun _ => fun
  | [d1, d2] => { results := [.lit (.bool true)], args := [d1, d2] }
  | _ => none }
def forestOfRow : OpenClaim := { program := "ytaolikaifggkgaadoor", sum := "63bc3562993083bb17ba7a15177861ffb083d4afa6b6a63785b8c6c595bd4caa", func := "fellowship/fellowshiplaw31.ForestOf", spec := "forestOf", named := ["fellowship/api.ErrState", "fellowship/api.ErrTwice", "fellowship/api.ErrPath"], plainKeys := false, apart := false, laid := [("fellowship/api.ErrPath", laid_fellowship_api_ErrPath), ("fellowship/api.ErrState", laid_fellowship_api_ErrState), ("fellowship/api.ErrTwice", laid_fellowship_api_ErrTwice)] }
def ForestOfSaid : Prop := forestOfRow.holds Tryd.pinned (OpenSpec.ofChange forestOfSpec)

/-- ITS FALSE NEIGHBOUR: 'it returns false'. Refute it at one input. -/
def forestOfWrong : ChangeSpec := { name := "forestOf", fn := fun _ => fun
  | [d1, d2] => { results := [.lit (.bool false)], args := [d1, d2] }
  | _ => none }
def ForestOfWrongFalsely : Prop := forestOfRow.holds Tryd.pinned (OpenSpec.ofChange forestOfWrong)

/-- 'fellowshiplaw31.ForestChains': WHATEVER THE INPUT: true; the input reads as it did. -/
def forestChainsSpec : ChangeSpec := { name := "forestChains", fn := fun _ => fun
  | [d] => { results := [.lit (.bool true)], args := [d] }
  | _ => none }
def forestChainsRow : OpenClaim := { program := "ytaolikaifggkgaadoor", sum := "63bc3562993083bb17ba7a15177861ffb083d4afa6b6a63785b8c6c595bd4caa", func := "fellowship/fellowshiplaw31.ForestChains", spec := "forestChains", named := ["fellowship/api.ErrState", "fellowship/api.ErrTwice", "fellowship/api.ErrPath", "fellowship/api.ErrRange"], plainKeys := false, apart := false, laid := [("fellowship/api.ErrRange", laid_fellowship_api_ErrRange), ("fellowship/api.ErrPath", laid_fellowship_api_ErrPath), ("fellowship/api.ErrState", laid_fellowship_api_ErrState), ("fellowship/api.ErrTwice", laid_fellowship_api_ErrTwice)] }
def ForestChainsSaid : Prop := forestChainsRow.holds Tryd.pinned (OpenSpec.ofChange forestChainsSpec)

/-- ITS FALSE NEIGHBOUR: 'it returns false'. Refute it at one input. -/
def forestChainsWrong : ChangeSpec := { name := "forestChains", fn := fun _ => fun
  | [d] => { results := [.lit (.bool false)], args := [d] }
  | _ => none }
def ForestChainsWrongFalsely : Prop := forestChainsRow.holds Tryd.pinned (OpenSpec.ofChange forestChainsWrong)

/-- 'fellowshiplaw31.ForestMeets': WHATEVER THE INPUT: true; the input reads as it did. -/
def forestMeetsSpec : ChangeSpec := { name := "forestMeets", fn := fun _ => fun
  | [d1, d2, d3] => { results := [.lit (.bool true)], args := [d1, d2, d3] }
  | _ => none }
def forestMeetsRow : OpenClaim := { program := "ytaolikaifggkgaadoor", sum := "63bc3562993083bb17ba7a15177861ffb083d4afa6b6a63785b8c6c595bd4caa", func := "fellowship/fellowshiplaw31.ForestMeets", spec := "forestMeets", unfollowed := true, recurses := true, named := ["fellowship/api.ErrState", "fellowship/api.ErrTwice", "fellowship/api.ErrPath"], plainKeys := false, apart := false, laid := [("fellowship/api.ErrPath", laid_fellowship_api_ErrPath), ("fellowship/api.ErrState", laid_fellowship_api_ErrState), ("fellowship/api.ErrTwice", laid_fellowship_api_ErrTwice)] }
def ForestMeetsSaid : Prop := forestMeetsRow.holds Tryd.pinned (OpenSpec.ofChange forestMeetsSpec)

/-- ITS FALSE NEIGHBOUR: 'it returns false'. Refute it at one input. -/
def forestMeetsWrong : ChangeSpec := { name := "forestMeets", fn := fun _ => fun
  | [d1, d2, d3] => { results := [.lit (.bool false)], args := [d1, d2, d3] }
  | _ => none }
def ForestMeetsWrongFalsely : Prop := forestMeetsRow.holds Tryd.pinned (OpenSpec.ofChange forestMeetsWrong)

/- THE SECOND FORM. 'bulk': how many values and letters a reading holds, each counted each time it is reached (what is shared counts as often as it is met; a slice's spare places count too). A statement '..UptoSaid' is the law's where the arguments, and the package variables that the reading takes, are together of bulk at most 1048576: NARROWER than '..Said'. Prove '..Said' where nothing that the law and all that it calls make is longer than what came in: it says more and counts as full. Else prove '..UptoSaid'. A law counts once. -/
mutual
def uptoBulk {H : Type} : DataW H → Nat
  | .lit (.string bytes) => bytes.length + 1
  | .lit _ => 1
  | .nil => 1
  | .ptr d => uptoBulk d + 1
  | .slice elems spare => uptoBulkAll elems + uptoBulkAll spare + 1
  | .agg parts => uptoBulkAll parts + 1
  | .iface _ d => uptoBulk d + 1
  | .map entries => uptoBulkEntries entries + 1
  | .held _ => 1
def uptoBulkAll {H : Type} : List (DataW H) → Nat
  | [] => 0
  | d :: r => uptoBulk d + uptoBulkAll r
def uptoBulkEntries {H : Type} : List (Lit × DataW H) → Nat
  | [] => 0
  | x :: r => uptoBulkEntry x + uptoBulkEntries r
def uptoBulkEntry {H : Type} : Lit × DataW H → Nat
  | (.string bytes, d) => bytes.length + uptoBulk d + 1
  | (_, d) => uptoBulk d + 1
 end
def uptoSmall : (H : Type) → List (DataW H) → Bool := fun _ ds => decide (uptoBulkAll ds ≤ 1048576)
def OpenSpec.upto (s : _root_.Go.ChangeSpec) : _root_.Go.OpenSpec := { _root_.Go.OpenSpec.ofChange s with cond := some uptoSmall }

/-- 'fellowshiplaw31.ForestOf', WHERE WHAT IT READS IS OF BULK AT MOST 1048576: true; the input reads as it did. -/
def forestOfUptoRow : OpenClaim := { program := "ytaolikaifggkgaadoor", sum := "63bc3562993083bb17ba7a15177861ffb083d4afa6b6a63785b8c6c595bd4caa", func := "fellowship/fellowshiplaw31.ForestOf", spec := "forestOf", named := ["fellowship/api.ErrState", "fellowship/api.ErrTwice", "fellowship/api.ErrPath"], plainKeys := false, apart := false, laid := [("fellowship/api.ErrPath", laid_fellowship_api_ErrPath), ("fellowship/api.ErrState", laid_fellowship_api_ErrState), ("fellowship/api.ErrTwice", laid_fellowship_api_ErrTwice)], narrowed := true }
def ForestOfUptoSaid : Prop := forestOfUptoRow.holds Tryd.pinned (OpenSpec.upto forestOfSpec)

/-- 'fellowshiplaw31.ForestChains', WHERE WHAT IT READS IS OF BULK AT MOST 1048576: true; the input reads as it did. -/
def forestChainsUptoRow : OpenClaim := { program := "ytaolikaifggkgaadoor", sum := "63bc3562993083bb17ba7a15177861ffb083d4afa6b6a63785b8c6c595bd4caa", func := "fellowship/fellowshiplaw31.ForestChains", spec := "forestChains", named := ["fellowship/api.ErrState", "fellowship/api.ErrTwice", "fellowship/api.ErrPath", "fellowship/api.ErrRange"], plainKeys := false, apart := false, laid := [("fellowship/api.ErrRange", laid_fellowship_api_ErrRange), ("fellowship/api.ErrPath", laid_fellowship_api_ErrPath), ("fellowship/api.ErrState", laid_fellowship_api_ErrState), ("fellowship/api.ErrTwice", laid_fellowship_api_ErrTwice)], narrowed := true }
def ForestChainsUptoSaid : Prop := forestChainsUptoRow.holds Tryd.pinned (OpenSpec.upto forestChainsSpec)

/-- 'fellowshiplaw31.ForestMeets', WHERE WHAT IT READS IS OF BULK AT MOST 1048576: true; the input reads as it did. -/
def forestMeetsUptoRow : OpenClaim := { program := "ytaolikaifggkgaadoor", sum := "63bc3562993083bb17ba7a15177861ffb083d4afa6b6a63785b8c6c595bd4caa", func := "fellowship/fellowshiplaw31.ForestMeets", spec := "forestMeets", unfollowed := true, recurses := true, named := ["fellowship/api.ErrState", "fellowship/api.ErrTwice", "fellowship/api.ErrPath"], plainKeys := false, apart := false, laid := [("fellowship/api.ErrPath", laid_fellowship_api_ErrPath), ("fellowship/api.ErrState", laid_fellowship_api_ErrState), ("fellowship/api.ErrTwice", laid_fellowship_api_ErrTwice)], narrowed := true }
def ForestMeetsUptoSaid : Prop := forestMeetsUptoRow.holds Tryd.pinned (OpenSpec.upto forestMeetsSpec)

end Rows
end Go.Proofs.YtaolikaifggkgaaDoor
