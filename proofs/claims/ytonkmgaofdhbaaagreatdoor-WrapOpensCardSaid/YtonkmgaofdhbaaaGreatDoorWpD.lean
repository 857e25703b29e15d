/-
  Part of a proof: WpD.
-/
import Derived.Test.YtonkmgaofdhbaaaGreatDoorWpC
set_option linter.unusedVariables false
set_option linter.unusedSimpArgs false
namespace Go.Eng
set_option maxRecDepth 100000
set_option maxHeartbeats 1000000
theorem l18:Ar 2=some 2:=by kernel_rfl
theorem l19:Ar 3=some 3:=by kernel_rfl
theorem l21:Ar 5=some 5:=by kernel_rfl
theorem l22:Ar 7=some 7:=by kernel_rfl
theorem j01 {e:Nat} (h:e=2\/e=3\/e=5\/e=7):Ar e=some (e:Int):=by
 rcases h with rfl|rfl|rfl|rfl
 ·exact l18
 ·exact l19
 ·exact l21
 ·exact l22
theorem l23 (l:List Int):((List.map (fun q:Int=>UInt8.ofNat q.toNat) l)==(List.map (fun q:Int=>UInt8.ofNat q.toNat) l))=true:=beq_self_eq_true _
theorem j79 (x:z6):V3 x=some true\/(V3 x=some false/\x.fInfo.length≤17000/\x.fWith.length≤17000/\x.fSeed.length≤300):=by
 unfold V3
 by_cases h1:17000<x.fInfo.length
 ·left;rw [j7 (by simp<;>omega)]
 by_cases h2:17000<x.fWith.length
 ·left;rw [i0 (by simp<;>omega),j7 (by simp<;>omega)]
 by_cases h3:300<x.fSeed.length
 ·left;rw [i0 (by simp<;>omega),i0 (by simp<;>omega)];simp<;>omega
 ·right
  refine ⟨?_,by omega,by omega,by omega⟩
  rw [i0 (by simp<;>omega),i0 (by simp<;>omega)];simp<;>omega
theorem j80:∃ r,Vn=some r:=⟨(),by kernel_rfl⟩
theorem d20 {k s:List Int} {x:z6} (hk:q8 256 k) (lk:k.length=32) (hi:q8 256 x.fInfo) (wb:q8 256 x.fWith) (sb:q8 256 s):As k x s=some true:=by
 unfold As
 rw [j00,Option.bind_some,i0 (by rfl)]
 rcases j79 x with h|⟨h,h1,h2,h3⟩
 ·rw [h,Option.bind_some,j7 (by rfl)]
 rw [h,Option.bind_some,i0 (by rfl)]
 by_cases h4:17000<s.length
 ·rw [j7 (by simp<;>omega)]
 rw [i0 (by simp<;>omega)]
 rcases f36 hk lk hi (bl wb) (bl sb) (by omega) with ⟨p,a1,a2⟩|⟨e,he,a1,a2⟩
 ·obtain ⟨r,hr⟩:=j80
  rw [a1,Option.bind_some]
  dsimp only
  rw [a2,Option.bind_some]
  dsimp only
  rw [m6,j7 (l23 p),hr,Option.bind_some];rfl
 ·rw [a1,Option.bind_some]
  dsimp only
  rw [a2,Option.bind_some]
  dsimp only
  rw [m6,j7 (l23 []),j01 he,Option.bind_some,beq_self_eq_true]
end Go.Eng
