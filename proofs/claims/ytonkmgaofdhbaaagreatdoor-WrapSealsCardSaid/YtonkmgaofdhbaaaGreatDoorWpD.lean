/-
  Part of a proof: WpD.
-/
import Derived.Test.YtonkmgaofdhbaaaGreatDoorWpC
set_option linter.unusedVariables false
set_option linter.unusedSimpArgs false
namespace Go.Eng
set_option maxRecDepth 100000
set_option maxHeartbeats 1000000
theorem l32:Au 2=some 2:=by kernel_rfl
theorem l33:Au 3=some 3:=by kernel_rfl
theorem l34:Au 5=some 5:=by kernel_rfl
theorem l35:Au 7=some 7:=by kernel_rfl
theorem j15 {e:Nat} (h:e=2\/e=3\/e=5\/e=7):Au e=some (e:Int):=by
 rcases h with rfl|rfl|rfl|rfl
 ·exact l32
 ·exact l33
 ·exact l34
 ·exact l35
theorem l36 (l:List Int):((List.map (fun q:Int=>UInt8.ofNat q.toNat) l)==(List.map (fun q:Int=>UInt8.ofNat q.toNat) l))=true:=beq_self_eq_true _
theorem j92 (x:z6):V4 x=some true\/(V4 x=some false/\x.fInfo.length≤17000/\x.fWith.length≤17000/\x.fSeed.length≤300):=by
 unfold V4
 by_cases h1:17000<x.fInfo.length
 ·left;rw [j7 (by simp<;>omega)]
 by_cases h2:17000<x.fWith.length
 ·left;rw [i0 (by simp<;>omega),j7 (by simp<;>omega)]
 by_cases h3:300<x.fSeed.length
 ·left;rw [i0 (by simp<;>omega),i0 (by simp<;>omega)];simp<;>omega
 ·right
  refine ⟨?_,by omega,by omega,by omega⟩
  rw [i0 (by simp<;>omega),i0 (by simp<;>omega)];simp<;>omega
theorem j93:∃ r,Wf=some r:=⟨(),by kernel_rfl⟩
theorem f53 {to info w p sd:List Int} (ht:p9 256 to) (lt:to.length=32) (hi:p9 256 info) (hs:p9 256 sd) (ls:sd.length≤300) (wb:Ci w) (pb:Ci p) :
  (∃ q,An to info w p [sd]=some (.inl q)/\Dm to info w p sd=some (0,q))\/∃ e:Nat,(e=2\/e=3\/e=5\/e=7)/\An to info w p [sd]=some (.inr e)/\Dm to info w p sd=some ((e:Int),[]):=by
 have h1:=e78 (w:=w) (p:=p) ht lt hi hs ls
 have h2:=e80 ht lt hi hs ls wb pb
 by_cases g:16384<info.length
 ·rw [if_pos g] at h1 h2;exact .inr ⟨3,.inr (.inl rfl),h1,h2⟩
 rw [if_neg g] at h1 h2
 generalize Ct to sd=ec at h1 h2
 cases ec with
 |inr u=>exact .inr ⟨5,.inr (.inr (.inl rfl)),h1,h2⟩
 |inl c =>
  dsimp only at h1 h2
  by_cases g2:16384<w.length\/16384<p.length
  ·rw [if_pos g2] at h1 h2;exact .inr ⟨3,.inr (.inl rfl),h1,h2⟩
  ·rw [if_neg g2] at h1 h2;exact .inl ⟨_,h1,h2⟩
theorem d35 {to p:List Int} {x:z6} (ht:p9 256 to) (lt:to.length=32) (hi:p9 256 x.fInfo) (wb:p9 256 x.fWith) (hs:p9 256 x.fSeed) (pb:p9 256 p):Av to x p=some true:=by
 unfold Av
 rw [j14,Option.bind_some,i0 (by rfl)]
 rcases j92 x with h|⟨h,h1,h2,h3⟩
 ·rw [h,Option.bind_some,j7 (by rfl)]
 rw [h,Option.bind_some,i0 (by rfl)]
 by_cases h4:17000<p.length
 ·rw [j7 (by simp<;>omega)]
 rw [i0 (by simp<;>omega),Xu ht lt wb (by omega),b65 ht lt wb (by omega)]
 have hAB:=f53 (w:=x.fWith) (p:=p) ht lt hi hs h3 (bl wb) (bl pb)
 rcases hAB with ⟨q,a1,a2⟩|⟨e,he,a1,a2⟩
 ·obtain ⟨r,hr⟩:=j93
  rw [a1,a2,Option.bind_some]
  dsimp only [Option.bind_some]
  rw [m6,j7 (l36 q),hr,Option.bind_some,j7 (by rfl),j7 (beq_self_eq_true _),m6,m6]
  exact congrArg some (beq_self_eq_true _)
 ·rw [a1,a2,Option.bind_some]
  dsimp only [Option.bind_some]
  rw [m6,j7 (l36 []),j15 he,Option.bind_some,j7 (beq_self_eq_true _),j7 (beq_self_eq_true _),m6,m6]
  exact congrArg some (beq_self_eq_true _)
end Go.Eng
