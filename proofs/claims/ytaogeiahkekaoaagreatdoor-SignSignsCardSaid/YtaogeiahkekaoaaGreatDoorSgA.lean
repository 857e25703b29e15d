/-
  Part of a proof: SgA.
-/
import Derived.Test.YtaogeiahkekaoaaGreatDoorSgGa
import Derived.KernelRfl
set_option linter.unusedVariables false
set_option linter.unusedSimpArgs false
set_option linter.unusedVariables false
set_option linter.unusedSimpArgs false
namespace Go.Eng
set_option maxRecDepth 100000
set_option maxHeartbeats 4000000
def sL1:List Int:=[1,0,0,0,0,0,0,0,0,0,0,0,0,0,0,0,0,0,0,0,0,0,0,0,0,0,0,0,0,0,0,0]
def sL2:List Int:=[2,0,0,0,0,0,0,0,0,0,0,0,0,0,0,0,0,0,0,0,0,0,0,0,0,0,0,0,0,0,0,0]
def wL1:List Int:=[206,12,38,94,204,130,221,140,238,110,86,206,68,228,93,175,215,160,197,117,13,249,20,178,83,161,251,122,138,246,109,219,153,118,54,7,240,168,93,11,212,54,105,25,74,58,64,87,122,82,138,243,149,244,241,126,6,241,222,252,198,222,178,165]
def wL2:List Int:=[186,61,12,71,245,159,79,234,224,247,157,109,49,41,89,13,68,76,148,199,67,222,153,203,63,186,1,164,230,210,16,59,67,84,239,167,228,132,35,93,52,94,246,233,232,28,241,132,121,107,157,3,47,12,128,252,49,59,248,197,66,49,88,154]
def rL:List Int:=[222,230,150,190,162,57,102,46,103,239,222,218,202,143,82,47,127,122,238,17,43,215,179,107,123,33,250,35,237,226,2,31]
def pL1:List Int:=[206,204,21,7,220,29,221,114,149,149,28,41,8,136,240,149,173,185,4,77,27,115,214,150,230,223,6,93,104,59,212,252]
def pL2:List Int:=[107,121,197,126,106,9,82,57,40,44,4,129,142,150,17,47,63,3,164,0,27,169,122,86,76,35,133,42,63,30,165,252]
abbrev aN1:Nat:=41354757114163650016304086911142683682198188400503391378057401993857692208328
abbrev aN2:Nat:=55664205513570705882943352121533683204085728697754008713616386209201003445688
abbrev rN:Nat:=3074186201944897198078527609885529445307900368435549988070374619371579677415
abbrev hN1:Nat:=6285308940129792820454355301134625136493137520830403794332846006747471739295
abbrev hN2:Nat:=4552352338528907286797675715543402463484267819218852012689592920313631079068
theorem sh1:shaC sL1=some wL1:=by kernel_rfl
theorem sh2:shaC sL2=some wL2:=by kernel_rfl
theorem sh3:shaC (List.take 32 (List.drop 32 wL1)++[97])=some [11,35,46,32,6,78,30,85,240,190,68,155,1,88,107,60,161,219,58,196,14,97,214,156,203,160,87,146,23,238,27,2,191,141,34,200,232,144,91,224,165,171,168,61,115,159,12,138,93,38,247,249,50,176,221,153,69,215,204,203,238,235,133,46]:=by kernel_rfl
theorem sh4:shaC (rL++pL1++[97])=some [84,90,166,222,231,187,241,245,135,112,226,216,51,154,22,238,19,228,152,171,46,83,173,0,174,126,38,192,0,92,18,77,128,40,106,101,67,155,6,117,76,38,174,79,208,179,204,217,214,152,66,19,182,197,197,55,103,51,113,241,162,217,108,29]:=by kernel_rfl
theorem sh5:shaC (rL++pL2++[97])=some [237,89,125,251,0,230,96,237,141,255,89,250,224,230,65,199,2,147,88,11,113,247,74,42,29,120,250,41,164,15,30,17,28,69,107,61,35,31,190,65,78,59,115,71,58,148,128,79,102,124,103,53,218,75,85,78,1,102,162,255,118,1,106,48]:=by kernel_rfl
theorem cl1:ladder_Clamp (List.take 32 (List.take 32 wL1))=some (zl (limbsN 8 32 aN1)):=by kernel_rfl
theorem cl2:ladder_Clamp (List.take 32 (List.take 32 wL2))=some (zl (limbsN 8 32 aN2)):=by kernel_rfl
theorem sec1:sign_secret sL1=some (zl (limbsN 8 32 aN1),wL1):=by
 unfold sign_secret
 rw [Sum1_is (by decide),show List.take 32 sL1=sL1 from rfl,sh1,Option.bind_some,if_pos (by decide),cl1];rfl
theorem sec2:sign_secret sL2=some (zl (limbsN 8 32 aN2),wL2):=by
 unfold sign_secret
 rw [Sum1_is (by decide),show List.take 32 sL2=sL2 from rfl,sh2,Option.bind_some,if_pos (by decide),cl2];rfl
theorem hr_is:hN (List.take 32 (List.drop 32 wL1)++[97])=rN:=by
 unfold hN
 rw [sh3];kernel_rfl
theorem h1_is:hN (rL++pL1++[97])=hN1:=by
 unfold hN
 rw [sh4];kernel_rfl
theorem h2_is:hN (rL++pL2++[97])=hN2:=by
 unfold hN
 rw [sh5];kernel_rfl
noncomputable def chkQ (x y:Nat) (q:Q4):Bool:=Q4.rec (fun X Y Z _=>Nat.beq (x*Z%PN) (X%PN)&&Nat.beq (y*Z%PN) (Y%PN)) q
theorem ph_valN {x:Nat} (hx:x<PN):(ph (x:Int)).val=x:=by
 have h:=ph_val (ph (x:Int))
 rw [ph_nat] at h
 rw [Nat.mod_eq_of_lt (ph (x:Int)).isLt,Nat.mod_eq_of_lt hx] at h
 exact h
theorem enc_of {s x y:Nat} (hs:s<2^256) (hx:x<PN) (hy:y<PN) (h:chkQ x y (qmul bQ s 256 q0)=true):encP (Pt.mul envF B s)=zl (limbsN 8 32 (y+2^255*(x%2))):=by
 have hr:=qmul_is bQ_rep hs
 generalize qmul bQ s 256 q0=q at *
 obtain ⟨X,Y,Z,T⟩:=q
 have hz:(Nat.beq (x*Z%PN) (X%PN)&&Nat.beq (y*Z%PN) (Y%PN))=true:=h
 rw [Bool.and_eq_true] at hz
 have h1:ph ((x*Z:Nat):Int)=ph (X:Int):=ph_nat.2 (Nat.eq_of_beq_eq_true hz.1)
 have h2:ph ((y*Z:Nat):Int)=ph (Y:Int):=ph_nat.2 (Nat.eq_of_beq_eq_true hz.2)
 obtain ⟨n1,g1,g2,_⟩:=hr
 simp only [Q4.to] at n1 g1 g2
 rw [ph_mulN,g1] at h1
 rw [ph_mulN,g2] at h2
 have can:∀ u v:FF,u*ph (Z:Int)=v*ph (Z:Int)->v=u:=fun u v e=>by
  have hn:=nvF_mul _ n1
  generalize ph (Z:Int)=P at *
  generalize nvF P=w at *
  have:v=v*(P*w):=by rw [hn];grind
  rw [this]
  have:v*(P*w)=(v*P)*w:=by grind
  rw [this,←e]
  grind
 have e1:=can _ _ h1
 have e2:=can _ _ h2
 unfold encP encN
 rw [e1,e2,ph_valN hx,ph_valN hy]
theorem encR:encP (Pt.mul envF B rN)=rL:=by
 rw [enc_of (x:=19309484914375710165932874489325495985356951322969071418412581995036784980746) (y:=14026798188181377637261715726930279836109456392610032591340885467588394936030) (by decide) (by decide) (by decide) (by kernel_rfl)];kernel_rfl
theorem encA1:encP (Pt.mul envF B aN1)=pL1:=by
 rw [enc_of (x:=26822555233711949854380153315158647482531717314742952720223963642152101436051) (y:=56461774818723834839721450787889437474891852695816614318545467683432985644238) (by decide) (by decide) (by decide) (by kernel_rfl)];kernel_rfl
theorem encA2:encP (Pt.mul envF B aN2)=pL2:=by
 rw [enc_of (x:=30502062408368802319605209355040172200299064220671145128052775605321946045309) (y:=56378531745358395318699445366766802391580978637127663975616544628844918045035) (by decide) (by decide) (by decide) (by kernel_rfl)];kernel_rfl
theorem alive_is:fl13_alive=some true:=by
 show ((sign_Sign sL1 1 [97]).bind fun x4=>(sign_Public sL1).bind fun x5=>(sign_Verify x5 x4 1 [97]).bind fun x6=>cond x6 ((sign_Public sL2).bind fun x7=>(sign_Verify x7 x4 1 [97]).bind fun x8=>some (!x8)) (some false))=some true
 obtain ⟨r,hr,hS,hrr⟩:=Sign_is (n:=1) (t:=[97]) sec1 (by decide) rfl (by decide)
 have ht:List.take 1 [(97:Int)]=[97]:=rfl
 rw [ht,hr_is] at hrr
 subst hrr
 rw [ht,encR,encA1,h1_is] at hS
 rw [hS,Option.bind_some,Public_is sec1 (by decide),Option.bind_some,Public_is sec2 (by decide)]
 have hown:=own_is (A:=aN1) (r:=rN) (n:=1) (s:=(rN+hN1*aN1%LN)%LN) (t:=[97]) (mod256 _) (by decide)
 rw [ht,encR,encA1,h1_is,decide_eq_true rfl] at hown
 have hoth:=Verify_is (a:=Pt.mul envF B aN2) (R:=encP (Pt.mul envF B rN)) (s:=(rN+hN1*aN1%LN)%LN) (n:=1) (t:=[97]) (encP_len _) (encP_byt _) (mod256 _) (by decide)
 rw [ht,encR,encA2,h2_is] at hoth
 have hne:¬ encP ((Pt.mul envF (Pt.mul envF B aN2).neg hN2).add envF (Pt.mul envF B ((rN+hN1*aN1%LN)%LN)))=rL:=by
  rw [←encR]
  intro e
  have:=verify_enc.1 e
  exact absurd this (by decide)
 rw [decide_eq_false hne,Bool.and_false] at hoth
 rw [encA1,hown,Option.bind_some,cond_true,Option.bind_some,encA2,hoth];rfl
end Go.Eng
