/-
  Part of a proof: WpC.
-/
import Derived.Test.YtonkmgaofdhbaaaGreatDoorWpa
set_option linter.unusedVariables false
set_option linter.unusedSimpArgs false
namespace Go.Eng
set_option maxRecDepth 100000
set_option maxHeartbeats 1000000
def g94 (a:Int) (E:Nat):Nat->Int->Int
 |0,o=>o
 |i+1,o=>g94 a E i (cond (E/2^i%2==1) (Ea (Ea o o) a) (Ea o o))
theorem g36 {a:Int} (ha:0≤a) (ha':a<PP) (E:Nat):∀ i,g94 a E i (Hj a (E/2^i))=Hj a E
 |0=>by rw [g94,Nat.pow_zero,Nat.div_one]
 |i+1=>by
  have hE:E/2^i=E/2^(i+1)+E/2^(i+1)+E/2^i%2:=by
   rw [Nat.pow_succ,←Nat.div_div_eq_div_mul];omega
  rw [g94,Qj]
  have:cond (E/2^i%2==1) (Ea (Hj a (E/2^(i+1)+E/2^(i+1))) a) (Hj a (E/2^(i+1)+E/2^(i+1)))=Hj a (E/2^i):=by
   rcases Nat.mod_two_eq_zero_or_one (E/2^i) with h0|h0
   ·rw [h0,i0 (by decide)];rw [h0,Nat.add_zero] at hE;rw [←hE]
   ·rw [h0,j7 (by decide)]
    rw [h0] at hE
    have:=Qj a (E/2^(i+1)+E/2^(i+1)) 1
    rw [b04 ha ha',←hE] at this
    exact this
  rw [this]
  exact g36 ha ha' E i
theorem j91 {a:Int} (ha:0≤a) (ha':a<PP):Hj a PM2=g94 a PM2 256 1:=by
 have h:=g36 ha ha' PM2 256
 rw [show PM2/2^256=0 by kernel_rfl,c48] at h
 exact h.symm
theorem g95 {k u r:List Int} {K:Nat} {U X Z A C I:Int} (hK:leN (Tk k)=K) (hU:(((leN u%2^255:Nat):Int)%PP)=U) (hl:Vl K U 255 ⟨1,0,U,1⟩=⟨X,Z,A,C⟩) (hz:0≤Z) (hz':Z<PP) (hI:g94 Z PM2 256 1=I) (hr:Xk (Ea X I)=r):v9 k u=r:=by
 rw [v9,hK,hU,h83,hl,j91 hz hz',hI,hr]
theorem c79 {k e c info w s:List Int} (hk:p9 256 k) (lk:k.length=32) (he:p9 256 e) (le:e.length=32) (hd:Qo k e = .inl c) (hi:p9 256 info) (li:info.length≤16384) (hs:s.length≤17000) :
  Dg k info w (e++s)=Df (Js c info) (U4 c info) w s:=by
 obtain ⟨c1,c2⟩:=g98 hd
 have lx:(e++s).length=32+s.length:=by rw [List.length_append,le]
 have t1:(e++s).take 32=e:=by rw [←le,List.take_left]
 have t2:(e++s).drop 32=s:=by rw [←le,List.drop_left]
 have t3:List.take (Int.toNat (((e++s).length:Int)-32)) s=s:=List.take_of_length_le (by omega)
 have d1:=f38 hk lk he le
 rw [hd] at d1
 unfold Dg
 rw [i0 (by simp<;>omega),i0 (by simp<;>omega),if_pos (by omega),t1,if_pos (by omega),List.take_of_length_le (by omega),d1,Option.bind_some]
 dsimp only
 rw [Xu c1 c2 hi (by omega),Option.bind_some]
 dsimp only
 rw [if_pos (by omega),m6,t2,t3,show (b64 c info).take 12=U4 c info from rfl]
 cases Df (Js c info) (U4 c info) w s with
 |none=>rfl
 |some r=>cases r<;>rfl
theorem f52 {k e c info w p:List Int} (hk:p9 256 k) (lk:k.length=32) (he:p9 256 e) (le:e.length=32) (hd:Qo k e = .inl c) (hi:p9 256 info) (li:info.length≤16384) (hw:w.length≤16384) (hp:p.length≤16384) (pb:Ci p) :
  Dg k info w (e++Gq c info w p)=some (.inl p):=by
 have hl:=Rp (c:=c) (info:=info) hw hp
 rw [c79 hk lk he le hd hi li (by omega)]
 exact g93 (Eh c info) (S3 c info) hw hp pb
def wS1:List Int:=[6,157,90,94,107,97,20,217,238,7,70,89,64,147,39,129,172,211,223,201,172,49,77,147,63,31,102,11,99,196,98,15]
def wS2:List Int:=[36,228,103,216,237,235,109,179,50,22,154,188,155,42,248,178,150,199,230,17,251,104,43,147,117,185,39,142,136,28,233,170]
def wP1:List Int:=[38,252,250,199,114,232,249,73,49,9,13,254,113,207,142,67,57,140,22,17,8,197,234,116,127,227,165,240,108,161,224,95]
def wP2:List Int:=[251,51,234,88,49,30,230,137,205,179,12,78,22,77,198,70,121,249,125,58,3,232,30,63,233,207,45,16,76,46,232,30]
def wDH:List Int:=[194,132,245,235,231,176,178,42,79,93,144,135,155,13,114,202,241,121,199,13,24,36,222,241,126,161,229,207,95,57,108,111]
def wDZ:List Int:=[109,244,149,241,157,143,8,98,84,175,170,31,34,132,136,247,177,55,196,202,214,2,189,221,231,162,37,151,59,145,15,53]
def wPZ:List Int:=[47,229,125,163,71,205,98,67,21,40,218,172,95,187,41,7,48,255,246,132,175,196,207,194,237,144,153,95,88,203,59,116]
def wC1:List Int:=[205,33,103,106,135,80,92,11,192,227,48,190,117,131,99,57,144,181,131,215,56,247,204,125,190,158,176,216,183,47,231,167]
def wC0:List Int:=[212,253,87,51,68,162,23,53,159,244,167,20,114,38,75,8,122,8,166,104,21,147,57,143,107,156,60,85,217,7,104,36]
def wX1:List Int:=[1,128,147,224,236,216,225,212,223,231,174,21,83,47,126,66,1,214,56,101,80,129,249,157,68,28,1,39,12,13,234,100]
def wK1:List Int:=[237,209,33,169,87,119,182,209,63,54,25,172,170,112,87,9,11,144,233,17,33,88,160,40,239,169,176,82,79,4,140,59]
def wN1:List Int:=[23,110,193,159,80,110,102,23,189,170,179,196]
def wX0:List Int:=[189,84,41,162,149,161,16,6,168,82,251,124,73,75,249,188,222,172,173,16,125,248,89,58,40,206,7,27,148,186,114,83]
def wK0:List Int:=[149,39,77,181,23,185,4,93,178,144,203,196,40,91,28,168,18,69,27,136,251,150,34,116,59,229,228,82,192,5,74,130]
def wN0:List Int:=[95,37,30,218,58,50,194,75,173,93,4,194]
def wCX:List Int:=[0,67,29,246,205,149,225,31,244,157,112,19,86,59,175,127,17,88,140,117,166,97,30,226,164,64,74,73,48,106,228,207,197,85,231,179,157,122,115,85,60,20,238,227,182,5,248,196,67,143,184,196,165,211,47,178,190,247,53,242,97,40,237,86,149]
theorem l26:(F5 [120]).1=wS1:=(show Fy (O9 [100,107,112,95,112,114,107] [120]) [115,107] []=_ from (by rw [show O9 [100,107,112,95,112,114,107] [120]=[210,247,76,15,223,124,104,157,218,105,204,42,146,215,237,4,126,214,74,248,102,48,36,240,227,100,50,113,168,27,139,163] by kernel_rfl];kernel_rfl))
theorem l27:(F5 [121]).1=wS2:=(show Fy (O9 [100,107,112,95,112,114,107] [121]) [115,107] []=_ from (by rw [show O9 [100,107,112,95,112,114,107] [121]=[240,152,73,142,210,131,153,120,3,28,244,10,90,114,196,113,156,119,15,114,252,153,162,127,26,30,149,96,84,133,152,233] by kernel_rfl];kernel_rfl))
theorem i41:v9 wS1 Hp=wP1:=g95 (K:=35907221462945463132921873092606876566992056605023823303711984379636156636416) (U:=9) (X:=49778907369373459249477723849043026012375787587920310717737047178351110875602) (Z:=17482782121803242656016171121340639069291543025555349571047935684230514623627) (A:=51776623698750523009728085950951523035040530150669317153085031544905956433191) (C:=14374628701983599269828007659321219296165894817585954826439060566160538482237) (I:=40110430380561814516112022416256172050646382487537770922933971068742121679742) (by kernel_rfl) (by kernel_rfl) (by kernel_rfl) (by decide) (by decide) (by kernel_rfl) (by kernel_rfl)
theorem j28:v9 wS2 Hp=wP2:=g95 (K:=48357034246340744692575010141010478303756839106634611445924696020578810192928) (U:=9) (X:=18473235832263925967625205302813858122987991994937363176889345247949845255287) (Z:=18133086903590095029923194060340021380715976183758545787653420557616886559544) (A:=26785342813512811148841336295187848131075817624005513020144640905122896187658) (C:=24328664262159529553513809311499307717303006430245969288188238026316722732847) (I:=48670970017440411382208582771928289927559185395455780463782038463400181064230) (by kernel_rfl) (by kernel_rfl) (by kernel_rfl) (by decide) (by decide) (by kernel_rfl) (by kernel_rfl)
theorem l28:v9 wS2 wP1=wDH:=g95 (K:=48357034246340744692575010141010478303756839106634611445924696020578810192928) (U:=43366608476099930956769318608978268198203409999857882993783226267459177348134) (X:=20434354023581009860888479502424267905913251838126912288069444812403559826223) (Z:=24661703206427798664434549419300433840617488799952365249285105571405849578922) (A:=11489151495921896247190755757793099066636983332514641505529117427875223825512) (C:=3327113984314918498992229432927107691788750869327528674912563473741843969583) (I:=791023859016412453083991312083983947260015858050806826066326131153760069200) (by kernel_rfl) (by kernel_rfl) (by kernel_rfl) (by decide) (by decide) (by kernel_rfl) (by kernel_rfl)
theorem l29:v9 wS1 wP2=wDH:=g95 (K:=35907221462945463132921873092606876566992056605023823303711984379636156636416) (U:=13979613507518318578300256471120989229922844313776856819278657164220742382587) (X:=8859043659016027964785682120907299739596638369960691761145125992410137500139) (Z:=2156802671854475014765225353263461261081904902152669245792673012916818707583) (A:=7884746574490838741425671531802751142126777712097075494056578694354407565528) (C:=55019392625059405264078948374241611774845172782919572361332211882368876987569) (I:=37208848722921484463746539659209649876191102720530103619270428575088948185658) (by kernel_rfl) (by kernel_rfl) (by kernel_rfl) (by decide) (by decide) (by kernel_rfl) (by kernel_rfl)
theorem l30:v9 G0 wP2=wDZ:=g95 (K:=28948022309329048855892746252171976963317496166410141009864396001978282409984) (U:=13979613507518318578300256471120989229922844313776856819278657164220742382587) (X:=55547243598777508488227023128189418319756398689016690143821622715661912659177) (Z:=21326472577970722417973855565023286125183242328248116209097756839332167938137) (A:=48841141336424845962372829830046048496322004018391692591482286734959621756902) (C:=27590774364179697492689518355400083589170763427915791245089705941617176095093) (I:=3228173432649217578791419215034256025695297499456743983471781656687266071911) (by kernel_rfl) (by kernel_rfl) (by kernel_rfl) (by decide) (by decide) (by kernel_rfl) (by kernel_rfl)
theorem l31:v9 G0 Hp=wPZ:=g95 (K:=28948022309329048855892746252171976963317496166410141009864396001978282409984) (U:=9) (X:=53699084970092229620102095424564848774812783684786248634290088506478568078703) (Z:=20097946894889007705884408490665082385984383478950821997587487100163618290637) (A:=14360348134125025368338078038404517838855319678751304960785489838697208964581) (C:=54619774648953067027413862015174966915913078127437672774086904131422295850033) (I:=4690349756041861591026396950088132225180594110443955054213429870794107548986) (by kernel_rfl) (by kernel_rfl) (by kernel_rfl) (by decide) (by decide) (by kernel_rfl) (by kernel_rfl)
theorem wc1:Ch wDH wP2 wP1=wC1:=by unfold Ch;rw [show O9 [101,97,101,95,112,114,107] wDH=[248,61,151,233,213,65,164,89,247,118,52,119,176,249,153,211,241,148,32,162,116,45,35,190,197,204,235,103,32,233,76,201] by kernel_rfl];kernel_rfl
theorem wc0:Ch wDZ wP2 wPZ=wC0:=by unfold Ch;rw [show O9 [101,97,101,95,112,114,107] wDZ=[70,57,236,125,217,97,155,127,33,154,107,31,49,255,3,65,100,26,49,96,117,220,183,151,202,135,40,119,83,95,164,96] by kernel_rfl];kernel_rfl
theorem wcx:d36 []=wCX:=by kernel_rfl
theorem wx1:j16 wC1=wX1:=by kernel_rfl
theorem wk1:Js wC1 []=wK1:=by rw [Js,wx1,wcx];kernel_rfl
theorem wn1:U4 wC1 []=wN1:=by rw [U4,b64,wx1,wcx];kernel_rfl
theorem wt1:Ln wK1 wN1 [] []=[36,60,42,252,4,19,198,233,88,34,161,223,117,208,197,116]:=by kernel_rfl
theorem wx0:j16 wC0=wX0:=by kernel_rfl
theorem wk0:Js wC0 []=wK0:=by rw [Js,wx0,wcx];kernel_rfl
theorem wn0:U4 wC0 []=wN0:=by rw [U4,b64,wx0,wcx];kernel_rfl
theorem wt0:Ln wK0 wN0 [] []=[255,61,223,201,224,86,65,147,246,29,42,134,172,13,143,91]:=by kernel_rfl
theorem j14:Kb=some true:=by
 have nz:∀ {l:List Int},l.getD 0 0≠0->l≠G0:=fun h e=>h (by rw [e];rfl)
 have lS1:p9 256 wS1:=l26▸(Mo [120]).1
 have lP1:p9 256 wP1:=i41▸Ag _ _
 have lP2:p9 256 wP2:=j28▸Ag _ _
 have h1:=c61 (M:=[120]) (n:=1) ⟨by decide,trivial⟩ (by decide) (by decide)
 have h1:Jy (List.length [120]) [120]=some (wS1,wP1):=by
  rw [show List.length [120]=1 from rfl,h1,show F5 [120]=((F5 [120]).1,v9 (F5 [120]).1 Hp) from rfl,l26,i41]
 have q2:(F5 [121]).2=wP2:=by rw [show (F5 [121]).2=v9 (F5 [121]).1 Hp from rfl,l27,j28]
 have he:Ct wP1 [121] = .inl wC1:=by
  have := @Vs wP1 [121]
  rw [l27,l28,q2,wc1] at this
  exact this (nz (by decide))
 have h2:=e79 (to:=wP1) (info:=[]) (w:=[]) (p:=[]) (sd:=[121]) (n:=1) lP1 rfl trivial ⟨by decide,trivial⟩ (by decide) (by decide)
 rw [he,q2] at h2
 have h2:Io wP1 [] [] [] (List.length [121]) [121]=some (.inl (wP2++Gq wC1 [] [] [])):=h2
 have hd1:Qo wS1 wP2 = .inl wC1:=by
  have := @Vt wS1 wP2
  rw [l29,i41,wc1] at this
  exact this (nz (by decide))
 have hd0:Qo G0 wP2 = .inl wC0:=by
  have := @Vt G0 wP2
  rw [l30,l31,wc0] at this
  exact this (nz (by decide))
 have z1:=Rp (c:=wC1) (info:=[]) (w:=[]) (p:=[]) (by decide) (by decide)
 have z3:=g99 (c:=wC1) (info:=[]) (w:=[]) (p:=[]) (by decide) (by decide)
 have z2:(wP2++Gq wC1 [] [] []).length=48:=by rw [List.length_append,z1];rfl
 have h3:=f52 (k:=wS1) (info:=[]) (w:=[]) (p:=[]) lS1 rfl lP2 rfl hd1 trivial (by decide) (by decide) (by decide) (fun _ h=>nomatch h)
 have h4:=c79 (k:=G0) (info:=[]) (w:=[]) (s:=Gq wC1 [] [] []) (d24 32) rfl lP2 rfl hd0 trivial (by decide) (by rw [z1];decide)
 have z4:Gq wC1 [] [] []=Ln wK1 wN1 [] []:=by
  show I3 (Js wC1 []) (U4 wC1 []) 1 []++Ln (Js wC1 []) (U4 wC1 []) [] (I3 (Js wC1 []) (U4 wC1 []) 1 [])=_
  rw [wk1,wn1,show I3 wK1 wN1 1 []=[] by kernel_rfl];rfl
 rw [g34 (Eh _ _) (S3 _ _) (by decide) (by rw [z1];decide) (by rw [z1];decide) z3,z1,wk0,wn0,z4] at h4
 rw [show ([]:List Int).length+16-16=0 from rfl,List.drop_zero,List.take_zero,wt1,wt0,if_neg (by decide)] at h4
 rw [z4,wt1] at h2 h3 z2
 unfold Kb
 rw [h1,Option.bind_some]
 dsimp only
 rw [h2,Option.bind_some]
 dsimp only
 rw [i0 (by rw [z2];rfl),h3,Option.bind_some]
 dsimp only
 rw [show (List.replicate 32 (0:Int))=G0 from rfl,h4,Option.bind_some]
end Go.Eng
