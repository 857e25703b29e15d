/-
  A CALCULATOR OVER THE MODEL: part 3 of 3. It holds for every program; its own names only.
-/
import Derived.Test.YtonkmgaofdhbaaaGreatDoorEngB
import Derived.Scope
import Derived.ChangeArms
import Derived.OpenShut
import Derived.Carry
import Derived.ChangeSame
import Derived.Deep.DeepHandedRow
import Derived.LaidLaws
import Derived.JoinedOf
set_option linter.unusedVariables false
set_option linter.unusedSimpArgs false
namespace Go.Eng
def c13 (bs:List j6):List (Nat×j6):=(List.range bs.length).map fun b=>(b,G2 bs b)
theorem Ma {bs:List j6} {b:Nat}:b∈(c13 bs).map (·.1)↔b<bs.length:=by
 unfold c13
 rw [List.map_map]
 constructor
 ·intro h
  obtain ⟨c,hc,e⟩:=List.mem_map.1 h
  rw [←e];exact List.mem_range.1 hc
 ·intro h;exact List.mem_map.2 ⟨b,List.mem_range.2 h,rfl⟩
theorem f13 {bs:List j6} {H:Nat->j6} (b:Nat):upds H (c13 bs) b=if b<bs.length then G2 bs b else H b:=by
 split
 ·rename_i h
  obtain ⟨x,hx,he⟩:=Km (Ma.2 h)
  rw [he]
  unfold c13 at hx
  obtain ⟨c,_,e⟩:=List.mem_map.1 hx
  injection e with e1 e2
  rw [←e2,e1]
 ·rename_i h
  exact L7 fun z hz e=>h (Ma.1 (List.mem_map.2 ⟨z,hz,e⟩))
theorem a01 {bs:List j6} {b:Nat} (h:bs.length≤b):G2 bs b = .dead:=by
 unfold G2;simp [List.getD,List.getElem?_eq_none h]
theorem q9.drewR {E0 E:y6} {Ho:Nat->j6} {w0 w:World} {acc:List (Nat×j6)} {x:AV} {v:Value} (h:q9 E0 Ho w0 acc x v E w):q9 E0 Ho w0 acc x v E { w with drawn:=w.drawn+1 } :=
 ⟨h.val,⟨h.rel.rd,h.rel.blk,h.rel.sep,h.rel.apart,h.rel.old,h.rel.born,h.rel.fit,h.rel.fx,h.rel.fxa⟩,h.ext,⟨h.mem.os,h.mem.tape,h.mem.output,h.mem.size,h.mem.same,h.mem.rd,h.mem.new⟩,h.born,h.live,h.others⟩
section
variable {P:Program} {G:G1} {T:Tr} {E0:y6} {Ho:Nat->j6} {w0:World} {Fs:List (List AV×Act)} {ro:Option Nat} {nn:Nat}
def Z3 (G:G1) (Fs:List (List AV×Act)) (E0:y6) (Ho:Nat->j6) (w0:World) (K:R0):Exit->Act->World->Prop
 |.normal,a,w=>∃ ts bs,K .normal ts bs/\Bn G Fs E0 Ho w0 ts bs a w
 |.exit i,a,w=>∃ ts bs,K (.exit i) ts bs/\Bn G Fs E0 Ho w0 ts bs a w
 |.goto i,a,w=>∃ ts bs,K (.goto i) ts bs/\Bn G Fs E0 Ho w0 ts bs a w
 |.ret,a,w=>∃ ts bs,K .ret ts bs/\Bn G Fs E0 Ho w0 ts bs a w
 |_,_,_=>False
theorem OK3.drewR {m:Nat} {E:y6} {H:Nat->j6} {w:World} {ds:List Deferred} (h:OK3 m Fs E H w ds):OK3 m Fs E H { w with drawn:=w.drawn+1 } ds:=⟨h.nd,h.df,h.size,h.tmps,h.out⟩
theorem Bn.drewR {ts:List AV} {bs:List j6} {a:Act} {w:World} (h:Bn G Fs E0 Ho w0 ts bs a w):Bn G Fs E0 Ho w0 ts bs a { w with drawn:=w.drawn+1 }:=by
 obtain ⟨E,acc,h⟩:=h
 exact ⟨E,acc,h.step.drewR,h.H,h.size,h.tmps,h.glob,h.unborn,h.acc,h.defers.drewR⟩
theorem c96 {ts:List AV} {bs:List j6} {a:Act} {w:World} (h:Bn G Fs E0 Ho w0 ts bs a w) {es:List Ez} {D:Nat->Bool} (hD:∀ j,D j=false):Inv G Fs E0 Ho w0 es (fun t=>ts.getD t .any) (G2 bs) bs.length ts.length D a w:=by
 obtain ⟨E,acc,h⟩:=h
 refine ⟨E,acc,h.step,by rw [Pu fun j _=>hD j];exact h.H,h.size,fun t=>by rw [Ug fun j _=>hD j];exact h.tmps t,h.glob,fun b hb => .inl (h.unborn b hb),fun x hx => .inl (h.acc x hx),by rw [Pu fun j _=>hD j];exact h.defers⟩
theorem f14 {ts2:List AV} {bs bs2:List j6} {n:Nat} {base:Nat->AV} {Hb:Nat->j6} {es:List Ez} {D:Nat->Bool} (hD:∀ j,j<es.length->D j=true) (hn:ts2.length=n) (hts:∀ t,AEq (ts2.getD t .any) (Cm es 0 Wq t (base t))) (hbs:G2 bs2=Z8 es 0 Wq Hb)
  (hwr:∀ (i:Nat) (e:Ez),es[i]?=some e->∀ x,x∈e.wr->x.1<bs2.length) (hle:bs.length≤bs2.length) {a:Act} {w:World} (h:Inv G Fs E0 Ho w0 es base Hb bs.length n D a w):Bn G Fs E0 Ho w0 ts2 bs2 a w:=by
 obtain ⟨E,acc,h⟩:=h
 have hb:Z8 es 0 D Hb=G2 bs2:=by
  rw [hbs];funext b
  exact Fg rfl fun j e hj _=>by rw [Nat.zero_add,hD j (List.getElem?_eq_some_iff.1 hj).1];rfl
 have ht:∀ t,Cm es 0 D t (base t)=Cm es 0 Wq t (base t):=fun t=>Ff fun j e hj _=>by rw [Nat.zero_add,hD j (List.getElem?_eq_some_iff.1 hj).1];rfl
 have hin:∀ (i:Nat) (e:Ez) b,es[i]?=some e->b∈e.wr.map (·.1)->b<bs2.length:=by
  intro i e b hi hb
  obtain ⟨x,hx,e1⟩:=List.mem_map.1 hb
  rw [←e1];exact hwr i e hi x hx
 refine ⟨E,acc,h.step,by rw [h.H,hb],by rw [h.size,hn],fun t=>(hts t E _).2 (by rw [←ht];exact h.tmps t),h.glob,fun b hb => ?_,fun x hx => ?_,by rw [←hb];exact h.defers⟩
 ·rcases h.unborn b hb with h1|⟨i,e,_,h2,h3⟩
  ·omega
  ·exact hin i e b h2 h3
 ·rcases h.acc x hx with h1|⟨i,e,h2,h3⟩
  ·omega
  ·exact hin i e _ h2 h3
theorem Fh.next (hR0:Q9 E0 Ho w0) {ts ts':List AV} {bs bs':List j6} {a a':Act} {w w':World} {E E':y6} {acc wr:List (Nat×j6)} {v:AV} {u:Value} (h:Fh G Fs E0 Ho w0 ts bs a w E acc) (hst:q9 E (upds Ho acc) w wr v u E' w')
  (hH:G2 bs'=upds (G2 bs) wr) (hle:bs.length≤bs'.length) (hin:∀ x,x∈wr->x.1<bs'.length) (hsz:a'.tmps.size=ts'.length) (ht:∀ t,o0 E' (ts'.getD t .any) (a'.tmps.getD t undef)) (hd:a'.defers=a.defers) :
  Bn G Fs E0 Ho w0 ts' bs' a' w':=by
 refine ⟨E',acc++wr,(h.step.trans hR0 hst).free (.any _ _),by rw [Gk,h.H,hH],hsz,ht,h.glob.ext hst.ext,fun b hb => ?_,fun x hx => ?_,by rw [hd,hH,←h.H];exact (h.H▸h.defers).step hst⟩
 ·by_cases hu:E.pl b = .unborn
  ·obtain ⟨x,hx,e⟩:=List.mem_map.1 (hst.born b hu hb)
   rw [←e];exact hin x hx
  ·have:=h.unborn b hu;omega
 ·rcases List.mem_append.1 hx with hx|hx
  ·have:=h.acc x hx;omega
  ·exact hin x hx
theorem Bn.push {ts:List AV} {bs:List j6} {a:Act} {w:World} {E:y6} {acc:List (Nat×j6)} (h:Fh G Fs E0 Ho w0 ts bs a w E acc):Fh G ((ts,a)::Fs) E0 Ho w0 [] bs { tmps := #[],defers:=[] } w E acc :=
 ⟨h.step,h.H,rfl,fun _ => .any _ _,h.glob,h.unborn,h.acc,⟨by have:=h.defers.nd;simpa using this,(fun d hd=>by cases hd),(fun x hx=>by
  rcases List.mem_cons.1 hx with rfl|hx
  ·exact h.size
  ·exact h.defers.size x hx),(fun x hx t=>by
  rcases List.mem_cons.1 hx with rfl|hx
  ·exact h.tmps t
  ·exact h.defers.tmps x hx t),(fun x hx=>by
  rcases List.mem_cons.1 hx with rfl|hx
  ·exact h.defers.df
  ·exact h.defers.out x hx)⟩⟩
theorem Bn.pop {ts ts1:List AV} {bs:List j6} {a a1:Act} {w:World} (h:Bn G ((ts,a)::Fs) E0 Ho w0 ts1 bs a1 w):Bn G Fs E0 Ho w0 ts bs a w:=by
 obtain ⟨E,acc,h⟩:=h
 exact ⟨E,acc,h.step,h.H,h.defers.size _ (.head _),h.defers.tmps _ (.head _),h.glob,h.unborn,h.acc,⟨(List.nodup_append.1 (by have:=h.defers.nd;rwa [List.flatMap_cons] at this)).2.1,h.defers.out _ (.head _),fun x hx=>h.defers.size x (.tail _ hx),fun x hx=>h.defers.tmps x (.tail _ hx),fun x hx=>h.defers.out x (.tail _ hx)⟩⟩
def YOK (P:Program) (G:G1) (E0:y6) (Ho:Nat->j6) (w0:World) (Fs1:List (List AV×Act)) (Y:Co):Prop :=
 ∀ (yb:Nat) (pre:List (List AV×Act)) (args:List AV) (Kc:Bool->List j6->Prop) (bs:List j6) (w:World) (vs:List Value) (E:y6) (acc:List (Nat×j6)) (l:Nat),Y yb ((pre++Fs1).map (·.1)) args Kc bs ->
  Fh G (pre++Fs1) E0 Ho w0 [] bs { tmps := #[],defers:=[] } w E acc->Ly E args vs->E.pl yb = .at l 0 ->
  ∃ fn tmps assign body,(Instr.yield l vs.toArray).run P w = .ok (.round l fn tmps assign body) w/\RoundIn Fence.wide 0 P l fn tmps assign body w fun e w'=>∃ b bs',e = .returned (.bool b)/\Kc b bs'/\Bn G (pre++Fs1) E0 Ho w0 [] bs' { tmps := #[],defers:=[] } w'
theorem j35 {Fs1:List (List AV×Act)}:YOK P G E0 Ho w0 Fs1 noY:=fun _ _ _ _ _ _ _ _ _ _ h=>h.elim
theorem g51 {ro:Option Nat} {n:Nat} {l:Nat} {f:FuncId} {tmps:Array Value} {assign body:Code} {w:World} {R:Ending->World->Prop} (h:RoundIn Fence.wide 0 P l f tmps assign body w R):RoundIn (Lt ro) n P l f tmps assign body w R:=by
 have h':∀ (c:Frame) (cs:List Frame),∃ e w',R e w'/\ComesIn (Machine.fenced P Fence.wide) P (lone (Frame.round l f tmps assign body .normal) (c::cs) w)
   (match e with
    |.returned v=>lone (c.finish v) cs w'
    |.panicked chain=>lone (c.raise chain) cs w'
    |.outgrown=>lone c cs w') e:=fun c cs=>h.2 c cs (room_wide _)
 refine ⟨St ro f,fun c cs _ => ?_⟩
 cases ro with
 |none=>exact h' c cs
 |some l=>exact h' c cs
theorem g52 {ρ:Operand->AV} {o:Op} {yb:Nat} {args:List AV} (h:c25 ρ o=some (yb,args)):∃ c g,o = .call c/\c.callee = .value g/\ρ g = .yld yb/\args=c.args.toList.map fun x=>Z7 (ρ x):=by
 unfold c25 at h
 split at h
 ·split at h
  ·split at h
   ·cases h;exact ⟨_,_,rfl,by assumption,by assumption,rfl⟩
   ·cases h
  ·cases h
 ·cases h
theorem Fh.ev {ts:List AV} {bs:List j6} {a:Act} {w:World} {E:y6} {acc:List (Nat×j6)} (h:Fh G Fs E0 Ho w0 ts bs a w E acc) (x:Operand):o0 E (ev G ts x) (a.eval x):=by
 rw [h36]
 exact f65 h.glob fun t _=>h.tmps t
theorem h45 {Y:Co} {Fs1:List (List AV×Act)} (hY:YOK P G E0 Ho w0 Fs1 Y) (hpre:∃ pre,Fs=pre++Fs1) {ts:List AV} {bs:List j6} {a:Act} {w:World} {E:y6} {acc:List (Nat×j6)} (hS:Fh G Fs E0 Ho w0 ts bs a w E acc) {o:Oper} {yb:Nat} {args:List AV} (ho:c25 (ev G ts) o.op=some (yb,args))
  {Kc:Bool->List j6->Prop} (h:Y yb (ts::Fs.map (·.1)) args Kc bs) {next:Act->World->Prop} {Q:Exit->Act->World->Prop} (hn:∀ b bs' w',Kc b bs'->Bn G Fs E0 Ho w0 ts bs' a w'->next (a.put o.dst (.bool b)) w'):o.wpIn (Lt ro) nn P a w next Q:=by
 obtain ⟨c,g,hc,hg,hy,rfl⟩:=g52 ho
 have hgv:=hS.ev g
 rw [hy] at hgv
 obtain ⟨l,hl,hev⟩:∃ l,E.pl yb = .at l 0/\a.eval g = .func (.yield l) #[] #[]:=by
  rcases hgv with hgv|⟨cs,hr,e⟩
  ·cases hgv
  ·cases hr with
   |yld b r hp=>exact ⟨r,hp,e⟩
 obtain ⟨pre,rfl⟩:=hpre
 obtain ⟨fn,tmps,assign,body,hrun,hround⟩:=hY yb ((ts,a)::pre) _ Kc bs w (c.args.toList.map a.eval) E acc l h (Bn.push hS) (by
  refine ⟨by simp,fun i hi hi' => ?_⟩
  rw [List.getElem_map,List.getElem_map]
  exact Br (hS.ev _)) hl
 refine ⟨fun f _=>St ro f,?_⟩
 have hexec:(o.semAt (Lt ro).round a.eval).run P w = .ok (.round l fn tmps assign body) w:=by
  rw [Oper.semAt_eq _ _ _ (by rw [hc];intro c h;cases h)]
  have e : #[]++c.args.map a.eval=(c.args.toList.map a.eval).toArray:=by
   rw [←Array.toList_inj];simp
  simp only [execOp,hc,resolve,hg,hev,Deferred.ofValue,Sem.run_bind,Sem.run_pure,Result.andThen_ok,invoke,e]
  exact hrun
 rw [hexec,Oper.uponIn_round]
 refine ⟨(fun h=>by rw [Re] at h;cases h),(g51 hround).mono fun e w' he => ?_⟩
 obtain ⟨b,bs',rfl,hk,hs⟩:=he
 exact hn b bs' w' hk (Bn.pop hs)
theorem a02 (hT:v5 P T) (hR0:Q9 E0 Ho w0) {Y:Co} {Fs1:List (List AV×Act)} (hY:YOK P G E0 Ho w0 Fs1 Y) (hpre:∃ pre,Fs=pre++Fs1) {all:List Oper} {Q:Exit->Act->World->Prop} {K:List AV->List j6->List Kj->Prop} (hQ:∀ ts bs fs a w,K ts bs fs->Bn G Fs E0 Ho w0 ts bs a w->Q .normal a w) :
  ∀ (rest:List Oper) (j:Nat) (ts:List AV) (bs:List j6) (fs:List Kj) (a:Act) (w:World),all.drop j=rest->a80 P G T (Fs.map (·.1)) Y all rest ts bs fs K->Bn G Fs E0 Ho w0 ts bs a w->wpOpsIn (Lt ro) nn P all.toArray Q (List.range' j rest.length) a w
 |[],j,ts,bs,fs,a,w,hd,h,hS=>hQ ts bs fs a w h hS
 |o::rest,j,ts,bs,fs,a,w,hd,h,hS=>by
  have hj:all[j]?=some o:=by
   have:(all.drop j)[0]?=some o:=by rw [hd];rfl
   rwa [List.getElem?_drop,Nat.add_zero] at this
  have hd':all.drop (j+1)=rest:=by
   rw [←List.drop_drop,hd];rfl
  rw [List.length_cons,List.range'_succ,wpOpsIn_cons]
  unfold wpOpIn
  rw [List.getElem?_toArray,hj]
  simp only [a80] at h
  obtain ⟨r,ts1,h,hl1,heq1,hg⟩:=a56 h
  have hS1:Bn G Fs E0 Ho w0 ts1 bs a w:=by
   obtain ⟨E,acc,hS⟩:=hS
   exact ⟨E,acc,hS.step,hS.H,by rw [hS.size,hl1],fun t=>(heq1 t E _).2 (hS.tmps t),hS.glob,hS.unborn,hS.acc,hS.defers⟩
  have hw:Region.wanted o (yielded all.toArray a.tmps)=r:=by
   obtain ⟨E,acc,hS⟩:=hS
   exact Uh (all:=all) (a:=a) hg (fun _ _=>rfl) hS.tmps
  simp only [hw]
  -- what a value that is put leaves
  have put:∀ (x:AV) (u:Value) (wr:List (Nat×j6)) (bs':List j6) (E E':y6) (acc:List (Nat×j6)) (w':World) (ts':List AV),Fh G Fs E0 Ho w0 ts1 bs a w E acc->q9 E (upds Ho acc) w wr x u E' w'->(∀ t,o.dst=some t->t<ts1.length)->ts'.length=ts1.length ->
    (∀ t,ts'.getD t .any=if o.dst=some t then x else ts1.getD t .any)->G2 bs'=upds (G2 bs) wr->bs.length≤bs'.length->(∀ x,x∈wr->x.1<bs'.length)->Bn G Fs E0 Ho w0 ts' bs' (a.put o.dst u) w':=by
   intro x u wr bs' E E' acc w' ts' hSE hst hlt hl ht hb hle hin
   refine hSE.next hR0 hst hb hle hin (by rw [a58,hSE.size,hl]) (fun t => ?_) (Su ..)
   rw [ht,a57 hSE.size hlt]
   split
   ·exact hst.val
   ·exact (hSE.tmps t).ext hst.ext
  cases r with
  |true =>
   simp only [if_true] at h ⊢
   obtain ⟨E,acc,hSE⟩:=hS1
   split at h
   ·rename_i yb args hyl
    refine h45 hY hpre hSE hyl h fun b bs' w' hk hs' => ?_
    obtain ⟨ts',hk,hl,hlt,ht⟩:=Pv hk
    refine a02 hT hR0 hY hpre hQ rest (j+1) ts' bs' _ _ _ hd' hk ?_
    obtain ⟨E',acc',hs'⟩:=hs'
    refine ⟨E',acc',hs'.step,hs'.H,by rw [a58,hs'.size,hl],fun t => ?_,hs'.glob,hs'.unborn,hs'.acc,by rw [Su];exact hs'.defers⟩
    rw [ht,a57 hs'.size hlt]
    split
    ·exact Xc E' trivial
    ·exact hs'.tmps t
   ·have hdef:=c36 h
    obtain ⟨rd,wr0,v0,h,heff⟩:=f64 hT (by simp [G2]) h
    obtain ⟨wr,hsw,h⟩:=Xe h
    obtain ⟨v,hsv,h⟩:=Xf h
    have heff:=heff.retell hsw hsv
    obtain ⟨rd,wr,v,h,heff⟩:=c35 h heff
    split at h
    ·rename_i hnew
     obtain ⟨ts',h,hl,hlt,ht⟩:=Pv h
     obtain ⟨bs',h,hb,hle,hin⟩:=c92 h
     refine h39 hdef (heff E _ a w hSE.step.rel hSE.glob (fun x _=>hSE.ev x) (fun b _=>by rw [hSE.H]) (fun x hx hd => ?_) _ _ fun u E' w' hst => ?_)
     ·refine Classical.byContradiction fun hu => ?_
      have h1:=hSE.unborn x.1 hu
      have h2:=Wr hnew x hx hd
      omega
     ·exact a02 hT hR0 hY hpre hQ rest (j+1) ts' bs' _ _ _ hd' h (put v u wr bs' E E' acc w' ts' hSE hst hlt hl ht hb hle hin)
    ·exact h.elim
  |false =>
   simp only [Bool.false_eq_true,if_false] at h ⊢
   obtain ⟨E,acc,hSE⟩:=hS1
   obtain ⟨ts',h,hl,hlt,ht⟩:=Pv h
   refine ⟨fun f _=>St ro f,a02 hT hR0 hY hpre hQ rest (j+1) ts' bs _ _ _ hd' h ?_⟩
   exact put (.tup []) undef [] bs E E acc w ts' hSE (q9.pure hSE.step.rel (c09 _)) hlt hl ht rfl (Nat.le_refl _) (fun x hx=>by cases hx)
theorem c97 (hT:v5 P T) (hm:P.follows .mixedOrders=true) (hR0:Q9 E0 Ho w0) {Y:Co} {Fs1:List (List AV×Act)} (hY:YOK P G E0 Ho w0 Fs1 Y) (hpre:∃ pre,Fs=pre++Fs1) {It:ItT} {ir:Bool} {id:Nat} {ops:Array Oper} {d:Bool} {k:Nat} {K:R0} {ts:List AV} {bs:List j6} {a:Act} {w:World}
  (h:Kr P G T It k Y ir (.region id ops d) (Fs.map (·.1)) none K ts bs) (hS:Bn G Fs E0 Ho w0 ts bs a w):(Code.region id ops d).wpIn (Lt ro) nn P (Z3 G Fs E0 Ho w0 K) a w:=by
 have hops:ops.toList.toArray=ops:=by simp
 cases d with
 |false =>
  have:=a02 (ro:=ro) (nn:=nn) (Q:=Z3 G Fs E0 Ho w0 K) hT hR0 hY hpre (fun ts bs fs a w hk hs=>⟨ts,bs,hk,hs⟩) ops.toList 0 ts bs [] a w rfl h hS
  rw [hops,Array.length_toList,←List.range_eq_range'] at this
  exact wpIn_region this
 |true =>
  obtain ⟨es,ts2,bs2,h1,h2,h3,h4,h5,h6,h7,h8,h9⟩:=(c10 hT h rfl (fun t => .refl _) rfl (fun i e hi=>by simp at hi) (Nat.le_refl _) rfl:f10 P G ops.toList (fun t=>ts.getD t .any) (G2 bs) bs.length ts.length ops.toList [] bs _)
  simp only [List.nil_append,List.length_nil,Nat.zero_add,List.reverse_reverse] at h2 h4 h5 h6 h9
  split at h2
  ·rename_i hdraw
   have hlen:ops.toList.length=ops.size:=Array.length_toList
   have:=i55 (ro:=ro) (nn:=nn) (Q:=Z3 G Fs E0 Ho w0 K) hR0 h9 h1 h8 hdraw (fun D a w hD hI=>⟨ts2,bs2,h2,f14 hD h3 h4 h5 h6 h7 hI⟩) ops.size (Array.replicate ops.size false) a { w with drawn:=w.drawn+1 } (by simp) (by
    refine Nat.le_trans List.countP_le_length ?_
    rw [List.length_range,hlen];exact Nat.le_refl _) (fun j o hj hD=>by
    by_cases hjs:j<ops.size
    ·simp [hjs] at hD
    ·simp [hjs] at hD) (c96 hS.drewR fun j=>by
    by_cases hjs:j<ops.size
    ·simp [hjs]
    ·simp [hjs])
   rw [hops] at this
   exact wpIn_region_any hm this
  ·exact h2.elim
theorem c14 {X:Type} {c:Code} {Q:Exit->Act->World->Prop} (J:X->Act->World->Prop) (μ:X->Nat) (round:∀ x a w,J x a w->c.wpIn (Lt ro) nn P (Exit.then (fun a' w'=>∃ y,J y a' w'/\μ y<μ x) Q) a w) {x:X} {a:Act} {w:World} (h₀:J x a w):(Code.loop c).wpIn (Lt ro) nn P Q a w:=by
 intro b k cs hro hb hr
 have key:∀ n x a w,μ x=n->J x a w ->
   ∃ e a' w',Q e a' w'/\ArrivesIn (Machine.fenced P (Lt ro)) P (lone (b.atR a (.code c :: .inLoop c::k)) cs w) b k cs e a' w':=by
  intro n
  induction n using Nat.strongRecOn with
  |_ n ih =>
   intro x a w hn hI
   obtain ⟨e,a₁,w₁,hq,harr⟩:=round x a w hI b (.inLoop c::k) cs hro hb hr
   cases e with
   |normal =>
    obtain ⟨y,hI₁,hlt⟩:=hq
    obtain ⟨e₂,a₂,w₂,hq₂,harr₂⟩:=ih (μ y) (hn▸hlt) y a₁ w₁ rfl hI₁
    exact ⟨e₂,a₂,w₂,hq₂,.of_steps (StepsIn.trans harr (.one (fenced_calm hb hr rfl) stepR_inLoop)) harr₂⟩
   |exit id=>exact ⟨_,a₁,w₁,hq,.pass (x := .inLoop c) rfl (fun _ _ => .inl (by simp)) harr⟩
   |goto l=>exact ⟨_,a₁,w₁,hq,.pass (x := .inLoop c) rfl (fun _ _ => .inl (by simp)) harr⟩
   |ret=>exact ⟨_,a₁,w₁,hq,.pass (x := .inLoop c) rfl (fun _ _ => .inl (by simp)) harr⟩
   |panic ch=>exact ⟨_,a₁,w₁,hq,.pass (x := .inLoop c) rfl (fun _ _ => .inl (by simp)) harr⟩
   |outgrown=>exact ⟨_,a₁,w₁,hq,.pass (x := .inLoop c) rfl (fun _ _ => .inl (by simp)) harr⟩
 obtain ⟨e,a',w',hq,harr⟩:=key _ x a w rfl h₀
 exact ⟨e,a',w',hq,.of_steps (.one (fenced_calm hb hr rfl) stepR_loop) harr⟩
end
end Go.Eng

namespace Go.Eng
theorem No:∀ l:List AV,l.map (AV.ren1 [])=l
 |[]=>rfl
 |x::l=>by rw [List.map_cons,No l];cases x<;>rfl
theorem Rg:(x:AV)->x.ren []=x
 |.any=>rfl
 |.dv _=>rfl
 |.cons x xs=>by show AV.cons (x.ren []) (xs.ren [])=_;rw [Rg x,Rg xs]
 |.ptr _ _ _=>rfl
 |.rp _=>rfl
 |.sl _ _ _ _ _=>rfl
 |.mp _=>rfl
 |.stamp _=>rfl
 |.yld _=>rfl
 |.vs _ _ _=>rfl
 |.slc _ _ _ _=>rfl
 |.emp=>rfl
 |.nq _ _=>rfl
 |.fn f caps=>by show AV.fn f (caps.map _)=_;rw [No]
 |.tup xs=>by show AV.tup (xs.map _)=_;rw [No]
 |.ifc t x=>by show AV.ifc t (x.ren [])=_;rw [Rg x]
def Cn (D:List Nat) (U:List (Nat×AV)):Nat->List AV->List AV
 |_,[]=>[]
 |i,x::r=>(match Nr U i with
  |some v=>v
  |none=>match Dp D i with|true => .any|false=>x)::Cn D U (i+1) r
def J1 (B:List (Nat×j6)):Nat->List j6->List j6
 |_,[]=>[]
 |i,x::r=>(match Nr B i with
  |some v=>v
  |none=>x)::J1 B (i+1) r
theorem Mb {D:List Nat} {U:List (Nat×AV)}:∀ {ts:List AV} {i:Nat} {K:List AV->Prop},Pz D U i ts K=K (Cn D U i ts)
 |[],_,_=>rfl
 |x::r,i,K=>by
  simp only [Pz,Cn]
  cases Nr U i with
  |some v=>simp only [Cy];rw [Mb]
  |none=>cases Dp D i<;>simp only<;>rw [Mb]
theorem Mc {B:List (Nat×j6)}:∀ {bs:List j6} {i:Nat} {K:List j6->Prop},Sz B i bs K=K (J1 B i bs)
 |[],_,_=>rfl
 |x::r,i,K=>by
  simp only [Sz,J1]
  cases Nr B i with
  |some v=>simp only [c08];rw [Mc]
  |none=>simp only;rw [Mc]
theorem Sv {D:List Nat} {U:List (Nat×AV)}:∀ {ts:List AV} {i:Nat},(Cn D U i ts).length=ts.length
 |[],_=>rfl
 |x::r,i=>by simp [Cn,Sv]
theorem Cz {B:List (Nat×j6)}:∀ {bs:List j6} {i:Nat},(J1 B i bs).length=bs.length
 |[],_=>rfl
 |x::r,i=>by simp [J1,Cz]
theorem a66 {D:List Nat} {U:List (Nat×AV)}:∀ {ts:List AV} {i t:Nat},t<ts.length->(Cn D U i ts).getD t .any=match Nr U (i+t) with
  |some v=>v
  |none=>match Dp D (i+t) with|true => .any|false=>ts.getD t .any
 |[],_,t,h=>by cases h
 |x::r,i,0,_=>by simp [Cn,List.getD]
 |x::r,i,t+1,h=>by
  have:=a66 (D:=D) (U:=U) (ts:=r) (i:=i+1) (t:=t) (by simpa using h)
  rw [show i+1+t=i+(t+1) from by omega] at this
  simpa [Cn,List.getD] using this
theorem c15 {D:List Nat}:∀ {ts ts1:List AV} {i:Nat},Yo D i ts1=Yo D i ts->ts1.length=ts.length/\∀ t,Dp D (i+t)=false->ts1.getD t .any=ts.getD t .any
 |[],[],_,_=>⟨rfl,fun _ _=>rfl⟩
 |[],_::_,_,h=>by simp [Yo] at h
 |_::_,[],_,h=>by simp [Yo] at h
 |x::r,y::r',i,h=>by
  simp only [Yo] at h
  injection h with h1 h2
  obtain ⟨hl,hg⟩:=c15 h2
  refine ⟨by simp [hl],fun t ht => ?_⟩
  cases t with
  |zero =>
   simp only [Nat.add_zero] at ht
   rw [ht] at h1
   simpa [List.getD] using h1
  |succ t =>
   have:=hg t (by rw [show i+1+t=i+(t+1) from by omega];exact ht)
   simpa [List.getD] using this
theorem f69 {σ:List (Nat×Nat)} {ts1:List AV}:∀ {U:List (Nat×AV)},eqU σ ts1 U->∀ t v,Nr U t=some v->v = .any\/ts1.getD t .any=v.ren σ
 |[],_,t,v,h=>by cases h
 |(i,x)::r,h,t,v,hg=>by
  simp only [eqU] at h
  have hh:(x = .any\/ts1.getD i .any=x.ren σ)/\eqU σ ts1 r:=by
   split at h
   ·exact ⟨.inl rfl,h⟩
   ·exact ⟨.inr h.1,h.2⟩
  simp only [Nr] at hg
  split at hg
  ·rename_i hb
   cases hg
   rw [Nat.eq_of_beq_eq_true hb];exact hh.1
  ·exact f69 hh.2 t v hg
theorem a67 {p:Nat->Bool}:∀ {U:List (Nat×AV)},Ta p U=true->∀ t v,Nr U t=some v->v.inB p=true
 |[],_,t,v,h=>by cases h
 |(i,x)::r,h,t,v,hg=>by
  simp only [Ta] at h
  split at h
  ·rename_i hx
   simp only [Nr] at hg
   split at hg
   ·cases hg;exact hx
   ·exact a67 h t v hg
  ·cases h
theorem g53 {σ:List (Nat×Nat)} {bs1:List j6} {i:Nat} {x:j6} (h:d81 σ bs1 i x):x = .dead\/G2 bs1 (q8 σ i)=x.ren σ:=by
 unfold d81 at h
 split at h
 ·exact .inl rfl
 ·exact .inr h
theorem f70 {σ:List (Nat×Nat)} {B:List (Nat×j6)} {bs1:List j6}:∀ {bs:List j6} {i:Nat},eqB σ B bs1 i bs->∀ b,b<bs.length->G2 (J1 B i bs) b = .dead\/G2 bs1 (q8 σ (i+b))=(G2 (J1 B i bs) b).ren σ
 |[],_,_,b,h=>by cases h
 |x::r,i,h,b,hb=>by
  have hh:d81 σ bs1 i (match Nr B i with|some v=>v|none=>x)/\eqB σ B bs1 (i+1) r:=by
   simp only [eqB] at h
   split at h
   ·rename_i hg;rw [hg];exact h
   ·rename_i hg;rw [hg];exact h
  cases b with
  |zero=>exact g53 hh.1
  |succ b =>
   have:=f70 hh.2 b (by simpa using hb)
   rw [show i+1+b=i+(b+1) from by omega] at this
   simpa [J1,G2,List.getD] using this
theorem a68 {p:Nat->Bool} {B:List (Nat×j6)}:∀ {bs:List j6} {i:Nat},Wy p B i bs=true->∀ b,b<bs.length->(G2 (J1 B i bs) b).inB p=true
 |[],_,_,b,h=>by cases h
 |x::r,i,h,b,hb=>by
  have hh:(match Nr B i with|some v=>v|none=>x).inB p=true/\Wy p B (i+1) r=true:=by
   simp only [Wy] at h
   split at h
   ·rename_i hg;rw [hg]
    split at h
    ·rename_i h1;exact ⟨h1,h⟩
    ·cases h
   ·rename_i hg;rw [hg]
    split at h
    ·rename_i h1;exact ⟨h1,h⟩
    ·cases h
  cases b with
  |zero=>exact hh.1
  |succ b =>
   have:=a68 hh.2 b (by simpa using hb)
   simpa [J1,G2,List.getD] using this
theorem c19 {p:Nat->Bool} {D:List Nat} {U:List (Nat×AV)}:∀ {ts:List AV} {i:Nat},c27 p D U i ts=true->∀ t,t<ts.length->Nr U (i+t)=none->Dp D (i+t)=false->(ts.getD t .any).inB p=true
 |[],_,_,t,h,_,_=>by cases h
 |x::r,i,h,t,ht,h1,h2=>by
  simp only [c27] at h
  cases t with
  |zero =>
   rw [Nat.add_zero] at h1 h2
   rw [h1,h2] at h
   simp only at h
   split at h
   ·rename_i hx;exact hx
   ·cases h
  |succ t =>
   have hr:c27 p D U (i+1) r=true:=by
    split at h
    ·split at h
     ·exact h
     ·cases h
    ·exact h
   have:=c19 hr t (by simpa using ht) (by rw [show i+1+t=i+(t+1) from by omega];exact h1) (by rw [show i+1+t=i+(t+1) from by omega];exact h2)
   simpa [List.getD] using this
theorem f15 {f:Nat->Nat} {n:Nat} (h:a82 ((List.range n).map f)=true):∀ b b',b<n->b'<n->f b=f b'->b=b':=by
 have hnd:∀ l:List Nat,a82 l=true->l.Nodup:=by
  intro l
  induction l with
  |nil=>intro _;exact .nil
  |cons x l ih =>
   intro h
   unfold a82 at h
   split at h
   ·cases h
   ·rename_i hx
    refine List.nodup_cons.2 ⟨fun hm => ?_,ih h⟩
    rw [Bq hm] at hx;cases hx
 have hp:=hnd _ h
 intro b b' hb hb' e
 have h1:=List.pairwise_map.1 hp
 rcases Nat.lt_trichotomy b b' with hlt|heq|hgt
 ·have:=List.pairwise_iff_getElem.1 h1 b b' (by simpa using hb) (by simpa using hb') hlt
  simp at this;exact absurd e this
 ·exact heq
 ·have:=List.pairwise_iff_getElem.1 h1 b' b (by simpa using hb') (by simpa using hb) hgt
  simp at this;exact absurd e.symm this
theorem d71 {p:Nat->Bool}:∀ {O:List (List AV)},i61 p O=true->∀ ts,ts∈O->∀ x,x∈ts->x.inB p=true
 |[],_,ts,h=>by cases h
 |t0::O,h,ts,hts=>by
  simp only [i61] at h
  split at h
  ·rename_i hu
   rcases List.mem_cons.1 hts with rfl|hts
   ·have:∀ (l:List AV),Ta p (l.map fun x=>(0,x))=true->∀ x,x∈l->x.inB p=true:=by
     intro l
     induction l with
     |nil=>intro _ x hx;cases hx
     |cons y l ih =>
      intro h x hx
      simp only [List.map_cons,Ta] at h
      split at h
      ·rename_i hy
       rcases List.mem_cons.1 hx with rfl|hx
       ·exact hy
       ·exact ih h x hx
      ·cases h
    exact this _ hu
   ·exact d71 h ts hts
  ·cases h
theorem a69 {k:Nat}:∀ {σ:List (Nat×Nat)},f77 k σ=true->∀ b,b<k->q8 σ b=b
 |[],_,_,_=>rfl
 |(i,j)::r,h,b,hb=>by
  simp only [f77] at h
  split at h
  ·rename_i hk
   have hk:=Nat.le_of_ble_eq_true hk
   unfold q8
   split
   ·rename_i hbe;have:=Nat.eq_of_beq_eq_true hbe;omega
   ·exact a69 h b hb
  ·cases h
theorem Md {σ:List (Nat×Nat)} {n b:Nat} (h:h60 σ n b=true):b<n/\q8 σ b=b:=by
 unfold h60 at h
 split at h
 ·rename_i hb
  rw [Nat.blt_eq] at hb
  exact ⟨hb,Nat.eq_of_beq_eq_true h⟩
 ·cases h
section
variable {P:Program} {G:G1} {T:Tr} {E0:y6} {Ho:Nat->j6} {w0:World} {Fs:List (List AV×Act)}
def Ja (G:G1):Prop:=∀ g,(G g).inB (fun _=>false)=true
theorem GOK.pull (hG0:Ja G) {E E':y6} (hrd:∀ r j v,E.rd r j=some v->E'.rd r j=some v) (hfx:E'.fx=E.fx) (h:GOK E G):GOK E' G:=⟨fun g=>by
 have:=o0.to (A:=E) (B:=E') (σ:=[]) (p:=fun _=>false) ⟨fun b hb=>Bool.noConfusion hb,fun b hb=>Bool.noConfusion hb,fun b hb=>Bool.noConfusion hb⟩ hrd (hG0 g) (h.1 g)
 rw [Rg] at this
 exact this,by rw [hfx];exact h.2⟩
theorem a83.sim {X:Type} {F:Fam X} {k:Nat} {D:List Nat} {ts ts1:List AV} {bs bs1:List j6} {y:X} {σ:List (Nat×Nat)} (hR0:Q9 E0 Ho w0) (hG0:Ja G) (hk:∀ b,E0.pl b ≠ .unborn->b<k/\b<bs.length) (h:a83 F k (Fs.map (·.1)) D ts bs ts1 bs1 y σ) {a:Act} {w:World} (hS:Bn G Fs E0 Ho w0 ts1 bs1 a w) :
  Bn G Fs E0 Ho w0 (Cn D (F.U y) 0 ts) (J1 (F.B y) 0 bs) a w:=by
 obtain ⟨hmask,hU,hB,hm⟩:=h
 obtain ⟨E,acc,hS⟩:=hS
 unfold j25 at hm
 split at hm
 ·rename_i hu hub hst hout
  have hσ:(∀ b,b<k->q8 σ b=b)/\∀ b b',b<bs.length->b'<bs.length->q8 σ b=q8 σ b'->b=b':=by
   split at hm
   ·exact ⟨fun _ _=>rfl,fun _ _ _ _ h=>h⟩
   ·split at hm
    ·rename_i h1 h2;exact ⟨a69 h1,f15 h2⟩
    ·cases hm
  obtain ⟨hfix,hinj⟩:=hσ
  obtain ⟨hlen,hget⟩:=c15 hmask
  have hH':∀ b,b<bs.length->G2 (J1 (F.B y) 0 bs) b = .dead\/upds Ho acc (q8 σ b)=(G2 (J1 (F.B y) 0 bs) b).ren σ:=by
   intro b hb
   have:=f70 hB b hb
   rw [Nat.zero_add] at this
   rw [hS.H];exact this
  have hoff:∀ b,bs.length≤b->G2 (J1 (F.B y) 0 bs) b = .dead:=fun b hb=>a01 (by rw [Cz];exact hb)
  have hrel:=hS.step.rel.pull hH' hoff (a68 hub) hinj
  have hpl:∀ b,b<bs.length->(E.pull σ bs.length).pl b=E.pl (q8 σ b):=fun b hb=>if_pos hb
  have hE:Ext E0 (E.pull σ bs.length):=by
   refine ⟨fun b hb => ?_,fun b hb => ?_,fun b hb => ?_,hS.step.ext.rd,hS.step.ext.fx⟩
   ·rw [hpl b (hk b hb).2,hfix b (hk b hb).1];exact hS.step.ext.pl b hb
   ·show E.lay (q8 σ b)=_;rw [hfix b (hk b hb).1];exact hS.step.ext.lay b hb
   ·show E.top (q8 σ b)=_;rw [hfix b (hk b hb).1];exact hS.step.ext.top b hb
  have hat:∀ b r o,(E.pull σ bs.length).pl b = .at r o->b<bs.length/\E.pl (q8 σ b) = .at r o:=by
   intro b r o h
   by_cases hb:b<bs.length
   ·exact ⟨hb,(hpl b hb)▸h⟩
   ·have:(if b<bs.length then E.pl (q8 σ b) else a59.unborn) = .at r o:=h
    rw [if_neg hb] at this;cases this
  have hnew:∀ b,b<bs.length->E0.pl b = .unborn->E0.pl (q8 σ b) = .unborn:=by
   intro b hb hu
   refine Classical.byContradiction fun hne => ?_
   obtain ⟨h1,h2⟩:=hk _ hne
   have:=hinj b (q8 σ b) hb h2 (by rw [hfix _ h1])
   rw [←this] at hne
   exact hne hu
  have hown:upds Ho (c13 (J1 (F.B y) 0 bs))=G2 (J1 (F.B y) 0 bs):=by
   funext b
   rw [f13]
   split
   ·rfl
   ·rename_i hb
    rw [Cz] at hb
    have hu:E0.pl b = .unborn:=Classical.byContradiction fun hne=>hb (hk b hne).2
    rw [hoff b (Nat.le_of_not_lt hb),hR0.born b hu]
  have hm0:=hS.step.mem
  refine ⟨E.pull σ bs.length,c13 (J1 (F.B y) 0 bs),⟨.any _ _,by rw [hown];exact hrel,hE,⟨hm0.os,hm0.tape,hm0.output,hm0.size,hm0.same,hm0.rd,?_⟩,?_,?_,?_⟩,hown,by rw [hS.size,Sv,hlen],?_,GOK.pull (E:=E) (E':=E.pull σ bs.length) hG0 (fun _ _ _ h=>h) rfl hS.glob,?_,?_,?_⟩
  ·intro b r o hu hp
   obtain ⟨hb,hp'⟩:=hat b r o hp
   exact hm0.new (q8 σ b) r o (hnew b hb hu) hp'
  ·intro b _ hb
   refine Ma.2 ?_
   rw [Cz]
   exact Nat.lt_of_not_le fun hle=>hb (if_neg (Nat.not_lt.2 hle))
  ·intro b hb
   rw [hown] at hb
   by_cases hu:E0.pl b = .unborn
   ·exact .inr hu
   ·have hkb:=hk b hu
    rcases hH' b hkb.2 with h1|h1
    ·rw [h1] at hb;cases hb
    ·rw [hfix b hkb.1] at h1
     exact hS.step.live b (by rw [h1,Fw];exact hb)
  ·intro b r o _ hp hno
   exact absurd (Ma.2 (by rw [Cz];exact (hk b (Du hp)).2)) hno
  ·intro t
   by_cases ht:t<ts.length
   ·rw [a66 ht,Nat.zero_add]
    cases hg:Nr (F.U y) t with
    |some v =>
     simp only
     rcases f69 hU t v hg with e|e
     ·rw [e];exact .any _ _
     ·have:=hS.tmps t
      rw [e] at this
      exact o0.back (E.pull_mp σ bs.length) (fun _ _ _ h=>h) (a67 hu t v hg) this
    |none =>
     simp only
     cases hD:Dp D t with
     |true=>exact .any _ _
     |false =>
      simp only
      have h1:=c19 hst t ht (by rw [Nat.zero_add];exact hg) (by rw [Nat.zero_add];exact hD)
      have h2:=hS.tmps t
      rw [hget t (by rw [Nat.zero_add];exact hD)] at h2
      refine o0.back (A:=E.pull σ bs.length) (B:=E) (σ:=[]) ⟨fun b hb => ?_,fun b hb => ?_,fun b hb => ?_⟩ (fun _ _ _ h=>h) h1 (by rw [Rg];exact h2)
      ·obtain ⟨h3,h4⟩:=Md hb
       rw [hpl b h3,h4];rfl
      ·show E.lay b=E.lay (q8 σ b);rw [(Md hb).2]
      ·show E.top b=E.top (q8 σ b);rw [(Md hb).2]
   ·have:(Cn D (F.U y) 0 ts).getD t .any = .any:=by simp [List.getD,List.getElem?_eq_none (show (Cn D (F.U y) 0 ts).length≤t from by rw [Sv];omega)]
    rw [this];exact .any _ _
  ·intro b hb
   rw [Cz]
   exact Nat.lt_of_not_le fun hle=>hb (if_neg (Nat.not_lt.2 hle))
  ·intro x hx
   exact Ma.1 (List.mem_map.2 ⟨x,hx,rfl⟩)
  ·have hdf:∀ ds,DF w0.heap.size E (G2 bs1) w ds->DF w0.heap.size (E.pull σ bs.length) (G2 (J1 (F.B y) 0 bs)) w ds:=by
    intro ds h d hd
    obtain ⟨r,hm,e,hr,hno⟩:=h d hd
    refine ⟨r,hm,e,hr,fun b o hb hp => ?_⟩
    obtain ⟨hbn,hp'⟩:=hat b r o hp
    rcases hH' b hbn with h1|h1
    ·rw [h1] at hb;cases hb
    ·refine hno (q8 σ b) o ?_ hp'
     rw [←hS.H,h1,Fw];exact hb
   have hrep:∀ x v,x.inB (h60 σ bs.length)=true->o0 E x v->o0 (E.pull σ bs.length) x v:=by
    intro x v h1 h2
    refine o0.back (A:=E.pull σ bs.length) (B:=E) (σ:=[]) ⟨fun b hb => ?_,fun b hb => ?_,fun b hb => ?_⟩ (fun _ _ _ h=>h) h1 (by rw [Rg];exact h2)
    ·obtain ⟨h3,h4⟩:=Md hb
     rw [hpl b h3,h4];rfl
    ·show E.lay b=E.lay (q8 σ b);rw [(Md hb).2]
    ·show E.top b=E.top (q8 σ b);rw [(Md hb).2]
   refine ⟨hS.defers.nd,hdf _ hS.defers.df,hS.defers.size,fun x hx t => ?_,fun x hx=>hdf _ (hS.defers.out x hx)⟩
   have h1:=hS.defers.tmps x hx t
   by_cases ht:t<x.1.length
   ·have e:x.1.getD t .any=x.1[t]:=by simp [List.getD,List.getElem?_eq_getElem ht]
    rw [e] at h1 ⊢
    exact hrep _ _ (d71 hout x.1 (List.mem_map.2 ⟨x,hx,rfl⟩) _ (List.getElem_mem ht)) h1
   ·have e:x.1.getD t .any = .any:=by simp [List.getD,List.getElem?_eq_none (Nat.le_of_not_lt ht)]
    rw [e];exact .any _ _
 ·cases hm
end
end Go.Eng

namespace Go.Eng
section
variable {P:Program} {G:G1} {T:Tr} {E0:y6} {Ho:Nat->j6} {w0:World} {Fs:List (List AV×Act)} {ro:Option Nat} {nn:Nat}
theorem Gi (hR0:Q9 E0 Ho w0):∀ {N:List (Nat×j6)} {ts:List AV} {bs:List j6} {K:List AV->List j6->Prop} {a:Act} {w:World},Qb N ts bs K->Bn G Fs E0 Ho w0 ts bs a w->∃ ts' bs',K ts' bs'/\Bn G Fs E0 Ho w0 ts' bs' a w/\bs.length≤bs'.length
 |[],ts,bs,K,a,w,h,hS=>⟨ts,bs,h,hS,Nat.le_refl _⟩
 |(t,x)::r,ts,bs,K,a,w,h,hS=>by
  simp only [Qb] at h
  split at h
  ·rename_i hts
   have go:∀ (x:j6) (la:t9) (C:Rd->List Value->Prop),Ey x 0 la C->(Sy ts t (.sl bs.length [] la 0 0) fun ts=>Hh bs bs.length x fun bs=>Qb r ts bs K)->∃ ts' bs',K ts' bs'/\Bn G Fs E0 Ho w0 ts' bs' a w/\bs.length≤bs'.length:=by
    intro x la C hB h
    obtain ⟨hlt,h⟩:=Lx h
    obtain ⟨bs1,h,hl,hc⟩:=U0 h
    obtain ⟨E,acc,hS⟩:=hS
    have hk:E.pl bs.length = .unborn:=Classical.byContradiction fun hne=>by have:=hS.unborn _ hne;omega
    obtain ⟨E',hst⟩:=q9.emptyB hS.step.rel hk hB rfl none
    have hv:a.tmps.getD t undef = .slice none 0 0:=by
     have:=hS.tmps t
     rw [hts] at this
     exact O8 this
    have hS':=hS.next (ts':=ts.set t (.sl bs.length [] la 0 0)) (bs':=bs1) (a':=a) hR0 hst (by funext c;rw [hc];rfl) (by omega) (fun y hy=>by rw [List.mem_singleton.1 hy];simp only;omega) (by rw [hS.size,List.length_set]) (fun t'=>by
     by_cases e:t'=t
     ·subst e
      rw [show (ts.set t' (.sl bs.length [] la 0 0)).getD t' .any = .sl bs.length [] la 0 0 from by simp [List.getD,hlt],hv]
      exact hst.val
     ·rw [show (ts.set t (.sl bs.length [] la 0 0)).getD t' .any=ts.getD t' .any from by simp [List.getD,List.getElem?_set_ne (Ne.symm e)]]
      exact (hS.tmps t').ext hst.ext) rfl
    obtain ⟨ts',bs',g1,g2,g3⟩:=Gi hR0 h hS'
    exact ⟨ts',bs',g1,g2,by omega⟩
   split at h
   ·split at h
    ·exact go _ _ _ (Ey.ints _ []) h
    ·exact h.elim
   ·split at h
    ·exact go _ _ _ (Ey.parts _ 0 _) h
    ·exact h.elim
   ·exact h.elim
  ·exact h.elim
theorem d72 {cs cy:List Value} {o:Nat} (h:(cs.drop o).take cy.length=cy) (hle:o+cy.length≤cs.length):u5 cs o cy=cs:=by
 unfold u5
 have e:cs=cs.take o++((cs.drop o).take cy.length++(cs.drop o).drop cy.length):=by
  rw [List.take_append_drop,List.take_append_drop]
 rw [h,List.drop_drop] at e
 rw [List.append_assoc]
 exact e.symm
theorem q9.nilb {E:y6} {H:Nat->j6} {w:World} (hR:Q9 E H w) {key b:Nat} {p:List Nat} {x:AV} {l:t9} {o:Nat} {y:j6} (hku1:E.pl key = .unborn) (hb:H b = .var x) (hx:x.at p = .dv (.sc (.slice none 0 0))) (hl:J6 x.lay p=some (o,.one))
  (hy:(∃ k,y = .rowI k []/\l = .one)\/∃ g,y = .row l 0 g) (hlay:(x.setP p (.sl key [] l 0 0)).lay=x.lay):∃ E',q9 E H w [(key,y),(b,.var (x.setP p (.sl key [] l 0 0)))] .any undef E' w:=by
 have hyb:y9 (E.none_ key l) key w y:=by
  rcases hy with ⟨k,rfl,rfl⟩|⟨g,rfl⟩
  ·exact ⟨if_pos rfl,.inl ⟨if_pos rfl,rfl⟩⟩
  ·exact ⟨if_pos rfl,.inl ⟨if_pos rfl,rfl⟩⟩
 have s1:=q9.empty hR hku1 l (x:=y) hyb (v := .any) (u:=undef) (.any _ _)
 have hbk:b≠key:=fun e=>D9 hR (b:=b) (by rw [hb];intro h;cases h) (e▸hku1)
 have hHb:upds H [(key,y)] b = .var x:=(if_neg hbk).trans hb
 have hbr:=s1.rel.blk b
 rw [hHb] at hbr
 obtain ⟨q,oo,cs,hp,hla,hxr,hrs,htop,hroom⟩:=hbr
 obtain ⟨hat,_⟩:=hxr.at hl
 rw [hx] at hat
 have hcs:(cs.drop o).take 1=[.slice none 0 0]:=by
  have:=hat.dv_inv
  rw [show t9.one.size=1 from rfl] at this
  generalize (cs.drop o).take 1=q at this
  cases this;rfl
 have hlo:=R1 hl
 have hlen:cs.length=x.lay.size:=hxr.len
 have hnil:r6 (E.none_ key l) (.sl key [] l 0 0) [.slice none 0 0] :=
  .sl0 key [] l 0 none 0 0 (by rw [show (E.none_ key l).pl key = .nowhere from if_pos rfl];intro h;cases h) (by
   rw [o6,show (E.none_ key l).lay key = .arr 0 l from if_pos rfl]) (Nat.le_refl _)
 have hx':r6 (E.none_ key l) (x.setP p (.sl key [] l 0 0)) cs:=by
  have:=hxr.setP hl hnil rfl hlay
  rwa [d72 (by exact hcs) (by rw [hlen];simpa [t9.size] using hlo)] at this
 have s2:=q9.write (w':=w) (x := .var (x.setP p (.sl key [] l 0 0))) s1.rel (by rw [hHb];rfl) hp rfl rfl rfl rfl (fun _ _=>rfl) (fun _ _=>rfl) (fun _=>rfl) rfl ⟨q,oo,cs,hp,by rw [hla,hlay],hx',hrs,htop,hroom⟩ s1.val
 exact ⟨_,q9.trans hR s1 s2⟩
theorem Bn.nilb (hR0:Q9 E0 Ho w0) {ts:List AV} {bs bs1 bs2:List j6} {a:Act} {w:World} (hS:Bn G Fs E0 Ho w0 ts bs a w) {b:Nat} {p:List Nat} {x:AV} {l:t9} {o:Nat} {y:j6} (hb:G2 bs b = .var x) (hx:x.at p = .dv (.sc (.slice none 0 0))) (hl:J6 x.lay p=some (o,.one))
  (hy:(∃ k,y = .rowI k []/\l = .one)\/∃ g,y = .row l 0 g) (hlay:(x.setP p (.sl bs.length [] l 0 0)).lay=x.lay)
  (h1:bs1.length=max bs.length (bs.length+1)) (h2:∀ c,G2 bs1 c=if c=bs.length then y else G2 bs c) (h3:bs2.length=max bs1.length (b+1)) (h4:∀ c,G2 bs2 c=if c=b then .var (x.setP p (.sl bs.length [] l 0 0)) else G2 bs1 c):Bn G Fs E0 Ho w0 ts bs2 a w:=by
 obtain ⟨E,acc,hS⟩:=hS
 have hk:E.pl bs.length = .unborn:=Classical.byContradiction fun hne=>by have:=hS.unborn _ hne;omega
 obtain ⟨E',hst⟩:=q9.nilb hS.step.rel hk (by rw [hS.H];exact hb) hx hl hy hlay
 have hblt:b<bs.length:=hS.unborn b (D9 hS.step.rel (by rw [hS.H,hb];intro h;cases h))
 refine hS.next hR0 hst ?_ (by omega) (fun z hz => ?_) hS.size (fun t=>(hS.tmps t).ext hst.ext) rfl
 ·funext c
  rw [h4]
  show _=Pf (Pf (G2 bs) bs.length y) b _ c
  unfold Pf
  split
  ·rfl
  ·exact h2 c
 ·rcases List.mem_cons.1 hz with e|hz
  ·subst e;simp only;omega
  ·obtain rfl:=List.mem_singleton.1 hz
   simp only;omega
theorem Gj (hR0:Q9 E0 Ho w0):∀ {M:List (Nat×List Nat×j6)} {ts:List AV} {bs:List j6} {K:List j6->Prop} {a:Act} {w:World},Qc M bs K->Bn G Fs E0 Ho w0 ts bs a w->∃ bs',K bs'/\Bn G Fs E0 Ho w0 ts bs' a w/\bs.length≤bs'.length
 |[],ts,bs,K,a,w,h,hS=>⟨bs,h,hS,Nat.le_refl _⟩
 |(b,p,y)::r,ts,bs,K,a,w,h,hS=>by
  simp only [Qc] at h
  split at h
  ·rename_i x hb
   split at h
   ·rename_i o hx hl
    have go:∀ (l:t9) (y:j6),(∃ k,y = .rowI k []/\l = .one)\/(∃ g,y = .row l 0 g)->(match decide ((x.setP p (.sl bs.length [] l 0 0)).lay=x.lay) with
      |true=>Je (x.setP p (.sl bs.length [] l 0 0)) fun x'=>Hh bs bs.length y fun bs=>Hh bs b (.var x') fun bs=>Qc r bs K
      |false=>False)->∃ bs',K bs'/\Bn G Fs E0 Ho w0 ts bs' a w/\bs.length≤bs'.length:=by
     intro l y hy h
     split at h
     ·rename_i hlay
      have hlay:=of_decide_eq_true hlay
      rw [Cy] at h
      obtain ⟨bs1,h,h1,h2⟩:=U0 h
      obtain ⟨bs2,h,h3,h4⟩:=U0 h
      obtain ⟨bs',g1,g2,g3⟩:=Gj hR0 h (hS.nilb hR0 hb hx hl hy hlay h1 h2 h3 h4)
      exact ⟨bs',g1,g2,by omega⟩
     ·exact h.elim
    split at h
    ·split at h
     ·exact go _ _ (.inl ⟨_,rfl,rfl⟩) h
     ·exact h.elim
    ·split at h
     ·exact go _ _ (.inr ⟨_,rfl⟩) h
     ·exact h.elim
    ·exact h.elim
   ·exact h.elim
  ·exact h.elim
theorem a70:∀ {n:Nat} {bs:List j6} {K:List j6->Prop},d82 n bs K->∃ bs',K bs'/\bs.length≤bs'.length
 |0,bs,K,h=>⟨bs,h,Nat.le_refl _⟩
 |n+1,bs,K,h=>by
  obtain ⟨bs1,h,h1,_⟩:=U0 h
  obtain ⟨bs',h,h2⟩:=a70 h
  exact ⟨bs',h,by omega⟩
theorem Rh {K:R0} {c:Code} {a:Act} {w:World} {N:List AV->List j6->Prop} {R:Act->World->Prop} (hn:∀ ts bs a w,N ts bs->Bn G Fs E0 Ho w0 ts bs a w->R a w) (h:c.wpIn (Lt ro) nn P (Z3 G Fs E0 Ho w0 (Py N K)) a w) :
  c.wpIn (Lt ro) nn P (Exit.then R (Z3 G Fs E0 Ho w0 K)) a w:=by
 refine wpIn_mono h fun e a w hq => ?_
 cases e with
 |normal=>obtain ⟨ts,bs,h1,h2⟩:=hq;exact hn ts bs a w h1 h2
 |exit i=>exact hq
 |goto l=>exact hq
 |ret=>exact hq
 |panic ch=>exact hq
 |outgrown=>exact hq
theorem Aa {b:Frame} {a:Act} {k:List Item} {cs:List Frame} {w:World} {c:Code}:step P (lone (b.atR a (.code (.scope c)::k)) cs w) = .next (lone (b.atR a (.code c :: .inScope c::k)) cs w) :=
 step_lone_go (by simp [stepG,stepG.exec,Frame.atR])
theorem Ru {b:Frame} {a:Act} {k:List Item} {cs:List Frame} {w:World} {c:Code}:step P (lone (b.atR a (.inScope c::k)) cs w) = .next (lone (b.atR a k) cs w) :=
 step_lone_go (by simp [stepG,stepG.exec,Frame.atR])
def d73 (P:Program) (ro:Option Nat) (nn:Nat) (c:Code) (Q:Exit->Act->World->Prop) (l:Nat) (a:Act) (w:World):Prop :=
 ∃ rest,findLabel c l=some rest/\∀ (b:Frame) (k:List Item) (cs:List Frame),b.roundOf=(Lt ro).round->∃ e a' w',Q e a' w'/\ArrivesIn (Machine.fenced P (Lt ro)) P (lone (b.atR a (.code rest :: .inScope c::k)) cs w) b k cs e a' w'
def j36 (P:Program) (ro:Option Nat) (nn:Nat) (c:Code) (Q:Exit->Act->World->Prop):Exit->Act->World->Prop
 |.goto l,a,w=>d73 P ro nn c Q l a w
 |e,a,w=>Q e a w
def h46 (P:Program) (ro:Option Nat) (nn:Nat) (c:Code) (Q:Exit->Act->World->Prop) (l:Nat) (N:Act->World->Prop):Exit->Act->World->Prop
 |.goto l',a,w=>(l'=l/\N a w)\/d73 P ro nn c Q l' a w
 |e,a,w=>Q e a w
theorem c98 {c rest:Code} {l:Nat} (hf:findLabel c l=some rest) (k:List Item):gotoIn l (.inScope c::k)=some (.code rest :: .inScope c::k):=by simp [gotoIn,hf]
theorem a03 {c:Code} {id:Nat} {k:List Item}:exitTo id (.inScope c::k)=exitTo id k:=by simp [exitTo]
theorem b86 {c:Code} {Q:Exit->Act->World->Prop} {a:Act} {w:World} (first:c.wpIn (Lt ro) nn P (j36 P ro nn c Q) a w):(Code.scope c).wpIn (Lt ro) nn P Q a w:=by
 intro b k cs hro hb hr
 have h0:(lone (b.atR a (.code (.scope c)::k)) cs w).fenced P (Lt ro):=fenced_calm hb hr rfl
 obtain ⟨e,a₁,w₁,hq,harr⟩:=first b (.inScope c::k) cs hro hb hr
 cases e with
 |normal=>exact ⟨.normal,a₁,w₁,hq,.head h0 Aa (StepsIn.trans harr (.one (fenced_calm hb hr rfl) Ru))⟩
 |exit id=>exact ⟨.exit id,a₁,w₁,hq,fun k' hk => .head h0 Aa (harr.1 k' (by rw [a03];exact hk)),
   fun hr' hk=>let ⟨k₁,h1,h2⟩:=harr.2 hr' (by rw [a03];exact hk);⟨k₁,h1,.head h0 Aa h2⟩⟩
 |goto l =>
  obtain ⟨rest,hf,hj⟩:=hq
  obtain ⟨e₂,a₂,w₂,hq₂,harr₂⟩:=hj b k cs hro
  exact ⟨e₂,a₂,w₂,hq₂,.of_steps (.head h0 Aa (harr.1 _ (c98 hf k))) harr₂⟩
 |ret=>exact ⟨_,a₁,w₁,hq,.of_steps (.one h0 Aa) harr⟩
 |panic ch=>exact ⟨_,a₁,w₁,hq,.of_steps (.one h0 Aa) harr⟩
 |outgrown=>exact ⟨_,a₁,w₁,hq,.of_steps (.one h0 Aa) harr⟩
theorem a71 {X:Type} {c rest:Code} {l:Nat} {Q:Exit->Act->World->Prop} (J:X->Act->World->Prop) (μ:X->Nat) (hf:findLabel c l=some rest)
  (pass:∀ x a w,J x a w->rest.wpIn (Lt ro) nn P (h46 P ro nn c Q l fun a' w'=>∃ y,J y a' w'/\μ y<μ x) a w) {x:X} {a:Act} {w:World} (h₀:J x a w):d73 P ro nn c Q l a w:=by
 refine ⟨rest,hf,fun b k cs hro => ?_⟩
 have hb:=St ro b.fn
 have hr:=h37 ro (cs.length+1+nn)
 have key:∀ n x a w,μ x=n->J x a w->∃ e a' w',Q e a' w'/\ArrivesIn (Machine.fenced P (Lt ro)) P (lone (b.atR a (.code rest :: .inScope c::k)) cs w) b k cs e a' w':=by
  intro n
  induction n using Nat.strongRecOn with
  |_ n ih =>
   intro x a w hn hJ
   obtain ⟨e,a₁,w₁,hq,harr⟩:=pass x a w hJ b (.inScope c::k) cs hro hb hr
   cases e with
   |normal=>exact ⟨.normal,a₁,w₁,hq,StepsIn.trans harr (.one (fenced_calm hb hr rfl) Ru)⟩
   |exit id=>exact ⟨.exit id,a₁,w₁,hq,fun k' hk=>harr.1 k' (by rw [a03];exact hk),fun hr' hk=>harr.2 hr' (by rw [a03];exact hk)⟩
   |goto l' =>
    rcases hq with ⟨rfl,y,hJ',hlt⟩|⟨rest',hf',hj⟩
    ·obtain ⟨e₂,a₂,w₂,hq₂,harr₂⟩:=ih (μ y) (hn▸hlt) y a₁ w₁ rfl hJ'
     exact ⟨e₂,a₂,w₂,hq₂,.of_steps (harr.1 _ (c98 hf k)) harr₂⟩
    ·obtain ⟨e₂,a₂,w₂,hq₂,harr₂⟩:=hj b k cs hro
     exact ⟨e₂,a₂,w₂,hq₂,.of_steps (harr.1 _ (c98 hf' k)) harr₂⟩
   |ret=>exact ⟨_,a₁,w₁,hq,harr⟩
   |panic ch=>exact ⟨_,a₁,w₁,hq,harr⟩
   |outgrown=>exact ⟨_,a₁,w₁,hq,harr⟩
 exact key _ x a w rfl h₀
def h47 (P:Program) (ro:Option Nat) (nn:Nat) (c:Code) (l:Nat) (Q:Exit->Act->World->Prop) (a:Act) (w:World):Prop:=∃ rest,findLabel c l=some rest/\rest.wpIn (Lt ro) nn P Q a w
theorem f71 {c:Code} {l:Nat} {K:R0} {N:List AV->List j6->Prop} {N':Act->World->Prop} {oth:Nat->List AV->List j6->Prop} {rest:Code} (hN:∀ ts bs a w,N ts bs->Bn G Fs E0 Ho w0 ts bs a w->N' a w)
  (ho:∀ l ts bs a w,oth l ts bs->Bn G Fs E0 Ho w0 ts bs a w->d73 P ro nn c (Z3 G Fs E0 Ho w0 K) l a w) {a:Act} {w:World} (h:rest.wpIn (Lt ro) nn P (Z3 G Fs E0 Ho w0 (f78 l N oth K)) a w):rest.wpIn (Lt ro) nn P (h46 P ro nn c (Z3 G Fs E0 Ho w0 K) l N') a w:=by
 refine wpIn_mono h fun e a w hq => ?_
 cases e with
 |normal=>exact hq
 |exit i=>exact hq
 |goto i =>
  obtain ⟨ts,bs,h1,h2⟩:=hq
  simp only [f78] at h1
  split at h1
  ·rename_i hb
   exact .inl ⟨Nat.eq_of_beq_eq_true hb,hN ts bs a w h1 h2⟩
  ·exact .inr (ho i ts bs a w h1 h2)
 |ret=>exact hq
 |panic ch=>exact hq
 |outgrown=>exact hq
theorem Yk (hR0:Q9 E0 Ho w0) (hG0:Ja G) {k:Nat} (hk:∀ b,E0.pl b ≠ .unborn->b<k) {c:Code} {D:List Nat} {body:Nat->R0->List AV->List j6->Prop} {K:R0}
  (hbody:∀ l K' ts bs a w,body l K' ts bs->Bn G Fs E0 Ho w0 ts bs a w->h47 P ro nn c l (Z3 G Fs E0 Ho w0 K') a w):∀ n l ts bs a w,d83 k (Fs.map (·.1)) D body K n l ts bs->Bn G Fs E0 Ho w0 ts bs a w->d73 P ro nn c (Z3 G Fs E0 Ho w0 K) l a w
 |0,_,_,_,_,_,h,_=>h.elim
 |n+1,l,ts,bs,a,w,h,hS=>by
  have hoth:=Yk (D:=D) (K:=K) hR0 hG0 hk hbody n
  rcases h with h|⟨Z,X,F,N,M,x,h⟩
  ·obtain ⟨rest,hf,hw⟩:=hbody l _ ts bs a w h hS
   refine a71 (X:=Unit) (fun _ a' w'=>a'=a/\w'=w) (fun _=>0) hf (fun _ a' w' hJ => ?_) (x:=()) ⟨rfl,rfl⟩
   obtain ⟨rfl,rfl⟩:=hJ
   exact f71 (fun _ _ _ _ h _=>h.elim) hoth hw
  ·obtain ⟨ts,bs,h,hS,_⟩:=Gi hR0 h hS
   obtain ⟨bs,⟨hmeet,hround⟩,hS,_⟩:=Gj hR0 h hS
   have hkb:∀ b,E0.pl b ≠ .unborn->b<k/\b<bs.length:=by
    intro b hb
    obtain ⟨E,acc,hS'⟩:=hS
    exact ⟨hk b hb,hS'.unborn b (by rw [hS'.step.ext.pl b hb];exact hb)⟩
   have hpass:∀ x a w,Bn G Fs E0 Ho w0 (Cn (Z++D) (F.U x) 0 ts) (J1 (F.B x) 0 bs) a w->h47 P ro nn c l (h46 P ro nn c (Z3 G Fs E0 Ho w0 K) l fun a' w'=>∃ y,Bn G Fs E0 Ho w0 (Cn (Z++D) (F.U y) 0 ts) (J1 (F.B y) 0 bs) a' w'/\F.μ y<F.μ x) a w:=by
    intro x a w hJ
    have h1:=hround x
    rw [Mb,Mc] at h1
    obtain ⟨rest,hf,hw⟩:=hbody l _ _ _ a w h1 hJ
    exact ⟨rest,hf,f71 (fun ts1 bs1 a w ⟨y,σ,hm1,hlt⟩ hS1=>⟨y,hm1.sim hR0 hG0 hkb hS1,hlt⟩) hoth hw⟩
   have h0:=hmeet.sim hR0 hG0 hkb hS
   obtain ⟨rest,hf,_⟩:=hpass x a w h0
   refine a71 (fun x a w=>Bn G Fs E0 Ho w0 (Cn (Z++D) (F.U x) 0 ts) (J1 (F.B x) 0 bs) a w) F.μ hf (fun x a w hJ => ?_) h0
   obtain ⟨rest',hf',hw⟩:=hpass x a w hJ
   rw [hf] at hf'
   cases hf'
   exact hw
theorem Np (hR0:Q9 E0 Ho w0) (hG0:Ja G) {k:Nat} (hk:∀ b,E0.pl b ≠ .unborn->b<k) {c:Code} {D:List Nat} {go:R0->Prop} {K:R0} {ts:List AV} {bs:List j6} {a:Act} {w:World} (hS:Bn G Fs E0 Ho w0 ts bs a w)
  (hgo:∀ K,go K->c.wpIn (Lt ro) nn P (Z3 G Fs E0 Ho w0 K) a w) (h:Me k (Fs.map (·.1)) D go K ts bs):c.wpIn (Lt ro) nn P (Z3 G Fs E0 Ho w0 K) a w:=by
 rcases h with h|⟨Z,X,F,n,h⟩
 ·exact hgo K h
 ·obtain ⟨bs',⟨hK,h⟩,hle⟩:=a70 h
  have hkb:∀ b,E0.pl b ≠ .unborn->b<k/\b<bs'.length:=by
   intro b hb
   obtain ⟨E,acc,hS'⟩:=hS
   exact ⟨hk b hb,Nat.lt_of_lt_of_le (hS'.unborn b (by rw [hS'.step.ext.pl b hb];exact hb)) hle⟩
  refine wpIn_mono (hgo _ h) fun e a w hq => ?_
  cases e with
  |normal =>
   obtain ⟨ts1,bs1,⟨N,M,hh⟩,hS1⟩:=hq
   obtain ⟨ts1,bs1,hh,hS1,_⟩:=Gi hR0 hh hS1
   obtain ⟨bs1,⟨y,σ,hm⟩,hS1,_⟩:=Gj hR0 hh hS1
   have:=hK y
   rw [Mb,Mc] at this
   exact ⟨_,_,this,hm.sim hR0 hG0 hkb hS1⟩
  |exit i=>exact hq
  |goto l=>exact hq
  |ret=>exact hq
  |panic ch=>exact hq
  |outgrown=>exact hq
theorem c20:∀ {n:Nat} {bs:List j6} {K:List j6->Prop},d82 n bs K->∃ bs',K bs'/\bs.length≤bs'.length/\G2 bs'=G2 bs
 |0,bs,K,h=>⟨bs,h,Nat.le_refl _,rfl⟩
 |n+1,bs,K,h=>by
  obtain ⟨bs1,h,h1,h2⟩:=U0 h
  obtain ⟨bs',h,h3,h4⟩:=c20 h
  refine ⟨bs',h,by omega,h4.trans (funext fun c => ?_)⟩
  rw [h2]
  split
  ·rename_i e;subst e;exact (a01 (Nat.le_refl _)).symm
  ·rfl
theorem h49 {n:Nat} {ts:List AV} {bs:List j6} {K:List j6->Prop} {a:Act} {w:World} (h:d82 n bs K) (hS:Bn G Fs E0 Ho w0 ts bs a w):∃ bs',K bs'/\Bn G Fs E0 Ho w0 ts bs' a w:=by
 obtain ⟨bs',hK,hle,he⟩:=c20 h
 obtain ⟨E,acc,hS⟩:=hS
 exact ⟨bs',hK,E,acc,hS.step,by rw [he];exact hS.H,hS.size,hS.tmps,hS.glob,fun b hb=>Nat.lt_of_lt_of_le (hS.unborn b hb) hle,fun x hx=>Nat.lt_of_lt_of_le (hS.acc x hx) hle,by rw [he];exact hS.defers⟩
end
end Go.Eng

namespace Go.Eng
section
variable {P:Program} {G:G1} {T:Tr} {E0:y6} {Ho:Nat->j6} {w0:World}
theorem Fh.nextE {Fs:List (List AV×Act)} (hR0:Q9 E0 Ho w0) {ts ts':List AV} {bs bs':List j6} {a a':Act} {w w':World} {E E':y6} {acc wr:List (Nat×j6)} {v:AV} {u:Value} (h:Fh G Fs E0 Ho w0 ts bs a w E acc) (hst:q9 E (upds Ho acc) w wr v u E' w')
  (hH:G2 bs'=upds (G2 bs) wr) (hle:bs.length≤bs'.length) (hin:∀ x,x∈wr->x.1<bs'.length) (hsz:a'.tmps.size=ts'.length) (ht:∀ t,o0 E' (ts'.getD t .any) (a'.tmps.getD t undef)) (hd:a'.defers=a.defers) :
  Fh G Fs E0 Ho w0 ts' bs' a' w' E' (acc++wr):=by
 refine ⟨(h.step.trans hR0 hst).free (.any _ _),by rw [Gk,h.H,hH],hsz,ht,h.glob.ext hst.ext,fun b hb => ?_,fun x hx => ?_,by rw [hd,hH,←h.H];exact (h.H▸h.defers).step hst⟩
 ·by_cases hu:E.pl b = .unborn
  ·obtain ⟨x,hx,e⟩:=List.mem_map.1 (hst.born b hu hb)
   rw [←e];exact hin x hx
  ·have:=h.unborn b hu;omega
 ·rcases List.mem_append.1 hx with hx|hx
  ·have:=h.acc x hx;omega
  ·exact hin x hx
theorem Fh.put1 {Fs:List (List AV×Act)} (hR0:Q9 E0 Ho w0) {ts:List AV} {bs bs':List j6} {a:Act} {w w':World} {E E':y6} {acc:List (Nat×j6)} {v:AV} {u:Value} {b:Nat} {x:j6} (h:Fh G Fs E0 Ho w0 ts bs a w E acc) (hst:q9 E (upds Ho acc) w [(b,x)] v u E' w')
  (h1:bs'.length=max bs.length (b+1)) (h2:∀ c,G2 bs' c=if c=b then x else G2 bs c):Fh G Fs E0 Ho w0 ts bs' a w' E' (acc++[(b,x)]) :=
 h.nextE hR0 hst (by funext c;rw [h2];rfl) (by omega) (fun z hz=>by obtain rfl:=List.mem_singleton.1 hz;simp only;omega) h.size (fun t=>(h.tmps t).ext hst.ext) rfl
theorem q9.lpx {E:y6} {H:Nat->j6} {w:World} (hR:Q9 E H w) {b r:Nat} {L:Loop} {s:LSt} (hb:H b = .lp L s) (hp:E.pl b = .at r 0) (L2:Loop) {x:j6} (hblk:y9 E b (w.putObj r (.loop L2)) x):q9 E H w [(b,x)] .any undef E (w.putObj r (.loop L2)):=by
 have hbr:=hR.blk b
 rw [hb] at hbr
 obtain ⟨r',hp',hl,ht,hw⟩:=hbr
 rw [hp] at hp'
 injection hp' with e
 subst e
 have hlt:r<w.heap.size:=(Array.getElem?_eq_some_iff.1 hw).1
 have hn:=World.putObj_heap_same (w:=w) (o := .loop L2) hlt
 refine q9.write (w':=w.putObj r (.loop L2)) (x:=x) hR (by rw [hb];rfl) hp rfl rfl rfl (by simp) (fun r' hr=>World.putObj_heap_other hr) ?_ ?_ ?_ hblk (.any _ _)
 ·intro j _
  simp only [World.cell?,hw,hn]
 ·intro j
  simp only [World.frozen?,hw,hn]
 ·simp only [World.shape?,hw,hn]
theorem Uu {E:y6} {H:Nat->j6} {w:World} (hR:Q9 E H w) {b r:Nat} {L:Loop} {s:LSt} (hb:H b = .lp L s) (hp:E.pl b = .at r 0):w.heap[r]?=some (.loop (Lu L s))/\E.lay b = .unit/\E.top b=0:=by
 have hbr:=hR.blk b
 rw [hb] at hbr
 obtain ⟨r',hp',hl,ht,hw⟩:=hbr
 rw [hp] at hp'
 injection hp' with e
 subst e
 exact ⟨hw,hl,ht⟩
theorem Fh.lp {Fs:List (List AV×Act)} (hR0:Q9 E0 Ho w0) {ts:List AV} {bs bs':List j6} {a:Act} {w:World} {E:y6} {acc:List (Nat×j6)} {b l:Nat} {L:Loop} {s s':LSt} (h:Fh G Fs E0 Ho w0 ts bs a w E acc) (hb:G2 bs b = .lp L s) (hp:E.pl b = .at l 0)
  (h1:bs'.length=max bs.length (b+1)) (h2:∀ c,G2 bs' c=if c=b then .lp L s' else G2 bs c):Bn G Fs E0 Ho w0 ts bs' a (w.putObj l (.loop (Lu L s'))):=by
 have hb':upds Ho acc b = .lp L s:=by rw [h.H];exact hb
 obtain ⟨hw,hl,ht⟩:=Uu h.step.rel hb' hp
 exact ⟨E,_,h.put1 hR0 (q9.lpx h.step.rel hb' hp _ (x := .lp L s') ⟨l,hp,hl,ht,World.putObj_heap_same (Array.getElem?_eq_some_iff.1 hw).1⟩) h1 h2⟩
theorem g61 {bs:List j6} {yb:Nat} {st:LSt} {K:List j6->Prop} (h:a84 bs yb st K):∃ L bs',G2 bs yb = .lp L .busy/\K bs'/\bs'.length=max bs.length (yb+1)/\∀ c,G2 bs' c=if c=yb then .lp L st else G2 bs c:=by
 unfold a84 at h
 split at h
 ·rename_i L s hb
  split at h
  ·obtain ⟨bs',hK,h1,h2⟩:=U0 h
   exact ⟨L,bs',hb,hK,h1,h2⟩
  ·exact h.elim
 ·exact h.elim
theorem d88 {bs:List j6} {yb:Nat} {K:List j6->Prop} (h:d02 bs yb K):∃ L bs',G2 bs yb = .lp L .ready/\K bs'/\bs'.length=max bs.length (yb+1)/\∀ c,G2 bs' c=if c=yb then .lp L .busy else G2 bs c:=by
 unfold d02 at h
 split at h
 ·rename_i L s hb
  split at h
  ·obtain ⟨bs',hK,h1,h2⟩:=U0 h
   exact ⟨L,bs',hb,hK,h1,h2⟩
  ·exact h.elim
 ·exact h.elim
theorem Rk {Fs:List (List AV×Act)} {E:y6} {H:Nat->j6} {w:World} {ds:List Deferred} {m yb l:Nat} (h:OK3 m Fs E H w ds) (hm:([AV.yld yb],({ tmps := #[.func (.yield l) #[] #[]],defers:=[] }:Act))∈Fs):E.pl yb = .at l 0:=by
 have:=h.tmps _ hm 0
 have:o0 E (.yld yb) (.func (.yield l) #[] #[]):=this
 rcases this with h|⟨cs,hr,e⟩
 ·cases h
 ·cases hr with
  |yld b r hp =>
   injection e with e1
   injection e1 with e2
   rw [e2];exact hp
theorem c31:∀ {ts:List AV} {ps:List Tmp} {xs:List AV} {K:List AV->Prop},f79 ts ps xs K->∃ ts1,K ts1/\ts1.length=ts.length/\ps.length=xs.length/\∀ (E:y6) (vs:List Value) (tm:Array Value),vs.length=xs.length->(∀ i (h:i<xs.length) (h':i<vs.length),o0 E xs[i] vs[i])->tm.size=ts.length->(∀ t,o0 E (ts.getD t .any) (tm.getD t undef)) ->
  ((ps.zip vs).foldl (fun t (p,v)=>t.setIfInBounds p v) tm).size=ts.length/\∀ t,o0 E (ts1.getD t .any) (((ps.zip vs).foldl (fun t (p,v)=>t.setIfInBounds p v) tm).getD t undef)
 |ts,[],[],K,h=>⟨ts,h,rfl,rfl,fun E vs tm _ _ hs ht=>⟨hs,ht⟩⟩
 |ts,p::ps,x::xs,K,h=>by
  simp only [f79,Cy] at h
  obtain ⟨hlt,h⟩:=Lx h
  obtain ⟨ts1,hK,hl,hpl,hrest⟩:=c31 h
  refine ⟨ts1,hK,by rw [hl,List.length_set],by simp [hpl],fun E vs tm hvl hv hs ht => ?_⟩
  match vs,hvl with
  |v::vs,hvl =>
   have hv0:=hv 0 (by simp) (by simp)
   have:=hrest E vs (tm.setIfInBounds p v) (by simpa using hvl) (fun i hi hi'=>hv (i+1) (by simpa using hi) (by simpa using hi')) (by simp [hs]) (fun t => ?_)
   ·rw [List.length_set] at this
    exact this
   ·by_cases e:p=t
    ·subst e
     have:p<tm.size:=by rw [hs];exact hlt
     simp [List.getD,hlt,this]
     exact hv0
    ·have h1:(ts.set p x).getD t .any=ts.getD t .any:=by simp [List.getD,List.getElem?_set_ne e]
     have h2:(tm.setIfInBounds p v).getD t undef=tm.getD t undef:=by simp [Array.getElem?_setIfInBounds_ne e]
     rw [h1,h2];exact ht t
 |ts,[],_::_,K,h=>h.elim
 |ts,_::_,[],K,h=>h.elim
theorem g62 (hR0:Q9 E0 Ho w0) {Fs1:List (List AV×Act)} {L:Loop} {bodyF assignF:List (List AV)->R0->List AV->List j6->Prop} {yb l:Nat} {ts:List AV} {a:Act} {ps:Array Tmp}
  (hyl:([AV.yld yb],({ tmps := #[.func (.yield l) #[] #[]],defers:=[] }:Act))∈Fs1) (hts:(ts,a)∈Fs1) (hL:L.tmps=a.tmps) (hps:L.params=ps)
  (hb:∀ pre K ts bs a w,bodyF ((pre++Fs1).map (·.1)) K ts bs->Bn G (pre++Fs1) E0 Ho w0 ts bs a w->L.body.wpIn (Lt (some l)) 0 P (Z3 G (pre++Fs1) E0 Ho w0 K) a w)
  (ha:∀ pre K ts bs a w,assignF ((pre++Fs1).map (·.1)) K ts bs->Bn G (pre++Fs1) E0 Ho w0 ts bs a w->L.assign.wpIn (Lt (some l)) 0 P (Z3 G (pre++Fs1) E0 Ho w0 K) a w) :
  YOK P G E0 Ho w0 Fs1 (Tb L bodyF assignF yb ts ps.toList):=by
 intro yb' pre args Kc bs w vs E acc l' h hS hvs hpl
 unfold Tb at h
 split at h
 case h_2=>exact h.elim
 rename_i L' s hbq hblk
 have hyy:yb=yb':=Nat.eq_of_beq_eq_true hbq
 subst hyy
 split at h
 case h_2=>exact h.elim
 obtain ⟨rfl,h⟩:=h
 have hpl':=Rk hS.defers (List.mem_append_right pre hyl)
 rw [hpl] at hpl'
 injection hpl' with e
 subst e
 have hH:upds Ho acc yb = .lp L' .ready:=by rw [hS.H];exact hblk
 obtain ⟨hw,_,_⟩:=Uu hS.step.rel hH hpl
 obtain ⟨ts1,h,hl1,hpl1,hsets⟩:=c31 h
 have hpsz:vs.toArray.size=(Lu L' .ready).params.size:=by
  show vs.toArray.size=L'.params.size
  rw [hps]
  have:=hvs.1
  simp;rw [←Array.length_toList];omega
 have hrun:=run_yield (P:=P) (args:=vs.toArray) hw hpsz
 refine ⟨_,_,_,_,hrun,?_⟩
 have hfr:=List.mem_append_right pre hts
 obtain ⟨g1,g2⟩:=hsets E vs a.tmps (by rw [hvs.1]) hvs.2 (hS.defers.size _ hfr) (hS.defers.tmps _ hfr)
 have efold:((Lu L' .ready).params.zip vs.toArray).foldl (fun tmps (x:Tmp×Value)=>tmps.setIfInBounds x.1 x.2) (Lu L' .ready).tmps=(ps.toList.zip vs).foldl (fun t (x:Tmp×Value)=>t.setIfInBounds x.1 x.2) a.tmps:=by
  show (L'.params.zip vs.toArray).foldl _ L'.tmps=_
  rw [hps,hL,←Array.foldl_toList,Array.toList_zip]
 have hS1:Bn G (pre++Fs1) E0 Ho w0 ts1 bs { tmps:=((Lu L' .ready).params.zip vs.toArray).foldl (fun tmps (x:Tmp×Value)=>tmps.setIfInBounds x.1 x.2) (Lu L' .ready).tmps,defers:=[] } w :=
  ⟨E,acc,hS.step,hS.H,by rw [efold,hl1];exact g1,fun t=>by rw [efold];exact g2 t,hS.glob,hS.unborn,hS.acc,hS.defers⟩
 refine roundIn_of_wpIn (F:=Fence.wide) trivial (wpIn_mono (ha pre _ ts1 bs _ w h hS1) fun e a1 w1 hq => ?_)
 cases e with
 |normal =>
  obtain ⟨ts2,bs2,h,hS2⟩:=hq
  obtain ⟨L2,bs3,hb2,h,h1,h2⟩:=d88 h
  obtain ⟨E2,acc2,hS2⟩:=hS2
  have hp2:=Rk hS2.defers (List.mem_append_right pre hyl)
  have hH2:upds Ho acc2 yb = .lp L2 .ready:=by rw [hS2.H];exact hb2
  obtain ⟨hw2,_,_⟩:=Uu hS2.step.rel hH2 hp2
  refine ⟨_,run_beginRound hw2 rfl,?_⟩
  have hS3:=hS2.lp hR0 hb2 hp2 (s' := .busy) h1 h2
  refine wpIn_mono (hb pre _ ts2 bs3 a1 _ h hS3) fun e a3 w3 hq => ?_
  have fin:∀ (jump:Option Code) (st:LSt) (ts3:List AV) (bs4:List j6),(Lu L2 st).state=(if jump.isNone then .ready else .done)->(∀ L,Lu L st={ Lu L .busy with state:=(if jump.isNone then .ready else .done),pending:=jump })->a84 bs4 yb st (Kc jump.isNone)->Bn G (pre++Fs1) E0 Ho w0 ts3 bs4 a3 w3 ->
    ∃ v w',(Instr.endRound l' jump).run P w3 = .ok v w'/\∃ b bs',Ending.returned v = .returned (.bool b)/\Kc b bs'/\Bn G (pre++Fs1) E0 Ho w0 [] bs' { tmps := #[],defers:=[] } w':=by
   intro jump st ts3 bs4 _ hrec hset hS4
   obtain ⟨L4,bs5,hb4,hk,h3,h4⟩:=g61 hset
   obtain ⟨E4,acc4,hS4⟩:=hS4
   have hp4:=Rk hS4.defers (List.mem_append_right pre hyl)
   have hH4:upds Ho acc4 yb = .lp L4 .busy:=by rw [hS4.H];exact hb4
   obtain ⟨hw4,_,_⟩:=Uu hS4.step.rel hH4 hp4
   refine ⟨_,_,run_endRound jump hw4,_,bs5,rfl,hk,?_⟩
   obtain ⟨E5,acc5,hS5⟩:=hS4.lp hR0 hb4 hp4 (s':=st) h3 h4
   rw [hrec L4] at hS5
   exact ⟨E5,acc5,hS5.step,hS5.H,rfl,fun _ => .any _ _,hS5.glob,hS5.unborn,hS5.acc,⟨(List.nodup_append.1 hS5.defers.nd).2.1,(fun d hd=>by cases hd),hS5.defers.size,hS5.defers.tmps,hS5.defers.out⟩⟩
  cases e with
  |normal =>
   obtain ⟨ts3,bs4,hr,hS4⟩:=hq
   exact fin none .ready ts3 bs4 rfl (fun _=>rfl) hr hS4
  |exit i =>
   obtain ⟨ts3,bs4,hr,hS4⟩:=hq
   exact fin (some (.exit i)) (.done (.exit i)) ts3 bs4 rfl (fun _=>rfl) hr hS4
  |goto i =>
   obtain ⟨ts3,bs4,hr,hS4⟩:=hq
   exact fin (some (.goto i)) (.done (.goto i)) ts3 bs4 rfl (fun _=>rfl) hr hS4
  |ret =>
   obtain ⟨ts3,bs4,hr,hS4⟩:=hq
   exact fin (some .ret) (.done .ret) ts3 bs4 rfl (fun _=>rfl) hr hS4
  |panic ch=>exact hq.elim
  |outgrown=>exact hq.elim
 |exit i=>obtain ⟨_,_,h,_⟩:=hq;exact h.elim
 |goto i=>obtain ⟨_,_,h,_⟩:=hq;exact h.elim
 |ret=>obtain ⟨_,_,h,_⟩:=hq;exact h.elim
 |panic ch=>exact hq.elim
 |outgrown=>exact hq.elim
end
end Go.Eng

namespace Go.Eng
section
variable {P:Program} {G:G1} {T:Tr} {E0:y6} {Ho:Nat->j6} {w0:World}
def i67 (P:Program) (G:G1) (E0:y6) (Ho:Nat->j6) (w0:World) (k:Nat) (It:ItT):Prop :=
 ∀ (f:FuncId) (Fs:List (List AV×Act)) (args:List AV) (Y:Co) (K:List j6->Prop) (bs:List j6) (w:World) (vs:List Value) (E:y6) (acc:List (Nat×j6)),It f k (Fs.map (·.1)) args Y K bs->YOK P G E0 Ho w0 Fs Y ->
  Fh G Fs E0 Ho w0 [] bs { tmps := #[],defers:=[] } w E acc->Ly E args vs ->
  a61 P f/\Calls P f vs.toArray w fun e w'=>∃ v bs',e = .returned v/\K bs'/\Bn G Fs E0 Ho w0 [] bs' { tmps := #[],defers:=[] } w'
theorem i68 {k:Nat}:i67 P G E0 Ho w0 k j40:=fun _ _ _ _ _ _ _ _ _ _ h=>h.elim
theorem Fh.take (hR0:Q9 E0 Ho w0) {Fs:List (List AV×Act)} {ts:List AV} {bs:List j6} {tmps:Array Value} {d:Deferred} {ds:List Deferred} {w:World} {E:y6} {acc:List (Nat×j6)} (h:Fh G Fs E0 Ho w0 ts bs { tmps:=tmps,defers:=d::ds } w E acc) :
  ∃ r w',d.target = .collected r/\(Instr.takeDeferred r).run P w = .ok [] w'/\Fh G Fs E0 Ho w0 ts bs { tmps:=tmps,defers:=ds } w' E acc:=by
 obtain ⟨r,hm,rfl,hr,hno⟩:=h.defers.df d (.head _)
 have hlt:r<w.heap.size:=(Array.getElem?_eq_some_iff.1 hr).1
 refine ⟨r,w.putObj r (.deferred none),rfl,run_takeDeferred hr,?_⟩
 have hn:=World.putObj_heap_same (w:=w) (o := .deferred none) hlt
 have hoth:∀ r',r'≠r->(w.putObj r (.deferred none)).heap[r']?=w.heap[r']?:=fun r' hr'=>World.putObj_heap_other hr'
 have hno':∀ b o,(upds Ho acc b).own=true->E.pl b ≠ .at r o:=by rw [h.H];exact hno
 have hs:=h.step
 have hrd:∀ r' j v,E.rd r' j=some v->(w.putObj r (.deferred none)).cell? ⟨r',j,none⟩=some v:=by
  intro r' j v hv
  have h1:=hs.rel.rd r' j v hv
  by_cases e:r'=r
  ·subst e
   simp [World.cell?,hr] at h1
  ·rw [Ik (hoth r' e) j];exact h1
 have hold:∀ c r' o,(Ho c).own=true->E0.pl c = .at r' o->r'≠r:=fun c r' o hc hp=>by
  have:=hR0.old c r' o hp;omega
 have hrel:Q9 E (upds Ho acc) (w.putObj r (.deferred none)):=by
  refine ⟨hrd,fun b=>(hs.rel.blk b).congr fun ho r' o hp=>hoth r' fun e=>hno' b o ho (e▸hp),hs.rel.sep,hs.rel.apart,fun b r' o hp=>by rw [World.putObj_size];exact hs.rel.old b r' o hp,hs.rel.born,hs.rel.fit,fun r' o h => ?_,hs.rel.fxa⟩
  have h1:=hR0.fx r' o (by rw [←hs.ext.fx];exact h)
  have:=Tc h1
  rw [hoth r' (by omega)];exact hs.rel.fx r' o h
 have hm0:=hs.mem
 have hmem:Mem E0 Ho w0 E (w.putObj r (.deferred none)):=by
  refine ⟨hm0.os,hm0.tape,hm0.output,by rw [World.putObj_size];exact hm0.size,fun r' hr' hno => ?_,hm0.rd,hm0.new⟩
  ·rw [hoth r' (by omega)];exact hm0.same r' hr' hno
 have hnd:=h.defers.nd
 rw [List.cons_append,List.nodup_cons] at hnd
 have hdf:∀ ds',DF w0.heap.size E (G2 bs) w ds'->({ target := .collected r,args := #[] }:Deferred) ∉ ds'->DF w0.heap.size E (G2 bs) (w.putObj r (.deferred none)) ds':=by
  intro ds' hd hni d hdm
  obtain ⟨r',hm',e,hr',hno''⟩:=hd d hdm
  refine ⟨r',hm',e,?_,hno''⟩
  rw [hoth r' (fun e'=>hni (by rw [e,e'] at hdm;exact hdm))]
  exact hr'
 refine ⟨⟨.any _ _,hrel,hs.ext,hmem,hs.born,hs.live,fun b r' o hb hp hni => ?_⟩,h.H,h.size,h.tmps,h.glob,h.unborn,h.acc,⟨hnd.2,hdf _ (fun d hd=>h.defers.df d (.tail _ hd)) (fun hm=>hnd.1 (List.mem_append_left _ hm)),h.defers.size,h.defers.tmps,fun x hx=>hdf _ (h.defers.out x hx) fun hm=>hnd.1 (List.mem_append_right _ (List.mem_flatMap.2 ⟨x,hx,hm⟩))⟩⟩
 rw [hoth r' (hold b r' o hb hp)];exact hs.others b r' o hb hp hni
theorem Nv (hR0:Q9 E0 Ho w0) {Fs:List (List AV×Act)} {ts:List AV} {bs:List j6} {fn:Func} {tmps:Array Value} {R:Ending->World->Prop} {E:y6} {acc:List (Nat×j6)}:∀ (ds:List Deferred) (w:World),Fh G Fs E0 Ho w0 ts bs { tmps:=tmps,defers:=ds } w E acc ->
  (∀ w',Fh G Fs E0 Ho w0 ts bs { tmps:=tmps,defers:=[] } w' E acc->∃ v,(results fn tmps).run P w' = .ok v w'/\R (.returned v) w')->LeavesInM Fence.wide 0 P fn tmps R ds .returning w
 |[],w,h,hf=>by
  obtain ⟨v,h1,h2⟩:=hf w h
  exact ⟨v,h1,h2⟩
 |d::ds,w,h,hf=>by
  obtain ⟨r,w',h1,h2,h3⟩:=h.take (P:=P) hR0
  exact ⟨(by intro h;cases h),.inl ⟨r,w',h1,h2,Nv hR0 ds w' h3 hf⟩⟩
theorem a88 (hR0:Q9 E0 Ho w0) {Fs:List (List AV×Act)} {f:FuncId} {fn:Func} {c:Code} (hf:P.funcs[f]?=some fn) (hb:fn.body=some c) {args:Array Value} {w:World} {R:Ending->World->Prop} {K:R0}
  (h:c.wpIn (Lt none) 0 P (Z3 G Fs E0 Ho w0 K) { tmps:=args++Array.replicate (fn.ntmps-args.size) undef,defers:=[] } w)
  (hK:∀ e ts bs tmps w' E acc,(e = .normal\/e = .ret)->K e ts bs->Fh G Fs E0 Ho w0 ts bs { tmps:=tmps,defers:=[] } w' E acc->∃ v,(results fn tmps).run P w' = .ok v w'/\R (.returned v) w')
  (hno:∀ i ts bs,¬ K (.exit i) ts bs) (hno':∀ i ts bs,¬ K (.goto i) ts bs):Calls P f args w R:=by
 refine callsIn_wide.1 (callsIn_of_wp_marks (F:=Fence.wide) (n:=0) hf hb trivial (wpIn_mono h fun e a w' hq => ?_))
 cases e with
 |normal =>
  obtain ⟨ts,bs,hk,E,acc,hs⟩:=hq
  exact Nv hR0 a.defers w' hs fun w'' hs'=>hK _ ts bs _ w'' E acc (.inl rfl) hk hs'
 |ret =>
  obtain ⟨ts,bs,hk,E,acc,hs⟩:=hq
  exact Nv hR0 a.defers w' hs fun w'' hs'=>hK _ ts bs _ w'' E acc (.inr rfl) hk hs'
 |exit i=>obtain ⟨ts,bs,hk,_⟩:=hq;exact (hno i ts bs hk).elim
 |goto i=>obtain ⟨ts,bs,hk,_⟩:=hq;exact (hno' i ts bs hk).elim
 |panic ch=>exact hq.elim
 |outgrown=>exact hq.elim
theorem f21 {yb:Nat} {ts:List AV} {K:R0} {bs:List j6} (h:Wz yb ts K bs):∃ L s bs',G2 bs yb = .lp L s/\(bs'.length=max bs.length (yb+1)/\∀ c,G2 bs' c=if c=yb then .dead else G2 bs c)/\((s = .ready/\K .normal ts bs')\/(∃ i,s = .done (.exit i)/\K (.exit i) ts bs')\/(∃ i,s = .done (.goto i)/\K (.goto i) ts bs')\/(s = .done .ret/\K .ret ts bs')):=by
 unfold Wz at h
 split at h
 ·rename_i L s hb
  obtain ⟨bs',h,h1,h2⟩:=U0 h
  refine ⟨L,s,bs',hb,⟨h1,h2⟩,?_⟩
  split at h
  ·exact .inl ⟨rfl,h⟩
  ·split at h
   ·exact .inr (.inl ⟨_,rfl,h⟩)
   ·exact .inr (.inr (.inl ⟨_,rfl,h⟩))
   ·exact .inr (.inr (.inr ⟨rfl,h⟩))
   ·exact h.elim
  ·exact h.elim
 ·exact h.elim
theorem Zr (hT:v5 P T) (hR0:Q9 E0 Ho w0) {Fs:List (List AV×Act)} {It:ItT} {k:Nat} (hIt:i67 P G E0 Ho w0 k It) {g:Operand} {ps:Array Tmp} {assign body:Code} {f:FuncId} {caps:List AV} {ts:List AV} {bs:List j6} {K:R0} {a:Act} {w:World} {nn:Nat} {bodyF assignF:List (List AV)->R0->List AV->List j6->Prop} (hg:ev G ts g = .fn f caps)
  (h:∀ L:Loop,Hh bs bs.length .dead fun bs0=>Hh bs0 bs0.length (.lp L .ready) fun bs1=>It f k ([.yld bs0.length]::ts::Fs.map (·.1)) (.yld bs0.length::caps) (Tb L bodyF assignF bs0.length ts ps.toList) (Wz bs0.length ts K) bs1)
  (hb:∀ l Fs' K ts bs a w,(∃ pre,Fs'=pre++Fs)->bodyF (Fs'.map (·.1)) K ts bs->Bn G Fs' E0 Ho w0 ts bs a w->body.wpIn (Lt (some l)) 0 P (Z3 G Fs' E0 Ho w0 K) a w)
  (ha:∀ l Fs' K ts bs a w,(∃ pre,Fs'=pre++Fs)->assignF (Fs'.map (·.1)) K ts bs->Bn G Fs' E0 Ho w0 ts bs a w->assign.wpIn (Lt (some l)) 0 P (Z3 G Fs' E0 Ho w0 K) a w)
  (hS:Bn G Fs E0 Ho w0 ts bs a w):(Code.rangeFunc g ps assign body).wpIn (Lt none) nn P (Z3 G Fs E0 Ho w0 K) a w:=by
 refine wpIn_rangeFunc fun fn _ => ?_
 obtain ⟨E,acc,hS⟩:=hS
 let L:Loop:={ state := .ready,pending:=none,fn,tmps:=a.tmps,params:=ps,assign,body,defers:=w.heap.size }
 have h:=h L
 obtain ⟨bs0,h,hl0,hc0⟩:=U0 h
 obtain ⟨bs1,h,hl1,hc1⟩:=U0 h
 have hl0':bs0.length=bs.length+1:=by omega
 -- the block of deferred calls
 have hk0:E.pl bs.length = .unborn:=Classical.byContradiction fun hne=>by have:=hS.unborn _ hne;omega
 have s0:=q9.alloc (x := .dead) (v := .any) (u:=undef) hS.step.rel hk0 (.deferred (some [])) .unit 0 (Nat.le_refl _) trivial (.any _ _)
 have hS0:=hS.put1 hR0 s0 hl0 hc0
 generalize hE1:E.birth bs.length w.heap.size 0 .unit 0=E1 at s0 hS0
 generalize hw1:w.alloc (.deferred (some []))=W1 at s0 hS0
 have hsz1:W1.heap.size=w.heap.size+1:=by rw [←hw1];simp
 have hd1:W1.heap[w.heap.size]?=some (.deferred (some [])):=by rw [←hw1];exact World.alloc_heap_new w _
 -- the mark
 let mk:Deferred:={ target := .collected w.heap.size,args := #[] }
 have hmk:∀ b o,(G2 bs0 b).own=true->E1.pl b ≠ .at w.heap.size o:=by
  intro b o ho hp
  have hbne:b≠bs.length:=by
   intro e;subst e
   rw [hc0,if_pos rfl] at ho;cases ho
  rw [←hE1] at hp
  have hp':(if b=bs.length then a59.at w.heap.size 0 else E.pl b) = .at w.heap.size o:=hp
  rw [if_neg hbne] at hp'
  have:=hS.step.rel.old b _ _ hp'
  omega
 have hmold:∀ ds,DF w0.heap.size E (G2 bs) w ds->mk ∉ ds:=by
  intro ds hd hm
  obtain ⟨r,_,e,hr,_⟩:=hd mk hm
  have e:(Target.collected w.heap.size) = .collected r:=congrArg Deferred.target e
  injection e with e
  have:=(Array.getElem?_eq_some_iff.1 hr).1
  omega
 let a':Act:={ a with defers:=[mk]++a.defers }
 have hS0':Fh G Fs E0 Ho w0 ts bs0 a' W1 E1 (acc++[(bs.length,.dead)]):=by
  refine ⟨hS0.step,hS0.H,hS0.size,hS0.tmps,hS0.glob,hS0.unborn,hS0.acc,⟨?_,?_,hS0.defers.size,hS0.defers.tmps,hS0.defers.out⟩⟩
  ·show (mk::(a.defers++_)).Nodup
   refine List.nodup_cons.2 ⟨fun hm => ?_,hS0.defers.nd⟩
   rcases List.mem_append.1 hm with hm|hm
   ·exact hmold _ hS.defers.df hm
   ·obtain ⟨x,hx,hm⟩:=List.mem_flatMap.1 hm
    exact hmold _ (hS.defers.out x hx) hm
  ·intro d hd
   rcases List.mem_cons.1 hd with rfl|hd
   ·exact ⟨w.heap.size,hS.step.mem.size,rfl,hd1,hmk⟩
   ·exact hS0.defers.df d hd
 -- the record
 have hk1:E1.pl bs0.length = .unborn:=Classical.byContradiction fun hne=>by have:=hS0'.unborn _ hne;omega
 have s1:=q9.alloc (x := .lp L .ready) (v := .any) (u:=undef) hS0'.step.rel hk1 (.loop L) .unit 0 (Nat.le_refl _) ⟨W1.heap.size,if_pos rfl,if_pos rfl,if_pos rfl,World.alloc_heap_new W1 _⟩ (.any _ _)
 have hS1:=hS0'.put1 hR0 s1 hl1 hc1
 have hpl:(E1.birth bs0.length W1.heap.size 0 .unit 0).pl bs0.length = .at W1.heap.size 0:=if_pos rfl
 generalize hE2:E1.birth bs0.length W1.heap.size 0 .unit 0=E2 at s1 hS1 hpl
 have hl:W1.heap.size=w.heap.size+1:=hsz1
 -- the frames that wait
 have hS2:=Bn.push hS1
 have hS3:Fh G ((ts,a')::Fs) E0 Ho w0 [.yld bs0.length] bs1 { tmps := #[.func (.yield W1.heap.size) #[] #[]],defers:=[] } (W1.alloc (.loop L)) E2 _ :=
  ⟨hS2.step,hS2.H,rfl,fun t=>by
   cases t with
   |zero=>exact .one (.yld _ _ hpl) rfl
   |succ t=>exact .any _ _,hS2.glob,hS2.unborn,hS2.acc,hS2.defers⟩
 have hS4:=Bn.push hS3
 have hev:=hS.ev g
 rw [hg] at hev
 obtain ⟨css,hcl,hcr,hge⟩:∃ css:List (List Value),∃ hlen:css.length=caps.length,(∀ i (h:i<caps.length),r6 E caps[i] (css[i]'(hlen▸h)))/\a.eval g = .func (.func f) #[] ((caps.zip css).map fun x=>q5 x.1.isAgg x.2).toArray:=by
  rcases hev with hv|⟨cs,hr,e⟩
  ·cases hv
  ·cases hr with
   |fn f caps css hlen h=>exact ⟨css,hlen,h,e⟩
 generalize hcv:((caps.zip css).map fun x=>q5 x.1.isAgg x.2)=cvs at hge
 have hext:Ext E E2:=(s0.ext).trans s1.ext
 have hreps:Ly E2 (.yld bs0.length::caps) (.func (.yield W1.heap.size) #[] #[]::cvs):=by
  have hcvl:cvs.length=caps.length:=by rw [←hcv,List.length_map,List.length_zip,hcl];omega
  refine ⟨by simp [hcvl],fun i hi hi' => ?_⟩
  cases i with
  |zero=>exact .one (.yld _ _ hpl) rfl
  |succ i =>
   have hi2:i<caps.length:=by simpa using hi
   have:=(o0.of (hcr i hi2) rfl).ext hext
   have e:cvs[i]'(by rw [hcvl];exact hi2)=q5 (caps[i]).isAgg (css[i]'(by rw [hcl];exact hi2)):=by
    subst hcv
    simp
   simp only [List.getElem_cons_succ]
   rw [e];exact this
 have hY:YOK P G E0 Ho w0 (([AV.yld bs0.length],({ tmps := #[.func (.yield W1.heap.size) #[] #[]],defers:=[] }:Act))::(ts,a')::Fs) (Tb L bodyF assignF bs0.length ts ps.toList) :=
  g62 hR0 (.head _) (.tail _ (.head _)) rfl rfl
   (fun pre K ts bs a w h hs=>hb _ _ K ts bs a w ⟨pre++[([AV.yld bs0.length],({ tmps := #[.func (.yield W1.heap.size) #[] #[]],defers:=[] }:Act)),_],by simp;rfl⟩ h hs)
   (fun pre K ts bs a w h hs=>ha _ _ K ts bs a w ⟨pre++[([AV.yld bs0.length],({ tmps := #[.func (.yield W1.heap.size) #[] #[]],defers:=[] }:Act)),_],by simp;rfl⟩ h hs)
 obtain ⟨hcallable,hcalls⟩:=hIt f (([AV.yld bs0.length],({ tmps := #[.func (.yield W1.heap.size) #[] #[]],defers:=[] }:Act))::(ts,a')::Fs) _ _ _ bs1 _ _ E2 _ h hY hS4 hreps
 refine ⟨W1.heap.size,[mk],W1.alloc (.loop L),{ target := .fn (.func f) cvs.toArray,args := #[.func (.yield W1.heap.size) #[] #[]] },W1.alloc (.loop L),f,#[.func (.yield W1.heap.size) #[] #[]]++cvs.toArray,W1.alloc (.loop L),?_,?_,fun f' _=>St none f',?_,(fun h=>by rw [Re] at h;cases h),?_⟩
 ·rw [g49,hl,←hw1];exact run_enterLoop_outer _ _ _ _ _
 ·simp only [resolve,hge]
  simp [go_sem]
 ·simp only [invoke]
  simp [go_sem]
  exact hcallable _ _
 ·have eargs : #[.func (.yield W1.heap.size) #[] #[]]++cvs.toArray=(Value.func (.yield W1.heap.size) #[] #[]::cvs).toArray:=by
   rw [←Array.toList_inj];simp
  rw [eargs]
  refine c11 (hcalls.mono fun e w' => ?_)
  rintro ⟨v,bs',rfl,hK,E3,acc3,hS5⟩
  obtain ⟨L',s,bs2,hb3,⟨h3,h4⟩,hcase⟩:=f21 hK
  have hp3:=Rk hS5.defers (.head _)
  have hH3:upds Ho acc3 bs0.length = .lp L' s:=by rw [hS5.H];exact hb3
  obtain ⟨hw3,_,_⟩:=Uu hS5.step.rel hH3 hp3
  have hnb:(Lu L' s).state ≠ .busy:=by
   rcases hcase with ⟨rfl,_⟩|⟨_,rfl,_⟩|⟨_,rfl,_⟩|⟨rfl,_⟩<;>(intro h;cases h)
  have hend:=run_endLoop (P:=P) hw3 hnb
  have hS6:Bn G Fs E0 Ho w0 ts bs2 a' (w'.putObj W1.heap.size (.loop { Lu L' s with state := .exhausted })) :=
   Bn.pop (Bn.pop ⟨E3,_,hS5.put1 hR0 (q9.lpx hS5.step.rel hH3 hp3 _ (x := .dead) trivial) h3 h4⟩)
  refine ⟨_,_,hend,?_⟩
  rcases hcase with ⟨rfl,hk⟩|⟨i,rfl,hk⟩|⟨i,rfl,hk⟩|⟨rfl,hk⟩
  ·exact ⟨ts,bs2,hk,hS6⟩
  ·exact wpIn_exit ⟨ts,bs2,hk,hS6⟩
  ·exact wpIn_goto ⟨ts,bs2,hk,hS6⟩
  ·exact wpIn_ret ⟨ts,bs2,hk,hS6⟩
theorem A3 (hT:v5 P T) (hm:P.follows .mixedOrders=true) (hR0:Q9 E0 Ho w0) (hG0:Ja G) {k:Nat} (hk:∀ b,E0.pl b ≠ .unborn->b<k) {It:ItT} (hIt:i67 P G E0 Ho w0 k It) {Y:Co} {Fs1:List (List AV×Act)} (hY:YOK P G E0 Ho w0 Fs1 Y) {nn:Nat} :
  ∀ (c:Code) (o:Option Nat) (ir:Bool) (ro:Option Nat) (Fs:List (List AV×Act)) (K:R0) (ts:List AV) (bs:List j6) (a:Act) (w:World),(ro.isSome=true->ir=true)->(∃ pre,Fs=pre++Fs1) ->
  Kr P G T It k Y ir c (Fs.map (·.1)) o K ts bs->Bn G Fs E0 Ho w0 ts bs a w->match o with
   |none=>c.wpIn (Lt ro) nn P (Z3 G Fs E0 Ho w0 K) a w
   |some l=>h47 P ro nn c l (Z3 G Fs E0 Ho w0 K) a w
 |.skip,none,ir,ro,Fs,K,ts,bs,a,w,hir,hpre,h,hS=>wpIn_skip ⟨ts,bs,h,hS⟩
 |.region id ops d,none,ir,ro,Fs,K,ts,bs,a,w,hir,hpre,h,hS=>c97 hT hm hR0 (k:=k) (ir:=ir) (It:=It) hY hpre h hS
 |.seq x y,none,ir,ro,Fs,K,ts,bs,a,w,hir,hpre,h,hS=>by
  refine wpIn_seq (Rh (fun ts bs a w h hS => ?_) (A3 hT hm hR0 hG0 hk hIt hY x none ir ro Fs _ ts bs a w hir hpre h hS))
  exact A3 hT hm hR0 hG0 hk hIt hY y none ir ro Fs K ts bs a w hir hpre h hS
 |.seq x y,some l,ir,ro,Fs,K,ts,bs,a,w,hir,hpre,h,hS=>by
  simp only [Kr] at h
  split at h
  ·rename_i hx
   obtain ⟨rx,hrx,hw⟩:=A3 hT hm hR0 hG0 hk hIt hY x (some l) ir ro Fs _ ts bs a w hir hpre h hS
   refine ⟨.seq rx y,by simp [findLabel,hrx],wpIn_seq (Rh (fun ts bs a w h hS => ?_) hw)⟩
   exact A3 hT hm hR0 hG0 hk hIt hY y none ir ro Fs K ts bs a w hir hpre h hS
  ·rename_i hx
   obtain ⟨ry,hry,hw⟩:=A3 hT hm hR0 hG0 hk hIt hY y (some l) ir ro Fs K ts bs a w hir hpre h hS
   have hn:findLabel x l=none:=by
    cases hfx:findLabel x l with
    |none=>rfl
    |some r=>rw [hfx] at hx;cases hx
   exact ⟨ry,by simp [findLabel,hn,hry],hw⟩
 |.cond c x y,none,ir,ro,Fs,K,ts,bs,a,w,hir,hpre,h,hS=>by
  simp only [Kr] at h
  split at h
  ·rename_i t
   split at h
   ·rename_i b hts
    obtain ⟨E,acc,hS'⟩:=id hS
    have hv:a.eval (.tmp t) = .bool b:=by
     have:=hS'.tmps t
     rw [hts] at this
     exact O8 this
    refine wpIn_cond hv ?_
    cases b with
    |true=>exact A3 hT hm hR0 hG0 hk hIt hY x none ir ro Fs K ts bs a w hir hpre h hS
    |false=>exact A3 hT hm hR0 hG0 hk hIt hY y none ir ro Fs K ts bs a w hir hpre h hS
   ·rename_i g n hts
    obtain ⟨b0,hv0,hn0⟩:∃ b0,a.eval (.tmp t) = .bool (b0 != g)/\(b0=true->n=0):=by
     obtain ⟨E,acc,hS'⟩:=id hS
     have:=hS'.tmps t
     rw [hts] at this
     rcases this with h|⟨cs,h,e⟩
     ·cases h
     ·cases h with
      |nq _ _ b0 hb=>exact ⟨b0,e,hb⟩
    split at h
    ·have both:∀ K,((n=0->Kr P G T It k Y ir x (Fs.map (·.1)) none K ts bs)/\Kr P G T It k Y ir y (Fs.map (·.1)) none K ts bs)->(Code.cond (.tmp t) x y).wpIn (Lt ro) nn P (Z3 G Fs E0 Ho w0 K) a w:=by
      intro K h
      rw [Bool.bne_false] at hv0
      refine wpIn_cond hv0 ?_
      cases b0 with
      |true=>exact A3 hT hm hR0 hG0 hk hIt hY x none ir ro Fs K ts bs a w hir hpre (h.1 (hn0 rfl)) hS
      |false=>exact A3 hT hm hR0 hG0 hk hIt hY y none ir ro Fs K ts bs a w hir hpre h.2 hS
     split at h
     ·exact Np hR0 hG0 hk hS both h
     ·exact both K h
    ·have both:∀ K,(Kr P G T It k Y ir x (Fs.map (·.1)) none K ts bs/\(n=0->Kr P G T It k Y ir y (Fs.map (·.1)) none K ts bs))->(Code.cond (.tmp t) x y).wpIn (Lt ro) nn P (Z3 G Fs E0 Ho w0 K) a w:=by
      intro K h
      rw [Bool.bne_true] at hv0
      refine wpIn_cond hv0 ?_
      cases b0 with
      |true=>exact A3 hT hm hR0 hG0 hk hIt hY y none ir ro Fs K ts bs a w hir hpre (h.2 (hn0 rfl)) hS
      |false=>exact A3 hT hm hR0 hG0 hk hIt hY x none ir ro Fs K ts bs a w hir hpre h.1 hS
     split at h
     ·exact Np hR0 hG0 hk hS both h
     ·exact both K h
   ·rename_i b hts
    have both:∀ K,(split b fun b''=>Sy ts t (.dv (.sc (.bool b''))) fun ts=>match b'' with|true=>Kr P G T It k Y ir x (Fs.map (·.1)) none K ts bs|false=>Kr P G T It k Y ir y (Fs.map (·.1)) none K ts bs)->(Code.cond (.tmp t) x y).wpIn (Lt ro) nn P (Z3 G Fs E0 Ho w0 K) a w:=by
     intro K h
     have h:=d61 h
     obtain ⟨hlt,h⟩:=Lx h
     obtain ⟨E,acc,hS'⟩:=id hS
     have hv:a.eval (.tmp t) = .bool b:=by
      have:=hS'.tmps t
      rw [hts] at this
      exact Xb this
     have hS2:Bn G Fs E0 Ho w0 (ts.set t (.dv (.sc (.bool b)))) bs a w:=by
      refine ⟨E,acc,hS'.step,hS'.H,by rw [hS'.size,List.length_set],fun t' => ?_,hS'.glob,hS'.unborn,hS'.acc,hS'.defers⟩
      by_cases e:t'=t
      ·subst e
       rw [show (ts.set t' (.dv (.sc (.bool b)))).getD t' .any = .dv (.sc (.bool b)) from by simp [List.getD,hlt]]
       have:a.tmps.getD t' undef = .bool b:=hv
       rw [this];exact Xc E trivial
      ·rw [show (ts.set t (.dv (.sc (.bool b)))).getD t' .any=ts.getD t' .any from by simp [List.getD,List.getElem?_set_ne (Ne.symm e)]]
       exact hS'.tmps t'
     refine wpIn_cond hv ?_
     cases b with
     |true=>exact A3 hT hm hR0 hG0 hk hIt hY x none ir ro Fs K _ bs a w hir hpre h hS2
     |false=>exact A3 hT hm hR0 hG0 hk hIt hY y none ir ro Fs K _ bs a w hir hpre h hS2
    split at h
    ·exact Np hR0 hG0 hk hS both h
    ·exact both K h
   ·exact h.elim
  ·rename_i b
   refine wpIn_cond (t:=b) rfl ?_
   cases b with
   |true=>exact A3 hT hm hR0 hG0 hk hIt hY x none ir ro Fs K ts bs a w hir hpre h hS
   |false=>exact A3 hT hm hR0 hG0 hk hIt hY y none ir ro Fs K ts bs a w hir hpre h hS
  ·exact h.elim
 |.block id b,none,ir,ro,Fs,K,ts,bs,a,w,hir,hpre,h,hS=>by
  simp only [Kr] at h
  refine Np hR0 hG0 hk hS (fun K h => ?_) h
  refine wpIn_block (wpIn_mono (A3 hT hm hR0 hG0 hk hIt hY b none ir ro Fs _ ts bs a w hir hpre h hS) fun e a w hq => ?_)
  cases e with
  |normal=>exact hq
  |exit i =>
   obtain ⟨ts,bs,h1,h2⟩:=hq
   simp only [d01] at h1
   simp only [Exit.inBlock]
   split at h1
   ·rename_i hb
    rw [if_pos (Nat.eq_of_beq_eq_true hb)];exact ⟨ts,bs,h1,h2⟩
   ·rename_i hb
    rw [if_neg (Nat.ne_of_beq_eq_false hb)];exact ⟨ts,bs,h1,h2⟩
  |goto l=>exact hq
  |ret=>exact hq
  |panic ch=>exact hq
  |outgrown=>exact hq
 |.loop b,none,ir,ro,Fs,K,ts,bs,a,w,hir,hpre,h,hS=>by
  rcases h with h|⟨n,h⟩
  case inr =>
   refine c14 (fun n a w=>∃ ts bs,j39 (Kr P G T It k Y ir b (Fs.map (·.1)) none) K n ts bs/\Bn G Fs E0 Ho w0 ts bs a w) (fun n=>n) (fun n a w hJ => ?_) ⟨ts,bs,h,hS⟩
   obtain ⟨ts,bs,h,hS⟩:=hJ
   cases n with
   |zero=>exact h.elim
   |succ n=>exact Rh (fun ts1 bs1 a w hh hS1=>⟨n,⟨ts1,bs1,hh,hS1⟩,Nat.lt_succ_self n⟩) (A3 hT hm hR0 hG0 hk hIt hY b none ir ro Fs _ _ _ a w hir hpre h hS)
  obtain ⟨Z,X,F,N,M,x,h⟩:=h
  obtain ⟨ts,bs,h,hS,_⟩:=Gi hR0 h hS
  obtain ⟨bs,⟨hmeet,hround⟩,hS,_⟩:=Gj hR0 h hS
  have hkb:∀ b,E0.pl b ≠ .unborn->b<k/\b<bs.length:=by
   intro b hb
   obtain ⟨E,acc,hS'⟩:=hS
   exact ⟨hk b hb,hS'.unborn b (by rw [hS'.step.ext.pl b hb];exact hb)⟩
  refine c14 (fun x a w=>Bn G Fs E0 Ho w0 (Cn (Z++Qa b) (F.U x) 0 ts) (J1 (F.B x) 0 bs) a w) F.μ (fun x a w hJ => ?_) (hmeet.sim hR0 hG0 hkb hS)
  have h1:=hround x
  rw [Mb,Mc] at h1
  refine Rh (fun ts1 bs1 a w hh hS1 => ?_) (A3 hT hm hR0 hG0 hk hIt hY b none ir ro Fs _ _ _ a w hir hpre h1 hJ)
  obtain ⟨y,σ,hm1,hlt⟩:=hh
  exact ⟨y,hm1.sim hR0 hG0 hkb hS1,hlt⟩
 |.exit i,none,ir,ro,Fs,K,ts,bs,a,w,hir,hpre,h,hS=>wpIn_exit ⟨ts,bs,h,hS⟩
 |.label _,none,ir,ro,Fs,K,ts,bs,a,w,hir,hpre,h,hS=>wpIn_label ⟨ts,bs,h,hS⟩
 |.label l',some l,ir,ro,Fs,K,ts,bs,a,w,hir,hpre,h,hS=>by
  simp only [Kr] at h
  split at h
  ·rename_i hl
   exact ⟨.skip,by simp only [findLabel];rw [if_pos hl],wpIn_skip ⟨ts,bs,h,hS⟩⟩
  ·exact h.elim
 |.goto l,none,ir,ro,Fs,K,ts,bs,a,w,hir,hpre,h,hS=>wpIn_goto ⟨ts,bs,h,hS⟩
 |.ret,none,ir,ro,Fs,K,ts,bs,a,w,hir,hpre,h,hS=>wpIn_ret ⟨ts,bs,h,hS⟩
 |.scope b,none,ir,ro,Fs,K,ts,bs,a,w,hir,hpre,h,hS=>by
  refine b86 (wpIn_mono (A3 hT hm hR0 hG0 hk hIt hY b none ir ro Fs _ ts bs a w hir hpre h hS) fun e a w hq => ?_)
  cases e with
  |normal=>exact hq
  |exit i=>exact hq
  |goto l =>
   obtain ⟨ts,bs,h1,h2⟩:=hq
   exact Yk hR0 hG0 hk (fun l K' ts bs a w h hS=>A3 (nn:=nn) hT hm hR0 hG0 hk hIt hY b (some l) ir ro Fs K' ts bs a w hir hpre h hS) 4 l ts bs a w h1 h2
  |ret=>exact hq
  |panic ch=>exact hq
  |outgrown=>exact hq
 |.rangeFunc g ps assign body,none,ir,ro,Fs,K,ts,bs,a,w,hir,hpre,h,hS=>by
  simp only [Kr] at h
  split at h
  ·rename_i f caps hg
   have hro:ro=none:=by
    cases ro with
    |none=>rfl
    |some l=>have:=hir rfl;cases this
   subst hro
   obtain ⟨pre,hpre⟩:=hpre
   exact Zr hT hR0 hIt hg h
    (fun l Fs' K ts bs a w ⟨pre',e⟩ h hs=>A3 hT hm hR0 hG0 hk hIt hY (nn:=0) body none true (some l) Fs' K ts bs a w (fun _=>rfl) ⟨pre'++pre,by rw [e,hpre,List.append_assoc]⟩ h hs)
    (fun l Fs' K ts bs a w ⟨pre',e⟩ h hs=>A3 hT hm hR0 hG0 hk hIt hY (nn:=0) assign none true (some l) Fs' K ts bs a w (fun _=>rfl) ⟨pre'++pre,by rw [e,hpre,List.append_assoc]⟩ h hs) hS
  ·exact h.elim
 |.refuse _,none,_,_,_,_,_,_,_,_,_,_,h,_=>h.elim
 |.skip,some _,_,_,_,_,_,_,_,_,_,_,h,_=>h.elim
 |.region _ _ _,some _,_,_,_,_,_,_,_,_,_,_,h,_=>h.elim
 |.cond _ _ _,some _,_,_,_,_,_,_,_,_,_,_,h,_=>h.elim
 |.block _ _,some _,_,_,_,_,_,_,_,_,_,_,h,_=>h.elim
 |.loop _,some _,_,_,_,_,_,_,_,_,_,_,h,_=>h.elim
 |.exit _,some _,_,_,_,_,_,_,_,_,_,_,h,_=>h.elim
 |.goto _,some _,_,_,_,_,_,_,_,_,_,_,h,_=>h.elim
 |.ret,some _,_,_,_,_,_,_,_,_,_,_,h,_=>h.elim
 |.scope _,some _,_,_,_,_,_,_,_,_,_,_,h,_=>h.elim
 |.rangeFunc _ _ _ _,some _,_,_,_,_,_,_,_,_,_,_,h,_=>h.elim
 |.refuse _,some _,_,_,_,_,_,_,_,_,_,_,h,_=>h.elim
theorem h68 (hT:v5 P T) (hm:P.follows .mixedOrders=true) (hR0:Q9 E0 Ho w0) (hG0:Ja G) {k:Nat} (hk:∀ b,E0.pl b ≠ .unborn->b<k):∀ n,i67 P G E0 Ho w0 k (itN P G T n)
 |0=>i68
 |n+1=>by
  intro f Fs args Y K bs w vs E acc h hY hS hvs
  obtain ⟨fn,c,⟨hf,hb,hname,hres⟩,h⟩:=h
  refine ⟨fun args w => ?_,?_⟩
  ·have hname':fn.name ≠ "runtime.NumGoroutine" := by simpa using hname
   simp [callFunc,hf,hname',hb]
  ·have hvl:vs.length=args.length:=hvs.1
   have hsim:Bn G Fs E0 Ho w0 (args++List.replicate (fn.ntmps-args.length) .any) bs { tmps:=vs.toArray++Array.replicate (fn.ntmps-vs.toArray.size) undef,defers:=[] } w:=by
    refine ⟨E,acc,hS.step,hS.H,by simp [hvl],fun t => ?_,hS.glob,hS.unborn,hS.acc,hS.defers⟩
    by_cases ht:t<args.length
    ·have h1:(args++List.replicate (fn.ntmps-args.length) AV.any).getD t .any=args[t]:=by
      simp [List.getD,List.getElem?_append_left ht,List.getElem?_eq_getElem ht]
     have h2:(vs.toArray++Array.replicate (fn.ntmps-vs.toArray.size) undef).getD t undef=vs[t]'(by omega):=by
      have:t<vs.length:=by omega
      simp [Array.getElem?_append,this]
     rw [h1,h2]
     exact hvs.2 t ht (by omega)
    ·have h1:(args++List.replicate (fn.ntmps-args.length) AV.any).getD t .any = .any:=by
      rw [List.getD_eq_getElem?_getD,List.getElem?_append_right (by omega),List.getElem?_replicate]
      split<;>rfl
     rw [h1];exact .any _ _
   refine a88 hR0 (K:=d03 K) hf hb (A3 hT hm hR0 hG0 hk (h68 hT hm hR0 hG0 hk n) hY c none false none Fs _ _ _ _ _ (fun h=>by cases h) ⟨[],rfl⟩ h hsim) ?_ (fun _ _ _ h=>h) (fun _ _ _ h=>h)
   intro e ts bs' tmps w' E' acc' he hk' hs'
   have hk':K bs':=by rcases he with rfl|rfl<;>exact hk'
   refine ⟨.tuple #[],?_,_,bs',rfl,hk',E',acc',hs'.step,hs'.H,rfl,fun _ => .any _ _,hs'.glob,hs'.unborn,hs'.acc,hs'.defers⟩
   simp [results,hres]
end
end Go.Eng

namespace Go.Eng
def Rv:a59->Bool
 |.unborn=>false
 |_=>true
theorem g54 {p:a59}:Rv p=true↔p ≠ .unborn:=by cases p<;>simp [Rv]
def y6.push (E E1:y6) (τ:List (Nat×Nat)) (news:List Nat):y6 :=
 {pl:=fun c=>if Rv (E.pl c)=true then E.pl c else match news.find? (fun j=>Nat.beq (q8 τ j) c) with|some j=>E1.pl j|none => .unborn
  lay:=fun c=>if Rv (E.pl c)=true then E.lay c else match news.find? (fun j=>Nat.beq (q8 τ j) c) with|some j=>E1.lay j|none=>E.lay c
  top:=fun c=>if Rv (E.pl c)=true then E.top c else match news.find? (fun j=>Nat.beq (q8 τ j) c) with|some j=>E1.top j|none=>E.top c
  rd:=E1.rd
  fx:=E1.fx }
section
variable {E E1:y6} {τ:List (Nat×Nat)} {news:List Nat}
theorem Y3 {c:Nat} (h:E.pl c ≠ .unborn):(E.push E1 τ news).pl c=E.pl c/\(E.push E1 τ news).lay c=E.lay c/\(E.push E1 τ news).top c=E.top c:=by
 have hb:=g54.2 h
 exact ⟨if_pos hb,if_pos hb,if_pos hb⟩
theorem g55 {j:Nat} (hj:j∈news) (hinj:∀ i j,i∈news->j∈news->q8 τ i=q8 τ j->i=j):news.find? (fun i=>Nat.beq (q8 τ i) (q8 τ j))=some j:=by
 cases hf:news.find? (fun i=>Nat.beq (q8 τ i) (q8 τ j)) with
 |none =>
  have:=List.find?_eq_none.1 hf j hj
  simp at this
 |some i =>
  have h1:=List.find?_some hf
  have h2:=List.mem_of_find?_eq_some hf
  rw [hinj i j h2 hj (Nat.eq_of_beq_eq_true h1)]
theorem Uk {j:Nat} (hj:j∈news) (hinj:∀ i j,i∈news->j∈news->q8 τ i=q8 τ j->i=j) (hu:E.pl (q8 τ j) = .unborn) :
  (E.push E1 τ news).pl (q8 τ j)=E1.pl j/\(E.push E1 τ news).lay (q8 τ j)=E1.lay j/\(E.push E1 τ news).top (q8 τ j)=E1.top j:=by
 have hb:¬ Rv (E.pl (q8 τ j))=true:=by rw [hu];simp [Rv]
 have hf:=g55 hj hinj
 refine ⟨?_,?_,?_⟩
 ·show (if _ then _ else _)=_
  rw [if_neg hb,hf]
 ·show (if _ then _ else _)=_
  rw [if_neg hb,hf]
 ·show (if _ then _ else _)=_
  rw [if_neg hb,hf]
theorem Ul {c:Nat} (hu:E.pl c = .unborn) (h:(E.push E1 τ news).pl c ≠ .unborn):∃ j,j∈news/\q8 τ j=c:=by
 have hb:¬ Rv (E.pl c)=true:=by rw [hu];simp [Rv]
 have h:(if Rv (E.pl c)=true then E.pl c else match news.find? (fun j=>Nat.beq (q8 τ j) c) with|some j=>E1.pl j|none => .unborn) ≠ .unborn:=h
 rw [if_neg hb] at h
 cases hf:news.find? (fun j=>Nat.beq (q8 τ j) c) with
 |none=>rw [hf] at h;exact absurd rfl h
 |some j=>exact ⟨j,List.mem_of_find?_eq_some hf,Nat.eq_of_beq_eq_true (List.find?_some (p:=fun j=>Nat.beq (q8 τ j) c) hf)⟩
theorem q9.push {H:Nat->j6} {w w':World} (hR:Q9 E H w) {k:Nat} {bs0 bs1:List j6} {acc:List (Nat×j6)} {r:AV} {v:Value} (hk:bs0.length=k)
  (hH:∀ b,b<k->H (q8 τ b)=(G2 bs0 b).ren τ) (hnd:∀ b,b<k->G2 bs0 b ≠ .dead) (hinj:∀ i j,i<k->j<k->q8 τ i=q8 τ j->i=j) (hnj:∀ i j,i∈news->j∈news->q8 τ i=q8 τ j->i=j)
  (hnew:∀ j,j∈news->k≤j) (hun:∀ j,j∈news->E.pl (q8 τ j) = .unborn) (hS:q9 (E.pull τ k) (G2 bs0) w acc .any undef E1 w') (hA:upds (G2 bs0) acc=G2 bs1) (hr:o0 E1 r v) (hrin:r.inB (Dp (List.range k++news))=true)
  (hbin:∀ j,j∈List.range k++news->(G2 bs1 j).inB (Dp (List.range k++news))=true) :
  q9 E H w ((List.range k++news).map fun j=>(q8 τ j,(G2 bs1 j).ren τ)) (r.ren τ) v (E.push E1 τ news) w':=by
 have hborn:∀ b,b<k->E.pl (q8 τ b) ≠ .unborn:=fun b hb=>D9 hR (by rw [hH b hb];exact fun e=>hnd b hb (d70 e))
 have h0pl:∀ b,b<k->(E.pull τ k).pl b=E.pl (q8 τ b):=fun b hb=>if_pos hb
 have h0un:∀ b,k≤b->(E.pull τ k).pl b = .unborn:=fun b hb=>if_neg (Nat.not_lt.2 hb)
 have h1pl:∀ b,b<k->E1.pl b=E.pl (q8 τ b)/\E1.lay b=E.lay (q8 τ b)/\E1.top b=E.top (q8 τ b):=by
  intro b hb
  have hne:(E.pull τ k).pl b ≠ .unborn:=by rw [h0pl b hb];exact hborn b hb
  exact ⟨by rw [hS.ext.pl b hne,h0pl b hb],hS.ext.lay b hne,hS.ext.top b hne⟩
 have hmem:∀ j,j∈List.range k++news↔j<k\/j∈news:=fun j=>by rw [List.mem_append,List.mem_range]
 have hmp:Mp E1 (E.push E1 τ news) τ (Dp (List.range k++news)):=by
  have:∀ b,Dp (List.range k++news) b=true->(E.push E1 τ news).pl (q8 τ b)=E1.pl b/\(E.push E1 τ news).lay (q8 τ b)=E1.lay b/\(E.push E1 τ news).top (q8 τ b)=E1.top b:=by
   intro b hb
   rcases (hmem b).1 (d66 hb) with h|h
   ·obtain ⟨g1,g2,g3⟩:=Y3 (E1:=E1) (τ:=τ) (news:=news) (hborn b h)
    obtain ⟨q1,q2,q3⟩:=h1pl b h
    exact ⟨by rw [g1,q1],by rw [g2,q2],by rw [g3,q3]⟩
   ·exact Uk h hnj (hun b h)
  exact ⟨fun b hb=>(this b hb).1,fun b hb=>(this b hb).2.1,fun b hb=>(this b hb).2.2⟩
 have hinjL:∀ i j,i∈List.range k++news->j∈List.range k++news->q8 τ i=q8 τ j->i=j:=by
  intro i j hi hj e
  rcases (hmem i).1 hi with hi|hi<;>rcases (hmem j).1 hj with hj|hj
  ·exact hinj i j hi hj e
  ·exact absurd (by rw [e];exact hun j hj) (hborn i hi)
  ·exact absurd (by rw [←e];exact hun i hi) (hborn j hj)
  ·exact hnj i j hi hj e
 have hids:∀ c,c∈((List.range k++news).map fun j=>(q8 τ j,(G2 bs1 j).ren τ)).map (·.1)↔∃ j,j∈List.range k++news/\q8 τ j=c:=by
  intro c
  rw [List.map_map]
  constructor
  ·intro h;obtain ⟨j,hj,e⟩:=List.mem_map.1 h;exact ⟨j,hj,e⟩
  ·rintro ⟨j,hj,e⟩;exact List.mem_map.2 ⟨j,hj,e⟩
 have hin:∀ j,j∈List.range k++news->upds H ((List.range k++news).map fun j=>(q8 τ j,(G2 bs1 j).ren τ)) (q8 τ j)=(G2 bs1 j).ren τ:=by
  intro j hj
  obtain ⟨x,hx,he⟩:=Km ((hids (q8 τ j)).2 ⟨j,hj,rfl⟩)
  rw [he]
  obtain ⟨i,hi,e⟩:=List.mem_map.1 hx
  injection e with e1 e2
  rw [←e2,hinjL i j hi hj e1]
 have hout:∀ c,(∀ j,j∈List.range k++news->q8 τ j≠c)->upds H ((List.range k++news).map fun j=>(q8 τ j,(G2 bs1 j).ren τ)) c=H c:=by
  intro c hc
  exact L7 fun z hz e=>by
   obtain ⟨j,hj,e'⟩:=(hids c).1 (List.mem_map.2 ⟨z,hz,e⟩)
   exact hc j hj e'
 have hcase:∀ c,(∃ j,j∈List.range k++news/\q8 τ j=c)\/∀ j,j∈List.range k++news->q8 τ j≠c:=fun c =>
  (Classical.em (∃ j,j∈List.range k++news/\q8 τ j=c)).imp id fun h j hj e=>h ⟨j,hj,e⟩
 have hown0:∀ b,(G2 bs0 b).own=true->b<k/\(H (q8 τ b)).own=true:=by
  intro b hb
  have hbk:b<k:=Nat.lt_of_not_le fun h=>by rw [a01 (by omega)] at hb;cases hb
  exact ⟨hbk,by rw [hH b hbk,Fw];exact hb⟩
 have h0at:∀ b r o,(E.pull τ k).pl b = .at r o->b<k/\E.pl (q8 τ b) = .at r o:=by
  intro b r o h
  by_cases hb:b<k
  ·exact ⟨hb,(h0pl b hb)▸h⟩
  ·rw [h0un b (Nat.le_of_not_lt hb)] at h;cases h
 -- what lies beside stays
 have hsame:∀ c r o,(H c).own=true->E.pl c = .at r o->(∀ j,j∈List.range k++news->q8 τ j≠c)->w'.heap[r]?=w.heap[r]?:=by
  intro c r o hc hp hno
  refine hS.mem.same r (hR.old c r o hp) fun b o' hb hbp => ?_
  obtain ⟨hbk,hbo⟩:=hown0 b hb
  exact hR.sep (q8 τ b) c r o' r o (hno b ((hmem b).2 (.inl hbk))) hbo hc (h0at b r o' hbp).2 hp rfl
 have hE:Ext E (E.push E1 τ news):=⟨fun c hc=>(Y3 hc).1,fun c hc=>(Y3 hc).2.1,fun c hc=>(Y3 hc).2.2,fun r j v hv=>hS.ext.rd r j v hv,hS.ext.fx⟩
 -- where an own block of the list lies: in a new block of memory,or in one that the caller lent
 have hwhere:∀ j r o,j∈List.range k++news->(G2 bs1 j).own=true->E1.pl j = .at r o->w.heap.size≤r\/∃ b o',b<k/\(H (q8 τ b)).own=true/\E.pl (q8 τ b) = .at r o'/\o'≤o/\E1.top j≤E.top (q8 τ b):=by
  intro j r o hj ho hp
  have hl:=hS.live j (by rw [hA];exact ho)
  by_cases hu:(E.pull τ k).pl j = .unborn
  ·rcases hS.mem.new j r o hu hp with h|⟨b,o',h1,h2,h3,h4⟩
   ·exact .inl h
   ·obtain ⟨hbk,hbo⟩:=hown0 b h1
    exact .inr ⟨b,o',hbk,hbo,(h0at b r o' h2).2,h3,h4⟩
  ·rcases hl with hl|hl
   ·obtain ⟨hjk,hjo⟩:=hown0 j hl
    obtain ⟨q1,q2,q3⟩:=h1pl j hjk
    exact .inr ⟨j,o,hjk,hjo,by rw [←q1];exact hp,Nat.le_refl _,Nat.le_of_eq q3⟩
   ·exact absurd hl hu
 have hbeside:∀ j c r o r' o',j∈List.range k++news->(G2 bs1 j).own=true->E1.pl j = .at r o->(H c).own=true->E.pl c = .at r' o'->(∀ j,j∈List.range k++news->q8 τ j≠c)->r≠r':=by
  intro j c r o r' o' hj ho hp hc hcp hno
  rcases hwhere j r o hj ho hp with h|⟨b,o'',hbk,hbo,hbp,_⟩
  ·have:=hR.old c r' o' hcp;omega
  ·exact hR.sep (q8 τ b) c r o'' r' o' (hno b ((hmem b).2 (.inl hbk))) hbo hc hbp hcp
 have hrel:Q9 (E.push E1 τ news) (upds H ((List.range k++news).map fun j=>(q8 τ j,(G2 bs1 j).ren τ))) w':=by
  have hb1:∀ j,y9 E1 j w' (G2 bs1 j):=fun j=>by rw [←hA];exact hS.rel.blk j
  have h1own:∀ j,(G2 bs1 j).own=(upds (G2 bs0) acc j).own:=fun j=>by rw [hA]
  refine ⟨hS.rel.rd,fun c => ?_,fun c c' r o r' o' hcc h1 h2 h3 h4 => ?_,fun c r o j u h1 h2 h3 => ?_,fun c r o hp => ?_,fun c hu => ?_,fun c r o hp => ?_,hS.rel.fx,fun c r o ob h1 h2 h3 => ?fxa⟩
  ·rcases hcase c with ⟨j,hj,e⟩|hno
   ·subst e
    rw [hin j hj]
    exact y9.to hmp (fun _ _ _ h=>h) (Bq hj) (hbin j hj) (hb1 j)
   ·rw [hout c hno]
    refine y9.ext hE (fun hd=>D9 hR hd) ((hR.blk c).congr fun hco q o hcp => ?_)
    exact hsame c q o hco hcp hno
  ·rcases hcase c with ⟨j,hj,e⟩|hno
   ·subst e
    rw [hin j hj,Fw] at h1
    rw [hmp.pl j (Bq hj)] at h3
    rcases hcase c' with ⟨j',hj',e⟩|hno'
    ·subst e
     rw [hin j' hj',Fw] at h2
     rw [hmp.pl j' (Bq hj')] at h4
     exact hS.rel.sep j j' r o r' o' (fun e=>hcc (by rw [e])) (by rw [hA];exact h1) (by rw [hA];exact h2) h3 h4
    ·rw [hout c' hno'] at h2
     rw [(Y3 (D9 hR (U1 h2))).1] at h4
     exact hbeside j c' r o r' o' hj h1 h3 h2 h4 hno'
   ·rw [hout c hno] at h1
    rw [(Y3 (D9 hR (U1 h1))).1] at h3
    rcases hcase c' with ⟨j',hj',e⟩|hno'
    ·subst e
     rw [hin j' hj',Fw] at h2
     rw [hmp.pl j' (Bq hj')] at h4
     exact fun e=>hbeside j' c r' o' r o hj' h2 h4 h1 h3 hno e.symm
    ·rw [hout c' hno'] at h2
     rw [(Y3 (D9 hR (U1 h2))).1] at h4
     exact hR.sep c c' r o r' o' hcc h1 h2 h3 h4
  case fxa =>
   rcases hcase c with ⟨i,hi,e⟩|hno
   ·subst e
    rw [hin i hi,Fw] at h1
    rw [hmp.pl i (Bq hi)] at h2
    exact hS.rel.fxa i r o ob (by rw [hA];exact h1) h2 h3
   ·rw [hout c hno] at h1
    rw [(Y3 (D9 hR (U1 h1))).1] at h2
    exact hR.fxa c r o ob h1 h2 (by have e:E1.fx=E.fx:=hS.ext.fx;rw [←e];exact h3)
  ·rcases hcase c with ⟨i,hi,e⟩|hno
   ·subst e
    rw [hin i hi,Fw] at h1
    rw [hmp.pl i (Bq hi)] at h2
    exact hS.rel.apart i r o j u (by rw [hA];exact h1) h2 h3
   ·rw [hout c hno] at h1
    rw [(Y3 (D9 hR (U1 h1))).1] at h2
    rcases hS.mem.rd r j u h3 with h|h|⟨b,o',hb,hbp,_⟩
    ·exact hR.apart c r o j u h1 h2 h
    ·have:=hR.old c r o h2;omega
    ·obtain ⟨hbk,hbo⟩:=hown0 b hb
     exact hR.sep (q8 τ b) c r o' r o (hno b ((hmem b).2 (.inl hbk))) hbo h1 (h0at b r o' hbp).2 h2 rfl
  ·by_cases hu:E.pl c = .unborn
   ·obtain ⟨j,hj,e⟩:=Ul hu (Du hp)
    subst e
    rw [(Uk hj hnj (hun j hj)).1] at hp
    exact hS.rel.old j r o hp
   ·rw [(Y3 hu).1] at hp
    exact Nat.lt_of_lt_of_le (hR.old c r o hp) hS.mem.size
  ·rcases hcase c with ⟨j,hj,e⟩|hno
   ·subst e
    rw [hin j hj]
    rw [hmp.pl j (Bq hj)] at hu
    have:=hS.rel.born j hu
    rw [hA] at this
    rw [this];rfl
   ·rw [hout c hno]
    refine hR.born c (Classical.byContradiction fun hne => ?_)
    rw [(Y3 hne).1] at hu
    exact hne hu
  ·by_cases hu:E.pl c = .unborn
   ·obtain ⟨j,hj,e⟩:=Ul hu (Du hp)
    subst e
    obtain ⟨g1,g2,g3⟩:=Uk (E1:=E1) hj hnj (hun j hj)
    rw [g1] at hp
    rw [g2,g3]
    exact hS.rel.fit j r o hp
   ·obtain ⟨g1,g2,g3⟩:=Y3 (E1:=E1) (τ:=τ) (news:=news) hu
    rw [g1] at hp
    rw [g2,g3]
    exact hR.fit c r o hp
 refine ⟨o0.to hmp (fun _ _ _ h=>h) hrin hr,hrel,hE,⟨hS.mem.os,hS.mem.tape,hS.mem.output,hS.mem.size,?_,?_,?_⟩,?_,?_,?_⟩
 ·intro r hr hno
  refine hS.mem.same r hr fun b o hb hbp => ?_
  obtain ⟨hbk,hbo⟩:=hown0 b hb
  exact hno (q8 τ b) o hbo (h0at b r o hbp).2
 ·intro r j u hu
  rcases hS.mem.rd r j u hu with h|h|⟨b,o',hb,hbp,h1,h2⟩
  ·exact .inl h
  ·exact .inr (.inl h)
  ·obtain ⟨hbk,hbo⟩:=hown0 b hb
   exact .inr (.inr ⟨q8 τ b,o',hbo,(h0at b r o' hbp).2,h1,h2⟩)
 ·intro c r o hu hp
  obtain ⟨j,hj,e⟩:=Ul hu (Du hp)
  subst e
  obtain ⟨g1,g2,g3⟩:=Uk (E1:=E1) hj hnj (hun j hj)
  rw [g1] at hp
  rw [g3]
  rcases hS.mem.new j r o (h0un j (hnew j hj)) hp with h|⟨b,o',hb,hbp,h1,h2⟩
  ·exact .inl h
  ·obtain ⟨hbk,hbo⟩:=hown0 b hb
   exact .inr ⟨q8 τ b,o',hbo,(h0at b r o' hbp).2,h1,h2⟩
 ·intro c hu hb
  obtain ⟨j,hj,e⟩:=Ul hu hb
  exact (hids c).2 ⟨j,(hmem j).2 (.inr hj),e⟩
 ·intro c hc
  rcases hcase c with ⟨j,hj,e⟩|hno
  ·subst e
   rw [hin j hj,Fw] at hc
   rcases (hmem j).1 hj with hjk|hjn
   ·rcases hS.live j (by rw [hA];exact hc) with h|h
    ·exact .inl (hown0 j h).2
    ·rw [h0pl j hjk] at h;exact absurd h (hborn j hjk)
   ·exact .inr (hun j hjn)
  ·rw [hout c hno] at hc;exact .inl hc
 ·intro c r o hc hp hno
  exact hsame c r o hc hp fun j hj e=>hno ((hids c).2 ⟨j,hj,e⟩)
end
end Go.Eng

namespace Go.Eng
def f16 (T:Tr) (ts:List AV) (bs:List j6):ResultVar->Option AV
 |.tmp t=>some (Z7 (ts.getD t .any))
 |.cell a ty=>match ts.getD a .any with
  |.ptr b p l=>(match G2 bs b,Bm T ty l with
   |.var x,true=>some (Z7 (x.at p))
   |_,_=>none)
  |_=>none
def Um (T:Tr) (ts:List AV) (bs:List j6):List ResultVar->Option (List AV)
 |[]=>some []
 |v::r=>match f16 T ts bs v,Um T ts bs r with
  |some x,some xs=>some (x::xs)
  |_,_=>none
def Un:List AV->Bool
 |[]=>true
 |x::r=>match Fb x with|true=>Un r|false=>false
def h50 (T:Tr) (fn:Func) (R:AV->List j6->Prop) (ts:List AV) (bs:List j6):Prop :=
 match Um T ts bs fn.results.toList with
 |some [x]=>R x bs
 |some xs=>(match Un xs with|true=>R (.tup xs) bs|false=>False)
 |none=>False
def g56 (T:Tr) (fn:Func) (R:AV->List j6->Prop):R0
 |.normal,ts,bs=>∃ (n:Nat) (N:List (Nat×j6)) (M:List (Nat×List Nat×j6)),d82 n bs fun bs=>Qb N ts bs fun ts bs=>Qc M bs fun bs=>h50 T fn R ts bs
 |.ret,ts,bs=>∃ (n:Nat) (N:List (Nat×j6)) (M:List (Nat×List Nat×j6)),d82 n bs fun bs=>Qb N ts bs fun ts bs=>Qc M bs fun bs=>h50 T fn R ts bs
 |_,_,_=>False
def Jb (bs:List j6):List Nat->List j6->Prop
 |[],[]=>True
 |j::js,x::xs=>bs.getD j .dead=x/\Jb bs js xs
 |_,_=>False
def Ab (τ:List (Nat×Nat)):List Nat->List j6->List (Nat×j6)
 |j::js,x::xs=>(q8 τ j,x.ren τ)::Ab τ js xs
 |_,_=>[]
def a04:List j6->Bool
 |[]=>true
 |x::r=>match a75 x with|true=>false|false=>a04 r
def f72 (p:Nat->Bool):List AV->Bool
 |[]=>true
 |x::r=>match x.inB p with|true=>f72 p r|false=>false
def Sw (p:Nat->Bool):List j6->Bool
 |[]=>true
 |x::r=>match x.inB p with|true=>Sw p r|false=>false
def f73 (k:Nat):List Nat->Bool
 |[]=>true
 |j::r=>match Nat.ble k j with|true=>f73 k r|false=>false
def c21 (as0:List AV) (bs0:List j6) (news:List Nat) (r:AV) (ws:List j6):Bool :=
 match a04 bs0,f72 (Yn bs0.length) as0,Sw (Yn bs0.length) bs0,f73 bs0.length news,r.inB (Dp (List.range bs0.length++news)),Sw (Dp (List.range bs0.length++news)) ws with
 |true,true,true,true,true,true=>true
 |_,_,_,_,_,_=>false
theorem Yl:∀ {l:List j6},a04 l=true->∀ b,b<l.length->G2 l b ≠ .dead
 |[],_,b,h=>by cases h
 |x::r,h,b,hb=>by
  simp only [a04] at h
  split at h
  ·cases h
  ·rename_i hx
   cases b with
   |zero=>intro e;rw [show G2 (x::r) 0=x from rfl] at e;rw [e] at hx;cases hx
   |succ b=>exact Yl h b (by simpa using hb)
theorem c22 {p:Nat->Bool}:∀ {l:List AV},f72 p l=true->∀ (i:Nat) (h:i<l.length),l[i].inB p=true
 |[],_,i,h=>by cases h
 |x::r,h,i,hi=>by
  simp only [f72] at h
  split at h
  ·rename_i hx
   cases i with
   |zero=>exact hx
   |succ i=>exact c22 h i (by simpa using hi)
  ·cases h
theorem a72 {p:Nat->Bool}:∀ {l:List j6},Sw p l=true->∀ b,b<l.length->(G2 l b).inB p=true
 |[],_,b,h=>by cases h
 |x::r,h,b,hb=>by
  simp only [Sw] at h
  split at h
  ·rename_i hx
   cases b with
   |zero=>exact hx
   |succ b=>exact a72 h b (by simpa using hb)
  ·cases h
theorem a73 {p:Nat->Bool}:∀ {l:List j6},Sw p l=true->∀ x,x∈l->x.inB p=true
 |[],_,x,h=>by cases h
 |y::r,h,x,hx=>by
  simp only [Sw] at h
  split at h
  ·rename_i hy
   rcases List.mem_cons.1 hx with e|hx
   ·subst e;exact hy
   ·exact a73 h x hx
  ·cases h
theorem Wu {k:Nat}:∀ {l:List Nat},f73 k l=true->∀ j,j∈l->k≤j
 |[],_,j,h=>by cases h
 |i::r,h,j,hj=>by
  simp only [f73] at h
  split at h
  ·rename_i hi
   rcases List.mem_cons.1 hj with e|hj
   ·subst e;exact Nat.le_of_ble_eq_true hi
   ·exact Wu h j hj
  ·cases h
theorem Nq {bs:List j6} {τ:List (Nat×Nat)}:∀ {js:List Nat} {xs:List j6},Jb bs js xs->js.map (fun j=>(q8 τ j,(G2 bs j).ren τ))=Ab τ js xs/\∀ j,j∈js->G2 bs j∈xs
 |[],[],_=>⟨rfl,fun j h=>by cases h⟩
 |[],_::_,h=>h.elim
 |_::_,[],h=>h.elim
 |j::js,x::xs,h=>by
  obtain ⟨h1,h2⟩:=h
  obtain ⟨g1,g2⟩:=Nq (τ:=τ) h2
  have h1:G2 bs j=x:=h1
  refine ⟨?_,fun i hi => ?_⟩
  ·show (q8 τ j,(G2 bs j).ren τ)::js.map _=(q8 τ j,x.ren τ)::Ab τ js xs
   rw [g1,h1]
  ·rcases List.mem_cons.1 hi with e|hi
   ·subst e;rw [h1];exact List.mem_cons_self ..
   ·exact List.mem_cons_of_mem _ (g2 i hi)
section
variable {P:Program} {G:G1} {T:Tr}
def a74 (tmps:Array Value):ResultVar->Sem Value
 |.tmp t=>pure (tmps.getD t undef)
 |.cell c t=>do loadVar t (←asAddr (tmps.getD c undef))
theorem i57 (hT:v5 P T) {ts:List AV} {bs:List j6} {v:ResultVar} {x:AV} (h:f16 T ts bs v=some x) {E:y6} {a:Act} {w:World} (hR:Q9 E (G2 bs) w) (ht:∀ t,o0 E (ts.getD t .any) (a.tmps.getD t undef)) :
  ∃ u,(a74 a.tmps v).run P w = .ok u w/\o0 E x u:=by
 cases v with
 |tmp t=>cases h;exact ⟨_,rfl,Br (ht t)⟩
 |cell c ty =>
  unfold f16 at h
  simp only at h
  split at h
  ·rename_i b p l hc
   split at h
   ·rename_i y hb hf
    cases h
    obtain ⟨r,j,off,e,hp,hl⟩:=X1 (hc▸ht c)
    have hbr:=hR.blk b
    rw [hb] at hbr
    obtain ⟨r',o',cs,hp',hlay,hy,hrs,_,_⟩:=hbr
    rw [hp] at hp'
    injection hp' with h1 h2
    subst h1;subst h2
    rw [hlay] at hl
    obtain ⟨hya,hyl⟩:=hy.at hl
    have hlen:((cs.drop off).take l.size).length=l.size:=by rw [hya.len,hyl]
    refine ⟨q5 l.isAgg ((cs.drop off).take l.size),?_,Br (.of hya ?_)⟩
    ·simp only [a74,e,asAddr,Sem.run_bind,Sem.run_pure,Result.andThen_ok]
     exact W0 hT hf hrs.sub hlen
    ·unfold AV.isAgg;rw [hyl]
   ·cases h
  ·cases h
theorem f74 (hT:v5 P T) {ts:List AV} {bs:List j6} {E:y6} {a:Act} {w:World} (hR:Q9 E (G2 bs) w) (ht:∀ t,o0 E (ts.getD t .any) (a.tmps.getD t undef)):∀ {l:List ResultVar} {xs:List AV},Um T ts bs l=some xs ->
  ∃ us:List Value,(l.mapM (a74 a.tmps)).run P w = .ok us w/\us.length=xs.length/\∀ (i:Nat) (h:i<xs.length) (h':i<us.length),o0 E xs[i] us[i]
 |[],xs,h=>by cases h;exact ⟨[],by simp,rfl,fun i h=>by cases h⟩
 |v::r,xs,h=>by
  simp only [Um] at h
  split at h
  ·rename_i x ys hx hy
   cases h
   obtain ⟨u,h1,h2⟩:=i57 hT hx hR ht
   obtain ⟨us,h3,h4,h5⟩:=f74 hT hR ht hy
   refine ⟨u::us,?_,by simp [h4],fun i hi hi' => ?_⟩
   ·rw [List.mapM_cons]
    simp only [Sem.run_bind,h1,Result.andThen_ok,h3,Sem.run_pure]
   ·cases i with
    |zero=>exact h2
    |succ i=>exact h5 i (by simpa using hi) (by simpa using hi')
  ·cases h
theorem Uo:∀ {l:List AV},Un l=true->∀ x,x∈l->Fb x=true
 |[],_,x,h=>by cases h
 |y::l,h,x,hx=>by
  simp only [Un] at h
  split at h
  ·rename_i hy
   rcases List.mem_cons.1 hx with e|hx
   ·subst e;exact hy
   ·exact Uo h x hx
  ·cases h
theorem i58 (hT:v5 P T) {fn:Func} {R:AV->List j6->Prop} {ts:List AV} {bs:List j6} (h:h50 T fn R ts bs) {E:y6} {a:Act} {w:World} (hR:Q9 E (G2 bs) w) (ht:∀ t,o0 E (ts.getD t .any) (a.tmps.getD t undef)) :
  ∃ r v,R r bs/\(results fn a.tmps).run P w = .ok v w/\o0 E r v:=by
 have hrun:∀ xs,Um T ts bs fn.results.toList=some xs->∃ us:List Value,(results fn a.tmps).run P w = .ok (if h:us.toArray.size=1 then us.toArray[0] else .tuple us.toArray) w/\us.length=xs.length/\∀ (i:Nat) (h:i<xs.length) (h':i<us.length),o0 E xs[i] us[i]:=by
  intro xs hxs
  obtain ⟨us,h1,h2,h3⟩:=f74 hT hR ht hxs
  refine ⟨us,?_,h2,h3⟩
  have e:results fn a.tmps=(do
    let vs ←fn.results.mapM (a74 a.tmps)
    pure (if h:vs.size=1 then vs[0] else .tuple vs)):=by
   have e1:a74 a.tmps=fun (v:ResultVar)=>(match v with
     |.tmp t=>(pure (a.tmps.getD t undef):Sem Value)
     |.cell c t=>do loadVar t (←asAddr (a.tmps.getD c undef))):=by
    funext v;cases v<;>rfl
   rw [e1];rfl
  rw [e,←Array.toArray_toList (xs:=fn.results),List.mapM_toArray]
  simp only [Sem.run_bind,Sem.run_map,h1]
  rfl
 unfold h50 at h
 split at h
 ·rename_i x hx
  obtain ⟨us,h1,h2,h3⟩:=hrun _ hx
  match us,h2 with
  |[u],_ =>
   refine ⟨_,_,h,h1,?_⟩
   exact h3 0 (by simp) (by simp)
 ·rename_i xs hne hx
  obtain ⟨us,h1,h2,h3⟩:=hrun _ hx
  split at h
  ·rename_i hs
   refine ⟨_,_,h,h1,?_⟩
   have hl:¬ us.toArray.size=1:=by
    intro hl
    have:xs.length=1:=by rw [←h2];simpa using hl
    match xs,this with
    |[x],_=>exact hne x rfl
   rw [dif_neg hl]
   have hrep:∀ i (hi:i<xs.length),∃ cs,r6 E xs[i] cs/\us[i]'(h2▸hi)=q5 (xs[i]).isAgg cs:=by
    intro i hi
    have hsol:Fb xs[i]=true:=Uo hs _ (List.getElem_mem hi)
    obtain ⟨cs,h4,_,h5⟩:=(h3 i hi (h2▸hi)).inv hsol
    exact ⟨cs,h4,h5⟩
   let css:List (List Value):=(List.range xs.length).map fun i=>if hi:i<xs.length then Classical.choose (hrep i hi) else []
   have hcl:css.length=xs.length:=by simp [css]
   have hci:∀ i (hi:i<xs.length),css[i]'(by simp [css,hi])=Classical.choose (hrep i hi):=by
    intro i hi;simp [css,hi]
   have:=r6.tup (E:=E) xs css hcl fun i hi=>by
    have h5:=(Classical.choose_spec (hrep i hi)).1
    rw [hci i hi];exact h5
   refine .one (v:=_) (?_:r6 E (.tup xs) [_]) rfl
   have e2:us=(xs.zip css).map fun x=>q5 x.1.isAgg x.2:=by
    apply List.ext_getElem
    ·simp [hcl,h2]
    ·intro i hi hi2
     have hi':i<xs.length:=by rw [←h2];exact hi
     have h5:=(Classical.choose_spec (hrep i hi')).2
     rw [h5,List.getElem_map,List.getElem_zip]
     simp only [hci i hi']
   rw [e2]
   exact this
  ·exact h.elim
 ·exact h.elim
theorem Fn.body (hT:v5 P T) (hm:P.follows .mixedOrders=true) (hG0:Ja G) {f:FuncId} {fn:Func} {c:Code} (hf:P.funcs[f]?=some fn) (hname:(fn.name == "runtime.NumGoroutine")=false) (hb:fn.body=some c)
  (τ:List (Nat×Nat)) (as0:List AV) (bs0:List j6) (news:List Nat) (r0:AV) (ws:List j6) (hchk:c21 as0 bs0 news r0 ws=true)
  (hL:∀ i j,i∈List.range bs0.length++news->j∈List.range bs0.length++news->q8 τ i=q8 τ j->i=j)
  (dp:Nat) (h:vc P G T (itN P G T dp) bs0.length c (g56 T fn fun r bs=>r=r0/\Jb bs (List.range bs0.length++news) ws) (as0++List.replicate (fn.ntmps-as0.length) .any) bs0) :
  Fn P G f (as0.map (AV.ren τ)) (Ab τ (List.range bs0.length) bs0) (r0.ren τ) (Ab τ (List.range bs0.length++news) ws):=by
 unfold c21 at hchk
 split at hchk
 case h_2=>cases hchk
 rename_i hlive hargs hblks hnews hrin hwin
 have hinj:∀ i j,i<bs0.length->j<bs0.length->q8 τ i=q8 τ j->i=j:=fun i j hi hj=>hL i j (List.mem_append.2 (.inl (List.mem_range.2 hi))) (List.mem_append.2 (.inl (List.mem_range.2 hj)))
 have hnj:∀ i j,i∈news->j∈news->q8 τ i=q8 τ j->i=j:=fun i j hi hj=>hL i j (List.mem_append.2 (.inr hi)) (List.mem_append.2 (.inr hj))
 refine ⟨fun args w => ?_,fun E H w vs hR hG hS hwr hvs => ?_⟩
 ·have hname':fn.name ≠ "runtime.NumGoroutine" := by simpa using hname
  simp [callFunc,hf,hname',hb]
 ·have hSl:Jb bs0 (List.range bs0.length) bs0:=by
   have:∀ (n:Nat) (l:List j6),n+l.length=bs0.length->(∀ i,i<l.length->bs0.getD (n+i) .dead=l.getD i .dead)->Jb bs0 (List.range' n l.length) l:=by
    intro n l
    induction l generalizing n with
    |nil=>intro _ _;trivial
    |cons x l ih =>
     intro h1 h2
     refine ⟨h2 0 (by simp),ih (n+1) (by simp at h1;omega) fun i hi => ?_⟩
     have:=h2 (i+1) (by simpa using hi)
     rw [show n+(i+1)=n+1+i from by omega] at this
     simpa [List.getD] using this
   have:=this 0 bs0 (by simp) (fun i hi=>by rw [Nat.zero_add])
   rwa [←List.range_eq_range'] at this
  have hH:∀ b,b<bs0.length->H (q8 τ b)=(G2 bs0 b).ren τ:=by
   intro b hb
   have:=(Nq (τ:=τ) hSl).1
   refine hS (q8 τ b,(G2 bs0 b).ren τ) ?_
   rw [←this]
   exact List.mem_map.2 ⟨b,List.mem_range.2 hb,rfl⟩
  have hR0:Q9 (E.pull τ bs0.length) (G2 bs0) w:=hR.pull (fun b hb => .inr (hH b hb)) (fun b hb=>a01 hb) (fun b hb=>a72 hblks b hb) (fun b b' hb hb' e=>hinj b b' hb hb' e)
  have hE0:∀ b,(E.pull τ bs0.length).pl b ≠ .unborn->b<bs0.length:=fun b hb=>Nat.lt_of_not_le fun hle=>hb (if_neg (Nat.not_lt.2 hle))
  have hvl:vs.length=as0.length:=by have:=hvs.1;simpa using this
  have hsim:Bn G [] (E.pull τ bs0.length) (G2 bs0) w (as0++List.replicate (fn.ntmps-as0.length) .any) bs0 { tmps:=vs.toArray++Array.replicate (fn.ntmps-vs.toArray.size) undef,defers:=[] } w:=by
   refine ⟨E.pull τ bs0.length,[],q9.pure hR0 (.any _ _),rfl,by simp [hvl],fun t => ?_,GOK.pull (E:=E) (E':=E.pull τ bs0.length) hG0 (fun _ _ _ h=>h) rfl hG,hE0,(fun x hx=>by cases hx),⟨.nil,(fun d hd=>by cases hd),(fun x hx=>by cases hx),(fun x hx=>by cases hx),(fun x hx=>by cases hx)⟩⟩
   by_cases ht:t<as0.length
   ·have h1:(as0++List.replicate (fn.ntmps-as0.length) AV.any).getD t .any=as0[t]:=by
     simp [List.getD,List.getElem?_append_left ht,List.getElem?_eq_getElem ht]
    have h2:(vs.toArray++Array.replicate (fn.ntmps-vs.toArray.size) undef).getD t undef=vs[t]'(by omega):=by
     have:t<vs.length:=by omega
     simp [Array.getElem?_append,this]
    rw [h1,h2]
    have h3:=hvs.2 t (by simpa using ht) (by omega)
    rw [List.getElem_map] at h3
    exact o0.back (E.pull_mp τ bs0.length) (fun _ _ _ h=>h) (c22 hargs t ht) h3
   ·have h1:(as0++List.replicate (fn.ntmps-as0.length) AV.any).getD t .any = .any:=by
     rw [List.getD_eq_getElem?_getD,List.getElem?_append_right (by omega),List.getElem?_replicate]
     split<;>rfl
    rw [h1];exact .any _ _
  have hwp:=A3 (nn:=0) hT hm hR0 hG0 hE0 (h68 hT hm hR0 hG0 hE0 dp) (Fs1:=[]) j35 c none false none [] _ _ _ _ _ (fun h=>by cases h) ⟨[],rfl⟩ h hsim
  refine a88 (K:=g56 T fn fun r bs=>r=r0/\Jb bs (List.range bs0.length++news) ws) hR0 hf hb hwp ?_ (fun _ _ _ h=>h) (fun _ _ _ h=>h)
  intro e ts bs tmps w' E1 acc he hk hs
  obtain ⟨n0,N,M,hk⟩:∃ (n:Nat) (N:List (Nat×j6)) (M:List (Nat×List Nat×j6)),d82 n bs fun bs=>Qb N ts bs fun ts bs=>Qc M bs fun bs=>h50 T fn (fun r bs=>r=r0/\Jb bs (List.range bs0.length++news) ws) ts bs:=by rcases he with rfl|rfl<;>exact hk
  obtain ⟨bs,hk,hs⟩:=h49 hk ⟨E1,acc,hs⟩
  obtain ⟨ts,bs,hk,hs,_⟩:=Gi hR0 hk hs
  obtain ⟨bs,hend,hs,_⟩:=Gj hR0 hk hs
  obtain ⟨E1,acc,hs⟩:=hs
  obtain ⟨r,v,⟨hr0,hlv⟩,hrun,hrep⟩:=i58 (P:=P) hT (w:=w') hend (hs.H▸hs.step.rel) hs.tmps
  subst hr0
  obtain ⟨g1,g2⟩:=Nq (τ:=τ) hlv
  have:=q9.push (news:=news) hR rfl hH (fun b hb=>Yl hlive b hb) hinj hnj (Wu hnews) (fun j hj => ?_) hs.step hs.H hrep hrin (fun j hj=>a73 hwin _ (g2 j hj))
  ·rw [g1] at this
   exact ⟨v,hrun,v,_,rfl,this⟩
  ·have hjm:(q8 τ j,(G2 bs j).ren τ)∈Ab τ (List.range bs0.length++news) ws:=by
    rw [←g1];exact List.mem_map.2 ⟨j,List.mem_append.2 (.inr hj),rfl⟩
   rcases hwr _ hjm with hm|hm
   ·rw [←(Nq (τ:=τ) hSl).1,List.map_map] at hm
    obtain ⟨b,hb,e⟩:=List.mem_map.1 hm
    have hbj:b=j:=hL b j (List.mem_append.2 (.inl hb)) (List.mem_append.2 (.inr hj)) e
    have:=Wu hnews j hj
    have:=List.mem_range.1 hb
    omega
   ·exact hm
end
end Go.Eng

namespace Go.Eng
section
variable (P:Program) (G:G1) (T:Tr)
noncomputable def d75 (O:List (List AV)) (Y:Co) (all:List Oper) (l:List Oper):List AV->List j6->List Kj->(List AV->List j6->List Kj->Prop)->Prop :=
 List.rec (motive:=fun _=>List AV->List j6->List Kj->(List AV->List j6->List Kj->Prop)->Prop)
  (fun ts bs fs K=>K ts bs fs)
  (fun o _ ih ts bs fs K=>a79 all o ts fun b ts=>(match b with
  |true=>(match c25 (ev G ts) o.op with
   |some (yb,args)=>Y yb (ts::O) args (fun b bs'=>a77 ts o.dst (.dv (.sc (.bool b))) fun ts'=>ih ts' bs' (([],[])::fs) K) bs
   |none=>opK P G T bs.length o.op (ev G ts) (G2 bs) fun rd wr v=>d77 (Wx o.op) wr fun wr=>c24 (Wx o.op) v fun v=>d78 (f18 o.op) (G2 bs) rd wr v fun rd wr v=>(match a78 bs wr with
    |true=>a77 ts o.dst v fun ts'=>wrK bs wr fun bs'=>ih ts' bs' ((rd,wr.map Prod.fst)::fs) K
    |false=>False))
  |false=>a77 ts o.dst (.tup []) fun ts'=>ih ts' bs (([],[])::fs) K)) l
theorem c99 (O:List (List AV)) (Y:Co) (all:List Oper):∀ (l:List Oper),d75 P G T O Y all l=a80 P G T O Y all l
 |[]=>rfl
 |o::r=>by
  funext ts bs fs K
  have ih:=c99 O Y all r
  show (a79 all o ts fun b ts=>(match b with
  |true=>(match c25 (ev G ts) o.op with
   |some (yb,args)=>Y yb (ts::O) args (fun b bs'=>a77 ts o.dst (.dv (.sc (.bool b))) fun ts'=>d75 P G T O Y all r ts' bs' (([],[])::fs) K) bs
   |none=>opK P G T bs.length o.op (ev G ts) (G2 bs) fun rd wr v=>d77 (Wx o.op) wr fun wr=>c24 (Wx o.op) v fun v=>d78 (f18 o.op) (G2 bs) rd wr v fun rd wr v=>(match a78 bs wr with
    |true=>a77 ts o.dst v fun ts'=>wrK bs wr fun bs'=>d75 P G T O Y all r ts' bs' ((rd,wr.map Prod.fst)::fs) K
    |false=>False))
  |false=>a77 ts o.dst (.tup []) fun ts'=>d75 P G T O Y all r ts' bs (([],[])::fs) K))=_
  rw [ih];rfl
noncomputable def Ri (It:ItT) (k:Nat) (Y:Co) (c:Code):Bool->List (List AV)->Option Nat->R0->List AV->List j6->Prop :=
 Code.rec (motive:=fun _=>Bool->List (List AV)->Option Nat->R0->List AV->List j6->Prop)
  (fun _ _ o K ts bs=>match o with|none=>K .normal ts bs|some _=>False)
  (fun _ ops d _ O o K ts bs=>match o with
   |none=>(match d with
    |false=>d75 P G T O Y ops.toList ops.toList ts bs [] fun ts bs _=>K .normal ts bs
    |true=>d75 P G T O noY ops.toList ops.toList ts bs [] fun ts bs fs=>(match f76 ops.toList fs.reverse with
     |true=>K .normal ts bs
     |false=>False))
   |some _=>False)
  (fun a _ iha ihb ir O o K ts bs=>match o with
   |none=>iha ir O none (Py (ihb ir O none K) K) ts bs
   |some l=>(match (findLabel a l).isSome with
    |true=>iha ir O (some l) (Py (ihb ir O none K) K) ts bs
    |false=>ihb ir O (some l) K ts bs))
  (fun c a b iha ihb ir O o K ts bs=>match o with
   |none=>(match c with
    |.tmp t=>(match ts.getD t .any with
     |.dv (.sc (.bool b'))=>(match b' with|true=>iha ir O none K ts bs|false=>ihb ir O none K ts bs)
     |.nq g n=>(match g with
      |false=>(match J2 a,J2 b with
       |false,false=>Me k O (Qa a++Qa b) (fun K=>(n=0->iha ir O none K ts bs)/\ihb ir O none K ts bs) K ts bs
       |_,_=>(n=0->iha ir O none K ts bs)/\ihb ir O none K ts bs)
      |true=>(match J2 a,J2 b with
       |false,false=>Me k O (Qa a++Qa b) (fun K=>iha ir O none K ts bs/\(n=0->ihb ir O none K ts bs)) K ts bs
       |_,_=>iha ir O none K ts bs/\(n=0->ihb ir O none K ts bs)))
     |.dv (.bl b')=>(match J2 a,J2 b with
      |false,false=>Me k O (t::(Qa a++Qa b)) (fun K=>split b' fun b''=>Sy ts t (.dv (.sc (.bool b''))) fun ts=>match b'' with|true=>iha ir O none K ts bs|false=>ihb ir O none K ts bs) K ts bs
      |_,_=>split b' fun b''=>Sy ts t (.dv (.sc (.bool b''))) fun ts=>match b'' with|true=>iha ir O none K ts bs|false=>ihb ir O none K ts bs)
     |_=>False)
    |.const (.bool b')=>(match b' with|true=>iha ir O none K ts bs|false=>ihb ir O none K ts bs)
    |_=>False)
   |some _=>False)
  (fun id b ih ir O o K ts bs=>match o with|none=>Me k O (Qa b) (fun K=>ih ir O none (d01 id K) ts bs) K ts bs|some _=>False)
  (fun b ih ir O o K ts bs=>match o with|none=>h61 k O (Qa b) (ih ir O none) K ts bs|some _=>False)
  (fun g ps _ _ iha ihb ir O o K ts bs=>match o with
   |none=>(match ir,ev G ts g with
    |false,.fn f caps=>∀ L:Loop,Hh bs bs.length .dead fun bs0=>Hh bs0 bs0.length (.lp L .ready) fun bs1 =>
     It f k ([.yld bs0.length]::ts::O) (.yld bs0.length::caps) (Tb L (fun O'=>ihb true O' none) (fun O'=>iha true O' none) bs0.length ts ps.toList) (Wz bs0.length ts K) bs1
    |_,_=>False)
   |some _=>False)
  (fun i _ _ o K ts bs=>match o with|none=>K (.exit i) ts bs|some _=>False)
  (fun b ih ir O o K ts bs=>match o with|none=>ih ir O none (f19 (d83 k O (Qa b) (fun l=>ih ir O (some l)) K 4) K) ts bs|some _=>False)
  (fun l' _ _ o K ts bs=>match o with|none=>K .normal ts bs|some l=>(match l'==l with|true=>K .normal ts bs|false=>False))
  (fun l _ _ o K ts bs=>match o with|none=>K (.goto l) ts bs|some _=>False)
  (fun _ _ o K ts bs=>match o with|none=>K .ret ts bs|some _=>False)
  (fun _ _ _ _ _ _ _=>False) c
theorem Jc (It:ItT) (k:Nat) (Y:Co):∀ (c:Code) (ir:Bool),Ri P G T It k Y c ir=Kr P G T It k Y ir c
 |.skip,ir=>by funext O o K ts bs;cases o<;>rfl
 |.region _ ops d,ir=>by
  funext O o K ts bs
  cases o with
  |none =>
   show (match d with
    |false=>d75 P G T O Y ops.toList ops.toList ts bs [] fun ts bs _=>K .normal ts bs
    |true=>d75 P G T O noY ops.toList ops.toList ts bs [] fun ts bs fs=>(match f76 ops.toList fs.reverse with
     |true=>K .normal ts bs
     |false=>False))=_
   rw [c99,c99];rfl
  |some l=>rfl
 |.seq a b,ir=>by
  funext O o K ts bs
  have iha:=Jc It k Y a ir
  have ihb:=Jc It k Y b ir
  cases o with
  |none =>
   show Ri P G T It k Y a ir O none (Py (Ri P G T It k Y b ir O none K) K) ts bs=_
   rw [iha,ihb];rfl
  |some l =>
   show (match (findLabel a l).isSome with
    |true=>Ri P G T It k Y a ir O (some l) (Py (Ri P G T It k Y b ir O none K) K) ts bs
    |false=>Ri P G T It k Y b ir O (some l) K ts bs)=_
   rw [iha,ihb];rfl
 |.cond c a b,ir=>by
  funext O o K ts bs
  have iha:=Jc It k Y a ir
  have ihb:=Jc It k Y b ir
  cases o with
  |none =>
   show (match c with
    |.tmp t=>(match ts.getD t .any with
     |.dv (.sc (.bool b'))=>(match b' with|true=>Ri P G T It k Y a ir O none K ts bs|false=>Ri P G T It k Y b ir O none K ts bs)
     |.nq g n=>(match g with
      |false=>(match J2 a,J2 b with
       |false,false=>Me k O (Qa a++Qa b) (fun K=>(n=0->Ri P G T It k Y a ir O none K ts bs)/\Ri P G T It k Y b ir O none K ts bs) K ts bs
       |_,_=>(n=0->Ri P G T It k Y a ir O none K ts bs)/\Ri P G T It k Y b ir O none K ts bs)
      |true=>(match J2 a,J2 b with
       |false,false=>Me k O (Qa a++Qa b) (fun K=>Ri P G T It k Y a ir O none K ts bs/\(n=0->Ri P G T It k Y b ir O none K ts bs)) K ts bs
       |_,_=>Ri P G T It k Y a ir O none K ts bs/\(n=0->Ri P G T It k Y b ir O none K ts bs)))
     |.dv (.bl b')=>(match J2 a,J2 b with
      |false,false=>Me k O (t::(Qa a++Qa b)) (fun K=>split b' fun b''=>Sy ts t (.dv (.sc (.bool b''))) fun ts=>match b'' with|true=>Ri P G T It k Y a ir O none K ts bs|false=>Ri P G T It k Y b ir O none K ts bs) K ts bs
      |_,_=>split b' fun b''=>Sy ts t (.dv (.sc (.bool b''))) fun ts=>match b'' with|true=>Ri P G T It k Y a ir O none K ts bs|false=>Ri P G T It k Y b ir O none K ts bs)
     |_=>False)
    |.const (.bool b')=>(match b' with|true=>Ri P G T It k Y a ir O none K ts bs|false=>Ri P G T It k Y b ir O none K ts bs)
    |_=>False)=_
   rw [iha,ihb];rfl
  |some l=>rfl
 |.block id b,ir=>by
  funext O o K ts bs
  have ih:=Jc It k Y b ir
  cases o with
  |none=>show Me k O (Qa b) (fun K=>Ri P G T It k Y b ir O none (d01 id K) ts bs) K ts bs=_;rw [ih];rfl
  |some l=>rfl
 |.loop b,ir=>by
  funext O o K ts bs
  have ih:=Jc It k Y b ir
  cases o with
  |none=>show h61 k O (Qa b) (Ri P G T It k Y b ir O none) K ts bs=_;rw [ih];rfl
  |some l=>rfl
 |.rangeFunc g ps a b,ir=>by
  funext O o K ts bs
  have iha:=Jc It k Y a true
  have ihb:=Jc It k Y b true
  cases o with
  |none =>
   show (match ir,ev G ts g with
    |false,.fn f caps=>∀ L:Loop,Hh bs bs.length .dead fun bs0=>Hh bs0 bs0.length (.lp L .ready) fun bs1 =>
     It f k ([.yld bs0.length]::ts::O) (.yld bs0.length::caps) (Tb L (fun O'=>Ri P G T It k Y b true O' none) (fun O'=>Ri P G T It k Y a true O' none) bs0.length ts ps.toList) (Wz bs0.length ts K) bs1
    |_,_=>False)=_
   rw [iha,ihb];rfl
  |some l=>rfl
 |.exit i,ir=>by funext O o K ts bs;cases o<;>rfl
 |.scope b,ir=>by
  funext O o K ts bs
  have ih:=Jc It k Y b ir
  cases o with
  |none=>show Ri P G T It k Y b ir O none (f19 (d83 k O (Qa b) (fun l=>Ri P G T It k Y b ir O (some l)) K 4) K) ts bs=_;rw [ih];rfl
  |some l=>rfl
 |.label l',ir=>by funext O o K ts bs;cases o<;>rfl
 |.goto l,ir=>by funext O o K ts bs;cases o<;>rfl
 |.ret,ir=>by funext O o K ts bs;cases o<;>rfl
 |.refuse _,ir=>by funext O o K ts bs;cases o<;>rfl
noncomputable def f75 (n:Nat):(List AV->Prop)->Prop :=
 Nat.rec (fun K=>K []) (fun _ ih K=>ih fun r=>K (.any::r)) n
noncomputable def Wv (as:List AV) (n:Nat) (K:List AV->Prop):Prop :=
 List.rec (motive:=fun _=>((List AV->Prop)->Prop)) (f75 (n-as.length)) (fun x _ ih K=>ih fun r=>K (x::r)) as K
theorem d76:∀ (n:Nat) (K:List AV->Prop),f75 n K=K (List.replicate n .any)
 |0,_=>rfl
 |n+1,K=>by
  show f75 n (fun r=>K (.any::r))=_
  rw [d76 n];rfl
theorem c23 (as:List AV) (n:Nat) (K:List AV->Prop):Wv as n K=K (as++List.replicate (n-as.length) .any):=by
 have key:∀ (l:List AV) (m:Nat) (K:List AV->Prop),(List.rec (motive:=fun _=>((List AV->Prop)->Prop)) (f75 m) (fun x _ ih K=>ih fun r=>K (x::r)) l K:Prop)=K (l++List.replicate m .any):=by
  intro l
  induction l with
  |nil=>intro m K;exact d76 m K
  |cons x r ih=>intro m K;exact ih m fun r=>K (x::r)
 exact key as _ K
noncomputable def itR:Nat->ItT
 |0=>j40
 |n+1=>fun f k O args Y K bs=>∃ fn c,(P.funcs[f]?=some fn/\fn.body=some c/\(fn.name == "runtime.NumGoroutine")=false/\fn.results = #[]) /\
  Wv args fn.ntmps fun ts=>Ri P G T (itR n) k Y c false O none (d03 K) ts bs
theorem h52:∀ n,itR P G T n=itN P G T n
 |0=>rfl
 |n+1=>by
  funext f k O args Y K bs
  have ih:=h52 n
  show (∃ (fn:Func) (c:Code),_/\Wv args fn.ntmps fun ts=>Ri P G T (itR P G T n) k Y c false O none (d03 K) ts bs)=_
  rw [ih]
  simp only [c23,Jc]
  rfl
end
end Go.Eng

namespace Go.Eng
section
variable {P:Program} {G:G1} {f:FuncId} {args:List AV} {S wr:List (Nat×j6)} {r:AV}
theorem d74 {τ:List (Nat×Nat)} {i:Nat} (h:i∈τ.map Prod.fst):(q8 τ i)∈τ.map Prod.snd:=by
 induction τ with
 |nil=>cases h
 |cons x r ih =>
  unfold q8
  split
  ·exact .head _
  ·rename_i hne
   rcases List.mem_cons.1 h with e|h
   ·rw [e,Nat.beq_refl] at hne;cases hne
   ·exact .tail _ (ih h)
theorem h51 {τ:List (Nat×Nat)} (hn:(τ.map Prod.snd).Nodup):∀ i j,i∈τ.map Prod.fst->j∈τ.map Prod.fst->q8 τ i=q8 τ j->i=j:=by
 induction τ with
 |nil=>intro i j h;cases h
 |cons x r ih =>
  intro i j hi hj h
  rw [List.map_cons,List.nodup_cons] at hn
  have step:∀ i,i∈(x::r).map Prod.fst->(i=x.1/\q8 (x::r) i=x.2)\/(i∈r.map Prod.fst/\q8 (x::r) i=q8 r i):=by
   intro i hi
   have e0:q8 (x::r) i=match Nat.beq i x.1 with|true=>x.2|false=>q8 r i:=rfl
   cases hb:Nat.beq i x.1 with
   |true=>exact .inl ⟨Nat.eq_of_beq_eq_true hb,by rw [e0,hb]⟩
   |false =>
    rcases List.mem_cons.1 hi with e|hi
    ·rw [e,Nat.beq_refl] at hb;cases hb
    ·exact .inr ⟨hi,by rw [e0,hb]⟩
  rcases step i hi with ⟨e1,e2⟩|⟨h1,e2⟩<;>rcases step j hj with ⟨g1,g2⟩|⟨k1,g2⟩
  ·rw [e1,g1]
  ·rw [e2,g2] at h
   exact absurd (h▸d74 k1) hn.1
  ·rw [e2,g2] at h
   exact absurd (h▸d74 h1) hn.1
  ·rw [e2,g2] at h
   exact ih hn.2 i j h1 k1 h
theorem Fn.bodyN {T:Tr} (hT:v5 P T) (hm:P.follows .mixedOrders=true) (hG0:Ja G) {fn:Func} {c:Code} (hf:P.funcs[f]?=some fn) (hname:(fn.name == "runtime.NumGoroutine")=false) (hb:fn.body=some c)
  (τ:List (Nat×Nat)) (as0:List AV) (bs0:List j6) (news:List Nat) (r0:AV) (ws:List j6) (hchk:c21 as0 bs0 news r0 ws=true)
  (hk:τ.map Prod.fst=List.range bs0.length++news) (hn:(τ.map Prod.snd).Nodup)
  (dp:Nat) (h:Ri P G T (itR P G T dp) bs0.length noY c false [] none (g56 T fn fun r bs=>r=r0/\Jb bs (List.range bs0.length++news) ws) (as0++List.replicate (fn.ntmps-as0.length) .any) bs0) :
  Fn P G f (as0.map (AV.ren τ)) (Ab τ (List.range bs0.length) bs0) (r0.ren τ) (Ab τ (List.range bs0.length++news) ws) :=
 Fn.body hT hm hG0 hf hname hb τ as0 bs0 news r0 ws hchk (by rw [←hk];exact h51 hn) dp (by rw [h52,Jc] at h;exact h)
end
end Go.Eng

namespace Go.Eng
def ShF (S:TypeId->DV->Prop):List (Nat×TypeId)->DV->Prop
 |[],x=>x = .nil
 |(_,ft)::r,x=>∃ a b,x = .cons a b/\S ft a/\ShF S r b
def Sh (T:Tr) (N:Nat) (dz:TypeId->DV):Nat->TypeId->DV->Prop
 |0,_,_=>False
 |d+1,t,x=>match (T.get t).kind with
  |.int k=>∃ n,x = .sc (.int k n)/\k.min≤n/\n≤k.max
  |.bool=>∃ b,x = .bl b
  |.str=>∃ l,x = .str l/\l.length≤N
  |.arr n e=>(match (T.get e).kind with
   |.int k=>∃ l,x = .ints k n l/\l.length=n/\∀ y,y∈l->k.min≤y/\y≤k.max
   |_=>∃ f,x = .fam n (T.get e).lay f/\(∀ i,i<n->Sh T N dz d e (f i))/\∀ i,n≤i->f i=dz e)
  |.struct fs=>ShF (Sh T N dz d) fs x
  |.sli e=>(match (T.get e).kind with
   |.int k=>∃ l,x = .roI k l/\l.length≤N/\∀ y,y∈l->k.min≤y/\y≤k.max
   |_=>∃ n f,x = .ro (T.get e).lay n f/\n≤N/\(∀ i,i<n->Sh T N dz d e (f i))/\∀ i,n≤i->f i=dz e)
  |_=>False
def d08 (T:Tr):List (Nat×TypeId)->t9
 |[] => .unit
 |(_,ft)::r => .pair (T.get ft).lay (d08 T r)
def i65 (T:Tr):Nat->List (Nat×TypeId)->Bool
 |_,[]=>true
 |o,(o',ft)::r=>Nat.beq o o'&&i65 T (o+(T.get ft).size) r
def shB (T:Tr):Nat->TypeId->Bool
 |0,_=>false
 |d+1,t=>match (T.get t).kind with
  |.int _ | .bool | .str=>decide ((T.get t).lay = .one)
  |.arr n e=>shB T d e&&decide ((T.get t).lay = .arr n (T.get e).lay)
  |.struct fs=>fs.all (fun f=>shB T d f.2)&&decide ((T.get t).lay=d08 T fs)&&i65 T 0 fs
  |.sli e=>shB T d e&&decide ((T.get t).lay = .one)&&Nat.blt 0 (T.get e).size
  |_=>false
section
variable {P:Program} {T:Tr} {W:World} {H:Type} {enc:TypeId×Value->H} {Q:DataW H->Prop} {N:Nat} {dz:TypeId->DV}
theorem Uv {d:Nat} {t:TypeId} (h:shB T d t=true):t∈T.keys:=by
 cases d with
 |zero=>cases h
 |succ d =>
  refine R2 fun e => ?_
  unfold shB at h
  rw [e] at h
  cases h
theorem Jh (hT:v5 P T) {t:TypeId} (ht:t∈T.keys):P.cellsOf t=(T.get t).size:=by
 obtain ⟨i,d,z,cs,hi,hd,_,hs,_⟩:=(hT.entry ht).info
 simp [Program.cellsOf,hi,hs]
theorem Ji (hT:v5 P T) {t:TypeId} (ht:t∈T.keys):(T.get t).lay.size=(T.get t).size:=by
 obtain ⟨i,d,z,cs,hi,hd,_,hs,_,hl,_⟩:=(hT.entry ht).info
 exact hl
structure Bnd (Q:DataW H->Prop) (N:Nat):Prop where
 str:∀ l,Q (.lit (.string l))->l.length≤maxLen->l.length≤N
 sli:∀ es sp,Q (.slice es sp)->es.length≤maxLen->es.length≤N/\∀ e,e∈es->Q e
 agg:∀ ps,Q (.agg ps)->∀ p,p∈ps->Q p
theorem d89 {α β:Type} {f:α->Option β}:∀ {l:List α} {r:List β},l.mapM f=some r->r.length=l.length/\∀ (i:Nat) (x:α),l[i]?=some x->f x=r[i]?
 |[],r,h=>by simp at h;subst h;exact ⟨rfl,fun i x h=>by simp at h⟩
 |y::l,r,h=>by
  simp only [List.mapM_cons,Option.pure_def,Option.bind_eq_bind,Option.bind_eq_some_iff,Option.some.injEq] at h
  obtain ⟨a,h1,b,h2,rfl⟩:=h
  obtain ⟨h3,h4⟩:=d89 h2
  refine ⟨by simp [h3],fun i x hi => ?_⟩
  cases i with
  |zero=>simp at hi;subst hi;simp [h1]
  |succ i=>simpa using h4 i x (by simpa using hi)
theorem Xd {a:Addr} {n:Nat} {cs:List Value} (h:W.cells? 0 a n=some cs):cs.length=n/\∀ i (hi:i<cs.length),W.cell? (a.add i)=some cs[i]:=by
 unfold World.cells? at h
 rw [if_pos (Nat.zero_le _)] at h
 obtain ⟨h1,h2⟩:=d89 h
 have hl:cs.length=n:=by rw [h1];simp
 refine ⟨hl,fun i hi => ?_⟩
 have:=h2 i i (by rw [List.getElem?_range (by omega)])
 rw [List.getElem?_eq_getElem hi] at this;exact this
theorem a85 {r o n:Nat} {cs:List Value} (h:W.cells? 0 ⟨r,o,none⟩ n=some cs):D1 (A5 W) r o cs:=fun j hj=>by
 have:=(Xd h).2 j hj
 rwa [Cq] at this
theorem c32 {a:Addr} {n:Nat} {cs:List Value} (h:W.cells? 0 a n=some cs) (hn:0<n):a.spot=none:=by
 obtain ⟨h1,h2⟩:=Xd h
 have:=h2 0 (by omega)
 unfold World.cell? at this
 split at this
 ·split at this
  ·cases this
  ·rename_i hs
   simpa [Addr.add] using hs
 ·cases this
theorem Uw (hT:v5 P T) {S:TypeId->DV->Prop} {cs:List Value}:∀ {fs:List (Nat×TypeId)} {o:Nat},i65 T o fs=true->(∀ f,f∈fs->f.2∈T.keys)->(∀ f,f∈fs->∃ x,S f.2 x/\x.lay=(T.get f.2).lay/\u7 (A5 W) x ((cs.drop f.1).take (T.get f.2).size)) ->
  ∃ x,ShF S fs x/\x.lay=d08 T fs/\u7 (A5 W) x ((cs.drop o).take (d08 T fs).size)
 |[],o,_,_,_=>⟨.nil,rfl,rfl,by rw [show (d08 T []).size=0 from rfl,List.take_zero];exact .nil⟩
 |(o',ft)::r,o,ho,hk,h=>by
  simp only [i65,Bool.and_eq_true] at ho
  obtain rfl:=Nat.eq_of_beq_eq_true ho.1
  obtain ⟨a,h1,h2,h3⟩:=h (o,ft) (.head _)
  obtain ⟨b,h4,h5,h6⟩:=Uw hT ho.2 (fun f hf=>hk f (.tail _ hf)) (fun f hf=>h f (.tail _ hf))
  refine ⟨.cons a b,⟨a,b,rfl,h1,h4⟩,by rw [DV.lay,h2,h5];rfl,?_⟩
  have hs:=Ji hT (hk (o,ft) (.head _))
  have e:(cs.drop o).take (d08 T ((o,ft)::r)).size=(cs.drop o).take (T.get ft).size++(cs.drop (o+(T.get ft).size)).take (d08 T r).size:=by
   rw [show (d08 T ((o,ft)::r)).size=(T.get ft).lay.size+(d08 T r).size from rfl,hs,←List.drop_drop]
   exact List.take_add
  rw [e]
  exact .cons h3 h6
theorem a07 (hT:v5 P T) (hQ:Bnd Q N):∀ (dep:Nat) (t:TypeId),shB T dep t=true->∀ (n:Nat) (cs:List Value) (d:DataW H) (ps:List MemPlace),DataW.trod enc P W 0 (fun _=>true) true n t cs=some (d,ps)->Q d ->
  ∃ x,Sh T N dz dep t x/\x.lay=(T.get t).lay/\u7 (A5 W) x cs
 |0,_,hb,_,_,_,_,_,_=>by cases hb
 |dep+1,t,hb,n,cs,d,ps,h,hq=>by
  have hk0:=Uv hb
  unfold shB at hb
  unfold Sh
  split at hb
  ·rename_i k hk
   obtain ⟨m,rfl,hx,hw⟩:=DataW.trod_int (Kt hT hk) h
   simp only [Lit.wf,Bool.and_eq_true,decide_eq_true_eq] at hw
   exact ⟨.sc (.int k m),⟨m,rfl,hw.1,hw.2⟩,(of_decide_eq_true hb).symm,.sc _ trivial⟩
  ·rename_i hk
   obtain ⟨b,rfl,hx⟩:=DataW.trod_bool (d86 hT hk) h
   exact ⟨.bl b,⟨b,rfl⟩,(of_decide_eq_true hb).symm,.bl b⟩
  ·rename_i hk
   obtain ⟨s,rfl,hx,hs⟩:=DataW.trod_string (Hw hT hk) h
   obtain ⟨⟨l⟩⟩:=s
   cases hx
   exact ⟨.str l,⟨l,rfl,hQ.str l hq hs⟩,(of_decide_eq_true hb).symm,.str l⟩
  ·rename_i m e hk
   simp only [Bool.and_eq_true,decide_eq_true_eq] at hb
   obtain ⟨hu,i,hi⟩:=Ku hT hk
   have hke:=Uv hb.1
   have hce:=Jh hT hke
   obtain ⟨xs,m',rfl,hx,hlen,hxl,hel⟩:=DataW.trod_array hu h
   cases hx
   have hsz:cs.length=m*(T.get e).size:=by
    rw [hlen,Jh hT hk0,←Ji hT hk0,hb.2,t9.size,Ji hT hke]
   have each:∀ j,j<m->∃ x,Sh T N dz dep e x/\x.lay=(T.get e).lay/\u7 (A5 W) x ((cs.drop (j*(T.get e).size)).take (T.get e).size):=by
    intro j hj
    have h1:=hel j hj
    rw [hce] at h1
    have hj':j<xs.length:=by omega
    rw [List.getElem?_eq_getElem hj'] at h1
    exact a07 hT hQ dep _ hb.1 _ _ _ _ h1 (hQ.agg _ hq _ (List.mem_map.2 ⟨_,List.getElem_mem hj',rfl⟩))
   have key:(∃ k,(T.get e).kind = .int k)\/∀ k,(T.get e).kind ≠ .int k:=by
    cases hke':(T.get e).kind<;>first|exact .inl ⟨_,rfl⟩|exact .inr (fun k h=>by cases h)
   rcases key with ⟨k,hkk⟩|hne
   ·simp only [hkk]
    have hlo:(T.get e).lay = .one:=by
     have:=hb.1
     cases dep with
     |zero=>cases this
     |succ dep=>unfold shB at this;rw [hkk] at this;exact of_decide_eq_true this
    have hs1:(T.get e).size=1:=by rw [←Ji hT hke,hlo];rfl
    rw [hs1,Nat.mul_one] at hsz
    have each':∀ j (hj:j<cs.length),∃ y,cs[j] = .int k y/\k.min≤y/\y≤k.max:=by
     intro j hj
     obtain ⟨x,h1,h2,h3⟩:=each j (by omega)
     cases dep with
     |zero=>exact h1.elim
     |succ dep =>
      unfold Sh at h1
      rw [hkk] at h1
      obtain ⟨y,rfl,h4,h5⟩:=h1
      rw [hs1,Nat.mul_one] at h3
      have e1:(cs.drop j).take 1=[cs[j]]:=by
       rw [List.drop_eq_getElem_cons hj];rfl
      rw [e1] at h3
      have:=i62 h3
      exact ⟨y,this,h4,h5⟩
    obtain ⟨l,hl⟩:∃ l:List Int,cs=l.map (.int k)/\∀ y,y∈l->k.min≤y/\y≤k.max:=by
     clear hel hlen each h hsz
     induction cs with
     |nil=>exact ⟨[],rfl,fun y h=>by cases h⟩
     |cons c cs ih =>
      obtain ⟨y,h1,h2⟩:=each' 0 (by simp)
      obtain ⟨l,h3,h4⟩:=ih (fun j hj=>by
       have:=each' (j+1) (by simpa using hj)
       simpa using this)
      refine ⟨y::l,by simp at h1;rw [List.map_cons,←h3,h1],fun z hz => ?_⟩
      rcases List.mem_cons.1 hz with rfl|hz
      ·exact h2
      ·exact h4 z hz
    obtain ⟨rfl,hr⟩:=hl
    have hll:l.length=m:=by simpa using hsz
    exact ⟨.ints k m l,⟨l,rfl,hll,hr⟩,by rw [hb.2,hlo];rfl,.ints k m l hll⟩
   ·have goal:∃ x,(∃ f,x=DV.fam m (T.get e).lay f/\(∀ i,i<m->Sh T N dz dep e (f i))/\∀ i,m≤i->f i=dz e)/\x.lay=(T.get t).lay/\u7 (A5 W) x cs:=by
     let f:Nat->DV:=fun j=>if hj:j<m then Classical.choose (each j hj) else dz e
     have hf:∀ j (hj:j<m),Sh T N dz dep e (f j)/\(f j).lay=(T.get e).lay/\u7 (A5 W) (f j) ((cs.drop (j*(T.get e).size)).take (T.get e).size):=fun j hj=>by
      have:=Classical.choose_spec (each j hj)
      simp only [f,hj,dif_pos];exact this
     refine ⟨.fam m (T.get e).lay f,⟨f,rfl,fun i hi=>(hf i hi).1,fun i hi=>dif_neg (by omega)⟩,by rw [hb.2];rfl,?_⟩
     have:=u7.fam (rd:=A5 W) m (T.get e).lay f (fun j=>(cs.drop (j*(T.get e).size)).take (T.get e).size) (fun i hi=>(hf i hi).2.2) (fun i hi=>(hf i hi).2.1)
     have e2:∀ (q:Nat),q*(T.get e).size≤cs.length->(List.range q).flatMap (fun j=>(cs.drop (j*(T.get e).size)).take (T.get e).size)=cs.take (q*(T.get e).size):=by
      intro q
      induction q with
      |zero=>intro _;simp
      |succ q ih =>
       intro hq'
       rw [Nat.succ_mul] at hq' ⊢
       rw [List.range_succ,List.flatMap_append,ih (by omega)]
       simp only [List.flatMap_cons,List.flatMap_nil,List.append_nil]
       exact List.take_add.symm
     rw [e2 m (by omega),List.take_of_length_le (by omega)] at this
     exact this
    cases hke':(T.get e).kind<;>first|(exact absurd hke' (hne _))|exact goal
  ·rename_i fs hk
   simp only [Bool.and_eq_true,decide_eq_true_eq,List.all_eq_true] at hb
   obtain ⟨⟨hb1,hb2⟩,hb3⟩:=hb
   obtain ⟨fields,hu,hfs,hinfo⟩:=Nu hT hk
   obtain ⟨xs,m',rfl,hx,hlen,hxl,hel⟩:=DataW.trod_struct hu h
   cases hx
   have hkeys:∀ f,f∈fs->f.2∈T.keys:=fun f hf=>Uv (hb1 f hf)
   obtain ⟨x,h1,h2,h3⟩:=Uw hT (S:=Sh T N dz dep) (cs:=cs) (o:=0) hb3 hkeys (fun f hf=>by
    rw [←hfs] at hf
    obtain ⟨fd,hfd,e⟩:=List.mem_map.1 hf
    obtain ⟨i,hi,hfi⟩:=List.mem_iff_getElem.1 hfd
    have hfi':fields[i]?=some fd:=by
     have:fields.toList[i]?=some fd:=by rw [List.getElem?_eq_getElem hi,hfi]
     simpa using this
    have h1:=hel i fd hfi'
    have hi':i<xs.length:=by rw [hxl];simpa using hi
    rw [List.getElem?_eq_getElem hi'] at h1
    subst e
    have hmem:(fd.offset,fd.type)∈fs:=by rw [←hfs];exact hf
    rw [Jh hT (hkeys _ hmem)] at h1
    exact a07 hT hQ dep _ (hb1 _ hmem) _ _ _ _ h1 (hQ.agg _ hq _ (List.mem_map.2 ⟨_,List.getElem_mem hi',rfl⟩)))
   refine ⟨x,h1,by rw [hb2];exact h2,?_⟩
   rw [List.drop_zero,List.take_of_length_le (by rw [hlen,Jh hT hk0,←Ji hT hk0,hb2];exact Nat.le_refl _)] at h3
   exact h3
  ·rename_i e hk
   simp only [Bool.and_eq_true,decide_eq_true_eq] at hb
   obtain ⟨⟨hb1,hb2⟩,hb3⟩:=hb
   have hpos:0<(T.get e).size:=by simpa [Nat.blt_eq] using hb3
   obtain ⟨hu,i,hi⟩:=T5 hT hk
   have hke:=Uv hb1
   have hce:=Jh hT hke
   have key:(∃ k,(T.get e).kind = .int k)\/∀ k,(T.get e).kind ≠ .int k:=by
    cases hke':(T.get e).kind<;>first|exact .inl ⟨_,rfl⟩|exact .inr (fun k h=>by cases h)
   rcases DataW.trod_slice hu h with ⟨rfl,hx⟩|⟨a,len,cap,elems,rest,m',rfl,rfl,hx,_,hlc,hcm,hel,hget,_,_⟩
   ·cases hx
    rcases key with ⟨k,hkk⟩|hne
    ·simp only [hkk]
     exact ⟨.roI k [],⟨[],rfl,Nat.zero_le _,fun y h=>by cases h⟩,hb2.symm,.roI0 k none 0 (fun _=>rfl)⟩
    ·have goal:∃ x,(∃ n f,x=DV.ro (T.get e).lay n f/\n≤N/\(∀ i,i<n->Sh T N dz dep e (f i))/\∀ i,n≤i->f i=dz e)/\x.lay=(T.get t).lay/\u7 (A5 W) x [.slice none 0 0] :=
      ⟨.ro (T.get e).lay 0 (fun _=>dz e),⟨0,_,rfl,Nat.zero_le _,fun i hi=>by omega,fun _ _=>rfl⟩,hb2.symm,.ro0 _ _ none 0 (fun _=>rfl)⟩
     cases hke':(T.get e).kind<;>first|(exact absurd hke' (hne _))|exact goal
   ·cases hx
    have hq':=hQ.sli _ _ hq (by simp only [List.length_map];omega)
    simp only [List.length_map,hel] at hq'
    have each:∀ j,j<len->∃ x cs',Sh T N dz dep e x/\x.lay=(T.get e).lay/\u7 (A5 W) x cs'/\W.cells? 0 (a.add (j*(T.get e).size)) (T.get e).size=some cs':=by
     intro j hj
     have h1:=hget j hj
     rw [hce] at h1
     have hj':j<elems.length:=by omega
     rw [List.getElem?_eq_getElem hj'] at h1
     obtain ⟨cs',hc,h2⟩:=Option.bind_eq_some_iff.1 h1
     obtain ⟨x,h3,h4,h5⟩:=a07 hT hQ dep _ hb1 _ _ _ _ h2 (hq'.2 _ (List.mem_map.2 ⟨_,List.getElem_mem hj',rfl⟩))
     exact ⟨x,cs',h3,h4,h5,hc⟩
    by_cases h0:len=0
    ·subst h0
     rcases key with ⟨k,hkk⟩|hne
     ·simp only [hkk]
      exact ⟨.roI k [],⟨[],rfl,Nat.zero_le _,fun y h=>by cases h⟩,hb2.symm,.roI0 k (some a) cap (fun h=>by cases h)⟩
     ·have goal:∃ x,(∃ n f,x=DV.ro (T.get e).lay n f/\n≤N/\(∀ i,i<n->Sh T N dz dep e (f i))/\∀ i,n≤i->f i=dz e)/\x.lay=(T.get t).lay/\u7 (A5 W) x [.slice (some a) 0 cap] :=
       ⟨.ro (T.get e).lay 0 (fun _=>dz e),⟨0,_,rfl,Nat.zero_le _,fun i hi=>by omega,fun _ _=>rfl⟩,hb2.symm,.ro0 _ _ (some a) cap (fun h=>by cases h)⟩
      cases hke':(T.get e).kind<;>first|(exact absurd hke' (hne _))|exact goal
    ·have hsp:a.spot=none:=by
      obtain ⟨x,cs',_,_,_,hc⟩:=each 0 (by omega)
      have:=c32 hc hpos
      simpa [Addr.add] using this
     obtain ⟨r,o,sp⟩:=a
     simp only at hsp
     subst hsp
     let f:Nat->DV:=fun j=>if hj:j<len then Classical.choose (each j hj) else dz e
     let g:Nat->List Value:=fun j=>if hj:j<len then Classical.choose (Classical.choose_spec (each j hj)) else []
     have hf:∀ j (hj:j<len),Sh T N dz dep e (f j)/\(f j).lay=(T.get e).lay/\u7 (A5 W) (f j) (g j)/\W.cells? 0 ⟨r,o+j*(T.get e).size,none⟩ (T.get e).size=some (g j):=fun j hj=>by
      have:=Classical.choose_spec (Classical.choose_spec (each j hj))
      simp only [f,g,hj,dif_pos]
      exact ⟨this.1,this.2.1,this.2.2.1,(congrArg (fun q=>W.cells? 0 q (T.get e).size=some (Classical.choose (Classical.choose_spec (each j hj)))) (Cq r o (j*(T.get e).size))).mp this.2.2.2⟩
     rcases key with ⟨k,hkk⟩|hne
     ·simp only [hkk]
      have hlo:(T.get e).lay = .one:=by
       cases dep with
       |zero=>cases hb1
       |succ dep=>unfold shB at hb1;rw [hkk] at hb1;exact of_decide_eq_true hb1
      have hs1:(T.get e).size=1:=by rw [←Ji hT hke,hlo];rfl
      have each':∀ j,j<len->∃ y,W.cell? ⟨r,o+j,none⟩=some (.int k y)/\k.min≤y/\y≤k.max:=by
       intro j hj
       obtain ⟨h1,h2,h3,h4⟩:=hf j hj
       rw [hs1,Nat.mul_one] at h4
       obtain ⟨hl,hg⟩:=Xd h4
       cases dep with
       |zero=>exact h1.elim
       |succ dep =>
        unfold Sh at h1
        rw [hkk] at h1
        obtain ⟨y,hy,h5,h6⟩:=h1
        rw [hy] at h3
        have hgj:g j=[.int k y]:=by
         generalize g j=q at h3
         cases h3;rfl
        have:=hg 0 (by omega)
        rw [Cq,Nat.add_zero] at this
        refine ⟨y,?_,h5,h6⟩
        rw [this]
        simp [hgj]
      let l:List Int:=(List.range len).map fun j=>if hj:j<len then Classical.choose (each' j hj) else 0
      have hll:l.length=len:=by simp [l]
      have hl:∀ j (hj:j<len),W.cell? ⟨r,o+j,none⟩=some (.int k (l[j]'(by omega)))/\k.min≤l[j]'(by omega)/\l[j]'(by omega)≤k.max:=fun j hj=>by
       have:=Classical.choose_spec (each' j hj)
       have e1:l[j]'(by omega)=Classical.choose (each' j hj):=by simp [l,hj]
       rw [e1];exact this
      refine ⟨.roI k l,⟨l,rfl,by omega,fun y hy => ?_⟩,hb2.symm,?_⟩
      ·obtain ⟨j,hj,rfl⟩:=List.mem_iff_getElem.1 hy
       exact (hl j (by omega)).2
      ·have:=u7.roI (rd:=A5 W) k l r o cap (by omega) (fun j hj=>by
        have hj':j<len:=by simp at hj;omega
        rw [List.getElem_map]
        exact (hl j hj').1)
       rwa [hll] at this
     ·have goal:∃ x,(∃ n f,x=DV.ro (T.get e).lay n f/\n≤N/\(∀ i,i<n->Sh T N dz dep e (f i))/\∀ i,n≤i->f i=dz e)/\x.lay=(T.get t).lay/\u7 (A5 W) x [.slice (some ⟨r,o,none⟩) len cap]:=by
       refine ⟨.ro (T.get e).lay len f,⟨len,f,rfl,hq'.1,fun i hi=>(hf i hi).1,fun i hi=>dif_neg (by omega)⟩,hb2.symm,?_⟩
       refine .ro (T.get e).lay len f g r o cap hlc (fun i hi=>(hf i hi).2.2.1) (fun i hi=>(hf i hi).2.1) (fun i hi => ?_)
       rw [Ji hT hke]
       exact a85 (hf i hi).2.2.2
      cases hke':(T.get e).kind<;>first|(exact absurd hke' (hne _))|exact goal
  ·cases hb
theorem d09 {t:TypeId} {v:Value} {x:DV} (hT:v5 P T) {dep:Nat} (hb:shB T dep t=true) (hv:Value.okWide P W .any 0 t v) (hx:u7 (A5 W) x v.cells.toList) (hl:x.lay=(T.get t).lay):v=q5 x.lay.isAgg v.cells.toList:=by
 obtain ⟨i,d,z,cs,hi,hd,hkb,_,_,_,hagg,_⟩:=(hT.entry (Uv hb)).info
 rw [hl,hagg]
 unfold Value.okWide at hv
 rw [hd] at hv
 cases dep with
 |zero=>cases hb
 |succ dep =>
  unfold shB at hb
  have one:∀ (v:Value),(∀ q,v ≠ .agg q)->v=q5 false v.cells.toList:=fun v h=>by
   cases v<;>first|rfl|exact absurd rfl (h _)
  have cell:∀ (v:Value),g58 d=false->(d = .bool\/d = .string\/(∃ k,d = .int k)\/∃ e,d = .slice e)->Cell.okWide P W .any 0 t v->v=q5 (g58 d) v.cells.toList:=fun v hd' hdd hc=>by
   rw [hd']
   refine one v fun q e => ?_
   subst e
   unfold Cell.okWide Cell.ok at hc
   rcases hdd with rfl|rfl|⟨k,rfl⟩|⟨e,rfl⟩<;>simp [hd] at hc
  cases d<;>first
   |(obtain ⟨cs',rfl,_⟩:=hv;rfl)
   |exact cell v rfl (.inl rfl) hv
   |exact cell v rfl (.inr (.inl rfl)) hv
   |exact cell v rfl (.inr (.inr (.inl ⟨_,rfl⟩))) hv
   |exact cell v rfl (.inr (.inr (.inr ⟨_,rfl⟩))) hv
   |(exfalso;cases hk:(T.get t).kind<;>rw [hk] at hkb hb<;>first|(cases hkb;done)|(cases hb;done)|(simp [Ur] at hkb;done)|(simp at hb;done))
theorem a86 (hT:v5 P T) (hQ:Bnd Q N) {dep:Nat} {t:TypeId} (hb:shB T dep t=true) {v:Value} {d:DataW H} {ps:List MemPlace} (hv:Value.okWide P W .any 0 t v) (h:DataW.Trod enc P W 0 (fun _=>true) true t v d ps) (hq:Q d) :
  ∃ x,Sh T N dz dep t x/\∀ E:y6,E.rd=A5 W->o0 E (.dv x) v:=by
 obtain ⟨n,hn⟩:=h
 obtain ⟨x,h1,h2,h3⟩:=a07 hT hQ dep t hb n _ d ps hn hq
 refine ⟨x,h1,fun E hE => .of (.dv (hE▸h3)) ?_⟩
 exact d09 hT hb hv h3 h2
def d90 (W:World):y6:={ pl:=fun _ => .unborn,lay:=fun _ => .one,top:=fun _=>0,rd:=A5 W,fx:=fun r=>W.heap[r]? }
theorem l89 (W:World):Q9 (d90 W) (fun _ => .dead) W :=
 ⟨fun _ _ _ h=>h,fun _=>trivial,fun _ _ _ _ _ _ _ h=>by (cases h),fun _ _ _ _ _ h=>by (cases h),fun _ _ _ h=>by (cases h),fun _ _=>rfl,fun _ _ _ h=>by (cases h),fun _ _ h=>h,fun _ _ _ _ _ h=>by (cases h)⟩
theorem c33 (hl:laidOutB P=true) {W':World} (hsame:∀ r,r<W.heap.size->W'.heap[r]?=W.heap[r]?) {sp:Nat->Bool}:∀ {ts:List TypeId} {vs:List Value} {ds:List (DataW H)} {ps:List MemPlace},
  (∀ t,t∈ts->P.readableRec t=true/\t<P.types.size)->DataW.TrodAll enc P W 0 (fun _=>true) true ts vs ds ps->(∀ p,p∈ps->p.block<W.heap.size)->(∀ p,p∈ps->sp p.block=true)->DataW.TrodAll enc P W' 0 sp true ts vs ds ps
 |[],[],[],_,_,h,_,_=>h
 |t::ts,v::vs,d::ds,ps,ht,h,hlt,hsp=>by
  obtain ⟨p,q,h1,h2,rfl⟩:=h
  refine ⟨p,q,?_,c33 hl hsame (fun t ht'=>ht t (.tail _ ht')) h2 (fun x hx=>hlt x (List.mem_append_right _ hx)) (fun x hx=>hsp x (List.mem_append_right _ hx)),rfl⟩
  refine WideElems.Trod_stays hl (ht t (.head _)).1 (ht t (.head _)).2 h1 (fun x hx => ?_) (fun x hx=>hsp x (List.mem_append_left _ hx))
  have:=hsame _ (hlt x (List.mem_append_left _ hx))
  cases x with
  |cell b o=>exact World.cell?_of_block (w:=W) this
  |map b=>exact this
 |[],_::_,_,_,_,h,_,_=>h.elim
 |[],[],_::_,_,_,h,_,_=>h.elim
 |_::_,[],_,_,_,h,_,_=>h.elim
 |_::_,_::_,[],_,_,h,_,_=>h.elim
open Go.ChangeShapes Go.WideShapes Go.RowKit in
theorem h65 {G:G1} {f:FuncId} {fn:Func} {s:ChangeSpec} {apart fresh handsOn again:Bool} {args:Array Value} {ds gs:List (DataW H)} {before:List MemPlace} {as:List AV} {tb:TypeId}
  (hl:laidOutB P=true) (hp:∀ t,t∈fn.params.toList->P.readableRec t=true/\t<P.types.size) (hrt:fn.resultTypes = #[tb]) (hb:P.underlying tb=some .bool) (hvars:s.vars=[])
  (hs:s.fn H (ds++gs)={ results:=[.lit (.bool true)],args:=ds }) (hW:DataW.Whole enc P fn.params.toList s.vars apart W args.toList ds gs before)
  (hF:Fn P G f as [] (.bl true) []) (hG:GOK (d90 W) G) (hargs:Ly (d90 W) as args.toList) :
  Calls P f args W fun e W'=>∃ v,e = .returned v/\s.post enc P fn apart fresh handsOn again W args v W':=by
 have hc:=hF.2 (d90 W) (fun _ => .dead) W args.toList (l89 W) hG (fun _ h=>by cases h) (fun _ h=>by cases h) hargs
 rw [Array.toArray_toList] at hc
 refine hc.mono fun e W' => ?_
 rintro ⟨v,E',rfl,hst⟩
 have hv:v = .bool true:=Xb hst.val
 subst hv
 refine ⟨_,rfl,?_⟩
 have hsame:∀ r,r<W.heap.size->W'.heap[r]?=W.heap[r]?:=fun r hr=>hst.mem.same r hr fun _ _ h=>by cases h
 have hW':=hW
 obtain ⟨p,q,hA,hV,rfl,hz,hn⟩:=hW
 obtain ⟨rfl,rfl⟩:gs=[]/\q=[]:=by
  rw [hvars] at hV
  cases gs with
  |nil=>exact ⟨rfl,hV⟩
  |cons g r=>exact absurd hV (by intro h;cases h)
 rw [List.append_nil] at hW' hz hs
 have hlt:∀ x,x∈p->x.block<W.heap.size:=fun x hx=>by simpa using hW'.lt x hx
 have hargs':∀ sp:Nat->Bool,(∀ x∈p,sp x.block=true)->DataW.TrodAll enc P W' 0 sp true fn.params.toList args.toList ds p:=fun sp hsp=>c33 hl hsame hp hA hlt hsp
 have hres:∀ (b:Nat) (sp:Nat->Bool) (hd:Bool),DataW.TrodAll enc P W' b sp hd fn.resultTypes.toList ((Value.bool true).resultList fn.resultTypes.size) [.lit (.bool true)] []:=by
  intro b sp hd
  rw [hrt]
  exact ⟨[],[],shut_bool hb true,rfl,rfl⟩
 have hfz:∀ a:Addr,a.block<W.heap.size->W'.frozen? a=W.frozen? a:=fun a ha=>by simp only [World.frozen?,hsame _ ha]
 have hk:W.keptBut W' (· ∈ p):=by
  refine ⟨hst.mem.os,hst.mem.output,fun i hi => ?_⟩
  rw [hsame i hi]
  cases hw:W.heap[i]? with
  |none=>trivial
  |some o=>cases o<;>simp
 have hvv:DataW.TrodVars enc P W' (fun _=>true) s.vars [] []:=by rw [hvars];rfl
 have hold:∀ x∈p,(fun b=>decide (b<W.heap.size)) x.block=true:=fun x hx=>by simpa using hlt x hx
 refine ⟨ds,[],p,[],p,[],hW',by rw [List.append_nil,hs];exact hres _ _ _,by rw [List.append_nil,hs];exact hargs' _ hold,by rw [List.append_nil,hs,hvars];rfl,World.keptBut_mono (fun x hx=>⟨hx,.inr (.inl hx)⟩) hk,fun _ => ?_⟩
 refine ⟨ok_one (by rw [hrt]) rfl (okWide_bool_mk hb true),_,_,([]++p)++[],⟨[]++p,[],trodAll_append (hargs' _ (fun _ _=>rfl)) (hres _ _ _),hvv,rfl,?_,?_⟩,?_⟩
 ·intro b off hx
  have hx':MemPlace.cell b off∈p:=by simpa using hx
  rw [hfz _ (hlt _ hx')]
  exact hz b off hx'
 ·intro ha
  have:=hn ha
  simpa using this
 ·intro x hx _
  simpa using hx
theorem d10:Bnd (H:=H) (fun _=>True) maxLen:=⟨fun _ _ h=>h,fun _ _ _ h=>⟨h,fun _ _=>trivial⟩,fun _ _ _ _=>trivial⟩
end
end Go.Eng

namespace Go.Eng
theorem j5 {α β:Type} {o:Option α} {f:α->Option β} {b:β} (h:o.bind f=some b):∃ a,o=some a/\f a=some b:=Option.bind_eq_some_iff.1 h
theorem j43 {α:Type} {b:Bool} {x y z:α} (h:cond b x y=z) (hb:b=true):x=z:=by rw [hb] at h;exact h
theorem j44 {α:Type} {b:Bool} {x y z:α} (h:cond b x y=z) (hb:b=false):y=z:=by rw [hb] at h;exact h
theorem gd {α:Type} {p:Prop} [Decidable p] {x:Option α} {z:α} (h:(if p then x else none)=some z):p/\x=some z:=by
 split at h
 ·exact ⟨‹_›,h⟩
 ·cases h
theorem e8 {α:Type} {a b:α} (h:some a=some b):a=b:=Option.some.inj h
theorem i6 {α:Type} {p:Prop} {a:α} (h:(none:Option α)=some a):p:=nomatch h
def nm {α β:Type} (a:α) (f:α->β):β:=f a
def rw_ {α:Type} (dv:α->DV) (z:α) (l:List α):Nat->DV:=fun j=>dv (l.getD j z)
def lk {κ α:Type} [BEq κ] (k:κ):List (κ×α)->Option α
 |[]=>none
 |x::r=>match k==x.1 with
  |true=>some x.2
  |false=>lk k r
def st {κ α:Type} [BEq κ] (k:κ) (v:α):List (κ×α)->List (κ×α)
 |[]=>[(k,v)]
 |x::r=>match k==x.1 with
  |true=>(k,v)::r
  |false=>x::st k v r
section
variable {κ α:Type} [BEq κ] {kf:κ->DV} {vf:α->DV}
end
theorem u9 (k:IntKind) (l:List Int):h54 (.dv (.roI k l)) (.dv (.roI k ((l.drop 0).take l.length))) := .inl (by simp)
theorem i7 (l:List Int):l=(l.drop 0).take l.length:=by simp
theorem C8 (l:List Int) (n:Nat):l.take n=(l.drop 0).take n:=rfl
theorem o5 (l:List Int):l.length=((l.drop 0).take l.length).length:=by simp
theorem F2 (l:List Int) (n:Nat):(l.take n).length=((l.drop 0).take n).length:=rfl
theorem m5 {a a' b b':List Int} (h:a=a') (h':b=b'):a++b=a'++b':=by rw [h,h']
theorem r7 {a b b':List Int} (h:b.length=b'.length):(a++b).length=a.length+b'.length:=by rw [List.length_append,h]
theorem Dw {l b b':List Int} {n:Nat} (hg:n≤l.length) (h:b.length=b'.length):(l.take n++b).length=n+b'.length:=by rw [List.length_append,List.length_take,h,Nat.min_eq_left hg]
theorem i66 {l b b':List Int} {o n:Nat} (hg:o+n≤l.length) (h:b.length=b'.length):((l.drop o).take n++b).length=n+b'.length:=by rw [List.length_append,List.length_take,List.length_drop,h,Nat.min_eq_left (by omega)]
theorem h67 {n m:Nat} {c d:Int} (h:n=m) (hg:(n:Int)*c≤d):(m:Int)*c≤d:=h▸hg
theorem j9 {n m:Nat} {a c d:Int} (h:n=m) (hg:(a+n)*c≤d):(a+m)*c≤d:=h▸hg
def f9:Nat:=18446744073709551616
theorem Fn.bodyE {P:Program} {G:G1} {T:Tr} (hT:v5 P T) (hm:P.follows .mixedOrders=true) (hG0:Ja G) {f:FuncId} {fn:Func} {c:Code} (hf:P.funcs[f]?=some fn) (hname:(fn.name == "runtime.NumGoroutine")=false) (hb:fn.body=some c)
  (τ:List (Nat×Nat)) (as0:List AV) (bs0:List j6) (news:List Nat) (r0:AV) (ws:List j6) {args:List AV} {S wr:List (Nat×j6)} {r:AV}
  (ha:as0.map (AV.ren τ)=args) (hS:Ab τ (List.range bs0.length) bs0=S) (hr:r0.ren τ=r) (hw:Ab τ (List.range bs0.length++news) ws=wr) (hchk:c21 as0 bs0 news r0 ws=true)
  (hk:τ.map Prod.fst=List.range bs0.length++news) (hn:(τ.map Prod.snd).Nodup) (dp:Nat)
  (h:Wv as0 fn.ntmps fun ts=>Ri P G T (itR P G T dp) bs0.length noY c false [] none (g56 T fn fun r bs=>r=r0/\Jb bs (List.range bs0.length++news) ws) ts bs0) :
  Fn P G f args S r wr:=by
 subst ha;subst hS;subst hr;subst hw
 rw [c23] at h
 exact Fn.bodyN hT hm hG0 hf hname hb τ as0 bs0 news r0 ws hchk hk hn dp h
end Go.Eng

namespace Go.Eng
def okA (k:IntKind) (n:Nat) (l:List Int):Prop:=l.length=n/\∀ y,y∈l->k.min≤y/\y≤k.max
def okB (k:IntKind) (N:Nat) (l:List Int):Prop:=l.length≤N/\∀ y,y∈l->k.min≤y/\y≤k.max
def f22 (ep:TypeId) (er:Nat->TypeId×Value) (I:List Nat) (fx:Nat->Option Obj):Prop :=
 (∀ i,i∈I->∃ a c t,er i=(ep,.pointer (some a))/\fx a.block=some (.cells c t (0,0)))/\∀ i j,i∈I->j∈I->i≠j->er i≠er j
def isM (I:List Nat) (a b:Nat):Option Bool:=if a∈I/\b∈I then some (decide (a=b)) else none
theorem i69 {I:List Nat} {a b:Nat} {r:Bool} (h:isM I a b=some r):a∈I/\b∈I/\decide (a=b)=r:=by
 unfold isM at h
 split at h
 ·rename_i hab;exact ⟨hab.1,hab.2,Option.some.inj h⟩
 ·cases h
theorem d91 {P:Program} {f:FuncId} {fn:Func} {c:Code} (hf:P.funcs[f]?=some fn) (hname:(fn.name == "runtime.NumGoroutine")=false) (hb:fn.body=some c):a61 P f:=fun args w=>by
 have hname':fn.name ≠ "runtime.NumGoroutine" := by simpa using hname
 simp [callFunc,hf,hname',hb]
section
variable {P:Program} {W:World}
theorem Ux {nm:String} {ep es:TypeId} (h1:∀ u,P.typeName? 3 u=some nm->u=ep) (hep:P.underlying ep=some (.pointer es)) (hes:P.cellsOf es=1):∀ {l:List (String×DataW Unit)} {ps:List MemPlace},DataW.LaidVars P W l ps->(∀ b off,MemPlace.cell b off∈ps->∀ u v,W.cell? ⟨b,off,none⟩=some (.iface u v)->Value.okWide P W .any 0 u v)->∀ {n:String} {d:DataW Unit},(n,DataW.iface nm (.ptr d))∈l->∀ {g:Nat} {ti:TypeId} {ms:Array (String×TypeId)},
  P.globalNamed n=some g->(P.globals[g]?).map (·.type)=some ti->P.underlying ti=some (.interface ms)->∃ a,W.cell? ⟨g,0,none⟩=some (.iface ep (.pointer (some a)))/\MemPlace.cell a.block a.off∈ps/\a.spot=none
 |[],_,_,_,_,_,hm,_,_,_,_,_,_=>by cases hm
 |(n',d')::r,_,h,hok,n,d,hm,g,ti,ms,hg,hty,hu=>by
  obtain ⟨g',t,cs,fuel,p,q,k1,k2,k3,k4,k5,rfl⟩:=h
  rcases List.mem_cons.1 hm with e|hm
  ·cases e
   obtain rfl:=Option.some.inj (hg.symm.trans k1)
   obtain rfl:=Option.some.inj (hty.symm.trans k2)
   obtain ⟨f2,u,v,hcs,hn,ht⟩:=iface_of_trod hu k4
   obtain rfl:=h1 u hn
   obtain ⟨f3,a,cs',q',hv,hc,_,rfl⟩:=ptr_of_trod hep ht
   have hcs':cs = #[.iface u v]:=by rw [←Array.toList_inj,hcs]
   subst hcs'
   have hcell:W.cell? ⟨g,0,none⟩=some (.iface u v):=by simpa using World.var?_cell k1 k3 0
   have hw:=hok g 0 (by simp [MemPlace.row]) u v hcell
   have hvv:v = .pointer (some a):=by
    have key:∀ v:Value,(∀ q,v ≠ .agg q)->v.cells.toList=[.pointer (some a)]->v = .pointer (some a):=fun v h e=>by
     have:v.cells = #[v]:=by cases v<;>first|rfl|exact absurd rfl (h _)
     rw [this] at e;simpa using e
    refine key v (fun q e => ?_) hv
    subst e
    unfold Value.okWide Cell.okWide Cell.ok at hw
    simp [hep] at hw
   subst hvv
   refine ⟨a,hcell,?_,c32 hc (by rw [hes];exact Nat.one_pos)⟩
   rw [hes]
   simp [MemPlace.row]
  ·obtain ⟨a,e1,e2,e3⟩:=Ux h1 hep hes k5 (fun b off hb=>hok b off (List.mem_append_right _ hb)) hm hg hty hu
   exact ⟨a,e1,List.mem_append_right _ e2,e3⟩
theorem a89 {nm:String} {ep es:TypeId} (h1:∀ u,P.typeName? 3 u=some nm->u=ep) (hep:P.underlying ep=some (.pointer es)) (hes:P.cellsOf es=1):∀ {l:List (String×DataW Unit)} {ps:List MemPlace},DataW.LaidVars P W l ps->ps.Nodup->(∀ b off,MemPlace.cell b off∈ps->∀ u v,W.cell? ⟨b,off,none⟩=some (.iface u v)->Value.okWide P W .any 0 u v)->∀ {n n':String} {d d':DataW Unit},n≠n'->(n,DataW.iface nm (.ptr d))∈l->(n',DataW.iface nm (.ptr d'))∈l->∀ {g g':Nat} {ti ti':TypeId} {ms ms':Array (String×TypeId)},
  P.globalNamed n=some g->(P.globals[g]?).map (·.type)=some ti->P.underlying ti=some (.interface ms)->P.globalNamed n'=some g'->(P.globals[g']?).map (·.type)=some ti'->P.underlying ti'=some (.interface ms')->∀ a a',W.cell? ⟨g,0,none⟩=some (.iface ep (.pointer (some a)))->W.cell? ⟨g',0,none⟩=some (.iface ep (.pointer (some a')))->a≠a'
 |[],_,_,_,_,_,_,_,_,_,hm,_,_,_,_,_,_,_,_,_,_,_,_,_,_,_,_,_=>by cases hm
 |(m,dm)::r,_,h,hn,hok,n,n',d,d',hne,hm,hm',g,g',ti,ti',ms,ms',hg,hty,hu,hg',hty',hu',a,a',hc,hc'=>by
  have hall:=h
  obtain ⟨g0,t,cs,fuel,p,q,k1,k2,k3,k4,k5,rfl⟩:=h
  -- the head's place and the rest's
  have two:∀ {n n':String} {d d':DataW Unit} {g g':Nat} {ti ti':TypeId} {ms ms':Array (String×TypeId)},(n,DataW.iface nm (.ptr d))=(m,dm)->(n',DataW.iface nm (.ptr d'))∈r->P.globalNamed n=some g->(P.globals[g]?).map (·.type)=some ti->P.underlying ti=some (.interface ms)->P.globalNamed n'=some g'->(P.globals[g']?).map (·.type)=some ti'->P.underlying ti'=some (.interface ms')->∀ a a',W.cell? ⟨g,0,none⟩=some (.iface ep (.pointer (some a)))->W.cell? ⟨g',0,none⟩=some (.iface ep (.pointer (some a')))->a≠a':=by
   intro n n' d d' g g' ti ti' ms ms' e hr hg hty hu hg' hty' hu' a a' hc hc' ea
   subst ea
   cases e
   have one:DataW.LaidVars P W [(m,DataW.iface nm (.ptr d))] (MemPlace.row ⟨g0,0,none⟩ cs.size++p++[]):=⟨g0,t,cs,fuel,p,[],k1,k2,k3,k4,rfl,rfl⟩
   rw [List.append_nil] at one
   obtain ⟨a1,e1,e2,_⟩:=Ux h1 hep hes one (fun b off hb=>hok b off (List.mem_append_left _ hb)) (List.mem_singleton.2 rfl) hg hty hu
   obtain ⟨a2,e3,e4,_⟩:=Ux h1 hep hes k5 (fun b off hb=>hok b off (List.mem_append_right _ hb)) hr hg' hty' hu'
   rw [hc] at e1;rw [hc'] at e3
   injection e1 with e1;injection e1 with _ e1;injection e1 with e1;injection e1 with e1
   injection e3 with e3;injection e3 with _ e3;injection e3 with e3;injection e3 with e3
   subst e1;subst e3
   exact (List.nodup_append.1 hn).2.2 _ e2 _ e4 rfl
  rcases List.mem_cons.1 hm with e|hm
  ·rcases List.mem_cons.1 hm' with e'|hm'
   ·rw [←e'] at e;injection e with e;exact absurd e hne
   ·exact two e hm' hg hty hu hg' hty' hu' a a' hc hc'
  ·rcases List.mem_cons.1 hm' with e'|hm'
   ·exact fun ea=>two e' hm hg' hty' hu' hg hty hu a' a hc' hc ea.symm
   ·exact a89 h1 hep hes k5 (List.nodup_append.1 hn).2.1 (fun b off hb=>hok b off (List.mem_append_right _ hb)) hne hm hm' hg hty hu hg' hty' hu' a a' hc hc'
theorem g64 {nm0:String} {ep es:TypeId} (h1:∀ u,P.typeName? 3 u=some nm0->u=ep) (hep:P.underlying ep=some (.pointer es)) (hes:P.cellsOf es=1) {l:List (String×DataW Unit)} (h:laidMet P l W) {I:List Nat} {nm:Nat->String} {gl:Nat->Nat}
  (hI:∀ i,i∈I->(∃ d,(nm i,DataW.iface nm0 (.ptr d))∈l)/\P.globalNamed (nm i)=some (gl i)/\∃ ti ms,(P.globals[gl i]?).map (·.type)=some ti/\P.underlying ti=some (.interface ms))
  (hinj:∀ i,i∈I->∀ j,j∈I->i≠j->nm i≠nm j):∃ er,f22 ep er I (d90 W).fx/\∀ i,i∈I->W.cell? ⟨gl i,0,none⟩=some (.iface (er i).1 (er i).2):=by
 obtain ⟨ps,hv,hn,hok⟩:=h
 have hok':∀ b off,MemPlace.cell b off∈ps->∀ u v,W.cell? ⟨b,off,none⟩=some (.iface u v)->Value.okWide P W .any 0 u v:=fun b off hb=>(hok b off hb).2
 have each:∀ i,i∈I->∃ a,W.cell? ⟨gl i,0,none⟩=some (.iface ep (.pointer (some a)))/\MemPlace.cell a.block a.off∈ps/\a.spot=none:=fun i hi=>by
  obtain ⟨⟨d,hd⟩,hg,ti,ms,ht,hu⟩:=hI i hi
  exact Ux h1 hep hes hv hok' hd hg ht hu
 let er:Nat->TypeId×Value:=fun i=>if hi:i∈I then (ep,.pointer (some (Classical.choose (each i hi)))) else (0,.nilIface)
 have her:∀ i (hi:i∈I),er i=(ep,.pointer (some (Classical.choose (each i hi)))):=fun i hi=>dif_pos hi
 refine ⟨er,⟨fun i hi => ?_,fun i j hi hj hij e => ?_⟩,fun i hi => ?_⟩
 ·obtain ⟨_,h2,_⟩:=Classical.choose_spec (each i hi)
  obtain ⟨⟨c,t,hc⟩,_⟩:=hok _ _ h2
  exact ⟨_,c,t,her i hi,hc⟩
 ·rw [her i hi,her j hj] at e
  injection e with _ e;injection e with e;injection e with e
  obtain ⟨⟨d,hd⟩,hg,ti,ms,ht,hu⟩:=hI i hi
  obtain ⟨⟨d',hd'⟩,hg',ti',ms',ht',hu'⟩:=hI j hj
  exact a89 h1 hep hes hv hn hok' (hinj i hi j hj hij) hd hd' hg ht hu hg' ht' hu' _ _ (Classical.choose_spec (each i hi)).1 (Classical.choose_spec (each j hj)).1 e
 ·rw [her i hi];exact (Classical.choose_spec (each i hi)).1
theorem Xg:∀ {l:List (String×DataW Unit)} {ps:List MemPlace},DataW.LaidVars P W l ps->∀ {n:String} {k:IntKind} {ns:List Int},(n,DataW.agg (ns.map fun x=>DataW.lit (.int k x)))∈l->∀ {g:Nat} {ti e:TypeId} {N:Nat},
  P.globalNamed n=some g->(P.globals[g]?).map (·.type)=some ti->P.underlying ti=some (.array N e)->P.underlying e=some (.int k)->P.cellsOf e=1->P.cellsOf ti=ns.length->N=ns.length->∀ j (h:j<ns.length),W.cell? ⟨g,j,none⟩=some (.int k ns[j])
 |[],_,_,_,_,_,hm,_,_,_,_,_,_,_,_,_,_,_=>by cases hm
 |(n',d')::r,_,h,n,k,ns,hm,g,ti,e,N,hg,hty,hu,he,hce,hct,hN=>by
  obtain ⟨g',t,cs,fuel,p,q,h1,h2,h3,h4,h5,_⟩:=h
  rcases List.mem_cons.1 hm with e'|hm
  ·cases e'
   obtain rfl:=Option.some.inj (hg.symm.trans h1)
   obtain rfl:=Option.some.inj (hty.symm.trans h2)
   obtain ⟨xs,m,_,hx,hl,hxl,hel⟩:=DataW.trod_array hu h4
   intro j hj
   have hx1:xs.map (·.1)=ns.map fun x=>DataW.lit (.int k x):=by
    injection hx with hx _
    injection hx with hx
    exact hx.symm
   have hjx:j<xs.length:=by omega
   have hj1:=hel j (by omega)
   rw [List.getElem?_eq_getElem hjx,hce,Nat.mul_one] at hj1
   obtain ⟨v,hv1,hv2,_⟩:=DataW.trod_int he hj1
   have hfst:(xs[j]).1=DataW.lit (.int k ns[j]):=by
    have:(xs.map (·.1))[j]'(by simpa using hjx)=(ns.map fun x=>DataW.lit (.int k x))[j]'(by simpa using hj):=by simp only [hx1]
    simpa using this
   rw [hv2] at hfst
   have hvn:v=ns[j]:=by
    injection hfst with hfst;injection hfst
   subst hvn
   have hjc:j<cs.size:=by
    have:cs.toList.length=cs.size:=Array.length_toList
    omega
   have hcell:=World.var?_cell h1 h3 j
   rw [hcell,←Array.getElem?_toList]
   have:(cs.toList.drop j).take 1=[cs.toList[j]'(by simpa using hjc)]:=by
    rw [List.drop_eq_getElem_cons (by simpa using hjc)];rfl
   rw [this] at hv1
   rw [List.getElem?_eq_getElem (by simpa using hjc)]
   exact congrArg some (List.cons.inj hv1).1
  ·exact Xg h5 hm hg hty hu he hce hct hN
theorem a90 {W:World} {g N:Nat} {k:IntKind} {ns:List Int} (hN:ns.length=N) (h:∀ j (h:j<ns.length),W.cell? ⟨g,j,none⟩=some (.int k ns[j])):o0 (d90 W) (.rp (.ints k N ns)) (.pointer (some ⟨g,0,none⟩)) :=
 .one (.rp g 0 (.ints k N ns hN) (fun j hj=>by
  have hj':j<ns.length:=by simpa using hj
  have:=h j hj'
  rw [Nat.zero_add,List.getElem_map]
  exact this)) rfl
theorem G6 {W:World} {g:Nat} {u:TypeId} {v:Value} (hc:W.cell? ⟨g,0,none⟩=some (.iface u v)):o0 (d90 W) (.rp (.sc (.iface u v))) (.pointer (some ⟨g,0,none⟩)) :=
 .one (.rp g 0 (.sc (.iface u v) trivial) (fun j hj=>by
  obtain rfl:j=0:=by simpa using hj
  exact hc)) rfl
end
end Go.Eng

namespace Go.Eng
theorem dc {p q:Prop} [Decidable p] (h:q) (hp:p:=by decide):p/\q:=⟨hp,h⟩
theorem m8 {α:Type} {p q:Prop} [Decidable p] {x:Option α} {z:α} (h:(if p then x else none)=some z) (k:p->x=some z->q):p/\q:=by
 obtain ⟨a,b⟩:=gd h
 exact ⟨a,k a b⟩
theorem v8 {α:Type} {b:Bool} {x y z:α} {A B:Prop} (h:cond b x y=z) (k1:b=true->x=z->A) (k2:b=false->y=z->B):(b=true->A)/\(b=false->B) :=
 ⟨fun e=>k1 e (j43 h e),fun e=>k2 e (j44 h e)⟩
theorem m7 {α β:Type} {a:α} {f:α->β} {z:β} {P:Prop} (h:nm a f=z) (k:let x:=a;f x=z->P):P:=k h
theorem mt {P:Prop} (h:P:=by repeat (first|exact rfl|exact trivial|refine And.intro ?_ ?_)):P:=h
def fj {α:Type} (u:α->List (Nat×AV)×List (Nat×j6)) (r:α):Fam {p:α // p=r}:=⟨fun p=>(u p.1).1,fun p=>(u p.1).2,fun _=>0⟩
def fl {β:Type} (u:β->Prop×List (Nat×AV)×List (Nat×j6)×Nat):Fam {p:β // (u p).1}:=⟨fun p=>(u p.1).2.1,fun p=>(u p.1).2.2.1,fun p=>(u p.1).2.2.2⟩
section
variable (P:Program) (G:G1)
def FnB (f:FuncId) (as0:List AV) (bs0:List j6) (news:List Nat) (r0:AV) (ws:List j6):Prop :=
 ∀ ns:List Nat,ns.Nodup->ns.length=(List.range bs0.length++news).length ->
  Fn P G f (as0.map (AV.ren ((List.range bs0.length++news).zip ns))) (Ab ((List.range bs0.length++news).zip ns) (List.range bs0.length) bs0) (r0.ren ((List.range bs0.length++news).zip ns)) (Ab ((List.range bs0.length++news).zip ns) (List.range bs0.length++news) ws)
end
section
variable {P:Program} {G:G1}
theorem FnB.of {T:Tr} (hT:v5 P T) (hm:P.follows .mixedOrders=true) (hG0:Ja G) {f:FuncId} {fn:Func} {c:Code} (hf:P.funcs[f]?=some fn) (hname:(fn.name == "runtime.NumGoroutine")=false) (hb:fn.body=some c)
  {as0:List AV} {bs0:List j6} {news:List Nat} {r0:AV} {ws:List j6} (hchk:c21 as0 bs0 news r0 ws=true) (dp:Nat)
  (h:Wv as0 fn.ntmps fun ts=>Ri P G T (itR P G T dp) bs0.length noY c false [] none (g56 T fn fun r bs=>r=r0/\Jb bs (List.range bs0.length++news) ws) ts bs0) :
  FnB P G f as0 bs0 news r0 ws:=fun ns hn hl =>
 Fn.bodyE hT hm hG0 hf hname hb ((List.range bs0.length++news).zip ns) as0 bs0 news r0 ws rfl rfl rfl rfl hchk (List.map_fst_zip (Nat.le_of_eq hl.symm)) (by rw [List.map_snd_zip (Nat.le_of_eq hl)];exact hn) dp h
theorem FnB.plain {f:FuncId} {as0:List AV} {r0:AV} (h:FnB P G f as0 [] [] r0 []) (ha:as0.map (AV.ren [])=as0:=by rfl) (hr:r0.ren []=r0:=by rfl):Fn P G f as0 [] r0 []:=by
 have e:=h [] .nil rfl
 rw [←ha,←hr]
 exact e
theorem cl {f:FuncId} {as0:List AV} {bs0 ws:List j6} {news:List Nat} {r0:AV} {args:List AV} {H:Nat->j6} {Q:List Bool->List (Nat×j6)->AV->List (Nat×j6)->Prop} (m:List Bool) (ns:List Nat) (hc:FnB P G f as0 bs0 news r0 ws)
  (k:Q m (Ab ((List.range bs0.length++news).zip ns) (List.range bs0.length) bs0) (r0.ren ((List.range bs0.length++news).zip ns)) (Ab ((List.range bs0.length++news).zip ns) (List.range bs0.length++news) ws))
  (hv:a06 (as0.map (AV.ren ((List.range bs0.length++news).zip ns))) (Rj H m args):=by repeat (first|exact trivial|refine And.intro (.inl rfl) ?_))
  (hs:SOK H (Jd m args) (Ab ((List.range bs0.length++news).zip ns) (List.range bs0.length) bs0):=by repeat (first|exact rfl|exact trivial|refine And.intro ?_ ?_))
  (hn:ns.Nodup:=by decide) (hl:ns.length=(List.range bs0.length++news).length:=by rfl)
  (hw:i59 H (Ab ((List.range bs0.length++news).zip ns) (List.range bs0.length) bs0) (Jd m args) (r0.ren ((List.range bs0.length++news).zip ns)) (Ab ((List.range bs0.length++news).zip ns) (List.range bs0.length++news) ws)=true:=by rfl) :
  ∃ m S r wr,h55 P G f args H m S r wr/\Q m S r wr :=
 ⟨m,_,_,_,⟨⟨_,hc ns hn hl,hv⟩,hs,hw⟩,k⟩
end
end Go.Eng
